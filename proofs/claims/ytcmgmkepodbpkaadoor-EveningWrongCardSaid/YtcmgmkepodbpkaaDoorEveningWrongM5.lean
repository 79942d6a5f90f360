/- Lemmas for the proof. -/
import Derived.Test.YtcmgmkepodbpkaaDoorEveningWrongM1
import Derived.Test.YtcmgmkepodbpkaaDoorEveningWrongM2
import Derived.Test.YtcmgmkepodbpkaaDoorEveningWrongM3
import Derived.Test.YtcmgmkepodbpkaaDoorEveningWrongM4
set_option maxHeartbeats 4000000
set_option maxRecDepth 100000
namespace Go.Proofs.YtcmgmkepodbpkaaDoor
open Go.RowKit
/- trestle/evening.shift -/
noncomputable def Ar:Env:=E0
theorem Ct:EnvOk Ar:=BB
noncomputable def DZ:Code:=BK Tryd.f112
def Gq (x1:Int) (x3:Int) (x4:Int) (c7:(List Int)) (v9:Int):Option (((List Int))) :=
 if (v9 != x3)=true then
 (Bd x1 c7 x3 v9).bind fun _v14 =>
 (idx c7 (wr .i64 ((wr .i64 (x3 * x1)) + v9))).bind fun v17 =>
 (Bd x1 (c7.set ((wr .i64 ((wr .i64 (x3 * x1)) + v9)).toNat) (wr .i64 (v17 - 1))) v9 x3).bind fun _v23 =>
 (idx (c7.set ((wr .i64 ((wr .i64 (x3 * x1)) + v9)).toNat) (wr .i64 (v17 - 1))) (wr .i64 ((wr .i64 (v9 * x1)) + x3))).bind fun v26 =>
 (Bd x1 ((c7.set ((wr .i64 ((wr .i64 (x3 * x1)) + v9)).toNat) (wr .i64 (v17 - 1))).set ((wr .i64 ((wr .i64 (v9 * x1)) + x3)).toNat) (wr .i64 (v26 - 1))) x4 v9).bind fun _v32 =>
 (idx ((c7.set ((wr .i64 ((wr .i64 (x3 * x1)) + v9)).toNat) (wr .i64 (v17 - 1))).set ((wr .i64 ((wr .i64 (v9 * x1)) + x3)).toNat) (wr .i64 (v26 - 1))) (wr .i64 ((wr .i64 (x4 * x1)) + v9))).bind fun v35 =>
 (Bd x1 (((c7.set ((wr .i64 ((wr .i64 (x3 * x1)) + v9)).toNat) (wr .i64 (v17 - 1))).set ((wr .i64 ((wr .i64 (v9 * x1)) + x3)).toNat) (wr .i64 (v26 - 1))).set ((wr .i64 ((wr .i64 (x4 * x1)) + v9)).toNat) (wr .i64 (v35 + 1))) v9 x4).bind fun _v41 =>
 (idx (((c7.set ((wr .i64 ((wr .i64 (x3 * x1)) + v9)).toNat) (wr .i64 (v17 - 1))).set ((wr .i64 ((wr .i64 (v9 * x1)) + x3)).toNat) (wr .i64 (v26 - 1))).set ((wr .i64 ((wr .i64 (x4 * x1)) + v9)).toNat) (wr .i64 (v35 + 1))) (wr .i64 ((wr .i64 (v9 * x1)) + x4))).bind fun v44 =>
 some ((((c7.set ((wr .i64 ((wr .i64 (x3 * x1)) + v9)).toNat) (wr .i64 (v17 - 1))).set ((wr .i64 ((wr .i64 (v9 * x1)) + x3)).toNat) (wr .i64 (v26 - 1))).set ((wr .i64 ((wr .i64 (x4 * x1)) + v9)).toNat) (wr .i64 (v35 + 1))).set ((wr .i64 ((wr .i64 (v9 * x1)) + x4)).toNat) (wr .i64 (v44 + 1)))
 else
 some c7
def FQ (x0:(List Int)) (x1:Int) (x3:Int) (x4:Int):Nat->Int->(List Int)->Option (((List Int)))
 | 0,_,_=>none
 | f + 1,c6,c7 =>
  if (decide (c6 < (x0.length:Int)))=true then
  (idx x0 c6).bind fun v9 =>
  (Gq x1 x3 x4 c7 v9).bind fun r51 =>
  FQ x0 x1 x3 x4 f (wr .i64 (c6 + 1)) r51
  else
  some c7
def Gp (x0:(List Int)) (x1:Int) (x2:(List Int)) (x3:Int) (x4:Int):Option ((List Int)) :=
 (FQ x0 x1 x3 x4 100000 0 x2).bind fun r57 =>
 some r57
theorem KX {L:List Asn}{hp:Hp}(x1:Int) (x3:Int) (x4:Int) (c7:(List Int)) (v9:Int) (u0:AV) (x0:(List Int)) (u1:AV) (e1:AV) (c6:Int) (r:((List Int))) (h:Gq x1 x3 x4 c7 v9=some r) (hT:T hp ((own_ (ocL 1 3 (ocV cdI)) u0 x0)::(cel e1 2 94 (.ag [.v (.int .i64 x1),u1]))::(own_ (ocL 1 3 (ocV cdI)) u1 c7)::L)):SemY Ar ⟨none,false⟩ (pc DZ [1,1,0,0,1,1,0,0,1,1]) ⟨Fr 52 [(2,.v (.int .i64 x3)),(3,.v (.int .i64 x4)),(5,e1),(9,.v (.int .i64 v9)),(10,u0),(11,.v (.int .i64 (x0.length:Int))),(12,.v (.int .i64 c6)),(18,.v (.bool (v9 != x3)))],hp⟩ (fun e s=>e = .normal/\∃ s2,(∃ (h':Hp),T h' ((cel e1 2 94 (.ag [.v (.int .i64 x1),u1]))::(own_ (ocL 1 3 (ocV cdI)) u1 r)::(own_ (ocL 1 3 (ocV cdI)) u0 x0)::L)/\s2=⟨Fr 52 [(2,.v (.int .i64 x3)),(3,.v (.int .i64 x4)),(5,e1),(10,u0),(11,.v (.int .i64 (x0.length:Int))),(12,.v (.int .i64 c6))],h'⟩)/\WkY Ar s s2):=by
 have he:=Ct
 unfold Gq at h;refine Ab (b:=(v9 != x3)) kr (fun hb11=>?_) (fun hb11=>?_)
 ·rw [if_pos hb11] at h
  refine AD ?_;refine AC ?_
  have hT12:=(hT.front 1 rfl)
  refine AG he 0 rfl (Am (AA rfl) rfl (A0 (p:=e1) kr (Ka (y:= .ag [.v (.int .i64 x1),u1]) (m:=2) (g:=true) hT12 kr kr kr))) ?_;refine AH he 2 ?_;obtain ⟨v14,hv14,h⟩:=OB h;obtain ⟨v17,hv17,h⟩:=OB h
  have hT13:=(hT12.front 2 rfl)
  refine CO (E:=Ar) (e:=A1) rfl rfl BQ rfl rfl (fid:=73) (caps:=[]) (xs:=[.ag [.v (.int .i64 x1),u1],.v (.int .i64 x3),.v (.int .i64 v9)]) (fn:=Tryd.f73) (c:=Be) (Out:=fun v h'=>v=eAt u1 ((wr .i64 ((wr .i64 (x3 * x1)) + v9)).toNat)/\T h' ((own_ (ocL 1 3 (ocV cdI)) u1 c7)::(cel e1 2 94 (.ag [.v (.int .i64 x1),u1]))::(own_ (ocL 1 3 (ocV cdI)) u0 x0)::L)) rfl (AA rfl) kr kr kr kr (by show 3<=16; decide) (CE x1 u1 c7 x3 v9 _ hv14 hT13) ?_;rintro xx hp15 ⟨hqhp15,hT16⟩; subst xx;refine AG he 0 rfl (Am (AA rfl) rfl (JP (Ke hT16 (AW hv17).2) kr)) ?_;refine AG he 0 rfl (Am (AA rfl) rfl (A0 (p:=eAt u1 ((wr .i64 ((wr .i64 (x3 * x1)) + v9)).toNat)) kr (Kc (y:= .v (.int .i64 v17)) (m:=1) (g:=false) hT16 (AW hv17).2 kr kr kr))) ?_;refine AH he 1 ?_;refine AG he 0 rfl (Am (AA rfl) rfl (JP (Ke hT16 (AW hv17).2) kr)) ?_;obtain ⟨hp18,hs19,hT20⟩:=Ic (P:=Tryd.prog) (ty:=3) (y:= .v (.int .i64 (wr .i64 (v17 - 1)))) (v':=(wr .i64 (v17 - 1))) hT16 (AW hv17).2 kr kr kr;refine RunL.store he (y:=eAt u1 ((wr .i64 ((wr .i64 (x3 * x1)) + v9)).toNat)) (z:= .v (.int .i64 (wr .i64 (v17 - 1)))) rfl (AA rfl) kr kr hs19 ?_
  let p1:Nat×AV:=(12,.v (.int .i64 c6))
  let p2:Nat×AV:=(11,.v (.int .i64 (x0.length:Int)))
  let p3:Nat×AV:=(9,.v (.int .i64 v9))
  let p4:Nat×AV:=(3,.v (.int .i64 x4))
  let p5:Nat×AV:=(2,.v (.int .i64 x3))
  refine AL rfl (SemY.fr (l':=[p5,p4,(5,e1),p3,(10,u0),p2,p1]) kr ?_);refine AD ?_;refine AC ?_
  have hT21:=(hT20.front 1 rfl)
  refine AG he 0 rfl (Am (AA rfl) rfl (A0 (p:=e1) kr (Ka (y:= .ag [.v (.int .i64 x1),u1]) (m:=2) (g:=true) hT21 kr kr kr))) ?_;refine AH he 2 ?_;obtain ⟨v23,hv23,h⟩:=OB h;obtain ⟨v26,hv26,h⟩:=OB h
  have hT22:=(hT21.front 1 rfl)
  refine CO (E:=Ar) (e:=A1) rfl rfl BQ rfl rfl (fid:=73) (caps:=[]) (xs:=[.ag [.v (.int .i64 x1),u1],.v (.int .i64 v9),.v (.int .i64 x3)]) (fn:=Tryd.f73) (c:=Be) (Out:=fun v h'=>v=eAt u1 ((wr .i64 ((wr .i64 (v9 * x1)) + x3)).toNat)/\T h' ((own_ (ocL 1 3 (ocV cdI)) u1 (c7.set ((wr .i64 ((wr .i64 (x3 * x1)) + v9)).toNat) (wr .i64 (v17 - 1))))::(cel e1 2 94 (.ag [.v (.int .i64 x1),u1]))::(own_ (ocL 1 3 (ocV cdI)) u0 x0)::L)) rfl (AA rfl) kr kr kr kr (by show 3<=16; decide) (CE x1 u1 (c7.set ((wr .i64 ((wr .i64 (x3 * x1)) + v9)).toNat) (wr .i64 (v17 - 1))) v9 x3 _ hv23 hT22) ?_;rintro xx hp24 ⟨hqhp24,hT25⟩; subst xx;refine AG he 0 rfl (Am (AA rfl) rfl (JP (Ke hT25 (AW hv26).2) kr)) ?_;refine AG he 0 rfl (Am (AA rfl) rfl (A0 (p:=eAt u1 ((wr .i64 ((wr .i64 (v9 * x1)) + x3)).toNat)) kr (Kc (y:= .v (.int .i64 v26)) (m:=1) (g:=false) hT25 (AW hv26).2 kr kr kr))) ?_;refine AH he 1 ?_;refine AG he 0 rfl (Am (AA rfl) rfl (JP (Ke hT25 (AW hv26).2) kr)) ?_;obtain ⟨hp27,hs28,hT29⟩:=Ic (P:=Tryd.prog) (ty:=3) (y:= .v (.int .i64 (wr .i64 (v26 - 1)))) (v':=(wr .i64 (v26 - 1))) hT25 (AW hv26).2 kr kr kr;refine RunL.store he (y:=eAt u1 ((wr .i64 ((wr .i64 (v9 * x1)) + x3)).toNat)) (z:= .v (.int .i64 (wr .i64 (v26 - 1)))) rfl (AA rfl) kr kr hs28 ?_;refine AL rfl (SemY.fr (l':=[p5,p4,(5,e1),p3,(10,u0),p2,p1]) kr ?_);refine AD ?_;refine AC ?_
  have hT30:=(hT29.front 1 rfl)
  refine AG he 0 rfl (Am (AA rfl) rfl (A0 (p:=e1) kr (Ka (y:= .ag [.v (.int .i64 x1),u1]) (m:=2) (g:=true) hT30 kr kr kr))) ?_;refine AH he 2 ?_;obtain ⟨v32,hv32,h⟩:=OB h;obtain ⟨v35,hv35,h⟩:=OB h
  have hT31:=(hT30.front 1 rfl)
  refine CO (E:=Ar) (e:=A1) rfl rfl BQ rfl rfl (fid:=73) (caps:=[]) (xs:=[.ag [.v (.int .i64 x1),u1],.v (.int .i64 x4),.v (.int .i64 v9)]) (fn:=Tryd.f73) (c:=Be) (Out:=fun v h'=>v=eAt u1 ((wr .i64 ((wr .i64 (x4 * x1)) + v9)).toNat)/\T h' ((own_ (ocL 1 3 (ocV cdI)) u1 ((c7.set ((wr .i64 ((wr .i64 (x3 * x1)) + v9)).toNat) (wr .i64 (v17 - 1))).set ((wr .i64 ((wr .i64 (v9 * x1)) + x3)).toNat) (wr .i64 (v26 - 1))))::(cel e1 2 94 (.ag [.v (.int .i64 x1),u1]))::(own_ (ocL 1 3 (ocV cdI)) u0 x0)::L)) rfl (AA rfl) kr kr kr kr (by show 3<=16; decide) (CE x1 u1 ((c7.set ((wr .i64 ((wr .i64 (x3 * x1)) + v9)).toNat) (wr .i64 (v17 - 1))).set ((wr .i64 ((wr .i64 (v9 * x1)) + x3)).toNat) (wr .i64 (v26 - 1))) x4 v9 _ hv32 hT31) ?_;rintro xx hp33 ⟨hqhp33,hT34⟩; subst xx;refine AG he 0 rfl (Am (AA rfl) rfl (JP (Ke hT34 (AW hv35).2) kr)) ?_;refine AG he 0 rfl (Am (AA rfl) rfl (A0 (p:=eAt u1 ((wr .i64 ((wr .i64 (x4 * x1)) + v9)).toNat)) kr (Kc (y:= .v (.int .i64 v35)) (m:=1) (g:=false) hT34 (AW hv35).2 kr kr kr))) ?_;refine AH he 1 ?_;refine AG he 0 rfl (Am (AA rfl) rfl (JP (Ke hT34 (AW hv35).2) kr)) ?_;obtain ⟨hp36,hs37,hT38⟩:=Ic (P:=Tryd.prog) (ty:=3) (y:= .v (.int .i64 (wr .i64 (v35 + 1)))) (v':=(wr .i64 (v35 + 1))) hT34 (AW hv35).2 kr kr kr;refine RunL.store he (y:=eAt u1 ((wr .i64 ((wr .i64 (x4 * x1)) + v9)).toNat)) (z:= .v (.int .i64 (wr .i64 (v35 + 1)))) rfl (AA rfl) kr kr hs37 ?_;refine AL rfl (SemY.fr (l':=[p5,p4,(5,e1),p3,(10,u0),p2,p1]) kr ?_);refine AC ?_
  have hT39:=(hT38.front 1 rfl)
  refine AG he 0 rfl (Am (AA rfl) rfl (A0 (p:=e1) kr (Ka (y:= .ag [.v (.int .i64 x1),u1]) (m:=2) (g:=true) hT39 kr kr kr))) ?_;refine AH he 2 ?_;obtain ⟨v41,hv41,h⟩:=OB h;obtain ⟨v44,hv44,h⟩:=OB h
  have hT40:=(hT39.front 1 rfl)
  refine CO (E:=Ar) (e:=A1) rfl rfl BQ rfl rfl (fid:=73) (caps:=[]) (xs:=[.ag [.v (.int .i64 x1),u1],.v (.int .i64 v9),.v (.int .i64 x4)]) (fn:=Tryd.f73) (c:=Be) (Out:=fun v h'=>v=eAt u1 ((wr .i64 ((wr .i64 (v9 * x1)) + x4)).toNat)/\T h' ((own_ (ocL 1 3 (ocV cdI)) u1 (((c7.set ((wr .i64 ((wr .i64 (x3 * x1)) + v9)).toNat) (wr .i64 (v17 - 1))).set ((wr .i64 ((wr .i64 (v9 * x1)) + x3)).toNat) (wr .i64 (v26 - 1))).set ((wr .i64 ((wr .i64 (x4 * x1)) + v9)).toNat) (wr .i64 (v35 + 1))))::(cel e1 2 94 (.ag [.v (.int .i64 x1),u1]))::(own_ (ocL 1 3 (ocV cdI)) u0 x0)::L)) rfl (AA rfl) kr kr kr kr (by show 3<=16; decide) (CE x1 u1 (((c7.set ((wr .i64 ((wr .i64 (x3 * x1)) + v9)).toNat) (wr .i64 (v17 - 1))).set ((wr .i64 ((wr .i64 (v9 * x1)) + x3)).toNat) (wr .i64 (v26 - 1))).set ((wr .i64 ((wr .i64 (x4 * x1)) + v9)).toNat) (wr .i64 (v35 + 1))) v9 x4 _ hv41 hT40) ?_;rintro xx hp42 ⟨hqhp42,hT43⟩; subst xx;refine AG he 0 rfl (Am (AA rfl) rfl (JP (Ke hT43 (AW hv44).2) kr)) ?_;refine AG he 0 rfl (Am (AA rfl) rfl (A0 (p:=eAt u1 ((wr .i64 ((wr .i64 (v9 * x1)) + x4)).toNat)) kr (Kc (y:= .v (.int .i64 v44)) (m:=1) (g:=false) hT43 (AW hv44).2 kr kr kr))) ?_;refine AH he 1 ?_;refine AG he 0 rfl (Am (AA rfl) rfl (JP (Ke hT43 (AW hv44).2) kr)) ?_;obtain ⟨hp45,hs46,hT47⟩:=Ic (P:=Tryd.prog) (ty:=3) (y:= .v (.int .i64 (wr .i64 (v44 + 1)))) (v':=(wr .i64 (v44 + 1))) hT43 (AW hv44).2 kr kr kr;refine RunL.store he (y:=eAt u1 ((wr .i64 ((wr .i64 (v9 * x1)) + x4)).toNat)) (z:= .v (.int .i64 (wr .i64 (v44 + 1)))) rfl (AA rfl) kr kr hs46 ?_;refine AL rfl ?_;have hq:=OI h; subst hq
  have hT49:=(((hT47.front 2 rfl).front 1 rfl).front 2 rfl)
  exact ⟨rfl,_,⟨hp45,hT49,rfl⟩,WkY.f1⟩
 ·rw [B9 hb11] at h
  refine SemY.skip ?_;have hq:=OI h; subst hq
  have hT50:=((hT.front 2 rfl).front 2 rfl)
  exact ⟨rfl,_,⟨hp,hT50,rfl⟩,WkY.f1⟩
theorem LE {L:List Asn}(x0:(List Int)) (x1:Int) (x3:Int) (x4:Int) (u0:AV) (u1:AV) (e1:AV):∀ (f:Nat) (c6:Int) (c7:(List Int)) (r:((List Int))),FQ x0 x1 x3 x4 f c6 c7=some r->∀ (hp:Hp),T hp ((cel e1 2 94 (.ag [.v (.int .i64 x1),u1]))::(own_ (ocL 1 3 (ocV cdI)) u1 c7)::(own_ (ocL 1 3 (ocV cdI)) u0 x0)::L)->SemYN Ar ⟨none,false⟩ (pc DZ [1,1,0,0]) f ⟨Fr 52 [(2,.v (.int .i64 x3)),(3,.v (.int .i64 x4)),(5,e1),(10,u0),(11,.v (.int .i64 (x0.length:Int))),(12,.v (.int .i64 c6))],hp⟩ (fun e s=>e=(.exit 0)/\∃ s2,(∃ (h':Hp),T h' ((own_ (ocL 1 3 (ocV cdI)) u0 x0)::(own_ (ocL 1 3 (ocV cdI)) u1 r)::L)/\s2=⟨Fr 52 [],h'⟩)/\WkY Ar s s2):=by
 have he:=Ct
 intro f;induction f with
 | zero=>intro c6 c7 r h; cases h
 | succ f ih0 =>
  intro c6 c7 r h  hp hT;unfold FQ at h;refine BA ?_
  let p1:Nat×AV:=(12,.v (.int .i64 c6))
  let p2:Nat×AV:=(11,.v (.int .i64 (x0.length:Int)))
  let p3:Nat×AV:=(3,.v (.int .i64 x4))
  let p4:Nat×AV:=(2,.v (.int .i64 x3))
  refine AY he [p4,p3,(5,e1),(10,u0),p2,p1,(13,.v (.bool (decide (c6 < (x0.length:Int)))))] ?_;refine AD ?_;refine Ab (b:=(decide (c6 < (x0.length:Int)))) kr (fun hb8=>?_) (fun hb8=>?_)
  ·rw [if_pos hb8] at h
   refine SemY.skip ?_;refine AD ?_;refine AR ?_;refine AD ?_;refine AC ?_;obtain ⟨v9,hv9,h⟩:=OB h
   have hT10:=(hT.front 2 rfl)
   refine AG he 0 rfl (Am (AA rfl) rfl (AF (a:=u0) (b:= .v (.int .i64 c6)) kr kr (Lp (bytes:=8) hT10 kr hv9))) ?_;refine AG he 0 rfl (Am (AA rfl) rfl (A0 (p:=eAt u0 c6.toNat) kr (Kc (y:= .v (.int .i64 v9)) (m:=1) (g:=false) hT10 (AW hv9).2 kr kr kr))) ?_;refine AS he [p4,p3,(5,e1),(9,.v (.int .i64 v9)),(10,u0),p2,p1] ?_;refine AY he [p4,p3,(5,e1),(9,.v (.int .i64 v9)),(10,u0),p2,p1,(18,.v (.bool (v9 != x3)))] ?_;obtain ⟨r51,hr51,h⟩:=OB h;refine GQ (KX x1 x3 x4 c7 v9 u0 x0 u1 e1 c6 _ hr51 hT10) ?_;rintro _ ⟨hp52,hT53,rfl⟩;refine AC ?_;refine AH he 2 ?_;refine AL rfl ?_;exact Ad WkY.f1 (ih0 (wr .i64 (c6 + 1)) r51 _ h  hp52 hT53)
  ·rw [B9 hb8] at h
   refine SemY.exit ?_;have hq:=OI h; subst hq
   have hT55:=(hT.drop.front 1 rfl)
   exact ⟨rfl,_,⟨hp,hT55,rfl⟩,WkY.f1⟩
theorem IW {L:List Asn}{hp:Hp}(u0:AV) (x0:(List Int)) (x1:Int) (u1:AV) (x2:(List Int)) (x3:Int) (x4:Int) (r:(List Int)) (h:Gp x0 x1 x2 x3 x4=some r) (hT:T hp ((own_ (ocL 1 3 (ocV cdI)) u0 x0)::(own_ (ocL 1 3 (ocV cdI)) u1 x2)::L)):SemY Ar ⟨none,false⟩ DZ ⟨Fr 52 (Av 0 [u0,.ag [.v (.int .i64 x1),u1],.v (.int .i64 x3),.v (.int .i64 x4)]),hp⟩ fun x s'=>(x = .normal\/x = .ret)/\∃ ys,FA Ar.P s'.fr s'.hp Tryd.f112.results.toList=some ys/\(fun v h'=>v = .tp []/\T h' ((own_ (ocL 1 3 (ocV cdI)) u0 x0)::(own_ (ocL 1 3 (ocV cdI)) u1 r)::L)) (FZ ys) s'.hp:=by
 have he:=Ct
 unfold Gp at h
 let p1:Nat×AV:=(3,.v (.int .i64 x4))
 let p2:Nat×AV:=(2,.v (.int .i64 x3))
 refine Dw (Ef (s1:=⟨Fr 52 [(0,u0),(1,.ag [.v (.int .i64 x1),u1]),p2,p1],hp⟩) WkY.f1 ?_);refine AD ?_;refine AC ?_;obtain ⟨e1,hp2,hb3,hT4⟩:=Nm (t:=94) (a:= .ag [.v (.int .i64 x1),u1]) hT (by have hq:=Ee (hT.front 1 rfl); revert hq; generalize u1=zz; intro hq; cases zz <;> first | (exact (Bool.false_ne_true hq.1).elim) | (exact (Bool.false_ne_true hq.2).elim) | skip; all_goals (first | rfl | kernel_rfl | exact rfl));refine AG he 0 rfl (OW (AA rfl) rfl kr (Ua (z:= .ag [.v (.int .i64 x1),u1]) kr hb3)) ?_;refine AL rfl (SemY.fr (l':=[(0,u0),p2,p1,(5,e1)]) kr ?_);refine AD ?_;refine AC ?_;refine AH he 1 ?_
 have hT5:=(hT4.front 1 rfl)
 refine AG he 0 rfl (Am (AA rfl) rfl (BZ (a:=u0) kr (NJ hT5 kr))) ?_;refine AS he [p2,p1,(5,e1),(10,u0),(11,.v (.int .i64 (x0.length:Int))),(12,.v (.int .i64 0))] ?_;refine AR ?_
 have hT56:=((hT5.front 2 rfl).front 2 rfl)
 refine SemY.loop (n:=100000) ?_;obtain ⟨r57,hr57,h⟩:=OB h;refine A9 (Ad WkY.f1 (LE x0 x1 x3 x4 u0 u1 e1 _ 0 x2 _ hr57  hp2 hT56)) ?_;rintro _ ⟨hp58,hT59,rfl⟩;have hq:=OI h; subst hq;exact ⟨⟨Fr 52 [],hp58⟩,WkY.f1,.inl rfl,[],kr,⟨rfl,hT59⟩⟩
/- trestle/evening.exchange -/
noncomputable def AP:Env:=(E0.withX 111 LQ)
theorem BH:EnvOk AP:=(EnvOk.withX BB LX.1 LX.2)
noncomputable def BR:Code:=BK Tryd.f81
def D0 (c19:Int) (v22:(List Int)):Nat->Int->(List (Int×Int))->Option (((List (Int×Int))))
 | 0,_,_=>none
 | f + 1,c27,c28 =>
  if (decide (c27 < (v22.length:Int)))=true then
  (idx v22 c27).bind fun v30 =>
  (idx c28 v30).bind fun _v32 =>
  D0 c19 v22 f (wr .i64 (c27 + 1)) (c28.set v30.toNat (c19,c27))
  else
  some c28
def Dz (v8:(List (List Int))):Nat->Int->(List (Int×Int))->Option (((List (Int×Int))))
 | 0,_,_=>none
 | f + 1,c19,c20 =>
  if (decide (c19 < (v8.length:Int)))=true then
  (idx v8 c19).bind fun v22 =>
  (D0 c19 v22 100000 0 c20).bind fun r45 =>
  Dz v8 f (wr .i64 (c19 + 1)) r45
  else
  some c20
def D2 (x0:Int) (x1:(List (List (List Int)))) (x2:Int) (x3:(List Int)) (c6:Int) (v8:(List (List Int))) (r50:(List (Int×Int))) (c53:Int):Nat->Int->Option ((Unit) ⊕ ((List (List (List Int)))×(List Int)))
 | 0,_=>none
 | f + 1,c55 =>
  if (decide (c55 < x0))=true then
  (idx r50 c53).bind fun v57 =>
  (idx r50 c55).bind fun v59 =>
  (if (v57.1==v59.1)=true then some true else (idx r50 c53).bind fun v61 =>
  (idx r50 c55).bind fun v63 =>
  (GK v8 (x2,x3) c53 c55 v61.1 v63.1).bind fun v64 =>
  some (decide (v64<=0))).bind fun j65 =>
  if j65=true then
  D2 x0 x1 x2 x3 c6 v8 r50 c53 f (wr .i64 (c55 + 1))
  else
  (idx r50 c53).bind fun v85 =>
  (idx v8 v85.1).bind fun v87 =>
  (Gp v87 x2 x3 c53 c55).bind fun v94 =>
  (idx r50 c55).bind fun v99 =>
  (idx v8 v99.1).bind fun v101 =>
  (Gp v101 x2 v94 c55 c53).bind fun v108 =>
  (idx r50 c53).bind fun v113 =>
  (idx v8 v113.1).bind fun v115 =>
  (idx r50 c53).bind fun v120 =>
  (idx v115 v120.2).bind fun _v122 =>
  (idx r50 c55).bind fun v129 =>
  (idx (v8.set v113.1.toNat (v115.set v120.2.toNat c55)) v129.1).bind fun v131 =>
  (idx r50 c55).bind fun v136 =>
  (idx v131 v136.2).bind fun _v138 =>
  some (.inr ((x1.set c6.toNat ((v8.set v113.1.toNat (v115.set v120.2.toNat c55)).set v129.1.toNat (v131.set v136.2.toNat c53))),v108))
  else
  some (.inl ())
def D1 (x0:Int) (x1:(List (List (List Int)))) (x2:Int) (x3:(List Int)) (c6:Int) (v8:(List (List Int))) (r50:(List (Int×Int))):Nat->Int->Option ((Unit) ⊕ ((List (List (List Int)))×(List Int)))
 | 0,_=>none
 | f + 1,c53 =>
  if (decide (c53 < x0))=true then
  (D2 x0 x1 x2 x3 c6 v8 r50 c53 100000 (wr .i64 (c53 + 1))).bind fun r155 =>
  match r155 with
  | (.inl _w156) =>
   D1 x0 x1 x2 x3 c6 v8 r50 f (wr .i64 (c53 + 1))
  | (.inr w159) =>
   some (.inr (w159.1,w159.2))
  else
  some (.inl ())
def Dy (x0:Int) (x1:(List (List (List Int)))) (x2:Int) (x3:(List Int)):Nat->Int->Option ((Unit) ⊕ ((List (List (List Int)))×(List Int)))
 | 0,_=>none
 | f + 1,c6 =>
  if (decide (c6 < (x1.length:Int)))=true then
  (idx x1 c6).bind fun v8 =>
  if (OV 16 x0)=true then
  (Dz v8 100000 0 (List.replicate x0.toNat ((0,0):(Int×Int)))).bind fun r50 =>
  (D1 x0 x1 x2 x3 c6 v8 r50 100000 0).bind fun r169 =>
  match r169 with
  | (.inl _w170) =>
   Dy x0 x1 x2 x3 f (wr .i64 (c6 + 1))
  | (.inr w173) =>
   some (.inr (w173.1,w173.2))
  else none
  else
  some (.inl ())
def Gj (x0:Int) (x1:(List (List (List Int)))) (x2:Int) (x3:(List Int)):Option (Bool×(List (List (List Int)))×(List Int)) :=
 (Dy x0 x1 x2 x3 100000 0).bind fun r180 =>
 match r180 with
 | (.inl _w181) =>
  some (false,x1,x3)
 | (.inr w184) =>
  some (true,w184.1,w184.2)
theorem Ja {L:List Asn}(c19:Int) (v22:(List Int)) (x0:Int) (u0:AV) (x1:(List (List (List Int)))) (x2:Int) (u1:AV) (x3:(List Int)) (e1:AV) (c6:Int) (v8:(List (List Int))) (e10:AV) (e17:AV) (e24:AV):∀ (f:Nat) (c27:Int) (c28:(List (Int×Int))) (r:((List (Int×Int)))),D0 c19 v22 f c27 c28=some r->∀ (hp:Hp),T hp ((cel e1 2 94 (.ag [.v (.int .i64 x2),u1]))::(own_ (ocL 1 3 (ocV cdI)) u1 x3)::(Ob 1 31 (ocL 1 3 (ocV cdI)) e10 v8 c19.toNat e24 v22)::(own_ (ocL 1 3 (ocV cdI)) e24 v22)::(Ob 1 50 (ocL 1 31 (ocL 1 3 (ocV cdI))) u0 x1 c6.toNat e10 v8)::(own_ (ocL 2 137 (ocV (EF cdI cdI (fun _=>rfl) (fun _=>rfl)))) e17 c28)::L)->SemYN AP ⟨none,false⟩ (pc BR [1,0,1,0,0,1,1,0,0,1,1,0,1,0,0,1,1,0,0,1,1,0,0]) f ⟨Fr 142 [(0,.v (.int .i64 x0)),(5,e1),(8,e10),(9,e17),(10,.v (.int .i64 c19)),(16,u0),(17,.v (.int .i64 (x1.length:Int))),(18,.v (.int .i64 c6)),(24,e10),(25,.v (.int .i64 (v8.length:Int))),(26,.v (.int .i64 c19)),(31,e24),(32,.v (.int .i64 (v22.length:Int))),(33,.v (.int .i64 c27))],hp⟩ (fun e s=>e=(.exit 4)/\∃ s2,(∃ (h':Hp),T h' ((cel e1 2 94 (.ag [.v (.int .i64 x2),u1]))::(own_ (ocL 1 3 (ocV cdI)) u1 x3)::(own_ (ocL 1 31 (ocL 1 3 (ocV cdI))) e10 v8)::(Ob 1 50 (ocL 1 31 (ocL 1 3 (ocV cdI))) u0 x1 c6.toNat e10 v8)::(own_ (ocL 2 137 (ocV (EF cdI cdI (fun _=>rfl) (fun _=>rfl)))) e17 r)::L)/\s2=⟨Fr 142 [(0,.v (.int .i64 x0)),(5,e1),(8,e10),(9,e17),(16,u0),(17,.v (.int .i64 (x1.length:Int))),(18,.v (.int .i64 c6)),(24,e10),(25,.v (.int .i64 (v8.length:Int))),(26,.v (.int .i64 c19))],h'⟩)/\WkY AP s s2):=by
 have he:=BH
 intro f;induction f with
 | zero=>intro c27 c28 r h; cases h
 | succ f ih0 =>
  intro c27 c28 r h  hp hT;unfold D0 at h;refine BA ?_
  let p1:Nat×AV:=(33,.v (.int .i64 c27))
  let p2:Nat×AV:=(32,.v (.int .i64 (v22.length:Int)))
  let p3:Nat×AV:=(26,.v (.int .i64 c19))
  let p4:Nat×AV:=(25,.v (.int .i64 (v8.length:Int)))
  let p5:Nat×AV:=(18,.v (.int .i64 c6))
  let p6:Nat×AV:=(17,.v (.int .i64 (x1.length:Int)))
  let p7:Nat×AV:=(10,.v (.int .i64 c19))
  let p8:Nat×AV:=(0,.v (.int .i64 x0))
  refine AY he [p8,(5,e1),(8,e10),(9,e17),p7,(16,u0),p6,p5,(24,e10),p4,p3,(31,e24),p2,p1,(34,.v (.bool (decide (c27 < (v22.length:Int)))))] ?_;refine AD ?_;refine Ab (b:=(decide (c27 < (v22.length:Int)))) kr (fun hb29=>?_) (fun hb29=>?_)
  ·rw [if_pos hb29] at h
   refine SemY.skip ?_;refine AD ?_;refine AR ?_;refine AD ?_;refine AC ?_;refine AH he 1 ?_;obtain ⟨v30,hv30,h⟩:=OB h
   have hT31:=(hT.front 3 rfl)
   refine AG he 0 rfl (Am (AA rfl) rfl (AF (a:=e24) (b:= .v (.int .i64 c27)) kr kr (Lp (bytes:=8) hT31 kr hv30))) ?_;refine AG he 0 rfl (Am (AA rfl) rfl (A0 (p:=eAt e24 c27.toNat) kr (Kc (y:= .v (.int .i64 v30)) (m:=1) (g:=false) hT31 (AW hv30).2 kr kr kr))) ?_;refine AS he [p8,(5,e1),(8,e10),(9,e17),p7,(12,.v (.int .i64 c27)),(13,.v (.int .i64 v30)),(16,u0),p6,p5,(24,e10),p4,p3,(31,e24),p2,p1] ?_;refine AC ?_;refine AH he 5 ?_;obtain ⟨v32,hv32,h⟩:=OB h
   have hT33:=(hT31.front 5 rfl)
   refine AG he 0 rfl (Am (AA rfl) rfl (AF (a:=e17) (b:= .v (.int .i64 v30)) kr kr (Lp (bytes:=16) hT33 kr hv32))) ?_;obtain ⟨hp34,hs35,hT36⟩:=Ic (P:=Tryd.prog) (ty:=137) (y:= .ag [.v (.int .i64 c19),.v (.int .i64 c27)]) (v':=(c19,c27)) hT33 (AW hv32).2 kr kr kr;refine RunL.store he (y:=eAt e17 v30.toNat) (z:= .ag [.v (.int .i64 c19),.v (.int .i64 c27)]) rfl (AA rfl) kr kr hs35 ?_;refine AL rfl (SemY.fr (l':=[p8,(5,e1),(8,e10),(9,e17),p7,(16,u0),p6,p5,(24,e10),p4,p3,(31,e24),p2,p1]) kr ?_);refine AC ?_;refine AH he 2 ?_;refine AL rfl ?_
   have hT37:=(((((hT36.front 5 rfl).front 2 rfl).front 5 rfl).front 5 rfl).front 5 rfl)
   exact Ad WkY.f1 (ih0 (wr .i64 (c27 + 1)) (c28.set v30.toNat (c19,c27)) _ h  hp34 hT37)
  ·rw [B9 hb29] at h
   refine SemY.exit ?_;have hq:=OI h; subst hq
   have hT41:=((hT.front 2 rfl).front 3 rfl)
   have hT42:=(NS hT41)
   have hT43:=(((((hT42.front 4 rfl).front 4 rfl).front 2 rfl).front 4 rfl).front 4 rfl)
   exact ⟨rfl,_,⟨hp,hT43,rfl⟩,WkY.f1⟩
theorem JZ {L:List Asn}(v8:(List (List Int))) (x0:Int) (u0:AV) (x1:(List (List (List Int)))) (x2:Int) (u1:AV) (x3:(List Int)) (e1:AV) (c6:Int) (e10:AV) (e17:AV):∀ (f:Nat) (c19:Int) (c20:(List (Int×Int))) (r:((List (Int×Int)))),Dz v8 f c19 c20=some r->∀ (hp:Hp),T hp ((cel e1 2 94 (.ag [.v (.int .i64 x2),u1]))::(own_ (ocL 1 3 (ocV cdI)) u1 x3)::(own_ (ocL 1 31 (ocL 1 3 (ocV cdI))) e10 v8)::(Ob 1 50 (ocL 1 31 (ocL 1 3 (ocV cdI))) u0 x1 c6.toNat e10 v8)::(own_ (ocL 2 137 (ocV (EF cdI cdI (fun _=>rfl) (fun _=>rfl)))) e17 c20)::L)->SemYN AP ⟨none,false⟩ (pc BR [1,0,1,0,0,1,1,0,0,1,1,0,1,0,0]) f ⟨Fr 142 [(0,.v (.int .i64 x0)),(5,e1),(8,e10),(9,e17),(16,u0),(17,.v (.int .i64 (x1.length:Int))),(18,.v (.int .i64 c6)),(24,e10),(25,.v (.int .i64 (v8.length:Int))),(26,.v (.int .i64 c19))],hp⟩ (fun e s=>e=(.exit 2)/\∃ s2,(∃ (h':Hp),T h' ((cel e1 2 94 (.ag [.v (.int .i64 x2),u1]))::(own_ (ocL 1 3 (ocV cdI)) u1 x3)::(own_ (ocL 1 31 (ocL 1 3 (ocV cdI))) e10 v8)::(Ob 1 50 (ocL 1 31 (ocL 1 3 (ocV cdI))) u0 x1 c6.toNat e10 v8)::(own_ (ocL 2 137 (ocV (EF cdI cdI (fun _=>rfl) (fun _=>rfl)))) e17 r)::L)/\s2=⟨Fr 142 [(0,.v (.int .i64 x0)),(5,e1),(8,e10),(9,e17),(16,u0),(17,.v (.int .i64 (x1.length:Int))),(18,.v (.int .i64 c6))],h'⟩)/\WkY AP s s2):=by
 have he:=BH
 intro f;induction f with
 | zero=>intro c19 c20 r h; cases h
 | succ f ih0 =>
  intro c19 c20 r h  hp hT;unfold Dz at h;refine BA ?_
  let p1:Nat×AV:=(26,.v (.int .i64 c19))
  let p2:Nat×AV:=(25,.v (.int .i64 (v8.length:Int)))
  let p3:Nat×AV:=(18,.v (.int .i64 c6))
  let p4:Nat×AV:=(17,.v (.int .i64 (x1.length:Int)))
  let p5:Nat×AV:=(0,.v (.int .i64 x0))
  refine AY he [p5,(5,e1),(8,e10),(9,e17),(16,u0),p4,p3,(24,e10),p2,p1,(27,.v (.bool (decide (c19 < (v8.length:Int)))))] ?_;refine AD ?_;refine Ab (b:=(decide (c19 < (v8.length:Int)))) kr (fun hb21=>?_) (fun hb21=>?_)
  ·rw [if_pos hb21] at h
   refine SemY.skip ?_;refine AD ?_;refine AR ?_;refine AD ?_;refine AC ?_;refine AH he 1 ?_;obtain ⟨v22,hv22,h⟩:=OB h
   have hT23:=(hT.front 2 rfl)
   refine AG he 0 rfl (Am (AA rfl) rfl (AF (a:=e10) (b:= .v (.int .i64 c19)) kr kr (Lp (bytes:=24) hT23 kr hv22))) ?_;obtain ⟨e24,hl25,hT26⟩:=IA (P:=Tryd.prog) (ty:=31) hT23 (AW hv22).2 kr kr;refine AG he 0 rfl (Am (AA rfl) rfl (A0 (p:=eAt e10 c19.toNat) kr hl25)) ?_;refine AS he [p5,(5,e1),(8,e10),(9,e17),(10,.v (.int .i64 c19)),(11,e24),(16,u0),p4,p3,(24,e10),p2,p1] ?_;refine AD ?_;refine AC ?_;refine AH he 1 ?_;refine AG he 0 rfl (Am (AA rfl) rfl (BZ (a:=e24) kr (NJ hT26 kr))) ?_;refine AS he [p5,(5,e1),(8,e10),(9,e17),(10,.v (.int .i64 c19)),(16,u0),p4,p3,(24,e10),p2,p1,(31,e24),(32,.v (.int .i64 (v22.length:Int))),(33,.v (.int .i64 0))] ?_;refine AR ?_
   have hT44:=((((((hT26.front 5 rfl).front 5 rfl).front 2 rfl).front 3 rfl).front 5 rfl).front 5 rfl)
   refine SemY.loop (n:=100000) ?_;obtain ⟨r45,hr45,h⟩:=OB h;refine A9 (Ad WkY.f1 (Ja c19 v22 x0 u0 x1 x2 u1 x3 e1 c6 v8 e10 e17 e24 _ 0 c20 _ hr45  hp hT44)) ?_;rintro _ ⟨hp46,hT47,rfl⟩;refine AC ?_;refine AH he 2 ?_;refine AL rfl ?_;exact Ad WkY.f1 (ih0 (wr .i64 (c19 + 1)) r45 _ h  hp46 hT47)
  ·rw [B9 hb21] at h
   refine SemY.exit ?_;have hq:=OI h; subst hq;exact ⟨rfl,_,⟨hp,hT,rfl⟩,WkY.f1⟩
theorem Gm {L:List Asn}(x0:Int) (x1:(List (List (List Int)))) (x2:Int) (x3:(List Int)) (c6:Int) (v8:(List (List Int))) (r50:(List (Int×Int))) (c53:Int) (u0:AV) (u1:AV) (e1:AV) (e10:AV) (e17:AV):∀ (f:Nat) (c55:Int) (r:(Unit) ⊕ ((List (List (List Int)))×(List Int))),D2 x0 x1 x2 x3 c6 v8 r50 c53 f c55=some r->∀ (hp:Hp),T hp ((cel e1 2 94 (.ag [.v (.int .i64 x2),u1]))::(own_ (ocL 1 3 (ocV cdI)) u1 x3)::(own_ (ocL 1 31 (ocL 1 3 (ocV cdI))) e10 v8)::(Ob 1 50 (ocL 1 31 (ocL 1 3 (ocV cdI))) u0 x1 c6.toNat e10 v8)::(own_ (ocL 2 137 (ocV (EF cdI cdI (fun _=>rfl) (fun _=>rfl)))) e17 r50)::L)->SemYN AP ⟨none,false⟩ (pc BR [1,0,1,0,0,1,1,0,0,1,1,1,1,0,0,1,1,0,0,1,1,0,0]) f ⟨Fr 142 [(0,.v (.int .i64 x0)),(5,e1),(8,e10),(9,e17),(14,.v (.int .i64 c53)),(15,.v (.int .i64 c55)),(16,u0),(17,.v (.int .i64 (x1.length:Int))),(18,.v (.int .i64 c6)),(46,.v (.int .i64 x0)),(47,.v (.int .i64 c53))],hp⟩ (fun e s=>match r with
 | (.inl _)=>e=(.exit 8)/\∃ s2,(∃ (h':Hp),T h' ((cel e1 2 94 (.ag [.v (.int .i64 x2),u1]))::(own_ (ocL 1 3 (ocV cdI)) u1 x3)::(own_ (ocL 1 31 (ocL 1 3 (ocV cdI))) e10 v8)::(Ob 1 50 (ocL 1 31 (ocL 1 3 (ocV cdI))) u0 x1 c6.toNat e10 v8)::(own_ (ocL 2 137 (ocV (EF cdI cdI (fun _=>rfl) (fun _=>rfl)))) e17 r50)::L)/\s2=⟨Fr 142 [(0,.v (.int .i64 x0)),(5,e1),(8,e10),(9,e17),(16,u0),(17,.v (.int .i64 (x1.length:Int))),(18,.v (.int .i64 c6)),(46,.v (.int .i64 x0)),(47,.v (.int .i64 c53))],h'⟩)/\WkY AP s s2
 | (.inr w)=>e = .ret/\∃ s2,(∃ (h':Hp),T h' ((own_ (ocL 1 50 (ocL 1 31 (ocL 1 3 (ocV cdI)))) u0 w.1)::(own_ (ocL 1 3 (ocV cdI)) u1 w.2)::L)/\s2=⟨Fr 142 [(6,.v (.bool true))],h'⟩)/\WkY AP s s2):=by
 have he:=BH
 intro f;induction f with
 | zero=>intro c55 r h; cases h
 | succ f ih0 =>
  intro c55 r h  hp hT;unfold D2 at h;refine BA ?_;refine AD ?_;refine AY he [(0,.v (.int .i64 x0)),(5,e1),(8,e10),(9,e17),(14,.v (.int .i64 c53)),(15,.v (.int .i64 c55)),(16,u0),(17,.v (.int .i64 (x1.length:Int))),(18,.v (.int .i64 c6)),(46,.v (.int .i64 x0)),(47,.v (.int .i64 c53)),(54,.v (.bool (decide (c55 < x0))))] ?_;refine Ab (b:=(decide (c55 < x0))) kr (fun hb56=>?_) (fun hb56=>?_)
  ·rw [if_pos hb56] at h
   refine SemY.skip ?_;refine AD ?_;refine AR ?_;refine AD ?_;refine AD ?_;obtain ⟨v57,hv57,h⟩:=OB h;obtain ⟨v59,hv59,h⟩:=OB h;obtain ⟨j65,hj65,h⟩:=OB h;refine RW 29 (A:=fun s1=>∃ (h':Hp),T h' ((cel e1 2 94 (.ag [.v (.int .i64 x2),u1]))::(own_ (ocL 1 3 (ocV cdI)) u1 x3)::(own_ (ocL 1 31 (ocL 1 3 (ocV cdI))) e10 v8)::(Ob 1 50 (ocL 1 31 (ocL 1 3 (ocV cdI))) u0 x1 c6.toNat e10 v8)::(own_ (ocL 2 137 (ocV (EF cdI cdI (fun _=>rfl) (fun _=>rfl)))) e17 r50)::L)/\s1=⟨Fr 142 [(0,.v (.int .i64 x0)),(5,e1),(8,e10),(9,e17),(14,.v (.int .i64 c53)),(15,.v (.int .i64 c55)),(16,u0),(17,.v (.int .i64 (x1.length:Int))),(18,.v (.int .i64 c6)),(46,.v (.int .i64 x0)),(47,.v (.int .i64 c53)),(85,.v (.bool j65))],h'⟩) he.mixed kr kr ?_ ?_
   ·refine RunDT.q (x:=e17) rfl kr rfl (AA rfl) rfl kr kr ?_
    refine RunDT.q (x:= .v (.int .i64 c53)) rfl kr rfl (AA rfl) rfl kr kr ?_
    have hT58:=(hT.front 4 rfl)
    refine RunDT.q (x:=eAt e17 c53.toNat) rfl kr rfl (AA rfl) rfl (AF (a:=e17) (b:= .v (.int .i64 c53)) kr kr (Lp (bytes:=16) hT58 kr hv57)) kr ?_;refine RunDT.q (x:=G6 (eAt e17 c53.toNat) 0) rfl kr rfl (AA rfl) rfl (IB (a:=eAt e17 c53.toNat) kr (LK (off:=0) hT58 (AW hv57).2 kr)) kr ?_;refine RunDT.q (x:= .v (.int .i64 v57.1)) rfl kr rfl (AA rfl) rfl (A0 (p:=G6 (eAt e17 c53.toNat) 0) kr (Kb (off:=0) (y:= .v (.int .i64 v57.1)) (m:=1) (g:=false) hT58 (AW hv57).2 kr kr kr)) (Gs (off:=0) (hT.front 4 rfl) (AW hv57).2 kr) ?_;refine RunDT.q (x:=e17) rfl kr rfl (AA rfl) rfl kr kr ?_;refine RunDT.q (x:= .v (.int .i64 c55)) rfl kr rfl (AA rfl) rfl kr kr ?_;refine RunDT.q (x:=eAt e17 c55.toNat) rfl kr rfl (AA rfl) rfl (AF (a:=e17) (b:= .v (.int .i64 c55)) kr kr (Lp (bytes:=16) hT58 kr hv59)) kr ?_;refine RunDT.q (x:=G6 (eAt e17 c55.toNat) 0) rfl kr rfl (AA rfl) rfl (IB (a:=eAt e17 c55.toNat) kr (LK (off:=0) hT58 (AW hv59).2 kr)) kr ?_;refine RunDT.q (x:= .v (.int .i64 v59.1)) rfl kr rfl (AA rfl) rfl (A0 (p:=G6 (eAt e17 c55.toNat) 0) kr (Kb (off:=0) (y:= .v (.int .i64 v59.1)) (m:=1) (g:=false) hT58 (AW hv59).2 kr kr kr)) (Gs (off:=0) (hT.front 4 rfl) (AW hv59).2 kr) ?_;refine RunDT.q (x:= .v (.bool (v57.1==v59.1))) rfl kr rfl (AA rfl) rfl kr kr ?_;refine RunDT.q (x:= .v (.bool (v57.1==v59.1))) rfl kr rfl (AA rfl) rfl kr kr ?_;rcases BE (v57.1==v59.1) with hc154 | hc154
    ·rw [if_pos hc154] at hj65
     rw [hc154];refine RunDT.skip rfl kr rfl ?_;refine RunDT.skip rfl kr rfl ?_;refine RunDT.skip rfl kr rfl ?_;refine RunDT.skip rfl kr rfl ?_;refine RunDT.skip rfl kr rfl ?_;refine RunDT.skip rfl kr rfl ?_;refine RunDT.skip rfl kr rfl ?_;refine RunDT.skip rfl kr rfl ?_;refine RunDT.skip rfl kr rfl ?_;refine RunDT.skip rfl kr rfl ?_;refine RunDT.skip rfl kr rfl ?_;refine RunDT.skip rfl kr rfl ?_;refine RunDT.skip rfl kr rfl ?_;refine RunDT.skip rfl kr rfl ?_;refine RunDT.skip rfl kr rfl ?_;refine RunDT.skip rfl kr rfl ?_;refine RunDT.q (x:= .v (.bool true)) rfl kr rfl (AA rfl) rfl kr kr ?_;have hq:=OI hj65; subst hq
     have hT80:=((((hT58.front 4 rfl).front 4 rfl).front 4 rfl).front 4 rfl)
     exact RunDT.done rfl ⟨_,⟨hp,hT80,rfl⟩,WkY.f1⟩
    ·rw [B9 hc154] at hj65
     rw [hc154];refine RunDT.q (x:=e10) rfl kr rfl kr rfl kr kr ?_
     have hT60:=(hT58.front 1 rfl)
     refine RunDT.q (x:= .ag [.v (.int .i64 x2),u1]) rfl kr rfl kr rfl (A0 (p:=e1) kr (Ka (y:= .ag [.v (.int .i64 x2),u1]) (m:=2) (g:=true) hT60 kr kr kr)) (OC hT kr) ?_;refine RunDT.q (x:= .v (.int .i64 c53)) rfl kr rfl kr rfl kr kr ?_;refine RunDT.q (x:= .v (.int .i64 c55)) rfl kr rfl kr rfl kr kr ?_;refine RunDT.q (x:=e17) rfl kr rfl kr rfl kr kr ?_;refine RunDT.q (x:= .v (.int .i64 c53)) rfl kr rfl kr rfl kr kr ?_;obtain ⟨v61,hv61,hj65⟩:=OB hj65
     have hT62:=(hT60.front 1 rfl)
     refine RunDT.q (x:=eAt e17 c53.toNat) rfl kr rfl kr rfl (AF (a:=e17) (b:= .v (.int .i64 c53)) kr kr (Lp (bytes:=16) hT62 kr hv61)) kr ?_;refine RunDT.q (x:=G6 (eAt e17 c53.toNat) 0) rfl kr rfl kr rfl (IB (a:=eAt e17 c53.toNat) kr (LK (off:=0) hT62 (AW hv61).2 kr)) kr ?_;refine RunDT.q (x:= .v (.int .i64 v61.1)) rfl kr rfl kr rfl (A0 (p:=G6 (eAt e17 c53.toNat) 0) kr (Kb (off:=0) (y:= .v (.int .i64 v61.1)) (m:=1) (g:=false) hT62 (AW hv61).2 kr kr kr)) (Gs (off:=0) (hT.front 4 rfl) (AW hv61).2 kr) ?_;refine RunDT.q (x:=e17) rfl kr rfl kr rfl kr kr ?_;refine RunDT.q (x:= .v (.int .i64 c55)) rfl kr rfl kr rfl kr kr ?_;obtain ⟨v63,hv63,hj65⟩:=OB hj65;refine RunDT.q (x:=eAt e17 c55.toNat) rfl kr rfl kr rfl (AF (a:=e17) (b:= .v (.int .i64 c55)) kr kr (Lp (bytes:=16) hT62 kr hv63)) kr ?_;refine RunDT.q (x:=G6 (eAt e17 c55.toNat) 0) rfl kr rfl kr rfl (IB (a:=eAt e17 c55.toNat) kr (LK (off:=0) hT62 (AW hv63).2 kr)) kr ?_;refine RunDT.q (x:= .v (.int .i64 v63.1)) rfl kr rfl kr rfl (A0 (p:=G6 (eAt e17 c55.toNat) 0) kr (Kb (off:=0) (y:= .v (.int .i64 v63.1)) (m:=1) (g:=false) hT62 (AW hv63).2 kr kr kr)) (Gs (off:=0) (hT.front 4 rfl) (AW hv63).2 kr) ?_;obtain ⟨v64,hv64,hj65⟩:=OB hj65;refine QK he (fid:=111) (b:=v64) (s:=GV) (F:=fun a=>GK a.1 a.2.1 a.2.2.1 a.2.2.2.1 a.2.2.2.2.1 a.2.2.2.2.2.1) (er:=Ge) (xs:=[e10,.ag [.v (.int .i64 x2),u1],.v (.int .i64 c53),.v (.int .i64 c55),.v (.int .i64 v61.1),.v (.int .i64 v63.1)]) (a:=(v8,(x2,x3),c53,c55,v61.1,v63.1,())) rfl kr kr kr kr (CR (SeeD.own hT62 (i:=3) rfl) (CR (TB (H4 (c:=cdI) (v:=x2)) (SeeD.own hT62 (i:=2) rfl)) (CR (H4 (c:=cdI) (v:=c53)) (CR (H4 (c:=cdI) (v:=c55)) (CR (H4 (c:=cdI) (v:=v61.1)) (CR (H4 (c:=cdI) (v:=v63.1)) SeesD.nil)))))) kr hv64 ?_;refine RunDT.q (x:= .v (.bool (decide (v64<=0)))) rfl kr rfl kr rfl kr kr ?_;refine RunDT.q (x:= .v (.bool (decide (v64<=0)))) rfl kr rfl (AA rfl) rfl kr kr ?_;have hq:=OI hj65; subst hq
     have hT81:=((((hT62.front 4 rfl).front 4 rfl).front 4 rfl).front 4 rfl)
     exact RunDT.done rfl ⟨_,⟨hp,hT81,rfl⟩,WkY.f1⟩
   rintro _ ⟨hp82,hT83,rfl⟩;refine Ab (b:=j65) kr (fun hb84=>?_) (fun hb84=>?_)
   ·rw [if_pos hb84] at h
    refine SemY.exit ?_;refine AC ?_;refine AH he 3 ?_;refine AL rfl ?_;exact Ad WkY.f1 (ih0 (wr .i64 (c55 + 1)) _ h  hp82 hT83)
   ·rw [B9 hb84] at h
    refine SemY.skip ?_;refine AD ?_;refine HB 11 he.mixed kr kr ?_;refine RunDT.q (x:=e10) rfl kr rfl (AA rfl) rfl kr kr ?_;refine RunDT.q (x:=e17) rfl kr rfl (AA rfl) rfl kr kr ?_;refine RunDT.q (x:= .v (.int .i64 c53)) rfl kr rfl (AA rfl) rfl kr kr ?_;obtain ⟨v85,hv85,h⟩:=OB h
    have hT86:=(hT83.front 4 rfl)
    refine RunDT.q (x:=eAt e17 c53.toNat) rfl kr rfl (AA rfl) rfl (AF (a:=e17) (b:= .v (.int .i64 c53)) kr kr (Lp (bytes:=16) hT86 kr hv85)) kr ?_;refine RunDT.q (x:=G6 (eAt e17 c53.toNat) 0) rfl kr rfl (AA rfl) rfl (IB (a:=eAt e17 c53.toNat) kr (LK (off:=0) hT86 (AW hv85).2 kr)) kr ?_;refine RunDT.q (x:= .v (.int .i64 v85.1)) rfl kr rfl (AA rfl) rfl (A0 (p:=G6 (eAt e17 c53.toNat) 0) kr (Kb (off:=0) (y:= .v (.int .i64 v85.1)) (m:=1) (g:=false) hT86 (AW hv85).2 kr kr kr)) (Gs (off:=0) (hT83.front 4 rfl) (AW hv85).2 kr) ?_;obtain ⟨v87,hv87,h⟩:=OB h
    have hT88:=(hT86.front 3 rfl)
    refine RunDT.q (x:=eAt e10 v85.1.toNat) rfl kr rfl (AA rfl) rfl (AF (a:=e10) (b:= .v (.int .i64 v85.1)) kr kr (Lp (bytes:=24) hT88 kr hv87)) kr ?_;obtain ⟨e89,hl90,hT91⟩:=IA (P:=Tryd.prog) (ty:=31) hT88 (AW hv87).2 kr kr;refine RunDT.q (x:=e89) rfl kr rfl (AA rfl) rfl (A0 (p:=eAt e10 v85.1.toNat) kr hl90) (MF (hT83.front 2 rfl) (AW hv87).2 kr) ?_
    have hT92:=(hT91.front 3 rfl)
    refine RunDT.q (x:= .ag [.v (.int .i64 x2),u1]) rfl kr rfl (AA rfl) rfl (A0 (p:=e1) kr (Ka (y:= .ag [.v (.int .i64 x2),u1]) (m:=2) (g:=true) hT92 kr kr kr)) (OC hT83 kr) ?_;refine RunDT.q (x:= .v (.int .i64 c53)) rfl kr rfl (AA rfl) rfl kr kr ?_;refine RunDT.q (x:= .v (.int .i64 c55)) rfl kr rfl (AA rfl) rfl kr kr ?_;refine IF rfl ?_;obtain ⟨v94,hv94,h⟩:=OB h
    have hT93:=((hT92.front 4 rfl).front 2 rfl)
    refine CO (E:=AP) (e:=Ar) rfl rfl Ct rfl rfl (fid:=112) (caps:=[]) (xs:=[e89,.ag [.v (.int .i64 x2),u1],.v (.int .i64 c53),.v (.int .i64 c55)]) (fn:=Tryd.f112) (c:=DZ) (Out:=fun v h'=>v = .tp []/\T h' ((own_ (ocL 1 3 (ocV cdI)) e89 v87)::(own_ (ocL 1 3 (ocV cdI)) u1 v94)::(cel e1 2 94 (.ag [.v (.int .i64 x2),u1]))::(Ob 1 31 (ocL 1 3 (ocV cdI)) e10 v8 v85.1.toNat e89 v87)::(own_ (ocL 2 137 (ocV (EF cdI cdI (fun _=>rfl) (fun _=>rfl)))) e17 r50)::(Ob 1 50 (ocL 1 31 (ocL 1 3 (ocV cdI))) u0 x1 c6.toNat e10 v8)::L)) rfl (AA rfl) kr kr kr kr (by show 4<=52; decide) (IW e89 v87 x2 u1 x3 c53 c55 _ hv94 hT93) ?_;rintro xx hp95 ⟨hqhp95,hT96⟩; subst xx;refine AL rfl (SemY.fr (l':=[(5,e1),(8,e10),(9,e17),(14,.v (.int .i64 c53)),(15,.v (.int .i64 c55))]) kr ?_);refine AD ?_
    have hT97:=((hT96.front 3 rfl).front 1 rfl)
    have hT98:=(NS hT97)
    refine HB 11 he.mixed kr kr ?_;refine RunDT.q (x:=e10) rfl kr rfl (AA rfl) rfl kr kr ?_;refine RunDT.q (x:=e17) rfl kr rfl (AA rfl) rfl kr kr ?_;refine RunDT.q (x:= .v (.int .i64 c55)) rfl kr rfl (AA rfl) rfl kr kr ?_;obtain ⟨v99,hv99,h⟩:=OB h
    have hT100:=(hT98.front 3 rfl)
    refine RunDT.q (x:=eAt e17 c55.toNat) rfl kr rfl (AA rfl) rfl (AF (a:=e17) (b:= .v (.int .i64 c55)) kr kr (Lp (bytes:=16) hT100 kr hv99)) kr ?_;refine RunDT.q (x:=G6 (eAt e17 c55.toNat) 0) rfl kr rfl (AA rfl) rfl (IB (a:=eAt e17 c55.toNat) kr (LK (off:=0) hT100 (AW hv99).2 kr)) kr ?_;refine RunDT.q (x:= .v (.int .i64 v99.1)) rfl kr rfl (AA rfl) rfl (A0 (p:=G6 (eAt e17 c55.toNat) 0) kr (Kb (off:=0) (y:= .v (.int .i64 v99.1)) (m:=1) (g:=false) hT100 (AW hv99).2 kr kr kr)) (Gs (off:=0) (hT98.front 3 rfl) (AW hv99).2 kr) ?_;obtain ⟨v101,hv101,h⟩:=OB h
    have hT102:=(hT100.front 1 rfl)
    refine RunDT.q (x:=eAt e10 v99.1.toNat) rfl kr rfl (AA rfl) rfl (AF (a:=e10) (b:= .v (.int .i64 v99.1)) kr kr (Lp (bytes:=24) hT102 kr hv101)) kr ?_;obtain ⟨e103,hl104,hT105⟩:=IA (P:=Tryd.prog) (ty:=31) hT102 (AW hv101).2 kr kr;refine RunDT.q (x:=e103) rfl kr rfl (AA rfl) rfl (A0 (p:=eAt e10 v99.1.toNat) kr hl104) (MF hT98 (AW hv101).2 kr) ?_
    have hT106:=(hT105.front 4 rfl)
    refine RunDT.q (x:= .ag [.v (.int .i64 x2),u1]) rfl kr rfl (AA rfl) rfl (A0 (p:=e1) kr (Ka (y:= .ag [.v (.int .i64 x2),u1]) (m:=2) (g:=true) hT106 kr kr kr)) (OC (hT98.front 2 rfl) kr) ?_;refine RunDT.q (x:= .v (.int .i64 c55)) rfl kr rfl (AA rfl) rfl kr kr ?_;refine RunDT.q (x:= .v (.int .i64 c53)) rfl kr rfl (AA rfl) rfl kr kr ?_;refine IF rfl ?_;obtain ⟨v108,hv108,h⟩:=OB h
    have hT107:=((hT106.front 4 rfl).front 2 rfl)
    refine CO (E:=AP) (e:=Ar) rfl rfl Ct rfl rfl (fid:=112) (caps:=[]) (xs:=[e103,.ag [.v (.int .i64 x2),u1],.v (.int .i64 c55),.v (.int .i64 c53)]) (fn:=Tryd.f112) (c:=DZ) (Out:=fun v h'=>v = .tp []/\T h' ((own_ (ocL 1 3 (ocV cdI)) e103 v101)::(own_ (ocL 1 3 (ocV cdI)) u1 v108)::(cel e1 2 94 (.ag [.v (.int .i64 x2),u1]))::(Ob 1 31 (ocL 1 3 (ocV cdI)) e10 v8 v99.1.toNat e103 v101)::(own_ (ocL 2 137 (ocV (EF cdI cdI (fun _=>rfl) (fun _=>rfl)))) e17 r50)::(Ob 1 50 (ocL 1 31 (ocL 1 3 (ocV cdI))) u0 x1 c6.toNat e10 v8)::L)) rfl (AA rfl) kr kr kr kr (by show 4<=52; decide) (IW e103 v101 x2 u1 v94 c55 c53 _ hv108 hT107) ?_;rintro xx hp109 ⟨hqhp109,hT110⟩; subst xx;refine AL rfl (SemY.fr (l':=[(8,e10),(9,e17),(14,.v (.int .i64 c53)),(15,.v (.int .i64 c55))]) kr ?_);refine AD ?_
    have hT111:=((hT110.front 3 rfl).front 1 rfl)
    have hT112:=(NS hT111)
    refine HB 15 he.mixed kr kr ?_;refine RunDT.q (x:=e10) rfl kr rfl (AA rfl) rfl kr kr ?_;refine RunDT.q (x:=e17) rfl kr rfl (AA rfl) rfl kr kr ?_;refine RunDT.q (x:= .v (.int .i64 c53)) rfl kr rfl (AA rfl) rfl kr kr ?_;obtain ⟨v113,hv113,h⟩:=OB h
    have hT114:=(hT112.front 3 rfl)
    refine RunDT.q (x:=eAt e17 c53.toNat) rfl kr rfl (AA rfl) rfl (AF (a:=e17) (b:= .v (.int .i64 c53)) kr kr (Lp (bytes:=16) hT114 kr hv113)) kr ?_;refine RunDT.q (x:=G6 (eAt e17 c53.toNat) 0) rfl kr rfl (AA rfl) rfl (IB (a:=eAt e17 c53.toNat) kr (LK (off:=0) hT114 (AW hv113).2 kr)) kr ?_;refine RunDT.q (x:= .v (.int .i64 v113.1)) rfl kr rfl (AA rfl) rfl (A0 (p:=G6 (eAt e17 c53.toNat) 0) kr (Kb (off:=0) (y:= .v (.int .i64 v113.1)) (m:=1) (g:=false) hT114 (AW hv113).2 kr kr kr)) (Gs (off:=0) (hT112.front 3 rfl) (AW hv113).2 kr) ?_;obtain ⟨v115,hv115,h⟩:=OB h
    have hT116:=(hT114.front 1 rfl)
    refine RunDT.q (x:=eAt e10 v113.1.toNat) rfl kr rfl (AA rfl) rfl (AF (a:=e10) (b:= .v (.int .i64 v113.1)) kr kr (Lp (bytes:=24) hT116 kr hv115)) kr ?_;obtain ⟨e117,hl118,hT119⟩:=IA (P:=Tryd.prog) (ty:=31) hT116 (AW hv115).2 kr kr;refine RunDT.q (x:=e117) rfl kr rfl (AA rfl) rfl (A0 (p:=eAt e10 v113.1.toNat) kr hl118) (MF hT112 (AW hv115).2 kr) ?_;refine RunDT.q (x:=e17) rfl kr rfl (AA rfl) rfl kr kr ?_;refine RunDT.q (x:= .v (.int .i64 c53)) rfl kr rfl (AA rfl) rfl kr kr ?_;obtain ⟨v120,hv120,h⟩:=OB h
    have hT121:=(hT119.front 2 rfl)
    refine RunDT.q (x:=eAt e17 c53.toNat) rfl kr rfl (AA rfl) rfl (AF (a:=e17) (b:= .v (.int .i64 c53)) kr kr (Lp (bytes:=16) hT121 kr hv120)) kr ?_;refine RunDT.q (x:=G6 (eAt e17 c53.toNat) 1) rfl kr rfl (AA rfl) rfl (IB (a:=eAt e17 c53.toNat) kr (LK (off:=1) hT121 (AW hv120).2 kr)) kr ?_;refine RunDT.q (x:= .v (.int .i64 v120.2)) rfl kr rfl (AA rfl) rfl (A0 (p:=G6 (eAt e17 c53.toNat) 1) kr (Kb (off:=1) (y:= .v (.int .i64 v120.2)) (m:=1) (g:=false) hT121 (AW hv120).2 kr kr kr)) (Gs (off:=1) (hT112.front 3 rfl) (AW hv120).2 kr) ?_;refine RunDT.q (x:= .v (.int .i64 c55)) rfl kr rfl (AA rfl) rfl kr kr ?_;obtain ⟨v122,hv122,h⟩:=OB h
    have hT123:=(hT121.front 1 rfl)
    refine RunDT.q (x:=eAt e117 v120.2.toNat) rfl kr rfl (AA rfl) rfl (AF (a:=e117) (b:= .v (.int .i64 v120.2)) kr kr (Lp (bytes:=8) hT123 kr hv122)) kr ?_;refine IF rfl ?_;obtain ⟨hp124,hs125,hT126⟩:=Ic (P:=Tryd.prog) (ty:=3) (y:= .v (.int .i64 c55)) (v':=c55) hT123 (AW hv122).2 kr kr kr;refine RunL.store he (y:=eAt e117 v120.2.toNat) (z:= .v (.int .i64 c55)) rfl (AA rfl) kr kr hs125 ?_;refine AL rfl (SemY.fr (l':=[(8,e10),(9,e17),(14,.v (.int .i64 c53)),(15,.v (.int .i64 c55))]) kr ?_);refine AD ?_
    have hT127:=((hT126.front 2 rfl).front 1 rfl)
    have hT128:=(T.merge hT127)
    refine HB 15 he.mixed kr kr ?_;refine RunDT.q (x:=e10) rfl kr rfl (AA rfl) rfl kr kr ?_;refine RunDT.q (x:=e17) rfl kr rfl (AA rfl) rfl kr kr ?_;refine RunDT.q (x:= .v (.int .i64 c55)) rfl kr rfl (AA rfl) rfl kr kr ?_;obtain ⟨v129,hv129,h⟩:=OB h
    have hT130:=(hT128.front 1 rfl)
    refine RunDT.q (x:=eAt e17 c55.toNat) rfl kr rfl (AA rfl) rfl (AF (a:=e17) (b:= .v (.int .i64 c55)) kr kr (Lp (bytes:=16) hT130 kr hv129)) kr ?_;refine RunDT.q (x:=G6 (eAt e17 c55.toNat) 0) rfl kr rfl (AA rfl) rfl (IB (a:=eAt e17 c55.toNat) kr (LK (off:=0) hT130 (AW hv129).2 kr)) kr ?_;refine RunDT.q (x:= .v (.int .i64 v129.1)) rfl kr rfl (AA rfl) rfl (A0 (p:=G6 (eAt e17 c55.toNat) 0) kr (Kb (off:=0) (y:= .v (.int .i64 v129.1)) (m:=1) (g:=false) hT130 (AW hv129).2 kr kr kr)) (Gs (off:=0) (hT128.front 1 rfl) (AW hv129).2 kr) ?_;obtain ⟨v131,hv131,h⟩:=OB h
    have hT132:=(hT130.front 1 rfl)
    refine RunDT.q (x:=eAt e10 v129.1.toNat) rfl kr rfl (AA rfl) rfl (AF (a:=e10) (b:= .v (.int .i64 v129.1)) kr kr (Lp (bytes:=24) hT132 kr hv131)) kr ?_;obtain ⟨e133,hl134,hT135⟩:=IA (P:=Tryd.prog) (ty:=31) hT132 (AW hv131).2 kr kr;refine RunDT.q (x:=e133) rfl kr rfl (AA rfl) rfl (A0 (p:=eAt e10 v129.1.toNat) kr hl134) (MF hT128 (AW hv131).2 kr) ?_;refine RunDT.q (x:=e17) rfl kr rfl (AA rfl) rfl kr kr ?_;refine RunDT.q (x:= .v (.int .i64 c55)) rfl kr rfl (AA rfl) rfl kr kr ?_;obtain ⟨v136,hv136,h⟩:=OB h
    have hT137:=(hT135.front 2 rfl)
    refine RunDT.q (x:=eAt e17 c55.toNat) rfl kr rfl (AA rfl) rfl (AF (a:=e17) (b:= .v (.int .i64 c55)) kr kr (Lp (bytes:=16) hT137 kr hv136)) kr ?_;refine RunDT.q (x:=G6 (eAt e17 c55.toNat) 1) rfl kr rfl (AA rfl) rfl (IB (a:=eAt e17 c55.toNat) kr (LK (off:=1) hT137 (AW hv136).2 kr)) kr ?_;refine RunDT.q (x:= .v (.int .i64 v136.2)) rfl kr rfl (AA rfl) rfl (A0 (p:=G6 (eAt e17 c55.toNat) 1) kr (Kb (off:=1) (y:= .v (.int .i64 v136.2)) (m:=1) (g:=false) hT137 (AW hv136).2 kr kr kr)) (Gs (off:=1) (hT128.front 1 rfl) (AW hv136).2 kr) ?_;refine RunDT.q (x:= .v (.int .i64 c53)) rfl kr rfl (AA rfl) rfl kr kr ?_;obtain ⟨v138,hv138,h⟩:=OB h
    have hT139:=(hT137.front 1 rfl)
    refine RunDT.q (x:=eAt e133 v136.2.toNat) rfl kr rfl (AA rfl) rfl (AF (a:=e133) (b:= .v (.int .i64 v136.2)) kr kr (Lp (bytes:=8) hT139 kr hv138)) kr ?_;refine IF rfl ?_;obtain ⟨hp140,hs141,hT142⟩:=Ic (P:=Tryd.prog) (ty:=3) (y:= .v (.int .i64 c53)) (v':=c53) hT139 (AW hv138).2 kr kr kr;refine RunL.store he (y:=eAt e133 v136.2.toNat) (z:= .v (.int .i64 c53)) rfl (AA rfl) kr kr hs141 ?_;refine AL rfl (SemY.fr (l':=[]) kr ?_);refine AY he [(6,.v (.bool true))] ?_;refine SemY.ret ?_;have hq:=OI h; subst hq
    have hT149:=((hT142.front 2 rfl).front 1 rfl)
    have hT150:=(T.merge hT149)
    have hT151:=((hT150.front 4 rfl).front 1 rfl)
    have hT152:=(T.merge hT151)
    have hT153:=((hT152.front 1 rfl).drop.front 2 rfl).drop
    exact ⟨rfl,_,⟨hp140,hT153,rfl⟩,WkY.f1⟩
  ·rw [B9 hb56] at h
   refine SemY.exit ?_;have hq:=OI h; subst hq;exact ⟨rfl,_,⟨hp,hT,rfl⟩,WkY.f1⟩
theorem Gl {L:List Asn}(x0:Int) (x1:(List (List (List Int)))) (x2:Int) (x3:(List Int)) (c6:Int) (v8:(List (List Int))) (r50:(List (Int×Int))) (u0:AV) (u1:AV) (e1:AV) (e10:AV) (e17:AV):∀ (f:Nat) (c53:Int) (r:(Unit) ⊕ ((List (List (List Int)))×(List Int))),D1 x0 x1 x2 x3 c6 v8 r50 f c53=some r->∀ (hp:Hp),T hp ((cel e1 2 94 (.ag [.v (.int .i64 x2),u1]))::(own_ (ocL 1 3 (ocV cdI)) u1 x3)::(own_ (ocL 1 31 (ocL 1 3 (ocV cdI))) e10 v8)::(Ob 1 50 (ocL 1 31 (ocL 1 3 (ocV cdI))) u0 x1 c6.toNat e10 v8)::(own_ (ocL 2 137 (ocV (EF cdI cdI (fun _=>rfl) (fun _=>rfl)))) e17 r50)::L)->SemYN AP ⟨none,false⟩ (pc BR [1,0,1,0,0,1,1,0,0,1,1,1,1,0,0]) f ⟨Fr 142 [(0,.v (.int .i64 x0)),(5,e1),(8,e10),(9,e17),(16,u0),(17,.v (.int .i64 (x1.length:Int))),(18,.v (.int .i64 c6)),(46,.v (.int .i64 x0)),(47,.v (.int .i64 c53))],hp⟩ (fun e s=>match r with
 | (.inl _)=>e=(.exit 6)/\∃ s2,(∃ (h':Hp),T h' ((cel e1 2 94 (.ag [.v (.int .i64 x2),u1]))::(own_ (ocL 1 3 (ocV cdI)) u1 x3)::(own_ (ocL 1 50 (ocL 1 31 (ocL 1 3 (ocV cdI)))) u0 x1)::L)/\s2=⟨Fr 142 [(0,.v (.int .i64 x0)),(5,e1),(16,u0),(17,.v (.int .i64 (x1.length:Int))),(18,.v (.int .i64 c6))],h'⟩)/\WkY AP s s2
 | (.inr w)=>e = .ret/\∃ s2,(∃ (h':Hp),T h' ((own_ (ocL 1 50 (ocL 1 31 (ocL 1 3 (ocV cdI)))) u0 w.1)::(own_ (ocL 1 3 (ocV cdI)) u1 w.2)::L)/\s2=⟨Fr 142 [(6,.v (.bool true))],h'⟩)/\WkY AP s s2):=by
 have he:=BH
 intro f;induction f with
 | zero=>intro c53 r h; cases h
 | succ f ih0 =>
  intro c53 r h  hp hT;unfold D1 at h;refine BA ?_
  let p1:Nat×AV:=(47,.v (.int .i64 c53))
  let p2:Nat×AV:=(46,.v (.int .i64 x0))
  let p3:Nat×AV:=(18,.v (.int .i64 c6))
  let p4:Nat×AV:=(17,.v (.int .i64 (x1.length:Int)))
  let p5:Nat×AV:=(0,.v (.int .i64 x0))
  refine AY he [p5,(5,e1),(8,e10),(9,e17),(16,u0),p4,p3,p2,p1,(48,.v (.bool (decide (c53 < x0))))] ?_;refine AD ?_;refine Ab (b:=(decide (c53 < x0))) kr (fun hb54=>?_) (fun hb54=>?_)
  ·rw [if_pos hb54] at h
   refine SemY.skip ?_;refine AD ?_;refine AR ?_;refine AY he [p5,(5,e1),(8,e10),(9,e17),(14,.v (.int .i64 c53)),(16,u0),p4,p3,p2,p1] ?_;refine AY he [p5,(5,e1),(8,e10),(9,e17),(14,.v (.int .i64 c53)),(15,.v (.int .i64 (wr .i64 (c53 + 1)))),(16,u0),p4,p3,p2,p1] ?_;refine AR ?_;refine SemY.loop (n:=100000) ?_;obtain ⟨r155,hr155,h⟩:=OB h;rcases r155 with w156 | w159
   ·try dsimp only at h
    refine A9 (Ad WkY.f1 (Gm x0 x1 x2 x3 c6 v8 r50 c53 u0 u1 e1 e10 e17 _ (wr .i64 (c53 + 1)) _ hr155  hp hT)) ?_;rintro _ ⟨hp157,hT158,rfl⟩;refine AC ?_;refine AH he 2 ?_;refine AL rfl ?_;exact Ad WkY.f1 (ih0 (wr .i64 (c53 + 1)) _ h  hp157 hT158)
   ·try dsimp only at h
    refine A9 (Ad WkY.f1 (Gm x0 x1 x2 x3 c6 v8 r50 c53 u0 u1 e1 e10 e17 _ (wr .i64 (c53 + 1)) _ hr155  hp hT)) ?_;rintro _ ⟨hp160,hT161,rfl⟩;have hq:=OI h; subst hq;exact ⟨rfl,_,⟨hp160,hT161,rfl⟩,WkY.f1⟩
  ·rw [B9 hb54] at h
   refine SemY.exit ?_;have hq:=OI h; subst hq
   have hT166:=((hT.front 3 rfl).front 3 rfl)
   have hT167:=(NS hT166)
   have hT168:=(((hT167.front 3 rfl).drop.front 2 rfl).front 2 rfl)
   exact ⟨rfl,_,⟨hp,hT168,rfl⟩,WkY.f1⟩
theorem Gk {L:List Asn}(x0:Int) (x1:(List (List (List Int)))) (x2:Int) (x3:(List Int)) (u0:AV) (u1:AV) (e1:AV):∀ (f:Nat) (c6:Int) (r:(Unit) ⊕ ((List (List (List Int)))×(List Int))),Dy x0 x1 x2 x3 f c6=some r->∀ (hp:Hp),T hp ((cel e1 2 94 (.ag [.v (.int .i64 x2),u1]))::(own_ (ocL 1 3 (ocV cdI)) u1 x3)::(own_ (ocL 1 50 (ocL 1 31 (ocL 1 3 (ocV cdI)))) u0 x1)::L)->SemYN AP ⟨none,false⟩ (pc BR [1,0,1,0,0]) f ⟨Fr 142 [(0,.v (.int .i64 x0)),(5,e1),(16,u0),(17,.v (.int .i64 (x1.length:Int))),(18,.v (.int .i64 c6))],hp⟩ (fun e s=>match r with
 | (.inl _)=>e=(.exit 0)/\∃ s2,(∃ (h':Hp),T h' ((own_ (ocL 1 50 (ocL 1 31 (ocL 1 3 (ocV cdI)))) u0 x1)::(own_ (ocL 1 3 (ocV cdI)) u1 x3)::L)/\s2=⟨Fr 142 [],h'⟩)/\WkY AP s s2
 | (.inr w)=>e = .ret/\∃ s2,(∃ (h':Hp),T h' ((own_ (ocL 1 50 (ocL 1 31 (ocL 1 3 (ocV cdI)))) u0 w.1)::(own_ (ocL 1 3 (ocV cdI)) u1 w.2)::L)/\s2=⟨Fr 142 [(6,.v (.bool true))],h'⟩)/\WkY AP s s2):=by
 have he:=BH
 intro f;induction f with
 | zero=>intro c6 r h; cases h
 | succ f ih0 =>
  intro c6 r h  hp hT;unfold Dy at h;refine BA ?_
  let p1:Nat×AV:=(18,.v (.int .i64 c6))
  let p2:Nat×AV:=(17,.v (.int .i64 (x1.length:Int)))
  let p3:Nat×AV:=(0,.v (.int .i64 x0))
  refine AY he [p3,(5,e1),(16,u0),p2,p1,(19,.v (.bool (decide (c6 < (x1.length:Int)))))] ?_;refine AD ?_;refine Ab (b:=(decide (c6 < (x1.length:Int)))) kr (fun hb7=>?_) (fun hb7=>?_)
  ·rw [if_pos hb7] at h
   refine SemY.skip ?_;refine AD ?_;refine AR ?_;refine AD ?_;refine AC ?_;obtain ⟨v8,hv8,h⟩:=OB h
   have hT9:=(hT.front 2 rfl)
   refine AG he 0 rfl (Am (AA rfl) rfl (AF (a:=u0) (b:= .v (.int .i64 c6)) kr kr (Lp (bytes:=24) hT9 kr hv8))) ?_;obtain ⟨e10,hl11,hT12⟩:=IA (P:=Tryd.prog) (ty:=50) hT9 (AW hv8).2 kr kr;refine AG he 0 rfl (Am (AA rfl) rfl (A0 (p:=eAt u0 c6.toNat) kr hl11)) ?_;refine AS he [p3,(5,e1),(8,e10),(16,u0),p2,p1] ?_;refine AD ?_;refine AC ?_;refine AH he 1 ?_;by_cases hk13:(OV 16 x0)=true
   case neg=>rw [if_neg hk13] at h; cases h
   rw [if_pos hk13] at h;obtain ⟨e17,hp14,hb15,hT16⟩:=SX (P:=Tryd.prog) (o:=(ocV (EF cdI cdI (fun _=>rfl) (fun _=>rfl)))) (k:=2) (t:=137) (ty:=135) (bytes:=16) (kn:= .i64) (kc:= .i64) (m:=x0) (x0:=(0,0)) hT12 (fun _=>⟨rfl,rfl⟩) kr kr hk13;refine AG he 0 rfl (OW (AA rfl) rfl kr (Ow (x:= .v (.int .i64 x0)) (y:= .v (.int .i64 x0)) kr kr hb15)) ?_;refine AS he [p3,(5,e1),(8,e10),(9,e17),(16,u0),p2,p1] ?_;refine AD ?_;refine AD ?_;refine AC ?_;refine AH he 1 ?_
   have hT18:=(hT16.front 1 rfl)
   refine AG he 0 rfl (Am (AA rfl) rfl (BZ (a:=e10) kr (NJ hT18 kr))) ?_;refine AS he [p3,(5,e1),(8,e10),(9,e17),(16,u0),p2,p1,(24,e10),(25,.v (.int .i64 (v8.length:Int))),(26,.v (.int .i64 0))] ?_;refine AR ?_
   have hT49:=(((((hT18.front 1 rfl).front 2 rfl).front 2 rfl).front 4 rfl).front 4 rfl)
   refine SemY.loop (n:=100000) ?_;obtain ⟨r50,hr50,h⟩:=OB h;refine A9 (Ad WkY.f1 (JZ v8 x0 u0 x1 x2 u1 x3 e1 c6 e10 e17 _ 0 (List.replicate x0.toNat ((0,0):(Int×Int))) _ hr50  hp14 hT49)) ?_;rintro _ ⟨hp51,hT52,rfl⟩;refine AY he [p3,(5,e1),(8,e10),(9,e17),(16,u0),p2,p1,(46,.v (.int .i64 x0)),(47,.v (.int .i64 0))] ?_;refine AR ?_;refine SemY.loop (n:=100000) ?_;obtain ⟨r169,hr169,h⟩:=OB h;rcases r169 with w170 | w173
   ·try dsimp only at h
    refine A9 (Ad WkY.f1 (Gl x0 x1 x2 x3 c6 v8 r50 u0 u1 e1 e10 e17 _ 0 _ hr169  hp51 hT52)) ?_;rintro _ ⟨hp171,hT172,rfl⟩;refine AC ?_;refine AH he 2 ?_;refine AL rfl ?_;exact Ad WkY.f1 (ih0 (wr .i64 (c6 + 1)) _ h  hp171 hT172)
   ·try dsimp only at h
    refine A9 (Ad WkY.f1 (Gl x0 x1 x2 x3 c6 v8 r50 u0 u1 e1 e10 e17 _ 0 _ hr169  hp51 hT52)) ?_;rintro _ ⟨hp174,hT175,rfl⟩;have hq:=OI h; subst hq;exact ⟨rfl,_,⟨hp174,hT175,rfl⟩,WkY.f1⟩
  ·rw [B9 hb7] at h
   refine SemY.exit ?_;have hq:=OI h; subst hq
   have hT178:=(hT.drop.front 1 rfl)
   exact ⟨rfl,_,⟨hp,hT178,rfl⟩,WkY.f1⟩
theorem J8 {L:List Asn}{hp:Hp}(x0:Int) (u0:AV) (x1:(List (List (List Int)))) (x2:Int) (u1:AV) (x3:(List Int)) (r:Bool×(List (List (List Int)))×(List Int)) (h:Gj x0 x1 x2 x3=some r) (hT:T hp ((own_ (ocL 1 50 (ocL 1 31 (ocL 1 3 (ocV cdI)))) u0 x1)::(own_ (ocL 1 3 (ocV cdI)) u1 x3)::L)):SemY AP ⟨none,false⟩ BR ⟨Fr 142 (Av 0 [.v (.int .i64 x0),u0,.ag [.v (.int .i64 x2),u1]]),hp⟩ fun x s'=>(x = .normal\/x = .ret)/\∃ ys,FA AP.P s'.fr s'.hp Tryd.f81.results.toList=some ys/\(fun v h'=>v = .v (.bool r.1)/\T h' ((own_ (ocL 1 50 (ocL 1 31 (ocL 1 3 (ocV cdI)))) u0 r.2.1)::(own_ (ocL 1 3 (ocV cdI)) u1 r.2.2)::L)) (FZ ys) s'.hp:=by
 have he:=BH
 unfold Gj at h
 let p1:Nat×AV:=(0,.v (.int .i64 x0))
 refine Dw (Ef (s1:=⟨Fr 142 [p1,(1,u0),(2,.ag [.v (.int .i64 x2),u1])],hp⟩) WkY.f1 ?_);refine AD ?_;refine AC ?_;obtain ⟨e1,hp2,hb3,hT4⟩:=Nm (t:=94) (a:= .ag [.v (.int .i64 x2),u1]) hT (by have hq:=Ee (hT.front 1 rfl); revert hq; generalize u1=zz; intro hq; cases zz <;> first | (exact (Bool.false_ne_true hq.1).elim) | (exact (Bool.false_ne_true hq.2).elim) | skip; all_goals (first | rfl | kernel_rfl | exact rfl));refine AG he 0 rfl (OW (AA rfl) rfl kr (Ua (z:= .ag [.v (.int .i64 x2),u1]) kr hb3)) ?_;refine AS he [p1,(1,u0),(5,e1)] ?_;refine AD ?_;refine AD ?_;refine AC ?_;refine AH he 1 ?_
 have hT5:=(hT4.front 1 rfl)
 refine AG he 0 rfl (Am (AA rfl) rfl (BZ (a:=u0) kr (NJ hT5 kr))) ?_;refine AS he [p1,(5,e1),(16,u0),(17,.v (.int .i64 (x1.length:Int))),(18,.v (.int .i64 0))] ?_;refine AR ?_
 have hT179:=((hT5.front 2 rfl).front 2 rfl)
 refine SemY.loop (n:=100000) ?_;obtain ⟨r180,hr180,h⟩:=OB h;rcases r180 with w181 | w184
 ·try dsimp only at h
  refine A9 (Ad WkY.f1 (Gk x0 x1 x2 x3 u0 u1 e1 _ 0 _ hr180  hp2 hT179)) ?_;rintro _ ⟨hp182,hT183,rfl⟩;refine AY he [(6,.v (.bool false))] ?_;refine SemY.ret ?_;have hq:=OI h; subst hq;exact ⟨⟨Fr 142 [(6,.v (.bool false))],hp182⟩,WkY.f1,.inr rfl,[.v (.bool false)],kr,⟨rfl,hT183⟩⟩
 ·try dsimp only at h
  refine A9 (Ad WkY.f1 (Gk x0 x1 x2 x3 u0 u1 e1 _ 0 _ hr180  hp2 hT179)) ?_;rintro _ ⟨hp185,hT186,rfl⟩;have hq:=OI h; subst hq;exact ⟨⟨Fr 142 [(6,.v (.bool true))],hp185⟩,WkY.f1,.inr rfl,[.v (.bool true)],kr,⟨rfl,hT186⟩⟩
/- trestle/evening.Polish -/
noncomputable def BM:Env:=(E0.withX 27 EE)
theorem F4:EnvOk BM:=(EnvOk.withX BB Bv.1 Bv.2)
noncomputable def HD:Code:=BK Tryd.f26
def Fp (x0:Int) (x2:Int) (v19:Int×(List Int)):Nat->Int->(List (List (List Int)))->(List Int)->Option ((Int×(List (List (List Int)))))
 | 0,_,_,_=>none
 | f + 1,c27,c28,c29 =>
  (if (decide (c27 < x2))=true then (Gj x0 c28 v19.1 c29).bind fun v32 =>
  some (v32.1,v32.2.1,v32.2.2) else some (false,c28,c29)).bind fun j35 =>
  if j35.1=true then
  Fp x0 x2 v19 f (wr .i64 (c27 + 1)) j35.2.1 j35.2.2
  else
  some (c27,j35.2.1)
def C7 (x0:Int) (x1:(List (List (List Int)))) (x2:Int):Option ((List (List (List Int)))×Int×Int) :=
 (AT x0 [] x1).bind fun v1 =>
 if (v1.2 != 0)=true then
 some (([]:(List (List (List Int)))),0,v1.2)
 else
 if (decide (x2 < 0))=true then
 some (([]:(List (List (List Int)))),0,2)
 else
 (EB x1).bind fun v12 =>
 (Al x0 x1).bind fun v19 =>
 (Fp x0 x2 v19 100000 0 v12 v19.2).bind fun r56 =>
 some (r56.2,r56.1,0)
theorem Lk {L:List Asn}(x0:Int) (x2:Int) (v19:Int×(List Int)) (e13:AV) (e16:AV) (e20:AV):∀ (f:Nat) (c27:Int) (c28:(List (List (List Int)))) (c29:(List Int)) (r:(Int×(List (List (List Int))))),Fp x0 x2 v19 f c27 c28 c29=some r->∀ (hp:Hp),T hp ((own_ (ocL 1 50 (ocL 1 31 (ocL 1 3 (ocV cdI)))) e13 c28)::(cel e20 2 94 (.ag [.v (.int .i64 v19.1),e16]))::(own_ (ocL 1 3 (ocV cdI)) e16 c29)::L)->SemYN BM ⟨none,false⟩ (pc HD [1,1,1,1,1,1,0,0,0]) f ⟨Fr 43 [(0,.v (.int .i64 x0)),(2,.v (.int .i64 x2)),(11,e13),(12,e20),(13,.v (.int .i64 c27))],hp⟩ (fun e s=>e=(.exit 0)/\∃ s2,(∃ (h':Hp),T h' ((own_ (ocL 1 50 (ocL 1 31 (ocL 1 3 (ocV cdI)))) e13 r.2)::L)/\s2=⟨Fr 43 [(11,e13),(13,.v (.int .i64 r.1))],h'⟩)/\WkY BM s s2):=by
 have he:=F4
 intro f;induction f with
 | zero=>intro c27 c28 c29 r h; cases h
 | succ f ih0 =>
  intro c27 c28 c29 r h  hp hT;unfold Fp at h;refine BA ?_;refine AD ?_;refine AD ?_;obtain ⟨j35,hj35,h⟩:=OB h;refine KF (A:=fun s1=>∃ (h':Hp),T h' ((own_ (ocL 1 50 (ocL 1 31 (ocL 1 3 (ocV cdI)))) e13 j35.2.1)::(cel e20 2 94 (.ag [.v (.int .i64 v19.1),e16]))::(own_ (ocL 1 3 (ocV cdI)) e16 j35.2.2)::L)/\s1=⟨Fr 43 [(0,.v (.int .i64 x0)),(2,.v (.int .i64 x2)),(11,e13),(12,e20),(13,.v (.int .i64 c27)),(38,.v (.bool j35.1))],h'⟩) ?_ ?_
  ·refine EW (n:=43) he 4 [(0,.v (.int .i64 x0)),(2,.v (.int .i64 x2)),(11,e13),(12,e20),(13,.v (.int .i64 c27)),(33,.v (.bool (decide (c27 < x2))))] hp kr ?_
   rcases BE (decide (c27 < x2)) with hc54 | hc54
   ·rw [if_pos hc54] at hj35
    rw [hc54];refine AH he 2 ?_
    have hT30:=(hT.front 1 rfl)
    refine AG he 0 rfl (Am kr rfl (A0 (p:=e20) kr (Ka (y:= .ag [.v (.int .i64 v19.1),e16]) (m:=2) (g:=true) hT30 kr kr kr))) ?_;obtain ⟨v32,hv32,hj35⟩:=OB hj35
    have hT31:=((hT30.front 2 rfl).front 2 rfl)
    refine CO (E:=BM) (e:=AP) rfl rfl BH rfl rfl (fid:=81) (caps:=[]) (xs:=[.v (.int .i64 x0),e13,.ag [.v (.int .i64 v19.1),e16]]) (fn:=Tryd.f81) (c:=BR) (Out:=fun v h'=>v = .v (.bool v32.1)/\T h' ((own_ (ocL 1 50 (ocL 1 31 (ocL 1 3 (ocV cdI)))) e13 v32.2.1)::(own_ (ocL 1 3 (ocV cdI)) e16 v32.2.2)::(cel e20 2 94 (.ag [.v (.int .i64 v19.1),e16]))::L)) rfl kr kr kr kr kr (by show 3<=142; decide) (J8 x0 e13 c28 v19.1 e16 c29 _ hv32 hT31) ?_;rintro xx hp33 ⟨hqhp33,hT34⟩; subst xx;refine AH he 1 ?_;have hq:=OI hj35; subst hq
    have hT47:=(((hT34.front 1 rfl).front 2 rfl).front 2 rfl)
    exact AL rfl ⟨_,⟨hp33,hT47,rfl⟩,WkY.f1⟩
   ·rw [B9 hc54] at hj35
    rw [hc54];refine AH he 5 ?_;have hq:=OI hj35; subst hq;exact AL rfl ⟨_,⟨hp,hT,rfl⟩,WkY.f1⟩
  rintro _ ⟨hp48,hT49,rfl⟩;refine Ab (b:=j35.1) kr (fun hb50=>?_) (fun hb50=>?_)
  ·rw [if_pos hb50] at h
   refine SemY.skip ?_;refine AR ?_;refine AC ?_;refine AH he 3 ?_;refine AL rfl ?_;exact Ad WkY.f1 (ih0 (wr .i64 (c27 + 1)) j35.2.1 j35.2.2 _ h  hp48 hT49)
  ·rw [B9 hb50] at h
   refine SemY.exit ?_;have hq:=OI h; subst hq
   have hT53:=((hT49.front 1 rfl).drop.front 1 rfl).drop
   exact ⟨rfl,_,⟨hp48,hT53,rfl⟩,WkY.f1⟩
theorem L8 {L:List Asn}{hp:Hp}(x0:Int) (x1:(List (List (List Int)))) (x2:Int) (r:(List (List (List Int)))×Int×Int) (h:C7 x0 x1 x2=some r) (hT:T hp (L)):SemY BM ⟨none,false⟩ HD ⟨Fr 43 (Av 0 [.v (.int .i64 x0),.sl 1 (x1.map (cdL 1 (cdL 1 cdI)).enc),.v (.int .i64 x2)]),hp⟩ fun x s'=>(x = .normal\/x = .ret)/\∃ ys,FA BM.P s'.fr s'.hp Tryd.f26.results.toList=some ys/\(fun v h'=>v = .tp [.sl 1 (r.1.map (cdL 1 (cdL 1 cdI)).enc),.v (.int .i64 r.2.1),.v (.int .i64 r.2.2)]/\T h' (L)) (FZ ys) s'.hp:=by
 have he:=F4
 unfold C7 at h
 let p1:Nat×AV:=(2,.v (.int .i64 x2))
 let p2:Nat×AV:=(1,.sl 1 (x1.map (cdL 1 (cdL 1 cdI)).enc))
 let p3:Nat×AV:=(0,.v (.int .i64 x0))
 refine Dw (Ef (s1:=⟨Fr 43 [p3,p2,p1],hp⟩) WkY.f1 ?_);refine AY he [p3,p2,p1] ?_;refine AD ?_;refine AD ?_;refine AC ?_;refine AH he 2 ?_;obtain ⟨v1,hv1,h⟩:=OB h;refine RunL.call he (fid:=27) (b:=v1) (s:=BT) (F:=fun a=>AT a.1 a.2.1 a.2.2.1) (er:=BX) (xs:=[.v (.int .i64 x0),.e0,.sl 1 (x1.map (cdL 1 (cdL 1 cdI)).enc)]) (a:=(x0,[],x1,())) rfl (AA rfl) kr kr kr kr (Sns.cons (Sn.enc (c:=cdI) (v:=x0)) (Sns.cons Sn.e0 (Sns.cons (Sn.enc (c:=(cdL 1 (cdL 1 (cdL 1 cdI)))) (v:=x1)) Sns.nil))) (.inl kr) hv1 ?_;refine AS he [p3,p2,p1,(10,.v (.int .i64 v1.2))] ?_;refine AY he [p3,p2,p1,(10,.v (.int .i64 v1.2)),(21,.v (.bool (v1.2 != 0)))] ?_;refine Ab (b:=(v1.2 != 0)) kr (fun hb2=>?_) (fun hb2=>?_)
 ·rw [if_pos hb2] at h
  let p4:Nat×AV:=(8,.v (.int .i64 v1.2))
  let p5:Nat×AV:=(7,.v (.int .i64 0))
  refine AY he [(6,.e0),p5,p4] ?_;refine SemY.ret ?_;have hq:=OI h; subst hq
  have hT3:=(T.e0 (k:=1) (ty:=50) (o:=(ocL 1 31 (ocL 1 3 (ocV cdI)))) hT)
  let p6:Nat×AV:=(6,.sl 1 (([]:(List (List (List Int)))).map (cdL 1 (cdL 1 cdI)).enc))
  obtain ⟨hp4,hw5,hT6⟩:=DK (E:=BM) (n:=43) (l:=[(6,.e0),p5,p4]) (l':=[p6,p5,p4]) hT3 (LkT.at_ ⟨.inr ⟨kr,rfl⟩,.inl kr,.inl kr,trivial⟩);exact ⟨⟨Fr 43 [p6,p5,p4],hp4⟩,(WkY.trans (WkY.trans WkY.f1 hw5) WkY.f1),.inr rfl,[.sl 1 (([]:(List (List (List Int)))).map (cdL 1 (cdL 1 cdI)).enc),.v (.int .i64 0),.v (.int .i64 v1.2)],kr,⟨rfl,hT6⟩⟩
 ·rw [B9 hb2] at h
  refine SemY.skip ?_;refine AD ?_;refine AY he [p3,p2,p1,(24,.v (.bool (decide (x2 < 0))))] ?_;refine Ab (b:=(decide (x2 < 0))) kr (fun hb7=>?_) (fun hb7=>?_)
  ·rw [if_pos hb7] at h
   let p7:Nat×AV:=(8,.v (.int .i64 2))
   let p8:Nat×AV:=(7,.v (.int .i64 0))
   refine AY he [(6,.e0),p8,p7] ?_;refine SemY.ret ?_;have hq:=OI h; subst hq
   have hT8:=(T.e0 (k:=1) (ty:=50) (o:=(ocL 1 31 (ocL 1 3 (ocV cdI)))) hT)
   let p9:Nat×AV:=(6,.sl 1 (([]:(List (List (List Int)))).map (cdL 1 (cdL 1 cdI)).enc))
   obtain ⟨hp9,hw10,hT11⟩:=DK (E:=BM) (n:=43) (l:=[(6,.e0),p8,p7]) (l':=[p9,p8,p7]) hT8 (LkT.at_ ⟨.inr ⟨kr,rfl⟩,.inl kr,.inl kr,trivial⟩);exact ⟨⟨Fr 43 [p9,p8,p7],hp9⟩,(WkY.trans (WkY.trans WkY.f1 hw10) WkY.f1),.inr rfl,[.sl 1 (([]:(List (List (List Int)))).map (cdL 1 (cdL 1 cdI)).enc),.v (.int .i64 0),.v (.int .i64 2)],kr,⟨rfl,hT11⟩⟩
  ·rw [B9 hb7] at h
   refine SemY.skip ?_;refine AD ?_;refine AC ?_;refine AH he 1 ?_;obtain ⟨v12,hv12,h⟩:=OB h;refine CO (E:=BM) (e:=A4) rfl rfl Bi rfl rfl (fid:=79) (caps:=[]) (xs:=[.sl 1 (x1.map (cdL 1 (cdL 1 cdI)).enc)]) (fn:=Tryd.f79) (c:=CB) (Out:=fun v h'=>∃ (z0:AV),v=z0/\T h' ((own_ (ocL 1 50 (ocL 1 31 (ocL 1 3 (ocV cdI)))) z0 v12)::L)) rfl (AA rfl) kr kr kr kr (by show 1<=33; decide) (ET x1 _ hv12 hT) ?_;rintro xx hp14 ⟨e13,hqhp14,hT15⟩; subst xx;refine AS he [p3,p2,p1,(11,e13)] ?_;refine AD ?_;refine AC ?_;refine AH he 2 ?_;obtain ⟨v19,hv19,h⟩:=OB h;refine I2 rfl rfl (ML x0 x1 _ hv19) rfl (AA rfl) kr (xs:=[.v (.int .i64 x0),.sl 1 (x1.map (cdL 1 (cdL 1 cdI)).enc)]) kr (Sees.cons (SeeV.enc (c:=cdI)) (Sees.cons (SeeV.enc (c:=(cdL 1 (cdL 1 (cdL 1 cdI))))) Sees.nil)) Uk ?_;intro x h' hO; obtain ⟨e16,hp17,e16q,hp17q,hT18⟩:=WI hT15 hO; rw [<-e16q,<-hp17q];obtain ⟨e20,hp21,hb22,hT23⟩:=Nm (t:=94) (a:= .ag [.v (.int .i64 0),.e0]) hT18 kr;refine AG he 0 rfl (OW (AA rfl) rfl kr (UZ (z:= .ag [.v (.int .i64 0),.e0]) kr hb22)) ?_;obtain ⟨hp24,hs25,hT26⟩:=Ul (P:=Tryd.prog) (ty:=94) (y:= .ag [.v (.int .i64 v19.1),e16]) (a':= .ag [.v (.int .i64 v19.1),e16]) hT23 (by have hq:=Ee (hT23.front 1 rfl); revert hq; generalize e16=zz; intro hq; cases zz <;> first | (exact (Bool.false_ne_true hq.1).elim) | (exact (Bool.false_ne_true hq.2).elim) | skip; all_goals (first | rfl | kernel_rfl | exact rfl)) (by have hq:=Ee (hT23.front 1 rfl); revert hq; generalize e16=zz; intro hq; cases zz <;> first | (exact (Bool.false_ne_true hq.1).elim) | (exact (Bool.false_ne_true hq.2).elim) | skip; all_goals (first | rfl | kernel_rfl | exact rfl)) (by have hq:=Ee (hT23.front 1 rfl); revert hq; generalize e16=zz; intro hq; cases zz <;> first | (exact (Bool.false_ne_true hq.1).elim) | (exact (Bool.false_ne_true hq.2).elim) | skip; all_goals (first | rfl | kernel_rfl | exact rfl));refine RunL.store he (y:=e20) (z:= .ag [.v (.int .i64 v19.1),e16]) rfl (AA rfl) kr kr hs25 ?_
   refine AL rfl (SemY.fr (l':=[p3,p1,(11,e13),(12,e20)]) kr ?_);refine AY he [p3,p1,(11,e13),(12,e20),(13,.v (.int .i64 0))] ?_;refine AD ?_;refine AR ?_
   have hT55:=(((hT26.front 1 rfl).front 1 rfl).front 2 rfl)
   refine SemY.loop (n:=100000) ?_;obtain ⟨r56,hr56,h⟩:=OB h;refine A9 (Ad WkY.f1 (Lk x0 x2 v19 e13 e16 e20 _ 0 v12 v19.2 _ hr56  hp24 hT55)) ?_;rintro _ ⟨hp57,hT58,rfl⟩
   let p10:Nat×AV:=(8,.v (.int .i64 0))
   let p11:Nat×AV:=(7,.v (.int .i64 r56.1))
   refine AY he [(6,e13),p11,p10] ?_;refine SemY.ret ?_;have hq:=OI h; subst hq
   let p12:Nat×AV:=(6,.sl 1 (r56.2.map (cdL 1 (cdL 1 cdI)).enc))
   obtain ⟨hp59,hw60,hT61⟩:=DK (E:=BM) (n:=43) (l:=[(6,e13),p11,p10]) (l':=[p12,p11,p10]) hT58 (LkT.at_ ⟨.inr ⟨kr,rfl⟩,.inl kr,.inl kr,trivial⟩);exact ⟨⟨Fr 43 [p12,p11,p10],hp59⟩,(WkY.trans (WkY.trans WkY.f1 hw60) WkY.f1),.inr rfl,[.sl 1 (r56.2.map (cdL 1 (cdL 1 cdI)).enc),.v (.int .i64 r56.1),.v (.int .i64 0)],kr,⟨rfl,hT61⟩⟩
def HF:Cs (Int×(List (List (List Int)))×Int×Unit):=(csC cdI (csC (cdL 1 (cdL 1 (cdL 1 cdI))) (csC cdI csN)))
def HJ (r:(List (List (List Int)))×Int×Int):AV:= .tp [(cdL 1 (cdL 1 (cdL 1 cdI))).enc r.1,cdI.enc r.2.1,cdI.enc r.2.2]
def Jw:List AV->Option AV:=GP HF (fun a=>C7 a.1 a.2.1 a.2.2.1) HJ
theorem J0:XOk 26 Jw:=by
 refine EnvOk.x (E:=BM) (Af F4 (fn:=Tryd.f26) (c:=HD) ?h1 ?h2 ⟨Tryd.call26⟩ HF (fun a=>C7 a.1 a.2.1 a.2.2.1) HJ (fun a=>(by show 3<=43; decide)) ?h3 ?h4) rfl rfl
 case h1=>kernel_rfl
 case h2=>kernel_rfl
 case h3=>intro b; kernel_rfl
 case h4 =>
  intro a b h;refine Sem.mono (Nj (L8 (L:=[]) (hp:=[]) a.1 a.2.1 a.2.2.1 b h T.nil)) fun e s' hs=>?_
  obtain ⟨h1,ys,h2,h3,-⟩:=hs;exact ⟨h1,ys,h2,h3⟩
/- trestle/evening.Join -/
noncomputable def BV:Env:=(E0.withX 27 EE)
theorem HH:EnvOk BV:=(EnvOk.withX BB Bv.1 Bv.2)
noncomputable def IK:Code:=BK Tryd.f30
def C6 (x0:Int) (x1:(List (List (List Int)))) (x2:(List (List (List Int)))):Nat->Int->Option ((Unit) ⊕ (Int))
 | 0,_=>none
 | f + 1,c5 =>
  if (decide (c5 < (([x1,x2]:List (List (List (List Int)))).length:Int)))=true then
  (idx ([x1,x2]:List (List (List (List Int)))) c5).bind fun v7 =>
  (AT x0 [] v7).bind fun v8 =>
  if (v8.2 != 0)=true then
  some (.inr v8.2)
  else
  C6 x0 x1 x2 f (wr .i64 (c5 + 1))
  else
  some (.inl ())
def EJ (x0:Int) (x1:(List (List (List Int)))) (x2:(List (List (List Int)))):Option ((List (List (List Int)))×Int) :=
 (C6 x0 x1 x2 100000 0).bind fun r13 =>
 match r13 with
 | (.inl _w14) =>
  if (decide ((wr .i64 ((x1.length:Int) + (x2.length:Int))) > 64))=true then
  some (([]:(List (List (List Int)))),7)
  else
  (EB x1).bind fun v22 =>
  (EB x2).bind fun v26 =>
  if (Bb 24 (v22.length + v26.length))=true then
  some ((v22++v26),0)
  else none
 | (.inr w39) =>
  some (([]:(List (List (List Int)))),w39)
theorem JA {L:List Asn}(x0:Int) (x1:(List (List (List Int)))) (x2:(List (List (List Int)))) (e4:AV):∀ (f:Nat) (c5:Int) (r:(Unit) ⊕ (Int)),C6 x0 x1 x2 f c5=some r->∀ (hp:Hp),T hp ((own_ (ocL 1 22 (ocV (cdL 1 (cdL 1 (cdL 1 cdI))))) e4 ([x1,x2]:List (List (List (List Int)))))::L)->SemYN BV ⟨none,false⟩ (pc IK [1,0,1,0,0]) f ⟨Fr 41 [(0,.v (.int .i64 x0)),(1,.sl 1 (x1.map (cdL 1 (cdL 1 cdI)).enc)),(2,.sl 1 (x2.map (cdL 1 (cdL 1 cdI)).enc)),(14,e4),(15,.v (.int .i64 (([x1,x2]:List (List (List (List Int)))).length:Int))),(16,.v (.int .i64 c5))],hp⟩ (fun e s=>match r with
 | (.inl _)=>e=(.exit 0)/\∃ s2,(∃ (h':Hp),T h' (L)/\s2=⟨Fr 41 [(1,.sl 1 (x1.map (cdL 1 (cdL 1 cdI)).enc)),(2,.sl 1 (x2.map (cdL 1 (cdL 1 cdI)).enc))],h'⟩)/\WkY BV s s2
 | (.inr w)=>e = .ret/\∃ s2,(∃ (h':Hp),T h' (L)/\s2=⟨Fr 41 [(6,.e0),(7,.v (.int .i64 w))],h'⟩)/\WkY BV s s2):=by
 have he:=HH
 intro f;induction f with
 | zero=>intro c5 r h; cases h
 | succ f ih0 =>
  intro c5 r h  hp hT;unfold C6 at h;refine BA ?_
  let p1:Nat×AV:=(16,.v (.int .i64 c5))
  let p2:Nat×AV:=(15,.v (.int .i64 (([x1,x2]:List (List (List (List Int)))).length:Int)))
  let p3:Nat×AV:=(2,.sl 1 (x2.map (cdL 1 (cdL 1 cdI)).enc))
  let p4:Nat×AV:=(1,.sl 1 (x1.map (cdL 1 (cdL 1 cdI)).enc))
  let p5:Nat×AV:=(0,.v (.int .i64 x0))
  refine AY he [p5,p4,p3,(14,e4),p2,p1,(17,.v (.bool (decide (c5 < (([x1,x2]:List (List (List (List Int)))).length:Int)))))] ?_;refine AD ?_;refine Ab (b:=(decide (c5 < (([x1,x2]:List (List (List (List Int)))).length:Int)))) kr (fun hb6=>?_) (fun hb6=>?_)
  ·rw [if_pos hb6] at h
   refine SemY.skip ?_;refine AD ?_;refine AR ?_;refine AD ?_;refine AC ?_;obtain ⟨v7,hv7,h⟩:=OB h;refine AG he 0 rfl (Am (AA rfl) rfl (AF (a:=e4) (b:= .v (.int .i64 c5)) kr kr (Lp (bytes:=24) hT kr hv7))) ?_;refine AG he 0 rfl (Am (AA rfl) rfl (A0 (p:=eAt e4 c5.toNat) kr (Kc (y:= .sl 1 (v7.map (cdL 1 (cdL 1 cdI)).enc)) (m:=1) (g:=false) hT (AW hv7).2 kr kr kr))) ?_;refine AS he [p5,p4,p3,(9,.sl 1 (v7.map (cdL 1 (cdL 1 cdI)).enc)),(14,e4),p2,p1] ?_;refine AD ?_;refine AC ?_;refine AH he 2 ?_;obtain ⟨v8,hv8,h⟩:=OB h;refine RunL.call he (fid:=27) (b:=v8) (s:=BT) (F:=fun a=>AT a.1 a.2.1 a.2.2.1) (er:=BX) (xs:=[.v (.int .i64 x0),.e0,.sl 1 (v7.map (cdL 1 (cdL 1 cdI)).enc)]) (a:=(x0,[],v7,())) rfl (AA rfl) kr kr kr kr (Sns.cons (Sn.enc (c:=cdI) (v:=x0)) (Sns.cons Sn.e0 (Sns.cons (Sn.enc (c:=(cdL 1 (cdL 1 (cdL 1 cdI)))) (v:=v7)) Sns.nil))) (.inl kr) hv8 ?_;refine AS he [p5,p4,p3,(11,.v (.int .i64 v8.2)),(14,e4),p2,p1] ?_;refine AY he [p5,p4,p3,(11,.v (.int .i64 v8.2)),(14,e4),p2,p1,(27,.v (.bool (v8.2 != 0)))] ?_;refine Ab (b:=(v8.2 != 0)) kr (fun hb9=>?_) (fun hb9=>?_)
   ·rw [if_pos hb9] at h
    refine AY he [(6,.e0),(7,.v (.int .i64 v8.2))] ?_;refine SemY.ret ?_;have hq:=OI h; subst hq
    have hT11:=hT.drop
    exact ⟨rfl,_,⟨hp,hT11,rfl⟩,WkY.f1⟩
   ·rw [B9 hb9] at h
    refine SemY.skip ?_;refine AC ?_;refine AH he 2 ?_;refine AL rfl ?_;exact Ad WkY.f1 (ih0 (wr .i64 (c5 + 1)) _ h  hp hT)
  ·rw [B9 hb6] at h
   refine SemY.exit ?_;have hq:=OI h; subst hq
   have hT12:=hT.drop
   exact ⟨rfl,_,⟨hp,hT12,rfl⟩,WkY.f1⟩
theorem NB {L:List Asn}{hp:Hp}(x0:Int) (x1:(List (List (List Int)))) (x2:(List (List (List Int)))) (r:(List (List (List Int)))×Int) (h:EJ x0 x1 x2=some r) (hT:T hp (L)):SemY BV ⟨none,false⟩ IK ⟨Fr 41 (Av 0 [.v (.int .i64 x0),.sl 1 (x1.map (cdL 1 (cdL 1 cdI)).enc),.sl 1 (x2.map (cdL 1 (cdL 1 cdI)).enc)]),hp⟩ fun x s'=>(x = .normal\/x = .ret)/\∃ ys,FA BV.P s'.fr s'.hp Tryd.f30.results.toList=some ys/\(fun v h'=>v = .tp [.sl 1 (r.1.map (cdL 1 (cdL 1 cdI)).enc),.v (.int .i64 r.2)]/\T h' (L)) (FZ ys) s'.hp:=by
 have he:=HH
 unfold EJ at h
 let p1:Nat×AV:=(2,.sl 1 (x2.map (cdL 1 (cdL 1 cdI)).enc))
 let p2:Nat×AV:=(1,.sl 1 (x1.map (cdL 1 (cdL 1 cdI)).enc))
 let p3:Nat×AV:=(0,.v (.int .i64 x0))
 refine Dw (Ef (s1:=⟨Fr 41 [p3,p2,p1],hp⟩) WkY.f1 ?_);refine AY he [p3,p2,p1] ?_;refine AD ?_;refine AD ?_;refine AC ?_;refine AH he 2 ?_;obtain ⟨e4,hp1,hb2,hT3⟩:=Ft (P:=Tryd.prog) (bytes:=24) (k:=1) (t:=22) (ty:=89) (xs:=([x1,x2]:List (List (List (List Int))))) (n:=2) (PJ (k:=1) (fun _=>⟨rfl,rfl,rfl⟩)) (Fh (c:=(cdL 1 (cdL 1 (cdL 1 cdI)))) (xs:=([x1,x2]:List (List (List (List Int))))) hT) rfl kr kr kr;refine AG he 0 rfl (OW (AA rfl) rfl kr (NL (xs:=J5 0 [.sl 1 (x1.map (cdL 1 (cdL 1 cdI)).enc),.sl 1 (x2.map (cdL 1 (cdL 1 cdI)).enc)]) kr hb2)) ?_;refine AG he 0 rfl (Am (AA rfl) rfl (BZ (a:=e4) kr (NJ hT3 kr))) ?_;refine AS he [p3,p2,p1,(14,e4),(15,.v (.int .i64 (([x1,x2]:List (List (List (List Int)))).length:Int))),(16,.v (.int .i64 0))] ?_;refine AR ?_;refine SemY.loop (n:=100000) ?_;obtain ⟨r13,hr13,h⟩:=OB h;rcases r13 with w14 | w39
 ·try dsimp only at h
  refine A9 (Ad WkY.f1 (JA x0 x1 x2 e4 _ 0 _ hr13  hp1 hT3)) ?_;rintro _ ⟨hp15,hT16,rfl⟩;refine AD ?_;refine AD ?_;refine AC ?_;refine AH he 1 ?_;refine AG he 0 rfl (Am (AA rfl) rfl (BZ (a:= .sl 1 (x1.map (cdL 1 (cdL 1 cdI)).enc)) kr (Aw (el:=50) kr))) ?_;refine AH he 1 ?_;refine AG he 0 rfl (Am (AA rfl) rfl (BZ (a:= .sl 1 (x2.map (cdL 1 (cdL 1 cdI)).enc)) kr (Aw (el:=50) kr))) ?_;refine AS he [p2,p1,(35,.v (.bool (decide ((wr .i64 ((x1.length:Int) + (x2.length:Int))) > 64))))] ?_;refine Ab (b:=(decide ((wr .i64 ((x1.length:Int) + (x2.length:Int))) > 64))) kr (fun hb17=>?_) (fun hb17=>?_)
  ·rw [if_pos hb17] at h
   let p4:Nat×AV:=(7,.v (.int .i64 7))
   refine AY he [(6,.e0),p4] ?_;refine SemY.ret ?_;have hq:=OI h; subst hq
   have hT18:=(T.e0 (k:=1) (ty:=50) (o:=(ocL 1 31 (ocL 1 3 (ocV cdI)))) hT16)
   let p5:Nat×AV:=(6,.sl 1 (([]:(List (List (List Int)))).map (cdL 1 (cdL 1 cdI)).enc))
   obtain ⟨hp19,hw20,hT21⟩:=DK (E:=BV) (n:=41) (l:=[(6,.e0),p4]) (l':=[p5,p4]) hT18 (LkT.at_ ⟨.inr ⟨kr,rfl⟩,.inl kr,trivial⟩);exact ⟨⟨Fr 41 [p5,p4],hp19⟩,(WkY.trans (WkY.trans WkY.f1 hw20) WkY.f1),.inr rfl,[.sl 1 (([]:(List (List (List Int)))).map (cdL 1 (cdL 1 cdI)).enc),.v (.int .i64 7)],kr,⟨rfl,hT21⟩⟩
  ·rw [B9 hb17] at h
   refine SemY.skip ?_;refine AD ?_;refine AC ?_;refine AH he 1 ?_;obtain ⟨v22,hv22,h⟩:=OB h;refine CO (E:=BV) (e:=A4) rfl rfl Bi rfl rfl (fid:=79) (caps:=[]) (xs:=[.sl 1 (x1.map (cdL 1 (cdL 1 cdI)).enc)]) (fn:=Tryd.f79) (c:=CB) (Out:=fun v h'=>∃ (z0:AV),v=z0/\T h' ((own_ (ocL 1 50 (ocL 1 31 (ocL 1 3 (ocV cdI)))) z0 v22)::L)) rfl (AA rfl) kr kr kr kr (by show 1<=33; decide) (ET x1 _ hv22 hT16) ?_;rintro xx hp24 ⟨e23,hqhp24,hT25⟩; subst xx;refine AH he 1 ?_;obtain ⟨v26,hv26,h⟩:=OB h;refine CO (E:=BV) (e:=A4) rfl rfl Bi rfl rfl (fid:=79) (caps:=[]) (xs:=[.sl 1 (x2.map (cdL 1 (cdL 1 cdI)).enc)]) (fn:=Tryd.f79) (c:=CB) (Out:=fun v h'=>∃ (z0:AV),v=z0/\T h' ((own_ (ocL 1 50 (ocL 1 31 (ocL 1 3 (ocV cdI)))) z0 v26)::(own_ (ocL 1 50 (ocL 1 31 (ocL 1 3 (ocV cdI)))) e23 v22)::L)) rfl (AA rfl) kr kr kr kr (by show 1<=33; decide) (ET x2 _ hv26 hT25) ?_;rintro xx hp28 ⟨e27,hqhp28,hT29⟩; subst xx;by_cases hk34:(Bb 24 (v22.length + v26.length))=true
   case neg=>rw [if_neg hk34] at h; cases h
   rw [if_pos hk34] at h
   have hT35:=((hT29.front 0 rfl).front 1 rfl)
   obtain ⟨e33,hp30,hb31,hT32⟩:=If (P:=Tryd.prog) (ty:=22) (ty2:=22) (bytes:=24) hT35 kr kr hk34;refine AG he 0 rfl (Ox (AA rfl) rfl kr kr (DO (a:=e23) (b:=e27) kr kr hb31)) ?_
   let p6:Nat×AV:=(7,.v (.int .i64 0))
   refine AS he [(6,e33),p6] ?_;refine SemY.ret ?_;have hq:=OI h; subst hq
   let p7:Nat×AV:=(6,.sl 1 ((v22++v26).map (cdL 1 (cdL 1 cdI)).enc))
   obtain ⟨hp36,hw37,hT38⟩:=DK (E:=BV) (n:=41) (l:=[(6,e33),p6]) (l':=[p7,p6]) hT32 (LkT.at_ ⟨.inr ⟨kr,rfl⟩,.inl kr,trivial⟩);exact ⟨⟨Fr 41 [p7,p6],hp36⟩,(WkY.trans (WkY.trans WkY.f1 hw37) WkY.f1),.inr rfl,[.sl 1 ((v22++v26).map (cdL 1 (cdL 1 cdI)).enc),.v (.int .i64 0)],kr,⟨rfl,hT38⟩⟩
 ·try dsimp only at h
  refine A9 (Ad WkY.f1 (JA x0 x1 x2 e4 _ 0 _ hr13  hp1 hT3)) ?_;rintro _ ⟨hp40,hT41,rfl⟩;have hq:=OI h; subst hq
  have hT42:=(T.e0 (k:=1) (ty:=50) (o:=(ocL 1 31 (ocL 1 3 (ocV cdI)))) hT41)
  let p8:Nat×AV:=(7,.v (.int .i64 w39))
  let p9:Nat×AV:=(6,.sl 1 (([]:(List (List (List Int)))).map (cdL 1 (cdL 1 cdI)).enc))
  obtain ⟨hp43,hw44,hT45⟩:=DK (E:=BV) (n:=41) (l:=[(6,.e0),p8]) (l':=[p9,p8]) hT42 (LkT.at_ ⟨.inr ⟨kr,rfl⟩,.inl kr,trivial⟩);exact ⟨⟨Fr 41 [p9,p8],hp43⟩,(WkY.trans (WkY.trans WkY.f1 hw44) WkY.f1),.inr rfl,[.sl 1 (([]:(List (List (List Int)))).map (cdL 1 (cdL 1 cdI)).enc),.v (.int .i64 w39)],kr,⟨rfl,hT45⟩⟩
def IN:Cs (Int×(List (List (List Int)))×(List (List (List Int)))×Unit):=(csC cdI (csC (cdL 1 (cdL 1 (cdL 1 cdI))) (csC (cdL 1 (cdL 1 (cdL 1 cdI))) csN)))
def IS (r:(List (List (List Int)))×Int):AV:= .tp [(cdL 1 (cdL 1 (cdL 1 cdI))).enc r.1,cdI.enc r.2]
def LN:List AV->Option AV:=GP IN (fun a=>EJ a.1 a.2.1 a.2.2.1) IS
theorem LU:XOk 30 LN:=by
 refine EnvOk.x (E:=BV) (Af HH (fn:=Tryd.f30) (c:=IK) ?h1 ?h2 ⟨Tryd.call30⟩ IN (fun a=>EJ a.1 a.2.1 a.2.2.1) IS (fun a=>(by show 3<=41; decide)) ?h3 ?h4) rfl rfl
 case h1=>kernel_rfl
 case h2=>kernel_rfl
 case h3=>intro b; kernel_rfl
 case h4 =>
  intro a b h;refine Sem.mono (Nj (NB (L:=[]) (hp:=[]) a.1 a.2.1 a.2.2.1 b h T.nil)) fun e s' hs=>?_
  obtain ⟨h1,ys,h2,h3,-⟩:=hs;exact ⟨h1,ys,h2,h3⟩
/- (trestle/evening.square[int]).rows -/
noncomputable def BP:Env:=(E0.withX 20 H0)
theorem C1:EnvOk BP:=(EnvOk.withX BB H2.1 H2.2)
noncomputable def DR:Code:=BK Tryd.f84
def CY (x0:(Int×(List Int))):Nat->(List (List Int))->Int->Option (((List (List Int))))
 | 0,_,_=>none
 | f + 1,c1,c2 =>
  if (decide (c2 < x0.1))=true then
  if (HG (wr .i64 (c2 * x0.1)) (wr .i64 ((wr .i64 (c2 + 1)) * x0.1)) x0.2.length)=true then
  (Cm ((x0.2.take (wr .i64 ((wr .i64 (c2 + 1)) * x0.1)).toNat).drop (wr .i64 (c2 * x0.1)).toNat)).bind fun v5 =>
  if (Bb 24 (c1.length + 1))=true then
  CY x0 f (c1++[v5]) (wr .i64 (c2 + 1))
  else none
  else none
  else
  some c1
def Ay (x0:(Int×(List Int))):Option ((List (List Int))) :=
 (CY x0 100000 [] 0).bind fun r8 =>
 some r8
def Bf:Cs ((Int×(List Int))×Unit):=(csC (EF cdI (cdL 1 cdI) (fun _=>rfl) (fun _=>rfl)) csN)
def Bg (r:(List (List Int))):AV:=(cdL 1 (cdL 1 cdI)).enc r
theorem H8 (x0:(Int×(List Int))):∀ (f:Nat) (c1:(List (List Int))) (c2:Int) (r:((List (List Int)))),CY x0 f c1 c2=some r->SemN BP ⟨none,false⟩ (pc DR [1,1,0,1,0,0]) f ⟨Fr 28 [(1,.pt 0 0 0),(3,hd 1 (c1.map (cdL 1 cdI).enc)),(6,.v (.int .i64 x0.1)),(7,.v (.int .i64 c2))],[some ⟨2,94,[.ag [.v (.int .i64 x0.1),.sl 1 (x0.2.map cdI.enc)]],false⟩,mk 1 31 (c1.map (cdL 1 cdI).enc)]⟩ (fun e s=>e=(.exit 0)/\Wk BP s ⟨Fr 28 [(3,hd 0 (r.map (cdL 1 cdI).enc))],[mk 1 31 (r.map (cdL 1 cdI).enc)]⟩):=by
 have he:=C1
 intro f;induction f with
 | zero=>intro c1 c2 r h; cases h
 | succ f ih0 =>
  intro c1 c2 r h
  have ih:=fun (c1:(List (List Int))) (c2:Int)=>ih0 c1 c2 r
  unfold CY at h;refine BJ ?_
  let p1:Option Blk:=mk 1 31 (c1.map (cdL 1 cdI).enc)
  let p2:Option Blk:=some ⟨2,94,[.ag [.v (.int .i64 x0.1),.sl 1 (x0.2.map cdI.enc)]],false⟩
  let p3:Nat×AV:=(7,.v (.int .i64 c2))
  let p4:Nat×AV:=(6,.v (.int .i64 x0.1))
  let p5:Nat×AV:=(3,hd 1 (c1.map (cdL 1 cdI).enc))
  let p6:Nat×AV:=(1,.pt 0 0 0)
  refine AN he [p6,p5,p4,p3,(8,.v (.bool (decide (c2 < x0.1))))] [p2,p1] ?_;refine AE ?_;refine AU (b:=(decide (c2 < x0.1))) kr (fun hb3=>?_) (fun hb3=>?_)
  ·rw [if_pos hb3] at h
   refine AX ?_;refine AE ?_;refine AQ ?_;refine AN he [p6,p5,(4,.v (.int .i64 c2)),p4,p3] [p2,p1] ?_;by_cases hk4:(HG (wr .i64 (c2 * x0.1)) (wr .i64 ((wr .i64 (c2 + 1)) * x0.1)) x0.2.length)=true
   case neg=>rw [if_neg hk4] at h; cases h
   rw [if_pos hk4] at h;obtain ⟨v5,hv5,h⟩:=OB h;by_cases hk6:(Bb 24 (c1.length + 1))=true
   case neg=>rw [if_neg hk6] at h; cases h
   rw [if_pos hk6] at h
   let p7:Option Blk:=mk 1 31 ((c1++[v5]).map (cdL 1 cdI).enc)
   let p8:Nat×AV:=(3,hd 1 ((c1++[v5]).map (cdL 1 cdI).enc))
   refine AI (s1:=⟨Fr 28 [p6,p8,p4,p3],[p2,p7]⟩) ?_ ?_
   ·refine AB (n:=28) he 12 [p6,p4,p3,(10,hd 1 (c1.map (cdL 1 cdI).enc)),(12,.sl 1 (x0.2.map cdI.enc)),(16,.v (.int .i64 (wr .i64 (c2 * x0.1)))),(21,.v (.int .i64 (wr .i64 ((wr .i64 (c2 + 1)) * x0.1))))] [p2,p1] kr ?_
    refine AJ he 0 rfl (Am (AA rfl) rfl (Jg (a:= .sl 1 (x0.2.map cdI.enc)) (l:=(some (.v (.int .i64 (wr .i64 (c2 * x0.1)))))) (u:=(some (.v (.int .i64 (wr .i64 ((wr .i64 (c2 + 1)) * x0.1)))))) (m:=none) kr kr kr rfl (MN (xs:=x0.2) (e:=cdI.enc) (k:=1) (el:=3) (lo:=(wr .i64 (c2 * x0.1))) (hi:=(wr .i64 ((wr .i64 (c2 + 1)) * x0.1))) kr kr (Jt (Pm hk4)) (Jt (Nq hk4)) hk4))) ?_;refine RunS.call he (fid:=20) (b:=v5) (s:=Ev) (F:=fun a=>Cm a.1) (er:=E2) (xs:=[.sl 1 (((x0.2.take (wr .i64 ((wr .i64 (c2 + 1)) * x0.1)).toNat).drop (wr .i64 (c2 * x0.1)).toNat).map cdI.enc)]) (a:=(((x0.2.take (wr .i64 ((wr .i64 (c2 + 1)) * x0.1)).toNat).drop (wr .i64 (c2 * x0.1)).toNat),())) rfl (AA rfl) kr kr kr kr (Sns.cons (Sn.enc (c:=(cdL 1 cdI)) (v:=((x0.2.take (wr .i64 ((wr .i64 (c2 + 1)) * x0.1)).toNat).drop (wr .i64 (c2 * x0.1)).toNat))) Sns.nil) (.inl kr) (by dsimp only; exact hv5) ?_;refine AB (n:=28) he 1 [p6,p4,p3,(10,hd 1 (c1.map (cdL 1 cdI).enc)),(24,hd 2 ([v5].map (cdL 1 cdI).enc))] [p2,p1,mk 1 31 ([v5].map (cdL 1 cdI).enc)] kr ?_;refine AJ he 0 rfl (Ox (AA rfl) rfl kr kr (DO (a:=hd 1 (c1.map (cdL 1 cdI).enc)) (b:=hd 2 ([v5].map (cdL 1 cdI).enc)) kr kr (JV (c:=(cdL 1 cdI)) (xs:=c1) (vs:=[v5]) (k:=1) (bytes:=24) (el:=31) kr kr (JX (t:=31) kr) (List.cons_ne_nil _ _) kr hk6))) ?_;refine AB (n:=28) he 1 [p6,(3,hd 3 ((c1++[v5]).map (cdL 1 cdI).enc)),p4,p3] [p2,none,mk 1 31 ([v5].map (cdL 1 cdI).enc),p7] kr ?_;exact AO rfl (Ac [0,3] ⟨⟨_,rfl,FW⟩,⟨_,rfl,DP⟩,trivial⟩ ⟨lv,Do (b':=3) kr kr,lv,lv,trivial⟩)
   let p9:Nat×AV:=(7,.v (.int .i64 (wr .i64 (c2 + 1))))
   refine Cq he [p6,p8,p4,p9] [p2,p7] ?_;exact Ae (s1:=⟨Fr 28 [p6,p8,p4,p9],[p2,p7]⟩) (Ac [0,1] ⟨⟨_,rfl,FW⟩,⟨_,rfl,DP⟩,trivial⟩ ⟨lv,Do (b':=1) kr kr,lv,lv,trivial⟩) (ih (c1++[v5]) (wr .i64 (c2 + 1)) h)
  ·rw [B9 hb3] at h
   refine Ba ?_;have hq:=OI h; subst hq;exact ⟨rfl,(Ac [1] ⟨⟨_,rfl,DP⟩,trivial⟩ ⟨Do (b':=1) kr kr,trivial⟩)⟩
theorem IX (x0:(Int×(List Int))) (r:(List (List Int))) (h:Ay x0=some r):Sem BP ⟨none,false⟩ DR ⟨Fr 28 (Av 0 (Bf.enc (x0,()))),[]⟩ fun e s'=>(e = .normal\/e = .ret)/\∃ xs,FA BP.P s'.fr s'.hp Tryd.f84.results.toList=some xs/\FZ xs=Bg r:=by
 have he:=C1
 unfold Ay at h;refine Bz (DX (s1:=⟨Fr 28 [(0,.ag [.v (.int .i64 x0.1),.sl 1 (x0.2.map cdI.enc)])],[]⟩) Ah ?_)
 let p1:Option Blk:=some ⟨2,94,[.ag [.v (.int .i64 x0.1),.sl 1 (x0.2.map cdI.enc)]],false⟩
 let p2:Nat×AV:=(1,.pt 0 0 0)
 refine AN he [p2] [p1] ?_;refine AN he [p2,(3,.e0)] [p1] ?_;refine AE ?_
 let p3:Nat×AV:=(7,.v (.int .i64 0))
 let p4:Nat×AV:=(6,.v (.int .i64 x0.1))
 refine AN he [p2,(3,.e0),p4,p3] [p1] ?_;refine AQ ?_;obtain ⟨r8,hr8,h⟩:=OB h;refine Bm (n:=100000) ?_
 let p5:Option Blk:=mk 1 31 ([].map (cdL 1 cdI).enc)
 let p6:Nat×AV:=(3,hd 1 ([].map (cdL 1 cdI).enc))
 refine BD (Ae (s1:=⟨Fr 28 [p2,p6,p4,p3],[p1,p5]⟩) (Wk.trans (s1:=⟨Fr 28 [p2,p6,p4,p3],[p1,p5]⟩) Wk.none (Ac [0,1] ⟨⟨_,rfl,FW⟩,⟨_,rfl,KI⟩,trivial⟩ ⟨lv,lv,lv,lv,trivial⟩)) (H8 x0 _ [] 0 _ hr8)) ?_;refine AN he [(2,hd 0 (r8.map (cdL 1 cdI).enc))] [mk 1 31 (r8.map (cdL 1 cdI).enc)] ?_;refine An ?_;have hq:=OI h; subst hq
 let p7:Nat×AV:=(2,.sl 1 (r8.map (cdL 1 cdI).enc))
 exact ⟨⟨Fr 28 [p7],[]⟩,(Wk.trans (s1:=⟨Fr 28 [p7],[none]⟩) (FV 0 (.inl kr) ⟨.inl rfl,trivial⟩ ⟨⟨hd 0 (r8.map (cdL 1 cdI).enc),kr,Pv (t:=31) kr KO⟩,trivial⟩) (Ac [] trivial ⟨lv,trivial⟩)),.inr rfl,[.sl 1 (r8.map (cdL 1 cdI).enc)],kr,kr⟩
def Dt:List AV->Option AV:=GP Bf (fun a=>Ay a.1) Bg
theorem Ca:XOk 84 Dt:=by
 refine EnvOk.x (E:=BP) (Af C1 (fn:=Tryd.f84) (c:=DR) ?h1 ?h2 ⟨Tryd.call84⟩ Bf (fun a=>Ay a.1) Bg (fun a=>(by show 1<=28; decide)) ?h3 ?h4) rfl rfl
 case h1=>kernel_rfl
 case h2=>kernel_rfl
 case h3=>intro b; kernel_rfl
 case h4=>exact fun a b h=>IX a.1 b h
/- trestle/evening.Meet -/
noncomputable def HX:Env:=(((E0.withX 50 CI).withX 80 Er).withX 84 Dt)
theorem I7:EnvOk HX:=(EnvOk.withX (EnvOk.withX (EnvOk.withX BB Ap.1 Ap.2) Cp.1 Cp.2) Ca.1 Ca.2)
noncomputable def KJ:Code:=BK Tryd.f31
def EK (x0:Int) (x1:(List (List (List Int)))):Option ((List (List Int))) :=
 (AZ x0 x1).bind fun v1 =>
 if (!v1)=true then
 some []
 else
 (Al x0 x1).bind fun v3 =>
 (Ay (v3.1,v3.2)).bind fun v4 =>
 some v4
def GS:Cs (Int×(List (List (List Int)))×Unit):=(csC cdI (csC (cdL 1 (cdL 1 (cdL 1 cdI))) csN))
def Gb (r:(List (List Int))):AV:=(cdL 1 (cdL 1 cdI)).enc r
theorem NC (x0:Int) (x1:(List (List (List Int)))) (r:(List (List Int))) (h:EK x0 x1=some r):Sem HX ⟨none,false⟩ KJ ⟨Fr 13 (Av 0 (GS.enc (x0,x1,()))),[]⟩ fun e s'=>(e = .normal\/e = .ret)/\∃ xs,FA HX.P s'.fr s'.hp Tryd.f31.results.toList=some xs/\FZ xs=Gb r:=by
 have he:=I7
 unfold EK at h
 let p1:Nat×AV:=(1,.sl 1 (x1.map (cdL 1 (cdL 1 cdI)).enc))
 let p2:Nat×AV:=(0,.v (.int .i64 x0))
 refine Bz (DX (s1:=⟨Fr 13 [p2,p1],[]⟩) Ah ?_);refine AN he [p2,p1] [] ?_;refine AE ?_;refine AE ?_;obtain ⟨v1,hv1,h⟩:=OB h;refine AI (s1:=⟨Fr 13 [p2,p1,(8,.v (.bool (!v1)))],[]⟩) ?_ ?_
 ·refine AB (n:=13) he 2 [p2,p1,(5,.v (.int .i64 x0)),(6,.sl 1 (x1.map (cdL 1 (cdL 1 cdI)).enc))] [] kr ?_
  refine RunS.call he (fid:=50) (s:=BL) (F:=fun a=>AZ a.1 a.2.1) (er:=BN) (xs:=[.v (.int .i64 x0),.sl 1 (x1.map (cdL 1 (cdL 1 cdI)).enc)]) (a:=(x0,x1,())) rfl (AA rfl) kr kr kr kr (Sns.cons (Sn.enc (c:=cdI) (v:=x0)) (Sns.cons (Sn.enc (c:=(cdL 1 (cdL 1 (cdL 1 cdI)))) (v:=x1)) Sns.nil)) (.inl kr) hv1 ?_;exact AK he
 refine AU (b:=(!v1)) kr (fun hb2=>?_) (fun hb2=>?_)
 ·rw [if_pos hb2] at h
  refine AN he [(4,.e0)] [] ?_;refine An ?_;have hq:=OI h; subst hq
  let p3:Nat×AV:=(4,.sl 1 ([].map (cdL 1 cdI).enc))
  exact ⟨⟨Fr 13 [p3],[]⟩,(Wk.trans (s1:=⟨Fr 13 [(4,.e0)],[]⟩) Ah (Wk.trans (s1:=⟨Fr 13 [(4,.e0)],[none]⟩) Wk.none (Wk.trans (s1:=⟨Fr 13 [p3],[none]⟩) (FV 0 (.inr kr) ⟨.inl rfl,trivial⟩ ⟨⟨.e0,kr,SS⟩,trivial⟩) (Ac [] trivial ⟨lv,trivial⟩)))),.inr rfl,[.sl 1 ([].map (cdL 1 cdI).enc)],kr,kr⟩
 ·rw [B9 hb2] at h
  refine AX ?_;refine AE ?_;obtain ⟨v3,hv3,h⟩:=OB h;obtain ⟨v4,hv4,h⟩:=OB h
  let p4:Nat×AV:=(4,.sl 1 (v4.map (cdL 1 cdI).enc))
  refine AI (s1:=⟨Fr 13 [p4],[]⟩) ?_ ?_
  ·refine AB (n:=13) he 2 [(9,.v (.int .i64 x0)),(10,.sl 1 (x1.map (cdL 1 (cdL 1 cdI)).enc))] [] kr ?_
   refine RunS.call he (fid:=80) (s:=BG) (F:=fun a=>Al a.1 a.2.1) (er:=CU) (xs:=[.v (.int .i64 x0),.sl 1 (x1.map (cdL 1 (cdL 1 cdI)).enc)]) (a:=(x0,x1,())) rfl (AA rfl) kr kr kr kr (Sns.cons (Sn.enc (c:=cdI) (v:=x0)) (Sns.cons (Sn.enc (c:=(cdL 1 (cdL 1 (cdL 1 cdI)))) (v:=x1)) Sns.nil)) (.inl kr) hv3 ?_;refine RunS.call he (fid:=84) (s:=Bf) (F:=fun a=>Ay a.1) (er:=Bg) (xs:=[.ag [.v (.int .i64 v3.1),.sl 1 (v3.2.map cdI.enc)]]) (a:=((v3.1,v3.2),())) rfl (AA rfl) kr kr kr kr (Sns.cons (Sn.enc (c:=(EF cdI (cdL 1 cdI) (fun _=>rfl) (fun _=>rfl))) (v:=(v3.1,v3.2))) Sns.nil) (.inl kr) hv4 ?_;exact AK he
  refine An ?_;have hq:=OI h; subst hq;exact ⟨⟨Fr 13 [p4],[]⟩,Ah,.inr rfl,[.sl 1 (v4.map (cdL 1 cdI).enc)],kr,kr⟩
def LO:List AV->Option AV:=GP GS (fun a=>EK a.1 a.2.1) Gb
theorem LV:XOk 31 LO:=by
 refine EnvOk.x (E:=HX) (Af I7 (fn:=Tryd.f31) (c:=KJ) ?h1 ?h2 ⟨Tryd.call31⟩ GS (fun a=>EK a.1 a.2.1) Gb (fun a=>(by show 2<=13; decide)) ?h3 ?h4) rfl rfl
 case h1=>kernel_rfl
 case h2=>kernel_rfl
 case h3=>intro b; kernel_rfl
 case h4=>exact fun a b h=>NC a.1 a.2.1 b h
/- trestle/evening.Beside -/
noncomputable def BU:Env:=((E0.withX 50 CI).withX 84 Dt)
theorem DD:EnvOk BU:=(EnvOk.withX (EnvOk.withX BB Ap.1 Ap.2) Ca.1 Ca.2)
noncomputable def D4:Code:=BK Tryd.f32
noncomputable def F0:Env:=E0
theorem G9:EnvOk F0:=BB
noncomputable def Kz:Code:=BK Tryd.f68
def HL (y0:Int):Option (Int×Int×(List Int)) :=
 if (OV 8 (wr .i64 (y0 * y0)))=true then
 some (y0,y0,(List.replicate (wr .i64 (y0 * y0)).toNat (0:Int)))
 else none
theorem KQ (y0:Int) (r:Int×Int×(List Int)) (h:HL y0=some r):SemY F0 ⟨none,false⟩ Kz ⟨Fr 9 (Av 0 [.v (.int .i64 y0)]),[]⟩ fun x s'=>(x = .normal\/x = .ret)/\∃ ys,FA F0.P s'.fr s'.hp Tryd.f68.results.toList=some ys/\(FZ ys = .ag [.v (.int .i64 r.1),.rf 1 0 r.2.2.length r.2.2.length]/\s'.hp=[some ⟨2,94,[.ag [.v (.int .i64 r.2.1),.rf 1 0 r.2.2.length r.2.2.length]],false⟩,some ⟨1,3,(r.2.2.map cdI.enc),false⟩]):=by
 have he:=G9
 unfold HL at h;refine AD ?_;refine SemY.region ?_
 let p1:Option Blk:=some ⟨2,94,[.ag [.v (.int .i64 0),.e0]],false⟩
 refine BC he [(0,.v (.int .i64 y0)),(2,.pt 0 0 0)] [p1] ?_;refine AD ?_;refine SemY.region ?_;refine Cb he 4 [p1] ?_;by_cases hk1:(OV 8 (wr .i64 (y0 * y0)))=true
 case neg=>rw [if_neg hk1] at h; cases h
 rw [if_pos hk1] at h;refine RunY.one he 0 rfl (OW (AA rfl) rfl kr (Ow (x:= .v (.int .i64 (wr .i64 (y0 * y0)))) (y:= .v (.int .i64 (wr .i64 (y0 * y0)))) kr kr (Py (c:=cdI) (z:=(0:Int)) (k:=1) (bytes:=8) (el:=3) kr kr hk1))) ?_;refine BC he [(2,.pt 0 0 0)] [some ⟨2,94,[.ag [.v (.int .i64 y0),.rf 1 0 (List.replicate (wr .i64 (y0 * y0)).toNat (0:Int)).length (List.replicate (wr .i64 (y0 * y0)).toNat (0:Int)).length]],false⟩,some ⟨1,3,((List.replicate (wr .i64 (y0 * y0)).toNat (0:Int)).map cdI.enc),false⟩] ?_;refine SemY.ret ?_;have hq:=OI h; subst hq;exact ⟨.inr rfl,[.ag [.v (.int .i64 y0),.rf 1 0 (List.replicate (wr .i64 (y0 * y0)).toNat (0:Int)).length (List.replicate (wr .i64 (y0 * y0)).toNat (0:Int)).length]],kr,kr,kr⟩
noncomputable def F3:Env:=E0
theorem Eg:EnvOk F3:=BB
noncomputable def K0:Code:=BK Tryd.f73
def FK (y0:Int) (y1:(List Int)) (y2:Int) (y3:Int) (y4:Int):Option (Int) :=
 (idx y1 (wr .i64 ((wr .i64 (y3 * y2)) + y4))).bind fun v1 =>
 some y2
theorem He (y0:Int) (y1:(List Int)) (y2:Int) (y3:Int) (y4:Int) (r:Int) (h:FK y0 y1 y2 y3 y4=some r):SemY F3 ⟨none,false⟩ K0 ⟨Fr 16 (Av 0 [.ag [.v (.int .i64 y2),.rf 1 0 y1.length y1.length],.v (.int .i64 y3),.v (.int .i64 y4)]),[some ⟨2,94,[.ag [.v (.int .i64 y0),.rf 1 0 y1.length y1.length]],false⟩,some ⟨1,3,(y1.map cdI.enc),false⟩]⟩ fun x s'=>(x = .normal\/x = .ret)/\∃ ys,FA F3.P s'.fr s'.hp Tryd.f73.results.toList=some ys/\(FZ ys = .pt 1 ((wr .i64 ((wr .i64 (y3 * y2)) + y4)).toNat) 0/\s'.hp=[some ⟨2,94,[.ag [.v (.int .i64 y0),.rf 1 0 y1.length y1.length]],false⟩,some ⟨1,3,(y1.map cdI.enc),false⟩,some ⟨2,94,[.ag [.v (.int .i64 r),.rf 1 0 y1.length y1.length]],false⟩]):=by
 have he:=Eg
 unfold FK at h;refine AD ?_;refine SemY.region ?_
 let p1:Option Blk:=some ⟨2,94,[.ag [.v (.int .i64 y2),.rf 1 0 y1.length y1.length]],false⟩
 let p2:Option Blk:=some ⟨1,3,(y1.map cdI.enc),false⟩
 let p3:Option Blk:=some ⟨2,94,[.ag [.v (.int .i64 y0),.rf 1 0 y1.length y1.length]],false⟩
 refine BC he [(1,.v (.int .i64 y3)),(2,.v (.int .i64 y4)),(3,.pt 2 0 0)] [p3,p2,p1] ?_;refine AD ?_;refine SemY.region ?_;refine Cb he 8 [p3,p2,p1] ?_;obtain ⟨v1,hv1,h⟩:=OB h;refine RunY.one he 0 rfl (Am (AA rfl) rfl (AF (a:= .rf 1 0 y1.length y1.length) (b:= .v (.int .i64 (wr .i64 ((wr .i64 (y3 * y2)) + y4)))) kr kr (LF (e:=cdI.enc) (xs:=y1) (t':=3) (el:=3) (k:=1) (ki:= .i64) kr kr kr hv1))) ?_;refine BC he [(6,.pt 1 ((wr .i64 ((wr .i64 (y3 * y2)) + y4)).toNat) 0)] [p3,p2,p1] ?_;refine SemY.ret ?_;have hq:=OI h; subst hq;exact ⟨.inr rfl,[.pt 1 ((wr .i64 ((wr .i64 (y3 * y2)) + y4)).toNat) 0],kr,kr,kr⟩
def Ed (x1:(List (List (List Int)))) (c6:Int) (v8:(List (List Int))) (c11:Int) (v13:(List Int)):Nat->Int->(List Int)->Int->Option ((Int×(List Int)))
 | 0,_,_,_=>none
 | f + 1,c14,c15,c16 =>
  if (decide (c16 < (v13.length:Int)))=true then
  (idx v13 c16).bind fun v18 =>
  if (v13.length:Int)=(0:Int) then none else
  (idx v13 ((wr .i64 (c16 + 1)).tmod (v13.length:Int))).bind fun v20 =>
  (if (v18==v20)=true then some (c14,c15,true) else if ((v13.length:Int)==2)=true then some (c14,c15,(c16==1)) else some (c14,c15,false)).bind fun j24 =>
  if j24.2.2=true then
  Ed x1 c6 v8 c11 v13 f j24.1 j24.2.1 (wr .i64 (c16 + 1))
  else
  (FK j24.1 j24.2.1 j24.1 v18 v20).bind fun v26 =>
  (idx j24.2.1 (wr .i64 ((wr .i64 (v18 * j24.1)) + v20))).bind fun v27 =>
  (FK j24.1 (j24.2.1.set ((wr .i64 ((wr .i64 (v18 * j24.1)) + v20)).toNat) (wr .i64 (v27 + 1))) j24.1 v20 v18).bind fun v28 =>
  (idx (j24.2.1.set ((wr .i64 ((wr .i64 (v18 * j24.1)) + v20)).toNat) (wr .i64 (v27 + 1))) (wr .i64 ((wr .i64 (v20 * j24.1)) + v18))).bind fun v29 =>
  Ed x1 c6 v8 c11 v13 f j24.1 ((j24.2.1.set ((wr .i64 ((wr .i64 (v18 * j24.1)) + v20)).toNat) (wr .i64 (v27 + 1))).set ((wr .i64 ((wr .i64 (v20 * j24.1)) + v18)).toNat) (wr .i64 (v29 + 1))) (wr .i64 (c16 + 1))
  else
  some (c14,c15)
def Fm (x1:(List (List (List Int)))) (c6:Int) (v8:(List (List Int))):Nat->Int->(List Int)->Int->Option ((Int×(List Int)))
 | 0,_,_,_=>none
 | f + 1,c9,c10,c11 =>
  if (decide (c11 < (v8.length:Int)))=true then
  (idx v8 c11).bind fun v13 =>
  (Ed x1 c6 v8 c11 v13 100000 c9 c10 0).bind fun r34 =>
  Fm x1 c6 v8 f r34.1 r34.2 (wr .i64 (c11 + 1))
  else
  some (c9,c10)
def Fl (x1:(List (List (List Int)))):Nat->Int->(List Int)->Int->Option ((Int×(List Int)))
 | 0,_,_,_=>none
 | f + 1,c4,c5,c6 =>
  if (decide (c6 < (x1.length:Int)))=true then
  (idx x1 c6).bind fun v8 =>
  (Fm x1 c6 v8 100000 c4 c5 0).bind fun r37 =>
  Fl x1 f r37.1 r37.2 (wr .i64 (c6 + 1))
  else
  some (c4,c5)
def C5 (x0:Int) (x1:(List (List (List Int)))):Option ((List (List Int))) :=
 (AZ x0 x1).bind fun v1 =>
 if (!v1)=true then
 some []
 else
 (HL x0).bind fun v3 =>
 (Fl x1 100000 v3.1 v3.2.2 0).bind fun r40 =>
 (Ay (r40.1,r40.2)).bind fun v41 =>
 some v41
def FC:Cs (Int×(List (List (List Int)))×Unit):=(csC cdI (csC (cdL 1 (cdL 1 (cdL 1 cdI))) csN))
def FH (r:(List (List Int))):AV:=(cdL 1 (cdL 1 cdI)).enc r
theorem Lg (x1:(List (List (List Int)))) (c6:Int) (v8:(List (List Int))) (c11:Int) (v13:(List Int)):∀ (f:Nat) (c14:Int) (c15:(List Int)) (c16:Int) (r:(Int×(List Int))),Ed x1 c6 v8 c11 v13 f c14 c15 c16=some r->SemN BU ⟨none,false⟩ (pc D4 [1,1,1,0,1,0,0,1,1,0,0,1,1,0,0,1,1,0,0,1,1,0,0]) f ⟨Fr 79 [(5,.pt 0 0 0),(9,.sl 1 (v13.map cdI.enc)),(19,.sl 1 (x1.map (cdL 1 (cdL 1 cdI)).enc)),(20,.v (.int .i64 (x1.length:Int))),(21,.v (.int .i64 c6)),(25,.sl 1 (v8.map (cdL 1 cdI).enc)),(26,.v (.int .i64 (v8.length:Int))),(27,.v (.int .i64 c11)),(31,.sl 1 (v13.map cdI.enc)),(32,.v (.int .i64 (v13.length:Int))),(33,.v (.int .i64 c16))],[some ⟨2,94,[.ag [.v (.int .i64 c14),.rf 1 0 c15.length c15.length]],false⟩,some ⟨1,3,(c15.map cdI.enc),false⟩]⟩ (fun e s=>e=(.exit 4)/\Wk BU s ⟨Fr 79 [(5,.pt 0 0 0),(19,.sl 1 (x1.map (cdL 1 (cdL 1 cdI)).enc)),(20,.v (.int .i64 (x1.length:Int))),(21,.v (.int .i64 c6)),(25,.sl 1 (v8.map (cdL 1 cdI).enc)),(26,.v (.int .i64 (v8.length:Int))),(27,.v (.int .i64 c11))],[some ⟨2,94,[.ag [.v (.int .i64 r.1),.rf 1 0 r.2.length r.2.length]],false⟩,some ⟨1,3,(r.2.map cdI.enc),false⟩]⟩):=by
 have he:=DD
 intro f;induction f with
 | zero=>intro c14 c15 c16 r h; cases h
 | succ f ih0 =>
  intro c14 c15 c16 r h
  have ih:=fun (c14:Int) (c15:(List Int)) (c16:Int)=>ih0 c14 c15 c16 r
  unfold Ed at h;refine BJ ?_;refine AN he [(5,.pt 0 0 0),(9,.sl 1 (v13.map cdI.enc)),(19,.sl 1 (x1.map (cdL 1 (cdL 1 cdI)).enc)),(20,.v (.int .i64 (x1.length:Int))),(21,.v (.int .i64 c6)),(25,.sl 1 (v8.map (cdL 1 cdI).enc)),(26,.v (.int .i64 (v8.length:Int))),(27,.v (.int .i64 c11)),(31,.sl 1 (v13.map cdI.enc)),(32,.v (.int .i64 (v13.length:Int))),(33,.v (.int .i64 c16)),(34,.v (.bool (decide (c16 < (v13.length:Int)))))] [some ⟨2,94,[.ag [.v (.int .i64 c14),.rf 1 0 c15.length c15.length]],false⟩,some ⟨1,3,(c15.map cdI.enc),false⟩] ?_;refine AE ?_;refine AU (b:=(decide (c16 < (v13.length:Int)))) kr (fun hb17=>?_) (fun hb17=>?_)
  ·rw [if_pos hb17] at h
   refine AX ?_;refine AE ?_;refine AQ ?_;refine AE ?_;obtain ⟨v18,hv18,h⟩:=OB h;refine AI (s1:=⟨Fr 79 [(5,.pt 0 0 0),(9,.sl 1 (v13.map cdI.enc)),(10,.v (.int .i64 c16)),(11,.v (.int .i64 v18)),(19,.sl 1 (x1.map (cdL 1 (cdL 1 cdI)).enc)),(20,.v (.int .i64 (x1.length:Int))),(21,.v (.int .i64 c6)),(25,.sl 1 (v8.map (cdL 1 cdI).enc)),(26,.v (.int .i64 (v8.length:Int))),(27,.v (.int .i64 c11)),(31,.sl 1 (v13.map cdI.enc)),(32,.v (.int .i64 (v13.length:Int))),(33,.v (.int .i64 c16))],[some ⟨2,94,[.ag [.v (.int .i64 c14),.rf 1 0 c15.length c15.length]],false⟩,some ⟨1,3,(c15.map cdI.enc),false⟩]⟩) ?_ ?_
   ·refine AB (n:=79) he 1 [(5,.pt 0 0 0),(9,.sl 1 (v13.map cdI.enc)),(19,.sl 1 (x1.map (cdL 1 (cdL 1 cdI)).enc)),(20,.v (.int .i64 (x1.length:Int))),(21,.v (.int .i64 c6)),(25,.sl 1 (v8.map (cdL 1 cdI).enc)),(26,.v (.int .i64 (v8.length:Int))),(27,.v (.int .i64 c11)),(31,.sl 1 (v13.map cdI.enc)),(32,.v (.int .i64 (v13.length:Int))),(33,.v (.int .i64 c16)),(35,.v (.int .i64 c16))] [some ⟨2,94,[.ag [.v (.int .i64 c14),.rf 1 0 c15.length c15.length]],false⟩,some ⟨1,3,(c15.map cdI.enc),false⟩] kr ?_
    refine AJ he 0 rfl (Am (AA rfl) rfl (AF (a:= .sl 1 (v13.map cdI.enc)) (b:= .v (.int .i64 c16)) kr kr (DT (e:=cdI.enc) (el:=3) (k:=1) (ki:= .i64) kr kr hv18))) ?_;exact AK he
   refine AE ?_;by_cases hz19:(v13.length:Int)=(0:Int)
   ·rw [if_pos hz19] at h; cases h
   rw [if_neg hz19] at h;obtain ⟨v20,hv20,h⟩:=OB h;refine AI (s1:=⟨Fr 79 [(5,.pt 0 0 0),(9,.sl 1 (v13.map cdI.enc)),(10,.v (.int .i64 c16)),(11,.v (.int .i64 v18)),(12,.v (.int .i64 v20)),(19,.sl 1 (x1.map (cdL 1 (cdL 1 cdI)).enc)),(20,.v (.int .i64 (x1.length:Int))),(21,.v (.int .i64 c6)),(25,.sl 1 (v8.map (cdL 1 cdI).enc)),(26,.v (.int .i64 (v8.length:Int))),(27,.v (.int .i64 c11)),(31,.sl 1 (v13.map cdI.enc)),(32,.v (.int .i64 (v13.length:Int))),(33,.v (.int .i64 c16))],[some ⟨2,94,[.ag [.v (.int .i64 c14),.rf 1 0 c15.length c15.length]],false⟩,some ⟨1,3,(c15.map cdI.enc),false⟩]⟩) ?_ ?_
   ·refine AB (n:=79) he 4 [(5,.pt 0 0 0),(9,.sl 1 (v13.map cdI.enc)),(10,.v (.int .i64 c16)),(11,.v (.int .i64 v18)),(19,.sl 1 (x1.map (cdL 1 (cdL 1 cdI)).enc)),(20,.v (.int .i64 (x1.length:Int))),(21,.v (.int .i64 c6)),(25,.sl 1 (v8.map (cdL 1 cdI).enc)),(26,.v (.int .i64 (v8.length:Int))),(27,.v (.int .i64 c11)),(31,.sl 1 (v13.map cdI.enc)),(32,.v (.int .i64 (v13.length:Int))),(33,.v (.int .i64 c16)),(38,.sl 1 (v13.map cdI.enc)),(40,.v (.int .i64 (wr .i64 (c16 + 1)))),(41,.sl 1 (v13.map cdI.enc))] [some ⟨2,94,[.ag [.v (.int .i64 c14),.rf 1 0 c15.length c15.length]],false⟩,some ⟨1,3,(c15.map cdI.enc),false⟩] kr ?_
    refine AJ he 0 rfl (Am (AA rfl) rfl (BZ (a:= .sl 1 (v13.map cdI.enc)) kr (Aw (el:=3) kr))) ?_;refine AJ he 0 rfl (Am (AA rfl) rfl (Sc (a:= .v (.int .i64 (wr .i64 (c16 + 1)))) (b:= .v (.int .i64 (v13.length:Int))) kr kr (Nl hz19))) ?_;refine AJ he 0 rfl (Am (AA rfl) rfl (AF (a:= .sl 1 (v13.map cdI.enc)) (b:= .v (.int .i64 ((wr .i64 (c16 + 1)).tmod (v13.length:Int)))) kr kr (DT (e:=cdI.enc) (el:=3) (k:=1) (ki:= .i64) kr kr hv20))) ?_;exact AK he
   refine AE ?_;refine AE ?_;obtain ⟨j24,hj24,h⟩:=OB h;refine AI (s1:=⟨Fr 79 [(5,.pt 0 0 0),(9,.sl 1 (v13.map cdI.enc)),(11,.v (.int .i64 v18)),(12,.v (.int .i64 v20)),(19,.sl 1 (x1.map (cdL 1 (cdL 1 cdI)).enc)),(20,.v (.int .i64 (x1.length:Int))),(21,.v (.int .i64 c6)),(25,.sl 1 (v8.map (cdL 1 cdI).enc)),(26,.v (.int .i64 (v8.length:Int))),(27,.v (.int .i64 c11)),(31,.sl 1 (v13.map cdI.enc)),(32,.v (.int .i64 (v13.length:Int))),(33,.v (.int .i64 c16)),(57,.v (.bool j24.2.2))],[some ⟨2,94,[.ag [.v (.int .i64 j24.1),.rf 1 0 j24.2.1.length j24.2.1.length]],false⟩,some ⟨1,3,(j24.2.1.map cdI.enc),false⟩]⟩) ?_ ?_
   ·refine AB (n:=79) he 4 [(5,.pt 0 0 0),(9,.sl 1 (v13.map cdI.enc)),(10,.v (.int .i64 c16)),(11,.v (.int .i64 v18)),(12,.v (.int .i64 v20)),(19,.sl 1 (x1.map (cdL 1 (cdL 1 cdI)).enc)),(20,.v (.int .i64 (x1.length:Int))),(21,.v (.int .i64 c6)),(25,.sl 1 (v8.map (cdL 1 cdI).enc)),(26,.v (.int .i64 (v8.length:Int))),(27,.v (.int .i64 c11)),(31,.sl 1 (v13.map cdI.enc)),(32,.v (.int .i64 (v13.length:Int))),(33,.v (.int .i64 c16)),(49,.v (.bool (v18==v20)))] [some ⟨2,94,[.ag [.v (.int .i64 c14),.rf 1 0 c15.length c15.length]],false⟩,some ⟨1,3,(c15.map cdI.enc),false⟩] kr ?_
    rcases BE (v18==v20) with hc30 | hc30
    ·rw [if_pos hc30] at hj24
     rw [hc30];refine AB (n:=79) he 8 [(5,.pt 0 0 0),(9,.sl 1 (v13.map cdI.enc)),(11,.v (.int .i64 v18)),(12,.v (.int .i64 v20)),(19,.sl 1 (x1.map (cdL 1 (cdL 1 cdI)).enc)),(20,.v (.int .i64 (x1.length:Int))),(21,.v (.int .i64 c6)),(25,.sl 1 (v8.map (cdL 1 cdI).enc)),(26,.v (.int .i64 (v8.length:Int))),(27,.v (.int .i64 c11)),(31,.sl 1 (v13.map cdI.enc)),(32,.v (.int .i64 (v13.length:Int))),(33,.v (.int .i64 c16)),(50,.tp []),(51,.tp []),(52,.tp []),(53,.tp []),(54,.tp []),(55,.tp []),(56,.tp []),(57,.v (.bool true))] [some ⟨2,94,[.ag [.v (.int .i64 c14),.rf 1 0 c15.length c15.length]],false⟩,some ⟨1,3,(c15.map cdI.enc),false⟩] kr ?_;have hq:=OI hj24; subst hq;exact AO rfl (Ac [0,1] ⟨⟨_,rfl,FW⟩,⟨_,rfl,Ai⟩,trivial⟩ ⟨lv,lv,lv,lv,lv,lv,lv,lv,lv,lv,lv,lv,lv,lv,trivial⟩)
    ·rw [B9 hc30] at hj24
     rw [hc30];refine AB (n:=79) he 1 [(5,.pt 0 0 0),(9,.sl 1 (v13.map cdI.enc)),(10,.v (.int .i64 c16)),(11,.v (.int .i64 v18)),(12,.v (.int .i64 v20)),(19,.sl 1 (x1.map (cdL 1 (cdL 1 cdI)).enc)),(20,.v (.int .i64 (x1.length:Int))),(21,.v (.int .i64 c6)),(25,.sl 1 (v8.map (cdL 1 cdI).enc)),(26,.v (.int .i64 (v8.length:Int))),(27,.v (.int .i64 c11)),(31,.sl 1 (v13.map cdI.enc)),(32,.v (.int .i64 (v13.length:Int))),(33,.v (.int .i64 c16)),(49,.v (.bool false)),(50,.sl 1 (v13.map cdI.enc))] [some ⟨2,94,[.ag [.v (.int .i64 c14),.rf 1 0 c15.length c15.length]],false⟩,some ⟨1,3,(c15.map cdI.enc),false⟩] kr ?_;refine AJ he 0 rfl (Am kr rfl (BZ (a:= .sl 1 (v13.map cdI.enc)) kr (Aw (el:=3) kr))) ?_;refine AB (n:=79) he 2 [(5,.pt 0 0 0),(9,.sl 1 (v13.map cdI.enc)),(10,.v (.int .i64 c16)),(11,.v (.int .i64 v18)),(12,.v (.int .i64 v20)),(19,.sl 1 (x1.map (cdL 1 (cdL 1 cdI)).enc)),(20,.v (.int .i64 (x1.length:Int))),(21,.v (.int .i64 c6)),(25,.sl 1 (v8.map (cdL 1 cdI).enc)),(26,.v (.int .i64 (v8.length:Int))),(27,.v (.int .i64 c11)),(31,.sl 1 (v13.map cdI.enc)),(32,.v (.int .i64 (v13.length:Int))),(33,.v (.int .i64 c16)),(49,.v (.bool false)),(50,.sl 1 (v13.map cdI.enc)),(51,.v (.int .i64 (v13.length:Int))),(52,.v (.bool ((v13.length:Int)==2))),(53,.v (.bool ((v13.length:Int)==2)))] [some ⟨2,94,[.ag [.v (.int .i64 c14),.rf 1 0 c15.length c15.length]],false⟩,some ⟨1,3,(c15.map cdI.enc),false⟩] kr ?_;rcases BE ((v13.length:Int)==2) with hc31 | hc31
     ·rw [if_pos hc31] at hj24
      rw [hc31];refine AB (n:=79) he 4 [(5,.pt 0 0 0),(9,.sl 1 (v13.map cdI.enc)),(11,.v (.int .i64 v18)),(12,.v (.int .i64 v20)),(19,.sl 1 (x1.map (cdL 1 (cdL 1 cdI)).enc)),(20,.v (.int .i64 (x1.length:Int))),(21,.v (.int .i64 c6)),(25,.sl 1 (v8.map (cdL 1 cdI).enc)),(26,.v (.int .i64 (v8.length:Int))),(27,.v (.int .i64 c11)),(31,.sl 1 (v13.map cdI.enc)),(32,.v (.int .i64 (v13.length:Int))),(33,.v (.int .i64 c16)),(50,.sl 1 (v13.map cdI.enc)),(51,.v (.int .i64 (v13.length:Int))),(52,.v (.bool true)),(53,.v (.bool true)),(54,.v (.int .i64 c16)),(55,.v (.bool (c16==1))),(56,.v (.bool (c16==1))),(57,.v (.bool (c16==1)))] [some ⟨2,94,[.ag [.v (.int .i64 c14),.rf 1 0 c15.length c15.length]],false⟩,some ⟨1,3,(c15.map cdI.enc),false⟩] kr ?_;have hq:=OI hj24; subst hq;exact AO rfl (Ac [0,1] ⟨⟨_,rfl,FW⟩,⟨_,rfl,Ai⟩,trivial⟩ ⟨lv,lv,lv,lv,lv,lv,lv,lv,lv,lv,lv,lv,lv,lv,trivial⟩)
     ·rw [B9 hc31] at hj24
      rw [hc31];refine AB (n:=79) he 4 [(5,.pt 0 0 0),(9,.sl 1 (v13.map cdI.enc)),(11,.v (.int .i64 v18)),(12,.v (.int .i64 v20)),(19,.sl 1 (x1.map (cdL 1 (cdL 1 cdI)).enc)),(20,.v (.int .i64 (x1.length:Int))),(21,.v (.int .i64 c6)),(25,.sl 1 (v8.map (cdL 1 cdI).enc)),(26,.v (.int .i64 (v8.length:Int))),(27,.v (.int .i64 c11)),(31,.sl 1 (v13.map cdI.enc)),(32,.v (.int .i64 (v13.length:Int))),(33,.v (.int .i64 c16)),(50,.sl 1 (v13.map cdI.enc)),(51,.v (.int .i64 (v13.length:Int))),(52,.v (.bool false)),(53,.v (.bool false)),(54,.tp []),(55,.tp []),(56,.v (.bool false)),(57,.v (.bool false))] [some ⟨2,94,[.ag [.v (.int .i64 c14),.rf 1 0 c15.length c15.length]],false⟩,some ⟨1,3,(c15.map cdI.enc),false⟩] kr ?_;have hq:=OI hj24; subst hq;exact AO rfl (Ac [0,1] ⟨⟨_,rfl,FW⟩,⟨_,rfl,Ai⟩,trivial⟩ ⟨lv,lv,lv,lv,lv,lv,lv,lv,lv,lv,lv,lv,lv,lv,trivial⟩)
   refine AU (b:=j24.2.2) kr (fun hb25=>?_) (fun hb25=>?_)
   ·rw [if_pos hb25] at h
    refine Ba ?_;refine Cq he [(5,.pt 0 0 0),(9,.sl 1 (v13.map cdI.enc)),(19,.sl 1 (x1.map (cdL 1 (cdL 1 cdI)).enc)),(20,.v (.int .i64 (x1.length:Int))),(21,.v (.int .i64 c6)),(25,.sl 1 (v8.map (cdL 1 cdI).enc)),(26,.v (.int .i64 (v8.length:Int))),(27,.v (.int .i64 c11)),(31,.sl 1 (v13.map cdI.enc)),(32,.v (.int .i64 (v13.length:Int))),(33,.v (.int .i64 (wr .i64 (c16 + 1))))] [some ⟨2,94,[.ag [.v (.int .i64 j24.1),.rf 1 0 j24.2.1.length j24.2.1.length]],false⟩,some ⟨1,3,(j24.2.1.map cdI.enc),false⟩] ?_;exact Ae (s1:=⟨Fr 79 [(5,.pt 0 0 0),(9,.sl 1 (v13.map cdI.enc)),(19,.sl 1 (x1.map (cdL 1 (cdL 1 cdI)).enc)),(20,.v (.int .i64 (x1.length:Int))),(21,.v (.int .i64 c6)),(25,.sl 1 (v8.map (cdL 1 cdI).enc)),(26,.v (.int .i64 (v8.length:Int))),(27,.v (.int .i64 c11)),(31,.sl 1 (v13.map cdI.enc)),(32,.v (.int .i64 (v13.length:Int))),(33,.v (.int .i64 (wr .i64 (c16 + 1))))],[some ⟨2,94,[.ag [.v (.int .i64 j24.1),.rf 1 0 j24.2.1.length j24.2.1.length]],false⟩,some ⟨1,3,(j24.2.1.map cdI.enc),false⟩]⟩) (Ac [0,1] ⟨⟨_,rfl,FW⟩,⟨_,rfl,Ai⟩,trivial⟩ ⟨lv,lv,lv,lv,lv,lv,lv,lv,lv,lv,lv,trivial⟩) (ih j24.1 j24.2.1 (wr .i64 (c16 + 1)) h)
   ·rw [B9 hb25] at h
    refine AX ?_;refine AE ?_;obtain ⟨v26,hv26,h⟩:=OB h;obtain ⟨v27,hv27,h⟩:=OB h;refine AI (s1:=⟨Fr 79 [(5,.pt 0 0 0),(9,.sl 1 (v13.map cdI.enc)),(11,.v (.int .i64 v18)),(12,.v (.int .i64 v20)),(19,.sl 1 (x1.map (cdL 1 (cdL 1 cdI)).enc)),(20,.v (.int .i64 (x1.length:Int))),(21,.v (.int .i64 c6)),(25,.sl 1 (v8.map (cdL 1 cdI).enc)),(26,.v (.int .i64 (v8.length:Int))),(27,.v (.int .i64 c11)),(31,.sl 1 (v13.map cdI.enc)),(32,.v (.int .i64 (v13.length:Int))),(33,.v (.int .i64 c16))],[some ⟨2,94,[.ag [.v (.int .i64 j24.1),.rf 1 0 (j24.2.1.set ((wr .i64 ((wr .i64 (v18 * j24.1)) + v20)).toNat) (wr .i64 (v27 + 1))).length (j24.2.1.set ((wr .i64 ((wr .i64 (v18 * j24.1)) + v20)).toNat) (wr .i64 (v27 + 1))).length]],false⟩,some ⟨1,3,((j24.2.1.set ((wr .i64 ((wr .i64 (v18 * j24.1)) + v20)).toNat) (wr .i64 (v27 + 1))).map cdI.enc),false⟩]⟩) ?_ ?_
    ·refine AB (n:=79) he 3 [(5,.pt 0 0 0),(9,.sl 1 (v13.map cdI.enc)),(11,.v (.int .i64 v18)),(12,.v (.int .i64 v20)),(19,.sl 1 (x1.map (cdL 1 (cdL 1 cdI)).enc)),(20,.v (.int .i64 (x1.length:Int))),(21,.v (.int .i64 c6)),(25,.sl 1 (v8.map (cdL 1 cdI).enc)),(26,.v (.int .i64 (v8.length:Int))),(27,.v (.int .i64 c11)),(31,.sl 1 (v13.map cdI.enc)),(32,.v (.int .i64 (v13.length:Int))),(33,.v (.int .i64 c16)),(58,.ag [.v (.int .i64 j24.1),.rf 1 0 j24.2.1.length j24.2.1.length]),(59,.v (.int .i64 v18)),(60,.v (.int .i64 v20))] [some ⟨2,94,[.ag [.v (.int .i64 j24.1),.rf 1 0 j24.2.1.length j24.2.1.length]],false⟩,some ⟨1,3,(j24.2.1.map cdI.enc),false⟩] kr ?_
     refine IJ (fid:=73) (caps:=[]) (xs:=[.ag [.v (.int .i64 j24.1),.rf 1 0 j24.2.1.length j24.2.1.length],.v (.int .i64 v18),.v (.int .i64 v20)]) (fn:=Tryd.f73) (Out:=fun x h'=>x = .pt 1 ((wr .i64 ((wr .i64 (v18 * j24.1)) + v20)).toNat) 0/\h'=[some ⟨2,94,[.ag [.v (.int .i64 j24.1),.rf 1 0 j24.2.1.length j24.2.1.length]],false⟩,some ⟨1,3,(j24.2.1.map cdI.enc),false⟩,some ⟨2,94,[.ag [.v (.int .i64 v26),.rf 1 0 j24.2.1.length j24.2.1.length]],false⟩]) rfl rfl Eg rfl rfl rfl (AA rfl) kr kr kr kr (by show 3<=16; decide) (He j24.1 j24.2.1 j24.1 v18 v20 _ hv26) ?_;rintro x h' ⟨rfl,rfl⟩;refine AB (n:=79) he 1 [(5,.pt 0 0 0),(9,.sl 1 (v13.map cdI.enc)),(11,.v (.int .i64 v18)),(12,.v (.int .i64 v20)),(19,.sl 1 (x1.map (cdL 1 (cdL 1 cdI)).enc)),(20,.v (.int .i64 (x1.length:Int))),(21,.v (.int .i64 c6)),(25,.sl 1 (v8.map (cdL 1 cdI).enc)),(26,.v (.int .i64 (v8.length:Int))),(27,.v (.int .i64 c11)),(31,.sl 1 (v13.map cdI.enc)),(32,.v (.int .i64 (v13.length:Int))),(33,.v (.int .i64 c16)),(61,.pt 1 ((wr .i64 ((wr .i64 (v18 * j24.1)) + v20)).toNat) 0),(62,.pt 1 ((wr .i64 ((wr .i64 (v18 * j24.1)) + v20)).toNat) 0)] [some ⟨2,94,[.ag [.v (.int .i64 j24.1),.rf 1 0 j24.2.1.length j24.2.1.length]],false⟩,some ⟨1,3,(j24.2.1.map cdI.enc),false⟩,some ⟨2,94,[.ag [.v (.int .i64 v26),.rf 1 0 j24.2.1.length j24.2.1.length]],false⟩] kr ?_;refine AJ he 0 rfl (Am (AA rfl) rfl (A0 (p:= .pt 1 ((wr .i64 ((wr .i64 (v18 * j24.1)) + v20)).toNat) 0) kr (Jr (B:=⟨1,3,(j24.2.1.map cdI.enc),false⟩) (m:=1) (g:=false) (e:=cdI.enc) (xs:=j24.2.1) kr kr kr rfl (AW hv27).2 kr))) ?_;refine AB (n:=79) he 2 [(5,.pt 0 0 0),(9,.sl 1 (v13.map cdI.enc)),(11,.v (.int .i64 v18)),(12,.v (.int .i64 v20)),(19,.sl 1 (x1.map (cdL 1 (cdL 1 cdI)).enc)),(20,.v (.int .i64 (x1.length:Int))),(21,.v (.int .i64 c6)),(25,.sl 1 (v8.map (cdL 1 cdI).enc)),(26,.v (.int .i64 (v8.length:Int))),(27,.v (.int .i64 c11)),(31,.sl 1 (v13.map cdI.enc)),(32,.v (.int .i64 (v13.length:Int))),(33,.v (.int .i64 c16)),(64,.v (.int .i64 (wr .i64 (v27 + 1)))),(65,.pt 1 ((wr .i64 ((wr .i64 (v18 * j24.1)) + v20)).toNat) 0)] [some ⟨2,94,[.ag [.v (.int .i64 j24.1),.rf 1 0 j24.2.1.length j24.2.1.length]],false⟩,some ⟨1,3,(j24.2.1.map cdI.enc),false⟩,some ⟨2,94,[.ag [.v (.int .i64 v26),.rf 1 0 j24.2.1.length j24.2.1.length]],false⟩] kr ?_
     refine RunS.store he (y:= .pt 1 ((wr .i64 ((wr .i64 (v18 * j24.1)) + v20)).toNat) 0) (z:= .v (.int .i64 (wr .i64 (v27 + 1)))) rfl (AA rfl) kr kr (M4 (t':=3) (k:=1) (e:=cdI.enc) (xs:=j24.2.1) (v:=v27) (v':=(wr .i64 (v27 + 1))) kr (AW hv27).2 kr kr kr) ?_;exact AO rfl (Ac [0,1] ⟨⟨_,rfl,Wa (by simp only [List.length_set]; kernel_rfl) kr⟩,⟨_,rfl,Ai⟩,trivial⟩ ⟨lv,lv,lv,lv,lv,lv,lv,lv,lv,lv,lv,lv,lv,trivial⟩)
    obtain ⟨v28,hv28,h⟩:=OB h;obtain ⟨v29,hv29,h⟩:=OB h;refine AI (s1:=⟨Fr 79 [(5,.pt 0 0 0),(9,.sl 1 (v13.map cdI.enc)),(19,.sl 1 (x1.map (cdL 1 (cdL 1 cdI)).enc)),(20,.v (.int .i64 (x1.length:Int))),(21,.v (.int .i64 c6)),(25,.sl 1 (v8.map (cdL 1 cdI).enc)),(26,.v (.int .i64 (v8.length:Int))),(27,.v (.int .i64 c11)),(31,.sl 1 (v13.map cdI.enc)),(32,.v (.int .i64 (v13.length:Int))),(33,.v (.int .i64 c16))],[some ⟨2,94,[.ag [.v (.int .i64 j24.1),.rf 1 0 ((j24.2.1.set ((wr .i64 ((wr .i64 (v18 * j24.1)) + v20)).toNat) (wr .i64 (v27 + 1))).set ((wr .i64 ((wr .i64 (v20 * j24.1)) + v18)).toNat) (wr .i64 (v29 + 1))).length ((j24.2.1.set ((wr .i64 ((wr .i64 (v18 * j24.1)) + v20)).toNat) (wr .i64 (v27 + 1))).set ((wr .i64 ((wr .i64 (v20 * j24.1)) + v18)).toNat) (wr .i64 (v29 + 1))).length]],false⟩,some ⟨1,3,(((j24.2.1.set ((wr .i64 ((wr .i64 (v18 * j24.1)) + v20)).toNat) (wr .i64 (v27 + 1))).set ((wr .i64 ((wr .i64 (v20 * j24.1)) + v18)).toNat) (wr .i64 (v29 + 1))).map cdI.enc),false⟩]⟩) ?_ ?_
    ·refine AB (n:=79) he 3 [(5,.pt 0 0 0),(9,.sl 1 (v13.map cdI.enc)),(19,.sl 1 (x1.map (cdL 1 (cdL 1 cdI)).enc)),(20,.v (.int .i64 (x1.length:Int))),(21,.v (.int .i64 c6)),(25,.sl 1 (v8.map (cdL 1 cdI).enc)),(26,.v (.int .i64 (v8.length:Int))),(27,.v (.int .i64 c11)),(31,.sl 1 (v13.map cdI.enc)),(32,.v (.int .i64 (v13.length:Int))),(33,.v (.int .i64 c16)),(66,.ag [.v (.int .i64 j24.1),.rf 1 0 (j24.2.1.set ((wr .i64 ((wr .i64 (v18 * j24.1)) + v20)).toNat) (wr .i64 (v27 + 1))).length (j24.2.1.set ((wr .i64 ((wr .i64 (v18 * j24.1)) + v20)).toNat) (wr .i64 (v27 + 1))).length]),(67,.v (.int .i64 v20)),(68,.v (.int .i64 v18))] [some ⟨2,94,[.ag [.v (.int .i64 j24.1),.rf 1 0 (j24.2.1.set ((wr .i64 ((wr .i64 (v18 * j24.1)) + v20)).toNat) (wr .i64 (v27 + 1))).length (j24.2.1.set ((wr .i64 ((wr .i64 (v18 * j24.1)) + v20)).toNat) (wr .i64 (v27 + 1))).length]],false⟩,some ⟨1,3,((j24.2.1.set ((wr .i64 ((wr .i64 (v18 * j24.1)) + v20)).toNat) (wr .i64 (v27 + 1))).map cdI.enc),false⟩] kr ?_
     refine IJ (fid:=73) (caps:=[]) (xs:=[.ag [.v (.int .i64 j24.1),.rf 1 0 (j24.2.1.set ((wr .i64 ((wr .i64 (v18 * j24.1)) + v20)).toNat) (wr .i64 (v27 + 1))).length (j24.2.1.set ((wr .i64 ((wr .i64 (v18 * j24.1)) + v20)).toNat) (wr .i64 (v27 + 1))).length],.v (.int .i64 v20),.v (.int .i64 v18)]) (fn:=Tryd.f73) (Out:=fun x h'=>x = .pt 1 ((wr .i64 ((wr .i64 (v20 * j24.1)) + v18)).toNat) 0/\h'=[some ⟨2,94,[.ag [.v (.int .i64 j24.1),.rf 1 0 (j24.2.1.set ((wr .i64 ((wr .i64 (v18 * j24.1)) + v20)).toNat) (wr .i64 (v27 + 1))).length (j24.2.1.set ((wr .i64 ((wr .i64 (v18 * j24.1)) + v20)).toNat) (wr .i64 (v27 + 1))).length]],false⟩,some ⟨1,3,((j24.2.1.set ((wr .i64 ((wr .i64 (v18 * j24.1)) + v20)).toNat) (wr .i64 (v27 + 1))).map cdI.enc),false⟩,some ⟨2,94,[.ag [.v (.int .i64 v28),.rf 1 0 (j24.2.1.set ((wr .i64 ((wr .i64 (v18 * j24.1)) + v20)).toNat) (wr .i64 (v27 + 1))).length (j24.2.1.set ((wr .i64 ((wr .i64 (v18 * j24.1)) + v20)).toNat) (wr .i64 (v27 + 1))).length]],false⟩]) rfl rfl Eg rfl rfl rfl (AA rfl) kr kr kr kr (by show 3<=16; decide) (He j24.1 (j24.2.1.set ((wr .i64 ((wr .i64 (v18 * j24.1)) + v20)).toNat) (wr .i64 (v27 + 1))) j24.1 v20 v18 _ hv28) ?_;rintro x h' ⟨rfl,rfl⟩;refine AB (n:=79) he 1 [(5,.pt 0 0 0),(9,.sl 1 (v13.map cdI.enc)),(19,.sl 1 (x1.map (cdL 1 (cdL 1 cdI)).enc)),(20,.v (.int .i64 (x1.length:Int))),(21,.v (.int .i64 c6)),(25,.sl 1 (v8.map (cdL 1 cdI).enc)),(26,.v (.int .i64 (v8.length:Int))),(27,.v (.int .i64 c11)),(31,.sl 1 (v13.map cdI.enc)),(32,.v (.int .i64 (v13.length:Int))),(33,.v (.int .i64 c16)),(69,.pt 1 ((wr .i64 ((wr .i64 (v20 * j24.1)) + v18)).toNat) 0),(70,.pt 1 ((wr .i64 ((wr .i64 (v20 * j24.1)) + v18)).toNat) 0)] [some ⟨2,94,[.ag [.v (.int .i64 j24.1),.rf 1 0 (j24.2.1.set ((wr .i64 ((wr .i64 (v18 * j24.1)) + v20)).toNat) (wr .i64 (v27 + 1))).length (j24.2.1.set ((wr .i64 ((wr .i64 (v18 * j24.1)) + v20)).toNat) (wr .i64 (v27 + 1))).length]],false⟩,some ⟨1,3,((j24.2.1.set ((wr .i64 ((wr .i64 (v18 * j24.1)) + v20)).toNat) (wr .i64 (v27 + 1))).map cdI.enc),false⟩,some ⟨2,94,[.ag [.v (.int .i64 v28),.rf 1 0 (j24.2.1.set ((wr .i64 ((wr .i64 (v18 * j24.1)) + v20)).toNat) (wr .i64 (v27 + 1))).length (j24.2.1.set ((wr .i64 ((wr .i64 (v18 * j24.1)) + v20)).toNat) (wr .i64 (v27 + 1))).length]],false⟩] kr ?_
     refine AJ he 0 rfl (Am (AA rfl) rfl (A0 (p:= .pt 1 ((wr .i64 ((wr .i64 (v20 * j24.1)) + v18)).toNat) 0) kr (Jr (B:=⟨1,3,((j24.2.1.set ((wr .i64 ((wr .i64 (v18 * j24.1)) + v20)).toNat) (wr .i64 (v27 + 1))).map cdI.enc),false⟩) (m:=1) (g:=false) (e:=cdI.enc) (xs:=(j24.2.1.set ((wr .i64 ((wr .i64 (v18 * j24.1)) + v20)).toNat) (wr .i64 (v27 + 1)))) kr kr kr rfl (AW hv29).2 kr))) ?_;refine AB (n:=79) he 2 [(5,.pt 0 0 0),(9,.sl 1 (v13.map cdI.enc)),(19,.sl 1 (x1.map (cdL 1 (cdL 1 cdI)).enc)),(20,.v (.int .i64 (x1.length:Int))),(21,.v (.int .i64 c6)),(25,.sl 1 (v8.map (cdL 1 cdI).enc)),(26,.v (.int .i64 (v8.length:Int))),(27,.v (.int .i64 c11)),(31,.sl 1 (v13.map cdI.enc)),(32,.v (.int .i64 (v13.length:Int))),(33,.v (.int .i64 c16)),(72,.v (.int .i64 (wr .i64 (v29 + 1)))),(73,.pt 1 ((wr .i64 ((wr .i64 (v20 * j24.1)) + v18)).toNat) 0)] [some ⟨2,94,[.ag [.v (.int .i64 j24.1),.rf 1 0 (j24.2.1.set ((wr .i64 ((wr .i64 (v18 * j24.1)) + v20)).toNat) (wr .i64 (v27 + 1))).length (j24.2.1.set ((wr .i64 ((wr .i64 (v18 * j24.1)) + v20)).toNat) (wr .i64 (v27 + 1))).length]],false⟩,some ⟨1,3,((j24.2.1.set ((wr .i64 ((wr .i64 (v18 * j24.1)) + v20)).toNat) (wr .i64 (v27 + 1))).map cdI.enc),false⟩,some ⟨2,94,[.ag [.v (.int .i64 v28),.rf 1 0 (j24.2.1.set ((wr .i64 ((wr .i64 (v18 * j24.1)) + v20)).toNat) (wr .i64 (v27 + 1))).length (j24.2.1.set ((wr .i64 ((wr .i64 (v18 * j24.1)) + v20)).toNat) (wr .i64 (v27 + 1))).length]],false⟩] kr ?_;refine RunS.store he (y:= .pt 1 ((wr .i64 ((wr .i64 (v20 * j24.1)) + v18)).toNat) 0) (z:= .v (.int .i64 (wr .i64 (v29 + 1)))) rfl (AA rfl) kr kr (M4 (t':=3) (k:=1) (e:=cdI.enc) (xs:=(j24.2.1.set ((wr .i64 ((wr .i64 (v18 * j24.1)) + v20)).toNat) (wr .i64 (v27 + 1)))) (v:=v29) (v':=(wr .i64 (v29 + 1))) kr (AW hv29).2 kr kr kr) ?_;exact AO rfl (Ac [0,1] ⟨⟨_,rfl,Wa (by simp only [List.length_set]; kernel_rfl) kr⟩,⟨_,rfl,Ai⟩,trivial⟩ ⟨lv,lv,lv,lv,lv,lv,lv,lv,lv,lv,lv,trivial⟩)
    refine Cq he [(5,.pt 0 0 0),(9,.sl 1 (v13.map cdI.enc)),(19,.sl 1 (x1.map (cdL 1 (cdL 1 cdI)).enc)),(20,.v (.int .i64 (x1.length:Int))),(21,.v (.int .i64 c6)),(25,.sl 1 (v8.map (cdL 1 cdI).enc)),(26,.v (.int .i64 (v8.length:Int))),(27,.v (.int .i64 c11)),(31,.sl 1 (v13.map cdI.enc)),(32,.v (.int .i64 (v13.length:Int))),(33,.v (.int .i64 (wr .i64 (c16 + 1))))] [some ⟨2,94,[.ag [.v (.int .i64 j24.1),.rf 1 0 ((j24.2.1.set ((wr .i64 ((wr .i64 (v18 * j24.1)) + v20)).toNat) (wr .i64 (v27 + 1))).set ((wr .i64 ((wr .i64 (v20 * j24.1)) + v18)).toNat) (wr .i64 (v29 + 1))).length ((j24.2.1.set ((wr .i64 ((wr .i64 (v18 * j24.1)) + v20)).toNat) (wr .i64 (v27 + 1))).set ((wr .i64 ((wr .i64 (v20 * j24.1)) + v18)).toNat) (wr .i64 (v29 + 1))).length]],false⟩,some ⟨1,3,(((j24.2.1.set ((wr .i64 ((wr .i64 (v18 * j24.1)) + v20)).toNat) (wr .i64 (v27 + 1))).set ((wr .i64 ((wr .i64 (v20 * j24.1)) + v18)).toNat) (wr .i64 (v29 + 1))).map cdI.enc),false⟩] ?_;exact Ae (s1:=⟨Fr 79 [(5,.pt 0 0 0),(9,.sl 1 (v13.map cdI.enc)),(19,.sl 1 (x1.map (cdL 1 (cdL 1 cdI)).enc)),(20,.v (.int .i64 (x1.length:Int))),(21,.v (.int .i64 c6)),(25,.sl 1 (v8.map (cdL 1 cdI).enc)),(26,.v (.int .i64 (v8.length:Int))),(27,.v (.int .i64 c11)),(31,.sl 1 (v13.map cdI.enc)),(32,.v (.int .i64 (v13.length:Int))),(33,.v (.int .i64 (wr .i64 (c16 + 1))))],[some ⟨2,94,[.ag [.v (.int .i64 j24.1),.rf 1 0 ((j24.2.1.set ((wr .i64 ((wr .i64 (v18 * j24.1)) + v20)).toNat) (wr .i64 (v27 + 1))).set ((wr .i64 ((wr .i64 (v20 * j24.1)) + v18)).toNat) (wr .i64 (v29 + 1))).length ((j24.2.1.set ((wr .i64 ((wr .i64 (v18 * j24.1)) + v20)).toNat) (wr .i64 (v27 + 1))).set ((wr .i64 ((wr .i64 (v20 * j24.1)) + v18)).toNat) (wr .i64 (v29 + 1))).length]],false⟩,some ⟨1,3,(((j24.2.1.set ((wr .i64 ((wr .i64 (v18 * j24.1)) + v20)).toNat) (wr .i64 (v27 + 1))).set ((wr .i64 ((wr .i64 (v20 * j24.1)) + v18)).toNat) (wr .i64 (v29 + 1))).map cdI.enc),false⟩]⟩) (Ac [0,1] ⟨⟨_,rfl,FW⟩,⟨_,rfl,Ai⟩,trivial⟩ ⟨lv,lv,lv,lv,lv,lv,lv,lv,lv,lv,lv,trivial⟩) (ih j24.1 ((j24.2.1.set ((wr .i64 ((wr .i64 (v18 * j24.1)) + v20)).toNat) (wr .i64 (v27 + 1))).set ((wr .i64 ((wr .i64 (v20 * j24.1)) + v18)).toNat) (wr .i64 (v29 + 1))) (wr .i64 (c16 + 1)) h)
  ·rw [B9 hb17] at h
   refine Ba ?_;have hq:=OI h; subst hq;exact ⟨rfl,(Ac [0,1] ⟨⟨_,rfl,FW⟩,⟨_,rfl,Ai⟩,trivial⟩ ⟨lv,lv,lv,lv,lv,lv,lv,trivial⟩)⟩
theorem Lf (x1:(List (List (List Int)))) (c6:Int) (v8:(List (List Int))):∀ (f:Nat) (c9:Int) (c10:(List Int)) (c11:Int) (r:(Int×(List Int))),Fm x1 c6 v8 f c9 c10 c11=some r->SemN BU ⟨none,false⟩ (pc D4 [1,1,1,0,1,0,0,1,1,0,0,1,1,0,0]) f ⟨Fr 79 [(5,.pt 0 0 0),(19,.sl 1 (x1.map (cdL 1 (cdL 1 cdI)).enc)),(20,.v (.int .i64 (x1.length:Int))),(21,.v (.int .i64 c6)),(25,.sl 1 (v8.map (cdL 1 cdI).enc)),(26,.v (.int .i64 (v8.length:Int))),(27,.v (.int .i64 c11))],[some ⟨2,94,[.ag [.v (.int .i64 c9),.rf 1 0 c10.length c10.length]],false⟩,some ⟨1,3,(c10.map cdI.enc),false⟩]⟩ (fun e s=>e=(.exit 2)/\Wk BU s ⟨Fr 79 [(5,.pt 0 0 0),(19,.sl 1 (x1.map (cdL 1 (cdL 1 cdI)).enc)),(20,.v (.int .i64 (x1.length:Int))),(21,.v (.int .i64 c6))],[some ⟨2,94,[.ag [.v (.int .i64 r.1),.rf 1 0 r.2.length r.2.length]],false⟩,some ⟨1,3,(r.2.map cdI.enc),false⟩]⟩):=by
 have he:=DD
 intro f;induction f with
 | zero=>intro c9 c10 c11 r h; cases h
 | succ f ih0 =>
  intro c9 c10 c11 r h
  have ih:=fun (c9:Int) (c10:(List Int)) (c11:Int)=>ih0 c9 c10 c11 r
  unfold Fm at h;refine BJ ?_
  let p1:Option Blk:=some ⟨1,3,(c10.map cdI.enc),false⟩
  let p2:Option Blk:=some ⟨2,94,[.ag [.v (.int .i64 c9),.rf 1 0 c10.length c10.length]],false⟩
  let p3:Nat×AV:=(27,.v (.int .i64 c11))
  let p4:Nat×AV:=(26,.v (.int .i64 (v8.length:Int)))
  let p5:Nat×AV:=(25,.sl 1 (v8.map (cdL 1 cdI).enc))
  let p6:Nat×AV:=(21,.v (.int .i64 c6))
  let p7:Nat×AV:=(20,.v (.int .i64 (x1.length:Int)))
  let p8:Nat×AV:=(19,.sl 1 (x1.map (cdL 1 (cdL 1 cdI)).enc))
  let p9:Nat×AV:=(5,.pt 0 0 0)
  refine AN he [p9,p8,p7,p6,p5,p4,p3,(28,.v (.bool (decide (c11 < (v8.length:Int)))))] [p2,p1] ?_;refine AE ?_;refine AU (b:=(decide (c11 < (v8.length:Int)))) kr (fun hb12=>?_) (fun hb12=>?_)
  ·rw [if_pos hb12] at h
   refine AX ?_;refine AE ?_;refine AQ ?_;refine AE ?_;obtain ⟨v13,hv13,h⟩:=OB h
   let p10:Nat×AV:=(9,.sl 1 (v13.map cdI.enc))
   refine AI (s1:=⟨Fr 79 [p9,p10,p8,p7,p6,p5,p4,p3],[p2,p1]⟩) ?_ ?_
   ·refine AJ he 0 rfl (Am (AA rfl) rfl (AF (a:= .sl 1 (v8.map (cdL 1 cdI).enc)) (b:= .v (.int .i64 c11)) kr kr (DT (e:=(cdL 1 cdI).enc) (el:=31) (k:=1) (ki:= .i64) kr kr hv13))) ?_
    exact AK he
   refine AE ?_
   let p11:Nat×AV:=(32,.v (.int .i64 (v13.length:Int)))
   let p12:Nat×AV:=(31,.sl 1 (v13.map cdI.enc))
   refine AI (s1:=⟨Fr 79 [p9,p10,p8,p7,p6,p5,p4,p3,p12,p11,(33,.v (.int .i64 0))],[p2,p1]⟩) ?_ ?_
   ·refine AB (n:=79) he 1 [p9,p10,p8,p7,p6,p5,p4,p3,p12] [p2,p1] kr ?_
    refine AJ he 0 rfl (Am (AA rfl) rfl (BZ (a:= .sl 1 (v13.map cdI.enc)) kr (Aw (el:=3) kr))) ?_;exact AK he
   refine AQ ?_;obtain ⟨r34,hr34,h⟩:=OB h;refine Bm (n:=100000) ?_;refine BD (Ae (s1:=⟨Fr 79 [p9,p10,p8,p7,p6,p5,p4,p3,p12,p11,(33,.v (.int .i64 0))],[p2,p1]⟩) (Ac [0,1] ⟨⟨_,rfl,FW⟩,⟨_,rfl,Ai⟩,trivial⟩ ⟨lv,lv,lv,lv,lv,lv,lv,lv,lv,lv,lv,trivial⟩) (Lg x1 c6 v8 c11 v13 _ c9 c10 0 _ hr34)) ?_
   let p13:Option Blk:=some ⟨1,3,(r34.2.map cdI.enc),false⟩
   let p14:Option Blk:=some ⟨2,94,[.ag [.v (.int .i64 r34.1),.rf 1 0 r34.2.length r34.2.length]],false⟩
   let p15:Nat×AV:=(27,.v (.int .i64 (wr .i64 (c11 + 1))))
   refine Cq he [p9,p8,p7,p6,p5,p4,p15] [p14,p13] ?_;exact Ae (s1:=⟨Fr 79 [p9,p8,p7,p6,p5,p4,p15],[p14,p13]⟩) (Ac [0,1] ⟨⟨_,rfl,FW⟩,⟨_,rfl,Ai⟩,trivial⟩ ⟨lv,lv,lv,lv,lv,lv,lv,trivial⟩) (ih r34.1 r34.2 (wr .i64 (c11 + 1)) h)
  ·rw [B9 hb12] at h
   refine Ba ?_;have hq:=OI h; subst hq;exact ⟨rfl,(Ac [0,1] ⟨⟨_,rfl,FW⟩,⟨_,rfl,Ai⟩,trivial⟩ ⟨lv,lv,lv,lv,trivial⟩)⟩
theorem Le (x1:(List (List (List Int)))):∀ (f:Nat) (c4:Int) (c5:(List Int)) (c6:Int) (r:(Int×(List Int))),Fl x1 f c4 c5 c6=some r->SemN BU ⟨none,false⟩ (pc D4 [1,1,1,0,1,0,0]) f ⟨Fr 79 [(5,.pt 0 0 0),(19,.sl 1 (x1.map (cdL 1 (cdL 1 cdI)).enc)),(20,.v (.int .i64 (x1.length:Int))),(21,.v (.int .i64 c6))],[some ⟨2,94,[.ag [.v (.int .i64 c4),.rf 1 0 c5.length c5.length]],false⟩,some ⟨1,3,(c5.map cdI.enc),false⟩]⟩ (fun e s=>e=(.exit 0)/\Wk BU s ⟨Fr 79 [(5,.pt 0 0 0)],[some ⟨2,94,[.ag [.v (.int .i64 r.1),.rf 1 0 r.2.length r.2.length]],false⟩,some ⟨1,3,(r.2.map cdI.enc),false⟩]⟩):=by
 have he:=DD
 intro f;induction f with
 | zero=>intro c4 c5 c6 r h; cases h
 | succ f ih0 =>
  intro c4 c5 c6 r h
  have ih:=fun (c4:Int) (c5:(List Int)) (c6:Int)=>ih0 c4 c5 c6 r
  unfold Fl at h;refine BJ ?_
  let p1:Option Blk:=some ⟨1,3,(c5.map cdI.enc),false⟩
  let p2:Option Blk:=some ⟨2,94,[.ag [.v (.int .i64 c4),.rf 1 0 c5.length c5.length]],false⟩
  let p3:Nat×AV:=(21,.v (.int .i64 c6))
  let p4:Nat×AV:=(20,.v (.int .i64 (x1.length:Int)))
  let p5:Nat×AV:=(19,.sl 1 (x1.map (cdL 1 (cdL 1 cdI)).enc))
  let p6:Nat×AV:=(5,.pt 0 0 0)
  refine AN he [p6,p5,p4,p3,(22,.v (.bool (decide (c6 < (x1.length:Int)))))] [p2,p1] ?_;refine AE ?_;refine AU (b:=(decide (c6 < (x1.length:Int)))) kr (fun hb7=>?_) (fun hb7=>?_)
  ·rw [if_pos hb7] at h
   refine AX ?_;refine AE ?_;refine AQ ?_;refine AE ?_;obtain ⟨v8,hv8,h⟩:=OB h;refine AI (s1:=⟨Fr 79 [p6,(7,.sl 1 (v8.map (cdL 1 cdI).enc)),p5,p4,p3],[p2,p1]⟩) ?_ ?_
   ·refine AJ he 0 rfl (Am (AA rfl) rfl (AF (a:= .sl 1 (x1.map (cdL 1 (cdL 1 cdI)).enc)) (b:= .v (.int .i64 c6)) kr kr (DT (e:=(cdL 1 (cdL 1 cdI)).enc) (el:=50) (k:=1) (ki:= .i64) kr kr hv8))) ?_
    exact AK he
   refine AE ?_
   let p7:Nat×AV:=(26,.v (.int .i64 (v8.length:Int)))
   let p8:Nat×AV:=(25,.sl 1 (v8.map (cdL 1 cdI).enc))
   refine AI (s1:=⟨Fr 79 [p6,p5,p4,p3,p8,p7,(27,.v (.int .i64 0))],[p2,p1]⟩) ?_ ?_
   ·refine AB (n:=79) he 1 [p6,p5,p4,p3,p8] [p2,p1] kr ?_
    refine AJ he 0 rfl (Am (AA rfl) rfl (BZ (a:= .sl 1 (v8.map (cdL 1 cdI).enc)) kr (Aw (el:=31) kr))) ?_;exact AK he
   refine AQ ?_;obtain ⟨r37,hr37,h⟩:=OB h;refine Bm (n:=100000) ?_;refine BD (Ae (s1:=⟨Fr 79 [p6,p5,p4,p3,p8,p7,(27,.v (.int .i64 0))],[p2,p1]⟩) (Ac [0,1] ⟨⟨_,rfl,FW⟩,⟨_,rfl,Ai⟩,trivial⟩ ⟨lv,lv,lv,lv,lv,lv,lv,trivial⟩) (Lf x1 c6 v8 _ c4 c5 0 _ hr37)) ?_
   let p9:Option Blk:=some ⟨1,3,(r37.2.map cdI.enc),false⟩
   let p10:Option Blk:=some ⟨2,94,[.ag [.v (.int .i64 r37.1),.rf 1 0 r37.2.length r37.2.length]],false⟩
   let p11:Nat×AV:=(21,.v (.int .i64 (wr .i64 (c6 + 1))))
   refine Cq he [p6,p5,p4,p11] [p10,p9] ?_;exact Ae (s1:=⟨Fr 79 [p6,p5,p4,p11],[p10,p9]⟩) (Ac [0,1] ⟨⟨_,rfl,FW⟩,⟨_,rfl,Ai⟩,trivial⟩ ⟨lv,lv,lv,lv,trivial⟩) (ih r37.1 r37.2 (wr .i64 (c6 + 1)) h)
  ·rw [B9 hb7] at h
   refine Ba ?_;have hq:=OI h; subst hq;exact ⟨rfl,(Ac [0,1] ⟨⟨_,rfl,FW⟩,⟨_,rfl,Ai⟩,trivial⟩ ⟨lv,trivial⟩)⟩
theorem L4 (x0:Int) (x1:(List (List (List Int)))) (r:(List (List Int))) (h:C5 x0 x1=some r):Sem BU ⟨none,false⟩ D4 ⟨Fr 79 (Av 0 (FC.enc (x0,x1,()))),[]⟩ fun e s'=>(e = .normal\/e = .ret)/\∃ xs,FA BU.P s'.fr s'.hp Tryd.f32.results.toList=some xs/\FZ xs=FH r:=by
 have he:=DD
 unfold C5 at h
 let p1:Nat×AV:=(1,.sl 1 (x1.map (cdL 1 (cdL 1 cdI)).enc))
 let p2:Nat×AV:=(0,.v (.int .i64 x0))
 refine Bz (DX (s1:=⟨Fr 79 [p2,p1],[]⟩) Ah ?_);refine AN he [p2,p1] [] ?_;refine AE ?_;refine AE ?_;obtain ⟨v1,hv1,h⟩:=OB h;refine AI (s1:=⟨Fr 79 [p2,p1,(16,.v (.bool (!v1)))],[]⟩) ?_ ?_
 ·refine AB (n:=79) he 2 [p2,p1,(13,.v (.int .i64 x0)),(14,.sl 1 (x1.map (cdL 1 (cdL 1 cdI)).enc))] [] kr ?_
  refine RunS.call he (fid:=50) (s:=BL) (F:=fun a=>AZ a.1 a.2.1) (er:=BN) (xs:=[.v (.int .i64 x0),.sl 1 (x1.map (cdL 1 (cdL 1 cdI)).enc)]) (a:=(x0,x1,())) rfl (AA rfl) kr kr kr kr (Sns.cons (Sn.enc (c:=cdI) (v:=x0)) (Sns.cons (Sn.enc (c:=(cdL 1 (cdL 1 (cdL 1 cdI)))) (v:=x1)) Sns.nil)) (.inl kr) hv1 ?_;exact AK he
 refine AU (b:=(!v1)) kr (fun hb2=>?_) (fun hb2=>?_)
 ·rw [if_pos hb2] at h
  refine AN he [(4,.e0)] [] ?_;refine An ?_;have hq:=OI h; subst hq
  let p3:Nat×AV:=(4,.sl 1 ([].map (cdL 1 cdI).enc))
  exact ⟨⟨Fr 79 [p3],[]⟩,(Wk.trans (s1:=⟨Fr 79 [(4,.e0)],[]⟩) Ah (Wk.trans (s1:=⟨Fr 79 [(4,.e0)],[none]⟩) Wk.none (Wk.trans (s1:=⟨Fr 79 [p3],[none]⟩) (FV 0 (.inr kr) ⟨.inl rfl,trivial⟩ ⟨⟨.e0,kr,SS⟩,trivial⟩) (Ac [] trivial ⟨lv,trivial⟩)))),.inr rfl,[.sl 1 ([].map (cdL 1 cdI).enc)],kr,kr⟩
 ·rw [B9 hb2] at h
  refine AX ?_;refine AE ?_;obtain ⟨v3,hv3,h⟩:=OB h
  let p4:Option Blk:=some ⟨1,3,(v3.2.2.map cdI.enc),false⟩
  let p5:Option Blk:=some ⟨2,94,[.ag [.v (.int .i64 v3.1),.rf 1 0 v3.2.2.length v3.2.2.length]],false⟩
  let p6:Nat×AV:=(5,.pt 0 0 0)
  refine AI (s1:=⟨Fr 79 [p1,p6],[p5,p4]⟩) ?_ ?_
  ·refine AB (n:=79) he 1 [p1,(17,.v (.int .i64 x0))] [] kr ?_
   let p7:Option Blk:=some ⟨2,94,[.ag [.v (.int .i64 v3.2.1),.rf 1 0 v3.2.2.length v3.2.2.length]],false⟩
   refine IJ (fid:=68) (caps:=[]) (xs:=[.v (.int .i64 x0)]) (fn:=Tryd.f68) (Out:=fun x h'=>x = .ag [.v (.int .i64 v3.1),.rf 1 0 v3.2.2.length v3.2.2.length]/\h'=[p7,p4]) rfl rfl G9 rfl rfl rfl (AA rfl) kr kr kr kr (by show 1<=9; decide) (KQ x0 _ hv3) ?_;rintro x h' ⟨rfl,rfl⟩;refine AB (n:=79) he 2 [p1,(5,.pt 2 0 0)] [p7,p4,p5] kr ?_;exact AO rfl (Ac [2,1] ⟨⟨_,rfl,FW⟩,⟨_,rfl,Ai⟩,trivial⟩ ⟨lv,lv,trivial⟩)
  refine AE ?_;refine AE ?_
  let p8:Nat×AV:=(20,.v (.int .i64 (x1.length:Int)))
  let p9:Nat×AV:=(19,.sl 1 (x1.map (cdL 1 (cdL 1 cdI)).enc))
  refine AI (s1:=⟨Fr 79 [p6,p9,p8,(21,.v (.int .i64 0))],[p5,p4]⟩) ?_ ?_
  ·refine AB (n:=79) he 1 [p6,p9] [p5,p4] kr ?_
   refine AJ he 0 rfl (Am (AA rfl) rfl (BZ (a:= .sl 1 (x1.map (cdL 1 (cdL 1 cdI)).enc)) kr (Aw (el:=50) kr))) ?_;exact AK he
  refine AQ ?_;obtain ⟨r40,hr40,h⟩:=OB h;refine Bm (n:=100000) ?_;refine BD (Ae (s1:=⟨Fr 79 [p6,p9,p8,(21,.v (.int .i64 0))],[p5,p4]⟩) (Ac [0,1] ⟨⟨_,rfl,FW⟩,⟨_,rfl,Ai⟩,trivial⟩ ⟨lv,lv,lv,lv,trivial⟩) (Le x1 _ v3.1 v3.2.2 0 _ hr40)) ?_;refine AE ?_;obtain ⟨v41,hv41,h⟩:=OB h
  let p10:Nat×AV:=(4,.sl 1 (v41.map (cdL 1 cdI).enc))
  refine AI (s1:=⟨Fr 79 [p10],[]⟩) ?_ ?_
  ·refine AB (n:=79) he 1 [(77,.ag [.v (.int .i64 r40.1),.rf 1 0 r40.2.length r40.2.length])] [some ⟨2,94,[.ag [.v (.int .i64 r40.1),.rf 1 0 r40.2.length r40.2.length]],false⟩,some ⟨1,3,(r40.2.map cdI.enc),false⟩] kr ?_
   let p11:Option Blk:=some ⟨2,94,[.ag [.v (.int .i64 r40.1),.sl 1 (r40.2.map cdI.enc)]],false⟩
   refine O7 (s1:=⟨Fr 79 [(77,.ag [.v (.int .i64 r40.1),.sl 1 (r40.2.map cdI.enc)])],[p11,none]⟩) (Qq 1 (.inl kr) ⟨.inr (.inr ⟨_,_,_,_,rfl,rfl,⟨(.inr ⟨_,_,rfl,rfl,⟨.inl rfl,Oo (c:=cdI) (xs:=r40.2) (t:=3) kr,trivial⟩⟩),trivial⟩⟩),.inl rfl,trivial⟩ ⟨⟨.ag [.v (.int .i64 r40.1),.rf 1 0 r40.2.length r40.2.length],kr,(.inr ⟨_,_,rfl,rfl,⟨.inl rfl,Oo (c:=cdI) (xs:=r40.2) (t:=3) kr,trivial⟩⟩)⟩,trivial⟩) ?_;refine RunS.call he (fid:=84) (s:=Bf) (F:=fun a=>Ay a.1) (er:=Bg) (xs:=[.ag [.v (.int .i64 r40.1),.sl 1 (r40.2.map cdI.enc)]]) (a:=((r40.1,r40.2),())) rfl (AA rfl) kr kr kr kr (Sns.cons (Sn.enc (c:=(EF cdI (cdL 1 cdI) (fun _=>rfl) (fun _=>rfl))) (v:=(r40.1,r40.2))) Sns.nil) (.inl kr) hv41 ?_;refine AB (n:=79) he 1 [p10] [p11,none] kr ?_;exact AO rfl (Ac [] trivial ⟨lv,trivial⟩)
  refine An ?_;have hq:=OI h; subst hq;exact ⟨⟨Fr 79 [p10],[]⟩,Ah,.inr rfl,[.sl 1 (v41.map (cdL 1 cdI).enc)],kr,kr⟩
def Ju:List AV->Option AV:=GP FC (fun a=>C5 a.1 a.2.1) FH
theorem Jy:XOk 32 Ju:=by
 refine EnvOk.x (E:=BU) (Af DD (fn:=Tryd.f32) (c:=D4) ?h1 ?h2 ⟨Tryd.call32⟩ FC (fun a=>C5 a.1 a.2.1) FH (fun a=>(by show 2<=79; decide)) ?h3 ?h4) rfl rfl
 case h1=>kernel_rfl
 case h2=>kernel_rfl
 case h3=>intro b; kernel_rfl
 case h4=>exact fun a b h=>L4 a.1 a.2.1 b h
/- trestle/evening.Hosts -/
noncomputable def Cc:Env:=(E0.withX 50 CI)
theorem Ei:EnvOk Cc:=(EnvOk.withX BB Ap.1 Ap.2)
noncomputable def Fd:Code:=BK Tryd.f39
noncomputable def CC:Env:=E0
theorem Dd:EnvOk CC:=BB
noncomputable def Fz:Code:=BK Tryd.f92
noncomputable def Ew:Env:=E0
theorem GG:EnvOk Ew:=BB
noncomputable def J2:Code:=BK Tryd.f93
def F8 (y0:(List Int)) (y1:(List (List Int))) (y2:(List Int)) (y3:Int) (y4:Int):Option (Int) :=
 (idx y0 y3).bind fun v1 =>
 (idx y0 y4).bind fun v2 =>
 if (v1 != v2)=true then
 (idx y0 y3).bind fun v4 =>
 (idx y0 y4).bind fun v5 =>
 some (wr .i64 (v4 - v5))
 else
 some (wr .i64 (y3 - y4))
theorem JY (y0:(List Int)) (y1:(List (List Int))) (y2:(List Int)) (y3:Int) (y4:Int) (r:Int) (h:F8 y0 y1 y2 y3 y4=some r):SemY Ew ⟨none,false⟩ J2 ⟨Fr 27 (Av 0 [.v (.int .i64 y3),.v (.int .i64 y4),.pt 0 0 0]),[some ⟨1,31,[.rf 1 0 y0.length y0.length],false⟩,some ⟨1,3,(y0.map cdI.enc),false⟩,mk 1 31 (y1.map (cdL 1 cdI).enc),mk 1 3 (y2.map cdI.enc)]⟩ fun x s'=>(x = .normal\/x = .ret)/\∃ ys,FA Ew.P s'.fr s'.hp Tryd.f93.results.toList=some ys/\(FZ ys = .v (.int .i64 r)/\s'.hp=[some ⟨1,31,[.rf 1 0 y0.length y0.length],false⟩,some ⟨1,3,(y0.map cdI.enc),false⟩,mk 1 31 (y1.map (cdL 1 cdI).enc),mk 1 3 (y2.map cdI.enc)]):=by
 have he:=GG
 unfold F8 at h;refine AD ?_;refine SemY.region ?_
 let p1:Option Blk:=mk 1 3 (y2.map cdI.enc)
 let p2:Option Blk:=mk 1 31 (y1.map (cdL 1 cdI).enc)
 let p3:Option Blk:=some ⟨1,3,(y0.map cdI.enc),false⟩
 let p4:Option Blk:=some ⟨1,31,[.rf 1 0 y0.length y0.length],false⟩
 let p5:Nat×AV:=(2,.pt 0 0 0)
 let p6:Nat×AV:=(1,.v (.int .i64 y4))
 let p7:Nat×AV:=(0,.v (.int .i64 y3))
 refine BC he [p7,p6,p5] [p4,p3,p2,p1] ?_;refine AD ?_;refine AD ?_;refine Ok he kr ?_;refine IG (n:=27) he 2 [p7,p6,p5,(6,.rf 1 0 y0.length y0.length),(7,.v (.int .i64 y3))] [p4,p3,p2,p1] kr kr ?_;obtain ⟨v1,hv1,h⟩:=OB h;refine RunDY.one he rfl kr (Kg kr (AA rfl) rfl (AF (a:= .rf 1 0 y0.length y0.length) (b:= .v (.int .i64 y3)) kr kr (LF (e:=cdI.enc) (xs:=y0) (t':=3) (el:=3) (k:=1) (ki:= .i64) kr kr kr hv1)) kr) ?_;refine RunDY.one he rfl kr (Kg kr (AA rfl) rfl (A0 (p:= .pt 1 y3.toNat 0) kr (Jr (B:=⟨1,3,(y0.map cdI.enc),false⟩) (m:=1) (g:=false) (e:=cdI.enc) (xs:=y0) kr kr kr rfl (AW hv1).2 kr)) kr) ?_;refine IG (n:=27) he 2 [p7,p6,p5,(9,.v (.int .i64 v1)),(10,.rf 1 0 y0.length y0.length),(11,.v (.int .i64 y4))] [p4,p3,p2,p1] kr kr ?_;obtain ⟨v2,hv2,h⟩:=OB h;refine RunDY.one he rfl kr (Kg kr (AA rfl) rfl (AF (a:= .rf 1 0 y0.length y0.length) (b:= .v (.int .i64 y4)) kr kr (LF (e:=cdI.enc) (xs:=y0) (t':=3) (el:=3) (k:=1) (ki:= .i64) kr kr kr hv2)) kr) ?_;refine RunDY.one he rfl kr (Kg kr (AA rfl) rfl (A0 (p:= .pt 1 y4.toNat 0) kr (Jr (B:=⟨1,3,(y0.map cdI.enc),false⟩) (m:=1) (g:=false) (e:=cdI.enc) (xs:=y0) kr kr kr rfl (AW hv2).2 kr)) kr) ?_;refine IG (n:=27) he 1 [p7,p6,p5,(14,.v (.bool (v1 != v2)))] [p4,p3,p2,p1] kr kr ?_;refine RunDY.done rfl (SemY.fr (l':=[p7,p6,p5,(14,.v (.bool (v1 != v2)))]) kr ?_);refine Ab (b:=(v1 != v2)) kr (fun hb3=>?_) (fun hb3=>?_)
 ·rw [if_pos hb3] at h
  refine AD ?_;refine Ok he kr ?_;refine IG (n:=27) he 2 [p6,p5,(15,.rf 1 0 y0.length y0.length),(16,.v (.int .i64 y3))] [p4,p3,p2,p1] kr kr ?_;obtain ⟨v4,hv4,h⟩:=OB h;refine RunDY.one he rfl kr (Kg kr (AA rfl) rfl (AF (a:= .rf 1 0 y0.length y0.length) (b:= .v (.int .i64 y3)) kr kr (LF (e:=cdI.enc) (xs:=y0) (t':=3) (el:=3) (k:=1) (ki:= .i64) kr kr kr hv4)) kr) ?_;refine RunDY.one he rfl kr (Kg kr (AA rfl) rfl (A0 (p:= .pt 1 y3.toNat 0) kr (Jr (B:=⟨1,3,(y0.map cdI.enc),false⟩) (m:=1) (g:=false) (e:=cdI.enc) (xs:=y0) kr kr kr rfl (AW hv4).2 kr)) kr) ?_;refine IG (n:=27) he 2 [(18,.v (.int .i64 v4)),(19,.rf 1 0 y0.length y0.length),(20,.v (.int .i64 y4))] [p4,p3,p2,p1] kr kr ?_;obtain ⟨v5,hv5,h⟩:=OB h;refine RunDY.one he rfl kr (Kg kr (AA rfl) rfl (AF (a:= .rf 1 0 y0.length y0.length) (b:= .v (.int .i64 y4)) kr kr (LF (e:=cdI.enc) (xs:=y0) (t':=3) (el:=3) (k:=1) (ki:= .i64) kr kr kr hv5)) kr) ?_;refine RunDY.one he rfl kr (Kg kr (AA rfl) rfl (A0 (p:= .pt 1 y4.toNat 0) kr (Jr (B:=⟨1,3,(y0.map cdI.enc),false⟩) (m:=1) (g:=false) (e:=cdI.enc) (xs:=y0) kr kr kr rfl (AW hv5).2 kr)) kr) ?_
  let p8:Nat×AV:=(5,.v (.int .i64 (wr .i64 (v4 - v5))))
  refine IG (n:=27) he 2 [p8] [p4,p3,p2,p1] kr kr ?_;refine RunDY.done rfl (SemY.fr (l':=[p8]) kr ?_);refine SemY.ret ?_;have hq:=OI h; subst hq;exact ⟨.inr rfl,[.v (.int .i64 (wr .i64 (v4 - v5)))],kr,kr,kr⟩
 ·rw [B9 hb3] at h
  refine SemY.skip ?_;refine AD ?_;refine SemY.region ?_;refine BC he [(5,.v (.int .i64 (wr .i64 (y3 - y4))))] [p4,p3,p2,p1] ?_;refine SemY.ret ?_;have hq:=OI h; subst hq;exact ⟨.inr rfl,[.v (.int .i64 (wr .i64 (y3 - y4)))],kr,kr,kr⟩
def F7 (y0:(List Int)) (y1:(List (List Int))) (y2:(List Int)) (y3:(List Int)) (c19:Int) (c20:Int) (v23:Int):Option ((Int)) :=
 if (decide (v23 < 0))=true then
 (idx y3 c20).bind fun v25 =>
 some v25
 else
 some c19
def Ej (y0:(List Int)) (y1:(List (List Int))) (y2:(List Int)) (y3:(List Int)):Nat->Int->Int->Option ((Int))
 | 0,_,_=>none
 | f + 1,c19,c20 =>
  if (decide (c20 < (y3.length:Int)))=true then
  (idx y3 c20).bind fun v22 =>
  (F8 y0 y1 y2 v22 c19).bind fun v23 =>
  (F7 y0 y1 y2 y3 c19 c20 v23).bind fun r27 =>
  Ej y0 y1 y2 y3 f r27 (wr .i64 (c20 + 1))
  else
  some c19
def Hu (y0:(List Int)) (y1:(List (List Int))) (y2:(List Int)) (y3:(List Int)):Option (Int) :=
 if (decide ((y3.length:Int) < 1))=true then none else
 (idx y3 0).bind fun v2 =>
 (Ej y0 y1 y2 y3 100000 v2 1).bind fun r29 =>
 some r29
theorem J6 (y0:(List Int)) (y1:(List (List Int))) (y2:(List Int)) (y3:(List Int)) (c19:Int) (c20:Int) (v23:Int) (r:(Int)) (h:F7 y0 y1 y2 y3 c19 c20 v23=some r):SemY CC ⟨none,false⟩ (pc Fz [1,1,1,0,1,0,0,1,0,0,1]) ⟨Fr 33 [(0,.sl 1 (y3.map cdI.enc)),(1,.fn 93 [] [.pt 0 0 0]),(5,.v (.int .i64 c19)),(6,.v (.int .i64 c20)),(27,.v (.bool (decide (v23 < 0))))],[some ⟨1,31,[.rf 1 0 y0.length y0.length],false⟩,some ⟨1,3,(y0.map cdI.enc),false⟩,mk 1 31 (y1.map (cdL 1 cdI).enc),mk 1 3 (y2.map cdI.enc)]⟩ (fun e s=>e = .normal/\WkY CC s ⟨Fr 33 [(0,.sl 1 (y3.map cdI.enc)),(1,.fn 93 [] [.pt 0 0 0]),(5,.v (.int .i64 r)),(6,.v (.int .i64 c20))],[some ⟨1,31,[.rf 1 0 y0.length y0.length],false⟩,some ⟨1,3,(y0.map cdI.enc),false⟩,mk 1 31 (y1.map (cdL 1 cdI).enc),mk 1 3 (y2.map cdI.enc)]⟩):=by
 have he:=Dd
 unfold F7 at h;refine Ab (b:=(decide (v23 < 0))) kr (fun hb24=>?_) (fun hb24=>?_)
 ·rw [if_pos hb24] at h
  refine SemY.region ?_
  let p1:Option Blk:=some ⟨1,3,(y0.map cdI.enc),false⟩
  let p2:Option Blk:=some ⟨1,31,[.rf 1 0 y0.length y0.length],false⟩
  refine Cb he 2 [p2,p1,mk 1 31 (y1.map (cdL 1 cdI).enc),mk 1 3 (y2.map cdI.enc)] ?_;obtain ⟨v25,hv25,h⟩:=OB h;refine RunY.one he 0 rfl (Am (AA rfl) rfl (AF (a:= .sl 1 (y3.map cdI.enc)) (b:= .v (.int .i64 c20)) kr kr (DT (e:=cdI.enc) (el:=3) (k:=1) (ki:= .i64) kr kr hv25))) ?_;refine Cb he 2 [p2,p1,mk 1 31 (y1.map (cdL 1 cdI).enc),mk 1 3 (y2.map cdI.enc)] ?_;refine RunY.done rfl ?_;have hq:=OI h; subst hq;exact ⟨rfl,WkY.f1⟩
 ·rw [B9 hb24] at h
  refine SemY.skip ?_;have hq:=OI h; subst hq;exact ⟨rfl,WkY.f1⟩
theorem KR (y0:(List Int)) (y1:(List (List Int))) (y2:(List Int)) (y3:(List Int)):∀ (f:Nat) (c19:Int) (c20:Int) (r:(Int)),Ej y0 y1 y2 y3 f c19 c20=some r->SemYN CC ⟨none,false⟩ (pc Fz [1,1,1,0,1,0,0]) f ⟨Fr 33 [(0,.sl 1 (y3.map cdI.enc)),(1,.fn 93 [] [.pt 0 0 0]),(5,.v (.int .i64 c19)),(6,.v (.int .i64 c20))],[some ⟨1,31,[.rf 1 0 y0.length y0.length],false⟩,some ⟨1,3,(y0.map cdI.enc),false⟩,mk 1 31 (y1.map (cdL 1 cdI).enc),mk 1 3 (y2.map cdI.enc)]⟩ (fun e s=>e=(.exit 0)/\WkY CC s ⟨Fr 33 [(5,.v (.int .i64 r))],[some ⟨1,31,[.rf 1 0 y0.length y0.length],false⟩,some ⟨1,3,(y0.map cdI.enc),false⟩,mk 1 31 (y1.map (cdL 1 cdI).enc),mk 1 3 (y2.map cdI.enc)]⟩):=by
 have he:=Dd
 intro f;induction f with
 | zero=>intro c19 c20 r h; cases h
 | succ f ih0 =>
  intro c19 c20 r h
  have ih:=fun (c19:Int) (c20:Int)=>ih0 c19 c20 r
  unfold Ej at h;refine BA ?_;refine AD ?_;refine AD ?_;refine SemY.region ?_
  let p1:Option Blk:=mk 1 3 (y2.map cdI.enc)
  let p2:Option Blk:=mk 1 31 (y1.map (cdL 1 cdI).enc)
  let p3:Option Blk:=some ⟨1,3,(y0.map cdI.enc),false⟩
  let p4:Option Blk:=some ⟨1,31,[.rf 1 0 y0.length y0.length],false⟩
  refine Cb he 2 [p4,p3,p2,p1] ?_;refine RunY.one he 0 rfl (Am (AA rfl) rfl (BZ (a:= .sl 1 (y3.map cdI.enc)) kr (Aw (el:=3) kr))) ?_
  let p5:Nat×AV:=(1,.fn 93 [] [.pt 0 0 0])
  let p6:Nat×AV:=(0,.sl 1 (y3.map cdI.enc))
  refine BC he [p6,p5,(5,.v (.int .i64 c19)),(6,.v (.int .i64 c20)),(17,.v (.bool (decide (c20 < (y3.length:Int)))))] [p4,p3,p2,p1] ?_;refine Ab (b:=(decide (c20 < (y3.length:Int)))) kr (fun hb21=>?_) (fun hb21=>?_)
  ·rw [if_pos hb21] at h
   refine SemY.skip ?_;refine AD ?_;refine AR ?_;refine AD ?_;refine SemY.region ?_;refine Cb he 3 [p4,p3,p2,p1] ?_;obtain ⟨v22,hv22,h⟩:=OB h;refine RunY.one he 0 rfl (Am (AA rfl) rfl (AF (a:= .sl 1 (y3.map cdI.enc)) (b:= .v (.int .i64 c20)) kr kr (DT (e:=cdI.enc) (el:=3) (k:=1) (ki:= .i64) kr kr hv22))) ?_;refine Cb he 2 [p4,p3,p2,p1] ?_;obtain ⟨v23,hv23,h⟩:=OB h;refine RunY.inl (fid:=93) (caps:=[.pt 0 0 0]) (xs:=[.v (.int .i64 v22),.v (.int .i64 c19)]) (fn:=Tryd.f93) (Out:=fun x h'=>x = .v (.int .i64 v23)/\h'=[p4,p3,p2,p1]) rfl rfl GG rfl rfl 4 kr rfl (AA rfl) kr kr kr kr (by show 3<=27; decide) (JY y0 y1 y2 v22 c19 _ hv23) ?_;rintro x h' ⟨rfl,rfl⟩;refine ⟨[p4,p3,p2,p1],by kernel_rfl,⟨⟨_,rfl,FW⟩,⟨_,rfl,Ai⟩,⟨_,rfl,DP⟩,⟨_,rfl,DP⟩,trivial⟩,⟨by kernel_rfl,by kernel_rfl⟩,?_⟩;refine BC he [p6,p5,(5,.v (.int .i64 c19)),(6,.v (.int .i64 c20)),(27,.v (.bool (decide (v23 < 0))))] [p4,p3,p2,p1] ?_;obtain ⟨r27,hr27,h⟩:=OB h;refine TD (J6 y0 y1 y2 y3 c19 c20 v23 _ hr27) ?_;refine SemY.region ?_;refine Cb he 3 [p4,p3,p2,p1] ?_;refine RunY.done rfl ?_;exact Ad (s1:=⟨Fr 33 [p6,p5,(5,.v (.int .i64 r27)),(6,.v (.int .i64 (wr .i64 (c20 + 1))))],[p4,p3,p2,p1]⟩) WkY.f1 (ih r27 (wr .i64 (c20 + 1)) h)
  ·rw [B9 hb21] at h
   refine SemY.exit ?_;have hq:=OI h; subst hq;exact ⟨rfl,WkY.f1⟩
theorem K5 (y0:(List Int)) (y1:(List (List Int))) (y2:(List Int)) (y3:(List Int)) (r:Int) (h:Hu y0 y1 y2 y3=some r):SemY CC ⟨none,false⟩ Fz ⟨Fr 33 (Av 0 [.sl 1 (y3.map cdI.enc),.fn 93 [] [.pt 0 0 0]]),[some ⟨1,31,[.rf 1 0 y0.length y0.length],false⟩,some ⟨1,3,(y0.map cdI.enc),false⟩,mk 1 31 (y1.map (cdL 1 cdI).enc),mk 1 3 (y2.map cdI.enc)]⟩ fun x s'=>(x = .normal\/x = .ret)/\∃ ys,FA CC.P s'.fr s'.hp Tryd.f92.results.toList=some ys/\(FZ ys = .v (.int .i64 r)/\s'.hp=[some ⟨1,31,[.rf 1 0 y0.length y0.length],false⟩,some ⟨1,3,(y0.map cdI.enc),false⟩,mk 1 31 (y1.map (cdL 1 cdI).enc),mk 1 3 (y2.map cdI.enc)]):=by
 have he:=Dd
 unfold Hu at h;refine AD ?_;refine SemY.region ?_
 let p1:Option Blk:=mk 1 3 (y2.map cdI.enc)
 let p2:Option Blk:=mk 1 31 (y1.map (cdL 1 cdI).enc)
 let p3:Option Blk:=some ⟨1,3,(y0.map cdI.enc),false⟩
 let p4:Option Blk:=some ⟨1,31,[.rf 1 0 y0.length y0.length],false⟩
 let p5:Nat×AV:=(1,.fn 93 [] [.pt 0 0 0])
 let p6:Nat×AV:=(0,.sl 1 (y3.map cdI.enc))
 refine BC he [p6,p5] [p4,p3,p2,p1] ?_;refine AD ?_;refine AD ?_;refine SemY.region ?_;refine Cb he 1 [p4,p3,p2,p1] ?_;refine RunY.one he 0 rfl (Am (AA rfl) rfl (BZ (a:= .sl 1 (y3.map cdI.enc)) kr (Aw (el:=3) kr))) ?_;refine BC he [p6,p5,(9,.v (.bool (decide ((y3.length:Int) < 1))))] [p4,p3,p2,p1] ?_;refine Ab (b:=(decide ((y3.length:Int) < 1))) kr (fun hb1=>?_) (fun hb1=>?_)
 ·rw [if_pos hb1] at h
  cases h
 ·rw [B9 hb1] at h
  refine SemY.skip ?_;refine AD ?_;refine SemY.region ?_;refine Cb he 1 [p4,p3,p2,p1] ?_;obtain ⟨v2,hv2,h⟩:=OB h;refine RunY.one he 0 rfl (Am (AA rfl) rfl (AF (a:= .sl 1 (y3.map cdI.enc)) (b:= .v (.int .i64 0)) kr kr (DT (e:=cdI.enc) (el:=3) (k:=1) (ki:= .i64) kr kr hv2))) ?_
  let p7:Nat×AV:=(5,.v (.int .i64 v2))
  refine BC he [p6,p5,p7] [p4,p3,p2,p1] ?_;refine AD ?_;refine AD ?_;refine SemY.region ?_;refine BC he [p6,p5,p7,(6,.v (.int .i64 1))] [p4,p3,p2,p1] ?_;refine AR ?_;obtain ⟨r29,hr29,h⟩:=OB h;refine SemY.loop (n:=100000) ?_;refine Lx (Ad (s1:=⟨Fr 33 [p6,p5,p7,(6,.v (.int .i64 1))],[p4,p3,p2,p1]⟩) WkY.f1 (KR y0 y1 y2 y3 _ v2 1 _ hr29)) ?_;refine AD ?_;refine SemY.region ?_;refine BC he [(4,.v (.int .i64 r29))] [p4,p3,p2,p1] ?_;refine SemY.ret ?_;have hq:=OI h; subst hq;exact ⟨.inr rfl,[.v (.int .i64 r29)],kr,kr,kr⟩
def Gi (x1:(List (List (List Int)))) (c5:(List (List Int))) (c6:Int) (v8:(List (List Int))):Nat->(List Int)->(List Int)->Int->Option (((List Int)×(List Int)))
 | 0,_,_,_=>none
 | f + 1,c22,c23,c24 =>
  if (decide (c24 < (v8.length:Int)))=true then
  (idx v8 c24).bind fun v26 =>
  (Hu c22 c5 c23 v26).bind fun v27 =>
  (idx c22 v27).bind fun v28 =>
  (idx c22 v27).bind fun v29 =>
  if (Bb 8 (c23.length + 1))=true then
  Gi x1 c5 c6 v8 f (c22.set v27.toNat (wr .i64 (v28 + 1))) (c23++[v27]) (wr .i64 (c24 + 1))
  else none
  else
  some (c22,c23)
def Gh (x1:(List (List (List Int)))):Nat->(List Int)->(List (List Int))->Int->Option (((List (List Int))))
 | 0,_,_,_=>none
 | f + 1,c4,c5,c6 =>
  if (decide (c6 < (x1.length:Int)))=true then
  (idx x1 c6).bind fun v8 =>
  (Gi x1 c5 c6 v8 100000 c4 [] 0).bind fun r33 =>
  if (Bb 24 (c5.length + 1))=true then
  Gh x1 f r33.1 (c5++[r33.2]) (wr .i64 (c6 + 1))
  else none
  else
  some c5
def Dh (x0:Int) (x1:(List (List (List Int)))):Option ((List (List Int))) :=
 (AZ x0 x1).bind fun v1 =>
 if (!v1)=true then
 some []
 else
 if (OV 8 x0)=true then
 (Gh x1 100000 (List.replicate x0.toNat (0:Int)) [] 0).bind fun r36 =>
 some r36
 else none
def Fe:Cs (Int×(List (List (List Int)))×Unit):=(csC cdI (csC (cdL 1 (cdL 1 (cdL 1 cdI))) csN))
def Fj (r:(List (List Int))):AV:=(cdL 1 (cdL 1 cdI)).enc r
theorem L7 (x1:(List (List (List Int)))) (c5:(List (List Int))) (c6:Int) (v8:(List (List Int))):∀ (f:Nat) (c22:(List Int)) (c23:(List Int)) (c24:Int) (r:((List Int)×(List Int))),Gi x1 c5 c6 v8 f c22 c23 c24=some r->SemN Cc ⟨none,false⟩ (pc Fd [1,1,1,1,0,1,0,0,1,1,0,0,1,1,0,1,0,0]) f ⟨Fr 51 [(5,.pt 0 0 0),(6,hd 2 (c5.map (cdL 1 cdI).enc)),(9,hd 3 (c23.map cdI.enc)),(19,.sl 1 (x1.map (cdL 1 (cdL 1 cdI)).enc)),(20,.v (.int .i64 (x1.length:Int))),(21,.v (.int .i64 c6)),(25,.sl 1 (v8.map (cdL 1 cdI).enc)),(26,.v (.int .i64 (v8.length:Int))),(27,.v (.int .i64 c24))],[some ⟨1,31,[.rf 1 0 c22.length c22.length],false⟩,some ⟨1,3,(c22.map cdI.enc),false⟩,mk 1 31 (c5.map (cdL 1 cdI).enc),mk 1 3 (c23.map cdI.enc)]⟩ (fun e s=>e=(.exit 2)/\Wk Cc s ⟨Fr 51 [(5,.pt 0 0 0),(6,hd 2 (c5.map (cdL 1 cdI).enc)),(9,hd 3 (r.2.map cdI.enc)),(19,.sl 1 (x1.map (cdL 1 (cdL 1 cdI)).enc)),(20,.v (.int .i64 (x1.length:Int))),(21,.v (.int .i64 c6))],[some ⟨1,31,[.rf 1 0 r.1.length r.1.length],false⟩,some ⟨1,3,(r.1.map cdI.enc),false⟩,mk 1 31 (c5.map (cdL 1 cdI).enc),mk 1 3 (r.2.map cdI.enc)]⟩):=by
 have he:=Ei
 intro f;induction f with
 | zero=>intro c22 c23 c24 r h; cases h
 | succ f ih0 =>
  intro c22 c23 c24 r h
  have ih:=fun (c22:(List Int)) (c23:(List Int)) (c24:Int)=>ih0 c22 c23 c24 r
  unfold Gi at h;refine BJ ?_;refine AN he [(5,.pt 0 0 0),(6,hd 2 (c5.map (cdL 1 cdI).enc)),(9,hd 3 (c23.map cdI.enc)),(19,.sl 1 (x1.map (cdL 1 (cdL 1 cdI)).enc)),(20,.v (.int .i64 (x1.length:Int))),(21,.v (.int .i64 c6)),(25,.sl 1 (v8.map (cdL 1 cdI).enc)),(26,.v (.int .i64 (v8.length:Int))),(27,.v (.int .i64 c24)),(28,.v (.bool (decide (c24 < (v8.length:Int)))))] [some ⟨1,31,[.rf 1 0 c22.length c22.length],false⟩,some ⟨1,3,(c22.map cdI.enc),false⟩,mk 1 31 (c5.map (cdL 1 cdI).enc),mk 1 3 (c23.map cdI.enc)] ?_;refine AE ?_;refine AU (b:=(decide (c24 < (v8.length:Int)))) kr (fun hb25=>?_) (fun hb25=>?_)
  ·rw [if_pos hb25] at h
   refine AX ?_;refine AE ?_;refine AQ ?_;refine AE ?_;obtain ⟨v26,hv26,h⟩:=OB h;refine AI (s1:=⟨Fr 51 [(5,.pt 0 0 0),(6,hd 2 (c5.map (cdL 1 cdI).enc)),(9,hd 3 (c23.map cdI.enc)),(11,.sl 1 (v26.map cdI.enc)),(19,.sl 1 (x1.map (cdL 1 (cdL 1 cdI)).enc)),(20,.v (.int .i64 (x1.length:Int))),(21,.v (.int .i64 c6)),(25,.sl 1 (v8.map (cdL 1 cdI).enc)),(26,.v (.int .i64 (v8.length:Int))),(27,.v (.int .i64 c24))],[some ⟨1,31,[.rf 1 0 c22.length c22.length],false⟩,some ⟨1,3,(c22.map cdI.enc),false⟩,mk 1 31 (c5.map (cdL 1 cdI).enc),mk 1 3 (c23.map cdI.enc)]⟩) ?_ ?_
   ·refine AJ he 0 rfl (Am (AA rfl) rfl (AF (a:= .sl 1 (v8.map (cdL 1 cdI).enc)) (b:= .v (.int .i64 c24)) kr kr (DT (e:=(cdL 1 cdI).enc) (el:=31) (k:=1) (ki:= .i64) kr kr hv26))) ?_
    exact AK he
   refine AE ?_;obtain ⟨v27,hv27,h⟩:=OB h;refine AI (s1:=⟨Fr 51 [(5,.pt 0 0 0),(6,hd 2 (c5.map (cdL 1 cdI).enc)),(9,hd 3 (c23.map cdI.enc)),(12,.v (.int .i64 v27)),(19,.sl 1 (x1.map (cdL 1 (cdL 1 cdI)).enc)),(20,.v (.int .i64 (x1.length:Int))),(21,.v (.int .i64 c6)),(25,.sl 1 (v8.map (cdL 1 cdI).enc)),(26,.v (.int .i64 (v8.length:Int))),(27,.v (.int .i64 c24))],[some ⟨1,31,[.rf 1 0 c22.length c22.length],false⟩,some ⟨1,3,(c22.map cdI.enc),false⟩,mk 1 31 (c5.map (cdL 1 cdI).enc),mk 1 3 (c23.map cdI.enc)]⟩) ?_ ?_
   ·refine AB (n:=51) he 2 [(5,.pt 0 0 0),(6,hd 2 (c5.map (cdL 1 cdI).enc)),(9,hd 3 (c23.map cdI.enc)),(19,.sl 1 (x1.map (cdL 1 (cdL 1 cdI)).enc)),(20,.v (.int .i64 (x1.length:Int))),(21,.v (.int .i64 c6)),(25,.sl 1 (v8.map (cdL 1 cdI).enc)),(26,.v (.int .i64 (v8.length:Int))),(27,.v (.int .i64 c24)),(31,.sl 1 (v26.map cdI.enc)),(32,.fn 93 [] [.pt 0 0 0])] [some ⟨1,31,[.rf 1 0 c22.length c22.length],false⟩,some ⟨1,3,(c22.map cdI.enc),false⟩,mk 1 31 (c5.map (cdL 1 cdI).enc),mk 1 3 (c23.map cdI.enc)] kr ?_
    refine IJ (fid:=92) (caps:=[]) (xs:=[.sl 1 (v26.map cdI.enc),.fn 93 [] [.pt 0 0 0]]) (fn:=Tryd.f92) (Out:=fun x h'=>x = .v (.int .i64 v27)/\h'=[some ⟨1,31,[.rf 1 0 c22.length c22.length],false⟩,some ⟨1,3,(c22.map cdI.enc),false⟩,mk 1 31 (c5.map (cdL 1 cdI).enc),mk 1 3 (c23.map cdI.enc)]) rfl rfl Dd rfl rfl rfl (AA rfl) kr kr kr kr (by show 2<=33; decide) (K5 c22 c5 c23 v26 _ hv27) ?_;rintro x h' ⟨rfl,rfl⟩;exact AK he
   refine AE ?_;obtain ⟨v28,hv28,h⟩:=OB h;obtain ⟨v29,hv29,h⟩:=OB h;refine AI (s1:=⟨Fr 51 [(5,.pt 0 0 0),(6,hd 2 (c5.map (cdL 1 cdI).enc)),(9,hd 3 (c23.map cdI.enc)),(12,.v (.int .i64 v27)),(19,.sl 1 (x1.map (cdL 1 (cdL 1 cdI)).enc)),(20,.v (.int .i64 (x1.length:Int))),(21,.v (.int .i64 c6)),(25,.sl 1 (v8.map (cdL 1 cdI).enc)),(26,.v (.int .i64 (v8.length:Int))),(27,.v (.int .i64 c24))],[some ⟨1,31,[.rf 1 0 (c22.set v27.toNat (wr .i64 (v28 + 1))).length (c22.set v27.toNat (wr .i64 (v28 + 1))).length],false⟩,some ⟨1,3,((c22.set v27.toNat (wr .i64 (v28 + 1))).map cdI.enc),false⟩,mk 1 31 (c5.map (cdL 1 cdI).enc),mk 1 3 (c23.map cdI.enc)]⟩) ?_ ?_
   ·refine AB (n:=51) he 2 [(5,.pt 0 0 0),(6,hd 2 (c5.map (cdL 1 cdI).enc)),(9,hd 3 (c23.map cdI.enc)),(12,.v (.int .i64 v27)),(19,.sl 1 (x1.map (cdL 1 (cdL 1 cdI)).enc)),(20,.v (.int .i64 (x1.length:Int))),(21,.v (.int .i64 c6)),(25,.sl 1 (v8.map (cdL 1 cdI).enc)),(26,.v (.int .i64 (v8.length:Int))),(27,.v (.int .i64 c24)),(34,.rf 1 0 c22.length c22.length),(35,.v (.int .i64 v27))] [some ⟨1,31,[.rf 1 0 c22.length c22.length],false⟩,some ⟨1,3,(c22.map cdI.enc),false⟩,mk 1 31 (c5.map (cdL 1 cdI).enc),mk 1 3 (c23.map cdI.enc)] kr ?_
    refine AJ he 0 rfl (Am (AA rfl) rfl (AF (a:= .rf 1 0 c22.length c22.length) (b:= .v (.int .i64 v27)) kr kr (LF (e:=cdI.enc) (xs:=c22) (t':=3) (el:=3) (k:=1) (ki:= .i64) kr kr kr hv28))) ?_;refine AJ he 0 rfl (Am (AA rfl) rfl (A0 (p:= .pt 1 v27.toNat 0) kr (Jr (B:=⟨1,3,(c22.map cdI.enc),false⟩) (m:=1) (g:=false) (e:=cdI.enc) (xs:=c22) kr kr kr rfl (AW hv28).2 kr))) ?_;refine AB (n:=51) he 1 [(5,.pt 0 0 0),(6,hd 2 (c5.map (cdL 1 cdI).enc)),(9,hd 3 (c23.map cdI.enc)),(12,.v (.int .i64 v27)),(19,.sl 1 (x1.map (cdL 1 (cdL 1 cdI)).enc)),(20,.v (.int .i64 (x1.length:Int))),(21,.v (.int .i64 c6)),(25,.sl 1 (v8.map (cdL 1 cdI).enc)),(26,.v (.int .i64 (v8.length:Int))),(27,.v (.int .i64 c24)),(34,.rf 1 0 c22.length c22.length),(35,.v (.int .i64 v27)),(38,.v (.int .i64 (wr .i64 (v28 + 1))))] [some ⟨1,31,[.rf 1 0 c22.length c22.length],false⟩,some ⟨1,3,(c22.map cdI.enc),false⟩,mk 1 31 (c5.map (cdL 1 cdI).enc),mk 1 3 (c23.map cdI.enc)] kr ?_;refine AJ he 0 rfl (Am (AA rfl) rfl (AF (a:= .rf 1 0 c22.length c22.length) (b:= .v (.int .i64 v27)) kr kr (LF (e:=cdI.enc) (xs:=c22) (t':=3) (el:=3) (k:=1) (ki:= .i64) kr kr kr hv29))) ?_;refine RunS.store he (y:= .pt 1 v27.toNat 0) (z:= .v (.int .i64 (wr .i64 (v28 + 1)))) rfl (AA rfl) kr kr (M4 (t':=3) (k:=1) (e:=cdI.enc) (xs:=c22) (v:=v29) (v':=(wr .i64 (v28 + 1))) kr (AW hv29).2 kr kr kr) ?_;exact AO rfl (Ac [0,1,2,3] ⟨⟨_,rfl,Wa (by simp only [List.length_set]; kernel_rfl) kr⟩,⟨_,rfl,Ai⟩,⟨_,rfl,DP⟩,⟨_,rfl,DP⟩,trivial⟩ ⟨lv,Do (b':=2) kr kr,Do (b':=3) kr kr,lv,lv,lv,lv,lv,lv,lv,trivial⟩)
   by_cases hk30:(Bb 8 (c23.length + 1))=true
   case neg=>rw [if_neg hk30] at h; cases h
   rw [if_pos hk30] at h;refine AI (s1:=⟨Fr 51 [(5,.pt 0 0 0),(6,hd 2 (c5.map (cdL 1 cdI).enc)),(9,hd 3 ((c23++[v27]).map cdI.enc)),(19,.sl 1 (x1.map (cdL 1 (cdL 1 cdI)).enc)),(20,.v (.int .i64 (x1.length:Int))),(21,.v (.int .i64 c6)),(25,.sl 1 (v8.map (cdL 1 cdI).enc)),(26,.v (.int .i64 (v8.length:Int))),(27,.v (.int .i64 c24))],[some ⟨1,31,[.rf 1 0 (c22.set v27.toNat (wr .i64 (v28 + 1))).length (c22.set v27.toNat (wr .i64 (v28 + 1))).length],false⟩,some ⟨1,3,((c22.set v27.toNat (wr .i64 (v28 + 1))).map cdI.enc),false⟩,mk 1 31 (c5.map (cdL 1 cdI).enc),mk 1 3 ((c23++[v27]).map cdI.enc)]⟩) ?_ ?_
   ·refine AB (n:=51) he 3 [(5,.pt 0 0 0),(6,hd 2 (c5.map (cdL 1 cdI).enc)),(19,.sl 1 (x1.map (cdL 1 (cdL 1 cdI)).enc)),(20,.v (.int .i64 (x1.length:Int))),(21,.v (.int .i64 c6)),(25,.sl 1 (v8.map (cdL 1 cdI).enc)),(26,.v (.int .i64 (v8.length:Int))),(27,.v (.int .i64 c24)),(40,hd 3 (c23.map cdI.enc)),(42,hd 4 ([v27].map cdI.enc))] [some ⟨1,31,[.rf 1 0 (c22.set v27.toNat (wr .i64 (v28 + 1))).length (c22.set v27.toNat (wr .i64 (v28 + 1))).length],false⟩,some ⟨1,3,((c22.set v27.toNat (wr .i64 (v28 + 1))).map cdI.enc),false⟩,mk 1 31 (c5.map (cdL 1 cdI).enc),mk 1 3 (c23.map cdI.enc),mk 1 3 ([v27].map cdI.enc)] kr ?_
    refine AJ he 0 rfl (Ox (AA rfl) rfl kr kr (DO (a:=hd 3 (c23.map cdI.enc)) (b:=hd 4 ([v27].map cdI.enc)) kr kr (JV (c:=cdI) (xs:=c23) (vs:=[v27]) (k:=1) (bytes:=8) (el:=3) kr kr (JX (t:=3) kr) (List.cons_ne_nil _ _) kr hk30))) ?_;refine AB (n:=51) he 1 [(5,.pt 0 0 0),(6,hd 2 (c5.map (cdL 1 cdI).enc)),(9,hd 5 ((c23++[v27]).map cdI.enc)),(19,.sl 1 (x1.map (cdL 1 (cdL 1 cdI)).enc)),(20,.v (.int .i64 (x1.length:Int))),(21,.v (.int .i64 c6)),(25,.sl 1 (v8.map (cdL 1 cdI).enc)),(26,.v (.int .i64 (v8.length:Int))),(27,.v (.int .i64 c24))] [some ⟨1,31,[.rf 1 0 (c22.set v27.toNat (wr .i64 (v28 + 1))).length (c22.set v27.toNat (wr .i64 (v28 + 1))).length],false⟩,some ⟨1,3,((c22.set v27.toNat (wr .i64 (v28 + 1))).map cdI.enc),false⟩,mk 1 31 (c5.map (cdL 1 cdI).enc),none,mk 1 3 ([v27].map cdI.enc),mk 1 3 ((c23++[v27]).map cdI.enc)] kr ?_;exact AO rfl (Ac [0,1,2,5] ⟨⟨_,rfl,FW⟩,⟨_,rfl,Ai⟩,⟨_,rfl,DP⟩,⟨_,rfl,DP⟩,trivial⟩ ⟨lv,Do (b':=2) kr kr,Do (b':=5) kr kr,lv,lv,lv,lv,lv,lv,trivial⟩)
   refine Cq he [(5,.pt 0 0 0),(6,hd 2 (c5.map (cdL 1 cdI).enc)),(9,hd 3 ((c23++[v27]).map cdI.enc)),(19,.sl 1 (x1.map (cdL 1 (cdL 1 cdI)).enc)),(20,.v (.int .i64 (x1.length:Int))),(21,.v (.int .i64 c6)),(25,.sl 1 (v8.map (cdL 1 cdI).enc)),(26,.v (.int .i64 (v8.length:Int))),(27,.v (.int .i64 (wr .i64 (c24 + 1))))] [some ⟨1,31,[.rf 1 0 (c22.set v27.toNat (wr .i64 (v28 + 1))).length (c22.set v27.toNat (wr .i64 (v28 + 1))).length],false⟩,some ⟨1,3,((c22.set v27.toNat (wr .i64 (v28 + 1))).map cdI.enc),false⟩,mk 1 31 (c5.map (cdL 1 cdI).enc),mk 1 3 ((c23++[v27]).map cdI.enc)] ?_;exact Ae (s1:=⟨Fr 51 [(5,.pt 0 0 0),(6,hd 2 (c5.map (cdL 1 cdI).enc)),(9,hd 3 ((c23++[v27]).map cdI.enc)),(19,.sl 1 (x1.map (cdL 1 (cdL 1 cdI)).enc)),(20,.v (.int .i64 (x1.length:Int))),(21,.v (.int .i64 c6)),(25,.sl 1 (v8.map (cdL 1 cdI).enc)),(26,.v (.int .i64 (v8.length:Int))),(27,.v (.int .i64 (wr .i64 (c24 + 1))))],[some ⟨1,31,[.rf 1 0 (c22.set v27.toNat (wr .i64 (v28 + 1))).length (c22.set v27.toNat (wr .i64 (v28 + 1))).length],false⟩,some ⟨1,3,((c22.set v27.toNat (wr .i64 (v28 + 1))).map cdI.enc),false⟩,mk 1 31 (c5.map (cdL 1 cdI).enc),mk 1 3 ((c23++[v27]).map cdI.enc)]⟩) (Ac [0,1,2,3] ⟨⟨_,rfl,FW⟩,⟨_,rfl,Ai⟩,⟨_,rfl,DP⟩,⟨_,rfl,DP⟩,trivial⟩ ⟨lv,Do (b':=2) kr kr,Do (b':=3) kr kr,lv,lv,lv,lv,lv,lv,trivial⟩) (ih (c22.set v27.toNat (wr .i64 (v28 + 1))) (c23++[v27]) (wr .i64 (c24 + 1)) h)
  ·rw [B9 hb25] at h
   refine Ba ?_;have hq:=OI h; subst hq;exact ⟨rfl,(Ac [0,1,2,3] ⟨⟨_,rfl,FW⟩,⟨_,rfl,Ai⟩,⟨_,rfl,DP⟩,⟨_,rfl,DP⟩,trivial⟩ ⟨lv,Do (b':=2) kr kr,Do (b':=3) kr kr,lv,lv,lv,trivial⟩)⟩
theorem L6 (x1:(List (List (List Int)))):∀ (f:Nat) (c4:(List Int)) (c5:(List (List Int))) (c6:Int) (r:((List (List Int)))),Gh x1 f c4 c5 c6=some r->SemN Cc ⟨none,false⟩ (pc Fd [1,1,1,1,0,1,0,0]) f ⟨Fr 51 [(5,.pt 0 0 0),(6,hd 2 (c5.map (cdL 1 cdI).enc)),(19,.sl 1 (x1.map (cdL 1 (cdL 1 cdI)).enc)),(20,.v (.int .i64 (x1.length:Int))),(21,.v (.int .i64 c6))],[some ⟨1,31,[.rf 1 0 c4.length c4.length],false⟩,some ⟨1,3,(c4.map cdI.enc),false⟩,mk 1 31 (c5.map (cdL 1 cdI).enc)]⟩ (fun e s=>e=(.exit 0)/\Wk Cc s ⟨Fr 51 [(6,hd 0 (r.map (cdL 1 cdI).enc))],[mk 1 31 (r.map (cdL 1 cdI).enc)]⟩):=by
 have he:=Ei
 intro f;induction f with
 | zero=>intro c4 c5 c6 r h; cases h
 | succ f ih0 =>
  intro c4 c5 c6 r h
  have ih:=fun (c4:(List Int)) (c5:(List (List Int))) (c6:Int)=>ih0 c4 c5 c6 r
  unfold Gh at h;refine BJ ?_
  let p1:Option Blk:=mk 1 31 (c5.map (cdL 1 cdI).enc)
  let p2:Option Blk:=some ⟨1,3,(c4.map cdI.enc),false⟩
  let p3:Option Blk:=some ⟨1,31,[.rf 1 0 c4.length c4.length],false⟩
  let p4:Nat×AV:=(21,.v (.int .i64 c6))
  let p5:Nat×AV:=(20,.v (.int .i64 (x1.length:Int)))
  let p6:Nat×AV:=(19,.sl 1 (x1.map (cdL 1 (cdL 1 cdI)).enc))
  let p7:Nat×AV:=(6,hd 2 (c5.map (cdL 1 cdI).enc))
  let p8:Nat×AV:=(5,.pt 0 0 0)
  refine AN he [p8,p7,p6,p5,p4,(22,.v (.bool (decide (c6 < (x1.length:Int)))))] [p3,p2,p1] ?_;refine AE ?_;refine AU (b:=(decide (c6 < (x1.length:Int)))) kr (fun hb7=>?_) (fun hb7=>?_)
  ·rw [if_pos hb7] at h
   refine AX ?_;refine AE ?_;refine AQ ?_;refine AE ?_;obtain ⟨v8,hv8,h⟩:=OB h
   let p9:Nat×AV:=(8,.sl 1 (v8.map (cdL 1 cdI).enc))
   refine AI (s1:=⟨Fr 51 [p8,p7,p9,p6,p5,p4],[p3,p2,p1]⟩) ?_ ?_
   ·refine AJ he 0 rfl (Am (AA rfl) rfl (AF (a:= .sl 1 (x1.map (cdL 1 (cdL 1 cdI)).enc)) (b:= .v (.int .i64 c6)) kr kr (DT (e:=(cdL 1 (cdL 1 cdI)).enc) (el:=50) (k:=1) (ki:= .i64) kr kr hv8))) ?_
    exact AK he
   refine AN he [p8,p7,p9,(9,.e0),p6,p5,p4] [p3,p2,p1] ?_;refine AE ?_;refine AE ?_
   let p10:Nat×AV:=(27,.v (.int .i64 0))
   let p11:Nat×AV:=(26,.v (.int .i64 (v8.length:Int)))
   let p12:Nat×AV:=(25,.sl 1 (v8.map (cdL 1 cdI).enc))
   refine AI (s1:=⟨Fr 51 [p8,p7,(9,.e0),p6,p5,p4,p12,p11,p10],[p3,p2,p1]⟩) ?_ ?_
   ·refine AB (n:=51) he 1 [p8,p7,(9,.e0),p6,p5,p4,p12] [p3,p2,p1] kr ?_
    refine AJ he 0 rfl (Am (AA rfl) rfl (BZ (a:= .sl 1 (v8.map (cdL 1 cdI).enc)) kr (Aw (el:=31) kr))) ?_;exact AK he
   refine AQ ?_;obtain ⟨r33,hr33,h⟩:=OB h;refine Bm (n:=100000) ?_;refine BD (Ae (s1:=⟨Fr 51 [p8,p7,(9,hd 3 ([].map cdI.enc)),p6,p5,p4,p12,p11,p10],[p3,p2,p1,mk 1 3 ([].map cdI.enc)]⟩) (Wk.trans (s1:=⟨Fr 51 [p8,p7,(9,hd 3 ([].map cdI.enc)),p6,p5,p4,p12,p11,p10],[p3,p2,p1,mk 1 3 ([].map cdI.enc)]⟩) Wk.none (Ac [0,1,2,3] ⟨⟨_,rfl,FW⟩,⟨_,rfl,Ai⟩,⟨_,rfl,DP⟩,⟨_,rfl,KI⟩,trivial⟩ ⟨lv,Do (b':=2) kr kr,lv,lv,lv,lv,lv,lv,lv,trivial⟩)) (L7 x1 c5 c6 v8 _ c4 [] 0 _ hr33)) ?_;by_cases hk34:(Bb 24 (c5.length + 1))=true
   case neg=>rw [if_neg hk34] at h; cases h
   rw [if_pos hk34] at h
   let p13:Option Blk:=mk 1 31 ((c5++[r33.2]).map (cdL 1 cdI).enc)
   let p14:Option Blk:=some ⟨1,3,(r33.1.map cdI.enc),false⟩
   let p15:Option Blk:=some ⟨1,31,[.rf 1 0 r33.1.length r33.1.length],false⟩
   let p16:Nat×AV:=(6,hd 2 ((c5++[r33.2]).map (cdL 1 cdI).enc))
   refine AI (s1:=⟨Fr 51 [p8,p16,p6,p5,p4],[p15,p14,p13]⟩) ?_ ?_
   ·let p17:Nat×AV:=(45,hd 2 (c5.map (cdL 1 cdI).enc))
    refine AB (n:=51) he 2 [p8,p6,p5,p4,p17,(46,hd 3 (r33.2.map cdI.enc))] [p15,p14,p1,mk 1 3 (r33.2.map cdI.enc)] kr ?_;refine O7 (s1:=⟨Fr 51 [p8,p6,p5,p4,p17,(46,.sl 1 (r33.2.map cdI.enc))],[p15,p14,p1,none]⟩) (FV 3 (.inl kr) ⟨.inr (.inl rfl),.inr (.inl rfl),.inr (.inl rfl),.inl rfl,trivial⟩ ⟨⟨.pt 0 0 0,kr,.inl rfl⟩,⟨.sl 1 (x1.map (cdL 1 (cdL 1 cdI)).enc),kr,.inl rfl⟩,⟨.v (.int .i64 (x1.length:Int)),kr,.inl rfl⟩,⟨.v (.int .i64 c6),kr,.inl rfl⟩,⟨hd 2 (c5.map (cdL 1 cdI).enc),kr,.inl rfl⟩,⟨hd 3 (r33.2.map cdI.enc),kr,Pv (t:=3) kr KO⟩,trivial⟩) ?_
    let p18:Option Blk:=mk 1 31 ([r33.2].map (cdL 1 cdI).enc)
    refine AB (n:=51) he 1 [p8,p6,p5,p4,p17,(47,hd 4 ([r33.2].map (cdL 1 cdI).enc))] [p15,p14,p1,none,p18] kr ?_;refine AJ he 0 rfl (Ox (AA rfl) rfl kr kr (DO (a:=hd 2 (c5.map (cdL 1 cdI).enc)) (b:=hd 4 ([r33.2].map (cdL 1 cdI).enc)) kr kr (JV (c:=(cdL 1 cdI)) (xs:=c5) (vs:=[r33.2]) (k:=1) (bytes:=24) (el:=31) kr kr (JX (t:=31) kr) (List.cons_ne_nil _ _) kr hk34))) ?_;refine AB (n:=51) he 1 [p8,(6,hd 5 ((c5++[r33.2]).map (cdL 1 cdI).enc)),p6,p5,p4] [p15,p14,none,none,p18,p13] kr ?_;exact AO rfl (Ac [0,1,5] ⟨⟨_,rfl,FW⟩,⟨_,rfl,Ai⟩,⟨_,rfl,DP⟩,trivial⟩ ⟨lv,Do (b':=5) kr kr,lv,lv,lv,trivial⟩)
   let p19:Nat×AV:=(21,.v (.int .i64 (wr .i64 (c6 + 1))))
   refine Cq he [p8,p16,p6,p5,p19] [p15,p14,p13] ?_;exact Ae (s1:=⟨Fr 51 [p8,p16,p6,p5,p19],[p15,p14,p13]⟩) (Ac [0,1,2] ⟨⟨_,rfl,FW⟩,⟨_,rfl,Ai⟩,⟨_,rfl,DP⟩,trivial⟩ ⟨lv,Do (b':=2) kr kr,lv,lv,lv,trivial⟩) (ih r33.1 (c5++[r33.2]) (wr .i64 (c6 + 1)) h)
  ·rw [B9 hb7] at h
   refine Ba ?_;have hq:=OI h; subst hq;exact ⟨rfl,(Ac [2] ⟨⟨_,rfl,DP⟩,trivial⟩ ⟨Do (b':=2) kr kr,trivial⟩)⟩
theorem Mf (x0:Int) (x1:(List (List (List Int)))) (r:(List (List Int))) (h:Dh x0 x1=some r):Sem Cc ⟨none,false⟩ Fd ⟨Fr 51 (Av 0 (Fe.enc (x0,x1,()))),[]⟩ fun e s'=>(e = .normal\/e = .ret)/\∃ xs,FA Cc.P s'.fr s'.hp Tryd.f39.results.toList=some xs/\FZ xs=Fj r:=by
 have he:=Ei
 unfold Dh at h
 let p1:Nat×AV:=(1,.sl 1 (x1.map (cdL 1 (cdL 1 cdI)).enc))
 let p2:Nat×AV:=(0,.v (.int .i64 x0))
 refine Bz (DX (s1:=⟨Fr 51 [p2,p1],[]⟩) Ah ?_);refine AN he [p2,p1] [] ?_;refine AE ?_;refine AE ?_;obtain ⟨v1,hv1,h⟩:=OB h;refine AI (s1:=⟨Fr 51 [p2,p1,(16,.v (.bool (!v1)))],[]⟩) ?_ ?_
 ·refine AB (n:=51) he 2 [p2,p1,(13,.v (.int .i64 x0)),(14,.sl 1 (x1.map (cdL 1 (cdL 1 cdI)).enc))] [] kr ?_
  refine RunS.call he (fid:=50) (s:=BL) (F:=fun a=>AZ a.1 a.2.1) (er:=BN) (xs:=[.v (.int .i64 x0),.sl 1 (x1.map (cdL 1 (cdL 1 cdI)).enc)]) (a:=(x0,x1,())) rfl (AA rfl) kr kr kr kr (Sns.cons (Sn.enc (c:=cdI) (v:=x0)) (Sns.cons (Sn.enc (c:=(cdL 1 (cdL 1 (cdL 1 cdI)))) (v:=x1)) Sns.nil)) (.inl kr) hv1 ?_;exact AK he
 refine AU (b:=(!v1)) kr (fun hb2=>?_) (fun hb2=>?_)
 ·rw [if_pos hb2] at h
  refine AN he [(4,.e0)] [] ?_;refine An ?_;have hq:=OI h; subst hq
  let p3:Nat×AV:=(4,.sl 1 ([].map (cdL 1 cdI).enc))
  exact ⟨⟨Fr 51 [p3],[]⟩,(Wk.trans (s1:=⟨Fr 51 [(4,.e0)],[]⟩) Ah (Wk.trans (s1:=⟨Fr 51 [(4,.e0)],[none]⟩) Wk.none (Wk.trans (s1:=⟨Fr 51 [p3],[none]⟩) (FV 0 (.inr kr) ⟨.inl rfl,trivial⟩ ⟨⟨.e0,kr,SS⟩,trivial⟩) (Ac [] trivial ⟨lv,trivial⟩)))),.inr rfl,[.sl 1 ([].map (cdL 1 cdI).enc)],kr,kr⟩
 ·rw [B9 hb2] at h
  refine AX ?_;refine AE ?_;by_cases hk3:(OV 8 x0)=true
  case neg=>rw [if_neg hk3] at h; cases h
  rw [if_pos hk3] at h
  let p4:Option Blk:=some ⟨1,3,((List.replicate x0.toNat (0:Int)).map cdI.enc),false⟩
  let p5:Option Blk:=some ⟨1,31,[.rf 1 0 (List.replicate x0.toNat (0:Int)).length (List.replicate x0.toNat (0:Int)).length],false⟩
  let p6:Nat×AV:=(5,.pt 0 0 0)
  refine AI (s1:=⟨Fr 51 [p1,p6],[p5,p4]⟩) ?_ ?_
  ·refine AB (n:=51) he 1 [p1,(17,.v (.int .i64 x0))] [] kr ?_
   refine AJ he 0 rfl (OW (AA rfl) rfl kr (Ow (x:= .v (.int .i64 x0)) (y:= .v (.int .i64 x0)) kr kr (Py (c:=cdI) (z:=(0:Int)) (k:=1) (bytes:=8) (el:=3) kr kr hk3))) ?_;refine AB (n:=51) he 2 [p1,(5,.pt 1 0 0)] [p4,some ⟨1,31,[.rf 0 0 (List.replicate x0.toNat (0:Int)).length (List.replicate x0.toNat (0:Int)).length],false⟩] kr ?_;exact AO rfl (Ac [1,0] ⟨⟨_,rfl,FW⟩,⟨_,rfl,Ai⟩,trivial⟩ ⟨lv,lv,trivial⟩)
  refine AN he [p1,p6,(6,.e0)] [p5,p4] ?_;refine AE ?_;refine AE ?_
  let p7:Nat×AV:=(21,.v (.int .i64 0))
  let p8:Nat×AV:=(20,.v (.int .i64 (x1.length:Int)))
  let p9:Nat×AV:=(19,.sl 1 (x1.map (cdL 1 (cdL 1 cdI)).enc))
  refine AI (s1:=⟨Fr 51 [p6,(6,.e0),p9,p8,p7],[p5,p4]⟩) ?_ ?_
  ·refine AB (n:=51) he 1 [p6,(6,.e0),p9] [p5,p4] kr ?_
   refine AJ he 0 rfl (Am (AA rfl) rfl (BZ (a:= .sl 1 (x1.map (cdL 1 (cdL 1 cdI)).enc)) kr (Aw (el:=50) kr))) ?_;exact AK he
  refine AQ ?_;obtain ⟨r36,hr36,h⟩:=OB h;refine Bm (n:=100000) ?_
  let p10:Nat×AV:=(6,hd 2 ([].map (cdL 1 cdI).enc))
  refine BD (Ae (s1:=⟨Fr 51 [p6,p10,p9,p8,p7],[p5,p4,mk 1 31 ([].map (cdL 1 cdI).enc)]⟩) (Wk.trans (s1:=⟨Fr 51 [p6,p10,p9,p8,p7],[p5,p4,mk 1 31 ([].map (cdL 1 cdI).enc)]⟩) Wk.none (Ac [0,1,2] ⟨⟨_,rfl,FW⟩,⟨_,rfl,Ai⟩,⟨_,rfl,KI⟩,trivial⟩ ⟨lv,lv,lv,lv,lv,trivial⟩)) (L6 x1 _ (List.replicate x0.toNat (0:Int)) [] 0 _ hr36)) ?_;refine AN he [(4,hd 0 (r36.map (cdL 1 cdI).enc))] [mk 1 31 (r36.map (cdL 1 cdI).enc)] ?_;refine An ?_;have hq:=OI h; subst hq
  let p11:Nat×AV:=(4,.sl 1 (r36.map (cdL 1 cdI).enc))
  exact ⟨⟨Fr 51 [p11],[]⟩,(Wk.trans (s1:=⟨Fr 51 [p11],[none]⟩) (FV 0 (.inl kr) ⟨.inl rfl,trivial⟩ ⟨⟨hd 0 (r36.map (cdL 1 cdI).enc),kr,Pv (t:=31) kr KO⟩,trivial⟩) (Ac [] trivial ⟨lv,trivial⟩)),.inr rfl,[.sl 1 (r36.map (cdL 1 cdI).enc)],kr,kr⟩
def Kl:List AV->Option AV:=GP Fe (fun a=>Dh a.1 a.2.1) Fj
theorem Ko:XOk 39 Kl:=by
 refine EnvOk.x (E:=Cc) (Af Ei (fn:=Tryd.f39) (c:=Fd) ?h1 ?h2 ⟨Tryd.call39⟩ Fe (fun a=>Dh a.1 a.2.1) Fj (fun a=>(by show 2<=51; decide)) ?h3 ?h4) rfl rfl
 case h1=>kernel_rfl
 case h2=>kernel_rfl
 case h3=>intro b; kernel_rfl
 case h4=>exact fun a b h=>Mf a.1 a.2.1 b h
/- trestle/evening.extremes -/
noncomputable def A7:Env:=(E0.withX 80 Er)
theorem Cg:EnvOk A7:=(EnvOk.withX BB Cp.1 Cp.2)
noncomputable def DB:Code:=BK Tryd.f85
def En (x0:Int) (v1:(Int×(List Int))) (c33:Int):Nat->Int->Int->Int->Option ((Int×Int))
 | 0,_,_,_=>none
 | f + 1,c47,c48,c49 =>
  if (decide (c49 < c33))=true then
  (Hk (v1.1,v1.2) c33 c49).bind fun v51 =>
  (Hk (v1.1,v1.2) c33 c49).bind fun v52 =>
  En x0 v1 c33 f (mnI c47 v51) (mxI c48 v52) (wr .i64 (c49 + 1))
  else
  some (c47,c48)
def Em (x0:Int) (v1:(Int×(List Int))):Nat->Int->Int->Int->Option ((Int×Int))
 | 0,_,_,_=>none
 | f + 1,c31,c32,c33 =>
  if (decide (c33 < x0))=true then
  (En x0 v1 c33 100000 c31 c32 0).bind fun r55 =>
  Em x0 v1 f r55.1 r55.2 (wr .i64 (c33 + 1))
  else
  some (c31,c32)
def GA (x0:Int) (r58:Int×Int):Option ((Int)) :=
 if (x0==1)=true then
 some 0
 else
 some r58.1
def CL (x0:Int) (x1:(List (List (List Int)))):Option (Int×Int) :=
 (Al x0 x1).bind fun v1 =>
 (Em x0 v1 100000 64 0 0).bind fun r58 =>
 (GA x0 r58).bind fun r61 =>
 some (r61,r58.2)
def DC:Cs (Int×(List (List (List Int)))×Unit):=(csC cdI (csC (cdL 1 (cdL 1 (cdL 1 cdI))) csN))
def DH (r:Int×Int):AV:= .tp [cdI.enc r.1,cdI.enc r.2]
theorem KV (x0:Int) (v1:(Int×(List Int))) (c33:Int):∀ (f:Nat) (c47:Int) (c48:Int) (c49:Int) (r:(Int×Int)),En x0 v1 c33 f c47 c48 c49=some r->SemN A7 ⟨none,false⟩ (pc DB [1,1,1,0,1,0,0,1,1,0,0,1,1,0,0]) f ⟨Fr 44 [(0,.v (.int .i64 x0)),(6,.pt 0 0 0),(7,.v (.int .i64 c47)),(8,.v (.int .i64 c48)),(9,.v (.int .i64 c33)),(14,.v (.int .i64 x0)),(15,.v (.int .i64 c33)),(18,.v (.int .i64 c33)),(19,.v (.int .i64 c49))],[some ⟨2,94,[.ag [.v (.int .i64 v1.1),.sl 1 (v1.2.map cdI.enc)]],false⟩]⟩ (fun e s=>e=(.exit 2)/\Wk A7 s ⟨Fr 44 [(0,.v (.int .i64 x0)),(6,.pt 0 0 0),(7,.v (.int .i64 r.1)),(8,.v (.int .i64 r.2)),(14,.v (.int .i64 x0)),(15,.v (.int .i64 c33))],[some ⟨2,94,[.ag [.v (.int .i64 v1.1),.sl 1 (v1.2.map cdI.enc)]],false⟩]⟩):=by
 have he:=Cg
 intro f;induction f with
 | zero=>intro c47 c48 c49 r h; cases h
 | succ f ih0 =>
  intro c47 c48 c49 r h
  have ih:=fun (c47:Int) (c48:Int) (c49:Int)=>ih0 c47 c48 c49 r
  unfold En at h;refine BJ ?_
  let p1:Option Blk:=some ⟨2,94,[.ag [.v (.int .i64 v1.1),.sl 1 (v1.2.map cdI.enc)]],false⟩
  let p2:Nat×AV:=(19,.v (.int .i64 c49))
  let p3:Nat×AV:=(18,.v (.int .i64 c33))
  let p4:Nat×AV:=(15,.v (.int .i64 c33))
  let p5:Nat×AV:=(14,.v (.int .i64 x0))
  let p6:Nat×AV:=(9,.v (.int .i64 c33))
  let p7:Nat×AV:=(8,.v (.int .i64 c48))
  let p8:Nat×AV:=(6,.pt 0 0 0)
  let p9:Nat×AV:=(0,.v (.int .i64 x0))
  refine AN he [p9,p8,(7,.v (.int .i64 c47)),p7,p6,p5,p4,p3,p2,(20,.v (.bool (decide (c49 < c33))))] [p1] ?_;refine AE ?_;refine AU (b:=(decide (c49 < c33))) kr (fun hb50=>?_) (fun hb50=>?_)
  ·rw [if_pos hb50] at h
   refine AX ?_;refine AE ?_;refine AQ ?_;refine AN he [p9,p8,(7,.v (.int .i64 c47)),p7,p6,(10,.v (.int .i64 c49)),p5,p4,p3,p2] [p1] ?_;obtain ⟨v51,hv51,h⟩:=OB h;obtain ⟨v52,hv52,h⟩:=OB h
   let p10:Nat×AV:=(8,.v (.int .i64 (mxI c48 v52)))
   let p11:Nat×AV:=(7,.v (.int .i64 (mnI c47 v51)))
   refine I3 he (s1:=⟨Fr 44 [p9,p8,p11,p10,p6,p5,p4,p3,p2],[p1]⟩) kr ?_ ?_
   ·refine B3 (n:=44) he 4 [p9,p8,p7,p6,(10,.v (.int .i64 c49)),p5,p4,p3,p2,(22,.v (.int .i64 c47)),(23,.ag [.v (.int .i64 v1.1),.sl 1 (v1.2.map cdI.enc)]),(24,.v (.int .i64 c33)),(25,.v (.int .i64 c49))] [p1] kr kr ?_
    refine IE rfl HU (u:=((v1.1,v1.2),c33,c49,())) rfl (AA rfl) kr kr rfl hv51 ?_;refine B3 (n:=44) he 7 [p9,p8,p6,p5,p4,p3,p2,(29,.v (.int .i64 (mnI c47 v51))),(30,.v (.int .i64 c48)),(31,.ag [.v (.int .i64 v1.1),.sl 1 (v1.2.map cdI.enc)]),(32,.v (.int .i64 c33)),(33,.v (.int .i64 c49))] [p1] kr kr ?_;refine IE rfl HU (u:=((v1.1,v1.2),c33,c49,())) rfl (AA rfl) kr kr rfl hv52 ?_;refine B3 (n:=44) he 5 [p9,p8,p11,p10,p6,p5,p4,p3,p2] [p1] kr kr ?_;exact RunDS.done rfl (Ac [0] ⟨⟨_,rfl,FW⟩,trivial⟩ ⟨lv,lv,lv,lv,lv,lv,lv,lv,lv,trivial⟩)
   let p12:Nat×AV:=(19,.v (.int .i64 (wr .i64 (c49 + 1))))
   refine Cq he [p9,p8,p11,p10,p6,p5,p4,p3,p12] [p1] ?_;exact Ae (s1:=⟨Fr 44 [p9,p8,p11,p10,p6,p5,p4,p3,p12],[p1]⟩) (Ac [0] ⟨⟨_,rfl,FW⟩,trivial⟩ ⟨lv,lv,lv,lv,lv,lv,lv,lv,lv,trivial⟩) (ih (mnI c47 v51) (mxI c48 v52) (wr .i64 (c49 + 1)) h)
  ·rw [B9 hb50] at h
   refine Ba ?_;have hq:=OI h; subst hq;exact ⟨rfl,(Ac [0] ⟨⟨_,rfl,FW⟩,trivial⟩ ⟨lv,lv,lv,lv,lv,lv,trivial⟩)⟩
theorem KU (x0:Int) (v1:(Int×(List Int))):∀ (f:Nat) (c31:Int) (c32:Int) (c33:Int) (r:(Int×Int)),Em x0 v1 f c31 c32 c33=some r->SemN A7 ⟨none,false⟩ (pc DB [1,1,1,0,1,0,0]) f ⟨Fr 44 [(0,.v (.int .i64 x0)),(6,.pt 0 0 0),(7,.v (.int .i64 c31)),(8,.v (.int .i64 c32)),(14,.v (.int .i64 x0)),(15,.v (.int .i64 c33))],[some ⟨2,94,[.ag [.v (.int .i64 v1.1),.sl 1 (v1.2.map cdI.enc)]],false⟩]⟩ (fun e s=>e=(.exit 0)/\Wk A7 s ⟨Fr 44 [(0,.v (.int .i64 x0)),(7,.v (.int .i64 r.1)),(8,.v (.int .i64 r.2))],[]⟩):=by
 have he:=Cg
 intro f;induction f with
 | zero=>intro c31 c32 c33 r h; cases h
 | succ f ih0 =>
  intro c31 c32 c33 r h
  have ih:=fun (c31:Int) (c32:Int) (c33:Int)=>ih0 c31 c32 c33 r
  unfold Em at h;refine BJ ?_
  let p1:Option Blk:=some ⟨2,94,[.ag [.v (.int .i64 v1.1),.sl 1 (v1.2.map cdI.enc)]],false⟩
  let p2:Nat×AV:=(15,.v (.int .i64 c33))
  let p3:Nat×AV:=(14,.v (.int .i64 x0))
  let p4:Nat×AV:=(8,.v (.int .i64 c32))
  let p5:Nat×AV:=(7,.v (.int .i64 c31))
  let p6:Nat×AV:=(6,.pt 0 0 0)
  let p7:Nat×AV:=(0,.v (.int .i64 x0))
  refine AN he [p7,p6,p5,p4,p3,p2,(16,.v (.bool (decide (c33 < x0))))] [p1] ?_;refine AE ?_;refine AU (b:=(decide (c33 < x0))) kr (fun hb34=>?_) (fun hb34=>?_)
  ·rw [if_pos hb34] at h
   refine AX ?_;refine AE ?_;refine AQ ?_
   let p8:Nat×AV:=(9,.v (.int .i64 c33))
   refine AN he [p7,p6,p5,p4,p8,p3,p2] [p1] ?_;refine AN he [p7,p6,p5,p4,p8,p3,p2,(18,.v (.int .i64 c33)),(19,.v (.int .i64 0))] [p1] ?_;refine AQ ?_;obtain ⟨r55,hr55,h⟩:=OB h;refine Bm (n:=100000) ?_;refine BD (Ae (s1:=⟨Fr 44 [p7,p6,p5,p4,p8,p3,p2,(18,.v (.int .i64 c33)),(19,.v (.int .i64 0))],[p1]⟩) (Ac [0] ⟨⟨_,rfl,FW⟩,trivial⟩ ⟨lv,lv,lv,lv,lv,lv,lv,lv,lv,trivial⟩) (KV x0 v1 c33 _ c31 c32 0 _ hr55)) ?_
   let p9:Nat×AV:=(15,.v (.int .i64 (wr .i64 (c33 + 1))))
   refine Cq he [p7,p6,(7,.v (.int .i64 r55.1)),(8,.v (.int .i64 r55.2)),p3,p9] [p1] ?_;exact Ae (s1:=⟨Fr 44 [p7,p6,(7,.v (.int .i64 r55.1)),(8,.v (.int .i64 r55.2)),p3,p9],[p1]⟩) (Ac [0] ⟨⟨_,rfl,FW⟩,trivial⟩ ⟨lv,lv,lv,lv,lv,lv,trivial⟩) (ih r55.1 r55.2 (wr .i64 (c33 + 1)) h)
  ·rw [B9 hb34] at h
   refine Ba ?_;have hq:=OI h; subst hq;exact ⟨rfl,(Ac [] trivial ⟨lv,lv,lv,trivial⟩)⟩
theorem J9 (x0:Int) (r58:Int×Int) (r:(Int)) (h:GA x0 r58=some r):Sem A7 ⟨none,false⟩ (pc DB [1,1,1,1,0,1]) ⟨Fr 44 [(7,.v (.int .i64 r58.1)),(8,.v (.int .i64 r58.2)),(41,.v (.bool (x0==1)))],[]⟩ (fun e s=>e = .normal/\Wk A7 s ⟨Fr 44 [(7,.v (.int .i64 r)),(8,.v (.int .i64 r58.2))],[]⟩):=by
 unfold GA at h;refine AU (b:=(x0==1)) kr (fun hb59=>?_) (fun hb59=>?_)
 ·rw [if_pos hb59] at h
  refine Cq Cg [(7,.v (.int .i64 0)),(8,.v (.int .i64 r58.2))] [] ?_;have hq:=OI h; subst hq;exact ⟨rfl,Ah⟩
 ·rw [B9 hb59] at h
  refine AX ?_;have hq:=OI h; subst hq;exact ⟨rfl,Ah⟩
theorem LC (x0:Int) (x1:(List (List (List Int)))) (r:Int×Int) (h:CL x0 x1=some r):Sem A7 ⟨none,false⟩ DB ⟨Fr 44 (Av 0 (DC.enc (x0,x1,()))),[]⟩ fun e s'=>(e = .normal\/e = .ret)/\∃ xs,FA A7.P s'.fr s'.hp Tryd.f85.results.toList=some xs/\FZ xs=DH r:=by
 have he:=Cg
 unfold CL at h
 let p1:Nat×AV:=(1,.sl 1 (x1.map (cdL 1 (cdL 1 cdI)).enc))
 let p2:Nat×AV:=(0,.v (.int .i64 x0))
 refine Bz (DX (s1:=⟨Fr 44 [p2,p1],[]⟩) Ah ?_);refine AN he [p2,p1] [] ?_;refine AE ?_;obtain ⟨v1,hv1,h⟩:=OB h
 let p3:Option Blk:=some ⟨2,94,[.ag [.v (.int .i64 v1.1),.sl 1 (v1.2.map cdI.enc)]],false⟩
 let p4:Nat×AV:=(6,.pt 0 0 0)
 refine AI (s1:=⟨Fr 44 [p2,p4],[p3]⟩) ?_ ?_
 ·refine AB (n:=44) he 2 [p2,(11,.v (.int .i64 x0)),(12,.sl 1 (x1.map (cdL 1 (cdL 1 cdI)).enc))] [] kr ?_
  refine RunS.call he (fid:=80) (s:=BG) (F:=fun a=>Al a.1 a.2.1) (er:=CU) (xs:=[.v (.int .i64 x0),.sl 1 (x1.map (cdL 1 (cdL 1 cdI)).enc)]) (a:=(x0,x1,())) rfl (AA rfl) kr kr kr kr (Sns.cons (Sn.enc (c:=cdI) (v:=x0)) (Sns.cons (Sn.enc (c:=(cdL 1 (cdL 1 (cdL 1 cdI)))) (v:=x1)) Sns.nil)) (.inl kr) hv1 ?_;exact AK he
 let p5:Nat×AV:=(8,.v (.int .i64 0))
 let p6:Nat×AV:=(7,.v (.int .i64 64))
 refine AN he [p2,p4,p6,p5] [p3] ?_;refine AE ?_;refine AN he [p2,p4,p6,p5,(14,.v (.int .i64 x0)),(15,.v (.int .i64 0))] [p3] ?_;refine AQ ?_;obtain ⟨r58,hr58,h⟩:=OB h;refine Bm (n:=100000) ?_;refine BD (Ae (s1:=⟨Fr 44 [p2,p4,p6,p5,(14,.v (.int .i64 x0)),(15,.v (.int .i64 0))],[p3]⟩) (Ac [0] ⟨⟨_,rfl,FW⟩,trivial⟩ ⟨lv,lv,lv,lv,lv,lv,trivial⟩) (KU x0 v1 _ 64 0 0 _ hr58)) ?_;refine AE ?_;refine AN he [(7,.v (.int .i64 r58.1)),(8,.v (.int .i64 r58.2)),(41,.v (.bool (x0==1)))] [] ?_;obtain ⟨r61,hr61,h⟩:=OB h;refine Ni (J9 x0 r58 _ hr61) ?_;refine AN he [(4,.v (.int .i64 r61)),(5,.v (.int .i64 r58.2))] [] ?_;refine An ?_;have hq:=OI h; subst hq;exact ⟨⟨Fr 44 [(4,.v (.int .i64 r61)),(5,.v (.int .i64 r58.2))],[]⟩,Ah,.inr rfl,[.v (.int .i64 r61),.v (.int .i64 r58.2)],kr,kr⟩
def G0:List AV->Option AV:=GP DC (fun a=>CL a.1 a.2.1) DH
theorem Es:XOk 85 G0:=by
 refine EnvOk.x (E:=A7) (Af Cg (fn:=Tryd.f85) (c:=DB) ?h1 ?h2 ⟨Tryd.call85⟩ DC (fun a=>CL a.1 a.2.1) DH (fun a=>(by show 2<=44; decide)) ?h3 ?h4) rfl rfl
 case h1=>kernel_rfl
 case h2=>kernel_rfl
 case h3=>intro b; kernel_rfl
 case h4=>exact fun a b h=>LC a.1 a.2.1 b h
/- trestle/evening.Most -/
noncomputable def HY:Env:=((E0.withX 50 CI).withX 85 G0)
theorem I8:EnvOk HY:=(EnvOk.withX (EnvOk.withX BB Ap.1 Ap.2) Es.1 Es.2)
noncomputable def KK:Code:=BK Tryd.f33
def EL (x0:Int) (x1:(List (List (List Int)))):Option (Int) :=
 (AZ x0 x1).bind fun v1 =>
 if (!v1)=true then
 some 0
 else
 (CL x0 x1).bind fun v3 =>
 some v3.2
def GT:Cs (Int×(List (List (List Int)))×Unit):=(csC cdI (csC (cdL 1 (cdL 1 (cdL 1 cdI))) csN))
def Gc (r:Int):AV:=cdI.enc r
theorem ND (x0:Int) (x1:(List (List (List Int)))) (r:Int) (h:EL x0 x1=some r):Sem HY ⟨none,false⟩ KK ⟨Fr 18 (Av 0 (GT.enc (x0,x1,()))),[]⟩ fun e s'=>(e = .normal\/e = .ret)/\∃ xs,FA HY.P s'.fr s'.hp Tryd.f33.results.toList=some xs/\FZ xs=Gc r:=by
 have he:=I8
 unfold EL at h
 let p1:Nat×AV:=(1,.sl 1 (x1.map (cdL 1 (cdL 1 cdI)).enc))
 let p2:Nat×AV:=(0,.v (.int .i64 x0))
 refine Bz (DX (s1:=⟨Fr 18 [p2,p1],[]⟩) Ah ?_);refine AN he [p2,p1] [] ?_;refine AE ?_;refine AE ?_;obtain ⟨v1,hv1,h⟩:=OB h;refine AI (s1:=⟨Fr 18 [p2,p1,(10,.v (.bool (!v1)))],[]⟩) ?_ ?_
 ·refine AB (n:=18) he 2 [p2,p1,(7,.v (.int .i64 x0)),(8,.sl 1 (x1.map (cdL 1 (cdL 1 cdI)).enc))] [] kr ?_
  refine RunS.call he (fid:=50) (s:=BL) (F:=fun a=>AZ a.1 a.2.1) (er:=BN) (xs:=[.v (.int .i64 x0),.sl 1 (x1.map (cdL 1 (cdL 1 cdI)).enc)]) (a:=(x0,x1,())) rfl (AA rfl) kr kr kr kr (Sns.cons (Sn.enc (c:=cdI) (v:=x0)) (Sns.cons (Sn.enc (c:=(cdL 1 (cdL 1 (cdL 1 cdI)))) (v:=x1)) Sns.nil)) (.inl kr) hv1 ?_;exact AK he
 refine AU (b:=(!v1)) kr (fun hb2=>?_) (fun hb2=>?_)
 ·rw [if_pos hb2] at h
  refine AN he [(4,.v (.int .i64 0))] [] ?_;refine An ?_;have hq:=OI h; subst hq;exact ⟨⟨Fr 18 [(4,.v (.int .i64 0))],[]⟩,Ah,.inr rfl,[.v (.int .i64 0)],kr,kr⟩
 ·rw [B9 hb2] at h
  refine AX ?_;refine AE ?_;obtain ⟨v3,hv3,h⟩:=OB h;refine AI (s1:=⟨Fr 18 [(6,.v (.int .i64 v3.2))],[]⟩) ?_ ?_
  ·refine AB (n:=18) he 2 [(12,.v (.int .i64 x0)),(13,.sl 1 (x1.map (cdL 1 (cdL 1 cdI)).enc))] [] kr ?_
   refine RunS.call he (fid:=85) (s:=DC) (F:=fun a=>CL a.1 a.2.1) (er:=DH) (xs:=[.v (.int .i64 x0),.sl 1 (x1.map (cdL 1 (cdL 1 cdI)).enc)]) (a:=(x0,x1,())) rfl (AA rfl) kr kr kr kr (Sns.cons (Sn.enc (c:=cdI) (v:=x0)) (Sns.cons (Sn.enc (c:=(cdL 1 (cdL 1 (cdL 1 cdI)))) (v:=x1)) Sns.nil)) (.inl kr) hv3 ?_;exact AK he
  refine AN he [(4,.v (.int .i64 v3.2))] [] ?_;refine An ?_;have hq:=OI h; subst hq;exact ⟨⟨Fr 18 [(4,.v (.int .i64 v3.2))],[]⟩,Ah,.inr rfl,[.v (.int .i64 v3.2)],kr,kr⟩
def LP:List AV->Option AV:=GP GT (fun a=>EL a.1 a.2.1) Gc
theorem LW:XOk 33 LP:=by
 refine EnvOk.x (E:=HY) (Af I8 (fn:=Tryd.f33) (c:=KK) ?h1 ?h2 ⟨Tryd.call33⟩ GT (fun a=>EL a.1 a.2.1) Gc (fun a=>(by show 2<=18; decide)) ?h3 ?h4) rfl rfl
 case h1=>kernel_rfl
 case h2=>kernel_rfl
 case h3=>intro b; kernel_rfl
 case h4=>exact fun a b h=>ND a.1 a.2.1 b h
/- trestle/evening.Least -/
noncomputable def GZ:Env:=((E0.withX 50 CI).withX 85 G0)
theorem Ig:EnvOk GZ:=(EnvOk.withX (EnvOk.withX BB Ap.1 Ap.2) Es.1 Es.2)
noncomputable def Jl:Code:=BK Tryd.f40
def Di (x0:Int) (x1:(List (List (List Int)))):Option (Int) :=
 (AZ x0 x1).bind fun v1 =>
 if (!v1)=true then
 some 0
 else
 (CL x0 x1).bind fun v3 =>
 some v3.1
def Ff:Cs (Int×(List (List (List Int)))×Unit):=(csC cdI (csC (cdL 1 (cdL 1 (cdL 1 cdI))) csN))
def Fk (r:Int):AV:=cdI.enc r
theorem Mg (x0:Int) (x1:(List (List (List Int)))) (r:Int) (h:Di x0 x1=some r):Sem GZ ⟨none,false⟩ Jl ⟨Fr 18 (Av 0 (Ff.enc (x0,x1,()))),[]⟩ fun e s'=>(e = .normal\/e = .ret)/\∃ xs,FA GZ.P s'.fr s'.hp Tryd.f40.results.toList=some xs/\FZ xs=Fk r:=by
 have he:=Ig
 unfold Di at h
 let p1:Nat×AV:=(1,.sl 1 (x1.map (cdL 1 (cdL 1 cdI)).enc))
 let p2:Nat×AV:=(0,.v (.int .i64 x0))
 refine Bz (DX (s1:=⟨Fr 18 [p2,p1],[]⟩) Ah ?_);refine AN he [p2,p1] [] ?_;refine AE ?_;refine AE ?_;obtain ⟨v1,hv1,h⟩:=OB h;refine AI (s1:=⟨Fr 18 [p2,p1,(10,.v (.bool (!v1)))],[]⟩) ?_ ?_
 ·refine AB (n:=18) he 2 [p2,p1,(7,.v (.int .i64 x0)),(8,.sl 1 (x1.map (cdL 1 (cdL 1 cdI)).enc))] [] kr ?_
  refine RunS.call he (fid:=50) (s:=BL) (F:=fun a=>AZ a.1 a.2.1) (er:=BN) (xs:=[.v (.int .i64 x0),.sl 1 (x1.map (cdL 1 (cdL 1 cdI)).enc)]) (a:=(x0,x1,())) rfl (AA rfl) kr kr kr kr (Sns.cons (Sn.enc (c:=cdI) (v:=x0)) (Sns.cons (Sn.enc (c:=(cdL 1 (cdL 1 (cdL 1 cdI)))) (v:=x1)) Sns.nil)) (.inl kr) hv1 ?_;exact AK he
 refine AU (b:=(!v1)) kr (fun hb2=>?_) (fun hb2=>?_)
 ·rw [if_pos hb2] at h
  refine AN he [(4,.v (.int .i64 0))] [] ?_;refine An ?_;have hq:=OI h; subst hq;exact ⟨⟨Fr 18 [(4,.v (.int .i64 0))],[]⟩,Ah,.inr rfl,[.v (.int .i64 0)],kr,kr⟩
 ·rw [B9 hb2] at h
  refine AX ?_;refine AE ?_;obtain ⟨v3,hv3,h⟩:=OB h;refine AI (s1:=⟨Fr 18 [(5,.v (.int .i64 v3.1))],[]⟩) ?_ ?_
  ·refine AB (n:=18) he 2 [(12,.v (.int .i64 x0)),(13,.sl 1 (x1.map (cdL 1 (cdL 1 cdI)).enc))] [] kr ?_
   refine RunS.call he (fid:=85) (s:=DC) (F:=fun a=>CL a.1 a.2.1) (er:=DH) (xs:=[.v (.int .i64 x0),.sl 1 (x1.map (cdL 1 (cdL 1 cdI)).enc)]) (a:=(x0,x1,())) rfl (AA rfl) kr kr kr kr (Sns.cons (Sn.enc (c:=cdI) (v:=x0)) (Sns.cons (Sn.enc (c:=(cdL 1 (cdL 1 (cdL 1 cdI)))) (v:=x1)) Sns.nil)) (.inl kr) hv3 ?_;exact AK he
  refine AN he [(4,.v (.int .i64 v3.1))] [] ?_;refine An ?_;have hq:=OI h; subst hq;exact ⟨⟨Fr 18 [(4,.v (.int .i64 v3.1))],[]⟩,Ah,.inr rfl,[.v (.int .i64 v3.1)],kr,kr⟩
def Km:List AV->Option AV:=GP Ff (fun a=>Di a.1 a.2.1) Fk
theorem Kp:XOk 40 Km:=by
 refine EnvOk.x (E:=GZ) (Af Ig (fn:=Tryd.f40) (c:=Jl) ?h1 ?h2 ⟨Tryd.call40⟩ Ff (fun a=>Di a.1 a.2.1) Fk (fun a=>(by show 2<=18; decide)) ?h3 ?h4) rfl rfl
 case h1=>kernel_rfl
 case h2=>kernel_rfl
 case h3=>intro b; kernel_rfl
 case h4=>exact fun a b h=>Mg a.1 a.2.1 b h
/- trestle/evening.Strain -/
noncomputable def DV:Env:=((E0.withX 50 CI).withX 80 Er)
theorem F5:EnvOk DV:=(EnvOk.withX (EnvOk.withX BB Ap.1 Ap.2) Cp.1 Cp.2)
noncomputable def HE:Code:=BK Tryd.f28
def Fq (v3:(Int×(List Int))):Nat->Int->Int->Option ((Int))
 | 0,_,_=>none
 | f + 1,c4,c5 =>
  if (decide (c5 < (v3.2.length:Int)))=true then
  (idx v3.2 c5).bind fun v7 =>
  Fq v3 f (wr .i64 (c4 + (wr .i64 (v7 * v7)))) (wr .i64 (c5 + 1))
  else
  some c4
def C8 (x0:Int) (x1:(List (List (List Int)))):Option (Int) :=
 (AZ x0 x1).bind fun v1 =>
 if (!v1)=true then
 some 0
 else
 (Al x0 x1).bind fun v3 =>
 (Fq v3 100000 0 0).bind fun r9 =>
 some (wr .i64 (r9.tdiv 2))
def FE:Cs (Int×(List (List (List Int)))×Unit):=(csC cdI (csC (cdL 1 (cdL 1 (cdL 1 cdI))) csN))
def FJ (r:Int):AV:=cdI.enc r
theorem Lm (v3:(Int×(List Int))):∀ (f:Nat) (c4:Int) (c5:Int) (r:(Int)),Fq v3 f c4 c5=some r->SemN DV ⟨none,false⟩ (pc HE [1,1,1,0,1,0,0]) f ⟨Fr 29 [(5,.v (.int .i64 c4)),(15,.sl 1 (v3.2.map cdI.enc)),(16,.v (.int .i64 (v3.2.length:Int))),(17,.v (.int .i64 c5))],[]⟩ (fun e s=>e=(.exit 0)/\Wk DV s ⟨Fr 29 [(5,.v (.int .i64 r))],[]⟩):=by
 have he:=F5
 intro f;induction f with
 | zero=>intro c4 c5 r h; cases h
 | succ f ih0 =>
  intro c4 c5 r h
  have ih:=fun (c4:Int) (c5:Int)=>ih0 c4 c5 r
  unfold Fq at h;refine BJ ?_
  let p1:Nat×AV:=(17,.v (.int .i64 c5))
  let p2:Nat×AV:=(16,.v (.int .i64 (v3.2.length:Int)))
  let p3:Nat×AV:=(15,.sl 1 (v3.2.map cdI.enc))
  refine AN he [(5,.v (.int .i64 c4)),p3,p2,p1,(18,.v (.bool (decide (c5 < (v3.2.length:Int)))))] [] ?_;refine AE ?_;refine AU (b:=(decide (c5 < (v3.2.length:Int)))) kr (fun hb6=>?_) (fun hb6=>?_)
  ·rw [if_pos hb6] at h
   refine AX ?_;refine AE ?_;refine AQ ?_;refine AE ?_;obtain ⟨v7,hv7,h⟩:=OB h;refine AI (s1:=⟨Fr 29 [(5,.v (.int .i64 c4)),(7,.v (.int .i64 v7)),p3,p2,p1],[]⟩) ?_ ?_
   ·refine AJ he 0 rfl (Am (AA rfl) rfl (AF (a:= .sl 1 (v3.2.map cdI.enc)) (b:= .v (.int .i64 c5)) kr kr (DT (e:=cdI.enc) (el:=3) (k:=1) (ki:= .i64) kr kr hv7))) ?_
    exact AK he
   let p4:Nat×AV:=(5,.v (.int .i64 (wr .i64 (c4 + (wr .i64 (v7 * v7))))))
   refine Cq he [p4,p3,p2,p1] [] ?_
   let p5:Nat×AV:=(17,.v (.int .i64 (wr .i64 (c5 + 1))))
   refine Cq he [p4,p3,p2,p5] [] ?_;exact Ae (s1:=⟨Fr 29 [p4,p3,p2,p5],[]⟩) Ah (ih (wr .i64 (c4 + (wr .i64 (v7 * v7)))) (wr .i64 (c5 + 1)) h)
  ·rw [B9 hb6] at h
   refine Ba ?_;have hq:=OI h; subst hq;exact ⟨rfl,Ah⟩
theorem L9 (x0:Int) (x1:(List (List (List Int)))) (r:Int) (h:C8 x0 x1=some r):Sem DV ⟨none,false⟩ HE ⟨Fr 29 (Av 0 (FE.enc (x0,x1,()))),[]⟩ fun e s'=>(e = .normal\/e = .ret)/\∃ xs,FA DV.P s'.fr s'.hp Tryd.f28.results.toList=some xs/\FZ xs=FJ r:=by
 have he:=F5
 unfold C8 at h
 let p1:Nat×AV:=(1,.sl 1 (x1.map (cdL 1 (cdL 1 cdI)).enc))
 let p2:Nat×AV:=(0,.v (.int .i64 x0))
 refine Bz (DX (s1:=⟨Fr 29 [p2,p1],[]⟩) Ah ?_);refine AN he [p2,p1] [] ?_;refine AE ?_;refine AE ?_;obtain ⟨v1,hv1,h⟩:=OB h;refine AI (s1:=⟨Fr 29 [p2,p1,(11,.v (.bool (!v1)))],[]⟩) ?_ ?_
 ·refine AB (n:=29) he 2 [p2,p1,(8,.v (.int .i64 x0)),(9,.sl 1 (x1.map (cdL 1 (cdL 1 cdI)).enc))] [] kr ?_
  refine RunS.call he (fid:=50) (s:=BL) (F:=fun a=>AZ a.1 a.2.1) (er:=BN) (xs:=[.v (.int .i64 x0),.sl 1 (x1.map (cdL 1 (cdL 1 cdI)).enc)]) (a:=(x0,x1,())) rfl (AA rfl) kr kr kr kr (Sns.cons (Sn.enc (c:=cdI) (v:=x0)) (Sns.cons (Sn.enc (c:=(cdL 1 (cdL 1 (cdL 1 cdI)))) (v:=x1)) Sns.nil)) (.inl kr) hv1 ?_;exact AK he
 refine AU (b:=(!v1)) kr (fun hb2=>?_) (fun hb2=>?_)
 ·rw [if_pos hb2] at h
  refine AN he [(4,.v (.int .i64 0))] [] ?_;refine An ?_;have hq:=OI h; subst hq;exact ⟨⟨Fr 29 [(4,.v (.int .i64 0))],[]⟩,Ah,.inr rfl,[.v (.int .i64 0)],kr,kr⟩
 ·rw [B9 hb2] at h
  refine AX ?_
  let p3:Nat×AV:=(5,.v (.int .i64 0))
  refine AN he [p2,p1,p3] [] ?_;refine AE ?_;refine AE ?_;obtain ⟨v3,hv3,h⟩:=OB h
  let p4:Nat×AV:=(16,.v (.int .i64 (v3.2.length:Int)))
  let p5:Nat×AV:=(15,.sl 1 (v3.2.map cdI.enc))
  refine AI (s1:=⟨Fr 29 [p3,p5,p4,(17,.v (.int .i64 0))],[]⟩) ?_ ?_
  ·refine AB (n:=29) he 2 [p3,(12,.v (.int .i64 x0)),(13,.sl 1 (x1.map (cdL 1 (cdL 1 cdI)).enc))] [] kr ?_
   refine RunS.call he (fid:=80) (s:=BG) (F:=fun a=>Al a.1 a.2.1) (er:=CU) (xs:=[.v (.int .i64 x0),.sl 1 (x1.map (cdL 1 (cdL 1 cdI)).enc)]) (a:=(x0,x1,())) rfl (AA rfl) kr kr kr kr (Sns.cons (Sn.enc (c:=cdI) (v:=x0)) (Sns.cons (Sn.enc (c:=(cdL 1 (cdL 1 (cdL 1 cdI)))) (v:=x1)) Sns.nil)) (.inl kr) hv3 ?_;refine AB (n:=29) he 1 [p3,p5] [] kr ?_;refine AJ he 0 rfl (Am (AA rfl) rfl (BZ (a:= .sl 1 (v3.2.map cdI.enc)) kr (Aw (el:=3) kr))) ?_;exact AK he
  refine AQ ?_;obtain ⟨r9,hr9,h⟩:=OB h;refine Bm (n:=100000) ?_;refine BD (Ae (s1:=⟨Fr 29 [p3,p5,p4,(17,.v (.int .i64 0))],[]⟩) Ah (Lm v3 _ 0 0 _ hr9)) ?_
  let p6:Nat×AV:=(4,.v (.int .i64 (wr .i64 (r9.tdiv 2))))
  refine AN he [p6] [] ?_;refine An ?_;have hq:=OI h; subst hq;exact ⟨⟨Fr 29 [p6],[]⟩,Ah,.inr rfl,[.v (.int .i64 (wr .i64 (r9.tdiv 2)))],kr,kr⟩
def Jx:List AV->Option AV:=GP FE (fun a=>C8 a.1 a.2.1) FJ
theorem J1:XOk 28 Jx:=by
 refine EnvOk.x (E:=DV) (Af F5 (fn:=Tryd.f28) (c:=HE) ?h1 ?h2 ⟨Tryd.call28⟩ FE (fun a=>C8 a.1 a.2.1) FJ (fun a=>(by show 2<=29; decide)) ?h3 ?h4) rfl rfl
 case h1=>kernel_rfl
 case h2=>kernel_rfl
 case h3=>intro b; kernel_rfl
 case h4=>exact fun a b h=>L9 a.1 a.2.1 b h
/- slices.Index[[]int,int] -/
noncomputable def Bj:Env:=E0
theorem ER:EnvOk Bj:=BB
noncomputable def Et:Code:=BK Tryd.f115
def D3 (x0:(List Int)) (x1:Int):Nat->Int->Option ((Unit) ⊕ (Int))
 | 0,_=>none
 | f + 1,c1 =>
  if (decide (c1 < (x0.length:Int)))=true then
  (idx x0 c1).bind fun v3 =>
  if (x1==v3)=true then
  some (.inr c1)
  else
  D3 x0 x1 f (wr .i64 (c1 + 1))
  else
  some (.inl ())
def Cn (x0:(List Int)) (x1:Int):Option (Int) :=
 (D3 x0 x1 100000 0).bind fun r6 =>
 match r6 with
 | (.inl w7) =>
  some (-1)
 | (.inr w8) =>
  some w8
def Dc:Cs ((List Int)×Int×Unit):=(csC (cdL 1 cdI) (csC cdI csN))
def Dg (r:Int):AV:=cdI.enc r
theorem Gx (x0:(List Int)) (x1:Int):∀ (f:Nat) (c1:Int) (r:(Unit) ⊕ (Int)),D3 x0 x1 f c1=some r->SemN Bj ⟨none,false⟩ (pc Et [1,0,1,0,0]) f ⟨Fr 19 [(0,.sl 1 (x0.map cdI.enc)),(1,.v (.int .i64 x1)),(7,.v (.int .i64 (x0.length:Int))),(8,.v (.int .i64 c1))],[]⟩ (fun e s=>match r with
 | (.inl w)=>e=(.exit 0)/\Wk Bj s ⟨Fr 19 [],[]⟩
 | (.inr w)=>e = .ret/\Wk Bj s ⟨Fr 19 [(4,.v (.int .i64 w))],[]⟩):=by
 have he:=ER
 intro f;induction f with
 | zero=>intro c1 r h; cases h
 | succ f ih0 =>
  intro c1 r h
  have ih:=fun (c1:Int)=>ih0 c1 r
  unfold D3 at h;refine BJ ?_
  let p1:Nat×AV:=(8,.v (.int .i64 c1))
  let p2:Nat×AV:=(7,.v (.int .i64 (x0.length:Int)))
  let p3:Nat×AV:=(1,.v (.int .i64 x1))
  let p4:Nat×AV:=(0,.sl 1 (x0.map cdI.enc))
  refine AN he [p4,p3,p2,p1,(9,.v (.bool (decide (c1 < (x0.length:Int)))))] [] ?_;refine AE ?_;refine AU (b:=(decide (c1 < (x0.length:Int)))) kr (fun hb2=>?_) (fun hb2=>?_)
  ·rw [if_pos hb2] at h
   refine AX ?_;refine AE ?_;refine AQ ?_
   let p5:Nat×AV:=(5,.v (.int .i64 c1))
   refine AN he [p4,p3,p5,p2,p1] [] ?_;refine AE ?_;obtain ⟨v3,hv3,h⟩:=OB h;refine AI (s1:=⟨Fr 19 [p4,p3,p5,p2,p1,(16,.v (.bool (x1==v3)))],[]⟩) ?_ ?_
   ·refine AB (n:=19) he 3 [p4,p3,p5,p2,p1,(11,.v (.int .i64 x1)),(12,.sl 1 (x0.map cdI.enc)),(13,.v (.int .i64 c1))] [] kr ?_
    refine AJ he 0 rfl (Am (AA rfl) rfl (AF (a:= .sl 1 (x0.map cdI.enc)) (b:= .v (.int .i64 c1)) kr kr (DT (e:=cdI.enc) (el:=3) (k:=1) (ki:= .i64) kr kr hv3))) ?_;exact AK he
   refine AU (b:=(x1==v3)) kr (fun hb4=>?_) (fun hb4=>?_)
   ·rw [if_pos hb4] at h
    refine AN he [(4,.v (.int .i64 c1))] [] ?_;refine An ?_;have hq:=OI h; subst hq;exact ⟨rfl,Ah⟩
   ·rw [B9 hb4] at h
    refine AX ?_
    let p6:Nat×AV:=(8,.v (.int .i64 (wr .i64 (c1 + 1))))
    refine Cq he [p4,p3,p2,p6] [] ?_;exact Ae (s1:=⟨Fr 19 [p4,p3,p2,p6],[]⟩) Ah (ih (wr .i64 (c1 + 1)) h)
  ·rw [B9 hb2] at h
   refine Ba ?_;have hq:=OI h; subst hq;exact ⟨rfl,Ah⟩
theorem KB (x0:(List Int)) (x1:Int) (r:Int) (h:Cn x0 x1=some r):Sem Bj ⟨none,false⟩ Et ⟨Fr 19 (Av 0 (Dc.enc (x0,x1,()))),[]⟩ fun e s'=>(e = .normal\/e = .ret)/\∃ xs,FA Bj.P s'.fr s'.hp Tryd.f115.results.toList=some xs/\FZ xs=Dg r:=by
 have he:=ER
 unfold Cn at h
 let p1:Nat×AV:=(1,.v (.int .i64 x1))
 let p2:Nat×AV:=(0,.sl 1 (x0.map cdI.enc))
 refine Bz (DX (s1:=⟨Fr 19 [p2,p1],[]⟩) Ah ?_);refine AN he [p2,p1] [] ?_;refine AE ?_;refine AE ?_
 let p3:Nat×AV:=(8,.v (.int .i64 0))
 let p4:Nat×AV:=(7,.v (.int .i64 (x0.length:Int)))
 refine AI (s1:=⟨Fr 19 [p2,p1,p4,p3],[]⟩) ?_ ?_
 ·refine AB (n:=19) he 1 [p2,p1,(6,.sl 1 (x0.map cdI.enc))] [] kr ?_
  refine AJ he 0 rfl (Am (AA rfl) rfl (BZ (a:= .sl 1 (x0.map cdI.enc)) kr (Aw (el:=3) kr))) ?_;exact AK he
 refine AQ ?_;obtain ⟨r6,hr6,h⟩:=OB h;refine Bm (n:=100000) ?_;rcases r6 with w7 | w8
 ·try dsimp only at h
  refine BD (Ae (s1:=⟨Fr 19 [p2,p1,p4,p3],[]⟩) Ah (Gx x0 x1 _ 0 _ hr6)) ?_;refine AN he [(4,.v (.int .i64 (-1)))] [] ?_;refine An ?_;have hq:=OI h; subst hq;exact ⟨⟨Fr 19 [(4,.v (.int .i64 (-1)))],[]⟩,Ah,.inr rfl,[.v (.int .i64 (-1))],kr,kr⟩
 ·try dsimp only at h
  refine BD (Ae (s1:=⟨Fr 19 [p2,p1,p4,p3],[]⟩) Ah (Gx x0 x1 _ 0 _ hr6)) ?_;have hq:=OI h; subst hq;exact ⟨⟨Fr 19 [(4,.v (.int .i64 w8))],[]⟩,Ah,.inr rfl,[.v (.int .i64 w8)],kr,kr⟩
def H1:List AV->Option AV:=GP Dc (fun a=>Cn a.1 a.2.1) Dg
theorem H3:XOk 115 H1:=by
 refine EnvOk.x (E:=Bj) (Af ER (fn:=Tryd.f115) (c:=Et) ?h1 ?h2 ⟨Tryd.call115⟩ Dc (fun a=>Cn a.1 a.2.1) Dg (fun a=>(by show 2<=19; decide)) ?h3 ?h4) rfl rfl
 case h1=>kernel_rfl
 case h2=>kernel_rfl
 case h3=>intro b; kernel_rfl
 case h4=>exact fun a b h=>KB a.1 a.2.1 b h
/- slices.Contains[[]int,int] -/
noncomputable def C2:Env:=(E0.withX 115 H1)
theorem FT:EnvOk C2:=(EnvOk.withX BB H3.1 H3.2)
noncomputable def GF:Code:=BK Tryd.f94
def A8 (x0:(List Int)) (x1:Int):Option (Bool) :=
 (Cn x0 x1).bind fun v1 =>
 some (decide (v1≥0))
def B5:Cs ((List Int)×Int×Unit):=(csC (cdL 1 cdI) (csC cdI csN))
def B8 (r:Bool):AV:=cdB.enc r
theorem Iz (x0:(List Int)) (x1:Int) (r:Bool) (h:A8 x0 x1=some r):Sem C2 ⟨none,false⟩ GF ⟨Fr 9 (Av 0 (B5.enc (x0,x1,()))),[]⟩ fun e s'=>(e = .normal\/e = .ret)/\∃ xs,FA C2.P s'.fr s'.hp Tryd.f94.results.toList=some xs/\FZ xs=B8 r:=by
 have he:=FT
 unfold A8 at h;refine Bz (DX (s1:=⟨Fr 9 [(0,.sl 1 (x0.map cdI.enc)),(1,.v (.int .i64 x1))],[]⟩) Ah ?_);refine AN he [(0,.sl 1 (x0.map cdI.enc)),(1,.v (.int .i64 x1))] [] ?_;refine AE ?_;obtain ⟨v1,hv1,h⟩:=OB h
 let p1:Nat×AV:=(4,.v (.bool (decide (v1≥0))))
 refine AI (s1:=⟨Fr 9 [p1],[]⟩) ?_ ?_
 ·refine AB (n:=9) he 2 [(5,.sl 1 (x0.map cdI.enc)),(6,.v (.int .i64 x1))] [] kr ?_
  refine RunS.call he (fid:=115) (s:=Dc) (F:=fun a=>Cn a.1 a.2.1) (er:=Dg) (xs:=[.sl 1 (x0.map cdI.enc),.v (.int .i64 x1)]) (a:=(x0,x1,())) rfl (AA rfl) kr kr kr kr (Sns.cons (Sn.enc (c:=(cdL 1 cdI)) (v:=x0)) (Sns.cons (Sn.enc (c:=cdI) (v:=x1)) Sns.nil)) (.inl kr) hv1 ?_;exact AK he
 refine An ?_;have hq:=OI h; subst hq;exact ⟨⟨Fr 9 [p1],[]⟩,Ah,.inr rfl,[.v (.bool (decide (v1≥0)))],kr,kr⟩
def G3:List AV->Option AV:=GP B5 (fun a=>A8 a.1 a.2.1) B8
theorem G5:XOk 94 G3:=by
 refine EnvOk.x (E:=C2) (Af FT (fn:=Tryd.f94) (c:=GF) ?h1 ?h2 ⟨Tryd.call94⟩ B5 (fun a=>A8 a.1 a.2.1) B8 (fun a=>(by show 2<=9; decide)) ?h3 ?h4) rfl rfl
 case h1=>kernel_rfl
 case h2=>kernel_rfl
 case h3=>intro b; kernel_rfl
 case h4=>exact fun a b h=>Iz a.1 a.2.1 b h
/- trestle/evening.Together -/
noncomputable def A6:Env:=((E0.withX 50 CI).withX 94 G3)
theorem Ce:EnvOk A6:=(EnvOk.withX (EnvOk.withX BB Ap.1 Ap.2) G5.1 G5.2)
noncomputable def DA:Code:=BK Tryd.f41
def F9 (x1:(List (List (List Int)))) (x2:Int) (x3:Int) (c6:Int) (v8:(List (List Int))) (c10:Int) (j17:(List Int)×Bool):Option (((List Int))) :=
 if j17.2=true then
 if (Bb 8 (j17.1.length + 1))=true then
 some (j17.1++[c6])
 else none
 else
 some j17.1
def El (x1:(List (List (List Int)))) (x2:Int) (x3:Int) (c6:Int) (v8:(List (List Int))):Nat->(List Int)->Int->Option (((List Int)))
 | 0,_,_=>none
 | f + 1,c9,c10 =>
  if (decide (c10 < (v8.length:Int)))=true then
  (idx v8 c10).bind fun v12 =>
  (A8 v12 x2).bind fun v13 =>
  (if v13=true then (A8 v12 x3).bind fun v14 =>
  some (c9,v14) else some (c9,false)).bind fun j17 =>
  (F9 x1 x2 x3 c6 v8 c10 j17).bind fun r21 =>
  El x1 x2 x3 c6 v8 f r21 (wr .i64 (c10 + 1))
  else
  some c9
def Ek (x1:(List (List (List Int)))) (x2:Int) (x3:Int):Nat->(List Int)->Int->Option (((List Int)))
 | 0,_,_=>none
 | f + 1,c5,c6 =>
  if (decide (c6 < (x1.length:Int)))=true then
  (idx x1 c6).bind fun v8 =>
  (El x1 x2 x3 c6 v8 100000 c5 0).bind fun r24 =>
  Ek x1 x2 x3 f r24 (wr .i64 (c6 + 1))
  else
  some c5
def CK (x0:Int) (x1:(List (List (List Int)))) (x2:Int) (x3:Int):Option ((List Int)) :=
 (AZ x0 x1).bind fun v1 =>
 (if (!v1)=true then some true else some (x2==x3)).bind fun j3 =>
 if j3=true then
 some []
 else
 (Ek x1 x2 x3 100000 [] 0).bind fun r26 =>
 some r26
def EP:Cs (Int×(List (List (List Int)))×Int×Int×Unit):=(csC cdI (csC (cdL 1 (cdL 1 (cdL 1 cdI))) (csC cdI (csC cdI csN))))
def ES (r:(List Int)):AV:=(cdL 1 cdI).enc r
theorem J7 (x1:(List (List (List Int)))) (x2:Int) (x3:Int) (c6:Int) (v8:(List (List Int))) (c10:Int) (j17:(List Int)×Bool) (r:((List Int))) (h:F9 x1 x2 x3 c6 v8 c10 j17=some r):Sem A6 ⟨none,false⟩ (pc DA [1,1,1,0,1,0,0,1,1,0,0,1,1,0,0,1,1,0,0,1,1]) ⟨Fr 51 [(2,.v (.int .i64 x2)),(3,.v (.int .i64 x3)),(9,hd 0 (j17.1.map cdI.enc)),(10,.v (.int .i64 c6)),(23,.sl 1 (x1.map (cdL 1 (cdL 1 cdI)).enc)),(24,.v (.int .i64 (x1.length:Int))),(25,.v (.int .i64 c6)),(30,.sl 1 (v8.map (cdL 1 cdI).enc)),(31,.v (.int .i64 (v8.length:Int))),(32,.v (.int .i64 c10)),(43,.v (.bool j17.2))],[mk 1 3 (j17.1.map cdI.enc)]⟩ (fun e s=>e = .normal/\Wk A6 s ⟨Fr 51 [(2,.v (.int .i64 x2)),(3,.v (.int .i64 x3)),(9,hd 0 (r.map cdI.enc)),(10,.v (.int .i64 c6)),(23,.sl 1 (x1.map (cdL 1 (cdL 1 cdI)).enc)),(24,.v (.int .i64 (x1.length:Int))),(25,.v (.int .i64 c6)),(30,.sl 1 (v8.map (cdL 1 cdI).enc)),(31,.v (.int .i64 (v8.length:Int))),(32,.v (.int .i64 c10))],[mk 1 3 (r.map cdI.enc)]⟩):=by
 have he:=Ce
 unfold F9 at h;refine AU (b:=j17.2) kr (fun hb18=>?_) (fun hb18=>?_)
 ·rw [if_pos hb18] at h
  by_cases hk19:(Bb 8 (j17.1.length + 1))=true
  case neg=>rw [if_neg hk19] at h; cases h
  rw [if_pos hk19] at h
  let p1:Option Blk:=mk 1 3 ((j17.1++[c6]).map cdI.enc)
  let p2:Nat×AV:=(32,.v (.int .i64 c10))
  let p3:Nat×AV:=(31,.v (.int .i64 (v8.length:Int)))
  let p4:Nat×AV:=(30,.sl 1 (v8.map (cdL 1 cdI).enc))
  let p5:Nat×AV:=(25,.v (.int .i64 c6))
  let p6:Nat×AV:=(24,.v (.int .i64 (x1.length:Int)))
  let p7:Nat×AV:=(23,.sl 1 (x1.map (cdL 1 (cdL 1 cdI)).enc))
  let p8:Nat×AV:=(10,.v (.int .i64 c6))
  let p9:Nat×AV:=(3,.v (.int .i64 x3))
  let p10:Nat×AV:=(2,.v (.int .i64 x2))
  refine AI (s1:=⟨Fr 51 [p10,p9,(9,hd 0 ((j17.1++[c6]).map cdI.enc)),p8,p7,p6,p5,p4,p3,p2],[p1]⟩) ?_ ?_
  ·refine AB (n:=51) he 3 [p10,p9,p8,p7,p6,p5,p4,p3,p2,(44,hd 0 (j17.1.map cdI.enc)),(46,hd 1 ([c6].map cdI.enc))] [mk 1 3 (j17.1.map cdI.enc),mk 1 3 ([c6].map cdI.enc)] kr ?_
   refine AJ he 0 rfl (Ox (AA rfl) rfl kr kr (DO (a:=hd 0 (j17.1.map cdI.enc)) (b:=hd 1 ([c6].map cdI.enc)) kr kr (JV (c:=cdI) (xs:=j17.1) (vs:=[c6]) (k:=1) (bytes:=8) (el:=3) kr kr (JX (t:=3) kr) (List.cons_ne_nil _ _) kr hk19))) ?_;refine AB (n:=51) he 1 [p10,p9,(9,hd 2 ((j17.1++[c6]).map cdI.enc)),p8,p7,p6,p5,p4,p3,p2] [none,mk 1 3 ([c6].map cdI.enc),p1] kr ?_;exact AO rfl (Ac [2] ⟨⟨_,rfl,DP⟩,trivial⟩ ⟨lv,lv,Do (b':=2) kr kr,lv,lv,lv,lv,lv,lv,lv,trivial⟩)
  have hq:=OI h; subst hq;exact ⟨rfl,(Ac [0] ⟨⟨_,rfl,DP⟩,trivial⟩ ⟨lv,lv,Do (b':=0) kr kr,lv,lv,lv,lv,lv,lv,lv,trivial⟩)⟩
 ·rw [B9 hb18] at h
  refine AX ?_;have hq:=OI h; subst hq;exact ⟨rfl,(Ac [0] ⟨⟨_,rfl,DP⟩,trivial⟩ ⟨lv,lv,Do (b':=0) kr kr,lv,lv,lv,lv,lv,lv,lv,trivial⟩)⟩
theorem KT (x1:(List (List (List Int)))) (x2:Int) (x3:Int) (c6:Int) (v8:(List (List Int))):∀ (f:Nat) (c9:(List Int)) (c10:Int) (r:((List Int))),El x1 x2 x3 c6 v8 f c9 c10=some r->SemN A6 ⟨none,false⟩ (pc DA [1,1,1,0,1,0,0,1,1,0,0,1,1,0,0]) f ⟨Fr 51 [(2,.v (.int .i64 x2)),(3,.v (.int .i64 x3)),(9,hd 0 (c9.map cdI.enc)),(10,.v (.int .i64 c6)),(23,.sl 1 (x1.map (cdL 1 (cdL 1 cdI)).enc)),(24,.v (.int .i64 (x1.length:Int))),(25,.v (.int .i64 c6)),(30,.sl 1 (v8.map (cdL 1 cdI).enc)),(31,.v (.int .i64 (v8.length:Int))),(32,.v (.int .i64 c10))],[mk 1 3 (c9.map cdI.enc)]⟩ (fun e s=>e=(.exit 2)/\Wk A6 s ⟨Fr 51 [(2,.v (.int .i64 x2)),(3,.v (.int .i64 x3)),(9,hd 0 (r.map cdI.enc)),(23,.sl 1 (x1.map (cdL 1 (cdL 1 cdI)).enc)),(24,.v (.int .i64 (x1.length:Int))),(25,.v (.int .i64 c6))],[mk 1 3 (r.map cdI.enc)]⟩):=by
 have he:=Ce
 intro f;induction f with
 | zero=>intro c9 c10 r h; cases h
 | succ f ih0 =>
  intro c9 c10 r h
  have ih:=fun (c9:(List Int)) (c10:Int)=>ih0 c9 c10 r
  unfold El at h;refine BJ ?_;refine AN he [(2,.v (.int .i64 x2)),(3,.v (.int .i64 x3)),(9,hd 0 (c9.map cdI.enc)),(10,.v (.int .i64 c6)),(23,.sl 1 (x1.map (cdL 1 (cdL 1 cdI)).enc)),(24,.v (.int .i64 (x1.length:Int))),(25,.v (.int .i64 c6)),(30,.sl 1 (v8.map (cdL 1 cdI).enc)),(31,.v (.int .i64 (v8.length:Int))),(32,.v (.int .i64 c10)),(33,.v (.bool (decide (c10 < (v8.length:Int)))))] [mk 1 3 (c9.map cdI.enc)] ?_;refine AE ?_;refine AU (b:=(decide (c10 < (v8.length:Int)))) kr (fun hb11=>?_) (fun hb11=>?_)
  ·rw [if_pos hb11] at h
   refine AX ?_;refine AE ?_;refine AQ ?_;refine AE ?_;obtain ⟨v12,hv12,h⟩:=OB h;refine AI (s1:=⟨Fr 51 [(2,.v (.int .i64 x2)),(3,.v (.int .i64 x3)),(9,hd 0 (c9.map cdI.enc)),(10,.v (.int .i64 c6)),(13,.sl 1 (v12.map cdI.enc)),(23,.sl 1 (x1.map (cdL 1 (cdL 1 cdI)).enc)),(24,.v (.int .i64 (x1.length:Int))),(25,.v (.int .i64 c6)),(30,.sl 1 (v8.map (cdL 1 cdI).enc)),(31,.v (.int .i64 (v8.length:Int))),(32,.v (.int .i64 c10))],[mk 1 3 (c9.map cdI.enc)]⟩) ?_ ?_
   ·refine AJ he 0 rfl (Am (AA rfl) rfl (AF (a:= .sl 1 (v8.map (cdL 1 cdI).enc)) (b:= .v (.int .i64 c10)) kr kr (DT (e:=(cdL 1 cdI).enc) (el:=31) (k:=1) (ki:= .i64) kr kr hv12))) ?_
    exact AK he
   refine AE ?_;obtain ⟨v13,hv13,h⟩:=OB h;obtain ⟨j17,hj17,h⟩:=OB h;refine AI (s1:=⟨Fr 51 [(2,.v (.int .i64 x2)),(3,.v (.int .i64 x3)),(9,hd 0 (j17.1.map cdI.enc)),(10,.v (.int .i64 c6)),(23,.sl 1 (x1.map (cdL 1 (cdL 1 cdI)).enc)),(24,.v (.int .i64 (x1.length:Int))),(25,.v (.int .i64 c6)),(30,.sl 1 (v8.map (cdL 1 cdI).enc)),(31,.v (.int .i64 (v8.length:Int))),(32,.v (.int .i64 c10)),(43,.v (.bool j17.2))],[mk 1 3 (j17.1.map cdI.enc)]⟩) ?_ ?_
   ·refine AB (n:=51) he 2 [(2,.v (.int .i64 x2)),(3,.v (.int .i64 x3)),(9,hd 0 (c9.map cdI.enc)),(10,.v (.int .i64 c6)),(13,.sl 1 (v12.map cdI.enc)),(23,.sl 1 (x1.map (cdL 1 (cdL 1 cdI)).enc)),(24,.v (.int .i64 (x1.length:Int))),(25,.v (.int .i64 c6)),(30,.sl 1 (v8.map (cdL 1 cdI).enc)),(31,.v (.int .i64 (v8.length:Int))),(32,.v (.int .i64 c10)),(36,.sl 1 (v12.map cdI.enc)),(37,.v (.int .i64 x2))] [mk 1 3 (c9.map cdI.enc)] kr ?_
    refine RunS.call he (fid:=94) (s:=B5) (F:=fun a=>A8 a.1 a.2.1) (er:=B8) (xs:=[.sl 1 (v12.map cdI.enc),.v (.int .i64 x2)]) (a:=(v12,x2,())) rfl (AA rfl) kr kr kr kr (Sns.cons (Sn.enc (c:=(cdL 1 cdI)) (v:=v12)) (Sns.cons (Sn.enc (c:=cdI) (v:=x2)) Sns.nil)) (.inl kr) hv13 ?_;refine AB (n:=51) he 1 [(2,.v (.int .i64 x2)),(3,.v (.int .i64 x3)),(9,hd 0 (c9.map cdI.enc)),(10,.v (.int .i64 c6)),(13,.sl 1 (v12.map cdI.enc)),(23,.sl 1 (x1.map (cdL 1 (cdL 1 cdI)).enc)),(24,.v (.int .i64 (x1.length:Int))),(25,.v (.int .i64 c6)),(30,.sl 1 (v8.map (cdL 1 cdI).enc)),(31,.v (.int .i64 (v8.length:Int))),(32,.v (.int .i64 c10)),(39,.v (.bool v13))] [mk 1 3 (c9.map cdI.enc)] kr ?_;rcases BE v13 with hc22 | hc22
    ·rw [if_pos hc22] at hj17
     rw [hc22];refine AB (n:=51) he 2 [(2,.v (.int .i64 x2)),(3,.v (.int .i64 x3)),(9,hd 0 (c9.map cdI.enc)),(10,.v (.int .i64 c6)),(23,.sl 1 (x1.map (cdL 1 (cdL 1 cdI)).enc)),(24,.v (.int .i64 (x1.length:Int))),(25,.v (.int .i64 c6)),(30,.sl 1 (v8.map (cdL 1 cdI).enc)),(31,.v (.int .i64 (v8.length:Int))),(32,.v (.int .i64 c10)),(39,.v (.bool true)),(40,.sl 1 (v12.map cdI.enc)),(41,.v (.int .i64 x3))] [mk 1 3 (c9.map cdI.enc)] kr ?_;obtain ⟨v14,hv14,hj17⟩:=OB hj17;refine RunS.call he (fid:=94) (s:=B5) (F:=fun a=>A8 a.1 a.2.1) (er:=B8) (xs:=[.sl 1 (v12.map cdI.enc),.v (.int .i64 x3)]) (a:=(v12,x3,())) rfl kr kr kr kr kr (Sns.cons (Sn.enc (c:=(cdL 1 cdI)) (v:=v12)) (Sns.cons (Sn.enc (c:=cdI) (v:=x3)) Sns.nil)) (.inl kr) hv14 ?_;refine AB (n:=51) he 1 [(2,.v (.int .i64 x2)),(3,.v (.int .i64 x3)),(9,hd 0 (c9.map cdI.enc)),(10,.v (.int .i64 c6)),(23,.sl 1 (x1.map (cdL 1 (cdL 1 cdI)).enc)),(24,.v (.int .i64 (x1.length:Int))),(25,.v (.int .i64 c6)),(30,.sl 1 (v8.map (cdL 1 cdI).enc)),(31,.v (.int .i64 (v8.length:Int))),(32,.v (.int .i64 c10)),(40,.sl 1 (v12.map cdI.enc)),(41,.v (.int .i64 x3)),(42,.v (.bool v14)),(43,.v (.bool v14))] [mk 1 3 (c9.map cdI.enc)] kr ?_;have hq:=OI hj17; subst hq;exact AO rfl (Ac [0] ⟨⟨_,rfl,DP⟩,trivial⟩ ⟨lv,lv,Do (b':=0) kr kr,lv,lv,lv,lv,lv,lv,lv,lv,trivial⟩)
    ·rw [B9 hc22] at hj17
     rw [hc22];refine AB (n:=51) he 4 [(2,.v (.int .i64 x2)),(3,.v (.int .i64 x3)),(9,hd 0 (c9.map cdI.enc)),(10,.v (.int .i64 c6)),(23,.sl 1 (x1.map (cdL 1 (cdL 1 cdI)).enc)),(24,.v (.int .i64 (x1.length:Int))),(25,.v (.int .i64 c6)),(30,.sl 1 (v8.map (cdL 1 cdI).enc)),(31,.v (.int .i64 (v8.length:Int))),(32,.v (.int .i64 c10)),(40,.tp []),(41,.tp []),(42,.tp []),(43,.v (.bool false))] [mk 1 3 (c9.map cdI.enc)] kr ?_;have hq:=OI hj17; subst hq;exact AO rfl (Ac [0] ⟨⟨_,rfl,DP⟩,trivial⟩ ⟨lv,lv,Do (b':=0) kr kr,lv,lv,lv,lv,lv,lv,lv,lv,trivial⟩)
   obtain ⟨r21,hr21,h⟩:=OB h;refine Ni (J7 x1 x2 x3 c6 v8 c10 j17 _ hr21) ?_;refine Cq he [(2,.v (.int .i64 x2)),(3,.v (.int .i64 x3)),(9,hd 0 (r21.map cdI.enc)),(10,.v (.int .i64 c6)),(23,.sl 1 (x1.map (cdL 1 (cdL 1 cdI)).enc)),(24,.v (.int .i64 (x1.length:Int))),(25,.v (.int .i64 c6)),(30,.sl 1 (v8.map (cdL 1 cdI).enc)),(31,.v (.int .i64 (v8.length:Int))),(32,.v (.int .i64 (wr .i64 (c10 + 1))))] [mk 1 3 (r21.map cdI.enc)] ?_;exact Ae (s1:=⟨Fr 51 [(2,.v (.int .i64 x2)),(3,.v (.int .i64 x3)),(9,hd 0 (r21.map cdI.enc)),(10,.v (.int .i64 c6)),(23,.sl 1 (x1.map (cdL 1 (cdL 1 cdI)).enc)),(24,.v (.int .i64 (x1.length:Int))),(25,.v (.int .i64 c6)),(30,.sl 1 (v8.map (cdL 1 cdI).enc)),(31,.v (.int .i64 (v8.length:Int))),(32,.v (.int .i64 (wr .i64 (c10 + 1))))],[mk 1 3 (r21.map cdI.enc)]⟩) (Ac [0] ⟨⟨_,rfl,DP⟩,trivial⟩ ⟨lv,lv,Do (b':=0) kr kr,lv,lv,lv,lv,lv,lv,lv,trivial⟩) (ih r21 (wr .i64 (c10 + 1)) h)
  ·rw [B9 hb11] at h
   refine Ba ?_;have hq:=OI h; subst hq;exact ⟨rfl,(Ac [0] ⟨⟨_,rfl,DP⟩,trivial⟩ ⟨lv,lv,Do (b':=0) kr kr,lv,lv,lv,trivial⟩)⟩
theorem KS (x1:(List (List (List Int)))) (x2:Int) (x3:Int):∀ (f:Nat) (c5:(List Int)) (c6:Int) (r:((List Int))),Ek x1 x2 x3 f c5 c6=some r->SemN A6 ⟨none,false⟩ (pc DA [1,1,1,0,1,0,0]) f ⟨Fr 51 [(2,.v (.int .i64 x2)),(3,.v (.int .i64 x3)),(9,hd 0 (c5.map cdI.enc)),(23,.sl 1 (x1.map (cdL 1 (cdL 1 cdI)).enc)),(24,.v (.int .i64 (x1.length:Int))),(25,.v (.int .i64 c6))],[mk 1 3 (c5.map cdI.enc)]⟩ (fun e s=>e=(.exit 0)/\Wk A6 s ⟨Fr 51 [(9,hd 0 (r.map cdI.enc))],[mk 1 3 (r.map cdI.enc)]⟩):=by
 have he:=Ce
 intro f;induction f with
 | zero=>intro c5 c6 r h; cases h
 | succ f ih0 =>
  intro c5 c6 r h
  have ih:=fun (c5:(List Int)) (c6:Int)=>ih0 c5 c6 r
  unfold Ek at h;refine BJ ?_
  let p1:Option Blk:=mk 1 3 (c5.map cdI.enc)
  let p2:Nat×AV:=(25,.v (.int .i64 c6))
  let p3:Nat×AV:=(24,.v (.int .i64 (x1.length:Int)))
  let p4:Nat×AV:=(23,.sl 1 (x1.map (cdL 1 (cdL 1 cdI)).enc))
  let p5:Nat×AV:=(9,hd 0 (c5.map cdI.enc))
  let p6:Nat×AV:=(3,.v (.int .i64 x3))
  let p7:Nat×AV:=(2,.v (.int .i64 x2))
  refine AN he [p7,p6,p5,p4,p3,p2,(26,.v (.bool (decide (c6 < (x1.length:Int)))))] [p1] ?_;refine AE ?_;refine AU (b:=(decide (c6 < (x1.length:Int)))) kr (fun hb7=>?_) (fun hb7=>?_)
  ·rw [if_pos hb7] at h
   refine AX ?_;refine AE ?_;refine AQ ?_;refine AE ?_;obtain ⟨v8,hv8,h⟩:=OB h
   let p8:Nat×AV:=(10,.v (.int .i64 c6))
   refine AI (s1:=⟨Fr 51 [p7,p6,p5,p8,(11,.sl 1 (v8.map (cdL 1 cdI).enc)),p4,p3,p2],[p1]⟩) ?_ ?_
   ·refine AB (n:=51) he 1 [p7,p6,p5,p4,p3,p2,(27,.v (.int .i64 c6))] [p1] kr ?_
    refine AJ he 0 rfl (Am (AA rfl) rfl (AF (a:= .sl 1 (x1.map (cdL 1 (cdL 1 cdI)).enc)) (b:= .v (.int .i64 c6)) kr kr (DT (e:=(cdL 1 (cdL 1 cdI)).enc) (el:=50) (k:=1) (ki:= .i64) kr kr hv8))) ?_;exact AK he
   refine AE ?_
   let p9:Nat×AV:=(31,.v (.int .i64 (v8.length:Int)))
   let p10:Nat×AV:=(30,.sl 1 (v8.map (cdL 1 cdI).enc))
   refine AI (s1:=⟨Fr 51 [p7,p6,p5,p8,p4,p3,p2,p10,p9,(32,.v (.int .i64 0))],[p1]⟩) ?_ ?_
   ·refine AB (n:=51) he 1 [p7,p6,p5,p8,p4,p3,p2,p10] [p1] kr ?_
    refine AJ he 0 rfl (Am (AA rfl) rfl (BZ (a:= .sl 1 (v8.map (cdL 1 cdI).enc)) kr (Aw (el:=31) kr))) ?_;exact AK he
   refine AQ ?_;obtain ⟨r24,hr24,h⟩:=OB h;refine Bm (n:=100000) ?_;refine BD (Ae (s1:=⟨Fr 51 [p7,p6,p5,p8,p4,p3,p2,p10,p9,(32,.v (.int .i64 0))],[p1]⟩) (Ac [0] ⟨⟨_,rfl,DP⟩,trivial⟩ ⟨lv,lv,Do (b':=0) kr kr,lv,lv,lv,lv,lv,lv,lv,trivial⟩) (KT x1 x2 x3 c6 v8 _ c5 0 _ hr24)) ?_
   let p11:Nat×AV:=(25,.v (.int .i64 (wr .i64 (c6 + 1))))
   refine Cq he [p7,p6,(9,hd 0 (r24.map cdI.enc)),p4,p3,p11] [mk 1 3 (r24.map cdI.enc)] ?_;exact Ae (s1:=⟨Fr 51 [p7,p6,(9,hd 0 (r24.map cdI.enc)),p4,p3,p11],[mk 1 3 (r24.map cdI.enc)]⟩) (Ac [0] ⟨⟨_,rfl,DP⟩,trivial⟩ ⟨lv,lv,Do (b':=0) kr kr,lv,lv,lv,trivial⟩) (ih r24 (wr .i64 (c6 + 1)) h)
  ·rw [B9 hb7] at h
   refine Ba ?_;have hq:=OI h; subst hq;exact ⟨rfl,(Ac [0] ⟨⟨_,rfl,DP⟩,trivial⟩ ⟨Do (b':=0) kr kr,trivial⟩)⟩
theorem K9 (x0:Int) (x1:(List (List (List Int)))) (x2:Int) (x3:Int) (r:(List Int)) (h:CK x0 x1 x2 x3=some r):Sem A6 ⟨none,false⟩ DA ⟨Fr 51 (Av 0 (EP.enc (x0,x1,x2,x3,()))),[]⟩ fun e s'=>(e = .normal\/e = .ret)/\∃ xs,FA A6.P s'.fr s'.hp Tryd.f41.results.toList=some xs/\FZ xs=ES r:=by
 have he:=Ce
 unfold CK at h;refine Bz (DX (s1:=⟨Fr 51 [(0,.v (.int .i64 x0)),(1,.sl 1 (x1.map (cdL 1 (cdL 1 cdI)).enc)),(2,.v (.int .i64 x2)),(3,.v (.int .i64 x3))],[]⟩) Ah ?_);refine AN he [(0,.v (.int .i64 x0)),(1,.sl 1 (x1.map (cdL 1 (cdL 1 cdI)).enc)),(2,.v (.int .i64 x2)),(3,.v (.int .i64 x3))] [] ?_;refine AE ?_;refine AE ?_;obtain ⟨v1,hv1,h⟩:=OB h;obtain ⟨j3,hj3,h⟩:=OB h;refine AI (s1:=⟨Fr 51 [(1,.sl 1 (x1.map (cdL 1 (cdL 1 cdI)).enc)),(2,.v (.int .i64 x2)),(3,.v (.int .i64 x3)),(22,.v (.bool j3))],[]⟩) ?_ ?_
 ·refine AB (n:=51) he 2 [(1,.sl 1 (x1.map (cdL 1 (cdL 1 cdI)).enc)),(2,.v (.int .i64 x2)),(3,.v (.int .i64 x3)),(14,.v (.int .i64 x0)),(15,.sl 1 (x1.map (cdL 1 (cdL 1 cdI)).enc))] [] kr ?_
  refine RunS.call he (fid:=50) (s:=BL) (F:=fun a=>AZ a.1 a.2.1) (er:=BN) (xs:=[.v (.int .i64 x0),.sl 1 (x1.map (cdL 1 (cdL 1 cdI)).enc)]) (a:=(x0,x1,())) rfl (AA rfl) kr kr kr kr (Sns.cons (Sn.enc (c:=cdI) (v:=x0)) (Sns.cons (Sn.enc (c:=(cdL 1 (cdL 1 (cdL 1 cdI)))) (v:=x1)) Sns.nil)) (.inl kr) hv1 ?_;refine AB (n:=51) he 2 [(1,.sl 1 (x1.map (cdL 1 (cdL 1 cdI)).enc)),(2,.v (.int .i64 x2)),(3,.v (.int .i64 x3)),(18,.v (.bool (!v1)))] [] kr ?_;rcases BE (!v1) with hc27 | hc27
  ·rw [if_pos hc27] at hj3
   rw [hc27];refine AB (n:=51) he 4 [(1,.sl 1 (x1.map (cdL 1 (cdL 1 cdI)).enc)),(2,.v (.int .i64 x2)),(3,.v (.int .i64 x3)),(22,.v (.bool true))] [] kr ?_;have hq:=OI hj3; subst hq;exact AO rfl Ah
  ·rw [B9 hc27] at hj3
   rw [hc27];refine AB (n:=51) he 4 [(1,.sl 1 (x1.map (cdL 1 (cdL 1 cdI)).enc)),(2,.v (.int .i64 x2)),(3,.v (.int .i64 x3)),(22,.v (.bool (x2==x3)))] [] kr ?_;have hq:=OI hj3; subst hq;exact AO rfl Ah
 refine AU (b:=j3) kr (fun hb4=>?_) (fun hb4=>?_)
 ·rw [if_pos hb4] at h
  refine AN he [(8,.e0)] [] ?_;refine An ?_;have hq:=OI h; subst hq;exact ⟨⟨Fr 51 [(8,.sl 1 ([].map cdI.enc))],[]⟩,(Wk.trans (s1:=⟨Fr 51 [(8,.e0)],[]⟩) Ah (Wk.trans (s1:=⟨Fr 51 [(8,.e0)],[none]⟩) Wk.none (Wk.trans (s1:=⟨Fr 51 [(8,.sl 1 ([].map cdI.enc))],[none]⟩) (FV 0 (.inr kr) ⟨.inl rfl,trivial⟩ ⟨⟨.e0,kr,SS⟩,trivial⟩) (Ac [] trivial ⟨lv,trivial⟩)))),.inr rfl,[.sl 1 ([].map cdI.enc)],kr,kr⟩
 ·rw [B9 hb4] at h
  refine AX ?_;refine AN he [(1,.sl 1 (x1.map (cdL 1 (cdL 1 cdI)).enc)),(2,.v (.int .i64 x2)),(3,.v (.int .i64 x3)),(9,.e0)] [] ?_;refine AE ?_;refine AE ?_;refine AI (s1:=⟨Fr 51 [(2,.v (.int .i64 x2)),(3,.v (.int .i64 x3)),(9,.e0),(23,.sl 1 (x1.map (cdL 1 (cdL 1 cdI)).enc)),(24,.v (.int .i64 (x1.length:Int))),(25,.v (.int .i64 0))],[]⟩) ?_ ?_
  ·refine AB (n:=51) he 1 [(2,.v (.int .i64 x2)),(3,.v (.int .i64 x3)),(9,.e0),(23,.sl 1 (x1.map (cdL 1 (cdL 1 cdI)).enc))] [] kr ?_
   refine AJ he 0 rfl (Am (AA rfl) rfl (BZ (a:= .sl 1 (x1.map (cdL 1 (cdL 1 cdI)).enc)) kr (Aw (el:=50) kr))) ?_;exact AK he
  refine AQ ?_;obtain ⟨r26,hr26,h⟩:=OB h;refine Bm (n:=100000) ?_;refine BD (Ae (s1:=⟨Fr 51 [(2,.v (.int .i64 x2)),(3,.v (.int .i64 x3)),(9,hd 0 ([].map cdI.enc)),(23,.sl 1 (x1.map (cdL 1 (cdL 1 cdI)).enc)),(24,.v (.int .i64 (x1.length:Int))),(25,.v (.int .i64 0))],[mk 1 3 ([].map cdI.enc)]⟩) (Wk.trans (s1:=⟨Fr 51 [(2,.v (.int .i64 x2)),(3,.v (.int .i64 x3)),(9,hd 0 ([].map cdI.enc)),(23,.sl 1 (x1.map (cdL 1 (cdL 1 cdI)).enc)),(24,.v (.int .i64 (x1.length:Int))),(25,.v (.int .i64 0))],[mk 1 3 ([].map cdI.enc)]⟩) Wk.none (Ac [0] ⟨⟨_,rfl,KI⟩,trivial⟩ ⟨lv,lv,lv,lv,lv,lv,trivial⟩)) (KS x1 x2 x3 _ [] 0 _ hr26)) ?_;refine AN he [(8,hd 0 (r26.map cdI.enc))] [mk 1 3 (r26.map cdI.enc)] ?_;refine An ?_;have hq:=OI h; subst hq;exact ⟨⟨Fr 51 [(8,.sl 1 (r26.map cdI.enc))],[]⟩,(Wk.trans (s1:=⟨Fr 51 [(8,.sl 1 (r26.map cdI.enc))],[none]⟩) (FV 0 (.inl kr) ⟨.inl rfl,trivial⟩ ⟨⟨hd 0 (r26.map cdI.enc),kr,Pv (t:=3) kr KO⟩,trivial⟩) (Ac [] trivial ⟨lv,trivial⟩)),.inr rfl,[.sl 1 (r26.map cdI.enc)],kr,kr⟩
def Io:List AV->Option AV:=GP EP (fun a=>CK a.1 a.2.1 a.2.2.1 a.2.2.2.1) ES
theorem Ip:XOk 41 Io:=by
 refine EnvOk.x (E:=A6) (Af Ce (fn:=Tryd.f41) (c:=DA) ?h1 ?h2 ⟨Tryd.call41⟩ EP (fun a=>CK a.1 a.2.1 a.2.2.1 a.2.2.2.1) ES (fun a=>(by show 4<=51; decide)) ?h3 ?h4) rfl rfl
 case h1=>kernel_rfl
 case h2=>kernel_rfl
 case h3=>intro b; kernel_rfl
 case h4=>exact fun a b h=>K9 a.1 a.2.1 a.2.2.1 a.2.2.2.1 b h
end Go.Proofs.YtcmgmkepodbpkaaDoor
