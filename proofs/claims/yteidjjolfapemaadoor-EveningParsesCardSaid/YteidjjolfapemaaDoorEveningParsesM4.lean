/- trestlelaw09.EveningParses returns true for every input, and its arguments read behind the call as before; conditions: those that the given row names. -/
import Derived.Test.YteidjjolfapemaaDoorEveningParsesM1
import Derived.Test.YteidjjolfapemaaDoorEveningParsesM2
import Derived.Test.YteidjjolfapemaaDoorEveningParsesM3
set_option maxHeartbeats 4000000
set_option maxRecDepth 100000
namespace Go.Proofs.YteidjjolfapemaaDoor
open Go.RowKit
/- trestle/trestleref09.evening -/
noncomputable def DX:Code:=B6 Tryd.f36
def A1 (v1:(List (List UInt8))×Bool):Nat->Int->(List (List Int))->Option (((List (List Int))) ⊕ (Unit))
 | 0,_,_=>none
 | f + 1,c13,c15 =>
  if (decide (c13 < (v1.1.length:Int)))=true then
  (idx v1.1 c13).bind fun v17 =>
  if (v17==[47])=true then
  (idx c15 (wr .i64 ((c15.length:Int) - 1))).bind fun v19 =>
  if ((v19.length:Int)==0)=true then
  some (.inr ())
  else
  if (CK 24 (c15.length + ([([]:(List Int))]:List (List Int)).length))=true then
  A1 v1 f (wr .i64 (c13 + 1)) (c15++([([]:(List Int))]:List (List Int)))
  else none
  else
  (idx v1.1 c13).bind fun v40 =>
  (DH v40).bind fun v41 =>
  if (!v41.2)=true then
  some (.inr ())
  else
  (idx c15 (wr .i64 ((c15.length:Int) - 1))).bind fun v44 =>
  if (CK 8 (v44.length + ([v41.1]:List Int).length))=true then
  (idx c15 (wr .i64 ((c15.length:Int) - 1))).bind fun v58 =>
  A1 v1 f (wr .i64 (c13 + 1)) (c15.set ((wr .i64 ((c15.length:Int) - 1)).toNat) (v44++([v41.1]:List Int)))
  else none
  else
  some (.inl c15)
def B0 (x0:(List UInt8)):Option ((List (List Int))×Bool) :=
 (Dt x0).bind fun v1 =>
 if (!v1.2)=true then
 some (([]:(List (List Int))),false)
 else
 (A1 v1 100000 0 ([([]:(List Int))]:List (List Int))).bind fun r65 =>
 match r65 with
 | (.inl w66) =>
  (idx w66 (wr .i64 ((w66.length:Int) - 1))).bind fun v70 =>
  some (w66,(decide ((v70.length:Int) > 0)))
 | (.inr w78) =>
  some (([]:(List (List Int))),false)
theorem Dx {L:List Asn}(v1:(List (List UInt8))×Bool):∀ (f:Nat) (c13:Int) (c15:(List (List Int))) (r:((List (List Int))) ⊕ (Unit)),A1 v1 f c13 c15=some r->∀ (e14:AV) (hp:Hp),T hp ((own_ (ocL 1 27 (ocL 1 3 (ocV cdI))) e14 c15)::L)->SemYN E0 ⟨none,false⟩ (pc DX [1,1,1,1,0,1,0,0]) f ⟨Fr 71 [(4,.sl 1 (v1.1.map cdS.enc)),(6,e14),(7,.v (.int .i64 c13))],hp⟩ (fun e s=>match r with
 | (.inl w)=>e=(.exit 0)/\∃ s2,(∃ (e63:AV) (h':Hp),T h' ((own_ (ocL 1 27 (ocL 1 3 (ocV cdI))) e63 w)::L)/\s2=⟨Fr 71 [(6,e63)],h'⟩)/\WkY E0 s s2
 | (.inr w)=>e = .ret/\∃ s2,(∃ (h':Hp),T h' (L)/\s2=⟨Fr 71 [(2,.e0),(3,.v (.bool false))],h'⟩)/\WkY E0 s s2):=by
 intro f;induction f with
 | zero=>intro c13 c15 r h; cases h
 | succ f ih0 =>
  intro c13 c15 r h e14 hp hT;unfold A1 at h;refine EP ?_;refine AM ?_;refine AM ?_;refine AF ?_;refine Ad AC 2 ?_;refine AS AC 0 rfl (Bu (AA rfl) rfl (B8 (a:= .sl 1 (v1.1.map cdS.enc)) kr (BT (el:=9) kr))) ?_
  let p1:Nat×AV:=(7,.v (.int .i64 c13))
  let p2:Nat×AV:=(4,.sl 1 (v1.1.map cdS.enc))
  refine Av AC [p2,(6,e14),p1,(22,.v (.bool (decide (c13 < (v1.1.length:Int)))))] ?_;refine Ax (b:=(decide (c13 < (v1.1.length:Int)))) kr (fun hb16=>?_) (fun hb16=>?_)
  ·rw [if_pos hb16] at h
   refine SemY.skip ?_;refine AM ?_;refine B9 ?_;refine AM ?_;refine AF ?_;refine Ad AC 1 ?_;refine AS AC 0 rfl (Bu (AA rfl) rfl (B8 (a:=e14) kr (Jd hT kr))) ?_
   let p3:Nat×AV:=(8,.v (.int .i64 (wr .i64 ((c15.length:Int) - 1))))
   refine Av AC [p2,(6,e14),p1,p3] ?_;refine AM ?_;refine AM ?_;refine AF ?_;refine Ad AC 2 ?_;obtain ⟨v17,hv17,h⟩:=OB h;refine AS AC 0 rfl (Bu (AA rfl) rfl (AO (a:= .sl 1 (v1.1.map cdS.enc)) (b:= .v (.int .i64 c13)) kr kr (Dq (e:=cdS.enc) (el:=9) (k:=1) (ki:= .i64) kr kr hv17))) ?_;refine Av AC [p2,(6,e14),p1,p3,(32,.v (.bool (v17==[47])))] ?_;refine Ax (b:=(v17==[47])) kr (fun hb18=>?_) (fun hb18=>?_)
   ·rw [if_pos hb18] at h
    refine AM ?_;refine AM ?_;refine AF ?_;refine Ad AC 2 ?_;obtain ⟨v19,hv19,h⟩:=OB h;refine AS AC 0 rfl (Bu (AA rfl) rfl (AO (a:=e14) (b:= .v (.int .i64 (wr .i64 ((c15.length:Int) - 1)))) kr kr (N4 (bytes:=24) hT kr hv19))) ?_;obtain ⟨e20,hl21,hT22⟩:=Ix (P:=Tryd.prog) (ty:=27) hT (EB hv19).2 kr kr;refine AS AC 0 rfl (Bu (AA rfl) rfl (Id (p:=eAt e14 ((wr .i64 ((c15.length:Int) - 1)).toNat)) kr hl21)) ?_;refine AS AC 0 rfl (Bu (AA rfl) rfl (B8 (a:=e20) kr (Jd hT22 kr))) ?_;refine Av AC [p2,(6,e14),p1,(38,.v (.bool ((v19.length:Int)==0)))] ?_;refine Ax (b:=((v19.length:Int)==0)) kr (fun hb23=>?_) (fun hb23=>?_)
    ·rw [if_pos hb23] at h
     refine Aa AC [(2,.e0),(3,.v (.bool false))] ?_;refine SemY.ret ?_;have hq:=OI h; subst hq
     have hT25:=(Im hT22)
     have hT26:=hT25.drop
     exact ⟨rfl,_,⟨hp,hT26,rfl⟩,WkY.f1⟩
    ·rw [BL hb23] at h
     refine SemY.skip ?_;refine AM ?_;refine AF ?_;refine Ad AC 1 ?_
     have hT31:=(T.e0 (k:=1) (ty:=3) (o:=(ocV cdI)) hT22)
     have hl32:Fj Tryd.prog 27 .e0=some (eI ([]:(List Int)).length):=Jd hT31 kr
     obtain ⟨e30,hp27,hb28,hT29⟩:=DK (P:=Tryd.prog) (bytes:=24) (k:=1) (t:=27) (ty:=43) (xs:=([([]:(List Int))]:List (List Int))) (n:=1) Mj (Kg ((Ls (o:=(ocL 1 3 (ocV cdI))) hT31).front 1 rfl)) rfl kr kr kr;refine AS AC 0 rfl (LX (AA rfl) rfl kr (IQ (xs:=Fh 0 [.e0]) kr hb28)) ?_;by_cases hk39:(CK 24 (c15.length + ([([]:(List Int))]:List (List Int)).length))=true
     case neg=>rw [if_neg hk39] at h; cases h
     rw [if_pos hk39] at h
     have hT33:=((hT29.front 2 rfl).front 2 rfl)
     have hT34:=(Im hT33)
     obtain ⟨e38,hp35,hb36,hT37⟩:=Dh (P:=Tryd.prog) (ty:=43) (ty2:=43) (bytes:=24) hT34 kr kr hk39;refine AS AC 0 rfl (MH (AA rfl) rfl kr kr (C3 (a:=e14) (b:=e30) kr kr hb36)) ?_;refine Av AC [p2,(6,e38),p1] ?_;refine SemY.exit ?_;refine AF ?_;refine Ad AC 3 ?_;refine BV rfl ?_;exact Bx WkY.f1 (ih0 (wr .i64 (c13 + 1)) (c15++([([]:(List Int))]:List (List Int))) _ h e38 hp35 hT37)
   ·rw [BL hb18] at h
    refine SemY.skip ?_;refine AM ?_;refine AF ?_;refine Ad AC 2 ?_;obtain ⟨v40,hv40,h⟩:=OB h;refine AS AC 0 rfl (Bu (AA rfl) rfl (AO (a:= .sl 1 (v1.1.map cdS.enc)) (b:= .v (.int .i64 c13)) kr kr (Dq (e:=cdS.enc) (el:=9) (k:=1) (ki:= .i64) kr kr hv40))) ?_;refine Ad AC 1 ?_;obtain ⟨v41,hv41,h⟩:=OB h;refine EO (v:=v41) (caps:=[]) (xs:=[.st v40]) (u:=(v40,())) rfl rfl Js rfl (AA rfl) kr kr (C7 (Eb (c:=cdS) (v:=v40)) SeesD.nil) (.inl kr) hv41 ?_;refine Av AC [p2,(6,e14),p1,p3,(9,.v (.int .i64 v41.1)),(10,.v (.bool v41.2))] ?_;refine AM ?_;refine Aa AC [p2,(6,e14),p1,p3,(9,.v (.int .i64 v41.1)),(51,.v (.bool (!v41.2)))] ?_;refine Ax (b:=(!v41.2)) kr (fun hb42=>?_) (fun hb42=>?_)
    ·rw [if_pos hb42] at h
     refine Aa AC [(2,.e0),(3,.v (.bool false))] ?_;refine SemY.ret ?_;have hq:=OI h; subst hq
     have hT43:=hT.drop
     exact ⟨rfl,_,⟨hp,hT43,rfl⟩,WkY.f1⟩
    ·rw [BL hb42] at h
     refine SemY.skip ?_;refine AF ?_;refine Ad AC 4 ?_;obtain ⟨v44,hv44,h⟩:=OB h;refine AS AC 0 rfl (Bu (AA rfl) rfl (AO (a:=e14) (b:= .v (.int .i64 (wr .i64 ((c15.length:Int) - 1)))) kr kr (N4 (bytes:=24) hT kr hv44))) ?_;obtain ⟨e45,hl46,hT47⟩:=Ix (P:=Tryd.prog) (ty:=27) hT (EB hv44).2 kr kr;refine AS AC 0 rfl (Bu (AA rfl) rfl (Id (p:=eAt e14 ((wr .i64 ((c15.length:Int) - 1)).toNat)) kr hl46)) ?_;refine Ad AC 1 ?_;obtain ⟨e51,hp48,hb49,hT50⟩:=DK (P:=Tryd.prog) (bytes:=8) (k:=1) (t:=3) (ty:=27) (xs:=([v41.1]:List Int)) (n:=1) (JW (k:=1) (fun _=>⟨rfl,rfl,rfl⟩)) (D8 (c:=cdI) (xs:=([v41.1]:List Int)) hT47) rfl kr kr kr;refine AS AC 0 rfl (LX (AA rfl) rfl kr (IQ (xs:=Fh 0 [.v (.int .i64 v41.1)]) kr hb49)) ?_;by_cases hk56:(CK 8 (v44.length + ([v41.1]:List Int).length))=true
     case neg=>rw [if_neg hk56] at h; cases h
     rw [if_pos hk56] at h
     have hT57:=((hT50.front 0 rfl).front 1 rfl)
     obtain ⟨e55,hp52,hb53,hT54⟩:=Dh (P:=Tryd.prog) (ty:=27) (ty2:=27) (bytes:=8) hT57 kr kr hk56;refine AS AC 0 rfl (MH (AA rfl) rfl kr kr (C3 (a:=e45) (b:=e51) kr kr hb53)) ?_;obtain ⟨v58,hv58,h⟩:=OB h
     have hT59:=(hT54.front 1 rfl)
     refine AS AC 0 rfl (Bu (AA rfl) rfl (AO (a:=e14) (b:= .v (.int .i64 (wr .i64 ((c15.length:Int) - 1)))) kr kr (O2 (bytes:=24) hT59 kr hv58))) ?_;obtain ⟨hp60,hs61,hT62⟩:=Nt (P:=Tryd.prog) (ty:=27) Mj hT59 kr;refine RunL.store AC (y:=eAt e14 ((wr .i64 ((c15.length:Int) - 1)).toNat)) (z:=e55) rfl (AA rfl) kr kr hs61 ?_;refine BV rfl (SemY.fr (l':=[p2,(6,e14),p1]) kr ?_);refine AF ?_;refine Ad AC 3 ?_;refine BV rfl ?_;exact Bx WkY.f1 (ih0 (wr .i64 (c13 + 1)) (c15.set ((wr .i64 ((c15.length:Int) - 1)).toNat) (v44++([v41.1]:List Int))) _ h e14 hp60 hT62)
  ·rw [BL hb16] at h
   refine SemY.exit ?_;have hq:=OI h; subst hq;exact ⟨rfl,_,⟨e14,hp,hT,rfl⟩,WkY.f1⟩
theorem Gp {L:List Asn}{hp:Hp}(x0:(List UInt8)) (r:(List (List Int))×Bool) (h:B0 x0=some r) (hT:T hp (L)):SemY E0 ⟨none,false⟩ DX ⟨Fr 71 (BA 0 [.st x0]),hp⟩ fun x s'=>(x = .normal\/x = .ret)/\∃ ys,EM E0.P s'.fr s'.hp Tryd.f36.results.toList=some ys/\(fun v h'=>v = .tp [.sl 1 (r.1.map (cdL 1 cdI).enc),.v (.bool r.2)]/\T h' (L)) (Ea ys) s'.hp:=by
 unfold B0 at h;refine Fb (F3 (s1:=⟨Fr 71 [(0,.st x0)],hp⟩) WkY.f1 ?_);refine Aa AC [(0,.st x0)] ?_;refine AM ?_;refine AF ?_;refine Ad AC 1 ?_;obtain ⟨v1,hv1,h⟩:=OB h;refine EO (v:=v1) (caps:=[]) (xs:=[.st x0]) (u:=(x0,())) rfl rfl KX rfl (AA rfl) kr kr (C7 (Eb (c:=cdS) (v:=x0)) SeesD.nil) (.inr ⟨by kernel_rfl,FE.de (x0,())⟩) hv1 ?_
 let p1:Nat×AV:=(4,.sl 1 (v1.1.map cdS.enc))
 refine Av AC [p1,(5,.v (.bool v1.2))] ?_;refine AM ?_;refine Aa AC [p1,(17,.v (.bool (!v1.2)))] ?_;refine Ax (b:=(!v1.2)) kr (fun hb2=>?_) (fun hb2=>?_)
 ·rw [if_pos hb2] at h
  let p2:Nat×AV:=(3,.v (.bool false))
  refine Aa AC [(2,.e0),p2] ?_;refine SemY.ret ?_;have hq:=OI h; subst hq
  have hT3:=(T.e0 (k:=1) (ty:=27) (o:=(ocL 1 3 (ocV cdI))) hT)
  let p3:Nat×AV:=(2,.sl 1 (([]:(List (List Int))).map (cdL 1 cdI).enc))
  obtain ⟨hp4,hw5,hT6⟩:=Ci (E:=E0) (n:=71) (l:=[(2,.e0),p2]) (l':=[p3,p2]) hT3 ⟨⟨.e0,kr,Cg⟩,⟨.v (.bool false),kr,FzU.refl⟩,trivial⟩;exact ⟨⟨Fr 71 [p3,p2],hp4⟩,(WkY.trans (WkY.trans WkY.f1 hw5) WkY.f1),.inr rfl,[.sl 1 (([]:(List (List Int))).map (cdL 1 cdI).enc),.v (.bool false)],kr,⟨rfl,hT6⟩⟩
 ·rw [BL hb2] at h
  refine SemY.skip ?_;refine AM ?_;refine AF ?_
  have hT11:=(T.e0 (k:=1) (ty:=3) (o:=(ocV cdI)) hT)
  have hl12:Fj Tryd.prog 27 .e0=some (eI ([]:(List Int)).length):=Jd hT11 kr
  obtain ⟨e10,hp7,hb8,hT9⟩:=DK (P:=Tryd.prog) (bytes:=24) (k:=1) (t:=27) (ty:=43) (xs:=([([]:(List Int))]:List (List Int))) (n:=1) Mj (Kg ((Ls (o:=(ocL 1 3 (ocV cdI))) hT11).front 1 rfl)) rfl kr kr kr;refine AS AC 0 rfl (LX (AA rfl) rfl kr (IQ (xs:=Fh 0 [.e0]) kr hb8)) ?_;refine Av AC [p1,(6,e10)] ?_;refine AM ?_;refine Aa AC [p1,(6,e10),(7,.v (.int .i64 0))] ?_;refine B9 ?_;refine SemY.loop (n:=100000) ?_;obtain ⟨r65,hr65,h⟩:=OB h;rcases r65 with w66 | w78
  ·try dsimp only at h
   refine Cb (Bx WkY.f1 (Dx v1 _ 0 ([([]:(List Int))]:List (List Int)) _ hr65 e10 hp7 hT9)) ?_;rintro _ ⟨e67,hp68,hT69,rfl⟩;refine AM ?_;refine K3 11 AC.mixed kr kr ?_;refine RunDT.q (x:=e67) rfl kr rfl (AA rfl) rfl kr kr ?_;refine RunDT.q (x:=e67) rfl kr rfl (AA rfl) rfl kr kr ?_;refine RunDT.q (x:=e67) rfl kr rfl (AA rfl) rfl kr kr ?_;refine RunDT.q (x:= .v (.int .i64 (w66.length:Int))) rfl kr rfl (AA rfl) rfl (B8 (a:=e67) kr (Jd hT69 kr)) kr ?_;refine RunDT.q (x:= .v (.int .i64 (wr .i64 ((w66.length:Int) - 1)))) rfl kr rfl (AA rfl) rfl kr kr ?_;obtain ⟨v70,hv70,h⟩:=OB h;refine RunDT.q (x:=eAt e67 ((wr .i64 ((w66.length:Int) - 1)).toNat)) rfl kr rfl (AA rfl) rfl (AO (a:=e67) (b:= .v (.int .i64 (wr .i64 ((w66.length:Int) - 1)))) kr kr (N4 (bytes:=24) hT69 kr hv70)) kr ?_;obtain ⟨e71,hl72,hT73⟩:=Ix (P:=Tryd.prog) (ty:=27) hT69 (EB hv70).2 kr kr;refine RunDT.q (x:=e71) rfl kr rfl (AA rfl) rfl (Id (p:=eAt e67 ((wr .i64 ((w66.length:Int) - 1)).toNat)) kr hl72) (L6 hT69 (EB hv70).2 kr) ?_;refine RunDT.q (x:= .v (.int .i64 (v70.length:Int))) rfl kr rfl (AA rfl) rfl (B8 (a:=e71) kr (Jd hT73 kr)) kr ?_;refine RunDT.q (x:= .v (.bool (decide ((v70.length:Int) > 0)))) rfl kr rfl (AA rfl) rfl kr kr ?_;refine RunDT.q (x:=e67) rfl kr rfl (AA rfl) rfl kr kr ?_;refine RunDT.q (x:= .v (.bool (decide ((v70.length:Int) > 0)))) rfl kr rfl (AA rfl) rfl kr kr ?_
   let p4:Nat×AV:=(3,.v (.bool (decide ((v70.length:Int) > 0))))
   refine RunDT.done rfl (SemY.fr (l':=[(2,e67),p4]) kr ?_);refine SemY.ret ?_;have hq:=OI h; subst hq
   have hT74:=(Im hT73)
   let p5:Nat×AV:=(2,.sl 1 (w66.map (cdL 1 cdI).enc))
   obtain ⟨hp75,hw76,hT77⟩:=Ci (E:=E0) (n:=71) (l:=[(2,e67),p4]) (l':=[p5,p4]) hT74 ⟨⟨e67,kr,Cg⟩,⟨.v (.bool (decide ((v70.length:Int) > 0))),kr,FzU.refl⟩,trivial⟩;exact ⟨⟨Fr 71 [p5,p4],hp75⟩,(WkY.trans (WkY.trans WkY.f1 hw76) WkY.f1),.inr rfl,[.sl 1 (w66.map (cdL 1 cdI).enc),.v (.bool (decide ((v70.length:Int) > 0)))],kr,⟨rfl,hT77⟩⟩
  ·try dsimp only at h
   refine Cb (Bx WkY.f1 (Dx v1 _ 0 ([([]:(List Int))]:List (List Int)) _ hr65 e10 hp7 hT9)) ?_;rintro _ ⟨hp79,hT80,rfl⟩;have hq:=OI h; subst hq
   have hT81:=(T.e0 (k:=1) (ty:=27) (o:=(ocL 1 3 (ocV cdI))) hT80)
   let p6:Nat×AV:=(3,.v (.bool false))
   let p7:Nat×AV:=(2,.sl 1 (([]:(List (List Int))).map (cdL 1 cdI).enc))
   obtain ⟨hp82,hw83,hT84⟩:=Ci (E:=E0) (n:=71) (l:=[(2,.e0),p6]) (l':=[p7,p6]) hT81 ⟨⟨.e0,kr,Cg⟩,⟨.v (.bool false),kr,FzU.refl⟩,trivial⟩;exact ⟨⟨Fr 71 [p7,p6],hp82⟩,(WkY.trans (WkY.trans WkY.f1 hw83) WkY.f1),.inr rfl,[.sl 1 (([]:(List (List Int))).map (cdL 1 cdI).enc),.v (.bool false)],kr,⟨rfl,hT84⟩⟩
def Ew:Cs ((List UInt8)×Unit):=(csC cdS csN)
def Ez (r:(List (List Int))×Bool):AV:= .tp [(cdL 1 (cdL 1 cdI)).enc r.1,cdB.enc r.2]
def H8:List AV->Option AV:=Dz Ew (fun a=>B0 a.1) Ez
theorem IE:XOk 36 H8:=by
 refine BJ Tryd.func36 (c:=DX) ?h2 ⟨Tryd.call36⟩ Ew (fun a=>B0 a.1) Ez (fun a=>(by show 1<=71; decide)) ?h3 ?h4
 case h2=>kernel_rfl
 case h3=>intro b; kernel_rfl
 case h4 =>
  intro a b h;refine Sem.mono (Il (Gp (L:=[]) (hp:=[]) a.1 b h T.nil)) fun e s' hs=>?_
  obtain ⟨h1,ys,h2,h3,-⟩:=hs;exact ⟨h1,ys,h2,h3⟩
/- trestle/trestleref09.times -/
noncomputable def BC:Env:=E0
theorem B7:EnvOk BC:=AC
noncomputable def CQ:Code:=B6 Tryd.f55
def CU (x0:(List (List Int))) (x1:Int) (c2:Int) (c4:Int) (c5:Int) (v9:Int):Option ((Int)) :=
 if (v9==x1)=true then
 some (wr .i64 (c4 + 1))
 else
 some c4
def B4 (x0:(List (List Int))) (x1:Int) (c2:Int):Nat->Int->Int->Option ((Int))
 | 0,_,_=>none
 | f + 1,c4,c5 =>
  (idx x0 c2).bind fun v6 =>
  if (decide (c5 < (v6.length:Int)))=true then
  (idx x0 c2).bind fun v8 =>
  (idx v8 c5).bind fun v9 =>
  (CU x0 x1 c2 c4 c5 v9).bind fun r12 =>
  B4 x0 x1 c2 f r12 (wr .i64 (c5 + 1))
  else
  some c4
def B3 (x0:(List (List Int))) (x1:Int):Nat->Int->Int->Option ((Int))
 | 0,_,_=>none
 | f + 1,c1,c2 =>
  if (decide (c2 < (x0.length:Int)))=true then
  (B4 x0 x1 c2 100000 c1 0).bind fun r14 =>
  B3 x0 x1 f r14 (wr .i64 (c2 + 1))
  else
  some c1
def Bj (x0:(List (List Int))) (x1:Int):Option (Int) :=
 (B3 x0 x1 100000 0 0).bind fun r16 =>
 some r16
def CR:Cs ((List (List Int))×Int×Unit):=(csC (cdL 1 (cdL 1 cdI)) (csC cdI csN))
def CT (r:Int):AV:=cdI.enc r
theorem Gq (x0:(List (List Int))) (x1:Int) (c2:Int) (c4:Int) (c5:Int) (v9:Int) (r:(Int)) (h:CU x0 x1 c2 c4 c5 v9=some r):Sem BC ⟨none,false⟩ (pc CQ [1,1,0,1,0,0,1,0,0,1,0,0,1,0,0,1]) ⟨Fr 35 [(0,.sl 1 (x0.map (cdL 1 cdI).enc)),(1,.v (.int .i64 x1)),(5,.v (.int .i64 c4)),(6,.v (.int .i64 c2)),(7,.v (.int .i64 c5)),(31,.v (.bool (v9==x1)))],[]⟩ (fun e s=>e = .normal/\Wk BC s ⟨Fr 35 [(0,.sl 1 (x0.map (cdL 1 cdI).enc)),(1,.v (.int .i64 x1)),(5,.v (.int .i64 r)),(6,.v (.int .i64 c2)),(7,.v (.int .i64 c5))],[]⟩):=by
 unfold CU at h;refine AP (b:=(v9==x1)) kr (fun hb10=>?_) (fun hb10=>?_)
 ·rw [if_pos hb10] at h
  refine CP B7 [(0,.sl 1 (x0.map (cdL 1 cdI).enc)),(1,.v (.int .i64 x1)),(5,.v (.int .i64 (wr .i64 (c4 + 1)))),(6,.v (.int .i64 c2)),(7,.v (.int .i64 c5))] [] ?_;have hq:=OI h; subst hq;exact ⟨rfl,AI⟩
 ·rw [BL hb10] at h
  refine AT ?_;have hq:=OI h; subst hq;exact ⟨rfl,AI⟩
theorem HH (x0:(List (List Int))) (x1:Int) (c2:Int):∀ (f:Nat) (c4:Int) (c5:Int) (r:(Int)),B4 x0 x1 c2 f c4 c5=some r->SemN BC ⟨none,false⟩ (pc CQ [1,1,0,1,0,0,1,0,0,1,0,0]) f ⟨Fr 35 [(0,.sl 1 (x0.map (cdL 1 cdI).enc)),(1,.v (.int .i64 x1)),(5,.v (.int .i64 c4)),(6,.v (.int .i64 c2)),(7,.v (.int .i64 c5))],[]⟩ (fun e s=>e=(.exit 2)/\Wk BC s ⟨Fr 35 [(0,.sl 1 (x0.map (cdL 1 cdI).enc)),(1,.v (.int .i64 x1)),(5,.v (.int .i64 r)),(6,.v (.int .i64 c2))],[]⟩):=by
 have he:=B7
 intro f;induction f with
 | zero=>intro c4 c5 r h; cases h
 | succ f ih0 =>
  intro c4 c5 r h
  have ih:=fun (c4:Int) (c5:Int)=>ih0 c4 c5 r
  unfold B4 at h;refine BM ?_;refine AD ?_;refine AD ?_;obtain ⟨v6,hv6,h⟩:=OB h
  let p1:Nat×AV:=(7,.v (.int .i64 c5))
  let p2:Nat×AV:=(6,.v (.int .i64 c2))
  let p3:Nat×AV:=(5,.v (.int .i64 c4))
  let p4:Nat×AV:=(1,.v (.int .i64 x1))
  let p5:Nat×AV:=(0,.sl 1 (x0.map (cdL 1 cdI).enc))
  refine AG (s1:=⟨Fr 35 [p5,p4,p3,p2,p1,(20,.v (.bool (decide (c5 < (v6.length:Int)))))],[]⟩) ?_ ?_
  ·refine AB (n:=35) he 3 [p5,p4,p3,p2,p1,(14,.v (.int .i64 c5)),(15,.sl 1 (x0.map (cdL 1 cdI).enc)),(16,.v (.int .i64 c2))] [] kr ?_
   refine AK he 0 rfl (Bu (AA rfl) rfl (AO (a:= .sl 1 (x0.map (cdL 1 cdI).enc)) (b:= .v (.int .i64 c2)) kr kr (Dq (e:=(cdL 1 cdI).enc) (el:=27) (k:=1) (ki:= .i64) kr kr hv6))) ?_;refine AB (n:=35) he 1 [p5,p4,p3,p2,p1,(14,.v (.int .i64 c5)),(18,.sl 1 (v6.map cdI.enc))] [] kr ?_;refine AK he 0 rfl (Bu (AA rfl) rfl (B8 (a:= .sl 1 (v6.map cdI.enc)) kr (BT (el:=3) kr))) ?_;exact AQ he
  refine AP (b:=(decide (c5 < (v6.length:Int)))) kr (fun hb7=>?_) (fun hb7=>?_)
  ·rw [if_pos hb7] at h
   refine AT ?_;refine AD ?_;refine AU ?_;refine AD ?_;obtain ⟨v8,hv8,h⟩:=OB h;obtain ⟨v9,hv9,h⟩:=OB h;refine AG (s1:=⟨Fr 35 [p5,p4,p3,p2,p1,(31,.v (.bool (v9==x1)))],[]⟩) ?_ ?_
   ·refine AB (n:=35) he 2 [p5,p4,p3,p2,p1,(23,.sl 1 (x0.map (cdL 1 cdI).enc)),(24,.v (.int .i64 c2))] [] kr ?_
    refine AK he 0 rfl (Bu (AA rfl) rfl (AO (a:= .sl 1 (x0.map (cdL 1 cdI).enc)) (b:= .v (.int .i64 c2)) kr kr (Dq (e:=(cdL 1 cdI).enc) (el:=27) (k:=1) (ki:= .i64) kr kr hv8))) ?_;refine AB (n:=35) he 2 [p5,p4,p3,p2,p1,(26,.sl 1 (v8.map cdI.enc)),(27,.v (.int .i64 c5))] [] kr ?_;refine AK he 0 rfl (Bu (AA rfl) rfl (AO (a:= .sl 1 (v8.map cdI.enc)) (b:= .v (.int .i64 c5)) kr kr (Dq (e:=cdI.enc) (el:=3) (k:=1) (ki:= .i64) kr kr hv9))) ?_;exact AQ he
   obtain ⟨r12,hr12,h⟩:=OB h;refine Lg (Gq x0 x1 c2 c4 c5 v9 _ hr12) ?_
   let p6:Nat×AV:=(7,.v (.int .i64 (wr .i64 (c5 + 1))))
   refine CP he [p5,p4,(5,.v (.int .i64 r12)),p2,p6] [] ?_;exact AY (s1:=⟨Fr 35 [p5,p4,(5,.v (.int .i64 r12)),p2,p6],[]⟩) AI (ih r12 (wr .i64 (c5 + 1)) h)
  ·rw [BL hb7] at h
   refine BW ?_;have hq:=OI h; subst hq;exact ⟨rfl,AI⟩
theorem HG (x0:(List (List Int))) (x1:Int):∀ (f:Nat) (c1:Int) (c2:Int) (r:(Int)),B3 x0 x1 f c1 c2=some r->SemN BC ⟨none,false⟩ (pc CQ [1,1,0,1,0,0]) f ⟨Fr 35 [(0,.sl 1 (x0.map (cdL 1 cdI).enc)),(1,.v (.int .i64 x1)),(5,.v (.int .i64 c1)),(6,.v (.int .i64 c2))],[]⟩ (fun e s=>e=(.exit 0)/\Wk BC s ⟨Fr 35 [(5,.v (.int .i64 r))],[]⟩):=by
 have he:=B7
 intro f;induction f with
 | zero=>intro c1 c2 r h; cases h
 | succ f ih0 =>
  intro c1 c2 r h
  have ih:=fun (c1:Int) (c2:Int)=>ih0 c1 c2 r
  unfold B3 at h;refine BM ?_;refine AD ?_;refine AD ?_
  let p1:Nat×AV:=(6,.v (.int .i64 c2))
  let p2:Nat×AV:=(5,.v (.int .i64 c1))
  let p3:Nat×AV:=(1,.v (.int .i64 x1))
  let p4:Nat×AV:=(0,.sl 1 (x0.map (cdL 1 cdI).enc))
  refine AG (s1:=⟨Fr 35 [p4,p3,p2,p1,(11,.v (.bool (decide (c2 < (x0.length:Int)))))],[]⟩) ?_ ?_
  ·refine AB (n:=35) he 2 [p4,p3,p2,p1,(8,.v (.int .i64 c2)),(9,.sl 1 (x0.map (cdL 1 cdI).enc))] [] kr ?_
   refine AK he 0 rfl (Bu (AA rfl) rfl (B8 (a:= .sl 1 (x0.map (cdL 1 cdI).enc)) kr (BT (el:=27) kr))) ?_;exact AQ he
  refine AP (b:=(decide (c2 < (x0.length:Int)))) kr (fun hb3=>?_) (fun hb3=>?_)
  ·rw [if_pos hb3] at h
   refine AT ?_;refine AD ?_;refine AU ?_;refine AN he [p4,p3,p2,p1,(7,.v (.int .i64 0))] [] ?_;refine AU ?_;obtain ⟨r14,hr14,h⟩:=OB h;refine Bp (n:=100000) ?_;refine Ah (AY (s1:=⟨Fr 35 [p4,p3,p2,p1,(7,.v (.int .i64 0))],[]⟩) AI (HH x0 x1 c2 _ c1 0 _ hr14)) ?_
   let p5:Nat×AV:=(6,.v (.int .i64 (wr .i64 (c2 + 1))))
   refine CP he [p4,p3,(5,.v (.int .i64 r14)),p5] [] ?_;exact AY (s1:=⟨Fr 35 [p4,p3,(5,.v (.int .i64 r14)),p5],[]⟩) AI (ih r14 (wr .i64 (c2 + 1)) h)
  ·rw [BL hb3] at h
   refine BW ?_;have hq:=OI h; subst hq;exact ⟨rfl,AI⟩
theorem H0 (x0:(List (List Int))) (x1:Int) (r:Int) (h:Bj x0 x1=some r):Sem BC ⟨none,false⟩ CQ ⟨Fr 35 (BA 0 (CR.enc (x0,x1,()))),[]⟩ fun e s'=>(e = .normal\/e = .ret)/\∃ xs,EM BC.P s'.fr s'.hp Tryd.f55.results.toList=some xs/\Ea xs=CT r:=by
 have he:=B7
 unfold Bj at h
 let p1:Nat×AV:=(1,.v (.int .i64 x1))
 let p2:Nat×AV:=(0,.sl 1 (x0.map (cdL 1 cdI).enc))
 refine Bq (CM (s1:=⟨Fr 35 [p2,p1],[]⟩) AI ?_);refine AN he [p2,p1] [] ?_
 let p3:Nat×AV:=(5,.v (.int .i64 0))
 refine AN he [p2,p1,p3] [] ?_;refine AD ?_;refine AN he [p2,p1,p3,(6,.v (.int .i64 0))] [] ?_;refine AU ?_;obtain ⟨r16,hr16,h⟩:=OB h;refine Bp (n:=100000) ?_;refine Ah (AY (s1:=⟨Fr 35 [p2,p1,p3,(6,.v (.int .i64 0))],[]⟩) AI (HG x0 x1 _ 0 0 _ hr16)) ?_;refine AN he [(4,.v (.int .i64 r16))] [] ?_;refine AW ?_;have hq:=OI h; subst hq;exact ⟨⟨Fr 35 [(4,.v (.int .i64 r16))],[]⟩,AI,.inr rfl,[.v (.int .i64 r16)],kr,kr⟩
def GW:List AV->Option AV:=Dz CR (fun a=>Bj a.1 a.2.1) CT
theorem Gb:XOk 55 GW:=by
 refine EnvOk.x (E:=BC) (CD B7 (fn:=Tryd.f55) (c:=CQ) ?h1 ?h2 ⟨Tryd.call55⟩ CR (fun a=>Bj a.1 a.2.1) CT (fun a=>(by show 2<=35; decide)) ?h3 ?h4) rfl rfl
 case h1=>kernel_rfl
 case h2=>kernel_rfl
 case h3=>intro b; kernel_rfl
 case h4=>exact fun a b h=>H0 a.1 a.2.1 b h
/- trestle/trestleref09.CheckEvening -/
noncomputable def AH:Env:=(E0.withX 55 GW)
theorem Ae:EnvOk AH:=(EnvOk.withX AC Gb.1 Gb.2)
noncomputable def Aj:Code:=B6 Tryd.f37
def Ap (x0:Int) (x1:(List Int)) (x2:(List (List Int))):Nat->Int->Option ((Unit) ⊕ (Int))
 | 0,_=>none
 | f + 1,c4 =>
  if (decide (c4 < (x2.length:Int)))=true then
  (idx x2 c4).bind fun v6 =>
  (if ((v6.length:Int)==0)=true then some true else if (decide ((x1.length:Int) > 0))=true then (idx x1 c4).bind fun v7 =>
  (idx x2 c4).bind fun v8 =>
  some (v7 != (v8.length:Int)) else some false).bind fun j10 =>
  if j10=true then
  some (.inr 2)
  else
  Ap x0 x1 x2 f (wr .i64 (c4 + 1))
  else
  some (.inl ())
def Ar (x0:Int) (x2:(List (List Int))) (c17:Int):Nat->Int->Option ((Unit) ⊕ (Int))
 | 0,_=>none
 | f + 1,c19 =>
  (idx x2 c17).bind fun v20 =>
  if (decide (c19 < (v20.length:Int)))=true then
  (idx x2 c17).bind fun v22 =>
  (idx v22 c19).bind fun v23 =>
  (if (decide (v23 < 0))=true then some true else (idx x2 c17).bind fun v24 =>
  (idx v24 c19).bind fun v25 =>
  some (decide (v25≥x0))).bind fun j27 =>
  if j27=true then
  some (.inr 6)
  else
  Ar x0 x2 c17 f (wr .i64 (c19 + 1))
  else
  some (.inl ())
def Aq (x0:Int) (x2:(List (List Int))):Nat->Int->Option ((Unit) ⊕ (Int))
 | 0,_=>none
 | f + 1,c17 =>
  if (decide (c17 < (x2.length:Int)))=true then
  (Ar x0 x2 c17 100000 0).bind fun r31 =>
  match r31 with
  | (.inl w32) =>
   Aq x0 x2 f (wr .i64 (c17 + 1))
  | (.inr w33) =>
   some (.inr w33)
  else
  some (.inl ())
def As (x0:Int) (x2:(List (List Int))):Nat->Int->Option ((Unit) ⊕ (Int))
 | 0,_=>none
 | f + 1,c37 =>
  if (decide (c37 < x0))=true then
  (Bj x2 c37).bind fun v39 =>
  if (decide (v39 > 1))=true then
  some (.inr 5)
  else
  As x0 x2 f (wr .i64 (c37 + 1))
  else
  some (.inl ())
def At (x0:Int) (x2:(List (List Int))):Nat->Int->Option ((Unit) ⊕ (Int))
 | 0,_=>none
 | f + 1,c44 =>
  if (decide (c44 < x0))=true then
  (Bj x2 c44).bind fun v46 =>
  if (v46==0)=true then
  some (.inr 2)
  else
  At x0 x2 f (wr .i64 (c44 + 1))
  else
  some (.inl ())
def Aw (x0:Int) (x1:(List Int)) (x2:(List (List Int))):Option (Int) :=
 (if (decide ((x1.length:Int) > 0))=true then some ((x1.length:Int)!=(x2.length:Int)) else some false).bind fun j2 =>
 if j2=true then
 some 2
 else
 (Ap x0 x1 x2 100000 0).bind fun r15 =>
 match r15 with
 | (.inl w16) =>
  (Aq x0 x2 100000 0).bind fun r35 =>
  match r35 with
  | (.inl w36) =>
   (As x0 x2 100000 0).bind fun r42 =>
   match r42 with
   | (.inl w43) =>
    (At x0 x2 100000 0).bind fun r49 =>
    match r49 with
    | (.inl w50) =>
     some 0
    | (.inr w51) =>
     some w51
   | (.inr w52) =>
    some w52
  | (.inr w53) =>
   some w53
 | (.inr w54) =>
  some w54
def CE:Cs (Int×(List Int)×(List (List Int))×Unit):=(csC cdI (csC (cdL 1 cdI) (csC (cdL 1 (cdL 1 cdI)) csN)))
def CG (r:Int):AV:=cdI.enc r
theorem Cw (x0:Int) (x1:(List Int)) (x2:(List (List Int))):∀ (f:Nat) (c4:Int) (r:(Unit) ⊕ (Int)),Ap x0 x1 x2 f c4=some r->SemN AH ⟨none,false⟩ (pc Aj [1,1,0,1,0,0]) f ⟨Fr 103 [(0,.v (.int .i64 x0)),(1,.sl 1 (x1.map cdI.enc)),(2,.sl 1 (x2.map (cdL 1 cdI).enc)),(7,.v (.int .i64 c4))],[]⟩ (fun e s=>match r with
 | (.inl w)=>e=(.exit 0)/\Wk AH s ⟨Fr 103 [(0,.v (.int .i64 x0)),(2,.sl 1 (x2.map (cdL 1 cdI).enc))],[]⟩
 | (.inr w)=>e = .ret/\Wk AH s ⟨Fr 103 [(6,.v (.int .i64 w))],[]⟩):=by
 have he:=Ae
 intro f;induction f with
 | zero=>intro c4 r h; cases h
 | succ f ih0 =>
  intro c4 r h
  have ih:=fun (c4:Int)=>ih0 c4 r
  unfold Ap at h;refine BM ?_;refine AD ?_;refine AD ?_;refine AG (s1:=⟨Fr 103 [(0,.v (.int .i64 x0)),(1,.sl 1 (x1.map cdI.enc)),(2,.sl 1 (x2.map (cdL 1 cdI).enc)),(7,.v (.int .i64 c4)),(25,.v (.bool (decide (c4 < (x2.length:Int)))))],[]⟩) ?_ ?_
  ·refine AB (n:=103) he 2 [(0,.v (.int .i64 x0)),(1,.sl 1 (x1.map cdI.enc)),(2,.sl 1 (x2.map (cdL 1 cdI).enc)),(7,.v (.int .i64 c4)),(22,.v (.int .i64 c4)),(23,.sl 1 (x2.map (cdL 1 cdI).enc))] [] kr ?_
   refine AK he 0 rfl (Bu (AA rfl) rfl (B8 (a:= .sl 1 (x2.map (cdL 1 cdI).enc)) kr (BT (el:=27) kr))) ?_;exact AQ he
  refine AP (b:=(decide (c4 < (x2.length:Int)))) kr (fun hb5=>?_) (fun hb5=>?_)
  ·rw [if_pos hb5] at h
   refine AT ?_;refine AD ?_;refine AU ?_;refine AD ?_;obtain ⟨v6,hv6,h⟩:=OB h;obtain ⟨j10,hj10,h⟩:=OB h;refine GK he (s1:=⟨Fr 103 [(0,.v (.int .i64 x0)),(1,.sl 1 (x1.map cdI.enc)),(2,.sl 1 (x2.map (cdL 1 cdI).enc)),(7,.v (.int .i64 c4)),(50,.v (.bool j10))],[]⟩) kr ?_ ?_
   ·refine Af (n:=103) he 2 [(0,.v (.int .i64 x0)),(1,.sl 1 (x1.map cdI.enc)),(2,.sl 1 (x2.map (cdL 1 cdI).enc)),(7,.v (.int .i64 c4)),(28,.sl 1 (x2.map (cdL 1 cdI).enc)),(29,.v (.int .i64 c4))] [] kr kr ?_
    refine RunDS.one he rfl kr (HF kr (AA rfl) rfl (AO (a:= .sl 1 (x2.map (cdL 1 cdI).enc)) (b:= .v (.int .i64 c4)) kr kr (Dq (e:=(cdL 1 cdI).enc) (el:=27) (k:=1) (ki:= .i64) kr kr hv6)) kr) ?_;refine Af (n:=103) he 1 [(0,.v (.int .i64 x0)),(1,.sl 1 (x1.map cdI.enc)),(2,.sl 1 (x2.map (cdL 1 cdI).enc)),(7,.v (.int .i64 c4)),(31,.sl 1 (v6.map cdI.enc))] [] kr kr ?_;refine RunDS.one he rfl kr (HF kr (AA rfl) rfl (B8 (a:= .sl 1 (v6.map cdI.enc)) kr (BT (el:=3) kr)) kr) ?_;refine Af (n:=103) he 2 [(0,.v (.int .i64 x0)),(1,.sl 1 (x1.map cdI.enc)),(2,.sl 1 (x2.map (cdL 1 cdI).enc)),(7,.v (.int .i64 c4)),(34,.v (.bool ((v6.length:Int)==0)))] [] kr kr ?_;rcases BE ((v6.length:Int)==0) with hc13 | hc13
    ·rw [if_pos hc13] at hj10
     rw [hc13];refine Af (n:=103) he 16 [(0,.v (.int .i64 x0)),(1,.sl 1 (x1.map cdI.enc)),(2,.sl 1 (x2.map (cdL 1 cdI).enc)),(7,.v (.int .i64 c4)),(35,.tp []),(36,.tp []),(37,.tp []),(38,.tp []),(39,.tp []),(40,.tp []),(41,.tp []),(42,.tp []),(43,.tp []),(44,.tp []),(45,.tp []),(46,.tp []),(47,.tp []),(48,.tp []),(49,.tp []),(50,.v (.bool true))] [] kr kr ?_;have hq:=OI hj10; subst hq;exact RunDS.done rfl AI
    ·rw [BL hc13] at hj10
     rw [hc13];refine Af (n:=103) he 1 [(0,.v (.int .i64 x0)),(1,.sl 1 (x1.map cdI.enc)),(2,.sl 1 (x2.map (cdL 1 cdI).enc)),(7,.v (.int .i64 c4)),(34,.v (.bool false)),(35,.sl 1 (x1.map cdI.enc))] [] kr kr ?_;refine RunDS.one he rfl kr (HF kr kr rfl (B8 (a:= .sl 1 (x1.map cdI.enc)) kr (BT (el:=3) kr)) kr) ?_;refine Af (n:=103) he 2 [(0,.v (.int .i64 x0)),(1,.sl 1 (x1.map cdI.enc)),(2,.sl 1 (x2.map (cdL 1 cdI).enc)),(7,.v (.int .i64 c4)),(34,.v (.bool false)),(35,.sl 1 (x1.map cdI.enc)),(36,.v (.int .i64 (x1.length:Int))),(37,.v (.bool (decide ((x1.length:Int) > 0)))),(38,.v (.bool (decide ((x1.length:Int) > 0))))] [] kr kr ?_;rcases BE (decide ((x1.length:Int) > 0)) with hc14 | hc14
     ·rw [if_pos hc14] at hj10
      rw [hc14];refine Af (n:=103) he 2 [(0,.v (.int .i64 x0)),(1,.sl 1 (x1.map cdI.enc)),(2,.sl 1 (x2.map (cdL 1 cdI).enc)),(7,.v (.int .i64 c4)),(34,.v (.bool false)),(35,.sl 1 (x1.map cdI.enc)),(36,.v (.int .i64 (x1.length:Int))),(37,.v (.bool true)),(38,.v (.bool true)),(39,.sl 1 (x1.map cdI.enc)),(40,.v (.int .i64 c4))] [] kr kr ?_;obtain ⟨v7,hv7,hj10⟩:=OB hj10;refine RunDS.one he rfl kr (HF kr kr rfl (AO (a:= .sl 1 (x1.map cdI.enc)) (b:= .v (.int .i64 c4)) kr kr (Dq (e:=cdI.enc) (el:=3) (k:=1) (ki:= .i64) kr kr hv7)) kr) ?_;refine Af (n:=103) he 3 [(0,.v (.int .i64 x0)),(1,.sl 1 (x1.map cdI.enc)),(2,.sl 1 (x2.map (cdL 1 cdI).enc)),(7,.v (.int .i64 c4)),(34,.v (.bool false)),(35,.sl 1 (x1.map cdI.enc)),(36,.v (.int .i64 (x1.length:Int))),(37,.v (.bool true)),(38,.v (.bool true)),(39,.sl 1 (x1.map cdI.enc)),(40,.v (.int .i64 c4)),(41,.pe (.v (.int .i64 v7)) 0),(42,.v (.int .i64 v7)),(43,.sl 1 (x2.map (cdL 1 cdI).enc)),(44,.v (.int .i64 c4))] [] kr kr ?_;obtain ⟨v8,hv8,hj10⟩:=OB hj10;refine RunDS.one he rfl kr (HF kr kr rfl (AO (a:= .sl 1 (x2.map (cdL 1 cdI).enc)) (b:= .v (.int .i64 c4)) kr kr (Dq (e:=(cdL 1 cdI).enc) (el:=27) (k:=1) (ki:= .i64) kr kr hv8)) kr) ?_;refine Af (n:=103) he 1 [(0,.v (.int .i64 x0)),(1,.sl 1 (x1.map cdI.enc)),(2,.sl 1 (x2.map (cdL 1 cdI).enc)),(7,.v (.int .i64 c4)),(34,.v (.bool false)),(35,.sl 1 (x1.map cdI.enc)),(36,.v (.int .i64 (x1.length:Int))),(37,.v (.bool true)),(38,.v (.bool true)),(39,.sl 1 (x1.map cdI.enc)),(40,.v (.int .i64 c4)),(41,.pe (.v (.int .i64 v7)) 0),(42,.v (.int .i64 v7)),(43,.sl 1 (x2.map (cdL 1 cdI).enc)),(44,.v (.int .i64 c4)),(45,.pe (.sl 1 (v8.map cdI.enc)) 0),(46,.sl 1 (v8.map cdI.enc))] [] kr kr ?_;refine RunDS.one he rfl kr (HF kr kr rfl (B8 (a:= .sl 1 (v8.map cdI.enc)) kr (BT (el:=3) kr)) kr) ?_;refine Af (n:=103) he 3 [(0,.v (.int .i64 x0)),(1,.sl 1 (x1.map cdI.enc)),(2,.sl 1 (x2.map (cdL 1 cdI).enc)),(7,.v (.int .i64 c4)),(35,.sl 1 (x1.map cdI.enc)),(36,.v (.int .i64 (x1.length:Int))),(37,.v (.bool true)),(38,.v (.bool true)),(39,.sl 1 (x1.map cdI.enc)),(40,.v (.int .i64 c4)),(41,.pe (.v (.int .i64 v7)) 0),(42,.v (.int .i64 v7)),(43,.sl 1 (x2.map (cdL 1 cdI).enc)),(44,.v (.int .i64 c4)),(45,.pe (.sl 1 (v8.map cdI.enc)) 0),(46,.sl 1 (v8.map cdI.enc)),(47,.v (.int .i64 (v8.length:Int))),(48,.v (.bool (v7 != (v8.length:Int)))),(49,.v (.bool (v7 != (v8.length:Int)))),(50,.v (.bool (v7 != (v8.length:Int))))] [] kr kr ?_
      have hq:=OI hj10; subst hq;exact RunDS.done rfl AI
     ·rw [BL hc14] at hj10
      rw [hc14];refine Af (n:=103) he 12 [(0,.v (.int .i64 x0)),(1,.sl 1 (x1.map cdI.enc)),(2,.sl 1 (x2.map (cdL 1 cdI).enc)),(7,.v (.int .i64 c4)),(35,.sl 1 (x1.map cdI.enc)),(36,.v (.int .i64 (x1.length:Int))),(37,.v (.bool false)),(38,.v (.bool false)),(39,.tp []),(40,.tp []),(41,.tp []),(42,.tp []),(43,.tp []),(44,.tp []),(45,.tp []),(46,.tp []),(47,.tp []),(48,.tp []),(49,.v (.bool false)),(50,.v (.bool false))] [] kr kr ?_;have hq:=OI hj10; subst hq;exact RunDS.done rfl AI
   refine AP (b:=j10) kr (fun hb11=>?_) (fun hb11=>?_)
   ·rw [if_pos hb11] at h
    refine AN he [(6,.v (.int .i64 2))] [] ?_;refine AW ?_;have hq:=OI h; subst hq;exact ⟨rfl,AI⟩
   ·rw [BL hb11] at h
    refine AT ?_;refine CP he [(0,.v (.int .i64 x0)),(1,.sl 1 (x1.map cdI.enc)),(2,.sl 1 (x2.map (cdL 1 cdI).enc)),(7,.v (.int .i64 (wr .i64 (c4 + 1))))] [] ?_;exact AY (s1:=⟨Fr 103 [(0,.v (.int .i64 x0)),(1,.sl 1 (x1.map cdI.enc)),(2,.sl 1 (x2.map (cdL 1 cdI).enc)),(7,.v (.int .i64 (wr .i64 (c4 + 1))))],[]⟩) AI (ih (wr .i64 (c4 + 1)) h)
  ·rw [BL hb5] at h
   refine BW ?_;have hq:=OI h; subst hq;exact ⟨rfl,AI⟩
theorem Cz (x0:Int) (x2:(List (List Int))) (c17:Int):∀ (f:Nat) (c19:Int) (r:(Unit) ⊕ (Int)),Ar x0 x2 c17 f c19=some r->SemN AH ⟨none,false⟩ (pc Aj [1,1,1,0,1,0,0,1,0,0,1,0,0]) f ⟨Fr 103 [(0,.v (.int .i64 x0)),(2,.sl 1 (x2.map (cdL 1 cdI).enc)),(8,.v (.int .i64 c17)),(9,.v (.int .i64 c19))],[]⟩ (fun e s=>match r with
 | (.inl w)=>e=(.exit 4)/\Wk AH s ⟨Fr 103 [(0,.v (.int .i64 x0)),(2,.sl 1 (x2.map (cdL 1 cdI).enc)),(8,.v (.int .i64 c17))],[]⟩
 | (.inr w)=>e = .ret/\Wk AH s ⟨Fr 103 [(6,.v (.int .i64 w))],[]⟩):=by
 have he:=Ae
 intro f;induction f with
 | zero=>intro c19 r h; cases h
 | succ f ih0 =>
  intro c19 r h
  have ih:=fun (c19:Int)=>ih0 c19 r
  unfold Ar at h;refine BM ?_;refine AD ?_;refine AD ?_;obtain ⟨v20,hv20,h⟩:=OB h;refine AG (s1:=⟨Fr 103 [(0,.v (.int .i64 x0)),(2,.sl 1 (x2.map (cdL 1 cdI).enc)),(8,.v (.int .i64 c17)),(9,.v (.int .i64 c19)),(63,.v (.bool (decide (c19 < (v20.length:Int)))))],[]⟩) ?_ ?_
  ·refine AB (n:=103) he 3 [(0,.v (.int .i64 x0)),(2,.sl 1 (x2.map (cdL 1 cdI).enc)),(8,.v (.int .i64 c17)),(9,.v (.int .i64 c19)),(57,.v (.int .i64 c19)),(58,.sl 1 (x2.map (cdL 1 cdI).enc)),(59,.v (.int .i64 c17))] [] kr ?_
   refine AK he 0 rfl (Bu (AA rfl) rfl (AO (a:= .sl 1 (x2.map (cdL 1 cdI).enc)) (b:= .v (.int .i64 c17)) kr kr (Dq (e:=(cdL 1 cdI).enc) (el:=27) (k:=1) (ki:= .i64) kr kr hv20))) ?_;refine AB (n:=103) he 1 [(0,.v (.int .i64 x0)),(2,.sl 1 (x2.map (cdL 1 cdI).enc)),(8,.v (.int .i64 c17)),(9,.v (.int .i64 c19)),(57,.v (.int .i64 c19)),(61,.sl 1 (v20.map cdI.enc))] [] kr ?_;refine AK he 0 rfl (Bu (AA rfl) rfl (B8 (a:= .sl 1 (v20.map cdI.enc)) kr (BT (el:=3) kr))) ?_;exact AQ he
  refine AP (b:=(decide (c19 < (v20.length:Int)))) kr (fun hb21=>?_) (fun hb21=>?_)
  ·rw [if_pos hb21] at h
   refine AT ?_;refine AD ?_;refine AU ?_;refine AD ?_;obtain ⟨v22,hv22,h⟩:=OB h;obtain ⟨v23,hv23,h⟩:=OB h;obtain ⟨j27,hj27,h⟩:=OB h;refine AG (s1:=⟨Fr 103 [(0,.v (.int .i64 x0)),(2,.sl 1 (x2.map (cdL 1 cdI).enc)),(8,.v (.int .i64 c17)),(9,.v (.int .i64 c19)),(84,.v (.bool j27))],[]⟩) ?_ ?_
   ·refine AB (n:=103) he 2 [(0,.v (.int .i64 x0)),(2,.sl 1 (x2.map (cdL 1 cdI).enc)),(8,.v (.int .i64 c17)),(9,.v (.int .i64 c19)),(66,.sl 1 (x2.map (cdL 1 cdI).enc)),(67,.v (.int .i64 c17))] [] kr ?_
    refine AK he 0 rfl (Bu (AA rfl) rfl (AO (a:= .sl 1 (x2.map (cdL 1 cdI).enc)) (b:= .v (.int .i64 c17)) kr kr (Dq (e:=(cdL 1 cdI).enc) (el:=27) (k:=1) (ki:= .i64) kr kr hv22))) ?_;refine AB (n:=103) he 2 [(0,.v (.int .i64 x0)),(2,.sl 1 (x2.map (cdL 1 cdI).enc)),(8,.v (.int .i64 c17)),(9,.v (.int .i64 c19)),(69,.sl 1 (v22.map cdI.enc)),(70,.v (.int .i64 c19))] [] kr ?_;refine AK he 0 rfl (Bu (AA rfl) rfl (AO (a:= .sl 1 (v22.map cdI.enc)) (b:= .v (.int .i64 c19)) kr kr (Dq (e:=cdI.enc) (el:=3) (k:=1) (ki:= .i64) kr kr hv23))) ?_;refine AB (n:=103) he 3 [(0,.v (.int .i64 x0)),(2,.sl 1 (x2.map (cdL 1 cdI).enc)),(8,.v (.int .i64 c17)),(9,.v (.int .i64 c19)),(74,.v (.bool (decide (v23 < 0))))] [] kr ?_;rcases BE (decide (v23 < 0)) with hc30 | hc30
    ·rw [if_pos hc30] at hj27
     rw [hc30];refine AB (n:=103) he 10 [(0,.v (.int .i64 x0)),(2,.sl 1 (x2.map (cdL 1 cdI).enc)),(8,.v (.int .i64 c17)),(9,.v (.int .i64 c19)),(75,.tp []),(76,.tp []),(77,.tp []),(78,.tp []),(79,.tp []),(80,.tp []),(81,.tp []),(82,.tp []),(83,.tp []),(84,.v (.bool true))] [] kr ?_;have hq:=OI hj27; subst hq;exact AJ rfl AI
    ·rw [BL hc30] at hj27
     rw [hc30];refine AB (n:=103) he 2 [(0,.v (.int .i64 x0)),(2,.sl 1 (x2.map (cdL 1 cdI).enc)),(8,.v (.int .i64 c17)),(9,.v (.int .i64 c19)),(74,.v (.bool false)),(75,.sl 1 (x2.map (cdL 1 cdI).enc)),(76,.v (.int .i64 c17))] [] kr ?_;obtain ⟨v24,hv24,hj27⟩:=OB hj27;refine AK he 0 rfl (Bu kr rfl (AO (a:= .sl 1 (x2.map (cdL 1 cdI).enc)) (b:= .v (.int .i64 c17)) kr kr (Dq (e:=(cdL 1 cdI).enc) (el:=27) (k:=1) (ki:= .i64) kr kr hv24))) ?_;refine AB (n:=103) he 2 [(0,.v (.int .i64 x0)),(2,.sl 1 (x2.map (cdL 1 cdI).enc)),(8,.v (.int .i64 c17)),(9,.v (.int .i64 c19)),(74,.v (.bool false)),(75,.sl 1 (x2.map (cdL 1 cdI).enc)),(76,.v (.int .i64 c17)),(77,.pe (.sl 1 (v24.map cdI.enc)) 0),(78,.sl 1 (v24.map cdI.enc)),(79,.v (.int .i64 c19))] [] kr ?_;obtain ⟨v25,hv25,hj27⟩:=OB hj27;refine AK he 0 rfl (Bu kr rfl (AO (a:= .sl 1 (v24.map cdI.enc)) (b:= .v (.int .i64 c19)) kr kr (Dq (e:=cdI.enc) (el:=3) (k:=1) (ki:= .i64) kr kr hv25))) ?_;refine AB (n:=103) he 4 [(0,.v (.int .i64 x0)),(2,.sl 1 (x2.map (cdL 1 cdI).enc)),(8,.v (.int .i64 c17)),(9,.v (.int .i64 c19)),(75,.sl 1 (x2.map (cdL 1 cdI).enc)),(76,.v (.int .i64 c17)),(77,.pe (.sl 1 (v24.map cdI.enc)) 0),(78,.sl 1 (v24.map cdI.enc)),(79,.v (.int .i64 c19)),(80,.pe (.v (.int .i64 v25)) 0),(81,.v (.int .i64 v25)),(82,.v (.int .i64 x0)),(83,.v (.bool (decide (v25≥x0)))),(84,.v (.bool (decide (v25≥x0))))] [] kr ?_;have hq:=OI hj27; subst hq;exact AJ rfl AI
   refine AP (b:=j27) kr (fun hb28=>?_) (fun hb28=>?_)
   ·rw [if_pos hb28] at h
    refine AN he [(6,.v (.int .i64 6))] [] ?_;refine AW ?_;have hq:=OI h; subst hq;exact ⟨rfl,AI⟩
   ·rw [BL hb28] at h
    refine AT ?_;refine CP he [(0,.v (.int .i64 x0)),(2,.sl 1 (x2.map (cdL 1 cdI).enc)),(8,.v (.int .i64 c17)),(9,.v (.int .i64 (wr .i64 (c19 + 1))))] [] ?_;exact AY (s1:=⟨Fr 103 [(0,.v (.int .i64 x0)),(2,.sl 1 (x2.map (cdL 1 cdI).enc)),(8,.v (.int .i64 c17)),(9,.v (.int .i64 (wr .i64 (c19 + 1))))],[]⟩) AI (ih (wr .i64 (c19 + 1)) h)
  ·rw [BL hb21] at h
   refine BW ?_;have hq:=OI h; subst hq;exact ⟨rfl,AI⟩
theorem Cy (x0:Int) (x2:(List (List Int))):∀ (f:Nat) (c17:Int) (r:(Unit) ⊕ (Int)),Aq x0 x2 f c17=some r->SemN AH ⟨none,false⟩ (pc Aj [1,1,1,0,1,0,0]) f ⟨Fr 103 [(0,.v (.int .i64 x0)),(2,.sl 1 (x2.map (cdL 1 cdI).enc)),(8,.v (.int .i64 c17))],[]⟩ (fun e s=>match r with
 | (.inl w)=>e=(.exit 2)/\Wk AH s ⟨Fr 103 [(0,.v (.int .i64 x0)),(2,.sl 1 (x2.map (cdL 1 cdI).enc))],[]⟩
 | (.inr w)=>e = .ret/\Wk AH s ⟨Fr 103 [(6,.v (.int .i64 w))],[]⟩):=by
 have he:=Ae
 intro f;induction f with
 | zero=>intro c17 r h; cases h
 | succ f ih0 =>
  intro c17 r h
  have ih:=fun (c17:Int)=>ih0 c17 r
  unfold Aq at h;refine BM ?_;refine AD ?_;refine AD ?_
  let p1:Nat×AV:=(8,.v (.int .i64 c17))
  let p2:Nat×AV:=(2,.sl 1 (x2.map (cdL 1 cdI).enc))
  let p3:Nat×AV:=(0,.v (.int .i64 x0))
  refine AG (s1:=⟨Fr 103 [p3,p2,p1,(54,.v (.bool (decide (c17 < (x2.length:Int)))))],[]⟩) ?_ ?_
  ·refine AB (n:=103) he 2 [p3,p2,p1,(51,.v (.int .i64 c17)),(52,.sl 1 (x2.map (cdL 1 cdI).enc))] [] kr ?_
   refine AK he 0 rfl (Bu (AA rfl) rfl (B8 (a:= .sl 1 (x2.map (cdL 1 cdI).enc)) kr (BT (el:=27) kr))) ?_;exact AQ he
  refine AP (b:=(decide (c17 < (x2.length:Int)))) kr (fun hb18=>?_) (fun hb18=>?_)
  ·rw [if_pos hb18] at h
   refine AT ?_;refine AD ?_;refine AU ?_
   let p4:Nat×AV:=(9,.v (.int .i64 0))
   refine AN he [p3,p2,p1,p4] [] ?_;refine AU ?_;obtain ⟨r31,hr31,h⟩:=OB h;refine Bp (n:=100000) ?_;rcases r31 with w32 | w33
   ·try dsimp only at h
    refine Ah (AY (s1:=⟨Fr 103 [p3,p2,p1,p4],[]⟩) AI (Cz x0 x2 c17 _ 0 _ hr31)) ?_
    let p5:Nat×AV:=(8,.v (.int .i64 (wr .i64 (c17 + 1))))
    refine CP he [p3,p2,p5] [] ?_;exact AY (s1:=⟨Fr 103 [p3,p2,p5],[]⟩) AI (ih (wr .i64 (c17 + 1)) h)
   ·try dsimp only at h
    refine Ah (AY (s1:=⟨Fr 103 [p3,p2,p1,p4],[]⟩) AI (Cz x0 x2 c17 _ 0 _ hr31)) ?_;have hq:=OI h; subst hq;exact ⟨rfl,AI⟩
  ·rw [BL hb18] at h
   refine BW ?_;have hq:=OI h; subst hq;exact ⟨rfl,AI⟩
theorem C0 (x0:Int) (x2:(List (List Int))):∀ (f:Nat) (c37:Int) (r:(Unit) ⊕ (Int)),As x0 x2 f c37=some r->SemN AH ⟨none,false⟩ (pc Aj [1,1,1,1,0,1,0,0]) f ⟨Fr 103 [(0,.v (.int .i64 x0)),(2,.sl 1 (x2.map (cdL 1 cdI).enc)),(10,.v (.int .i64 c37))],[]⟩ (fun e s=>match r with
 | (.inl w)=>e=(.exit 6)/\Wk AH s ⟨Fr 103 [(0,.v (.int .i64 x0)),(2,.sl 1 (x2.map (cdL 1 cdI).enc))],[]⟩
 | (.inr w)=>e = .ret/\Wk AH s ⟨Fr 103 [(6,.v (.int .i64 w))],[]⟩):=by
 have he:=Ae
 intro f;induction f with
 | zero=>intro c37 r h; cases h
 | succ f ih0 =>
  intro c37 r h
  have ih:=fun (c37:Int)=>ih0 c37 r
  unfold As at h;refine BM ?_;refine AD ?_
  let p1:Nat×AV:=(10,.v (.int .i64 c37))
  let p2:Nat×AV:=(2,.sl 1 (x2.map (cdL 1 cdI).enc))
  let p3:Nat×AV:=(0,.v (.int .i64 x0))
  refine AN he [p3,p2,p1,(87,.v (.bool (decide (c37 < x0))))] [] ?_;refine AP (b:=(decide (c37 < x0))) kr (fun hb38=>?_) (fun hb38=>?_)
  ·rw [if_pos hb38] at h
   refine AT ?_;refine AD ?_;refine AU ?_;refine AD ?_;obtain ⟨v39,hv39,h⟩:=OB h;refine AG (s1:=⟨Fr 103 [p3,p2,p1,(93,.v (.bool (decide (v39 > 1))))],[]⟩) ?_ ?_
   ·refine AB (n:=103) he 2 [p3,p2,p1,(90,.sl 1 (x2.map (cdL 1 cdI).enc)),(91,.v (.int .i64 c37))] [] kr ?_
    refine RunS.call he (fid:=55) (s:=CR) (F:=fun a=>Bj a.1 a.2.1) (er:=CT) (xs:=[.sl 1 (x2.map (cdL 1 cdI).enc),.v (.int .i64 c37)]) (a:=(x2,c37,())) rfl (AA rfl) kr kr kr kr (Sns.cons (Sn.enc (c:=(cdL 1 (cdL 1 cdI))) (v:=x2)) (Sns.cons (Sn.enc (c:=cdI) (v:=c37)) Sns.nil)) (.inl kr) hv39 ?_;exact AQ he
   refine AP (b:=(decide (v39 > 1))) kr (fun hb40=>?_) (fun hb40=>?_)
   ·rw [if_pos hb40] at h
    refine AN he [(6,.v (.int .i64 5))] [] ?_;refine AW ?_;have hq:=OI h; subst hq;exact ⟨rfl,AI⟩
   ·rw [BL hb40] at h
    refine AT ?_
    let p4:Nat×AV:=(10,.v (.int .i64 (wr .i64 (c37 + 1))))
    refine CP he [p3,p2,p4] [] ?_;exact AY (s1:=⟨Fr 103 [p3,p2,p4],[]⟩) AI (ih (wr .i64 (c37 + 1)) h)
  ·rw [BL hb38] at h
   refine BW ?_;have hq:=OI h; subst hq;exact ⟨rfl,AI⟩
theorem C1 (x0:Int) (x2:(List (List Int))):∀ (f:Nat) (c44:Int) (r:(Unit) ⊕ (Int)),At x0 x2 f c44=some r->SemN AH ⟨none,false⟩ (pc Aj [1,1,1,1,1,0,1,0,0]) f ⟨Fr 103 [(0,.v (.int .i64 x0)),(2,.sl 1 (x2.map (cdL 1 cdI).enc)),(11,.v (.int .i64 c44))],[]⟩ (fun e s=>match r with
 | (.inl w)=>e=(.exit 8)/\Wk AH s ⟨Fr 103 [],[]⟩
 | (.inr w)=>e = .ret/\Wk AH s ⟨Fr 103 [(6,.v (.int .i64 w))],[]⟩):=by
 have he:=Ae
 intro f;induction f with
 | zero=>intro c44 r h; cases h
 | succ f ih0 =>
  intro c44 r h
  have ih:=fun (c44:Int)=>ih0 c44 r
  unfold At at h;refine BM ?_;refine AD ?_
  let p1:Nat×AV:=(11,.v (.int .i64 c44))
  let p2:Nat×AV:=(2,.sl 1 (x2.map (cdL 1 cdI).enc))
  let p3:Nat×AV:=(0,.v (.int .i64 x0))
  refine AN he [p3,p2,p1,(96,.v (.bool (decide (c44 < x0))))] [] ?_;refine AP (b:=(decide (c44 < x0))) kr (fun hb45=>?_) (fun hb45=>?_)
  ·rw [if_pos hb45] at h
   refine AT ?_;refine AD ?_;refine AU ?_;refine AD ?_;obtain ⟨v46,hv46,h⟩:=OB h;refine AG (s1:=⟨Fr 103 [p3,p2,p1,(102,.v (.bool (v46==0)))],[]⟩) ?_ ?_
   ·refine AB (n:=103) he 2 [p3,p2,p1,(99,.sl 1 (x2.map (cdL 1 cdI).enc)),(100,.v (.int .i64 c44))] [] kr ?_
    refine RunS.call he (fid:=55) (s:=CR) (F:=fun a=>Bj a.1 a.2.1) (er:=CT) (xs:=[.sl 1 (x2.map (cdL 1 cdI).enc),.v (.int .i64 c44)]) (a:=(x2,c44,())) rfl (AA rfl) kr kr kr kr (Sns.cons (Sn.enc (c:=(cdL 1 (cdL 1 cdI))) (v:=x2)) (Sns.cons (Sn.enc (c:=cdI) (v:=c44)) Sns.nil)) (.inl kr) hv46 ?_;exact AQ he
   refine AP (b:=(v46==0)) kr (fun hb47=>?_) (fun hb47=>?_)
   ·rw [if_pos hb47] at h
    refine AN he [(6,.v (.int .i64 2))] [] ?_;refine AW ?_;have hq:=OI h; subst hq;exact ⟨rfl,AI⟩
   ·rw [BL hb47] at h
    refine AT ?_
    let p4:Nat×AV:=(11,.v (.int .i64 (wr .i64 (c44 + 1))))
    refine CP he [p3,p2,p4] [] ?_;exact AY (s1:=⟨Fr 103 [p3,p2,p4],[]⟩) AI (ih (wr .i64 (c44 + 1)) h)
  ·rw [BL hb45] at h
   refine BW ?_;have hq:=OI h; subst hq;exact ⟨rfl,AI⟩
theorem E5 (x0:Int) (x1:(List Int)) (x2:(List (List Int))) (r:Int) (h:Aw x0 x1 x2=some r):Sem AH ⟨none,false⟩ Aj ⟨Fr 103 (BA 0 (CE.enc (x0,x1,x2,()))),[]⟩ fun e s'=>(e = .normal\/e = .ret)/\∃ xs,EM AH.P s'.fr s'.hp Tryd.f37.results.toList=some xs/\Ea xs=CG r:=by
 have he:=Ae
 unfold Aw at h;refine Bq (CM (s1:=⟨Fr 103 [(0,.v (.int .i64 x0)),(1,.sl 1 (x1.map cdI.enc)),(2,.sl 1 (x2.map (cdL 1 cdI).enc))],[]⟩) AI ?_);refine AN he [(0,.v (.int .i64 x0)),(1,.sl 1 (x1.map cdI.enc)),(2,.sl 1 (x2.map (cdL 1 cdI).enc))] [] ?_;refine AD ?_;refine AD ?_;obtain ⟨j2,hj2,h⟩:=OB h;refine AG (s1:=⟨Fr 103 [(0,.v (.int .i64 x0)),(1,.sl 1 (x1.map cdI.enc)),(2,.sl 1 (x2.map (cdL 1 cdI).enc)),(21,.v (.bool j2))],[]⟩) ?_ ?_
 ·refine AB (n:=103) he 1 [(0,.v (.int .i64 x0)),(1,.sl 1 (x1.map cdI.enc)),(2,.sl 1 (x2.map (cdL 1 cdI).enc)),(12,.sl 1 (x1.map cdI.enc))] [] kr ?_
  refine AK he 0 rfl (Bu (AA rfl) rfl (B8 (a:= .sl 1 (x1.map cdI.enc)) kr (BT (el:=3) kr))) ?_;refine AB (n:=103) he 2 [(0,.v (.int .i64 x0)),(1,.sl 1 (x1.map cdI.enc)),(2,.sl 1 (x2.map (cdL 1 cdI).enc)),(15,.v (.bool (decide ((x1.length:Int) > 0))))] [] kr ?_;rcases BE (decide ((x1.length:Int) > 0)) with hc55 | hc55
  ·rw [if_pos hc55] at hj2
   rw [hc55];refine AB (n:=103) he 1 [(0,.v (.int .i64 x0)),(1,.sl 1 (x1.map cdI.enc)),(2,.sl 1 (x2.map (cdL 1 cdI).enc)),(15,.v (.bool true)),(16,.sl 1 (x1.map cdI.enc))] [] kr ?_;refine AK he 0 rfl (Bu kr rfl (B8 (a:= .sl 1 (x1.map cdI.enc)) kr (BT (el:=3) kr))) ?_;refine AB (n:=103) he 1 [(0,.v (.int .i64 x0)),(1,.sl 1 (x1.map cdI.enc)),(2,.sl 1 (x2.map (cdL 1 cdI).enc)),(15,.v (.bool true)),(17,.v (.int .i64 (x1.length:Int))),(18,.sl 1 (x2.map (cdL 1 cdI).enc))] [] kr ?_;refine AK he 0 rfl (Bu kr rfl (B8 (a:= .sl 1 (x2.map (cdL 1 cdI).enc)) kr (BT (el:=27) kr))) ?_;refine AB (n:=103) he 2 [(0,.v (.int .i64 x0)),(1,.sl 1 (x1.map cdI.enc)),(2,.sl 1 (x2.map (cdL 1 cdI).enc)),(21,.v (.bool ((x1.length:Int)!=(x2.length:Int))))] [] kr ?_;have hq:=OI hj2; subst hq;exact AJ rfl AI
  ·rw [BL hc55] at hj2
   rw [hc55];refine AB (n:=103) he 6 [(0,.v (.int .i64 x0)),(1,.sl 1 (x1.map cdI.enc)),(2,.sl 1 (x2.map (cdL 1 cdI).enc)),(21,.v (.bool false))] [] kr ?_;have hq:=OI hj2; subst hq;exact AJ rfl AI
 refine AP (b:=j2) kr (fun hb3=>?_) (fun hb3=>?_)
 ·rw [if_pos hb3] at h
  refine AN he [(6,.v (.int .i64 2))] [] ?_;refine AW ?_;have hq:=OI h; subst hq;exact ⟨⟨Fr 103 [(6,.v (.int .i64 2))],[]⟩,AI,.inr rfl,[.v (.int .i64 2)],kr,kr⟩
 ·rw [BL hb3] at h
  refine AT ?_;refine AD ?_;refine AN he [(0,.v (.int .i64 x0)),(1,.sl 1 (x1.map cdI.enc)),(2,.sl 1 (x2.map (cdL 1 cdI).enc)),(7,.v (.int .i64 0))] [] ?_;refine AU ?_;obtain ⟨r15,hr15,h⟩:=OB h;refine Bp (n:=100000) ?_;rcases r15 with w16 | w54
  ·try dsimp only at h
   refine Ah (AY (s1:=⟨Fr 103 [(0,.v (.int .i64 x0)),(1,.sl 1 (x1.map cdI.enc)),(2,.sl 1 (x2.map (cdL 1 cdI).enc)),(7,.v (.int .i64 0))],[]⟩) AI (Cw x0 x1 x2 _ 0 _ hr15)) ?_;refine AD ?_;refine AN he [(0,.v (.int .i64 x0)),(2,.sl 1 (x2.map (cdL 1 cdI).enc)),(8,.v (.int .i64 0))] [] ?_;refine AU ?_;obtain ⟨r35,hr35,h⟩:=OB h;refine Bp (n:=100000) ?_;rcases r35 with w36 | w53
   ·try dsimp only at h
    refine Ah (AY (s1:=⟨Fr 103 [(0,.v (.int .i64 x0)),(2,.sl 1 (x2.map (cdL 1 cdI).enc)),(8,.v (.int .i64 0))],[]⟩) AI (Cy x0 x2 _ 0 _ hr35)) ?_;refine AD ?_;refine AN he [(0,.v (.int .i64 x0)),(2,.sl 1 (x2.map (cdL 1 cdI).enc)),(10,.v (.int .i64 0))] [] ?_;refine AU ?_;obtain ⟨r42,hr42,h⟩:=OB h;refine Bp (n:=100000) ?_;rcases r42 with w43 | w52
    ·try dsimp only at h
     refine Ah (AY (s1:=⟨Fr 103 [(0,.v (.int .i64 x0)),(2,.sl 1 (x2.map (cdL 1 cdI).enc)),(10,.v (.int .i64 0))],[]⟩) AI (C0 x0 x2 _ 0 _ hr42)) ?_;refine AD ?_;refine AN he [(0,.v (.int .i64 x0)),(2,.sl 1 (x2.map (cdL 1 cdI).enc)),(11,.v (.int .i64 0))] [] ?_;refine AU ?_;obtain ⟨r49,hr49,h⟩:=OB h;refine Bp (n:=100000) ?_;rcases r49 with w50 | w51
     ·try dsimp only at h
      refine Ah (AY (s1:=⟨Fr 103 [(0,.v (.int .i64 x0)),(2,.sl 1 (x2.map (cdL 1 cdI).enc)),(11,.v (.int .i64 0))],[]⟩) AI (C1 x0 x2 _ 0 _ hr49)) ?_;refine AN he [(6,.v (.int .i64 0))] [] ?_;refine AW ?_;have hq:=OI h; subst hq;exact ⟨⟨Fr 103 [(6,.v (.int .i64 0))],[]⟩,AI,.inr rfl,[.v (.int .i64 0)],kr,kr⟩
     ·try dsimp only at h
      refine Ah (AY (s1:=⟨Fr 103 [(0,.v (.int .i64 x0)),(2,.sl 1 (x2.map (cdL 1 cdI).enc)),(11,.v (.int .i64 0))],[]⟩) AI (C1 x0 x2 _ 0 _ hr49)) ?_;have hq:=OI h; subst hq;exact ⟨⟨Fr 103 [(6,.v (.int .i64 w51))],[]⟩,AI,.inr rfl,[.v (.int .i64 w51)],kr,kr⟩
    ·try dsimp only at h
     refine Ah (AY (s1:=⟨Fr 103 [(0,.v (.int .i64 x0)),(2,.sl 1 (x2.map (cdL 1 cdI).enc)),(10,.v (.int .i64 0))],[]⟩) AI (C0 x0 x2 _ 0 _ hr42)) ?_;have hq:=OI h; subst hq;exact ⟨⟨Fr 103 [(6,.v (.int .i64 w52))],[]⟩,AI,.inr rfl,[.v (.int .i64 w52)],kr,kr⟩
   ·try dsimp only at h
    refine Ah (AY (s1:=⟨Fr 103 [(0,.v (.int .i64 x0)),(2,.sl 1 (x2.map (cdL 1 cdI).enc)),(8,.v (.int .i64 0))],[]⟩) AI (Cy x0 x2 _ 0 _ hr35)) ?_;have hq:=OI h; subst hq;exact ⟨⟨Fr 103 [(6,.v (.int .i64 w53))],[]⟩,AI,.inr rfl,[.v (.int .i64 w53)],kr,kr⟩
  ·try dsimp only at h
   refine Ah (AY (s1:=⟨Fr 103 [(0,.v (.int .i64 x0)),(1,.sl 1 (x1.map cdI.enc)),(2,.sl 1 (x2.map (cdL 1 cdI).enc)),(7,.v (.int .i64 0))],[]⟩) AI (Cw x0 x1 x2 _ 0 _ hr15)) ?_;have hq:=OI h; subst hq;exact ⟨⟨Fr 103 [(6,.v (.int .i64 w54))],[]⟩,AI,.inr rfl,[.v (.int .i64 w54)],kr,kr⟩
def Fk:List AV->Option AV:=Dz CE (fun a=>Aw a.1 a.2.1 a.2.2.1) CG
theorem Fm:XOk 37 Fk:=by
 refine EnvOk.x (E:=AH) (CD Ae (fn:=Tryd.f37) (c:=Aj) ?h1 ?h2 ⟨Tryd.call37⟩ CE (fun a=>Aw a.1 a.2.1 a.2.2.1) CG (fun a=>(by show 3<=103; decide)) ?h3 ?h4) rfl rfl
 case h1=>kernel_rfl
 case h2=>kernel_rfl
 case h3=>intro b; kernel_rfl
 case h4=>exact fun a b h=>E5 a.1 a.2.1 a.2.2.1 b h
/- trestle/trestleref09.Parse -/
noncomputable def EH:Code:=B6 Tryd.f12
def BO (x0:Int) (v5:(List (List UInt8))×Bool):Nat->(List (List (List Int)))->Int->Option (((List (List (List Int)))) ⊕ (Int×Int))
 | 0,_,_=>none
 | f + 1,c6,c7 =>
  if (decide (c7 < (v5.1.length:Int)))=true then
  (idx v5.1 c7).bind fun v9 =>
  (B0 v9).bind fun v10 =>
  (if (!v10.2)=true then some (c6,true) else if (c7==(wr .i64 ((v5.1.length:Int) - 1)))=true then some (c6,(!v5.2)) else some (c6,false)).bind fun j13 =>
  if j13.2=true then
  some (.inr (c7,3))
  else
  (Aw x0 [] v10.1).bind fun v17 =>
  if (v17 != 0)=true then
  some (.inr (c7,v17))
  else
  if (c7==64)=true then
  some (.inr (c7,7))
  else
  if (CK 24 (j13.1.length + 1))=true then
  BO x0 v5 f (j13.1++[v10.1]) (wr .i64 (c7 + 1))
  else none
  else
  some (.inl c6)
def CZ (x0:Int) (x1:(List UInt8)):Option ((List (List (List Int)))×Int×Int) :=
 (if (decide (x0 < 1))=true then some true else some (decide (x0 > 64))).bind fun j2 =>
 if j2=true then
 some ([],0,90)
 else
 if (decide ((x1.length:Int) > 65536))=true then
 some ([],0,7)
 else
 (Dr x1).bind fun v5 =>
 (BO x0 v5 100000 [] 0).bind fun r24 =>
 match r24 with
 | (.inl w25) =>
  some (w25,0,0)
 | (.inr w26) =>
  some ([],w26.1,w26.2)
def EI:Cs (Int×(List UInt8)×Unit):=(csC cdI (csC cdS csN))
def EK (r:(List (List (List Int)))×Int×Int):AV:= .tp [(cdL 1 (cdL 1 (cdL 1 cdI))).enc r.1,cdI.enc r.2.1,cdI.enc r.2.2]
theorem EX (x0:Int) (v5:(List (List UInt8))×Bool):∀ (f:Nat) (c6:(List (List (List Int)))) (c7:Int) (r:((List (List (List Int)))) ⊕ (Int×Int)),BO x0 v5 f c6 c7=some r->SemN E0 ⟨none,false⟩ (pc EH [1,1,1,1,1,0,1,0,0]) f ⟨Fr 71 [(0,.v (.int .i64 x0)),(7,.sl 1 (v5.1.map cdS.enc)),(8,.v (.bool v5.2)),(9,hd 0 (c6.map (cdL 1 (cdL 1 cdI)).enc)),(10,.v (.int .i64 c7))],[mk 1 43 (c6.map (cdL 1 (cdL 1 cdI)).enc)]⟩ (fun e s=>match r with
 | (.inl w)=>e=(.exit 0)/\Wk E0 s ⟨Fr 71 [(9,hd 0 (w.map (cdL 1 (cdL 1 cdI)).enc))],[mk 1 43 (w.map (cdL 1 (cdL 1 cdI)).enc)]⟩
 | (.inr w)=>e = .ret/\Wk E0 s ⟨Fr 71 [(4,.e0),(5,.v (.int .i64 w.1)),(6,.v (.int .i64 w.2))],[]⟩):=by
 intro f;induction f with
 | zero=>intro c6 c7 r h; cases h
 | succ f ih0 =>
  intro c6 c7 r h
  have ih:=fun (c6:(List (List (List Int)))) (c7:Int)=>ih0 c6 c7 r
  unfold BO at h;refine BM ?_;refine AD ?_;refine AD ?_;refine AG (s1:=⟨Fr 71 [(0,.v (.int .i64 x0)),(7,.sl 1 (v5.1.map cdS.enc)),(8,.v (.bool v5.2)),(9,hd 0 (c6.map (cdL 1 (cdL 1 cdI)).enc)),(10,.v (.int .i64 c7)),(31,.v (.bool (decide (c7 < (v5.1.length:Int)))))],[mk 1 43 (c6.map (cdL 1 (cdL 1 cdI)).enc)]⟩) ?_ ?_
  ·refine AB (n:=71) AC 2 [(0,.v (.int .i64 x0)),(7,.sl 1 (v5.1.map cdS.enc)),(8,.v (.bool v5.2)),(9,hd 0 (c6.map (cdL 1 (cdL 1 cdI)).enc)),(10,.v (.int .i64 c7)),(28,.v (.int .i64 c7)),(29,.sl 1 (v5.1.map cdS.enc))] [mk 1 43 (c6.map (cdL 1 (cdL 1 cdI)).enc)] kr ?_
   refine AK AC 0 rfl (Bu (AA rfl) rfl (B8 (a:= .sl 1 (v5.1.map cdS.enc)) kr (BT (el:=9) kr))) ?_;exact AQ AC
  refine AP (b:=(decide (c7 < (v5.1.length:Int)))) kr (fun hb8=>?_) (fun hb8=>?_)
  ·rw [if_pos hb8] at h
   refine AT ?_;refine AD ?_;refine AU ?_;refine AD ?_;obtain ⟨v9,hv9,h⟩:=OB h;obtain ⟨v10,hv10,h⟩:=OB h;refine AG (s1:=⟨Fr 71 [(0,.v (.int .i64 x0)),(7,.sl 1 (v5.1.map cdS.enc)),(8,.v (.bool v5.2)),(9,hd 0 (c6.map (cdL 1 (cdL 1 cdI)).enc)),(10,.v (.int .i64 c7)),(11,.sl 1 (v10.1.map (cdL 1 cdI).enc)),(12,.v (.bool v10.2))],[mk 1 43 (c6.map (cdL 1 (cdL 1 cdI)).enc)]⟩) ?_ ?_
   ·refine AB (n:=71) AC 2 [(0,.v (.int .i64 x0)),(7,.sl 1 (v5.1.map cdS.enc)),(8,.v (.bool v5.2)),(9,hd 0 (c6.map (cdL 1 (cdL 1 cdI)).enc)),(10,.v (.int .i64 c7)),(35,.sl 1 (v5.1.map cdS.enc)),(36,.v (.int .i64 c7))] [mk 1 43 (c6.map (cdL 1 (cdL 1 cdI)).enc)] kr ?_
    refine AK AC 0 rfl (Bu (AA rfl) rfl (AO (a:= .sl 1 (v5.1.map cdS.enc)) (b:= .v (.int .i64 c7)) kr kr (Dq (e:=cdS.enc) (el:=9) (k:=1) (ki:= .i64) kr kr hv9))) ?_;refine AB (n:=71) AC 1 [(0,.v (.int .i64 x0)),(7,.sl 1 (v5.1.map cdS.enc)),(8,.v (.bool v5.2)),(9,hd 0 (c6.map (cdL 1 (cdL 1 cdI)).enc)),(10,.v (.int .i64 c7)),(38,.st v9)] [mk 1 43 (c6.map (cdL 1 (cdL 1 cdI)).enc)] kr ?_;refine Am (caps:=[]) (xs:=[.st v9]) (u:=(v9,())) rfl rfl IE rfl (AA rfl) kr kr (A4 (BX (c:=cdS) (v:=v9)) Ch) (.inr kr) hv10 ?_;exact AQ AC
   refine AD ?_;refine AD ?_;obtain ⟨j13,hj13,h⟩:=OB h;refine AG (s1:=⟨Fr 71 [(0,.v (.int .i64 x0)),(7,.sl 1 (v5.1.map cdS.enc)),(8,.v (.bool v5.2)),(9,hd 0 (j13.1.map (cdL 1 (cdL 1 cdI)).enc)),(10,.v (.int .i64 c7)),(11,.sl 1 (v10.1.map (cdL 1 cdI).enc)),(54,.v (.bool j13.2))],[mk 1 43 (j13.1.map (cdL 1 (cdL 1 cdI)).enc)]⟩) ?_ ?_
   ·refine AB (n:=71) AC 3 [(0,.v (.int .i64 x0)),(7,.sl 1 (v5.1.map cdS.enc)),(8,.v (.bool v5.2)),(9,hd 0 (c6.map (cdL 1 (cdL 1 cdI)).enc)),(10,.v (.int .i64 c7)),(11,.sl 1 (v10.1.map (cdL 1 cdI).enc)),(44,.v (.bool (!v10.2)))] [mk 1 43 (c6.map (cdL 1 (cdL 1 cdI)).enc)] kr ?_
    rcases BE (!v10.2) with hc21 | hc21
    ·rw [if_pos hc21] at hj13
     rw [hc21];refine AB (n:=71) AC 10 [(0,.v (.int .i64 x0)),(7,.sl 1 (v5.1.map cdS.enc)),(8,.v (.bool v5.2)),(9,hd 0 (c6.map (cdL 1 (cdL 1 cdI)).enc)),(10,.v (.int .i64 c7)),(11,.sl 1 (v10.1.map (cdL 1 cdI).enc)),(45,.tp []),(46,.tp []),(47,.tp []),(48,.tp []),(49,.tp []),(50,.tp []),(51,.tp []),(52,.tp []),(53,.tp []),(54,.v (.bool true))] [mk 1 43 (c6.map (cdL 1 (cdL 1 cdI)).enc)] kr ?_;have hq:=OI hj13; subst hq;exact AJ rfl (BP [0] ⟨⟨_,rfl,Hb⟩,trivial⟩ ⟨lv,lv,lv,Hv (b':=0) kr kr,lv,lv,lv,trivial⟩)
    ·rw [BL hc21] at hj13
     rw [hc21];refine AB (n:=71) AC 2 [(0,.v (.int .i64 x0)),(7,.sl 1 (v5.1.map cdS.enc)),(8,.v (.bool v5.2)),(9,hd 0 (c6.map (cdL 1 (cdL 1 cdI)).enc)),(10,.v (.int .i64 c7)),(11,.sl 1 (v10.1.map (cdL 1 cdI).enc)),(44,.v (.bool false)),(45,.v (.int .i64 c7)),(46,.sl 1 (v5.1.map cdS.enc))] [mk 1 43 (c6.map (cdL 1 (cdL 1 cdI)).enc)] kr ?_;refine AK AC 0 rfl (Bu kr rfl (B8 (a:= .sl 1 (v5.1.map cdS.enc)) kr (BT (el:=9) kr))) ?_;refine AB (n:=71) AC 3 [(0,.v (.int .i64 x0)),(7,.sl 1 (v5.1.map cdS.enc)),(8,.v (.bool v5.2)),(9,hd 0 (c6.map (cdL 1 (cdL 1 cdI)).enc)),(10,.v (.int .i64 c7)),(11,.sl 1 (v10.1.map (cdL 1 cdI).enc)),(44,.v (.bool false)),(45,.v (.int .i64 c7)),(46,.sl 1 (v5.1.map cdS.enc)),(47,.v (.int .i64 (v5.1.length:Int))),(48,.v (.int .i64 (wr .i64 ((v5.1.length:Int) - 1)))),(49,.v (.bool (c7==(wr .i64 ((v5.1.length:Int) - 1))))),(50,.v (.bool (c7==(wr .i64 ((v5.1.length:Int) - 1)))))] [mk 1 43 (c6.map (cdL 1 (cdL 1 cdI)).enc)] kr ?_;rcases BE (c7==(wr .i64 ((v5.1.length:Int) - 1))) with hc22 | hc22
     ·rw [if_pos hc22] at hj13
      rw [hc22];refine AB (n:=71) AC 4 [(0,.v (.int .i64 x0)),(7,.sl 1 (v5.1.map cdS.enc)),(8,.v (.bool v5.2)),(9,hd 0 (c6.map (cdL 1 (cdL 1 cdI)).enc)),(10,.v (.int .i64 c7)),(11,.sl 1 (v10.1.map (cdL 1 cdI).enc)),(45,.v (.int .i64 c7)),(46,.sl 1 (v5.1.map cdS.enc)),(47,.v (.int .i64 (v5.1.length:Int))),(48,.v (.int .i64 (wr .i64 ((v5.1.length:Int) - 1)))),(49,.v (.bool true)),(50,.v (.bool true)),(51,.v (.bool v5.2)),(52,.v (.bool (!v5.2))),(53,.v (.bool (!v5.2))),(54,.v (.bool (!v5.2)))] [mk 1 43 (c6.map (cdL 1 (cdL 1 cdI)).enc)] kr ?_;have hq:=OI hj13; subst hq;exact AJ rfl (BP [0] ⟨⟨_,rfl,Hb⟩,trivial⟩ ⟨lv,lv,lv,Hv (b':=0) kr kr,lv,lv,lv,trivial⟩)
     ·rw [BL hc22] at hj13
      rw [hc22];refine AB (n:=71) AC 4 [(0,.v (.int .i64 x0)),(7,.sl 1 (v5.1.map cdS.enc)),(8,.v (.bool v5.2)),(9,hd 0 (c6.map (cdL 1 (cdL 1 cdI)).enc)),(10,.v (.int .i64 c7)),(11,.sl 1 (v10.1.map (cdL 1 cdI).enc)),(45,.v (.int .i64 c7)),(46,.sl 1 (v5.1.map cdS.enc)),(47,.v (.int .i64 (v5.1.length:Int))),(48,.v (.int .i64 (wr .i64 ((v5.1.length:Int) - 1)))),(49,.v (.bool false)),(50,.v (.bool false)),(51,.tp []),(52,.tp []),(53,.v (.bool false)),(54,.v (.bool false))] [mk 1 43 (c6.map (cdL 1 (cdL 1 cdI)).enc)] kr ?_;have hq:=OI hj13; subst hq;exact AJ rfl (BP [0] ⟨⟨_,rfl,Hb⟩,trivial⟩ ⟨lv,lv,lv,Hv (b':=0) kr kr,lv,lv,lv,trivial⟩)
   refine AP (b:=j13.2) kr (fun hb14=>?_) (fun hb14=>?_)
   ·rw [if_pos hb14] at h
    refine AD ?_;refine AG (s1:=⟨Fr 71 [(4,.e0),(5,.v (.int .i64 c7)),(6,.v (.int .i64 3))],[]⟩) ?_ ?_
    ·refine AB (n:=71) AC 4 [(4,.e0),(5,.v (.int .i64 c7)),(6,.v (.int .i64 3))] [mk 1 43 (j13.1.map (cdL 1 (cdL 1 cdI)).enc)] kr ?_
     exact AJ rfl (BP [] trivial ⟨lv,lv,lv,trivial⟩)
    refine AW ?_;have hq:=OI h; subst hq;exact ⟨rfl,AI⟩
   ·rw [BL hb14] at h
    refine AT ?_;refine AD ?_;refine AD ?_;obtain ⟨v17,hv17,h⟩:=OB h;refine AG (s1:=⟨Fr 71 [(0,.v (.int .i64 x0)),(7,.sl 1 (v5.1.map cdS.enc)),(8,.v (.bool v5.2)),(9,hd 0 (j13.1.map (cdL 1 (cdL 1 cdI)).enc)),(10,.v (.int .i64 c7)),(11,.sl 1 (v10.1.map (cdL 1 cdI).enc)),(13,.v (.int .i64 v17))],[mk 1 43 (j13.1.map (cdL 1 (cdL 1 cdI)).enc)]⟩) ?_ ?_
    ·refine AB (n:=71) AC 2 [(0,.v (.int .i64 x0)),(7,.sl 1 (v5.1.map cdS.enc)),(8,.v (.bool v5.2)),(9,hd 0 (j13.1.map (cdL 1 (cdL 1 cdI)).enc)),(10,.v (.int .i64 c7)),(11,.sl 1 (v10.1.map (cdL 1 cdI).enc)),(56,.v (.int .i64 x0)),(57,.sl 1 (v10.1.map (cdL 1 cdI).enc))] [mk 1 43 (j13.1.map (cdL 1 (cdL 1 cdI)).enc)] kr ?_
     refine Am (caps:=[]) (xs:=[.v (.int .i64 x0),.e0,.sl 1 (v10.1.map (cdL 1 cdI).enc)]) (u:=(x0,[],v10.1,())) rfl rfl Fm rfl (AA rfl) kr kr (A4 (BX (c:=cdI) (v:=x0)) (A4 Sm.e0 (A4 (BX (c:=(cdL 1 (cdL 1 cdI))) (v:=v10.1)) Ch))) (.inl kr) hv17 ?_;exact AQ AC
    refine AN AC [(0,.v (.int .i64 x0)),(7,.sl 1 (v5.1.map cdS.enc)),(8,.v (.bool v5.2)),(9,hd 0 (j13.1.map (cdL 1 (cdL 1 cdI)).enc)),(10,.v (.int .i64 c7)),(11,.sl 1 (v10.1.map (cdL 1 cdI).enc)),(13,.v (.int .i64 v17)),(60,.v (.bool (v17 != 0)))] [mk 1 43 (j13.1.map (cdL 1 (cdL 1 cdI)).enc)] ?_;refine AP (b:=(v17 != 0)) kr (fun hb18=>?_) (fun hb18=>?_)
    ·rw [if_pos hb18] at h
     refine AD ?_;refine AG (s1:=⟨Fr 71 [(4,.e0),(5,.v (.int .i64 c7)),(6,.v (.int .i64 v17))],[]⟩) ?_ ?_
     ·refine AB (n:=71) AC 5 [(4,.e0),(5,.v (.int .i64 c7)),(6,.v (.int .i64 v17))] [mk 1 43 (j13.1.map (cdL 1 (cdL 1 cdI)).enc)] kr ?_
      exact AJ rfl (BP [] trivial ⟨lv,lv,lv,trivial⟩)
     refine AW ?_;have hq:=OI h; subst hq;exact ⟨rfl,AI⟩
    ·rw [BL hb18] at h
     refine AT ?_;refine AD ?_;refine AN AC [(0,.v (.int .i64 x0)),(7,.sl 1 (v5.1.map cdS.enc)),(8,.v (.bool v5.2)),(9,hd 0 (j13.1.map (cdL 1 (cdL 1 cdI)).enc)),(10,.v (.int .i64 c7)),(11,.sl 1 (v10.1.map (cdL 1 cdI).enc)),(64,.v (.bool (c7==64)))] [mk 1 43 (j13.1.map (cdL 1 (cdL 1 cdI)).enc)] ?_;refine AP (b:=(c7==64)) kr (fun hb19=>?_) (fun hb19=>?_)
     ·rw [if_pos hb19] at h
      refine AD ?_;refine AG (s1:=⟨Fr 71 [(4,.e0),(5,.v (.int .i64 c7)),(6,.v (.int .i64 7))],[]⟩) ?_ ?_
      ·refine AB (n:=71) AC 4 [(4,.e0),(5,.v (.int .i64 c7)),(6,.v (.int .i64 7))] [mk 1 43 (j13.1.map (cdL 1 (cdL 1 cdI)).enc)] kr ?_
       exact AJ rfl (BP [] trivial ⟨lv,lv,lv,trivial⟩)
      refine AW ?_;have hq:=OI h; subst hq;exact ⟨rfl,AI⟩
     ·rw [BL hb19] at h
      refine AT ?_;by_cases hk20:(CK 24 (j13.1.length + 1))=true
      case neg=>rw [if_neg hk20] at h; cases h
      rw [if_pos hk20] at h;refine AG (s1:=⟨Fr 71 [(0,.v (.int .i64 x0)),(7,.sl 1 (v5.1.map cdS.enc)),(8,.v (.bool v5.2)),(9,hd 0 ((j13.1++[v10.1]).map (cdL 1 (cdL 1 cdI)).enc)),(10,.v (.int .i64 c7))],[mk 1 43 ((j13.1++[v10.1]).map (cdL 1 (cdL 1 cdI)).enc)]⟩) ?_ ?_
      ·refine AB (n:=71) AC 3 [(0,.v (.int .i64 x0)),(7,.sl 1 (v5.1.map cdS.enc)),(8,.v (.bool v5.2)),(10,.v (.int .i64 c7)),(66,hd 0 (j13.1.map (cdL 1 (cdL 1 cdI)).enc)),(68,hd 1 ([v10.1].map (cdL 1 (cdL 1 cdI)).enc))] [mk 1 43 (j13.1.map (cdL 1 (cdL 1 cdI)).enc),mk 1 43 ([v10.1].map (cdL 1 (cdL 1 cdI)).enc)] kr ?_
       refine AK AC 0 rfl (MH (AA rfl) rfl kr kr (C3 (a:=hd 0 (j13.1.map (cdL 1 (cdL 1 cdI)).enc)) (b:=hd 1 ([v10.1].map (cdL 1 (cdL 1 cdI)).enc)) kr kr (Ka (c:=(cdL 1 (cdL 1 cdI))) (xs:=j13.1) (vs:=[v10.1]) (k:=1) (bytes:=24) (el:=43) kr kr (Kf (t:=43) kr) (List.cons_ne_nil _ _) kr hk20))) ?_;refine AB (n:=71) AC 1 [(0,.v (.int .i64 x0)),(7,.sl 1 (v5.1.map cdS.enc)),(8,.v (.bool v5.2)),(9,hd 2 ((j13.1++[v10.1]).map (cdL 1 (cdL 1 cdI)).enc)),(10,.v (.int .i64 c7))] [none,mk 1 43 ([v10.1].map (cdL 1 (cdL 1 cdI)).enc),mk 1 43 ((j13.1++[v10.1]).map (cdL 1 (cdL 1 cdI)).enc)] kr ?_;exact AJ rfl (BP [2] ⟨⟨_,rfl,Hb⟩,trivial⟩ ⟨lv,lv,lv,Hv (b':=2) kr kr,lv,trivial⟩)
      refine CP AC [(0,.v (.int .i64 x0)),(7,.sl 1 (v5.1.map cdS.enc)),(8,.v (.bool v5.2)),(9,hd 0 ((j13.1++[v10.1]).map (cdL 1 (cdL 1 cdI)).enc)),(10,.v (.int .i64 (wr .i64 (c7 + 1))))] [mk 1 43 ((j13.1++[v10.1]).map (cdL 1 (cdL 1 cdI)).enc)] ?_;exact AY (s1:=⟨Fr 71 [(0,.v (.int .i64 x0)),(7,.sl 1 (v5.1.map cdS.enc)),(8,.v (.bool v5.2)),(9,hd 0 ((j13.1++[v10.1]).map (cdL 1 (cdL 1 cdI)).enc)),(10,.v (.int .i64 (wr .i64 (c7 + 1))))],[mk 1 43 ((j13.1++[v10.1]).map (cdL 1 (cdL 1 cdI)).enc)]⟩) (BP [0] ⟨⟨_,rfl,Hb⟩,trivial⟩ ⟨lv,lv,lv,Hv (b':=0) kr kr,lv,trivial⟩) (ih (j13.1++[v10.1]) (wr .i64 (c7 + 1)) h)
  ·rw [BL hb8] at h
   refine BW ?_;have hq:=OI h; subst hq;exact ⟨rfl,(BP [0] ⟨⟨_,rfl,Hb⟩,trivial⟩ ⟨Hv (b':=0) kr kr,trivial⟩)⟩
theorem Hz (x0:Int) (x1:(List UInt8)) (r:(List (List (List Int)))×Int×Int) (h:CZ x0 x1=some r):Sem E0 ⟨none,false⟩ EH ⟨Fr 71 (BA 0 (EI.enc (x0,x1,()))),[]⟩ fun e s'=>(e = .normal\/e = .ret)/\∃ xs,EM E0.P s'.fr s'.hp Tryd.f12.results.toList=some xs/\Ea xs=EK r:=by
 unfold CZ at h;refine Bq (CM (s1:=⟨Fr 71 [(0,.v (.int .i64 x0)),(1,.st x1)],[]⟩) AI ?_);refine AN AC [(0,.v (.int .i64 x0)),(1,.st x1)] [] ?_;refine AD ?_;refine AD ?_;obtain ⟨j2,hj2,h⟩:=OB h;refine AG (s1:=⟨Fr 71 [(0,.v (.int .i64 x0)),(1,.st x1),(19,.v (.bool j2))],[]⟩) ?_ ?_
 ·refine AB (n:=71) AC 3 [(0,.v (.int .i64 x0)),(1,.st x1),(16,.v (.bool (decide (x0 < 1))))] [] kr ?_
  rcases BE (decide (x0 < 1)) with hc27 | hc27
  ·rw [if_pos hc27] at hj2
   rw [hc27];refine AB (n:=71) AC 3 [(0,.v (.int .i64 x0)),(1,.st x1),(19,.v (.bool true))] [] kr ?_;have hq:=OI hj2; subst hq;exact AJ rfl AI
  ·rw [BL hc27] at hj2
   rw [hc27];refine AB (n:=71) AC 3 [(0,.v (.int .i64 x0)),(1,.st x1),(19,.v (.bool (decide (x0 > 64))))] [] kr ?_;have hq:=OI hj2; subst hq;exact AJ rfl AI
 refine AP (b:=j2) kr (fun hb3=>?_) (fun hb3=>?_)
 ·rw [if_pos hb3] at h
  refine AN AC [(4,.e0),(5,.v (.int .i64 0)),(6,.v (.int .i64 90))] [] ?_;refine AW ?_;have hq:=OI h; subst hq;exact ⟨⟨Fr 71 [(4,.sl 1 ([].map (cdL 1 (cdL 1 cdI)).enc)),(5,.v (.int .i64 0)),(6,.v (.int .i64 90))],[]⟩,(Wk.trans (s1:=⟨Fr 71 [(4,.e0),(5,.v (.int .i64 0)),(6,.v (.int .i64 90))],[]⟩) AI (Wk.trans (s1:=⟨Fr 71 [(4,.e0),(5,.v (.int .i64 0)),(6,.v (.int .i64 90))],[none]⟩) Wk.none (Wk.trans (s1:=⟨Fr 71 [(4,.sl 1 ([].map (cdL 1 (cdL 1 cdI)).enc)),(5,.v (.int .i64 0)),(6,.v (.int .i64 90))],[none]⟩) (FB 0 (.inr kr) ⟨.inl rfl,trivial⟩ ⟨⟨.e0,kr,LE⟩,⟨.v (.int .i64 0),kr,.inl rfl⟩,⟨.v (.int .i64 90),kr,.inl rfl⟩,trivial⟩) (BP [] trivial ⟨lv,lv,lv,trivial⟩)))),.inr rfl,[.sl 1 ([].map (cdL 1 (cdL 1 cdI)).enc),.v (.int .i64 0),.v (.int .i64 90)],kr,kr⟩
 ·rw [BL hb3] at h
  refine AT ?_;refine AD ?_;refine AN AC [(0,.v (.int .i64 x0)),(1,.st x1),(22,.v (.bool (decide ((x1.length:Int) > 65536))))] [] ?_;refine AP (b:=(decide ((x1.length:Int) > 65536))) kr (fun hb4=>?_) (fun hb4=>?_)
  ·rw [if_pos hb4] at h
   refine AN AC [(4,.e0),(5,.v (.int .i64 0)),(6,.v (.int .i64 7))] [] ?_;refine AW ?_;have hq:=OI h; subst hq;exact ⟨⟨Fr 71 [(4,.sl 1 ([].map (cdL 1 (cdL 1 cdI)).enc)),(5,.v (.int .i64 0)),(6,.v (.int .i64 7))],[]⟩,(Wk.trans (s1:=⟨Fr 71 [(4,.e0),(5,.v (.int .i64 0)),(6,.v (.int .i64 7))],[]⟩) AI (Wk.trans (s1:=⟨Fr 71 [(4,.e0),(5,.v (.int .i64 0)),(6,.v (.int .i64 7))],[none]⟩) Wk.none (Wk.trans (s1:=⟨Fr 71 [(4,.sl 1 ([].map (cdL 1 (cdL 1 cdI)).enc)),(5,.v (.int .i64 0)),(6,.v (.int .i64 7))],[none]⟩) (FB 0 (.inr kr) ⟨.inl rfl,trivial⟩ ⟨⟨.e0,kr,LE⟩,⟨.v (.int .i64 0),kr,.inl rfl⟩,⟨.v (.int .i64 7),kr,.inl rfl⟩,trivial⟩) (BP [] trivial ⟨lv,lv,lv,trivial⟩)))),.inr rfl,[.sl 1 ([].map (cdL 1 (cdL 1 cdI)).enc),.v (.int .i64 0),.v (.int .i64 7)],kr,kr⟩
  ·rw [BL hb4] at h
   refine AT ?_;refine AD ?_;obtain ⟨v5,hv5,h⟩:=OB h;refine AG (s1:=⟨Fr 71 [(0,.v (.int .i64 x0)),(7,.sl 1 (v5.1.map cdS.enc)),(8,.v (.bool v5.2))],[]⟩) ?_ ?_
   ·refine AB (n:=71) AC 1 [(0,.v (.int .i64 x0)),(24,.st x1)] [] kr ?_
    refine Am (caps:=[]) (xs:=[.st x1]) (u:=(x1,())) rfl rfl KW rfl (AA rfl) kr kr (A4 (BX (c:=cdS) (v:=x1)) Ch) (.inr kr) hv5 ?_;exact AQ AC
   refine AN AC [(0,.v (.int .i64 x0)),(7,.sl 1 (v5.1.map cdS.enc)),(8,.v (.bool v5.2)),(9,.e0)] [] ?_;refine AD ?_;refine AN AC [(0,.v (.int .i64 x0)),(7,.sl 1 (v5.1.map cdS.enc)),(8,.v (.bool v5.2)),(9,.e0),(10,.v (.int .i64 0))] [] ?_;refine AU ?_;obtain ⟨r24,hr24,h⟩:=OB h;refine Bp (n:=100000) ?_;rcases r24 with w25 | w26
   ·try dsimp only at h
    refine Ah (AY (s1:=⟨Fr 71 [(0,.v (.int .i64 x0)),(7,.sl 1 (v5.1.map cdS.enc)),(8,.v (.bool v5.2)),(9,hd 0 ([].map (cdL 1 (cdL 1 cdI)).enc)),(10,.v (.int .i64 0))],[mk 1 43 ([].map (cdL 1 (cdL 1 cdI)).enc)]⟩) (Wk.trans (s1:=⟨Fr 71 [(0,.v (.int .i64 x0)),(7,.sl 1 (v5.1.map cdS.enc)),(8,.v (.bool v5.2)),(9,hd 0 ([].map (cdL 1 (cdL 1 cdI)).enc)),(10,.v (.int .i64 0))],[mk 1 43 ([].map (cdL 1 (cdL 1 cdI)).enc)]⟩) Wk.none (BP [0] ⟨⟨_,rfl,Io⟩,trivial⟩ ⟨lv,lv,lv,lv,lv,trivial⟩)) (EX x0 v5 _ [] 0 _ hr24)) ?_;refine AN AC [(4,hd 0 (w25.map (cdL 1 (cdL 1 cdI)).enc)),(5,.v (.int .i64 0)),(6,.v (.int .i64 0))] [mk 1 43 (w25.map (cdL 1 (cdL 1 cdI)).enc)] ?_;refine AW ?_;have hq:=OI h; subst hq;exact ⟨⟨Fr 71 [(4,.sl 1 (w25.map (cdL 1 (cdL 1 cdI)).enc)),(5,.v (.int .i64 0)),(6,.v (.int .i64 0))],[]⟩,(Wk.trans (s1:=⟨Fr 71 [(4,.sl 1 (w25.map (cdL 1 (cdL 1 cdI)).enc)),(5,.v (.int .i64 0)),(6,.v (.int .i64 0))],[none]⟩) (FB 0 (.inl kr) ⟨.inl rfl,trivial⟩ ⟨⟨hd 0 (w25.map (cdL 1 (cdL 1 cdI)).enc),kr,OF (t:=43) kr Kh⟩,⟨.v (.int .i64 0),kr,.inl rfl⟩,⟨.v (.int .i64 0),kr,.inl rfl⟩,trivial⟩) (BP [] trivial ⟨lv,lv,lv,trivial⟩)),.inr rfl,[.sl 1 (w25.map (cdL 1 (cdL 1 cdI)).enc),.v (.int .i64 0),.v (.int .i64 0)],kr,kr⟩
   ·try dsimp only at h
    refine Ah (AY (s1:=⟨Fr 71 [(0,.v (.int .i64 x0)),(7,.sl 1 (v5.1.map cdS.enc)),(8,.v (.bool v5.2)),(9,hd 0 ([].map (cdL 1 (cdL 1 cdI)).enc)),(10,.v (.int .i64 0))],[mk 1 43 ([].map (cdL 1 (cdL 1 cdI)).enc)]⟩) (Wk.trans (s1:=⟨Fr 71 [(0,.v (.int .i64 x0)),(7,.sl 1 (v5.1.map cdS.enc)),(8,.v (.bool v5.2)),(9,hd 0 ([].map (cdL 1 (cdL 1 cdI)).enc)),(10,.v (.int .i64 0))],[mk 1 43 ([].map (cdL 1 (cdL 1 cdI)).enc)]⟩) Wk.none (BP [0] ⟨⟨_,rfl,Io⟩,trivial⟩ ⟨lv,lv,lv,lv,lv,trivial⟩)) (EX x0 v5 _ [] 0 _ hr24)) ?_;have hq:=OI h; subst hq;exact ⟨⟨Fr 71 [(4,.sl 1 ([].map (cdL 1 (cdL 1 cdI)).enc)),(5,.v (.int .i64 w26.1)),(6,.v (.int .i64 w26.2))],[]⟩,(Wk.trans (s1:=⟨Fr 71 [(4,.e0),(5,.v (.int .i64 w26.1)),(6,.v (.int .i64 w26.2))],[]⟩) AI (Wk.trans (s1:=⟨Fr 71 [(4,.e0),(5,.v (.int .i64 w26.1)),(6,.v (.int .i64 w26.2))],[none]⟩) Wk.none (Wk.trans (s1:=⟨Fr 71 [(4,.sl 1 ([].map (cdL 1 (cdL 1 cdI)).enc)),(5,.v (.int .i64 w26.1)),(6,.v (.int .i64 w26.2))],[none]⟩) (FB 0 (.inr kr) ⟨.inl rfl,trivial⟩ ⟨⟨.e0,kr,LE⟩,⟨.v (.int .i64 w26.1),kr,.inl rfl⟩,⟨.v (.int .i64 w26.2),kr,.inl rfl⟩,trivial⟩) (BP [] trivial ⟨lv,lv,lv,trivial⟩)))),.inr rfl,[.sl 1 ([].map (cdL 1 (cdL 1 cdI)).enc),.v (.int .i64 w26.1),.v (.int .i64 w26.2)],kr,kr⟩
def JD:List AV->Option AV:=Dz EI (fun a=>CZ a.1 a.2.1) EK
theorem JH:XOk 12 JD:=by
 refine BJ Tryd.func12 (c:=EH) ?h2 ⟨Tryd.call12⟩ EI (fun a=>CZ a.1 a.2.1) EK (fun a=>(by show 2<=71; decide)) ?h3 ?h4
 case h2=>kernel_rfl
 case h3=>intro b; kernel_rfl
 case h4=>exact fun a b h=>Hz a.1 a.2.1 b h
/- trestle/trestlekit.SameInts -/
noncomputable def Bf:Env:=E0
theorem DC:EnvOk Bf:=AC
noncomputable def Dk:Code:=B6 Tryd.f51
def BD (x0:(List Int)) (x1:(List Int)):Nat->Int->Option ((Unit) ⊕ (Bool))
 | 0,_=>none
 | f + 1,c2 =>
  if (decide (c2 < (x0.length:Int)))=true then
  (idx x0 c2).bind fun v4 =>
  (idx x1 c2).bind fun v5 =>
  if (v4 != v5)=true then
  some (.inr false)
  else
  BD x0 x1 f (wr .i64 (c2 + 1))
  else
  some (.inl ())
def Bv (x0:(List Int)) (x1:(List Int)):Option (Bool) :=
 if ((x0.length:Int)!=(x1.length:Int))=true then
 some false
 else
 (BD x0 x1 100000 0).bind fun r8 =>
 match r8 with
 | (.inl w9) =>
  some true
 | (.inr w10) =>
  some w10
def Cl:Cs ((List Int)×(List Int)×Unit):=(csC (cdL 1 cdI) (csC (cdL 1 cdI) csN))
def Cp (r:Bool):AV:=cdB.enc r
theorem EU (x0:(List Int)) (x1:(List Int)):∀ (f:Nat) (c2:Int) (r:(Unit) ⊕ (Bool)),BD x0 x1 f c2=some r->SemN Bf ⟨none,false⟩ (pc Dk [1,1,0,1,0,0]) f ⟨Fr 26 [(0,.sl 1 (x0.map cdI.enc)),(1,.sl 1 (x1.map cdI.enc)),(5,.v (.int .i64 c2))],[]⟩ (fun e s=>match r with
 | (.inl w)=>e=(.exit 0)/\Wk Bf s ⟨Fr 26 [],[]⟩
 | (.inr w)=>e = .ret/\Wk Bf s ⟨Fr 26 [(4,.v (.bool w))],[]⟩):=by
 have he:=DC
 intro f;induction f with
 | zero=>intro c2 r h; cases h
 | succ f ih0 =>
  intro c2 r h
  have ih:=fun (c2:Int)=>ih0 c2 r
  unfold BD at h;refine BM ?_;refine AD ?_;refine AD ?_
  let p1:Nat×AV:=(5,.v (.int .i64 c2))
  let p2:Nat×AV:=(1,.sl 1 (x1.map cdI.enc))
  let p3:Nat×AV:=(0,.sl 1 (x0.map cdI.enc))
  refine AG (s1:=⟨Fr 26 [p3,p2,p1,(14,.v (.bool (decide (c2 < (x0.length:Int)))))],[]⟩) ?_ ?_
  ·refine AB (n:=26) he 2 [p3,p2,p1,(11,.v (.int .i64 c2)),(12,.sl 1 (x0.map cdI.enc))] [] kr ?_
   refine AK he 0 rfl (Bu (AA rfl) rfl (B8 (a:= .sl 1 (x0.map cdI.enc)) kr (BT (el:=3) kr))) ?_;exact AQ he
  refine AP (b:=(decide (c2 < (x0.length:Int)))) kr (fun hb3=>?_) (fun hb3=>?_)
  ·rw [if_pos hb3] at h
   refine AT ?_;refine AD ?_;refine AU ?_;refine AD ?_;obtain ⟨v4,hv4,h⟩:=OB h;obtain ⟨v5,hv5,h⟩:=OB h;refine GK he (s1:=⟨Fr 26 [p3,p2,p1,(25,.v (.bool (v4 != v5)))],[]⟩) kr ?_ ?_
   ·refine Af (n:=26) he 2 [p3,p2,p1,(17,.sl 1 (x0.map cdI.enc)),(18,.v (.int .i64 c2))] [] kr kr ?_
    refine RunDS.one he rfl kr (HF kr (AA rfl) rfl (AO (a:= .sl 1 (x0.map cdI.enc)) (b:= .v (.int .i64 c2)) kr kr (Dq (e:=cdI.enc) (el:=3) (k:=1) (ki:= .i64) kr kr hv4)) kr) ?_;refine Af (n:=26) he 3 [p3,p2,p1,(20,.v (.int .i64 v4)),(21,.sl 1 (x1.map cdI.enc)),(22,.v (.int .i64 c2))] [] kr kr ?_;refine RunDS.one he rfl kr (HF kr (AA rfl) rfl (AO (a:= .sl 1 (x1.map cdI.enc)) (b:= .v (.int .i64 c2)) kr kr (Dq (e:=cdI.enc) (el:=3) (k:=1) (ki:= .i64) kr kr hv5)) kr) ?_;refine Af (n:=26) he 2 [p3,p2,p1,(25,.v (.bool (v4 != v5)))] [] kr kr ?_;exact RunDS.done rfl AI
   refine AP (b:=(v4 != v5)) kr (fun hb6=>?_) (fun hb6=>?_)
   ·rw [if_pos hb6] at h
    refine AN he [(4,.v (.bool false))] [] ?_;refine AW ?_;have hq:=OI h; subst hq;exact ⟨rfl,AI⟩
   ·rw [BL hb6] at h
    refine AT ?_
    let p4:Nat×AV:=(5,.v (.int .i64 (wr .i64 (c2 + 1))))
    refine CP he [p3,p2,p4] [] ?_;exact AY (s1:=⟨Fr 26 [p3,p2,p4],[]⟩) AI (ih (wr .i64 (c2 + 1)) h)
  ·rw [BL hb3] at h
   refine BW ?_;have hq:=OI h; subst hq;exact ⟨rfl,AI⟩
theorem HC (x0:(List Int)) (x1:(List Int)) (r:Bool) (h:Bv x0 x1=some r):Sem Bf ⟨none,false⟩ Dk ⟨Fr 26 (BA 0 (Cl.enc (x0,x1,()))),[]⟩ fun e s'=>(e = .normal\/e = .ret)/\∃ xs,EM Bf.P s'.fr s'.hp Tryd.f51.results.toList=some xs/\Ea xs=Cp r:=by
 have he:=DC
 unfold Bv at h
 let p1:Nat×AV:=(1,.sl 1 (x1.map cdI.enc))
 let p2:Nat×AV:=(0,.sl 1 (x0.map cdI.enc))
 refine Bq (CM (s1:=⟨Fr 26 [p2,p1],[]⟩) AI ?_);refine AN he [p2,p1] [] ?_;refine AD ?_;refine AD ?_;refine AG (s1:=⟨Fr 26 [p2,p1,(10,.v (.bool ((x0.length:Int)!=(x1.length:Int))))],[]⟩) ?_ ?_
 ·refine AB (n:=26) he 1 [p2,p1,(6,.sl 1 (x0.map cdI.enc))] [] kr ?_
  refine AK he 0 rfl (Bu (AA rfl) rfl (B8 (a:= .sl 1 (x0.map cdI.enc)) kr (BT (el:=3) kr))) ?_;refine AB (n:=26) he 1 [p2,p1,(7,.v (.int .i64 (x0.length:Int))),(8,.sl 1 (x1.map cdI.enc))] [] kr ?_;refine AK he 0 rfl (Bu (AA rfl) rfl (B8 (a:= .sl 1 (x1.map cdI.enc)) kr (BT (el:=3) kr))) ?_;exact AQ he
 refine AP (b:=((x0.length:Int)!=(x1.length:Int))) kr (fun hb1=>?_) (fun hb1=>?_)
 ·rw [if_pos hb1] at h
  refine AN he [(4,.v (.bool false))] [] ?_;refine AW ?_;have hq:=OI h; subst hq;exact ⟨⟨Fr 26 [(4,.v (.bool false))],[]⟩,AI,.inr rfl,[.v (.bool false)],kr,kr⟩
 ·rw [BL hb1] at h
  refine AT ?_;refine AD ?_
  let p3:Nat×AV:=(5,.v (.int .i64 0))
  refine AN he [p2,p1,p3] [] ?_;refine AU ?_;obtain ⟨r8,hr8,h⟩:=OB h;refine Bp (n:=100000) ?_;rcases r8 with w9 | w10
  ·try dsimp only at h
   refine Ah (AY (s1:=⟨Fr 26 [p2,p1,p3],[]⟩) AI (EU x0 x1 _ 0 _ hr8)) ?_;refine AN he [(4,.v (.bool true))] [] ?_;refine AW ?_;have hq:=OI h; subst hq;exact ⟨⟨Fr 26 [(4,.v (.bool true))],[]⟩,AI,.inr rfl,[.v (.bool true)],kr,kr⟩
  ·try dsimp only at h
   refine Ah (AY (s1:=⟨Fr 26 [p2,p1,p3],[]⟩) AI (EU x0 x1 _ 0 _ hr8)) ?_;have hq:=OI h; subst hq;exact ⟨⟨Fr 26 [(4,.v (.bool w10))],[]⟩,AI,.inr rfl,[.v (.bool w10)],kr,kr⟩
def Ft:List AV->Option AV:=Dz Cl (fun a=>Bv a.1 a.2.1) Cp
theorem Fv:XOk 51 Ft:=by
 refine EnvOk.x (E:=Bf) (CD DC (fn:=Tryd.f51) (c:=Dk) ?h1 ?h2 ⟨Tryd.call51⟩ Cl (fun a=>Bv a.1 a.2.1) Cp (fun a=>(by show 2<=26; decide)) ?h3 ?h4) rfl rfl
 case h1=>kernel_rfl
 case h2=>kernel_rfl
 case h3=>intro b; kernel_rfl
 case h4=>exact fun a b h=>HC a.1 a.2.1 b h
/- trestle/trestlekit.SameLists -/
noncomputable def BQ:Env:=(E0.withX 51 Ft)
theorem Co:EnvOk BQ:=(EnvOk.withX AC Fv.1 Fv.2)
noncomputable def DW:Code:=B6 Tryd.f31
def A7 (x0:(List (List Int))) (x1:(List (List Int))):Nat->Int->Option ((Unit) ⊕ (Bool))
 | 0,_=>none
 | f + 1,c2 =>
  if (decide (c2 < (x0.length:Int)))=true then
  (idx x0 c2).bind fun v4 =>
  (idx x1 c2).bind fun v5 =>
  (Bv v4 v5).bind fun v6 =>
  if (!v6)=true then
  some (.inr false)
  else
  A7 x0 x1 f (wr .i64 (c2 + 1))
  else
  some (.inl ())
def Bc (x0:(List (List Int))) (x1:(List (List Int))):Option (Bool) :=
 if ((x0.length:Int)!=(x1.length:Int))=true then
 some false
 else
 (A7 x0 x1 100000 0).bind fun r9 =>
 match r9 with
 | (.inl w10) =>
  some true
 | (.inr w11) =>
  some w11
def CV:Cs ((List (List Int))×(List (List Int))×Unit):=(csC (cdL 1 (cdL 1 cdI)) (csC (cdL 1 (cdL 1 cdI)) csN))
def CX (r:Bool):AV:=cdB.enc r
theorem EC (x0:(List (List Int))) (x1:(List (List Int))):∀ (f:Nat) (c2:Int) (r:(Unit) ⊕ (Bool)),A7 x0 x1 f c2=some r->SemN BQ ⟨none,false⟩ (pc DW [1,1,0,1,0,0]) f ⟨Fr 27 [(0,.sl 1 (x0.map (cdL 1 cdI).enc)),(1,.sl 1 (x1.map (cdL 1 cdI).enc)),(5,.v (.int .i64 c2))],[]⟩ (fun e s=>match r with
 | (.inl w)=>e=(.exit 0)/\Wk BQ s ⟨Fr 27 [],[]⟩
 | (.inr w)=>e = .ret/\Wk BQ s ⟨Fr 27 [(4,.v (.bool w))],[]⟩):=by
 have he:=Co
 intro f;induction f with
 | zero=>intro c2 r h; cases h
 | succ f ih0 =>
  intro c2 r h
  have ih:=fun (c2:Int)=>ih0 c2 r
  unfold A7 at h;refine BM ?_;refine AD ?_;refine AD ?_
  let p1:Nat×AV:=(5,.v (.int .i64 c2))
  let p2:Nat×AV:=(1,.sl 1 (x1.map (cdL 1 cdI).enc))
  let p3:Nat×AV:=(0,.sl 1 (x0.map (cdL 1 cdI).enc))
  refine AG (s1:=⟨Fr 27 [p3,p2,p1,(14,.v (.bool (decide (c2 < (x0.length:Int)))))],[]⟩) ?_ ?_
  ·refine AB (n:=27) he 2 [p3,p2,p1,(11,.v (.int .i64 c2)),(12,.sl 1 (x0.map (cdL 1 cdI).enc))] [] kr ?_
   refine AK he 0 rfl (Bu (AA rfl) rfl (B8 (a:= .sl 1 (x0.map (cdL 1 cdI).enc)) kr (BT (el:=27) kr))) ?_;exact AQ he
  refine AP (b:=(decide (c2 < (x0.length:Int)))) kr (fun hb3=>?_) (fun hb3=>?_)
  ·rw [if_pos hb3] at h
   refine AT ?_;refine AD ?_;refine AU ?_;refine AD ?_;obtain ⟨v4,hv4,h⟩:=OB h;obtain ⟨v5,hv5,h⟩:=OB h;obtain ⟨v6,hv6,h⟩:=OB h;refine GK he (s1:=⟨Fr 27 [p3,p2,p1,(26,.v (.bool (!v6)))],[]⟩) kr ?_ ?_
   ·refine Af (n:=27) he 2 [p3,p2,p1,(17,.sl 1 (x0.map (cdL 1 cdI).enc)),(18,.v (.int .i64 c2))] [] kr kr ?_
    refine RunDS.one he rfl kr (HF kr (AA rfl) rfl (AO (a:= .sl 1 (x0.map (cdL 1 cdI).enc)) (b:= .v (.int .i64 c2)) kr kr (Dq (e:=(cdL 1 cdI).enc) (el:=27) (k:=1) (ki:= .i64) kr kr hv4)) kr) ?_;refine Af (n:=27) he 3 [p3,p2,p1,(20,.sl 1 (v4.map cdI.enc)),(21,.sl 1 (x1.map (cdL 1 cdI).enc)),(22,.v (.int .i64 c2))] [] kr kr ?_;refine RunDS.one he rfl kr (HF kr (AA rfl) rfl (AO (a:= .sl 1 (x1.map (cdL 1 cdI).enc)) (b:= .v (.int .i64 c2)) kr kr (Dq (e:=(cdL 1 cdI).enc) (el:=27) (k:=1) (ki:= .i64) kr kr hv5)) kr) ?_;refine Af (n:=27) he 1 [p3,p2,p1,(20,.sl 1 (v4.map cdI.enc)),(24,.sl 1 (v5.map cdI.enc))] [] kr kr ?_;refine RunDS.call he (fid:=51) (s:=Cl) (F:=fun a=>Bv a.1 a.2.1) (er:=Cp) (xs:=[.sl 1 (v4.map cdI.enc),.sl 1 (v5.map cdI.enc)]) (a:=(v4,v5,())) rfl (AA rfl) kr kr kr (Sns.cons (Sn.enc (c:=(cdL 1 cdI)) (v:=v4)) (Sns.cons (Sn.enc (c:=(cdL 1 cdI)) (v:=v5)) Sns.nil)) kr hv6 ?_;refine Af (n:=27) he 1 [p3,p2,p1,(26,.v (.bool (!v6)))] [] kr kr ?_;exact RunDS.done rfl AI
   refine AP (b:=(!v6)) kr (fun hb7=>?_) (fun hb7=>?_)
   ·rw [if_pos hb7] at h
    refine AN he [(4,.v (.bool false))] [] ?_;refine AW ?_;have hq:=OI h; subst hq;exact ⟨rfl,AI⟩
   ·rw [BL hb7] at h
    refine AT ?_
    let p4:Nat×AV:=(5,.v (.int .i64 (wr .i64 (c2 + 1))))
    refine CP he [p3,p2,p4] [] ?_;exact AY (s1:=⟨Fr 27 [p3,p2,p4],[]⟩) AI (ih (wr .i64 (c2 + 1)) h)
  ·rw [BL hb3] at h
   refine BW ?_;have hq:=OI h; subst hq;exact ⟨rfl,AI⟩
theorem Gg (x0:(List (List Int))) (x1:(List (List Int))) (r:Bool) (h:Bc x0 x1=some r):Sem BQ ⟨none,false⟩ DW ⟨Fr 27 (BA 0 (CV.enc (x0,x1,()))),[]⟩ fun e s'=>(e = .normal\/e = .ret)/\∃ xs,EM BQ.P s'.fr s'.hp Tryd.f31.results.toList=some xs/\Ea xs=CX r:=by
 have he:=Co
 unfold Bc at h
 let p1:Nat×AV:=(1,.sl 1 (x1.map (cdL 1 cdI).enc))
 let p2:Nat×AV:=(0,.sl 1 (x0.map (cdL 1 cdI).enc))
 refine Bq (CM (s1:=⟨Fr 27 [p2,p1],[]⟩) AI ?_);refine AN he [p2,p1] [] ?_;refine AD ?_;refine AD ?_;refine AG (s1:=⟨Fr 27 [p2,p1,(10,.v (.bool ((x0.length:Int)!=(x1.length:Int))))],[]⟩) ?_ ?_
 ·refine AB (n:=27) he 1 [p2,p1,(6,.sl 1 (x0.map (cdL 1 cdI).enc))] [] kr ?_
  refine AK he 0 rfl (Bu (AA rfl) rfl (B8 (a:= .sl 1 (x0.map (cdL 1 cdI).enc)) kr (BT (el:=27) kr))) ?_;refine AB (n:=27) he 1 [p2,p1,(7,.v (.int .i64 (x0.length:Int))),(8,.sl 1 (x1.map (cdL 1 cdI).enc))] [] kr ?_;refine AK he 0 rfl (Bu (AA rfl) rfl (B8 (a:= .sl 1 (x1.map (cdL 1 cdI).enc)) kr (BT (el:=27) kr))) ?_;exact AQ he
 refine AP (b:=((x0.length:Int)!=(x1.length:Int))) kr (fun hb1=>?_) (fun hb1=>?_)
 ·rw [if_pos hb1] at h
  refine AN he [(4,.v (.bool false))] [] ?_;refine AW ?_;have hq:=OI h; subst hq;exact ⟨⟨Fr 27 [(4,.v (.bool false))],[]⟩,AI,.inr rfl,[.v (.bool false)],kr,kr⟩
 ·rw [BL hb1] at h
  refine AT ?_;refine AD ?_
  let p3:Nat×AV:=(5,.v (.int .i64 0))
  refine AN he [p2,p1,p3] [] ?_;refine AU ?_;obtain ⟨r9,hr9,h⟩:=OB h;refine Bp (n:=100000) ?_;rcases r9 with w10 | w11
  ·try dsimp only at h
   refine Ah (AY (s1:=⟨Fr 27 [p2,p1,p3],[]⟩) AI (EC x0 x1 _ 0 _ hr9)) ?_;refine AN he [(4,.v (.bool true))] [] ?_;refine AW ?_;have hq:=OI h; subst hq;exact ⟨⟨Fr 27 [(4,.v (.bool true))],[]⟩,AI,.inr rfl,[.v (.bool true)],kr,kr⟩
  ·try dsimp only at h
   refine Ah (AY (s1:=⟨Fr 27 [p2,p1,p3],[]⟩) AI (EC x0 x1 _ 0 _ hr9)) ?_;have hq:=OI h; subst hq;exact ⟨⟨Fr 27 [(4,.v (.bool w11))],[]⟩,AI,.inr rfl,[.v (.bool w11)],kr,kr⟩
def FV:List AV->Option AV:=Dz CV (fun a=>Bc a.1 a.2.1) CX
theorem FZ:XOk 31 FV:=by
 refine EnvOk.x (E:=BQ) (CD Co (fn:=Tryd.f31) (c:=DW) ?h1 ?h2 ⟨Tryd.call31⟩ CV (fun a=>Bc a.1 a.2.1) CX (fun a=>(by show 2<=27; decide)) ?h3 ?h4) rfl rfl
 case h1=>kernel_rfl
 case h2=>kernel_rfl
 case h3=>intro b; kernel_rfl
 case h4=>exact fun a b h=>Gg a.1 a.2.1 b h
/- trestle/trestlelaw09.Same$1 -/
noncomputable def DJ:Env:=(E0.withX 31 FV)
theorem ER:EnvOk DJ:=(EnvOk.withX AC FZ.1 FZ.2)
noncomputable def FC:Code:=B6 Tryd.f30
def CH (x0:(List (List Int))) (x1:(List (List Int))):Option (Bool) :=
 (Bc x0 x1).bind fun v1 =>
 some v1
def Cm:Cs ((List (List Int))×(List (List Int))×Unit):=(csC (cdL 1 (cdL 1 cdI)) (csC (cdL 1 (cdL 1 cdI)) csN))
def Cq (r:Bool):AV:=cdB.enc r
theorem HD (x0:(List (List Int))) (x1:(List (List Int))) (r:Bool) (h:CH x0 x1=some r):Sem DJ ⟨none,false⟩ FC ⟨Fr 8 (BA 0 (Cm.enc (x0,x1,()))),[]⟩ fun e s'=>(e = .normal\/e = .ret)/\∃ xs,EM DJ.P s'.fr s'.hp Tryd.f30.results.toList=some xs/\Ea xs=Cq r:=by
 have he:=ER
 unfold CH at h
 let p1:Nat×AV:=(1,.sl 1 (x1.map (cdL 1 cdI).enc))
 let p2:Nat×AV:=(0,.sl 1 (x0.map (cdL 1 cdI).enc))
 refine Bq (CM (s1:=⟨Fr 8 [p2,p1],[]⟩) AI ?_);refine AN he [p2,p1] [] ?_;refine AD ?_;obtain ⟨v1,hv1,h⟩:=OB h;refine AG (s1:=⟨Fr 8 [(4,.v (.bool v1))],[]⟩) ?_ ?_
 ·refine AB (n:=8) he 2 [(5,.sl 1 (x0.map (cdL 1 cdI).enc)),(6,.sl 1 (x1.map (cdL 1 cdI).enc))] [] kr ?_
  refine RunS.call he (fid:=31) (s:=CV) (F:=fun a=>Bc a.1 a.2.1) (er:=CX) (xs:=[.sl 1 (x0.map (cdL 1 cdI).enc),.sl 1 (x1.map (cdL 1 cdI).enc)]) (a:=(x0,x1,())) rfl (AA rfl) kr kr kr kr (Sns.cons (Sn.enc (c:=(cdL 1 (cdL 1 cdI))) (v:=x0)) (Sns.cons (Sn.enc (c:=(cdL 1 (cdL 1 cdI))) (v:=x1)) Sns.nil)) (.inl kr) hv1 ?_;exact AQ he
 refine AW ?_;have hq:=OI h; subst hq;exact ⟨⟨Fr 8 [(4,.v (.bool v1))],[]⟩,AI,.inr rfl,[.v (.bool v1)],kr,kr⟩
def Fu:List AV->Option AV:=Dz Cm (fun a=>CH a.1 a.2.1) Cq
theorem Fz:XOk 30 Fu:=by
 refine EnvOk.x (E:=DJ) (CD ER (fn:=Tryd.f30) (c:=FC) ?h1 ?h2 ⟨Tryd.call30⟩ Cm (fun a=>CH a.1 a.2.1) Cq (fun a=>(by show 2<=8; decide)) ?h3 ?h4) rfl rfl
 case h1=>kernel_rfl
 case h2=>kernel_rfl
 case h3=>intro b; kernel_rfl
 case h4=>exact fun a b h=>HD a.1 a.2.1 b h
/- slices.EqualFunc[[][][]int,[][][]int,[][]int,[][]int] -/
noncomputable def AL:Env:=(E0.withX 30 Fu)
theorem AZ:EnvOk AL:=(EnvOk.withX AC Fz.1 Fz.2)
noncomputable def Ab:Code:=B6 Tryd.f29
def AE (x0:(List (List (List Int)))) (x1:(List (List (List Int)))):Nat->Int->Option ((Unit) ⊕ (Bool))
 | 0,_=>none
 | f + 1,c2 =>
  if (decide (c2 < (x0.length:Int)))=true then
  (idx x0 c2).bind fun v4 =>
  (idx x1 c2).bind fun v5 =>
  (CH v4 v5).bind fun v6 =>
  if (!v6)=true then
  some (.inr false)
  else
  AE x0 x1 f (wr .i64 (c2 + 1))
  else
  some (.inl ())
def AR (x0:(List (List (List Int)))) (x1:(List (List (List Int)))):Option (Bool) :=
 if ((x0.length:Int)!=(x1.length:Int))=true then
 some false
 else
 (AE x0 x1 100000 0).bind fun r9 =>
 match r9 with
 | (.inl w10) =>
  some true
 | (.inr w11) =>
  some w11
def Ay (r:Bool):AV:=cdB.enc r
theorem Ao (x0:(List (List (List Int)))) (x1:(List (List (List Int)))):∀ (f:Nat) (c2:Int) (r:(Unit) ⊕ (Bool)),AE x0 x1 f c2=some r->SemN AL ⟨none,false⟩ (pc Ab [1,1,0,1,0,0]) f ⟨Fr 32 [(1,.sl 1 (x1.map (cdL 1 (cdL 1 cdI)).enc)),(2,.fn 30 [] []),(15,.sl 1 (x0.map (cdL 1 (cdL 1 cdI)).enc)),(16,.v (.int .i64 (x0.length:Int))),(17,.v (.int .i64 c2))],[]⟩ (fun e s=>match r with
 | (.inl w)=>e=(.exit 0)/\Wk AL s ⟨Fr 32 [],[]⟩
 | (.inr w)=>e = .ret/\Wk AL s ⟨Fr 32 [(6,.v (.bool w))],[]⟩):=by
 have he:=AZ
 intro f;induction f with
 | zero=>intro c2 r h; cases h
 | succ f ih0 =>
  intro c2 r h
  have ih:=fun (c2:Int)=>ih0 c2 r
  unfold AE at h;refine BM ?_
  let p1:Nat×AV:=(17,.v (.int .i64 c2))
  let p2:Nat×AV:=(16,.v (.int .i64 (x0.length:Int)))
  let p3:Nat×AV:=(15,.sl 1 (x0.map (cdL 1 (cdL 1 cdI)).enc))
  let p4:Nat×AV:=(2,.fn 30 [] [])
  let p5:Nat×AV:=(1,.sl 1 (x1.map (cdL 1 (cdL 1 cdI)).enc))
  refine AN he [p5,p4,p3,p2,p1,(18,.v (.bool (decide (c2 < (x0.length:Int)))))] [] ?_;refine AD ?_;refine AP (b:=(decide (c2 < (x0.length:Int)))) kr (fun hb3=>?_) (fun hb3=>?_)
  ·rw [if_pos hb3] at h
   refine AT ?_;refine AD ?_;refine AU ?_;refine AD ?_;obtain ⟨v4,hv4,h⟩:=OB h
   let p6:Nat×AV:=(8,.sl 1 (v4.map (cdL 1 cdI).enc))
   refine AG (s1:=⟨Fr 32 [p5,p4,(7,.v (.int .i64 c2)),p6,p3,p2,p1],[]⟩) ?_ ?_
   ·refine AB (n:=32) he 1 [p5,p4,p3,p2,p1,(19,.v (.int .i64 c2))] [] kr ?_
    refine AK he 0 rfl (Bu (AA rfl) rfl (AO (a:= .sl 1 (x0.map (cdL 1 (cdL 1 cdI)).enc)) (b:= .v (.int .i64 c2)) kr kr (Dq (e:=(cdL 1 (cdL 1 cdI)).enc) (el:=43) (k:=1) (ki:= .i64) kr kr hv4))) ?_;exact AQ he
   refine AD ?_;obtain ⟨v5,hv5,h⟩:=OB h;refine AG (s1:=⟨Fr 32 [p5,p4,p6,(9,.sl 1 (v5.map (cdL 1 cdI).enc)),p3,p2,p1],[]⟩) ?_ ?_
   ·refine AB (n:=32) he 2 [p5,p4,p6,p3,p2,p1,(22,.sl 1 (x1.map (cdL 1 (cdL 1 cdI)).enc)),(23,.v (.int .i64 c2))] [] kr ?_
    refine AK he 0 rfl (Bu (AA rfl) rfl (AO (a:= .sl 1 (x1.map (cdL 1 (cdL 1 cdI)).enc)) (b:= .v (.int .i64 c2)) kr kr (Dq (e:=(cdL 1 (cdL 1 cdI)).enc) (el:=43) (k:=1) (ki:= .i64) kr kr hv5))) ?_;exact AQ he
   refine AD ?_;obtain ⟨v6,hv6,h⟩:=OB h;refine AG (s1:=⟨Fr 32 [p5,p4,p3,p2,p1,(30,.v (.bool (!v6)))],[]⟩) ?_ ?_
   ·refine AB (n:=32) he 3 [p5,p4,p3,p2,p1,(26,.fn 30 [] []),(27,.sl 1 (v4.map (cdL 1 cdI).enc)),(28,.sl 1 (v5.map (cdL 1 cdI).enc))] [] kr ?_
    refine RunS.call he (fid:=30) (s:=Cm) (F:=fun a=>CH a.1 a.2.1) (er:=Cq) (xs:=[.sl 1 (v4.map (cdL 1 cdI).enc),.sl 1 (v5.map (cdL 1 cdI).enc)]) (a:=(v4,v5,())) rfl (AA rfl) kr kr kr kr (Sns.cons (Sn.enc (c:=(cdL 1 (cdL 1 cdI))) (v:=v4)) (Sns.cons (Sn.enc (c:=(cdL 1 (cdL 1 cdI))) (v:=v5)) Sns.nil)) (.inl kr) hv6 ?_;exact AQ he
   refine AP (b:=(!v6)) kr (fun hb7=>?_) (fun hb7=>?_)
   ·rw [if_pos hb7] at h
    refine AN he [(6,.v (.bool false))] [] ?_;refine AW ?_;have hq:=OI h; subst hq;exact ⟨rfl,AI⟩
   ·rw [BL hb7] at h
    refine AT ?_
    let p7:Nat×AV:=(17,.v (.int .i64 (wr .i64 (c2 + 1))))
    refine CP he [p5,p4,p3,p2,p7] [] ?_;exact AY (s1:=⟨Fr 32 [p5,p4,p3,p2,p7],[]⟩) AI (ih (wr .i64 (c2 + 1)) h)
  ·rw [BL hb3] at h
   refine BW ?_;have hq:=OI h; subst hq;exact ⟨rfl,AI⟩
theorem Bd (x0:(List (List (List Int)))) (x1:(List (List (List Int)))) (r:Bool) (h:AR x0 x1=some r):Sem AL ⟨none,false⟩ Ab ⟨Fr 32 (BA 0 [.sl 1 (x0.map (cdL 1 (cdL 1 cdI)).enc),.sl 1 (x1.map (cdL 1 (cdL 1 cdI)).enc),.fn 30 [] []]),[]⟩ fun e s'=>(e = .normal\/e = .ret)/\∃ xs,EM AL.P s'.fr s'.hp Tryd.f29.results.toList=some xs/\(Ea xs=Ay r/\s'.hp=[]):=by
 have he:=AZ
 unfold AR at h
 let p1:Nat×AV:=(2,.fn 30 [] [])
 let p2:Nat×AV:=(1,.sl 1 (x1.map (cdL 1 (cdL 1 cdI)).enc))
 let p3:Nat×AV:=(0,.sl 1 (x0.map (cdL 1 (cdL 1 cdI)).enc))
 refine Bq (CM (s1:=⟨Fr 32 [p3,p2,p1],[]⟩) AI ?_);refine AN he [p3,p2,p1] [] ?_;refine AD ?_;refine AD ?_;refine AG (s1:=⟨Fr 32 [p3,p2,p1,(14,.v (.bool ((x0.length:Int)!=(x1.length:Int))))],[]⟩) ?_ ?_
 ·refine AB (n:=32) he 1 [p3,p2,p1,(10,.sl 1 (x0.map (cdL 1 (cdL 1 cdI)).enc))] [] kr ?_
  refine AK he 0 rfl (Bu (AA rfl) rfl (B8 (a:= .sl 1 (x0.map (cdL 1 (cdL 1 cdI)).enc)) kr (BT (el:=43) kr))) ?_;refine AB (n:=32) he 1 [p3,p2,p1,(11,.v (.int .i64 (x0.length:Int))),(12,.sl 1 (x1.map (cdL 1 (cdL 1 cdI)).enc))] [] kr ?_;refine AK he 0 rfl (Bu (AA rfl) rfl (B8 (a:= .sl 1 (x1.map (cdL 1 (cdL 1 cdI)).enc)) kr (BT (el:=43) kr))) ?_;exact AQ he
 refine AP (b:=((x0.length:Int)!=(x1.length:Int))) kr (fun hb1=>?_) (fun hb1=>?_)
 ·rw [if_pos hb1] at h
  refine AN he [(6,.v (.bool false))] [] ?_;refine AW ?_;have hq:=OI h; subst hq;exact ⟨⟨Fr 32 [(6,.v (.bool false))],[]⟩,AI,.inr rfl,[.v (.bool false)],kr,⟨kr,rfl⟩⟩
 ·rw [BL hb1] at h
  refine AT ?_;refine AD ?_;refine AD ?_
  let p4:Nat×AV:=(17,.v (.int .i64 0))
  let p5:Nat×AV:=(16,.v (.int .i64 (x0.length:Int)))
  let p6:Nat×AV:=(15,.sl 1 (x0.map (cdL 1 (cdL 1 cdI)).enc))
  refine AG (s1:=⟨Fr 32 [p2,p1,p6,p5,p4],[]⟩) ?_ ?_
  ·refine AB (n:=32) he 1 [p2,p1,p6] [] kr ?_
   refine AK he 0 rfl (Bu (AA rfl) rfl (B8 (a:= .sl 1 (x0.map (cdL 1 (cdL 1 cdI)).enc)) kr (BT (el:=43) kr))) ?_;exact AQ he
  refine AU ?_;obtain ⟨r9,hr9,h⟩:=OB h;refine Bp (n:=100000) ?_;rcases r9 with w10 | w11
  ·try dsimp only at h
   refine Ah (AY (s1:=⟨Fr 32 [p2,p1,p6,p5,p4],[]⟩) AI (Ao x0 x1 _ 0 _ hr9)) ?_;refine AN he [(6,.v (.bool true))] [] ?_;refine AW ?_;have hq:=OI h; subst hq;exact ⟨⟨Fr 32 [(6,.v (.bool true))],[]⟩,AI,.inr rfl,[.v (.bool true)],kr,⟨kr,rfl⟩⟩
  ·try dsimp only at h
   refine Ah (AY (s1:=⟨Fr 32 [p2,p1,p6,p5,p4],[]⟩) AI (Ao x0 x1 _ 0 _ hr9)) ?_;have hq:=OI h; subst hq;exact ⟨⟨Fr 32 [(6,.v (.bool w11))],[]⟩,AI,.inr rfl,[.v (.bool w11)],kr,⟨kr,rfl⟩⟩
theorem Bo (x0:(List (List (List Int)))) (x1:(List (List (List Int)))) (r:Bool) (h:AR x0 x1=some r):SOk 29 [.sl 1 (x0.map (cdL 1 (cdL 1 cdI)).enc),.sl 1 (x1.map (cdL 1 (cdL 1 cdI)).enc),.fn 30 [] []] (fun x h'=>x=Ay r/\h'=[]) :=
 LU AZ rfl rfl (fn:=Tryd.f29) (c:=Ab) kr kr ⟨Tryd.call29⟩ (by show 3<=32; decide) (Bd x0 x1 r h)
/- trestle/trestlelaw09.Same -/
noncomputable def D7:Env:=E0
theorem FF:EnvOk D7:=AC
noncomputable def GN:Code:=B6 Tryd.f10
def CL (x0:(List (List (List Int)))) (x1:(List (List (List Int)))):Option (Bool) :=
 (AR x0 x1).bind fun v1 =>
 some v1
def Ef:Cs ((List (List (List Int)))×(List (List (List Int)))×Unit):=(csC (cdL 1 (cdL 1 (cdL 1 cdI))) (csC (cdL 1 (cdL 1 (cdL 1 cdI))) csN))
def Eh (r:Bool):AV:=cdB.enc r
theorem IP (x0:(List (List (List Int)))) (x1:(List (List (List Int)))) (r:Bool) (h:CL x0 x1=some r):Sem D7 ⟨none,false⟩ GN ⟨Fr 8 (BA 0 (Ef.enc (x0,x1,()))),[]⟩ fun e s'=>(e = .normal\/e = .ret)/\∃ xs,EM D7.P s'.fr s'.hp Tryd.f10.results.toList=some xs/\Ea xs=Eh r:=by
 have he:=FF
 unfold CL at h
 let p1:Nat×AV:=(1,.sl 1 (x1.map (cdL 1 (cdL 1 cdI)).enc))
 let p2:Nat×AV:=(0,.sl 1 (x0.map (cdL 1 (cdL 1 cdI)).enc))
 refine Bq (CM (s1:=⟨Fr 8 [p2,p1],[]⟩) AI ?_);refine AN he [p2,p1] [] ?_;refine AD ?_;obtain ⟨v1,hv1,h⟩:=OB h;refine AG (s1:=⟨Fr 8 [(4,.v (.bool v1))],[]⟩) ?_ ?_
 ·refine AB (n:=8) he 2 [(5,.sl 1 (x0.map (cdL 1 (cdL 1 cdI)).enc)),(6,.sl 1 (x1.map (cdL 1 (cdL 1 cdI)).enc))] [] kr ?_
  refine K2 rfl rfl (Bo x0 x1 _ hv1) rfl (AA rfl) kr (xs:=[.sl 1 (x0.map (cdL 1 (cdL 1 cdI)).enc),.sl 1 (x1.map (cdL 1 (cdL 1 cdI)).enc),.fn 30 [] []]) kr kr (by rintro x h' ⟨rfl,rfl⟩; exact ⟨rfl,rfl⟩) ?_;rintro x h' ⟨rfl,rfl⟩;exact AQ he
 refine AW ?_;have hq:=OI h; subst hq;exact ⟨⟨Fr 8 [(4,.v (.bool v1))],[]⟩,AI,.inr rfl,[.v (.bool v1)],kr,kr⟩
def Jl:List AV->Option AV:=Dz Ef (fun a=>CL a.1 a.2.1) Eh
theorem Jt:XOk 10 Jl:=by
 refine EnvOk.x (E:=D7) (CD FF (fn:=Tryd.f10) (c:=GN) ?h1 ?h2 ⟨Tryd.call10⟩ Ef (fun a=>CL a.1 a.2.1) Eh (fun a=>(by show 2<=8; decide)) ?h3 ?h4) rfl rfl
 case h1=>kernel_rfl
 case h2=>kernel_rfl
 case h3=>intro b; kernel_rfl
 case h4=>exact fun a b h=>IP a.1 a.2.1 b h
/- trestle/trestlelaw09.parses -/
noncomputable def FD:Code:=B6 Tryd.f5
def Bw (x0:Int) (x1:(List UInt8)):Option (Bool) :=
 (Bz x0 x1).bind fun v1 =>
 (CZ x0 x1).bind fun v2 =>
 (CL v1.1 v2.1).bind fun v3 =>
 (if v3=true then if (v1.2.1==v2.2.1)=true then some (v1.2.2==v2.2.2) else some false else some false).bind fun j5 =>
 some j5
def Dl:Cs (Int×(List UInt8)×Unit):=(csC cdI (csC cdS csN))
def Do (r:Bool):AV:=cdB.enc r
theorem HE (x0:Int) (x1:(List UInt8)) (r:Bool) (h:Bw x0 x1=some r):Sem E0 ⟨none,false⟩ FD ⟨Fr 38 (BA 0 (Dl.enc (x0,x1,()))),[]⟩ fun e s'=>(e = .normal\/e = .ret)/\∃ xs,EM E0.P s'.fr s'.hp Tryd.f5.results.toList=some xs/\Ea xs=Do r:=by
 unfold Bw at h;refine Bq (CM (s1:=⟨Fr 38 [(0,.v (.int .i64 x0)),(1,.st x1)],[]⟩) AI ?_);refine AN AC [(0,.v (.int .i64 x0)),(1,.st x1)] [] ?_;refine AD ?_;obtain ⟨v1,hv1,h⟩:=OB h;refine AG (s1:=⟨Fr 38 [(0,.v (.int .i64 x0)),(1,.st x1),(5,.sl 1 (v1.1.map (cdL 1 (cdL 1 cdI)).enc)),(6,.v (.int .i64 v1.2.1)),(7,.v (.int .i64 v1.2.2))],[]⟩) ?_ ?_
 ·refine AB (n:=38) AC 2 [(0,.v (.int .i64 x0)),(1,.st x1),(12,.v (.int .i64 x0)),(13,.st x1)] [] kr ?_
  refine Am (caps:=[]) (xs:=[.v (.int .i64 x0),.st x1]) (u:=(x0,x1,())) rfl rfl IC rfl (AA rfl) kr kr (A4 (BX (c:=cdI) (v:=x0)) (A4 (BX (c:=cdS) (v:=x1)) Ch)) (.inr kr) hv1 ?_;exact AQ AC
 refine AD ?_;obtain ⟨v2,hv2,h⟩:=OB h;refine AG (s1:=⟨Fr 38 [(5,.sl 1 (v1.1.map (cdL 1 (cdL 1 cdI)).enc)),(6,.v (.int .i64 v1.2.1)),(7,.v (.int .i64 v1.2.2)),(8,.sl 1 (v2.1.map (cdL 1 (cdL 1 cdI)).enc)),(9,.v (.int .i64 v2.2.1)),(10,.v (.int .i64 v2.2.2))],[]⟩) ?_ ?_
 ·refine AB (n:=38) AC 2 [(5,.sl 1 (v1.1.map (cdL 1 (cdL 1 cdI)).enc)),(6,.v (.int .i64 v1.2.1)),(7,.v (.int .i64 v1.2.2)),(19,.v (.int .i64 x0)),(20,.st x1)] [] kr ?_
  refine Am (caps:=[]) (xs:=[.v (.int .i64 x0),.st x1]) (u:=(x0,x1,())) rfl rfl JH rfl (AA rfl) kr kr (A4 (BX (c:=cdI) (v:=x0)) (A4 (BX (c:=cdS) (v:=x1)) Ch)) (.inr kr) hv2 ?_;exact AQ AC
 refine AD ?_;obtain ⟨v3,hv3,h⟩:=OB h;obtain ⟨j5,hj5,h⟩:=OB h;refine AG (s1:=⟨Fr 38 [(4,.v (.bool j5))],[]⟩) ?_ ?_
 ·refine AB (n:=38) AC 2 [(6,.v (.int .i64 v1.2.1)),(7,.v (.int .i64 v1.2.2)),(9,.v (.int .i64 v2.2.1)),(10,.v (.int .i64 v2.2.2)),(25,.sl 1 (v1.1.map (cdL 1 (cdL 1 cdI)).enc)),(26,.sl 1 (v2.1.map (cdL 1 (cdL 1 cdI)).enc))] [] kr ?_
  refine Am (caps:=[]) (xs:=[.sl 1 (v1.1.map (cdL 1 (cdL 1 cdI)).enc),.sl 1 (v2.1.map (cdL 1 (cdL 1 cdI)).enc)]) (u:=(v1.1,v2.1,())) rfl rfl Jt rfl (AA rfl) kr kr (A4 (BX (c:=(cdL 1 (cdL 1 (cdL 1 cdI)))) (v:=v1.1)) (A4 (BX (c:=(cdL 1 (cdL 1 (cdL 1 cdI)))) (v:=v2.1)) Ch)) (.inl kr) hv3 ?_;refine AB (n:=38) AC 1 [(6,.v (.int .i64 v1.2.1)),(7,.v (.int .i64 v1.2.2)),(9,.v (.int .i64 v2.2.1)),(10,.v (.int .i64 v2.2.2)),(28,.v (.bool v3))] [] kr ?_;rcases BE v3 with hc6 | hc6
  ·rw [if_pos hc6] at hj5
   rw [hc6];refine AB (n:=38) AC 5 [(7,.v (.int .i64 v1.2.2)),(10,.v (.int .i64 v2.2.2)),(33,.v (.bool (v1.2.1==v2.2.1)))] [] kr ?_;rcases BE (v1.2.1==v2.2.1) with hc7 | hc7
   ·rw [if_pos hc7] at hj5
    rw [hc7];refine AB (n:=38) AC 5 [(4,.v (.bool (v1.2.2==v2.2.2)))] [] kr ?_;have hq:=OI hj5; subst hq;exact AJ rfl AI
   ·rw [BL hc7] at hj5
    rw [hc7];refine AB (n:=38) AC 5 [(4,.v (.bool false))] [] kr ?_;have hq:=OI hj5; subst hq;exact AJ rfl AI
  ·rw [BL hc6] at hj5
   rw [hc6];refine AB (n:=38) AC 10 [(4,.v (.bool false))] [] kr ?_;have hq:=OI hj5; subst hq;exact AJ rfl AI
 refine AW ?_;have hq:=OI h; subst hq;exact ⟨⟨Fr 38 [(4,.v (.bool j5))],[]⟩,AI,.inr rfl,[.v (.bool j5)],kr,kr⟩
def IR:List AV->Option AV:=Dz Dl (fun a=>Bw a.1 a.2.1) Do
theorem F0:XOk 5 IR:=by
 refine BJ Tryd.func5 (c:=FD) ?h2 ⟨Tryd.call5⟩ Dl (fun a=>Bw a.1 a.2.1) Do (fun a=>(by show 2<=38; decide)) ?h3 ?h4
 case h2=>kernel_rfl
 case h3=>intro b; kernel_rfl
 case h4=>exact fun a b h=>HE a.1 a.2.1 b h
/- trestle/trestlelaw09.EveningParses -/
noncomputable def C4:Code:=B6 Tryd.f3
def A2 (x0:Int) (x1:(List UInt8)):Option (Bool) :=
 (if (decide ((x1.length:Int) > 2000))=true then if (decide ((x1.length:Int)<=65536))=true then Du.bind fun v1 =>
 some v1 else (Bw x0 x1).bind fun v2 =>
 if v2=true then Du.bind fun v3 =>
 some v3 else some false else (Bw x0 x1).bind fun v4 =>
 if v4=true then Du.bind fun v5 =>
 some v5 else some false).bind fun j7 =>
 some j7
def A9:Cs (Int×(List UInt8)×Unit):=(csC cdI (csC cdS csN))
def BU (r:Bool):AV:=cdB.enc r
theorem Ek (x0:Int) (x1:(List UInt8)) (r:Bool) (h:A2 x0 x1=some r):Sem E0 ⟨none,false⟩ C4 ⟨Fr 21 (BA 0 (A9.enc (x0,x1,()))),[]⟩ fun e s'=>(e = .normal\/e = .ret)/\∃ xs,EM E0.P s'.fr s'.hp Tryd.f3.results.toList=some xs/\Ea xs=BU r:=by
 unfold A2 at h;refine Bq (CM (s1:=⟨Fr 21 [(0,.v (.int .i64 x0)),(1,.st x1)],[]⟩) AI ?_);refine AN AC [(0,.v (.int .i64 x0)),(1,.st x1)] [] ?_;refine AD ?_;obtain ⟨j7,hj7,h⟩:=OB h;refine AG (s1:=⟨Fr 21 [(4,.v (.bool j7))],[]⟩) ?_ ?_
 ·refine AB (n:=21) AC 4 [(0,.v (.int .i64 x0)),(1,.st x1),(8,.v (.bool (decide ((x1.length:Int) > 2000))))] [] kr ?_
  rcases BE (decide ((x1.length:Int) > 2000)) with hc8 | hc8
  ·rw [if_pos hc8] at hj7
   rw [hc8];refine AB (n:=21) AC 5 [(0,.v (.int .i64 x0)),(1,.st x1),(13,.v (.bool (decide ((x1.length:Int)<=65536))))] [] kr ?_;rcases BE (decide ((x1.length:Int)<=65536)) with hc9 | hc9
   ·rw [if_pos hc9] at hj7
    rw [hc9];refine AB (n:=21) AC 5 [(18,.v (.bool true))] [] kr ?_;obtain ⟨v1,hv1,hj7⟩:=OB hj7;refine Am (caps:=[]) (xs:=[]) (u:=(())) rfl rfl Es rfl kr kr kr Ch (.inl kr) hv1 ?_;refine AB (n:=21) AC 2 [(4,.v (.bool v1))] [] kr ?_;have hq:=OI hj7; subst hq;exact AJ rfl AI
   ·rw [BL hc9] at hj7
    rw [hc9];refine AB (n:=21) AC 2 [(13,.v (.bool false)),(14,.v (.int .i64 x0)),(15,.st x1)] [] kr ?_;obtain ⟨v2,hv2,hj7⟩:=OB hj7;refine Am (caps:=[]) (xs:=[.v (.int .i64 x0),.st x1]) (u:=(x0,x1,())) rfl rfl F0 rfl kr kr kr (A4 (BX (c:=cdI) (v:=x0)) (A4 (BX (c:=cdS) (v:=x1)) Ch)) (.inl kr) hv2 ?_;refine AB (n:=21) AC 2 [(18,.v (.bool v2))] [] kr ?_;rcases BE v2 with hc10 | hc10
    ·rw [if_pos hc10] at hj7
     rw [hc10];obtain ⟨v3,hv3,hj7⟩:=OB hj7;refine Am (caps:=[]) (xs:=[]) (u:=(())) rfl rfl Es rfl kr kr kr Ch (.inl kr) hv3 ?_;refine AB (n:=21) AC 2 [(4,.v (.bool v3))] [] kr ?_;have hq:=OI hj7; subst hq;exact AJ rfl AI
    ·rw [BL hc10] at hj7
     rw [hc10];refine AB (n:=21) AC 3 [(4,.v (.bool false))] [] kr ?_;have hq:=OI hj7; subst hq;exact AJ rfl AI
  ·rw [BL hc8] at hj7
   rw [hc8];refine AB (n:=21) AC 7 [(13,.v (.bool false)),(14,.v (.int .i64 x0)),(15,.st x1)] [] kr ?_;obtain ⟨v4,hv4,hj7⟩:=OB hj7;refine Am (caps:=[]) (xs:=[.v (.int .i64 x0),.st x1]) (u:=(x0,x1,())) rfl rfl F0 rfl kr kr kr (A4 (BX (c:=cdI) (v:=x0)) (A4 (BX (c:=cdS) (v:=x1)) Ch)) (.inl kr) hv4 ?_;refine AB (n:=21) AC 2 [(18,.v (.bool v4))] [] kr ?_;rcases BE v4 with hc11 | hc11
   ·rw [if_pos hc11] at hj7
    rw [hc11];obtain ⟨v5,hv5,hj7⟩:=OB hj7;refine Am (caps:=[]) (xs:=[]) (u:=(())) rfl rfl Es rfl kr kr kr Ch (.inl kr) hv5 ?_;refine AB (n:=21) AC 2 [(4,.v (.bool v5))] [] kr ?_;have hq:=OI hj7; subst hq;exact AJ rfl AI
   ·rw [BL hc11] at hj7
    rw [hc11];refine AB (n:=21) AC 3 [(4,.v (.bool false))] [] kr ?_;have hq:=OI hj7; subst hq;exact AJ rfl AI
 refine AW ?_;have hq:=OI h; subst hq;exact ⟨⟨Fr 21 [(4,.v (.bool j7))],[]⟩,AI,.inr rfl,[.v (.bool j7)],kr,kr⟩
def FW:List AV->Option AV:=Dz A9 (fun a=>A2 a.1 a.2.1) BU
theorem Fa:XOk 3 FW:=by
 refine BJ Tryd.func3 (c:=C4) ?h2 ⟨Tryd.call3⟩ A9 (fun a=>A2 a.1 a.2.1) BU (fun a=>(by show 2<=21; decide)) ?h3 ?h4
 case h2=>kernel_rfl
 case h3=>intro b; kernel_rfl
 case h4=>exact fun a b h=>Ek a.1 a.2.1 b h
theorem Fl {n:Int}(h1 : -9223372036854775808<=n) (h2:n<=9223372036854775807):wr .i64 n=n:=by
 show (if _ then n else _)=n
 rw [if_pos ⟨h1,h2⟩]
theorem Bi {α:Type}(pre:List α) (v:α) (r:List α):idx (pre++v::r) (pre.length:Int)=some v:=by
 unfold idx
 rw [if_pos (by omega)]
 simp
theorem Jb {α:Type}{xs:List α}{i:Nat}(h:i < xs.length):idx xs (i:Int)=some xs[i]:=by
 unfold idx
 rw [if_pos (by omega)]
 simp [h]
theorem HZ {α:Type}(pre:List α) (v:α):((pre.length:Int) + 1)=((pre++[v]).length:Int):=by simp
theorem FY {α:Type}(pre:List α) (v:α) (r:List α) (h:(pre++v::r).length<=1000000000):wr .i64 ((pre.length:Int) + 1)=((pre++[v]).length:Int):=by
 simp at h
 rw [Fl (by omega) (by omega)]; simp
theorem FO {α:Type}(pre:List α) (v:α) (r:List α):decide ((pre.length:Int) < ((pre++v::r).length:Int))=true:=by
 simp; omega
theorem GC {α:Type}(pre:List α):decide ((pre.length:Int) < ((pre++[]).length:Int))=false:=by simp
theorem Cj {b n:Nat}(hb:b<=1000) (h:n<=1000000000):CK b n=true:=by
 have h1:n * b<=1000000000 * 1000:=Nat.mul_le_mul h hb
 unfold CK
 rw [Bool.and_eq_true]
 exact ⟨Nat.ble_eq_true_of_le (by omega),Nat.ble_eq_true_of_le (by omega)⟩
/-- How often a number sits on an evening. -/
theorem KP (ev:List (List Int)) (x c2:Int) (t:List Int) (ht:idx ev c2=some t) (hl:t.length<=50000):∀ (r pre:List Int) (f:Nat) (c:Int),t=pre++r->r.length < f->0<=c->c + r.length<=1000000->B4 ev x c2 f c pre.length=some (c + (r.count x:Int))
 | [],pre,f + 1,c,h,_,_,_=>by
  unfold B4
  rw [ht]
  subst h
  simp only [OS]
  rw [GC]
  simp
 | v::r,pre,f + 1,c,h,hf,h0,h1=>by
  unfold B4
  rw [ht]
  simp only [List.length_cons] at h1
  by_cases hv:v=x
  ·have ih:=KP ev x c2 t ht hl r (pre++[v]) f (c + 1) (by rw [h]; simp) (by simp at hf; omega) (by omega) (by omega)
   subst h hv
   simp only [OS]
   rw [if_pos (FO pre v r),Bi]
   simp only [OS,CU,beq_self_eq_true,if_true]
   rw [FY pre v r (by omega),Fl (by omega) (by omega),ih,List.count_cons_self]
   congr 1; omega
  ·have ih:=KP ev x c2 t ht hl r (pre++[v]) f c (by rw [h]; simp) (by simp at hf; omega) (by omega) (by omega)
   have hb:(v==x)=false:=by simpa using hv
   subst h
   simp only [OS]
   rw [if_pos (FO pre v r),Bi]
   simp only [OS,CU,hb,Bool.false_eq_true,if_false]
   rw [FY pre v r (by omega),ih,List.count_cons_of_ne hv]
theorem KE {α:Type}:∀ {ev:List (List α)}{t:List α},t ∈ ev->t.length<=ev.flatten.length
 | a::ev,t,h=>by
  simp only [List.flatten_cons,List.length_append]
  rcases List.mem_cons.1 h with rfl | h
  ·omega
  ·have:=KE h; omega
theorem Ky (ev:List (List Int)) (x:Int) (hl:ev.length<=50000) (hfl:ev.flatten.length<=50000):Bj ev x=some (ev.flatten.count x:Int):=by
 unfold Bj
 have hm:∀ t ∈ ev,t.length<=50000:=fun t ht=>by
  have:=KE ht; omega
 have key:∀ (r pre:List (List Int)) (f:Nat) (c:Int),ev=pre++r->r.length < f->0<=c->c + r.flatten.length<=50000->B3 ev x f c pre.length=some (c + (r.flatten.count x:Int)):=by
  intro r
  induction r with
  | nil =>
   intro pre f c h hf h0 h1
   obtain ⟨f,rfl⟩:∃ g,f=g + 1:=⟨f - 1,by simp at hf; omega⟩
   subst h
   unfold B3
   rw [GC]
   simp
  | cons t r ih =>
   intro pre f c h hf h0 h1
   obtain ⟨f,rfl⟩:∃ g,f=g + 1:=⟨f - 1,by simp at hf; omega⟩
   have ht:=hm t (by rw [h]; simp)
   subst h
   unfold B3
   rw [if_pos (FO pre t r)]
   simp only [List.flatten_cons,List.length_append] at h1
   have hc:(t.count x)<=t.length:=List.count_le_length
   have h2:=KP (pre++t::r) x pre.length t (Bi pre t r) (by omega) t [] 100000 c rfl (by omega) h0 (by omega)
   rw [show ((([]:List Int).length:Nat):Int)=0 from rfl] at h2
   rw [h2]
   simp only [OS]
   simp at hl
   rw [FY pre t r (by simp; omega),ih (pre++[t]) f _ (by simp) (by simp at hf; omega) (by omega) (by omega)]
   simp only [List.flatten_cons,List.count_append]
   congr 1; omega
 have:=key ev [] 100000 0 rfl (by omega) (by omega) (by omega)
 rw [show ((([]:List (List Int)).length:Nat):Int)=0 from rfl,Int.zero_add] at this
 rw [this]
 rfl
/-- Is the shape of an evening wrong? -/
def Mz (sizes:List Int):List (List Int)->Int->Bool
 | [],_=>false
 | t::r,i=>((t.length:Int)==0)||(decide ((sizes.length:Int) > 0)&&(match idx sizes i with | some v=>((t.length:Int)!=v) | none=>false))||Mz sizes r (i + 1)
abbrev CSt:=Int×Bool×Bool×List Bool
def stepC (n:Int) (s:CSt) (v:Int):CSt:=if v < 0\/v≥n then (s.1,s.2.1,true,s.2.2.2) else ((if (s.2.2.2)[v.toNat]?.getD false then s.1 else s.1 + 1),s.2.1||(s.2.2.2)[v.toNat]?.getD false,s.2.2.1,s.2.2.2.set v.toNat true)
theorem Jj (n:Int) (s:CSt) (v:Int):(stepC n s v).2.2.2.length=s.2.2.2.length:=by
 unfold stepC; split <;> simp
theorem JB (n:Int) (s:CSt) (v:Int):(stepC n s v).1<=s.1 + 1/\s.1<=(stepC n s v).1:=by
 unfold stepC; split
 ·show s.1<=s.1 + 1/\s.1<=s.1; omega
 ·simp only; split <;> omega
theorem Lp (n:Int) (sizes:List Int) (ev:List (List Int)) (c9:Int) (hn0:0<=n):∀ (r pre:List Int) (s:CSt) (f:Nat) (t:List Int),t=pre++r->t.length<=50000->r.length < f->s.2.2.2.length=n.toNat->0<=s.1->s.1<=1000000 + (pre.length:Int)->BG n sizes ev c9 t f s.1 s.2.1 s.2.2.1 s.2.2.2 pre.length=some (r.foldl (stepC n) s)
 | [],pre,s,f + 1,t,ht,_,_,_,_,_=>by
  subst ht
  unfold BG
  rw [GC]
  rfl
 | v::r,pre,s,f + 1,t,ht,hl,hf,hs,h0,h1=>by
  obtain ⟨m,tw,un,seen⟩:=s
  simp only at hs h0 h1 ⊢
  have ih:=Lp n sizes ev c9 hn0 r (pre++[v]) (stepC n (m,tw,un,seen) v) f t (by rw [ht]; simp) hl (by simp at hf; omega) (by rw [Jj]; exact hs) (by have:=(JB n (m,tw,un,seen) v).2; simp only at this; omega) (by have:=(JB n (m,tw,un,seen) v).1; simp only at this; simp; omega)
  subst ht
  unfold BG
  rw [if_pos (FO pre v r),Bi]
  simp only [OS]
  rw [FY pre v r (by omega)]
  rw [List.foldl_cons]
  by_cases hv:v < 0\/v≥n
  ·have hst:stepC n (m,tw,un,seen) v=(m,tw,true,seen):=by unfold stepC; rw [if_pos hv]
   rw [hst] at ih ⊢
   by_cases hv0:v < 0
   ·simp only [hv0,decide_true,if_true,OS]
    exact ih
   ·have:v≥n:=by omega
    simp only [hv0,this,decide_false,decide_true,Bool.false_eq_true,if_false,if_true,OS]
    exact ih
  ·have hv0:¬ v < 0:=by omega
   have hv1:¬ v≥n:=by omega
   have hlt:v.toNat < seen.length:=by omega
   have hidx:idx seen v=some (seen[v.toNat]'hlt):=by
    unfold idx; rw [if_pos (by omega)]; exact List.getElem?_eq_getElem hlt
   have hg:seen[v.toNat]?.getD false=seen[v.toNat]'hlt:=by rw [List.getElem?_eq_getElem hlt]; rfl
   have hst:stepC n (m,tw,un,seen) v=((if (seen[v.toNat]'hlt) then m else m + 1),tw||(seen[v.toNat]'hlt),un,seen.set v.toNat true):=by
    unfold stepC; rw [if_neg hv]; simp only [hg]
   rw [hst] at ih ⊢
   have hm1:wr .i64 (m + 1)=m + 1:=Fl (by omega) (by simp at hl; omega)
   simp only [hv0,hv1,decide_false,Bool.false_eq_true,if_false,OS,hidx,CY]
   cases htw:tw <;> cases hse:seen[v.toNat]'hlt <;> simp only [htw,hse,Bool.false_eq_true,if_false,if_true,OS,Bool.not_true,Bool.not_false,hidx,hm1,Bool.or_true,Bool.or_false] at ih ⊢ <;> exact ih
theorem Nr (sizes:List Int) (_ev:List (List Int)) (t:List Int) (i:Nat) (hs:(sizes.length:Int) > 0->i < sizes.length){β:Type}(b:β):(if ((t.length:Int)==0)=true then some (b,true) else if (decide ((sizes.length:Int) > 0))=true then (idx sizes i).bind fun v12=>some (b,((t.length:Int)!=v12)) else some (b,false))=some (b,((t.length:Int)==0)||(decide ((sizes.length:Int) > 0)&&(match idx sizes i with | some v=>((t.length:Int)!=v) | none=>false))):=by
 cases h1:((t.length:Int)==0) with
 | true=>simp
 | false =>
  by_cases h2:(sizes.length:Int) > 0
  ·have:=hs h2
   rw [Jb this]
   have h3:0 < sizes.length:=by omega
   simp [h3]
  ·have h3:¬ 0 < sizes.length:=by omega
   simp [h3]
theorem Ln (n:Int) (sizes:List Int) (ev:List (List Int)) (hn0:0<=n) (hl:ev.length<=50000) (hsz:(sizes.length:Int) > 0->sizes.length=ev.length):∀ (r pre:List (List Int)) (s:CSt) (f:Nat),ev=pre++r->r.length < f->s.2.2.2.length=n.toNat->0<=s.1->s.1 + r.flatten.length<=50000->BR n sizes ev f s.1 s.2.1 s.2.2.1 s.2.2.2 pre.length=some (if Mz sizes r pre.length then .inr 2 else let q:=r.flatten.foldl (stepC n) s; .inl (q.1,q.2.1,q.2.2.1))
 | [],pre,s,f + 1,h,_,_,_,_=>by
  subst h
  unfold BR
  rw [GC]
  rfl
 | t::r,pre,s,f + 1,h,hf,hs,h0,h1=>by
  obtain ⟨m,tw,un,seen⟩:=s
  simp only at hs h0 h1 ⊢
  subst h
  unfold BR
  rw [if_pos (FO pre t r),Bi]
  simp only [OS]
  rw [Nr sizes (pre++t::r) t pre.length (fun h=>by rw [hsz h]; simp)]
  simp only [OS]
  simp only [List.flatten_cons,List.length_append] at h1
  cases hb:(((t.length:Int)==0)||(decide ((sizes.length:Int) > 0)&&(match idx sizes (pre.length:Int) with | some v=>((t.length:Int)!=v) | none=>false))) with
  | true =>
   simp only [Mz,hb,Bool.true_or,if_true]
  | false =>
   simp only [Mz,hb,Bool.false_or,Bool.false_eq_true,if_false]
   have h2:=Lp n sizes (pre++t::r) pre.length hn0 t [] (m,tw,un,seen) 100000 t rfl (by omega) (by omega) hs h0 (by simp; omega)
   rw [show ((([]:List Int).length:Nat):Int)=0 from rfl] at h2
   simp only at h2
   rw [h2]
   simp only [OS]
   have hfold:∀ (l:List Int) (s:CSt),(l.foldl (stepC n) s).2.2.2.length=s.2.2.2.length/\(l.foldl (stepC n) s).1<=s.1 + l.length/\s.1<=(l.foldl (stepC n) s).1:=by
    intro l
    induction l with
    | nil=>intro s; simp
    | cons a l ih =>
     intro s
     obtain ⟨a1,a2,a3⟩:=ih (stepC n s a)
     have:=JB n s a
     rw [List.foldl_cons]
     refine ⟨a1.trans (Jj n s a),?_,?_⟩
     ·simp; omega
     ·omega
   obtain ⟨a1,a2,a3⟩:=hfold t (m,tw,un,seen)
   simp only at a1 a2 a3
   rw [FY pre t r (by omega),Ln n sizes (pre++t::r) hn0 hl hsz r (pre++[t]) (t.foldl (stepC n) (m,tw,un,seen)) f (by simp) (by simp at hf; omega) (by omega) (by omega) (by omega)]
   rw [<-HZ]
   simp only [List.flatten_cons,List.foldl_append]
def K5 (n v:Int):Bool:=decide (v < 0\/v≥n)
theorem OW (n:Int):∀ (L:List Int) (s:CSt),(L.foldl (stepC n) s).2.2.1=(s.2.2.1||L.any (K5 n))
 | [],s=>by simp
 | v::L,s=>by
  rw [List.foldl_cons,OW n L,List.any_cons]
  by_cases hv:v < 0\/v≥n
  ·have hb:K5 n v=true:=by simp only [K5,decide_eq_true_eq]; exact hv
   have hs:(stepC n s v).2.2.1=true:=by unfold stepC; rw [if_pos hv]
   rw [hb,hs]; simp
  ·have hb:K5 n v=false:=by simp only [K5,decide_eq_false_iff_not]; exact hv
   have hs:(stepC n s v).2.2.1=s.2.2.1:=by unfold stepC; rw [if_neg hv]
   rw [hb,hs]; simp
structure InvC (N:Nat) (P:List Int) (s:CSt):Prop where
 len:s.2.2.2.length=N
 seen:∀ k,k < N->s.2.2.2[k]?.getD false=decide ((k:Int) ∈ P)
 tw:s.2.1=true↔∃ x,2<=P.count x
 many:s.1=(s.2.2.2.count true:Int)
theorem JQ:∀ (l:List Bool) (k:Nat),k < l.length->((l.set k true).count true:Int)=l.count true + (if l[k]?.getD false then 0 else 1)
 | [],k,h=>by simp at h
 | b::l,0,_=>by cases b <;> simp
 | b::l,k + 1,h=>by
  have:=JQ l k (by simpa using h)
  simp only [List.set_cons_succ,List.getElem?_cons_succ]
  cases b
  ·simpa using this
  ·simp only [List.count_cons_self]; push_cast; omega
theorem InvC.step {n:Int}{P:List Int}{s:CSt}(i:InvC n.toNat P s){v:Int}(h0:0<=v) (h1:v < n):InvC n.toNat (P++[v]) (stepC n s v):=by
 obtain ⟨m,tw,un,seen⟩:=s
 obtain ⟨i1,i2,i3,i4⟩:=i
 simp only at i1 i2 i3 i4
 have hst:stepC n (m,tw,un,seen) v=((if seen[v.toNat]?.getD false then m else m + 1),tw||seen[v.toNat]?.getD false,un,seen.set v.toNat true):=by
  unfold stepC; rw [if_neg (by omega)]
 have hlt:v.toNat < seen.length:=by clear i3; omega
 have hv:=i2 v.toNat (by clear i3; omega)
 have hvv:((v.toNat:Nat):Int)=v:=by clear i3; omega
 rw [hvv] at hv
 rw [hst]
 refine ⟨by simpa using i1,fun k hk=>?_,?_,?_⟩
 ·simp only [List.getElem?_set]
  by_cases hkv:v.toNat=k
  ·subst hkv
   simp [hlt,hvv]
  ·rw [if_neg hkv,i2 k hk]
   have:¬ (k:Int)=v:=by clear i3; omega
   simp [this]
 ·simp only [Bool.or_eq_true,i3,hv,decide_eq_true_eq]
  clear i3 i4
  constructor
  ·rintro (⟨x,hx⟩ | hm)
   ·exact ⟨x,by rw [List.count_append]; omega⟩
   ·exact ⟨v,by rw [List.count_append]; have:=List.count_pos_iff.2 hm; have e:[v].count v=1:=(by simp); omega⟩
  ·rintro ⟨x,hx⟩
   rw [List.count_append] at hx
   by_cases hxv:v=x
   ·subst hxv
    have e:[v].count v=1:=by simp
    rw [e] at hx
    exact .inr (List.count_pos_iff.1 (by omega))
   ·rw [List.count_cons_of_ne hxv] at hx
    exact .inl ⟨x,by simpa using hx⟩
 ·simp only
  rw [JQ seen v.toNat hlt,i4]
  split <;> simp
theorem L3 {n:Int}:∀ (L P:List Int) (s:CSt),InvC n.toNat P s->(∀ v ∈ L,0<=v/\v < n)->InvC n.toNat (P++L) (L.foldl (stepC n) s)
 | [],P,s,h,_=>by simpa using h
 | v::L,P,s,h,hv=>by
  obtain ⟨h0,h1⟩:=hv v (by simp)
  have:=L3 L (P++[v]) (stepC n s v) (h.step h0 h1) fun w hw=>hv w (by simp [hw])
  simpa using this
theorem O1 (N:Nat):InvC N [] (0,false,false,List.replicate N false):=by
 refine ⟨by simp,fun k hk=>by simp [hk],by simp,?_⟩
 simp [List.count_replicate]
theorem GO:∀ (l:List Bool),l.count true<=l.length/\(l.count true < l.length↔∃ k,k < l.length/\l[k]?.getD false=false)
 | []=>by simp
 | b::l=>by
  obtain ⟨h1,h2⟩:=GO l
  cases b with
  | false =>
   refine ⟨by simp; omega,?_⟩
   simp only [List.count_cons_of_ne (show (false:Bool)≠true by decide),List.length_cons]
   exact ⟨fun _=>⟨0,by omega,rfl⟩,fun _=>by omega⟩
  | true =>
   refine ⟨by simp; omega,?_⟩
   simp only [List.count_cons_self,List.length_cons,Nat.add_lt_add_iff_right,h2]
   constructor
   ·rintro ⟨k,a,b⟩; exact ⟨k + 1,by omega,by simpa using b⟩
   ·rintro ⟨k,a,b⟩
    cases k with
    | zero=>simp at b
    | succ k=>exact ⟨k,by omega,by simpa using b⟩
/-- Some number of a stretch. -/
def Ju (p:Int->Bool):Nat->Int->Bool
 | 0,_=>false
 | k + 1,i=>p i||Ju p k (i + 1)
theorem In (p:Int->Bool):∀ (k:Nat) (i:Int),Ju p k i=true↔∃ x,i<=x/\x < i + k/\p x=true
 | 0,i=>by simp [Ju]; intro x h1 h2; omega
 | k + 1,i=>by
  simp only [Ju,Bool.or_eq_true,In p k]
  constructor
  ·rintro (h | ⟨x,h1,h2,h3⟩)
   ·exact ⟨i,by omega,by omega,h⟩
   ·exact ⟨x,by omega,by omega,h3⟩
  ·rintro ⟨x,h1,h2,h3⟩
   by_cases hx:x=i
   ·subst hx; exact .inl h3
   ·exact .inr ⟨x,by omega,by omega,h3⟩
/-- What an evening's check answers. -/
def chk (n:Int) (sizes:List Int) (ev:List (List Int)):Int :=
 if (decide ((sizes.length:Int) > 0)&&((sizes.length:Int)!=(ev.length:Int)))=true then 2 else
 if Mz sizes ev 0 then 2 else
 if ev.flatten.any (K5 n) then 6 else
 if Ju (fun x=>decide ((ev.flatten.count x:Int) > 1)) n.toNat 0 then 5 else
 if Ju (fun x=>((ev.flatten.count x:Int)==0)) n.toNat 0 then 2 else 0
theorem HB (n:Int) (hn0:0<=n) (hn:n<=64) (sizes:List Int) (ev:List (List Int)) (hl:ev.length<=50000) (hf:ev.flatten.length<=50000):Ba n sizes ev=some (chk n sizes ev):=by
 unfold Ba chk
 by_cases hs:(decide ((sizes.length:Int) > 0)&&((sizes.length:Int)!=(ev.length:Int)))=true
 ·rw [if_pos hs]
  simp only [Bool.and_eq_true,decide_eq_true_eq] at hs
  rw [if_pos (by simpa using hs.1)]
  simp only [OS,hs.2,if_true]
 ·rw [if_neg hs]
  have hsz:(sizes.length:Int) > 0->sizes.length=ev.length:=fun h=>by
   simp only [Bool.and_eq_true,decide_eq_true_eq,not_and,Bool.not_eq_true,bne_eq_false_iff_eq] at hs
   have:=hs h; omega
  have e1:(if (decide ((sizes.length:Int) > 0))=true then some ((sizes.length:Int)!=(ev.length:Int)) else some false)=some false:=by
   by_cases h:(sizes.length:Int) > 0
   ·have:=hsz h; simp [this]
   ·have h':¬ 0 < sizes.length:=by omega
    simp [h']
  rw [e1]
  simp only [OS,Bool.false_eq_true,if_false]
  have hmk:LM 1 n=true:=by
   simp only [LM,Bool.and_eq_true,decide_eq_true_eq]; omega
  rw [if_pos hmk]
  have h1:=Ln n sizes ev hn0 hl hsz ev [] (0,false,false,List.replicate n.toNat false) 100000 rfl (by omega) (by simp) (by simp) (by simp only; omega)
  rw [show ((([]:List (List Int)).length:Nat):Int)=0 from rfl] at h1
  simp only at h1
  rw [h1]
  simp only [OS]
  cases hb:Mz sizes ev 0 with
  | true=>simp
  | false =>
   simp only [Bool.false_eq_true,if_false]
   rw [OW]
   simp only [Bool.false_or]
   cases hu:ev.flatten.any (K5 n) with
   | true=>simp
   | false =>
    simp only [Bool.false_eq_true,if_false]
    have hval:∀ v ∈ ev.flatten,0<=v/\v < n:=fun v hv=>by
     have:=List.any_eq_false.1 hu v hv
     simp only [K5,decide_eq_true_eq] at this
     omega
    obtain ⟨j1,j2,j3,j4⟩:=L3 ev.flatten [] _ (O1 n.toNat) hval
    rw [List.nil_append] at j2 j3
    generalize ev.flatten.foldl (stepC n) (0,false,false,List.replicate n.toNat false)=q at *
    have t1:q.2.1=Ju (fun x=>decide ((ev.flatten.count x:Int) > 1)) n.toNat 0:=by
     rw [Bool.eq_iff_iff,j3,In]
     constructor
     ·rintro ⟨x,hx⟩
      have:=hval x (List.count_pos_iff.1 (by omega))
      exact ⟨x,by omega,by omega,by simp; omega⟩
     ·rintro ⟨x,_,_,hx⟩
      simp at hx
      exact ⟨x,by omega⟩
    have t2:decide (q.1 < n)=Ju (fun x=>((ev.flatten.count x:Int)==0)) n.toNat 0:=by
     rw [Bool.eq_iff_iff,In,decide_eq_true_eq,j4]
     have hc:=GO q.2.2.2
     rw [j1] at hc
     constructor
     ·intro h
      obtain ⟨k,k1,k2⟩:=hc.2.1 (by omega)
      rw [j2 k k1] at k2
      have hm:¬ (k:Int) ∈ ev.flatten:=by simpa using k2
      exact ⟨k,by omega,by omega,by rw [List.count_eq_zero.2 hm]; rfl⟩
     ·rintro ⟨x,h1,h2,h3⟩
      have h3:ev.flatten.count x=0:=by simpa using h3
      have hm:=List.count_eq_zero.1 h3
      have:=hc.2.2 ⟨x.toNat,by omega,by rw [j2 _ (by omega),show ((x.toNat:Nat):Int)=x by omega]; simpa using hm⟩
      omega
    rw [t1,t2]
    cases Ju (fun x=>decide ((ev.flatten.count x:Int) > 1)) n.toNat 0 <;> cases Ju (fun x=>((ev.flatten.count x:Int)==0)) n.toNat 0 <;> simp
theorem Ns (sizes:List Int) (t:List Int) (i:Nat) (hs:(sizes.length:Int) > 0->i < sizes.length):(if ((t.length:Int)==0)=true then some true else if (decide ((sizes.length:Int) > 0))=true then (idx sizes i).bind fun v7=>some (v7 != (t.length:Int)) else some false)=some (((t.length:Int)==0)||(decide ((sizes.length:Int) > 0)&&(match idx sizes i with | some v=>((t.length:Int)!=v) | none=>false))):=by
 cases h1:((t.length:Int)==0) with
 | true=>simp
 | false =>
  by_cases h2:(sizes.length:Int) > 0
  ·have:=hs h2
   rw [Jb this]
   have h3:0 < sizes.length:=by omega
   simp [h3,bne_comm]
  ·have h3:¬ 0 < sizes.length:=by omega
   simp [h3]
theorem Nm {c:Int}(X Y:Bool):(if X=true then some (Sum.inr c) else some (if Y=true then Sum.inr c else Sum.inl ()))=some (if (X||Y)=true then Sum.inr c else Sum.inl ()):=by
 cases X <;> simp
theorem Kt (n:Int) (sizes:List Int) (ev:List (List Int)) (hl:ev.length<=50000) (hsz:(sizes.length:Int) > 0->sizes.length=ev.length):∀ (r pre:List (List Int)) (f:Nat),ev=pre++r->r.length < f->Ap n sizes ev f pre.length=some (if Mz sizes r pre.length then .inr 2 else .inl ())
 | [],pre,f + 1,h,_=>by
  subst h
  unfold Ap
  rw [GC]
  rfl
 | t::r,pre,f + 1,h,hf=>by
  have ih:=Kt n sizes ev hl hsz r (pre++[t]) f (by rw [h]; simp) (by simp at hf; omega)
  subst h
  unfold Ap
  rw [if_pos (FO pre t r),Bi]
  simp only [OS]
  rw [FY pre t r (by omega),ih,<-HZ,Ns sizes t pre.length (fun h=>by rw [hsz h]; simp)]
  simp only [OS,Mz]
  exact Nm _ _
theorem Kv (n:Int) (ev:List (List Int)) (c:Int) (t:List Int) (ht:idx ev c=some t) (hl:t.length<=50000):∀ (r pre:List Int) (f:Nat),t=pre++r->r.length < f->Ar n ev c f pre.length=some (if r.any (K5 n) then .inr 6 else .inl ())
 | [],pre,f + 1,h,_=>by
  unfold Ar
  rw [ht]
  subst h
  simp only [OS]
  rw [GC]
  rfl
 | v::r,pre,f + 1,h,hf=>by
  have ih:=Kv n ev c t ht hl r (pre++[v]) f (by rw [h]; simp) (by simp at hf; omega)
  unfold Ar
  rw [ht]
  subst h
  simp only [OS]
  rw [if_pos (FO pre v r),Bi]
  simp only [OS]
  rw [FY pre v r (by omega),ih]
  simp only [List.any_cons,K5]
  by_cases h1:v < 0
  ·simp [h1]
  ·by_cases h2:v≥n
   ·simp [h1,h2]
   ·simp [h1,h2]
theorem Ku (n:Int) (ev:List (List Int)) (hl:ev.length<=50000) (hm:∀ t ∈ ev,t.length<=50000):∀ (r pre:List (List Int)) (f:Nat),ev=pre++r->r.length < f->Aq n ev f pre.length=some (if r.flatten.any (K5 n) then .inr 6 else .inl ())
 | [],pre,f + 1,h,_=>by
  subst h
  unfold Aq
  rw [GC]
  rfl
 | t::r,pre,f + 1,h,hf=>by
  have ih:=Ku n ev hl hm r (pre++[t]) f (by rw [h]; simp) (by simp at hf; omega)
  have ht:=hm t (by rw [h]; simp)
  subst h
  unfold Aq
  rw [if_pos (FO pre t r)]
  have h3:=Kv n (pre++t::r) pre.length t (Bi pre t r) ht t [] 100000 rfl (by omega)
  rw [show ((([]:List Int).length:Nat):Int)=0 from rfl] at h3
  rw [h3]
  simp only [OS,List.flatten_cons,List.any_append]
  cases t.any (K5 n) with
  | true=>simp
  | false =>
   simp only [Bool.false_eq_true,if_false,Bool.false_or]
   rw [FY pre t r (by omega),ih]
theorem ML (n:Int) (hn:n<=64) (ev:List (List Int)) (hl:ev.length<=50000) (hf:ev.flatten.length<=50000) :
  (∀ (k:Nat) (i:Int) (f:Nat),(k:Int)=n - i->0<=i->k < f->As n ev f i=some (if Ju (fun x=>decide ((ev.flatten.count x:Int) > 1)) k i then .inr 5 else .inl ())) /\
  (∀ (k:Nat) (i:Int) (f:Nat),(k:Int)=n - i->0<=i->k < f->At n ev f i=some (if Ju (fun x=>((ev.flatten.count x:Int)==0)) k i then .inr 2 else .inl ())):=by
 constructor
 ·intro k
  induction k with
  | zero =>
   intro i f hk hi hf'
   obtain ⟨f,rfl⟩:∃ g,f=g + 1:=⟨f - 1,by omega⟩
   unfold As
   rw [if_neg (by simp; omega)]
   rfl
  | succ k ih =>
   intro i f hk hi hf'
   obtain ⟨f,rfl⟩:∃ g,f=g + 1:=⟨f - 1,by omega⟩
   unfold As
   rw [if_pos (by simp; omega),Ky ev i hl hf]
   simp only [OS,Ju]
   rw [Fl (by omega) (by omega),ih (i + 1) f (by omega) (by omega) (by omega)]
   exact Nm _ _
 ·intro k
  induction k with
  | zero =>
   intro i f hk hi hf'
   obtain ⟨f,rfl⟩:∃ g,f=g + 1:=⟨f - 1,by omega⟩
   unfold At
   rw [if_neg (by simp; omega)]
   rfl
  | succ k ih =>
   intro i f hk hi hf'
   obtain ⟨f,rfl⟩:∃ g,f=g + 1:=⟨f - 1,by omega⟩
   unfold At
   rw [if_pos (by simp; omega),Ky ev i hl hf]
   simp only [OS,Ju]
   rw [Fl (by omega) (by omega),ih (i + 1) f (by omega) (by omega) (by omega)]
   exact Nm _ _
theorem FQ (n:Int) (hn0:0<=n) (hn:n<=64) (sizes:List Int) (ev:List (List Int)) (hl:ev.length<=50000) (hf:ev.flatten.length<=50000):Aw n sizes ev=some (chk n sizes ev):=by
 unfold Aw chk
 by_cases hs:(decide ((sizes.length:Int) > 0)&&((sizes.length:Int)!=(ev.length:Int)))=true
 ·rw [if_pos hs]
  simp only [Bool.and_eq_true,decide_eq_true_eq] at hs
  rw [if_pos (by simpa using hs.1)]
  simp only [OS,hs.2,if_true]
 ·rw [if_neg hs]
  have hsz:(sizes.length:Int) > 0->sizes.length=ev.length:=fun h=>by
   simp only [Bool.and_eq_true,decide_eq_true_eq,not_and,Bool.not_eq_true,bne_eq_false_iff_eq] at hs
   have:=hs h; omega
  have e1:(if (decide ((sizes.length:Int) > 0))=true then some ((sizes.length:Int)!=(ev.length:Int)) else some false)=some false:=by
   by_cases h:(sizes.length:Int) > 0
   ·have:=hsz h; simp [this]
   ·have h':¬ 0 < sizes.length:=by omega
    simp [h']
  rw [e1]
  simp only [OS,Bool.false_eq_true,if_false]
  have hm:∀ t ∈ ev,t.length<=50000:=fun t ht=>by
   have:=KE ht; omega
  have h1:=Kt n sizes ev hl hsz ev [] 100000 rfl (by omega)
  have h2:=Ku n ev hl hm ev [] 100000 rfl (by omega)
  rw [show ((([]:List (List Int)).length:Nat):Int)=0 from rfl] at h1 h2
  obtain ⟨h4,h5⟩:=ML n hn ev hl hf
  have h4:=h4 n.toNat 0 100000 (by omega) (by omega) (by omega)
  have h5:=h5 n.toNat 0 100000 (by omega) (by omega) (by omega)
  rw [h1]
  simp only [OS]
  cases Mz sizes ev 0 with
  | true=>simp
  | false =>
   simp only [Bool.false_eq_true,if_false]
   rw [h2]
   simp only [OS]
   cases ev.flatten.any (K5 n) with
   | true=>simp
   | false =>
    simp only [Bool.false_eq_true,if_false]
    rw [h4]
    simp only [OS]
    cases Ju (fun x=>decide ((ev.flatten.count x:Int) > 1)) n.toNat 0 with
    | true=>simp
    | false =>
     simp only [Bool.false_eq_true,if_false]
     rw [h5]
     simp only [OS]
     cases Ju (fun x=>((ev.flatten.count x:Int)==0)) n.toNat 0 <;> simp
/-- The pieces between the bytes c. -/
def pcs (c:UInt8):List UInt8->List (List UInt8)
 | []=>[[]]
 | b::r=>if b=c then []::pcs c r else match pcs c r with
  | []=>[[b]]
  | w::ws=>(b::w)::ws
theorem OQ (c:UInt8):∀ s:List UInt8,pcs c s≠[]
 | []=>by simp [pcs]
 | b::r=>by
  unfold pcs
  split
  ·simp
  ·split <;> simp
theorem I4 (c:UInt8) (s:List UInt8):∃ w ws,pcs c s=w::ws:=List.exists_cons_of_ne_nil (OQ c s)
/-- A text without the separator is one piece. -/
theorem Hx (c:UInt8):∀ {s:List UInt8},c ∉ s->pcs c s=[s]
 | [],_=>rfl
 | b::r,h=>by
  have h1:b≠c:=fun e=>h (by simp [e])
  unfold pcs
  rw [if_neg h1,Hx c fun e=>h (by simp [e])]
/-- The first piece ahead of a separator. -/
theorem KJ (c:UInt8):∀ {s:List UInt8}(r:List UInt8),c ∉ s->pcs c (s++c::r)=s::pcs c r
 | [],r,_=>by
  show pcs c (c::r)=_
  conv=>lhs; unfold pcs
  rw [if_pos rfl]
 | b::s,r,h=>by
  have h1:b≠c:=fun e=>h (by simp [e])
  show pcs c (b::(s++c::r))=_
  conv=>lhs; unfold pcs
  rw [if_neg h1,KJ c r fun e=>h (by simp [e])]
theorem Gn (c:UInt8) (s:List UInt8):(pcs c s).length=s.count c + 1:=by
 induction s with
 | nil=>rfl
 | cons b s ih =>
  unfold pcs
  by_cases h:b=c
  ·rw [if_pos h,List.length_cons,ih,h]; simp
  ·rw [if_neg h]
   obtain ⟨w,ws,e⟩:=I4 c s
   rw [e] at ih ⊢
   rw [List.count_cons_of_ne h]
   exact ih
/-- Where the first separator stands. -/
def JK (c:UInt8):List UInt8->Option Nat
 | []=>none
 | b::r=>if b=c then some 0 else (JK c r).map (· + 1)
theorem Is {c:UInt8}:∀ {s:List UInt8},JK c s=none->c ∉ s
 | [],_=>by simp
 | b::r,h=>by
  unfold JK at h
  split at h
  ·cases h
  ·next h1 =>
   simp only [Option.map_eq_none_iff] at h
   simp only [List.mem_cons,not_or]
   exact ⟨fun e=>h1 e.symm,Is h⟩
theorem GT {c:UInt8}:∀ {s:List UInt8}{i:Nat},JK c s=some i->i < s.length/\c ∉ s.take i/\s=s.take i++c::s.drop (i + 1)
 | [],_,h=>by cases h
 | b::r,i,h=>by
  unfold JK at h
  split at h
  ·next h1 =>
   injection h with h
   subst h
   subst h1
   simp
  ·next h1 =>
   obtain ⟨j,hj,rfl⟩:=Option.map_eq_some_iff.1 h
   obtain ⟨a1,a2,a3⟩:=GT hj
   refine ⟨by simp; omega,?_,?_⟩
   ·simp only [List.take_succ_cons,List.mem_cons,not_or]
    exact ⟨fun e=>h1 e.symm,a2⟩
   ·simp only [List.take_succ_cons,List.drop_succ_cons,List.cons_append]
    rw [<-a3]
theorem NG {c:UInt8}{s:List UInt8}{i:Nat}(h:JK c s=some i):pcs c s=s.take i::pcs c (s.drop (i + 1)):=by
 obtain ⟨_,a2,a3⟩:=GT h
 conv=>lhs; rw [a3]
 exact KJ c _ a2
/-- A number of 1 to 9 digits that does not start with 0 unless it is 0. -/
def M4:Nat->List UInt8->Option Nat
 | n,[]=>some n
 | n,b::r=>if 48<=b.toNat/\b.toNat<=57 then M4 (10 * n + (b.toNat - 48)) r else none
def LW (w:List UInt8):Option Nat:=if w.length=0\/9 < w.length then none else if 1 < w.length/\w.head? = some 48 then none else M4 0 w
/-- An evening out of words. -/
def evW:List (List UInt8)->List (List Int)->List Int->Option (List (List Int))
 | [],out,tab=>if tab=[] then none else some (out++[tab])
 | w::ws,out,tab=>if w=[47] then (if tab=[] then none else evW ws (out++[tab]) []) else match LW w with
  | none=>none
  | some x=>evW ws out (tab++[(x:Int)])
def evP (line:List UInt8):Option (List (List Int)):=evW (pcs 32 line) [] []
theorem L0 (s:List UInt8) (c:UInt8):Lib.indexByte s c=match JK c s with | some i=>(i:Int) | none=> -1:=by
 induction s with
 | nil=>rfl
 | cons b s ih =>
  unfold Lib.indexByte JK
  by_cases h:b=c
  ·rw [if_pos (by simpa using h),if_pos h]; rfl
  ·rw [if_neg (by simpa using h),if_neg h,ih]
   cases JK c s with
   | none=>rfl
   | some i =>
    show (if ((i:Int) == -1)=true then (-1:Int) else (i:Int) + 1)=_
    rw [if_neg (by simp)]
    show (i:Int) + 1=((i + 1:Nat):Int)
    omega
theorem Ji (s:List UInt8) (c:UInt8) (hc:[c]≠s\/JK c s=some 0):BF s [c]=some (match JK c s with | some i=>(i:Int) | none=> -1):=by
 have hu:((c.toNat:Int)).toNat.toUInt8=c:=by rw [Int.toNat_natCast]; exact UInt8.ofNat_toNat
 unfold BF BB
 rw [if_neg (by simp)]
 by_cases h:[c]=s
 ·rw [show ([c]==s)=true by simpa using h]
  rcases hc with hc | hc
  ·exact absurd h hc
  ·rw [hc]; rfl
 ·rw [show ([c]==s)=false by simpa using h]
  rw [OS,if_neg (by simp),if_pos (by simp),show idx [c] 0=some c from rfl,OS]
  unfold CJ
  rw [hu,L0]
  rfl
theorem Ml (c:UInt8) (r:List UInt8):JK c (c::r)=some 0:=by unfold JK; rw [if_pos rfl]
theorem Kl (s:List UInt8) (c:UInt8):BF s [c]=some (match JK c s with | some i=>(i:Int) | none=> -1):=by
 by_cases h:[c]=s
 ·exact Ji s c (.inr (by rw [<-h]; exact Ml c []))
 ·exact Ji s c (.inl h)
theorem OD (s:List UInt8) (c:UInt8) (hs:s.length<=100000):Ca s [c]=some (match JK c s with | some i=>(s.take i,s.drop (i + 1),true) | none=>(s,[],false)):=by
 have hx:=Kl s c
 unfold BF at hx
 obtain ⟨v,h1,h2⟩:=OB hx
 have h2:v=_:=OI h2
 unfold Ca Bt
 rw [h1,OS]
 cases hf:JK c s with
 | none =>
  rw [hf] at h2
  have h2:v = -1:=h2
  subst h2
  rw [if_neg (by decide)]
  rfl
 | some i =>
  rw [hf] at h2
  have h2:v=(i:Int):=h2
  subst h2
  obtain ⟨a1,_,_⟩:=GT hf
  have e:wr .i64 ((i:Int) + (([c]:List UInt8).length:Int))=((i + 1:Nat):Int):=by
   rw [Fl (by simp; omega) (by simp; omega)]; simp
  rw [if_pos (by simp),if_pos (by simp [CF]; omega),e,if_pos (by simp only [CF,Bool.and_eq_true,decide_eq_true_eq]; omega),Int.toNat_natCast,Int.toNat_natCast,Int.toNat_natCast,List.take_length]
  rfl
/- Numbers. -/
def Ol:Option Nat->Int×Bool
 | some x=>(x,true)
 | none=>(0,false)
theorem O9 {n:Int}(h0:0<=n) (h1:n<=255):wr .u8 n=n:=by
 have e:wr .u8 n=n % 256:=rfl
 rw [e]
 omega
theorem Kp (w:List UInt8) (hw:w.length<=9):∀ (r pre:List UInt8) (f acc:Nat),w=pre++r->r.length < f->acc < 10 ^ pre.length->A3 w f acc pre.length=some (match M4 acc r with | some x=> .inl (x:Int) | none=> .inr (0,false))
 | [],pre,f + 1,acc,h,_,_=>by
  unfold A3
  rw [if_neg (by rw [h]; simp)]
  rfl
 | b::r,pre,f + 1,acc,h,hf,ha=>by
  have hi:idx w (pre.length:Int)=some b:=by rw [h]; exact Bi pre b r
  have hl:pre.length < w.length:=by rw [h]; simp
  unfold A3
  rw [if_pos (by simp; exact hl),hi,OS,OS,OS]
  unfold M4
  by_cases hb:48<=b.toNat/\b.toNat<=57
  ·have hp:10 ^ pre.length<=10 ^ 8:=Nat.pow_le_pow_right (by omega) (by omega)
   have e1:(10:Nat) ^ 8=100000000:=by decide
   have e2:(10:Nat) ^ (pre++[b]).length=10 ^ pre.length * 10:=by rw [List.length_append,List.length_singleton,Nat.pow_succ]
   have e3:wr .i64 (wr .i64 (10 * (acc:Int)) + wr .i64 (wr .u8 ((b.toNat:Int) - 48)))=((10 * acc + (b.toNat - 48):Nat):Int):=by
    rw [O9 (by omega) (by omega),Fl (n:=10 * (acc:Int)) (by omega) (by omega),Fl (n:=(b.toNat:Int) - 48) (by omega) (by omega),Fl (by omega) (by omega)]
    omega
   have ih:=Kp w hw r (pre++[b]) f (10 * acc + (b.toNat - 48)) (by rw [h]; simp) (by simp at hf; omega) (by rw [e2]; omega)
   rw [if_neg (by simp; omega),OS,if_neg (by simp; omega),if_pos hb,e3,Fl (n:=(pre.length:Int) + 1) (by omega) (by omega),<-ih,HZ pre b]
  ·rw [if_neg hb]
   by_cases h1:(b.toNat:Int) < 48
   ·rw [if_pos (by simpa using h1),OS,if_pos rfl]
   ·rw [if_neg (by simpa using h1),OS,if_pos (by simp; omega)]
theorem MF (w : List UInt8) : Bh w = some (Ol (LW w)) := by
  unfold Bh LW
  by_cases h0 : w.length = 0
  · rw [if_pos (by simp [h0]), OS, if_pos rfl, if_pos (.inl h0)]; rfl
  · rw [if_neg (by rw [beq_iff_eq]; omega)]
    by_cases h9 : 9 < w.length
    · rw [if_pos (decide_eq_true (by omega)), OS, if_pos rfl, if_pos (.inr h9)]; rfl
    · rw [if_neg (by rw [decide_eq_true_eq]; omega), if_neg (show ¬ (w.length = 0 ∨ 9 < w.length) by omega)]
      have hl := Kp w (by omega) w [] 100000 0 rfl (by omega) (by simp)
      have hl : A3 w 100000 0 0 = _ := hl
      obtain ⟨b, r, rfl⟩ := List.exists_cons_of_ne_nil (fun e => h0 (by rw [e]; rfl) : w ≠ [])
      rw [hl, show idx (b :: r) 0 = some b from rfl, OS]
      have hd : ((b.toNat : Int) == 48) = decide (b = 48) := by
        rw [Bool.eq_iff_iff]
        simp only [beq_iff_eq, decide_eq_true_eq]
        constructor
        · intro h; exact UInt8.toNat.inj (by have : b.toNat = 48 := by omega
                                             exact this)
        · intro h; rw [h]; rfl
      rw [hd]
      by_cases h1 : 1 < (b :: r).length
      · rw [if_pos (decide_eq_true (by omega)), OS]
        by_cases hb : b = 48
        · rw [if_pos (by simpa using hb), if_pos ⟨h1, by simp [hb]⟩]; rfl
        · rw [if_neg (by simpa using hb), if_neg (by simp [hb]), OS]
          cases M4 0 (b :: r) <;> rfl
      · rw [if_neg (by rw [decide_eq_true_eq]; omega), OS, if_neg (by simp), if_neg (fun h => h1 h.1), OS]
        cases M4 0 (b :: r) <;> rfl
theorem Jc (w:List UInt8) (hw:w.length<=9) (hz:¬ (1 < w.length/\w.head? = some 48)):∀ (r pre:List UInt8) (f acc:Nat),w=pre++r->r.length < f->acc < 10 ^ pre.length->A0 w f acc pre.length=some (match M4 acc r with | some x=> .inl (x:Int) | none=> .inr (0,false))
 | [],pre,f + 1,acc,h,_,_=>by
  unfold A0
  rw [if_neg (by rw [h]; simp)]
  rfl
 | b::r,pre,f + 1,acc,h,hf,ha=>by
  have hi:idx w (pre.length:Int)=some b:=by rw [h]; exact Bi pre b r
  have hl:pre.length < w.length:=by rw [h]; simp
  unfold A0
  rw [if_pos (by simp; exact hl),hi,OS,OS,OS]
  unfold M4
  by_cases hb:48<=b.toNat/\b.toNat<=57
  ·have hp:10 ^ pre.length<=10 ^ 8:=Nat.pow_le_pow_right (by omega) (by omega)
   have e1:(10:Nat) ^ 8=100000000:=by decide
   have e2:(10:Nat) ^ (pre++[b]).length=10 ^ pre.length * 10:=by rw [List.length_append,List.length_singleton,Nat.pow_succ]
   have e3:wr .i64 (wr .i64 (wr .i64 (10 * (acc:Int)) + wr .i64 (b.toNat:Int)) - 48)=((10 * acc + (b.toNat - 48):Nat):Int):=by
    rw [Fl (n:=10 * (acc:Int)) (by omega) (by omega),Fl (n:=(b.toNat:Int)) (by omega) (by omega),Fl (n:=10 * (acc:Int) + (b.toNat:Int)) (by omega) (by omega),Fl (by omega) (by omega)]
    omega
   have ih:=Jc w hw hz r (pre++[b]) f (10 * acc + (b.toNat - 48)) (by rw [h]; simp) (by simp at hf; omega) (by rw [e2]; omega)
   have hone:(if ((pre.length:Int)==1)=true then (idx w 0).bind fun v9=>some ((v9.toNat:Int)==48) else some false)=some false:=by
    by_cases h1:pre.length=1
    ·rw [if_pos (by simp [h1])]
     obtain ⟨x,q,hx⟩:=List.exists_cons_of_ne_nil (fun e=>by rw [e] at hl; simp at hl:w≠[])
     have hne:x≠48:=fun e=>hz ⟨by omega,by rw [hx,e]; rfl⟩
     have hq:x.toNat≠48:=fun e=>hne (UInt8.toNat.inj (by rw [e]; rfl))
     rw [show idx w 0=some x by rw [hx]; rfl,OS]
     congr 1
     simp
     omega
    ·rw [if_neg (by simp; omega)]
   rw [if_neg (by simp; omega),if_neg (by simp; omega),hone,OS,if_neg (by simp),if_pos hb,e3,Fl (n:=(pre.length:Int) + 1) (by omega) (by omega),<-ih,HZ pre b]
  ·rw [if_neg hb]
   by_cases h1:(b.toNat:Int) < 48
   ·rw [if_pos (by simpa using h1),OS,if_pos rfl]
   ·rw [if_neg (by simpa using h1),if_pos (by simp; omega),OS,if_pos rfl]
theorem L5 (c:UInt8) (r:List UInt8) (f:Nat):A0 (48::c::r) (f + 2) 0 0=some (.inr (0,false)):=by
 have hc1:A0 (48::c::r) (f + 1) 0 1=some (.inr (0,false)):=by
  unfold A0
  rw [if_pos (decide_eq_true (by rw [List.length_cons,List.length_cons]; omega)),show idx (48::c::r) 1=some c from rfl,OS,OS,show idx (48::c::r) 0=some 48 from rfl,OS]
  have:∀ p q:Bool,(if p=true then some true else if q=true then some true else if ((1:Int)==1)=true then some (((48:UInt8).toNat:Int)==48) else some false)=some true:=by decide
  rw [this,OS,if_pos rfl]
 rw [<-hc1]
 conv=>lhs; unfold A0
 rw [if_pos (decide_eq_true (by rw [List.length_cons,List.length_cons]; omega)),show idx (48::c::r) 0=some 48 from rfl]
 rfl
theorem LH (w:List UInt8):DH w=some (Ol (LW w)):=by
 unfold DH LW
 by_cases h0:w.length=0
 ·rw [if_pos (by simp [h0]),OS,if_pos rfl,if_pos (.inl h0)]; rfl
 ·rw [if_neg (by rw [beq_iff_eq]; omega),OS]
  by_cases h9:9 < w.length
  ·rw [if_pos (decide_eq_true (by omega)),if_pos (.inr h9)]; rfl
  ·rw [if_neg (by rw [decide_eq_true_eq]; omega),if_neg (show ¬ (w.length=0\/9 < w.length) by omega)]
   by_cases hz:1 < w.length/\w.head? = some 48
   ·rw [if_pos hz]
    -- the second byte is the one at which it fails
    match w,hz,h9 with
    | b::c::r,⟨_,hb⟩,h9 =>
     have hb:b=48:=by simpa using hb
     subst hb
     rw [L5 c r 99998]
     rfl
   ·rw [if_neg hz]
    have hl:=Jc w (by omega) hz w [] 100000 0 rfl (by omega) (by simp)
    have hl:A0 w 100000 0 0=_:=hl
    rw [hl,OS]
    cases M4 0 w <;> rfl
/- Words: none where a piece is empty. -/
def wsp:List UInt8->List UInt8->Option (List (List UInt8))
 | cur,[]=>if cur=[] then none else some [cur]
 | cur,b::r=>if b=32 then (if cur=[] then none else (wsp [] r).map (cur::·)) else wsp (cur++[b]) r
theorem Gy (line:List UInt8) (hn:line.length<=2000):∀ (rest done cur:List UInt8) (out:List (List UInt8)) (f:Nat),line=done++cur++rest->rest.length < f->out.length<=done.length->∃ q,BH line f done.length ((done.length + cur.length:Nat):Int) out=some q/\(match q with
  | .inl (a,o)=>∃ d c:List UInt8,line=d++c/\a=(d.length:Int)/\o.length<=d.length/\(if c=[] then wsp cur rest=none else ∃ o',o=out++o'/\wsp cur rest=some (o'++[c]))
  | .inr _=>wsp cur rest=none)
 | [],done,cur,out,f + 1,h,_,ho=>by
  refine ⟨.inl (done.length,out),?_,done,cur,by rw [h]; simp,rfl,ho,?_⟩
  ·unfold BH
   rw [if_neg (by rw [h]; simp)]
  ·unfold wsp
   by_cases hc:cur=[]
   ·rw [if_pos hc,if_pos hc]
   ·rw [if_neg hc,if_neg hc]; exact ⟨[],by simp,by simp⟩
 | b::r,done,cur,out,f + 1,h,hf,ho=>by
  have hlen:done.length + cur.length < line.length:=by rw [h]; simp
  have hi:idx line ((done.length + cur.length:Nat):Int)=some b:=by
   have:=Bi (done++cur) b r
   rw [List.length_append] at this
   rw [h]; exact this
  have hs:wr .i64 (((done.length + cur.length:Nat):Int) + 1)=((done.length + cur.length + 1:Nat):Int):=by
   rw [Fl (by omega) (by omega)]; omega
  by_cases hb:b=32
  ·subst hb
   by_cases hc:cur=[]
   ·subst hc
    refine ⟨.inr (),?_,?_⟩
    ·unfold BH Ce
     rw [if_pos (decide_eq_true (by omega)),hi,OS,if_pos (show (((32:UInt8).toNat:Int)==32)=true by decide),if_pos (beq_iff_eq.2 (by simp)),OS]
    ·show wsp [] (32::r)=none
     unfold wsp
     rw [if_pos rfl,if_pos rfl]
   ·have hcl:0 < cur.length:=List.length_pos_iff.2 hc
    obtain ⟨q,a1,a2⟩:=Gy line hn r (done++cur++[32]) [] (out++[cur]) f (by rw [h]; simp) (by simp at hf; omega) (by simp; omega)
    refine ⟨q,?_,?_⟩
    ·unfold BH Ce
     have hcut:(line.take (done.length + cur.length)).drop done.length=cur:=by
      rw [h,<-List.length_append,List.append_assoc,<-List.append_assoc done cur,List.take_left,List.drop_left]
     have k1:¬ (((done.length:Nat):Int)==((done.length + cur.length:Nat):Int))=true:=by rw [beq_iff_eq]; omega
     have k1':¬ ((((done.length + cur.length:Nat):Int))==((done.length:Nat):Int))=true:=by rw [beq_iff_eq]; omega
     have k2:CF (done.length:Int) ((done.length + cur.length:Nat):Int) line.length=true:=by simp only [CF,Bool.and_eq_true,decide_eq_true_eq]; omega
     have k3:CK 16 (out.length + [cur].length)=true:=Cj (by omega) (by simp; omega)
     rw [if_pos (decide_eq_true (by omega)),hi,OS]
     rw [if_pos (show (((32:UInt8).toNat:Int)==32)=true by decide)]
     rw [if_neg k1',if_pos k2,Int.toNat_natCast,Int.toNat_natCast,hcut,if_pos k3,OS]
     rw [hs]
     simp only []
     have e1:(done++cur++[32]).length=done.length + cur.length + 1:=by simp; omega
     rw [e1] at a1
     exact a1
    ·have hw:wsp cur (32::r)=(wsp [] r).map (cur::·):=by
      conv=>lhs; unfold wsp
      rw [if_pos rfl,if_neg hc]
     cases q with
     | inl p =>
      obtain ⟨a,o⟩:=p
      obtain ⟨d,c,b1,b2,b3,b4⟩:=a2
      refine ⟨d,c,b1,b2,b3,?_⟩
      by_cases hcc:c=[]
      ·rw [if_pos hcc] at b4 ⊢
       rw [hw,b4]; rfl
      ·rw [if_neg hcc] at b4 ⊢
       obtain ⟨o',e1,e2⟩:=b4
       exact ⟨cur::o',by rw [e1]; simp,by rw [hw,e2]; rfl⟩
     | inr u =>
      show wsp cur (32::r)=none
      have a2:wsp [] r=none:=a2
      rw [hw,a2]; rfl
  ·have hb':((b.toNat:Int)==32)=false:=by
    have:b.toNat≠32:=fun e=>hb (UInt8.toNat.inj (by rw [e]; rfl))
    simp; omega
   obtain ⟨q,a1,a2⟩:=Gy line hn r done (cur++[b]) out f (by rw [h]; simp) (by simp at hf; omega) ho
   have hw:wsp cur (b::r)=wsp (cur++[b]) r:=by
    conv=>lhs; unfold wsp
    rw [if_neg hb]
   refine ⟨q,?_,by rw [hw]; exact a2⟩
   unfold BH Ce
   rw [if_pos (decide_eq_true (by omega)),hi,OS,hb',if_neg (by simp),OS]
   show BH line f done.length (wr .i64 (((done.length + cur.length:Nat):Int) + 1)) out=some q
   rw [hs]
   have e1:(cur++[b]).length=cur.length + 1:=by simp
   rw [e1] at a1
   exact a1
/-- The pieces of a line are its words, unless one is empty. -/
theorem KV:∀ (rest cur:List UInt8),∃ p ps,pcs 32 rest=p::ps/\wsp cur rest=(if [] ∈ (cur++p)::ps then none else some ((cur++p)::ps))
 | [],cur=>by
  refine ⟨[],[],rfl,?_⟩
  unfold wsp
  by_cases hc:cur=[]
  ·rw [if_pos hc,if_pos (by simp [hc])]
  ·rw [if_neg hc,if_neg (fun h=>hc (by simpa using h))]; simp
 | b::r,cur=>by
  by_cases hb:b=32
  ·subst hb
   obtain ⟨p,ps,h1,h2⟩:=KV r []
   refine ⟨[],p::ps,by unfold pcs; rw [if_pos rfl,h1],?_⟩
   unfold wsp
   rw [if_pos rfl]
   by_cases hc:cur=[]
   ·rw [if_pos hc,if_pos (by simp [hc])]
   ·rw [if_neg hc,h2]
    rw [List.nil_append]
    by_cases hm:[] ∈ p::ps
    ·rw [if_pos hm,if_pos (List.mem_cons_of_mem _ hm)]; rfl
    ·rw [if_neg hm,if_neg (fun h=>by
      rcases List.mem_cons.1 h with h | h
      ·exact hc (by simpa using h.symm)
      ·exact hm h)]
     simp
  ·obtain ⟨p,ps,h1,h2⟩:=KV r (cur++[b])
   refine ⟨b::p,ps,by unfold pcs; rw [if_neg hb,h1],?_⟩
   unfold wsp
   rw [if_neg hb,h2]
   simp
theorem M6 (line:List UInt8) (hn:line.length<=2000):Dt line=some (if [] ∈ pcs 32 line then ([],false) else (pcs 32 line,true)):=by
 obtain ⟨q,a1,a2⟩:=Gy line hn line [] [] [] 100000 rfl (by omega) (by simp)
 have a1:BH line 100000 0 0 []=some q:=a1
 obtain ⟨p,ps,h1,h2⟩:=KV line []
 rw [List.nil_append,<-h1] at h2
 unfold Dt
 rw [a1,OS]
 cases q with
 | inl p =>
  obtain ⟨a,o⟩:=p
  obtain ⟨d,c,b1,rfl,b3,b4⟩:=a2
  show (if ((d.length:Int)==(line.length:Int))=true then _ else _)=_
  by_cases hc:c=[]
  ·rw [if_pos hc] at b4
   rw [b4] at h2
   rw [if_pos (by rw [b1,hc]; simp)]
   split at h2
   ·next hm=>rw [if_pos hm]
   ·cases h2
  ·rw [if_neg hc] at b4
   obtain ⟨o',e1,e2⟩:=b4
   have hcl:0 < c.length:=List.length_pos_iff.2 hc
   have hll:line.length=d.length + c.length:=by rw [b1]; simp
   have hdr:(line.take line.length).drop d.length=c:=by rw [List.take_length,b1,List.drop_left]
   rw [e2] at h2
   rw [if_neg (by simp; omega),if_pos (by simp only [CF,Bool.and_eq_true,decide_eq_true_eq]; omega)]
   show (if CK 16 (o.length + [((line.take (line.length:Int).toNat).drop (d.length:Int).toNat)].length)=true then some (o++[((line.take (line.length:Int).toNat).drop (d.length:Int).toNat)],true) else none)=_
   rw [Int.toNat_natCast,Int.toNat_natCast,hdr,if_pos (Cj (by omega) (by simp; omega))]
   split at h2
   ·cases h2
   ·next hm =>
    rw [if_neg hm,<-OI h2,e1]
    rfl
 | inr u =>
  have a2:wsp [] line=none:=a2
  rw [a2] at h2
  show some ([],false)=_
  split at h2
  ·next hm=>rw [if_pos hm]
  ·cases h2
theorem KL {α:Type}(a b:List α) (x y:α):(a++x::b).set a.length y=a++y::b:=by
 rw [List.set_append_right _ _ (Nat.le_refl _),Nat.sub_self]; rfl
theorem MJ {c:UInt8}{s:List UInt8}(h:(pcs c s).length=1):pcs c s=[s]:=by
 rw [Gn] at h
 exact Hx c fun hm=>by
  have:=List.count_pos_iff.2 hm
  omega
theorem Kc {lo hi n:Nat}(h1:lo<=hi) (h2:hi<=n):CF (lo:Int) (hi:Int) n=true:=by
 simp only [CF,Bool.and_eq_true,decide_eq_true_eq]; omega
theorem Ih (line:List UInt8) (N:Nat) (hN:N<=2001) (r7:Int) (hr:wr .i64 ((mnI r7 (wr .i64 ((line.length:Int) + 1))) - 1)=(N:Int) - 1):∀ (d:Nat) (s:List UInt8) (ws:List (List UInt8)) (f:Nat),s.length<=2000->(pcs 32 s).length=d + 1->ws.length + d + 1=N->d < f->∃ (last:List UInt8) (W:List (List UInt8)),Al line [32] 0 r7 f s ws.length (ws++List.replicate (d + 1) [])=some (last,(W.length:Int),W++[[]])/\W++[last]=ws++pcs 32 s/\W.length + 1=N
 | 0,s,ws,f + 1,_,h,hw,_=>by
  refine ⟨s,ws,?_,by rw [MJ h],hw⟩
  unfold Al
  rw [hr,if_neg (by rw [decide_eq_true_eq]; omega)]
  rfl
 | d + 1,s,ws,f + 1,hs,h,hw,hf=>by
  cases hf2:JK 32 s with
  | none =>
   rw [Hx 32 (Is hf2)] at h
   simp at h
  | some m =>
   obtain ⟨a1,_,_⟩:=GT hf2
   have hp:=NG hf2
   obtain ⟨last,W,b1,b2,b3⟩:=Ih line N hN r7 hr d (s.drop (m + 1)) (ws++[s.take m]) f (by simp; omega) (by rw [hp] at h; simpa using h) (by simp; omega) (by omega)
   refine ⟨last,W,?_,by rw [b2,hp]; simp,b3⟩
   have hx:BF s [32]=some (m:Int):=by rw [Kl,hf2]
   have e1:wr .i64 ((m:Int) + 0)=(m:Int):=by rw [Fl (by omega) (by omega)]; omega
   have e2:wr .i64 ((m:Int) + (([32]:List UInt8).length:Int))=((m + 1:Nat):Int):=by rw [Fl (by simp; omega) (by simp; omega)]; simp
   have e3:wr .i64 ((ws.length:Int) + 1)=((ws++[s.take m]).length:Int):=by rw [Fl (by omega) (by omega)]; simp
   have e4:ws++List.replicate (d + 1 + 1) ([]:List UInt8)=ws++[]::List.replicate (d + 1) []:=by rw [List.replicate_succ]
   have e5:(ws++List.replicate (d + 1 + 1) ([]:List UInt8)).set ws.length (s.take m)=(ws++[s.take m])++List.replicate (d + 1) []:=by rw [e4,KL]; simp
   have k1:CF ((0:Nat):Int) (m:Int) s.length=true:=Kc (Nat.zero_le _) (Nat.le_of_lt a1)
   have k1:CF 0 (m:Int) s.length=true:=k1
   have k2:CF ((m + 1:Nat):Int) (s.length:Int) s.length=true:=Kc a1 (Nat.le_refl _)
   have g1:(ws.length:Int) < (N:Int) - 1:=by clear hr; omega
   have g2:¬ (m:Int) < 0:=by clear hr; omega
   have k3:idx (ws++List.replicate (d + 1 + 1) ([]:List UInt8)) (ws.length:Int)=some []:=by rw [e4]; exact Bi _ _ _
   conv=>lhs; unfold Al
   rw [hr,if_pos (decide_eq_true g1),hx,OS,if_neg (by rw [decide_eq_true_eq]; exact g2),e1,if_pos k1,k3,OS,e2,if_pos k2,Int.toNat_natCast,Int.toNat_natCast,Int.toNat_natCast,Int.toNat_natCast,List.take_length,e3]
   rw [<-b1,<-e5]
   rfl
theorem M1 (line:List UInt8) (hl:line.length<=2000):CI line [32]=some (pcs 32 line):=by
 have hc:line.count 32<=line.length:=List.count_le_length
 have hN:=Gn 32 line
 have hj:BI line [32] (-1)=some (((line.count 32 + 1:Nat)):Int):=by
  unfold BI
  rw [if_pos (by decide)]
  show some (wr .i64 (((line.count 32:Nat):Int) + 1))=_
  rw [Fl (by omega) (by omega)]
  rfl
 have hM:mnI ((line.count 32 + 1:Nat):Int) (wr .i64 ((line.length:Int) + 1))=((line.count 32 + 1:Nat):Int):=by
  rw [Fl (by omega) (by omega)]
  unfold mnI
  rw [if_neg (by omega)]
 obtain ⟨last,W,a1,a2,a3⟩:=Ih line (line.count 32 + 1) (by omega) ((line.count 32 + 1:Nat):Int) (by rw [hM,Fl (by omega) (by omega)]) (line.count 32) line [] 100000 hl hN (by simp) (by omega)
 rw [List.nil_append,show ((([]:List (List UInt8)).length:Nat):Int)=0 from rfl] at a1
 rw [List.nil_append] at a2
 unfold CI CB
 rw [if_neg (by decide),if_neg (by decide),hj,OS,hM,if_pos (by simp only [LM,Bool.and_eq_true,decide_eq_true_eq]; omega),Int.toNat_natCast,a1,OS]
 have e1:wr .i64 ((W.length:Int) + 1)=((W.length + 1:Nat):Int):=by rw [Fl (by omega) (by omega)]; omega
 have e2:(W++[[]]).set W.length last=W++[last]:=KL W [] [] last
 have e3:(W++[last]).take (W.length + 1)=W++[last]:=List.take_of_length_le (by simp)
 have k1:N1 ((W.length + 1:Nat):Int) (W++[last]).length=true:=by simp only [N1,List.length_append,List.length_singleton,Bool.and_eq_true,decide_eq_true_eq]; omega
 simp only []
 rw [show idx (W++[[]]) (W.length:Int)=some [] from Bi _ _ _,OS,Int.toNat_natCast,e1,e2,if_pos k1,Int.toNat_natCast,e3,OS,a2]
theorem Gi (text:List UInt8) (hn:text.length<=2000):∀ (rest done cur:List UInt8) (out:List (List UInt8)) (f:Nat),text=done++cur++rest->(10:UInt8) ∉ cur->rest.length < f->out.length<=done.length->∃ (d c:List UInt8) (o:List (List UInt8)),Bb text f done.length ((done.length + cur.length:Nat):Int) out=some ((d.length:Int),o)/\text=d++c/\out++pcs 10 (cur++rest)=o++[c]/\o.length<=d.length
 | [],done,cur,out,f + 1,h,hc,_,ho=>by
  refine ⟨done,cur,out,?_,by rw [h]; simp,by rw [List.append_nil,Hx 10 hc],ho⟩
  unfold Bb
  rw [if_neg (by rw [h]; simp)]
 | b::r,done,cur,out,f + 1,h,hc,hf,ho=>by
  have hlen:done.length + cur.length < text.length:=by rw [h]; simp
  have hi:idx text ((done.length + cur.length:Nat):Int)=some b:=by
   have:=Bi (done++cur) b r
   rw [List.length_append] at this
   rw [h]; exact this
  have hs:wr .i64 (((done.length + cur.length:Nat):Int) + 1)=((done.length + cur.length + 1:Nat):Int):=by
   rw [Fl (by omega) (by omega)]; omega
  by_cases hb:b=10
  ·subst hb
   obtain ⟨d,c,o,a1,a2,a3,a4⟩:=Gi text hn r (done++cur++[10]) [] (out++[cur]) f (by rw [h]; simp) (by simp) (by simp at hf; omega) (by simp; omega)
   refine ⟨d,c,o,?_,a2,by rw [KJ 10 r hc,<-a3]; simp,a4⟩
   have hcut:(text.take (done.length + cur.length)).drop done.length=cur:=by
    rw [h,<-List.length_append,List.append_assoc,<-List.append_assoc done cur,List.take_left,List.drop_left]
   have k2:CF (done.length:Int) ((done.length + cur.length:Nat):Int) text.length=true:=by simp only [CF,Bool.and_eq_true,decide_eq_true_eq]; omega
   have k3:CK 16 (out.length + [cur].length)=true:=Cj (by omega) (by simp; omega)
   unfold Bb DS
   rw [if_pos (decide_eq_true (by omega)),hi,OS]
   rw [if_pos (show (((10:UInt8).toNat:Int)==10)=true by decide)]
   rw [if_pos k2,Int.toNat_natCast,Int.toNat_natCast,hcut,if_pos k3,OS,hs]
   simp only []
   have e1:(done++cur++[10]).length=done.length + cur.length + 1:=by simp; omega
   rw [e1] at a1
   exact a1
  ·have hb':((b.toNat:Int)==10)=false:=by
    have:b.toNat≠10:=fun e=>hb (UInt8.toNat.inj (by rw [e]; rfl))
    simp; omega
   obtain ⟨d,c,o,a1,a2,a3,a4⟩:=Gi text hn r done (cur++[b]) out f (by rw [h]; simp) (by simp only [List.mem_append,List.mem_singleton,not_or]; exact ⟨hc,fun e=>hb e.symm⟩) (by simp at hf; omega) ho
   refine ⟨d,c,o,?_,a2,by rw [<-a3]; simp,a4⟩
   unfold Bb DS
   rw [if_pos (decide_eq_true (by omega)),hi,OS,hb',if_neg (by simp),OS,hs]
   simp only []
   have e1:(cur++[b]).length=cur.length + 1:=by simp
   rw [e1] at a1
   exact a1
theorem Mp (text:List UInt8) (hn:text.length<=2000):∃ (o:List (List UInt8)) (c:List UInt8),pcs 10 text=o++[c]/\Dr text=some (if c=[] then (o,true) else (o++[c],false)):=by
 obtain ⟨d,c,o,a1,a2,a3,a4⟩:=Gi text hn text [] [] [] 100000 rfl (by simp) (by omega) (by simp)
 have a1:Bb text 100000 0 0 []=some ((d.length:Int),o):=a1
 rw [List.nil_append,List.nil_append] at a3
 refine ⟨o,c,a3,?_⟩
 have hll:text.length=d.length + c.length:=by rw [a2]; simp
 unfold Dr
 rw [a1,OS]
 simp only []
 by_cases hc:c=[]
 ·rw [if_neg (by rw [decide_eq_true_eq,hll,hc]; simp),if_pos hc]
 ·have hcl:0 < c.length:=List.length_pos_iff.2 hc
  have hdr:(text.take text.length).drop d.length=c:=by rw [List.take_length,a2,List.drop_left]
  have k2:CF (d.length:Int) (text.length:Int) text.length=true:=by simp only [CF,Bool.and_eq_true,decide_eq_true_eq]; omega
  rw [if_pos (decide_eq_true (by omega)),if_pos k2,Int.toNat_natCast,Int.toNat_natCast,hdr,if_pos (Cj (by omega) (by simp; omega)),if_neg hc]
def evL:List (List UInt8)->List (List Int)->List Int->Option (List (List Int))
 | [],out,_=>some out
 | w::ws,out,tab=>if w=[47] then (if tab=[] then none else evL ws (out++[tab]) []) else match LW w with
  | none=>none
  | some x=>evL ws out (tab++[(x:Int)])
theorem J3:∀ (ws:List (List UInt8)) (out:List (List Int)) (tab:List Int),evL (ws++[[47]]) out tab=evW ws out tab
 | [],out,tab=>by
  show evL [[47]] out tab=_
  unfold evL evW
  rw [if_pos rfl]
  rfl
 | w::ws,out,tab=>by
  show evL (w::(ws++[[47]])) out tab=_
  unfold evL evW
  rw [J3 ws]
  cases LW w with
  | none=>rfl
  | some x=>simp only []; rw [J3 ws]
theorem J6:∀ (ws:List (List UInt8)) (out:List (List Int)) (tab:List Int),[] ∈ ws->evW ws out tab=none
 | w::ws,out,tab,h=>by
  unfold evW
  rcases List.mem_cons.1 h with h | h
  ·subst h
   rw [if_neg (by simp)]
   rfl
  ·rw [J6 ws _ _ h]
   cases LW w with
   | none=>simp
   | some x=>simp only []; rw [J6 ws _ _ h]; simp
theorem J5:∀ (ws:List (List UInt8)) (out:List (List Int)) (tab:List Int) (o:List (List Int)),evW ws out tab=some o->o.length<=out.length + ws.length + 1/\o.flatten.length<=out.flatten.length + tab.length + ws.length
 | [],out,tab,o,h=>by
  unfold evW at h
  split at h
  ·cases h
  ·have h:=OI h
   subst h
   simp
 | w::ws,out,tab,o,h=>by
  unfold evW at h
  split at h
  ·split at h
   ·cases h
   ·have:=J5 ws _ _ o h
    simp only [List.length_append,List.flatten_append,List.flatten_cons,List.flatten_nil,List.append_nil,List.length_nil,List.length_cons] at this ⊢
    omega
  ·split at h
   ·cases h
   ·have:=J5 ws _ _ o h
    simp only [List.length_append,List.length_nil,List.length_cons] at this ⊢
    omega
theorem J4 {line:List UInt8}{t:List (List Int)}(h:evP line=some t):t.length<=line.length + 2/\t.flatten.length<=line.length + 1:=by
 have a:=J5 _ _ _ t h
 have b:=Gn 32 line
 have c:line.count 32<=line.length:=List.count_le_length
 simp only [List.length_nil,List.flatten_nil] at a
 omega
theorem Ok {α:Type}(xs:List α):((xs.length:Int)==0)=true↔xs=[]:=by
 rw [beq_iff_eq]
 constructor
 ·intro h; exact List.eq_nil_of_length_eq_zero (by omega)
 ·intro h; rw [h]; rfl
theorem J7 (v1:List (List UInt8)) (hv:v1.length<=3000):∀ (r pre:List (List UInt8)) (out:List (List Int)) (tab:List Int) (f:Nat),v1++[[47]]=pre++r->r.length < f->out.length<=pre.length->tab.length<=pre.length->Ai v1 f pre.length out tab=some (match evL r out tab with | some o=> .inl o | none=> .inr ())
 | [],pre,out,tab,f + 1,h,_,_,_=>by
  unfold Ai
  rw [if_neg (by rw [h]; simp)]
  rfl
 | w::r,pre,out,tab,f + 1,h,hf,ho,ht=>by
  have hl:pre.length + r.length + 1=v1.length + 1:=by
   have:=congrArg List.length h
   simp at this
   omega
  have hi:idx (v1++[[47]]) (pre.length:Int)=some w:=by rw [h]; exact Bi pre w r
  have h1:wr .i64 ((pre.length:Int) + 1)=((pre++[w]).length:Int):=by rw [Fl (by omega) (by omega)]; simp
  have h':v1++[[47]]=(pre++[w])++r:=by rw [h]; simp
  simp only [List.length_cons] at hf
  have hp:(pre++[w]).length=pre.length + 1:=by simp
  unfold Ai
  rw [if_pos (by rw [h]; exact FO pre w r),hi,OS]
  unfold evL
  by_cases hw:w=[47]
  ·rw [if_pos (beq_iff_eq.2 hw),if_pos hw]
   by_cases hz:tab=[]
   ·rw [if_pos ((Ok tab).2 hz),if_pos hz]
   ·rw [if_neg (fun e=>hz ((Ok tab).1 e)),if_neg hz,if_pos (Cj (by omega) (by simp; omega)),h1]
    exact J7 v1 hv r (pre++[w]) (out++[tab]) [] f h' (by omega) (by simp; omega) (by simp)
  ·rw [if_neg (fun e=>hw (beq_iff_eq.1 e)),if_neg hw,MF,OS]
   cases LW w with
   | none=>rfl
   | some x =>
    have hn:¬ (!(Ol (some x)).2)=true:=by show ¬ (!true)=true; decide
    rw [if_neg hn,if_pos (Cj (by omega) (by simp; omega)),h1]
    exact J7 v1 hv r (pre++[w]) out (tab++[(x:Int)]) f h' (by omega) (by omega) (by simp; omega)
theorem IX (line:List UInt8) (hl:line.length<=2000):BS line=some (match evP line with | some t=>(t,true) | none=>([],false)):=by
 have b:=Gn 32 line
 have c:line.count 32<=line.length:=List.count_le_length
 have h:=J7 (pcs 32 line) (by omega) (pcs 32 line++[[47]]) [] [] [] 100000 rfl (by simp; omega) (by simp) (by simp)
 have h:Ai (pcs 32 line) 100000 0 [] []=_:=h
 unfold BS
 rw [M1 line hl,OS,if_pos (Cj (by omega) (by simp; omega)),h,OS,J3]
 show (match (match evP line with | some o=>Sum.inl o | none=>Sum.inr ()) with | .inl w63=>some (w63,true) | .inr w70=>some ([],false))=_
 cases evP line <;> rfl
theorem I7 (ws:List (List UInt8)) (hv:ws.length<=3000):∀ (r pre:List (List UInt8)) (out:List (List Int)) (tab:List Int) (f:Nat),ws=pre++r->r.length < f->out.length<=pre.length->tab.length<=pre.length->∃ q,A1 (ws,true) f pre.length (out++[tab])=some q/\(match q with
  | .inl w=>∃ o t,w=o++[t]/\o.length<=ws.length/\evW r out tab=(if t=[] then none else some (o++[t]))
  | .inr _=>evW r out tab=none)
 | [],pre,out,tab,f + 1,h,_,ho,_=>by
  refine ⟨.inl (out++[tab]),?_,out,tab,rfl,by rw [h,List.append_nil]; exact ho,rfl⟩
  unfold A1
  rw [if_neg (by simp only []; rw [h]; simp)]
 | w::r,pre,out,tab,f + 1,h,hf,ho,ht=>by
  have hl:pre.length + r.length + 1=ws.length:=by rw [h]; simp; omega
  have hi:idx ws (pre.length:Int)=some w:=by rw [h]; exact Bi pre w r
  have h1:wr .i64 ((pre.length:Int) + 1)=((pre++[w]).length:Int):=by rw [Fl (by omega) (by omega)]; simp
  have h':ws=(pre++[w])++r:=by rw [h]; simp
  have h2:wr .i64 (((out++[tab]).length:Int) - 1)=(out.length:Int):=by
   have:(out++[tab]).length=out.length + 1:=by simp
   rw [this,Fl (by omega) (by omega)]; omega
  have h3:idx (out++[tab]) (out.length:Int)=some tab:=Bi out tab []
  simp only [List.length_cons] at hf
  have hp:(pre++[w]).length=pre.length + 1:=by simp
  unfold A1
  simp only []
  rw [if_pos (by rw [h]; exact FO pre w r),hi,OS]
  by_cases hw:w=[47]
  ·have he:evW (w::r) out tab=if tab=[] then none else evW r (out++[tab]) []:=by
    conv=>lhs; unfold evW
    rw [if_pos hw]
   rw [if_pos (beq_iff_eq.2 hw),h2,h3,OS]
   by_cases hz:tab=[]
   ·rw [if_pos ((Ok tab).2 hz)]
    exact ⟨_,rfl,by rw [he,if_pos hz]⟩
   ·rw [if_neg (fun e=>hz ((Ok tab).1 e)),if_pos (Cj (by omega) (by simp; omega)),h1]
    obtain ⟨q,a1,a2⟩:=I7 ws hv r (pre++[w]) (out++[tab]) [] f h' (by omega) (by simp; omega) (by simp)
    refine ⟨q,a1,?_⟩
    rw [if_neg hz] at he
    rw [he]; exact a2
  ·rw [if_neg (fun e=>hw (beq_iff_eq.1 e)),OS,LH,OS]
   have he:evW (w::r) out tab=match LW w with | none=>none | some x=>evW r out (tab++[(x:Int)]):=by
    conv=>lhs; unfold evW
    rw [if_neg hw]
    all_goals (cases LW w <;> rfl)
   cases hx:LW w with
   | none =>
    rw [hx] at he
    exact ⟨.inr (),rfl,he⟩
   | some x =>
    rw [hx] at he
    have hn:¬ (!(Ol (some x)).2)=true:=by show ¬ (!true)=true; decide
    rw [if_neg hn,h2,h3,OS,if_pos (Cj (by omega) (by simp; omega)),OS,h1,Int.toNat_natCast,KL]
    obtain ⟨q,a1,a2⟩:=I7 ws hv r (pre++[w]) out (tab++[(x:Int)]) f h' (by omega) (by omega) (by simp; omega)
    exact ⟨q,a1,by rw [he]; exact a2⟩
theorem H1 (line:List UInt8) (hl:line.length<=2000):∃ r ok,B0 line=some (r,ok)/\(match evP line with | some t=>r=t/\ok=true | none=>ok=false):=by
 have b:=Gn 32 line
 have c:line.count 32<=line.length:=List.count_le_length
 unfold B0
 rw [M6 line hl,OS]
 by_cases hm:[] ∈ pcs 32 line
 ·rw [if_pos hm]
  refine ⟨[],false,rfl,?_⟩
  have:evP line=none:=J6 _ _ _ hm
  rw [this]
 ·rw [if_neg hm]
  obtain ⟨q,a1,a2⟩:=I7 (pcs 32 line) (by omega) (pcs 32 line) [] [] [] 100000 rfl (by omega) (by simp) (by simp)
  have a1:A1 (pcs 32 line,true) 100000 0 [[]]=some q:=a1
  rw [if_neg (by show ¬ (!true)=true; decide),a1,OS]
  cases q with
  | inl w =>
   obtain ⟨o,t,rfl,h5,e⟩:=a2
   have e:evP line=_:=e
   have h2:wr .i64 (((o++[t]).length:Int) - 1)=(o.length:Int):=by
    have h3:(o++[t]).length=o.length + 1:=by simp
    rw [h3]
    rw [Fl (by omega) (by omega)]; omega
   simp only []
   rw [h2,Bi o t [],OS]
   refine ⟨_,_,rfl,?_⟩
   rw [e]
   by_cases ht:t=[]
   ·rw [if_pos ht,ht]; rfl
   ·rw [if_neg ht]
    have:0 < t.length:=List.length_pos_iff.2 ht
    exact ⟨rfl,decide_eq_true (by omega)⟩
  | inr u =>
   have a2:evP line=none:=a2
   rw [a2]
   exact ⟨_,_,rfl,rfl⟩
def LY (n:Int):List (List UInt8)->Nat->List (List (List Int))->(List (List (List Int))) ⊕ (Int×Int)
 | [],_,out=> .inl out
 | [p],line,out=>if p=[] then .inl out else .inr ((line:Int),3)
 | p::q::r,line,out=>match evP p with
  | none=> .inr ((line:Int),3)
  | some t=>if chk n [] t≠0 then .inr ((line:Int),chk n [] t) else if out.length=64 then .inr ((line:Int),7) else LY n (q::r) (line + 1) (out++[t])
theorem Kw (n:Int):∀ (ps:List (List UInt8)) (line:Nat) (out s:List (List (List Int))),(∀ p ∈ ps,p.length<=2000)->out.length<=64->(∀ ev ∈ out,ev.length<=2002/\ev.flatten.length<=2001)->LY n ps line out = .inl s->s.length<=64/\∀ ev ∈ s,ev.length<=2002/\ev.flatten.length<=2001
 | [],_,out,s,_,ho,hb,h=>by
  have h:out=s:=Sum.inl.inj h
  subst h; exact ⟨ho,hb⟩
 | [p],_,out,s,_,ho,hb,h=>by
  unfold LY at h
  split at h
  ·have h:out=s:=Sum.inl.inj h
   subst h; exact ⟨ho,hb⟩
  ·cases h
 | p::q::r,line,out,s,hp,ho,hb,h=>by
  unfold LY at h
  cases he:evP p with
  | none=>rw [he] at h; cases h
  | some t =>
   rw [he] at h
   simp only [] at h
   split at h
   ·cases h
   ·split at h
    ·cases h
    ·refine Kw n (q::r) (line + 1) (out++[t]) s (fun x hx=>hp x (List.mem_cons_of_mem _ hx)) (by simp; omega) (fun ev hev=>?_) h
     rcases List.mem_append.1 hev with hev | hev
     ·exact hb ev hev
     ·rw [List.mem_singleton.1 hev]
      have a:=J4 he
      have b:=hp p (by simp)
      omega
theorem Ic (n:Int) (h0:0<=n) (h64:n<=64):∀ (f:Nat) (text:List UInt8) (out:List (List (List Int))) (line:Nat),text.length<=2000->text.length < f->line + text.length<=4000->out.length<=64->BK n f text out line=some (LY n (pcs 10 text) line out)
 | 0,_,_,_,_,h,_,_=>by omega
 | f + 1,text,out,line,hl,hf,hn,ho=>by
  unfold BK
  by_cases ht:text=[]
  ·subst ht
   rw [if_neg (by simp)]
   rfl
  ·rw [if_pos (by simpa using ht),OD text 10 (by omega),OS]
   cases hx:JK 10 text with
   | none =>
    simp only []
    rw [IX text hl,OS,Hx 10 (Is hx),if_pos (by decide),OS,if_pos rfl]
    unfold LY
    rw [if_neg ht]
   | some i =>
    obtain ⟨a1,_,_⟩:=GT hx
    have e1:(text.take i).length<=2000:=by simp; omega
    have e2:(text.drop (i + 1)).length=text.length - (i + 1):=by simp
    obtain ⟨q,r,hq⟩:=I4 10 (text.drop (i + 1))
    have ih:=Ic n h0 h64 f (text.drop (i + 1))
    rw [hq] at ih
    simp only []
    rw [IX _ e1,OS,NG hx,hq,if_neg (by decide),OS]
    unfold LY
    cases he:evP (text.take i) with
    | none=>rfl
    | some t =>
     have hb:=J4 he
     have hc:Ba n [] t=some (chk n [] t):=HB n h0 h64 [] t (by omega) (by omega)
     simp only []
     rw [if_neg (by decide),hc,OS]
     by_cases hk:chk n [] t=0
     ·rw [hk,if_neg (show ¬ (((0:Int)!=0)=true) by decide),if_neg (show ¬ ((0:Int)≠0) from fun e=>e rfl)]
      by_cases h6:out.length=64
      ·rw [if_pos (by rw [beq_iff_eq,h6]; rfl),if_pos h6]
      ·rw [if_neg (by rw [beq_iff_eq]; omega),if_neg h6,if_pos (Cj (by omega) (by omega)),Fl (by omega) (by omega)]
       exact ih (out++[t]) (line + 1) (by omega) (by omega) (by omega) (by simp; omega)
     ·rw [if_pos (by simpa using hk),if_pos hk]
theorem H2 (n:Int) (h0:0<=n) (h64:n<=64) (o:List (List UInt8)) (c:List UInt8) (hlen:(o++[c]).length<=3000) (hp:∀ p ∈ o++[c],p.length<=2000):∀ (suf pre:List (List UInt8)) (out:List (List (List Int))) (f:Nat),o++[c]=pre++suf->suf≠[]->out.length=pre.length->out.length<=64->suf.length < f->BO n (if c=[] then (o,true) else (o++[c],false)) f out pre.length=some (LY n suf pre.length out)
 | [],_,_,_,_,h,_,_,_=>absurd rfl h
 | [p],pre,out,f + 1,h,_,hl,ho,_=>by
  obtain ⟨e1,e2⟩:=List.append_inj' h rfl
  have e2:c=p:=List.singleton_inj.1 e2
  subst e1 e2
  unfold BO LY
  by_cases hc:c=[]
  ·rw [if_pos hc,if_pos hc,if_neg (by simp)]
  ·rw [if_neg hc,if_neg hc]
   obtain ⟨r,ok,a1,_⟩:=H1 c (hp c (by simp))
   have hle:(o++[c]).length=o.length + 1:=by simp
   have h2:((o.length:Int)==wr .i64 (((o++[c]).length:Int) - 1))=true:=by
    rw [beq_iff_eq,Fl (by omega) (by omega)]
    omega
   rw [if_pos (by rw [decide_eq_true_eq]; simp only []; omega),Bi o c [],OS,a1,OS]
   simp only []
   rw [h2]
   cases ok <;> rfl
 | p::q::r,pre,out,f + 1,h,_,hl,ho,hf=>by
  have ho':∃ o',o=pre++p::o':=by
   have h2:q::r=(q::r).dropLast++[(q::r).getLast (by simp)]:=(List.dropLast_concat_getLast (by simp)).symm
   rw [h2] at h
   have h3:o++[c]=(pre++p::(q::r).dropLast)++[(q::r).getLast (by simp)]:=by rw [h]; simp
   exact ⟨_,(List.append_inj' h3 rfl).1⟩
  obtain ⟨o',rfl⟩:=ho'
  obtain ⟨t,ok,a1,a2⟩:=H1 p (hp p (by simp))
  have hll:pre.length + o'.length + 2<=3000:=by simp at hlen; omega
  have h1:wr .i64 ((pre.length:Int) + 1)=((pre++[p]).length:Int):=by rw [Fl (by omega) (by omega)]; simp
  have ih:=H2 n h0 h64 (pre++p::o') c hlen hp (q::r) (pre++[p]) (out++[t]) f (by rw [h]; simp) (by simp) (by simp [hl])
  -- what the list of lines answers here
  have hv:∃ v5:List (List UInt8)×Bool,(if c=[] then (pre++p::o',true) else ((pre++p::o')++[c],false))=v5/\idx v5.1 (pre.length:Int)=some p/\(decide ((pre.length:Int) < (v5.1.length:Int)))=true/\(((pre.length:Int)==wr .i64 ((v5.1.length:Int) - 1))=true->v5.2=true):=by
   by_cases hc:c=[]
   ·rw [if_pos hc]
    exact ⟨_,rfl,Bi pre p o',FO pre p o',fun _=>rfl⟩
   ·rw [if_neg hc]
    refine ⟨_,rfl,?_,?_,fun e=>?_⟩
    ·show idx ((pre++p::o')++[c]) _=_
     rw [List.append_assoc]
     exact Bi pre p (o'++[c])
    ·simp; omega
    ·exfalso
     rw [beq_iff_eq,Fl (by simp; omega) (by simp; omega)] at e
     simp at e
     omega
  obtain ⟨v5,e5,b1,b2,b3⟩:=hv
  rw [e5] at ih ⊢
  unfold BO LY
  rw [if_pos b2,b1,OS,a1,OS]
  simp only []
  have hj:(if ((pre.length:Int)==wr .i64 ((v5.1.length:Int) - 1))=true then some (out,(!v5.2)) else some (out,false))=some (out,false):=by
   by_cases e:((pre.length:Int)==wr .i64 ((v5.1.length:Int) - 1))=true
   ·rw [if_pos e,b3 e]; rfl
   ·rw [if_neg e]
  rw [hj]
  cases he:evP p with
  | none =>
   rw [he] at a2
   have a2:ok=false:=a2
   subst a2
   rfl
  | some t' =>
   rw [he] at a2
   obtain ⟨rfl,rfl⟩:t=t'/\ok=true:=a2
   have hb:=J4 he
   have hpl:=hp p (by simp)
   have hc:Aw n [] t=some (chk n [] t):=FQ n h0 h64 [] t (by omega) (by omega)
   rw [if_neg (by decide),OS]
   simp only []
   rw [if_neg (by decide),hc,OS]
   by_cases hk:chk n [] t=0
   ·rw [hk,if_neg (show ¬ (((0:Int)!=0)=true) by decide),if_neg (show ¬ ((0:Int)≠0) from fun e=>e rfl)]
    by_cases h6:out.length=64
    ·rw [if_pos (by rw [beq_iff_eq,<-hl,h6]; rfl),if_pos h6]
    ·rw [if_neg (by rw [beq_iff_eq]; omega),if_neg h6,if_pos (Cj (by omega) (by omega)),h1]
     have:=ih (by simp; omega) (by simp at hf ⊢; omega)
     rw [this]
     simp
   ·rw [if_pos (by simpa using hk),if_pos hk]
/- A schedule is the same as itself. -/
theorem Ox {ρ:Type}(n:Nat) (R:Option ρ) (L:Nat->Int->Option ρ) (hn:n<=99999) (hs:∀ i,i < n->∀ f,L (f + 1) (i:Int)=L f (wr .i64 ((i:Int) + 1))) (he:∀ f,L (f + 1) (n:Int)=R):L 100000 0=R:=by
 have go:∀ (d i f:Nat),i + d=n->d < f->L f (i:Int)=R:=by
  intro d
  induction d with
  | zero =>
   intro i f e hf
   obtain ⟨f,rfl⟩:∃ q,f=q + 1:=⟨f - 1,by omega⟩
   rw [show i=n by omega]; exact he f
  | succ d ih =>
   intro i f e hf
   obtain ⟨f,rfl⟩:∃ q,f=q + 1:=⟨f - 1,by omega⟩
   rw [hs i (by omega) f,Fl (by omega) (by omega),show ((i:Int) + 1)=((i + 1:Nat):Int) by omega]
   exact ih (i + 1) f (by omega) (by omega)
 exact go n 0 100000 (by omega) (by omega)
theorem L2 (xs:List Int) (h:xs.length<=99999):Bv xs xs=some true:=by
 have h1:BD xs xs 100000 0=some (.inl ()):=Ox xs.length _ (fun f i=>BD xs xs f i) h (fun i hi f=>by
  conv=>lhs; unfold BD
  rw [if_pos (by simp; exact hi),Jb hi,OS,OS,if_neg (by simp)]) (fun f=>by
  show BD xs xs (f + 1) (xs.length:Int)=_
  unfold BD
  rw [if_neg (by simp)])
 unfold Bv
 rw [if_neg (by simp),h1]; rfl
theorem LI (xs:List (List Int)) (h:xs.length<=99999) (hx:∀ x ∈ xs,x.length<=99999):Bc xs xs=some true:=by
 have h1:A7 xs xs 100000 0=some (.inl ()):=Ox xs.length _ (fun f i=>A7 xs xs f i) h (fun i hi f=>by
  conv=>lhs; unfold A7
  rw [if_pos (by simp; exact hi),Jb hi,OS,OS,L2 _ (hx _ (List.getElem_mem hi)),OS,if_neg (by simp)]) (fun f=>by
  show A7 xs xs (f + 1) (xs.length:Int)=_
  unfold A7
  rw [if_neg (by simp)])
 unfold Bc
 rw [if_neg (by simp),h1]; rfl
theorem Ie (xs:List (List (List Int))) (h:xs.length<=99999) (hx:∀ x ∈ xs,x.length<=99999/\x.flatten.length<=99999):CL xs xs=some true:=by
 have hl:∀ x ∈ xs,∀ t ∈ x,t.length<=99999:=fun x hm t ht=>by
  have a:=(hx x hm).2
  have b:t.length<=x.flatten.length:=by
   obtain ⟨a,b,rfl⟩:=List.append_of_mem ht
   simp; omega
  omega
 have h1:AE xs xs 100000 0=some (.inl ()):=Ox xs.length _ (fun f i=>AE xs xs f i) h (fun i hi f=>by
  have hm:=List.getElem_mem hi
  conv=>lhs; unfold AE
  rw [if_pos (by simp; exact hi),Jb hi,OS,OS]
  unfold CH
  rw [LI _ (hx _ hm).1 (hl _ hm),OS,OS,if_neg (by simp)]) (fun f=>by
  show AE xs xs (f + 1) (xs.length:Int)=_
  unfold AE
  rw [if_neg (by simp)])
 unfold CL AR
 rw [if_neg (by simp),h1]; rfl
theorem MI (c:UInt8):∀ (s:List UInt8),∀ p ∈ pcs c s,p.length<=s.length
 | [],p,h=>by
  have h:p ∈ [[]]:=h
  rw [List.mem_singleton.1 h]; simp
 | b::s,p,h=>by
  have ih:=MI c s
  unfold pcs at h
  by_cases hb:b=c
  ·rw [if_pos hb] at h
   rcases List.mem_cons.1 h with h | h
   ·rw [h]; simp
   ·have:=ih p h; simp; omega
  ·rw [if_neg hb] at h
   obtain ⟨w,ws,e⟩:=I4 c s
   rw [e] at h ih
   rcases List.mem_cons.1 h with h | h
   ·have:=ih w (by simp)
    rw [h]; simp; omega
   ·have:=ih p (List.mem_cons_of_mem _ h); simp; omega
/-- Both parsers answer the same, and it is the same as itself. -/
theorem K7 (n:Int) (text:List UInt8) (h:text.length<=2000\/65536 < text.length):∃ r:List (List (List Int))×Int×Int,Bz n text=some r/\CZ n text=some r/\CL r.1 r.1=some true:=by
 have hg:Bg n=some (decide (1<=n)&&decide (n<=64)):=by
  unfold Bg
  by_cases h:1<=n
  ·simp [h]
  ·simp [h]
 have hr:(if (decide (n < 1))=true then some true else some (decide (n > 64)))=some (!(decide (1<=n)&&decide (n<=64))):=by
  by_cases h1:n < 1
  ·have:¬ 1<=n:=by omega
   simp [h1,this]
  ·have h2:1<=n:=by omega
   simp only [h1,h2,decide_false,decide_true,Bool.true_and,Bool.false_eq_true,if_false]
   by_cases h3:n<=64
   ·have:¬ n > 64:=by omega
    simp [h3,this]
   ·have:n > 64:=by omega
    simp [h3,this]
 have hs0:CL [] []=some true:=Ie [] (by simp) (fun x hx=>by cases hx)
 unfold Bz CZ
 rw [hg,hr,OS,OS]
 by_cases hn:1<=n/\n<=64
 ·have hn':(decide (1<=n)&&decide (n<=64))=true:=by simp [hn]
  rw [hn',if_neg (show ¬ (!true)=true by decide),if_neg (show ¬ (!true)=true by decide)]
  rcases h with h | h
  ·obtain ⟨o,c,p1,p2⟩:=Mp text h
   have hc:text.count 10<=text.length:=List.count_le_length
   have hpl:=Gn 10 text
   have hpm:=MI 10 text
   have q1:=Ic n (by omega) hn.2 100000 text [] 0 h (by omega) (by omega) (by simp)
   have q1:BK n 100000 text [] 0=_:=q1
   have q2:=H2 n (by omega) hn.2 o c (by rw [<-p1]; omega) (fun p hp=>by rw [<-p1] at hp; have:=hpm p hp; omega) (o++[c]) [] [] 100000 rfl (by simp) rfl (by simp) (by rw [<-p1]; omega)
   have q2:BO n (if c=[] then (o,true) else (o++[c],false)) 100000 [] 0=some (LY n (o++[c]) 0 []):=q2
   rw [p1] at q1
   rw [if_neg (by rw [decide_eq_true_eq]; omega),p2,OS,q1,q2,OS,OS,if_neg (by rw [decide_eq_true_eq]; omega)]
   have hb:=Kw n (o++[c]) 0 []
   rw [p1] at hpm
   cases hS:LY n (o++[c]) 0 [] with
   | inl s =>
    obtain ⟨b1,b2⟩:=hb s (fun p hp=>by have:=hpm p hp; omega) (by simp) (fun ev he=>by cases he) hS
    exact ⟨(s,0,0),rfl,rfl,Ie s (by omega) fun x hx=>by have:=b2 x hx; omega⟩
   | inr w=>exact ⟨([],w.1,w.2),rfl,rfl,hs0⟩
  ·rw [if_pos (by rw [decide_eq_true_eq]; omega),if_pos (by rw [decide_eq_true_eq]; omega)]
   exact ⟨_,rfl,rfl,hs0⟩
 ·have hn':(decide (1<=n)&&decide (n<=64))=false:=by
   rw [Bool.eq_false_iff]
   intro e
   simp at e
   exact hn e
  rw [hn',if_pos (show (!false)=true from rfl),if_pos (show (!false)=true from rfl)]
  exact ⟨_,rfl,rfl,hs0⟩
theorem LO (n:Int) (text:List UInt8):A2 n text=some true:=by
 have hw:Du=some true:=rfl
 have hP:(text.length<=2000\/65536 < text.length)->Bw n text=some true:=fun h=>by
  obtain ⟨r,a1,a2,a3⟩:=K7 n text h
  unfold Bw
  rw [a1,a2,OS,OS,a3,OS,if_pos rfl,if_pos (by simp)]
  simp
 unfold A2
 rw [hw]
 by_cases h1:text.length<=2000
 ·rw [if_neg (by rw [decide_eq_true_eq]; omega),hP (.inl h1)]; rfl
 ·rw [if_pos (by rw [decide_eq_true_eq]; omega)]
  by_cases h2:text.length<=65536
  ·rw [if_pos (by rw [decide_eq_true_eq]; omega)]; rfl
  ·rw [if_neg (by rw [decide_eq_true_eq]; omega),hP (.inr (by omega))]; rfl
end Go.Proofs.YteidjjolfapemaaDoor
namespace Go.Proofs.YteidjjolfapemaaDoor.eveningParses
open Go.ChangeShapes Go.WideShapes Go.ChangeAt Go.RowKit
theorem Na (a0:Int) (a1:(List UInt8)) (h:A2 a0 a1=some true){w:World}{v0 v1:Value}(h0:VR w (fun c=>c < w.heap.size) [] (cdI.enc a0) v0) (h1:VR w (fun c=>c < w.heap.size) [] (cdS.enc a1) v1):Ret Tryd.prog 3 #[v0,v1] w fun v w'=>v = .bool true/\w.grownBy w' none :=
 Ret.mono (Fa.2 (A9.enc (a0,a1,())) (BU true) (JF (s:=A9) (a:=(a0,a1,())) h) w (fun c=>c < w.heap.size) [v0,v1] (fun c hc=>hc) (fun g x h=>by cases h) (.cons h0 (.cons h1 .nil))) fun v w' h=>⟨h.2.v_inv,h.1⟩
set_option maxRecDepth 100000 in
theorem Me (H:Type) (enc:TypeId×Value->H) (W:World) (base:Nat) (args:Array Value) (ds gs:List (DataW H)) (before:List MemPlace)
  (hval:∀ (j:Nat) t v,Tryd.f3.params[j]? = some t->args[j]? = some v->Value.okWide Tryd.prog W .any base t v)
  (hW:DataW.Whole enc Tryd.prog Tryd.f3.params.toList Rows.eveningParsesSpec.vars false W args.toList ds gs before)
  (hsz:(DataW.weightsEach Tryd.prog (Tryd.f3.params.toList++(OpenSpec.ofChange Rows.eveningParsesSpec).bare.plain.varTypes Tryd.prog) (ds++gs)).all (·<=reachBytes)=true) :
  Calls Tryd.prog 3 args W fun e W'=>∃ v,e = .returned v/\Rows.eveningParsesSpec.post enc Tryd.prog Tryd.f3 false true false false W args v W':=by
 have hW':=hW
 obtain ⟨p,q,hA0,hV,rfl,hfz,hnd⟩:=hW
 have hA:DataW.TrodAll enc Tryd.prog W 0 (fun _=>true) true Tryd.f3.params.toList args.toList ds p:=hA0
 have hpar:Tryd.f3.params=#[3,9]:=by kernel_rfl
 rw [hpar] at hA hval
 obtain ⟨v0,vs0,d0,ds0,p0,q0,hargs,rfl,rfl,h0,r0⟩:=trodAll_cons hA
 obtain ⟨v1,vs1,d1,ds1,p1,q1,rfl,rfl,rfl,h1,r1⟩:=trodAll_cons r0
 obtain ⟨rfl,rfl,rfl⟩:=trodAll_nil r1
 obtain rfl:args=#[v0,v1]:=by apply Array.ext'; simpa using hargs
 obtain ⟨a0,k0,g0⟩:=NH (Mv (by kernel_rfl:Tryd.prog.underlying 3=some (.int .i64)) (by kernel_rfl)) (Nl (by kernel_rfl:Tryd.prog.underlying 3=some (.int .i64)) (hval 0 3 v0 rfl rfl)) (fun _=>rfl) h0 hsz (j:=0) (by kernel_rfl) rfl
 obtain ⟨a1,k1,g1⟩:=NH (MM (by kernel_rfl:Tryd.prog.underlying 9=some .string) (by kernel_rfl)) (LN (by kernel_rfl:Tryd.prog.underlying 9=some .string) (hval 1 9 v1 rfl rfl)) (fun _=>rfl) h1 hsz (j:=1) (by kernel_rfl) rfl
 have hc:=Na a0 a1 (LO a0 a1) k0 k1
 unfold Ret at hc
 refine hc.mono fun e W' he=>?_
 cases e with
 | returned v =>
  obtain ⟨rfl,hg⟩:=he
  exact ⟨_,rfl,MK NZ (fun t ht=>⟨GB (fun t=>Tryd.prog.readableRec t) (by kernel_rfl) ht,of_decide_eq_true (GB (fun t=>decide (t < Tryd.prog.types.size)) (by kernel_rfl) ht)⟩) hW' rfl (by kernel_rfl) (by kernel_rfl:Tryd.prog.underlying 4=some .bool) rfl hg⟩
 | panicked c=>exact he.elim
 | outgrown=>exact he.elim
theorem Mm (os:Os):laidMet Tryd.prog Rows.eveningParsesRow.laid ((Gh os).forCall (fun _ _=>0) ⟨#[],#[Value.int .i64 0,Value.string ⟨#[]⟩],[]⟩).memory :=
 laidMet_of_run' 8 (by kernel_rfl) (by kernel_rfl)
theorem O7 (os:Os){H:Type}(enc:TypeId×Value->H):∃ places,DataW.whole enc Tryd.prog ((Gh os).forCall (fun _ _=>0) ⟨#[],#[Value.int .i64 0,Value.string ⟨#[]⟩],[]⟩).memory Tryd.f3.params.toList Rows.eveningParsesSpec.vars false #[Value.int .i64 0,Value.string ⟨#[]⟩].toList 8=some ([.lit (.int .i64 0),.lit (.string [])],[],places) :=
 ⟨[],by kernel_rfl⟩
set_option maxRecDepth 100000 in
theorem OL (os:Os) (started:os.Started) (H:Type) (enc:TypeId×Value->H) (F:Stop.Interp) :
  ReturnsInHanded {} Tryd.checked os 3 .any ((OpenSpec.ofChange Rows.eveningParsesSpec).preRow enc Tryd.prog Tryd.f3 Rows.eveningParsesRow.domain false Rows.eveningParsesRow.laid) (((OpenSpec.ofChange Rows.eveningParsesSpec).at F).post enc Tryd.prog Tryd.f3 false true false false):=by
 obtain ⟨places,hx⟩:=O7 os enc
 refine returnsInHanded_of_row (C:=Tryd.checked) (s:=OpenSpec.ofChange Rows.eveningParsesSpec) Mt started (by kernel_rfl) Tryd.func3
  (witness_row_at (enc:=enc) (C:=Tryd.checked) false (Gh os) #[Value.int .i64 0,Value.string ⟨#[]⟩] rfl (by kernel_rfl) (by kernel_rfl) (by kernel_rfl)
   (OpenSpec.preRow_of_cond 8 hx (by kernel_rfl) (fun k hk=>by cases hk) (by kernel_rfl) (Mm os))) ?_
 intro W base args ds gs before hval hW _ _ hsz _ _ _
 exact Me H enc W base args ds gs before hval hW hsz
theorem NM:Tryd.pinned.checked.prog.funcNamed Rows.eveningParsesRow.func=some 3:=by kernel_rfl
theorem Md:joinedFacts Tryd.pinned.checked.prog 3 Tryd.f3 (OpenSpec.ofChange Rows.eveningParsesSpec).bare Rows.eveningParsesRow=true:=by kernel_rfl
theorem PK:Rows.EveningParsesSaid :=
 OpenClaim.holds_of_cond 3 Tryd.f3 rfl rfl rfl rfl rfl rfl rfl ⟨rfl,rfl,rfl,rfl,rfl⟩ rfl rfl rfl rfl rfl NM Tryd.func3 Md
  (of_decide_eq_true (by kernel_rfl)) (by unfold Func.isWrapper; first | (rw [if_pos (by decide +kernel)]; kernel_rfl) | (rw [if_neg (by decide +kernel)]; exact ⟨rfl,rfl⟩))
  (fun os started H enc _ F=>by rw [OpenClaim.pre_eq_preRow]; exact OL os started H enc F)
theorem O6 (f : FuncId) (fn : Func) (hf : Tryd.pinned.checked.prog.funcNamed "trestle/trestlelaw09.EveningParses" = some f) (hfn : Tryd.pinned.checked.prog.funcs[f]? = some fn) :
  false=Tryd.pinned.checked.prog.looks []/\∀ (j:Nat) t,fn.params[j]? = some t->Tryd.pinned.checked.prog.wantsStandIn t=false:=by
 obtain rfl : f = 3 := OI ((show Tryd.prog.funcNamed "trestle/trestlelaw09.EveningParses" = some 3 by kernel_rfl).symm.trans hf) |>.symm
 obtain rfl:fn=Tryd.f3:=(OI (Tryd.func3.symm.trans hfn)).symm
 refine ⟨by kernel_rfl,fun j t ht=>?_⟩
 have hm:t ∈ Tryd.f3.params.toList:=by simpa using Array.mem_of_getElem? ht
 exact (show Tryd.prog.wantsStandIn t=false from Bool.not_eq_true' _ |>.mp (GB (fun t=>!Tryd.prog.wantsStandIn t) (by kernel_rfl) hm))
theorem card:Rows.EveningParsesCardSaid :=
 Claim7.holds_tied_plain_at .later [] _ _ _ _ PK (fun _ h=>by cases h) (by kernel_rfl) (fun _ h=>by cases h) eveningParses_row_tie rfl ⟨rfl,rfl⟩ (by kernel_rfl) rfl O6 (by kernel_rfl)
end Go.Proofs.YteidjjolfapemaaDoor.eveningParses
