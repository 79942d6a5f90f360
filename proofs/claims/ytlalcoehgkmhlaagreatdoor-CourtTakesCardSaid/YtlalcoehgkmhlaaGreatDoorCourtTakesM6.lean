/- Lemmas for the proof. -/
import Derived.Test.YtlalcoehgkmhlaaGreatDoorCourtTakesM1
import Derived.Test.YtlalcoehgkmhlaaGreatDoorCourtTakesM2
import Derived.Test.YtlalcoehgkmhlaaGreatDoorCourtTakesM3
import Derived.Test.YtlalcoehgkmhlaaGreatDoorCourtTakesM4
import Derived.Test.YtlalcoehgkmhlaaGreatDoorCourtTakesM5
set_option maxHeartbeats 4000000
set_option maxRecDepth 100000
namespace Go.Proofs.YtlalcoehgkmhlaaGreatDoor
open Go.RowKit
/- trestle/trestlelaw03.CourtTakes -/
noncomputable def DF:Code:=Bo Tryz.f9
def Ca (x0:(List (List (Int×Int×Int×Bool×Bool)))):Nat->Int->(List (List AE))->(List (List UInt8))->Option (((List (List AE))×(List (List UInt8))))
 | 0,_,_,_=>none
 | f + 1,c16,c18,c20 =>
  if (decide (c16 < (((x0.take (mnI (x0.length:Int) 4).toNat).drop (0:Int).toNat).length:Int)))=true then
  (idx ((x0.take (mnI (x0.length:Int) 4).toNat).drop (0:Int).toNat) c16).bind fun v22 =>
  (ID v22).bind fun v23 =>
  if (Dj 64 (v23.length + ([(8,[],false,[],0)]:List AE).length))=true then
  if (Dj 24 (c18.length + ([(v23++([(8,[],false,[],0)]:List AE))]:List (List AE)).length))=true then
  if (DK c16 (([97,98,99,100]:List UInt8).length:Int) ([97,98,99,100]:List UInt8).length)=true then
  if (DK 0 (1:Int) ((([97,98,99,100]:List UInt8).take (([97,98,99,100]:List UInt8).length:Int).toNat).drop c16.toNat).length)=true then
  if (Dj 16 (c20.length + ([((((([97,98,99,100]:List UInt8).take (([97,98,99,100]:List UInt8).length:Int).toNat).drop c16.toNat).take (1:Int).toNat).drop (0:Int).toNat)]:List (List UInt8)).length))=true then
  Ca x0 f (wr .i64 (c16 + 1)) (c18++([(v23++([(8,[],false,[],0)]:List AE))]:List (List AE))) (c20++([((((([97,98,99,100]:List UInt8).take (([97,98,99,100]:List UInt8).length:Int).toNat).drop c16.toNat).take (1:Int).toNat).drop (0:Int).toNat)]:List (List UInt8)))
  else none
  else none
  else none
  else none
  else none
  else
  some (c18,c20)
def B6 (v1:(List Aq)):Nat->Int->(List Aq)->(List Int)->(List (List UInt8))->Option (((List Aq)×(List Int)×(List (List UInt8))))
 | 0,_,_,_,_=>none
 | f + 1,c125,c126,c127,c128 =>
  if (decide (c125 < (v1.length:Int)))=true then
  (C6 c125 c128 c126).bind fun v131 =>
  (idx c127 v131.1).bind fun v134 =>
  (idx c127 v131.1).bind fun v136 =>
  B6 v1 f (wr .i64 (c125 + 1)) v131.2.2 (c127.set v131.1.toNat (wr .i64 (v134 + 1))) v131.2.1
  else
  some (c126,c127,c128)
def B7 (r75:(List (List AE))×(List (List UInt8))) (c151:(List Int)) (c152:(List Int)) (v186:Int×(List (List UInt8))×(List Aq)):Nat->Int->Option ((Unit) ⊕ (Unit))
 | 0,_=>none
 | f + 1,c233 =>
  if (decide (c233 < (r75.1.length:Int)))=true then
  (idx c152 c233).bind fun v235 =>
  (if (decide (v235 > 0))=true then if (c233 != v186.1)=true then if (v186.1==4)=true then some true else (idx c151 c233).bind fun v237 =>
  (idx c151 v186.1).bind fun v239 =>
  if (decide (v237 < v239))=true then some true else (idx c151 c233).bind fun v240 =>
  (idx c151 v186.1).bind fun v241 =>
  if (v240==v241)=true then some (decide (c233 < v186.1)) else some false else some false else some false).bind fun j242 =>
  if j242=true then
  some (.inr ())
  else
  B7 r75 c151 c152 v186 f (wr .i64 (c233 + 1))
  else
  some (.inl ())
def Cb (r75:(List (List AE))×(List (List UInt8))) (v91:(List Int)×Int):Nat->Int->(List Aq)->(List Bool)->(List Int)->(List Int)->(List Int)->(List (List UInt8))->Option ((Unit) ⊕ (Unit))
 | 0,_,_,_,_,_,_,_=>none
 | f + 1,c148,c149,c150,c151,c152,c153,c154 =>
  if (decide (c148 < (v91.1.length:Int)))=true then
  (idx v91.1 c148).bind fun v156 =>
  (if (decide (v156 < 0))=true then some true else if (decide (v156≥(c149.length:Int)))=true then some true else (idx c150 v156).bind fun v157 =>
  some v157).bind fun j159 =>
  if j159=true then
  some (.inr ())
  else
  (idx c150 v156).bind fun v180 =>
  (C6 v156 c154 c149).bind fun v186 =>
  (idx c153 v186.1).bind fun v189 =>
  (if (decide (v189≥0))=true then if (v186.1==4)=true then if (decide (v189 > v156))=true then some (true,(c150.set v156.toNat true)) else if (decide (v186.1 < 4))=true then (idx r75.1 v186.1).bind fun v191 =>
  (idx v186.2.2 v189).bind fun v193 =>
  (idx v186.2.2 v156).bind fun v194 =>
  (C1 v191 v193 v194 v189 v156).bind fun v195 =>
  some ((decide (v195≥0)),(c150.set v156.toNat true)) else some (false,(c150.set v156.toNat true)) else if (decide (v186.1 < 4))=true then (idx r75.1 v186.1).bind fun v196 =>
  (idx v186.2.2 v189).bind fun v198 =>
  (idx v186.2.2 v156).bind fun v199 =>
  (C1 v196 v198 v199 v189 v156).bind fun v200 =>
  some ((decide (v200≥0)),(c150.set v156.toNat true)) else some (false,(c150.set v156.toNat true)) else some (false,(c150.set v156.toNat true))).bind fun j201 =>
  if j201.1=true then
  some (.inr ())
  else
  (B7 r75 c151 c152 v186 100000 0).bind fun r278 =>
  match r278 with
  | (.inl w279) =>
   (idx c153 v186.1).bind fun v282 =>
   (idx c151 v186.1).bind fun v287 =>
   (idx c151 v186.1).bind fun v289 =>
   (idx c152 v186.1).bind fun v293 =>
   (idx c152 v186.1).bind fun v295 =>
   Cb r75 v91 f (wr .i64 (c148 + 1)) v186.2.2 j201.2 (c151.set v186.1.toNat (wr .i64 (v287 + 1))) (c152.set v186.1.toNat (wr .i64 (v293 - 1))) (c153.set v186.1.toNat v156) v186.2.1
  | (.inr w300) =>
   some (.inr ())
  else
  some (.inl ())
def Df (x0:(List (List (Int×Int×Int×Bool×Bool)))) (x1:(List (Int×Int))):Option (Bool) :=
 (Er x1 20).bind fun v1 =>
 if (DK 0 (mnI (x0.length:Int) 4) x0.length)=true then
 (Ca x0 100000 0 ([]:(List (List AE))) ([]:(List (List UInt8)))).bind fun r75 =>
 (Dy r75.1 r75.2 v1).bind fun v91 =>
 (if (v91.2 != 0)=true then some true else some ((v91.1.length:Int)!=(v1.length:Int))).bind fun j93 =>
 if j93=true then
 some false
 else
 if (Uk 1 (v1.length:Int))=true then
 if (Uk 8 5)=true then
 if (Uk 8 5)=true then
 (B6 v1 100000 0 v1 (List.replicate (5:Int).toNat (0:Int)) r75.2).bind fun r145 =>
 (Cb r75 v91 100000 0 r145.1 (List.replicate (v1.length:Int).toNat (false:Bool)) (List.replicate (5:Int).toNat (0:Int)) r145.2.1 ([(-1),(-1),(-1),(-1),(-1)]:List Int) r145.2.2).bind fun r311 =>
 match r311 with
 | (.inl w312) =>
  N4.bind fun v315 =>
  some v315
 | (.inr w316) =>
  some false
 else none
 else none
 else none
 else none
theorem J9 {L:List Asn}(x0:(List (List (Int×Int×Int×Bool×Bool)))) (v1:(List Aq)) (e2:AV) (e9:AV):∀ (f:Nat) (c16:Int) (c18:(List (List AE))) (c20:(List (List UInt8))) (r:((List (List AE))×(List (List UInt8)))),Ca x0 f c16 c18 c20=some r->∀ (e17 e19:AV) (hp:Hp),T hp ((cel e2 1 23 (.sl 9 (v1.map AH.enc)))::(own_ (ocL 1 22 (ocV (cdL 5 AB))) e17 c18)::(cel e9 1 40 (e19))::(own_ (ocL 1 9 (ocV cdS)) e19 c20)::L)->SemYN E0 ⟨none,false⟩ (pc DF [1,1,1,1,0,1,0,0]) f ⟨Fr 216 [(5,e2),(6,e17),(7,e9),(29,.sl 1 (((x0.take (mnI (x0.length:Int) 4).toNat).drop (0:Int).toNat).map (cdL 5 (cdA (csC (cdK .u8) (csC (cdK .u8) (csC (cdK .u8) (csC cdB (csE cdB))))) (fun _=>rfl))).enc)),(30,.v (.int .i64 (((x0.take (mnI (x0.length:Int) 4).toNat).drop (0:Int).toNat).length:Int))),(31,.v (.int .i64 c16))],hp⟩ (fun e s=>e=(.exit 0)/\∃ s2,(∃ (e70 e72:AV) (h':Hp),T h' ((cel e2 1 23 (.sl 9 (v1.map AH.enc)))::(own_ (ocL 1 22 (ocV (cdL 5 AB))) e70 r.1)::(cel e9 1 40 (e72))::(own_ (ocL 1 9 (ocV cdS)) e72 r.2)::L)/\s2=⟨Fr 216 [(5,e2),(6,e70),(7,e9)],h'⟩)/\WkY E0 s s2):=by
 intro f;induction f with
 | zero=>intro c16 c18 c20 r h; cases h
 | succ f ih0 =>
  intro c16 c18 c20 r h e17 e19 hp hT;unfold Ca at h;refine C5 ?_
  let p1:Nat×AV:=(31,.v (.int .i64 c16))
  let p2:Nat×AV:=(30,.v (.int .i64 (((x0.take (mnI (x0.length:Int) 4).toNat).drop (0:Int).toNat).length:Int)))
  let p3:Nat×AV:=(29,.sl 1 (((x0.take (mnI (x0.length:Int) 4).toNat).drop (0:Int).toNat).map (cdL 5 (cdA (csC (cdK .u8) (csC (cdK .u8) (csC (cdK .u8) (csC cdB (csE cdB))))) (fun _=>rfl))).enc))
  refine BJ AC [(5,e2),(6,e17),(7,e9),p3,p2,p1,(32,.v (.bool (decide (c16 < (((x0.take (mnI (x0.length:Int) 4).toNat).drop (0:Int).toNat).length:Int)))))] ?_;refine AK ?_;refine BW (b:=(decide (c16 < (((x0.take (mnI (x0.length:Int) 4).toNat).drop (0:Int).toNat).length:Int)))) kr (fun hb21=>?_) (fun hb21=>?_)
  ·rw [if_pos hb21] at h
   refine SemY.skip ?_;refine AK ?_;refine BI ?_;refine AK ?_;refine AI ?_;refine AX AC 1 ?_;obtain ⟨v22,hv22,h⟩:=OB h;refine AM AC 0 rfl (Cw (AA rfl) rfl (AQ (a:= .sl 1 (((x0.take (mnI (x0.length:Int) 4).toNat).drop (0:Int).toNat).map (cdL 5 (cdA (csC (cdK .u8) (csC (cdK .u8) (csC (cdK .u8) (csC cdB (csE cdB))))) (fun _=>rfl))).enc)) (b:= .v (.int .i64 c16)) kr kr (GS (e:=(cdL 5 (cdA (csC (cdK .u8) (csC (cdK .u8) (csC (cdK .u8) (csC cdB (csE cdB))))) (fun _=>rfl))).enc) (el:=28) (k:=1) (ki:= .i64) kr kr hv22))) ?_
   let p4:Nat×AV:=(8,.v (.int .i64 c16))
   refine BK AC [(5,e2),(6,e17),(7,e9),p4,(9,.sl 5 (v22.map (cdA (csC (cdK .u8) (csC (cdK .u8) (csC (cdK .u8) (csC cdB (csE cdB))))) (fun _=>rfl)).enc)),p3,p2,p1] ?_;refine AK ?_;refine AI ?_;refine AX AC 2 ?_;obtain ⟨v23,hv23,h⟩:=OB h;refine PD rfl rfl (Qv v22 _ hv23) rfl (AA rfl) kr kr kr (T8 (c:=AB) (xs:=v23)) ?_;intro x h' hO; obtain ⟨e24,hp25,e24q,hp25q,hT26⟩:=T9 (c:=AB) (k:=5) (t:=60) hT hO; rw [<-e24q,<-hp25q]
   let p5:Nat×AV:=(39,.ag [.v (.int .u8 8),.st [],.v (.bool false),.e0,.v (.int .i64 0)])
   refine II (n:=216) AC 1 [(5,e2),(7,e9),p4,p3,p2,p1,(36,e17),(38,e24),p5] hp25 kr ?_;refine MG (WP (l:=[(5,e2),(7,e9),p4,p3,p2,p1,(36,e17),(38,e24),p5]) (l':=[(5,e2),(7,e9),p4,p3,p2,p1,(36,e17),(38,e24),(39,.ag [.v (.int .u8 8),.st [],.v (.bool false),.sl 1 ([].map cdS.enc),.v (.int .i64 0)])]) ⟨⟨e2,kr,UpV.refl⟩,⟨e9,kr,UpV.refl⟩,⟨.v (.int .i64 c16),kr,UpV.refl⟩,⟨.sl 1 (((x0.take (mnI (x0.length:Int) 4).toNat).drop (0:Int).toNat).map (cdL 5 (cdA (csC (cdK .u8) (csC (cdK .u8) (csC (cdK .u8) (csC cdB (csE cdB))))) (fun _=>rfl))).enc),kr,UpV.refl⟩,⟨.v (.int .i64 (((x0.take (mnI (x0.length:Int) 4).toNat).drop (0:Int).toNat).length:Int)),kr,UpV.refl⟩,⟨.v (.int .i64 c16),kr,UpV.refl⟩,⟨e17,kr,UpV.refl⟩,⟨e24,kr,UpV.refl⟩,⟨.ag [.v (.int .u8 8),.st [],.v (.bool false),.e0,.v (.int .i64 0)],kr,UpV.ag ⟨UpV.refl,UpV.refl,UpV.refl,UpV.nil,UpV.refl,trivial⟩⟩,trivial⟩) ?_;obtain ⟨e30,hp27,hb28,hT29⟩:=HM (P:=Tryz.prog) (bytes:=64) (k:=5) (t:=60) (ty:=22) (xs:=([(8,[],false,[],0)]:List AE)) (n:=1) (Pp (k:=5) (fun _=>⟨rfl,rfl,rfl⟩)) (GB (c:=AB) (xs:=([(8,[],false,[],0)]:List AE)) hT26) rfl kr kr kr;refine AM AC 0 rfl (PN (AA rfl) rfl kr (O1 (xs:=K5 0 [.ag [.v (.int .u8 8),.st [],.v (.bool false),.sl 1 ([].map cdS.enc),.v (.int .i64 0)]]) kr hb28)) ?_;by_cases hk35:(Dj 64 (v23.length + ([(8,[],false,[],0)]:List AE).length))=true
   case neg=>rw [if_neg hk35] at h; cases h
   rw [if_pos hk35] at h
   have hT36:=((hT29.front 0 rfl).front 1 rfl)
   obtain ⟨e34,hp31,hb32,hT33⟩:=H9 (P:=Tryz.prog) (ty:=22) (ty2:=22) (bytes:=64) hT36 kr kr hk35;refine AM AC 0 rfl (Q9 (AA rfl) rfl kr kr (FE (a:=e24) (b:=e30) kr kr hb32)) ?_;obtain ⟨hp37,hw38,hT39⟩:=HL (E:=E0) (n:=216) (l:=[(5,e2),(7,e9),p4,p3,p2,p1,(36,e17),(41,e34)]) (l':=[(5,e2),(7,e9),p4,p3,p2,p1,(36,e17),(41,.sl 5 ((v23++([(8,[],false,[],0)]:List AE)).map AB.enc))]) hT33 ⟨⟨e2,kr,FzU.refl⟩,⟨e9,kr,FzU.refl⟩,⟨.v (.int .i64 c16),kr,FzU.refl⟩,⟨.sl 1 (((x0.take (mnI (x0.length:Int) 4).toNat).drop (0:Int).toNat).map (cdL 5 (cdA (csC (cdK .u8) (csC (cdK .u8) (csC (cdK .u8) (csC cdB (csE cdB))))) (fun _=>rfl))).enc),kr,FzU.refl⟩,⟨.v (.int .i64 (((x0.take (mnI (x0.length:Int) 4).toNat).drop (0:Int).toNat).length:Int)),kr,FzU.refl⟩,⟨.v (.int .i64 c16),kr,FzU.refl⟩,⟨e17,kr,FzU.refl⟩,⟨e34,kr,F7⟩,trivial⟩;refine MG (WkY.trans WkY.f1 hw38) ?_;obtain ⟨e43,hp40,hb41,hT42⟩:=HM (P:=Tryz.prog) (bytes:=24) (k:=1) (t:=22) (ty:=68) (xs:=([(v23++([(8,[],false,[],0)]:List AE))]:List (List AE))) (n:=1) (Pp (k:=1) (fun _=>⟨rfl,rfl,rfl⟩)) (GB (c:=(cdL 5 AB)) (xs:=([(v23++([(8,[],false,[],0)]:List AE))]:List (List AE))) hT39) rfl kr kr kr;refine AM AC 0 rfl (PN (AA rfl) rfl kr (O1 (xs:=K5 0 [.sl 5 ((v23++([(8,[],false,[],0)]:List AE)).map AB.enc)]) kr hb41)) ?_;by_cases hk48:(Dj 24 (c18.length + ([(v23++([(8,[],false,[],0)]:List AE))]:List (List AE)).length))=true
   case neg=>rw [if_neg hk48] at h; cases h
   rw [if_pos hk48] at h
   have hT49:=((hT42.front 0 rfl).front 2 rfl)
   obtain ⟨e47,hp44,hb45,hT46⟩:=H9 (P:=Tryz.prog) (ty:=68) (ty2:=68) (bytes:=24) hT49 kr kr hk48;refine AM AC 0 rfl (Q9 (AA rfl) rfl kr kr (FE (a:=e17) (b:=e43) kr kr hb45)) ?_;refine BK AC [(5,e2),(6,e47),(7,e9),p4,p3,p2,p1] ?_;refine IC 5 AC.mixed kr kr ?_
   have hq50:=Kf (hT46.front 3 rfl)
   have hT51:=(hT46.front 2 rfl)
   refine RunDT.q (x:=e19) rfl kr rfl (AA rfl) rfl (CR (p:=e9) kr (DQ (y:=e19) (m:=1) (g:=false) hT51 kr kr (SK hq50))) (FK (hT46.front 2 rfl) kr) ?_;refine RunDT.q (x:= .v (.int .i64 c16)) rfl kr rfl (AA rfl) rfl kr kr ?_;by_cases hk52:(DK c16 (([97,98,99,100]:List UInt8).length:Int) ([97,98,99,100]:List UInt8).length)=true
   case neg=>rw [if_neg hk52] at h; cases h
   rw [if_pos hk52] at h;refine RunDT.q (x:= .st ((([97,98,99,100]:List UInt8).take (([97,98,99,100]:List UInt8).length:Int).toNat).drop c16.toNat)) rfl kr rfl (AA rfl) rfl (EE (a:= .st [97,98,99,100]) (l:=(some (.v (.int .i64 c16)))) (u:=none) (m:=none) kr kr kr rfl (FY (bs:=[97,98,99,100]) (lo:=c16) (hi:=(([97,98,99,100]:List UInt8).length:Int)) kr (GR (Nn hk52)) rfl hk52)) kr ?_;by_cases hk53:(DK 0 (1:Int) ((([97,98,99,100]:List UInt8).take (([97,98,99,100]:List UInt8).length:Int).toNat).drop c16.toNat).length)=true
   case neg=>rw [if_neg hk53] at h; cases h
   rw [if_pos hk53] at h;refine RunDT.q (x:= .st ((((([97,98,99,100]:List UInt8).take (([97,98,99,100]:List UInt8).length:Int).toNat).drop c16.toNat).take (1:Int).toNat).drop (0:Int).toNat)) rfl kr rfl (AA rfl) rfl (EE (a:= .st ((([97,98,99,100]:List UInt8).take (([97,98,99,100]:List UInt8).length:Int).toNat).drop c16.toNat)) (l:=none) (u:=(some (.v (.int .i64 1)))) (m:=none) kr kr kr rfl (FY (bs:=((([97,98,99,100]:List UInt8).take (([97,98,99,100]:List UInt8).length:Int).toNat).drop c16.toNat)) (lo:=0) (hi:=(1:Int)) kr rfl (GR (JP hk53)) hk53)) kr ?_;obtain ⟨e57,hp54,hb55,hT56⟩:=HM (P:=Tryz.prog) (bytes:=16) (k:=1) (t:=9) (ty:=40) (xs:=([((((([97,98,99,100]:List UInt8).take (([97,98,99,100]:List UInt8).length:Int).toNat).drop c16.toNat).take (1:Int).toNat).drop (0:Int).toNat)]:List (List UInt8))) (n:=1) (Pp (k:=1) (fun _=>⟨rfl,rfl,rfl⟩)) (GB (c:=cdS) (xs:=([((((([97,98,99,100]:List UInt8).take (([97,98,99,100]:List UInt8).length:Int).toNat).drop c16.toNat).take (1:Int).toNat).drop (0:Int).toNat)]:List (List UInt8))) hT51) rfl kr kr kr;refine RunDT.new rfl (AA rfl) rfl (O1 (xs:=K5 0 [.st ((((([97,98,99,100]:List UInt8).take (([97,98,99,100]:List UInt8).length:Int).toNat).drop c16.toNat).take (1:Int).toNat).drop (0:Int).toNat)]) kr hb55) ?_;refine RunDT.tail rfl ?_;by_cases hk62:(Dj 16 (c20.length + ([((((([97,98,99,100]:List UInt8).take (([97,98,99,100]:List UInt8).length:Int).toNat).drop c16.toNat).take (1:Int).toNat).drop (0:Int).toNat)]:List (List UInt8)).length))=true
   case neg=>rw [if_neg hk62] at h; cases h
   rw [if_pos hk62] at h
   have hT63:=((hT56.front 0 rfl).front 4 rfl)
   obtain ⟨e61,hp58,hb59,hT60⟩:=H9 (P:=Tryz.prog) (ty:=40) (ty2:=40) (bytes:=16) hT63 kr kr hk62;refine AM AC 0 rfl (Q9 (AA rfl) rfl kr kr (FE (a:=e19) (b:=e57) kr kr hb59)) ?_
   have hT67:=(hT60.front 1 rfl)
   have hq68:=Kf (hT67.front 1 rfl)
   obtain ⟨hp64,hs65,hT66⟩:=LZ (P:=Tryz.prog) (ty:=40) (y:=e61) (a':=e61) hT67 (by have hq:=Kf (hT67.front 1 rfl); revert hq; generalize e61=zz; intro hq; cases zz <;> first | (exact (Bool.false_ne_true hq.1).elim) | (exact (Bool.false_ne_true hq.2).elim) | skip; all_goals (first | rfl | kernel_rfl | exact rfl)) (by have hq:=Kf (hT67.front 1 rfl); revert hq; generalize e61=zz; intro hq; cases zz <;> first | (exact (Bool.false_ne_true hq.1).elim) | (exact (Bool.false_ne_true hq.2).elim) | skip; all_goals (first | rfl | kernel_rfl | exact rfl)) (Vh hq50 hq68);refine RunL.store AC (y:=e9) (z:=e61) rfl (AA rfl) kr kr hs65 ?_;refine Aw rfl (SemY.fr (l':=[(5,e2),(6,e47),(7,e9),p3,p2,p1]) kr ?_);refine AI ?_;refine AX AC 2 ?_;refine Aw rfl ?_
   have hT69:=((((hT66.front 1 rfl).front 1 rfl).front 2 rfl).front 3 rfl)
   exact Br WkY.f1 (ih0 (wr .i64 (c16 + 1)) (c18++([(v23++([(8,[],false,[],0)]:List AE))]:List (List AE))) (c20++([((((([97,98,99,100]:List UInt8).take (([97,98,99,100]:List UInt8).length:Int).toNat).drop c16.toNat).take (1:Int).toNat).drop (0:Int).toNat)]:List (List UInt8))) _ h e47 e61 hp64 hT69)
  ·rw [Cg hb21] at h
   refine SemY.exit ?_;have hq:=OI h; subst hq;exact ⟨rfl,_,⟨e17,e19,hp,hT,rfl⟩,WkY.f1⟩
theorem KA {L:List Asn}(v1:(List Aq)) (e2:AV) (e9:AV) (r75:(List (List AE))×(List (List UInt8))) (v91:(List Int)×Int) (e109:AV) (e114:AV) (e119:AV) (e123:AV):∀ (f:Nat) (c125:Int) (c126:(List Aq)) (c127:(List Int)) (c128:(List (List UInt8))) (r:((List Aq)×(List Int)×(List (List UInt8)))),B6 v1 f c125 c126 c127 c128=some r->∀ (hp:Hp),T hp ((cel e2 1 23 (.sl 9 (c126.map AH.enc)))::(own_ (ocL 1 4 (ocV cdB)) e109 (List.replicate (v1.length:Int).toNat (false:Bool)))::(own_ (ocL 1 3 (ocV cdI)) e114 (List.replicate (5:Int).toNat (0:Int)))::(own_ (ocL 1 3 (ocV cdI)) e119 c127)::(own_ (ocL 1 3 (ocV cdI)) e123 ([(-1),(-1),(-1),(-1),(-1)]:List Int))::(cel e9 1 40 (.sl 1 (c128.map cdS.enc)))::L)->SemYN E0 ⟨none,false⟩ (pc DF [1,1,1,1,1,1,1,1,1,1,1,1,0,1,0,0]) f ⟨Fr 216 [(5,e2),(6,.sl 1 (r75.1.map (cdL 5 AB).enc)),(10,.sl 1 (v91.1.map cdI.enc)),(12,e109),(13,e114),(14,e119),(15,e123),(16,.fn 40 [] [e9,e2]),(75,.v (.int .i64 (v1.length:Int))),(76,.v (.int .i64 c125))],hp⟩ (fun e s=>e=(.exit 2)/\∃ s2,(∃ (h':Hp),T h' ((cel e2 1 23 (.sl 9 (r.1.map AH.enc)))::(own_ (ocL 1 4 (ocV cdB)) e109 (List.replicate (v1.length:Int).toNat (false:Bool)))::(own_ (ocL 1 3 (ocV cdI)) e114 (List.replicate (5:Int).toNat (0:Int)))::(own_ (ocL 1 3 (ocV cdI)) e119 r.2.1)::(own_ (ocL 1 3 (ocV cdI)) e123 ([(-1),(-1),(-1),(-1),(-1)]:List Int))::(cel e9 1 40 (.sl 1 (r.2.2.map cdS.enc)))::L)/\s2=⟨Fr 216 [(5,e2),(6,.sl 1 (r75.1.map (cdL 5 AB).enc)),(10,.sl 1 (v91.1.map cdI.enc)),(12,e109),(13,e114),(14,e119),(15,e123),(16,.fn 40 [] [e9,e2])],h'⟩)/\WkY E0 s s2):=by
 intro f;induction f with
 | zero=>intro c125 c126 c127 c128 r h; cases h
 | succ f ih0 =>
  intro c125 c126 c127 c128 r h  hp hT;unfold B6 at h;refine C5 ?_
  let p1:Nat×AV:=(76,.v (.int .i64 c125))
  let p2:Nat×AV:=(75,.v (.int .i64 (v1.length:Int)))
  let p3:Nat×AV:=(16,.fn 40 [] [e9,e2])
  let p4:Nat×AV:=(10,.sl 1 (v91.1.map cdI.enc))
  let p5:Nat×AV:=(6,.sl 1 (r75.1.map (cdL 5 AB).enc))
  refine BJ AC [(5,e2),p5,p4,(12,e109),(13,e114),(14,e119),(15,e123),p3,p2,p1,(77,.v (.bool (decide (c125 < (v1.length:Int)))))] ?_;refine AK ?_;refine BW (b:=(decide (c125 < (v1.length:Int)))) kr (fun hb129=>?_) (fun hb129=>?_)
  ·rw [if_pos hb129] at h
   refine SemY.skip ?_;refine AK ?_;refine BI ?_;refine BJ AC [(5,e2),p5,p4,(12,e109),(13,e114),(14,e119),(15,e123),p3,(17,.v (.int .i64 c125)),p2,p1] ?_;refine AI ?_;refine AX AC 3 ?_;obtain ⟨v131,hv131,h⟩:=OB h
   have hT130:=((hT.front 0 rfl).front 5 rfl)
   refine HN (E:=E0) (e:=E0) rfl rfl AC rfl rfl (fid:=40) (caps:=[e9,e2]) (xs:=[.v (.int .i64 c125)]) (fn:=Tryz.f40) (c:=Ev) (Out:=fun v h'=>v = .v (.int .i64 v131.1)/\T h' ((cel e9 1 40 (.sl 1 (v131.2.1.map cdS.enc)))::(cel e2 1 23 (.sl 9 (v131.2.2.map AH.enc)))::(own_ (ocL 1 4 (ocV cdB)) e109 (List.replicate (v1.length:Int).toNat (false:Bool)))::(own_ (ocL 1 3 (ocV cdI)) e114 (List.replicate (5:Int).toNat (0:Int)))::(own_ (ocL 1 3 (ocV cdI)) e119 c127)::(own_ (ocL 1 3 (ocV cdI)) e123 ([(-1),(-1),(-1),(-1),(-1)]:List Int))::L)) rfl (AA rfl) kr kr kr kr (by show 3<=16; decide) (GQ c125 e9 c128 e2 c126 _ hv131 hT130) ?_;rintro xx hp132 ⟨hqhp132,hT133⟩; subst xx;obtain ⟨v134,hv134,h⟩:=OB h
   have hT135:=(hT133.front 4 rfl)
   refine AM AC 0 rfl (Cw (AA rfl) rfl (AQ (a:=e119) (b:= .v (.int .i64 v131.1)) kr kr (MZ (bytes:=8) hT135 kr hv134))) ?_;refine AM AC 0 rfl (Cw (AA rfl) rfl (CR (p:=eAt e119 v131.1.toNat) kr (FR (y:= .v (.int .i64 v134)) (m:=1) (g:=false) hT135 (Cv hv134).2 kr kr kr))) ?_;refine AX AC 1 ?_;obtain ⟨v136,hv136,h⟩:=OB h;refine AM AC 0 rfl (Cw (AA rfl) rfl (AQ (a:=e119) (b:= .v (.int .i64 v131.1)) kr kr (MZ (bytes:=8) hT135 kr hv136))) ?_;obtain ⟨hp137,hs138,hT139⟩:=Kg (P:=Tryz.prog) (ty:=3) (y:= .v (.int .i64 (wr .i64 (v134 + 1)))) (v':=(wr .i64 (v134 + 1))) hT135 (Cv hv136).2 kr kr kr;refine RunL.store AC (y:=eAt e119 v131.1.toNat) (z:= .v (.int .i64 (wr .i64 (v134 + 1)))) rfl (AA rfl) kr kr hs138 ?_;refine Aw rfl (SemY.fr (l':=[(5,e2),p5,p4,(12,e109),(13,e114),(14,e119),(15,e123),p3,p2,p1]) kr ?_);refine AI ?_;refine AX AC 2 ?_;refine Aw rfl ?_
   have hT140:=((((((hT139.front 1 rfl).front 5 rfl).front 2 rfl).front 5 rfl).front 5 rfl).front 5 rfl)
   exact Br WkY.f1 (ih0 (wr .i64 (c125 + 1)) v131.2.2 (c127.set v131.1.toNat (wr .i64 (v134 + 1))) v131.2.1 _ h  hp137 hT140)
  ·rw [Cg hb129] at h
   refine SemY.exit ?_;have hq:=OI h; subst hq;exact ⟨rfl,_,⟨hp,hT,rfl⟩,WkY.f1⟩
theorem G7 {L:List Asn}(r75:(List (List AE))×(List (List UInt8))) (c151:(List Int)) (c152:(List Int)) (v186:Int×(List (List UInt8))×(List Aq)) (e2:AV) (e9:AV) (v91:(List Int)×Int) (e109:AV) (e114:AV) (e119:AV) (e123:AV) (c148:Int) (c153:(List Int)) (v156:Int) (j201:Bool×(List Bool)):∀ (f:Nat) (c233:Int) (r:(Unit) ⊕ (Unit)),B7 r75 c151 c152 v186 f c233=some r->∀ (hp:Hp),T hp ((cel e2 1 23 (.sl 9 (v186.2.2.map AH.enc)))::(own_ (ocL 1 4 (ocV cdB)) e109 j201.2)::(own_ (ocL 1 3 (ocV cdI)) e114 c151)::(own_ (ocL 1 3 (ocV cdI)) e119 c152)::(own_ (ocL 1 3 (ocV cdI)) e123 c153)::(cel e9 1 40 (.sl 1 (v186.2.1.map cdS.enc)))::L)->SemYN E0 ⟨none,false⟩ (pc DF [1,1,1,1,1,1,1,1,1,1,1,1,1,0,1,0,0,1,1,0,0,1,1,1,1,1,0,1,0,0]) f ⟨Fr 216 [(5,e2),(6,.sl 1 (r75.1.map (cdL 5 AB).enc)),(12,e109),(13,e114),(14,e119),(15,e123),(16,.fn 40 [] [e9,e2]),(19,.v (.int .i64 v156)),(20,.v (.int .i64 v186.1)),(88,.sl 1 (v91.1.map cdI.enc)),(89,.v (.int .i64 (v91.1.length:Int))),(90,.v (.int .i64 c148)),(152,.v (.int .i64 (r75.1.length:Int))),(153,.v (.int .i64 c233))],hp⟩ (fun e s=>match r with
 | (.inl w)=>e=(.exit 6)/\∃ s2,(∃ (h':Hp),T h' ((cel e2 1 23 (.sl 9 (v186.2.2.map AH.enc)))::(own_ (ocL 1 4 (ocV cdB)) e109 j201.2)::(own_ (ocL 1 3 (ocV cdI)) e114 c151)::(own_ (ocL 1 3 (ocV cdI)) e119 c152)::(own_ (ocL 1 3 (ocV cdI)) e123 c153)::(cel e9 1 40 (.sl 1 (v186.2.1.map cdS.enc)))::L)/\s2=⟨Fr 216 [(5,e2),(6,.sl 1 (r75.1.map (cdL 5 AB).enc)),(12,e109),(13,e114),(14,e119),(15,e123),(16,.fn 40 [] [e9,e2]),(19,.v (.int .i64 v156)),(20,.v (.int .i64 v186.1)),(88,.sl 1 (v91.1.map cdI.enc)),(89,.v (.int .i64 (v91.1.length:Int))),(90,.v (.int .i64 c148))],h'⟩)/\WkY E0 s s2
 | (.inr w)=>e = .ret/\∃ s2,(∃ (h':Hp),T h' (L)/\s2=⟨Fr 216 [(4,.v (.bool false))],h'⟩)/\WkY E0 s s2):=by
 intro f;induction f with
 | zero=>intro c233 r h; cases h
 | succ f ih0 =>
  intro c233 r h  hp hT;unfold B7 at h;refine C5 ?_;refine BJ AC [(5,e2),(6,.sl 1 (r75.1.map (cdL 5 AB).enc)),(12,e109),(13,e114),(14,e119),(15,e123),(16,.fn 40 [] [e9,e2]),(19,.v (.int .i64 v156)),(20,.v (.int .i64 v186.1)),(88,.sl 1 (v91.1.map cdI.enc)),(89,.v (.int .i64 (v91.1.length:Int))),(90,.v (.int .i64 c148)),(152,.v (.int .i64 (r75.1.length:Int))),(153,.v (.int .i64 c233)),(154,.v (.bool (decide (c233 < (r75.1.length:Int)))))] ?_;refine AK ?_;refine BW (b:=(decide (c233 < (r75.1.length:Int)))) kr (fun hb234=>?_) (fun hb234=>?_)
  ·rw [if_pos hb234] at h
   refine SemY.skip ?_;refine AK ?_;refine BI ?_;refine BJ AC [(5,e2),(6,.sl 1 (r75.1.map (cdL 5 AB).enc)),(12,e109),(13,e114),(14,e119),(15,e123),(16,.fn 40 [] [e9,e2]),(19,.v (.int .i64 v156)),(20,.v (.int .i64 v186.1)),(22,.v (.int .i64 c233)),(88,.sl 1 (v91.1.map cdI.enc)),(89,.v (.int .i64 (v91.1.length:Int))),(90,.v (.int .i64 c148)),(152,.v (.int .i64 (r75.1.length:Int))),(153,.v (.int .i64 c233))] ?_;refine AK ?_;obtain ⟨v235,hv235,h⟩:=OB h;obtain ⟨j242,hj242,h⟩:=OB h;refine Kr 41 (A:=fun s1=>∃ (h':Hp),T h' ((cel e2 1 23 (.sl 9 (v186.2.2.map AH.enc)))::(own_ (ocL 1 4 (ocV cdB)) e109 j201.2)::(own_ (ocL 1 3 (ocV cdI)) e114 c151)::(own_ (ocL 1 3 (ocV cdI)) e119 c152)::(own_ (ocL 1 3 (ocV cdI)) e123 c153)::(cel e9 1 40 (.sl 1 (v186.2.1.map cdS.enc)))::L)/\s1=⟨Fr 216 [(5,e2),(6,.sl 1 (r75.1.map (cdL 5 AB).enc)),(12,e109),(13,e114),(14,e119),(15,e123),(16,.fn 40 [] [e9,e2]),(19,.v (.int .i64 v156)),(20,.v (.int .i64 v186.1)),(88,.sl 1 (v91.1.map cdI.enc)),(89,.v (.int .i64 (v91.1.length:Int))),(90,.v (.int .i64 c148)),(152,.v (.int .i64 (r75.1.length:Int))),(153,.v (.int .i64 c233)),(196,.v (.bool j242))],h'⟩) AC.mixed kr kr ?_ ?_
   ·refine RunDT.q (x:=e119) rfl kr rfl (AA rfl) rfl kr kr ?_
    refine RunDT.q (x:= .v (.int .i64 c233)) rfl kr rfl (AA rfl) rfl kr kr ?_
    have hT236:=(hT.front 3 rfl)
    refine RunDT.q (x:=eAt e119 c233.toNat) rfl kr rfl (AA rfl) rfl (AQ (a:=e119) (b:= .v (.int .i64 c233)) kr kr (MZ (bytes:=8) hT236 kr hv235)) kr ?_;refine RunDT.q (x:= .v (.int .i64 v235)) rfl kr rfl (AA rfl) rfl (CR (p:=eAt e119 c233.toNat) kr (FR (y:= .v (.int .i64 v235)) (m:=1) (g:=false) hT236 (Cv hv235).2 kr kr kr)) (Fk (hT.front 3 rfl) (Cv hv235).2 kr) ?_;refine RunDT.q (x:= .v (.bool (decide (v235 > 0)))) rfl kr rfl (AA rfl) rfl kr kr ?_;refine RunDT.q (x:= .v (.bool (decide (v235 > 0)))) rfl kr rfl (AA rfl) rfl kr kr ?_;rcases BE (decide (v235 > 0)) with hc273 | hc273
    ·rw [if_pos hc273] at hj242
     rw [hc273];refine RunDT.q (x:= .v (.int .i64 c233)) rfl kr rfl kr rfl kr kr ?_;refine RunDT.q (x:= .v (.int .i64 v186.1)) rfl kr rfl kr rfl kr kr ?_;refine RunDT.q (x:= .v (.bool (c233 != v186.1))) rfl kr rfl kr rfl kr kr ?_;refine RunDT.q (x:= .v (.bool (c233 != v186.1))) rfl kr rfl (AA rfl) rfl kr kr ?_;refine RunDT.q (x:= .v (.bool (c233 != v186.1))) rfl kr rfl (AA rfl) rfl kr kr ?_;rcases BE (c233 != v186.1) with hc274 | hc274
     ·rw [if_pos hc274] at hj242
      rw [hc274];refine RunDT.q (x:= .v (.int .i64 v186.1)) rfl kr rfl kr rfl kr kr ?_;refine RunDT.q (x:= .v (.bool (v186.1==4))) rfl kr rfl kr rfl kr kr ?_;refine RunDT.q (x:= .v (.bool (v186.1==4))) rfl kr rfl kr rfl kr kr ?_;rcases BE (v186.1==4) with hc275 | hc275
      ·rw [if_pos hc275] at hj242
       rw [hc275];refine RunDT.skip rfl kr rfl ?_;refine RunDT.skip rfl kr rfl ?_;refine RunDT.skip rfl kr rfl ?_;refine RunDT.skip rfl kr rfl ?_;refine RunDT.skip rfl kr rfl ?_;refine RunDT.skip rfl kr rfl ?_;refine RunDT.skip rfl kr rfl ?_;refine RunDT.skip rfl kr rfl ?_;refine RunDT.skip rfl kr rfl ?_;refine RunDT.q (x:= .v (.bool true)) rfl kr rfl kr rfl kr kr ?_;refine RunDT.q (x:= .v (.bool true)) rfl kr rfl kr rfl kr kr ?_;refine RunDT.skip rfl kr rfl ?_;refine RunDT.skip rfl kr rfl ?_;refine RunDT.skip rfl kr rfl ?_;refine RunDT.skip rfl kr rfl ?_;refine RunDT.skip rfl kr rfl ?_;refine RunDT.skip rfl kr rfl ?_;refine RunDT.skip rfl kr rfl ?_;refine RunDT.skip rfl kr rfl ?_;refine RunDT.skip rfl kr rfl ?_;refine RunDT.skip rfl kr rfl ?_;refine RunDT.skip rfl kr rfl ?_;refine RunDT.skip rfl kr rfl ?_;refine RunDT.skip rfl kr rfl ?_;refine RunDT.skip rfl kr rfl ?_;refine RunDT.q (x:= .v (.bool true)) rfl kr rfl kr rfl kr kr ?_;refine RunDT.q (x:= .v (.bool true)) rfl kr rfl (AA rfl) rfl kr kr ?_;have hq:=OI hj242; subst hq
       have hT263:=((((((hT236.front 5 rfl).front 5 rfl).front 2 rfl).front 5 rfl).front 5 rfl).front 5 rfl)
       exact RunDT.done rfl ⟨_,⟨hp,hT263,rfl⟩,WkY.f1⟩
      ·rw [Cg hc275] at hj242
       rw [hc275];refine RunDT.q (x:=e114) rfl kr rfl kr rfl kr kr ?_;refine RunDT.q (x:= .v (.int .i64 c233)) rfl kr rfl kr rfl kr kr ?_;obtain ⟨v237,hv237,hj242⟩:=OB hj242
       have hT238:=(hT236.front 3 rfl)
       refine RunDT.q (x:=eAt e114 c233.toNat) rfl kr rfl kr rfl (AQ (a:=e114) (b:= .v (.int .i64 c233)) kr kr (MZ (bytes:=8) hT238 kr hv237)) kr ?_;refine RunDT.q (x:= .v (.int .i64 v237)) rfl kr rfl kr rfl (CR (p:=eAt e114 c233.toNat) kr (FR (y:= .v (.int .i64 v237)) (m:=1) (g:=false) hT238 (Cv hv237).2 kr kr kr)) (Fk (hT.front 2 rfl) (Cv hv237).2 kr) ?_;refine RunDT.q (x:=e114) rfl kr rfl kr rfl kr kr ?_;refine RunDT.q (x:= .v (.int .i64 v186.1)) rfl kr rfl kr rfl kr kr ?_;obtain ⟨v239,hv239,hj242⟩:=OB hj242;refine RunDT.q (x:=eAt e114 v186.1.toNat) rfl kr rfl kr rfl (AQ (a:=e114) (b:= .v (.int .i64 v186.1)) kr kr (MZ (bytes:=8) hT238 kr hv239)) kr ?_;refine RunDT.q (x:= .v (.int .i64 v239)) rfl kr rfl kr rfl (CR (p:=eAt e114 v186.1.toNat) kr (FR (y:= .v (.int .i64 v239)) (m:=1) (g:=false) hT238 (Cv hv239).2 kr kr kr)) (Fk (hT.front 2 rfl) (Cv hv239).2 kr) ?_;refine RunDT.q (x:= .v (.bool (decide (v237 < v239)))) rfl kr rfl kr rfl kr kr ?_;refine RunDT.q (x:= .v (.bool (decide (v237 < v239)))) rfl kr rfl kr rfl kr kr ?_;refine RunDT.q (x:= .v (.bool (decide (v237 < v239)))) rfl kr rfl kr rfl kr kr ?_;rcases BE (decide (v237 < v239)) with hc276 | hc276
       ·rw [if_pos hc276] at hj242
        rw [hc276];refine RunDT.skip rfl kr rfl ?_;refine RunDT.skip rfl kr rfl ?_;refine RunDT.skip rfl kr rfl ?_;refine RunDT.skip rfl kr rfl ?_;refine RunDT.skip rfl kr rfl ?_;refine RunDT.skip rfl kr rfl ?_;refine RunDT.skip rfl kr rfl ?_;refine RunDT.skip rfl kr rfl ?_;refine RunDT.skip rfl kr rfl ?_;refine RunDT.skip rfl kr rfl ?_;refine RunDT.skip rfl kr rfl ?_;refine RunDT.skip rfl kr rfl ?_;refine RunDT.skip rfl kr rfl ?_;refine RunDT.skip rfl kr rfl ?_;refine RunDT.q (x:= .v (.bool true)) rfl kr rfl kr rfl kr kr ?_;refine RunDT.q (x:= .v (.bool true)) rfl kr rfl (AA rfl) rfl kr kr ?_;have hq:=OI hj242; subst hq
        have hT264:=((((((hT238.front 5 rfl).front 5 rfl).front 3 rfl).front 3 rfl).front 5 rfl).front 5 rfl)
        exact RunDT.done rfl ⟨_,⟨hp,hT264,rfl⟩,WkY.f1⟩
       ·rw [Cg hc276] at hj242
        rw [hc276];refine RunDT.q (x:=e114) rfl kr rfl kr rfl kr kr ?_;refine RunDT.q (x:= .v (.int .i64 c233)) rfl kr rfl kr rfl kr kr ?_;obtain ⟨v240,hv240,hj242⟩:=OB hj242;refine RunDT.q (x:=eAt e114 c233.toNat) rfl kr rfl kr rfl (AQ (a:=e114) (b:= .v (.int .i64 c233)) kr kr (MZ (bytes:=8) hT238 kr hv240)) kr ?_;refine RunDT.q (x:= .v (.int .i64 v240)) rfl kr rfl kr rfl (CR (p:=eAt e114 c233.toNat) kr (FR (y:= .v (.int .i64 v240)) (m:=1) (g:=false) hT238 (Cv hv240).2 kr kr kr)) (Fk (hT.front 2 rfl) (Cv hv240).2 kr) ?_;refine RunDT.q (x:=e114) rfl kr rfl kr rfl kr kr ?_;refine RunDT.q (x:= .v (.int .i64 v186.1)) rfl kr rfl kr rfl kr kr ?_;obtain ⟨v241,hv241,hj242⟩:=OB hj242;refine RunDT.q (x:=eAt e114 v186.1.toNat) rfl kr rfl kr rfl (AQ (a:=e114) (b:= .v (.int .i64 v186.1)) kr kr (MZ (bytes:=8) hT238 kr hv241)) kr ?_;refine RunDT.q (x:= .v (.int .i64 v241)) rfl kr rfl kr rfl (CR (p:=eAt e114 v186.1.toNat) kr (FR (y:= .v (.int .i64 v241)) (m:=1) (g:=false) hT238 (Cv hv241).2 kr kr kr)) (Fk (hT.front 2 rfl) (Cv hv241).2 kr) ?_;refine RunDT.q (x:= .v (.bool (v240==v241))) rfl kr rfl kr rfl kr kr ?_;refine RunDT.q (x:= .v (.bool (v240==v241))) rfl kr rfl kr rfl kr kr ?_;rcases BE (v240==v241) with hc277 | hc277
        ·rw [if_pos hc277] at hj242
         rw [hc277];refine RunDT.q (x:= .v (.int .i64 c233)) rfl kr rfl kr rfl kr kr ?_;refine RunDT.q (x:= .v (.int .i64 v186.1)) rfl kr rfl kr rfl kr kr ?_;refine RunDT.q (x:= .v (.bool (decide (c233 < v186.1)))) rfl kr rfl kr rfl kr kr ?_;refine RunDT.q (x:= .v (.bool (decide (c233 < v186.1)))) rfl kr rfl kr rfl kr kr ?_;refine RunDT.q (x:= .v (.bool (decide (c233 < v186.1)))) rfl kr rfl kr rfl kr kr ?_;refine RunDT.q (x:= .v (.bool (decide (c233 < v186.1)))) rfl kr rfl (AA rfl) rfl kr kr ?_;have hq:=OI hj242; subst hq
         have hT265:=((((((hT238.front 5 rfl).front 5 rfl).front 3 rfl).front 3 rfl).front 5 rfl).front 5 rfl)
         exact RunDT.done rfl ⟨_,⟨hp,hT265,rfl⟩,WkY.f1⟩
        ·rw [Cg hc277] at hj242
         rw [hc277];refine RunDT.skip rfl kr rfl ?_;refine RunDT.skip rfl kr rfl ?_;refine RunDT.skip rfl kr rfl ?_;refine RunDT.q (x:= .v (.bool false)) rfl kr rfl kr rfl kr kr ?_;refine RunDT.q (x:= .v (.bool false)) rfl kr rfl kr rfl kr kr ?_;refine RunDT.q (x:= .v (.bool false)) rfl kr rfl (AA rfl) rfl kr kr ?_;have hq:=OI hj242; subst hq
         have hT266:=((((((hT238.front 5 rfl).front 5 rfl).front 3 rfl).front 3 rfl).front 5 rfl).front 5 rfl)
         exact RunDT.done rfl ⟨_,⟨hp,hT266,rfl⟩,WkY.f1⟩
     ·rw [Cg hc274] at hj242
      rw [hc274];refine RunDT.skip rfl kr rfl ?_;refine RunDT.skip rfl kr rfl ?_;refine RunDT.skip rfl kr rfl ?_;refine RunDT.skip rfl kr rfl ?_;refine RunDT.skip rfl kr rfl ?_;refine RunDT.skip rfl kr rfl ?_;refine RunDT.skip rfl kr rfl ?_;refine RunDT.skip rfl kr rfl ?_;refine RunDT.skip rfl kr rfl ?_;refine RunDT.skip rfl kr rfl ?_;refine RunDT.skip rfl kr rfl ?_;refine RunDT.skip rfl kr rfl ?_;refine RunDT.skip rfl kr rfl ?_;refine RunDT.skip rfl kr rfl ?_;refine RunDT.skip rfl kr rfl ?_;refine RunDT.skip rfl kr rfl ?_;refine RunDT.skip rfl kr rfl ?_;refine RunDT.skip rfl kr rfl ?_;refine RunDT.skip rfl kr rfl ?_;refine RunDT.skip rfl kr rfl ?_;refine RunDT.skip rfl kr rfl ?_;refine RunDT.skip rfl kr rfl ?_;refine RunDT.skip rfl kr rfl ?_;refine RunDT.skip rfl kr rfl ?_;refine RunDT.skip rfl kr rfl ?_;refine RunDT.skip rfl kr rfl ?_;refine RunDT.skip rfl kr rfl ?_;refine RunDT.skip rfl kr rfl ?_;refine RunDT.skip rfl kr rfl ?_;refine RunDT.q (x:= .v (.bool false)) rfl kr rfl (AA rfl) rfl kr kr ?_;have hq:=OI hj242; subst hq
      have hT267:=((((((hT236.front 5 rfl).front 5 rfl).front 2 rfl).front 5 rfl).front 5 rfl).front 5 rfl)
      exact RunDT.done rfl ⟨_,⟨hp,hT267,rfl⟩,WkY.f1⟩
    ·rw [Cg hc273] at hj242
     rw [hc273];refine RunDT.skip rfl kr rfl ?_;refine RunDT.skip rfl kr rfl ?_;refine RunDT.skip rfl kr rfl ?_;refine RunDT.q (x:= .v (.bool false)) rfl kr rfl (AA rfl) rfl kr kr ?_;refine RunDT.q (x:= .v (.bool false)) rfl kr rfl (AA rfl) rfl kr kr ?_;refine RunDT.skip rfl kr rfl ?_;refine RunDT.skip rfl kr rfl ?_;refine RunDT.skip rfl kr rfl ?_;refine RunDT.skip rfl kr rfl ?_;refine RunDT.skip rfl kr rfl ?_;refine RunDT.skip rfl kr rfl ?_;refine RunDT.skip rfl kr rfl ?_;refine RunDT.skip rfl kr rfl ?_;refine RunDT.skip rfl kr rfl ?_;refine RunDT.skip rfl kr rfl ?_;refine RunDT.skip rfl kr rfl ?_;refine RunDT.skip rfl kr rfl ?_;refine RunDT.skip rfl kr rfl ?_;refine RunDT.skip rfl kr rfl ?_;refine RunDT.skip rfl kr rfl ?_;refine RunDT.skip rfl kr rfl ?_;refine RunDT.skip rfl kr rfl ?_;refine RunDT.skip rfl kr rfl ?_;refine RunDT.skip rfl kr rfl ?_;refine RunDT.skip rfl kr rfl ?_;refine RunDT.skip rfl kr rfl ?_;refine RunDT.skip rfl kr rfl ?_;refine RunDT.skip rfl kr rfl ?_;refine RunDT.skip rfl kr rfl ?_;refine RunDT.skip rfl kr rfl ?_;refine RunDT.skip rfl kr rfl ?_;refine RunDT.skip rfl kr rfl ?_;refine RunDT.skip rfl kr rfl ?_;refine RunDT.skip rfl kr rfl ?_;refine RunDT.q (x:= .v (.bool false)) rfl kr rfl (AA rfl) rfl kr kr ?_;have hq:=OI hj242; subst hq
     have hT268:=((((((hT236.front 5 rfl).front 5 rfl).front 2 rfl).front 5 rfl).front 5 rfl).front 5 rfl)
     exact RunDT.done rfl ⟨_,⟨hp,hT268,rfl⟩,WkY.f1⟩
   rintro _ ⟨hp269,hT270,rfl⟩;refine BW (b:=j242) kr (fun hb271=>?_) (fun hb271=>?_)
   ·rw [if_pos hb271] at h
    refine BJ AC [(4,.v (.bool false))] ?_;refine SemY.ret ?_;have hq:=OI h; subst hq
    have hT272:=hT270.drop.drop.drop.drop.drop.drop
    exact ⟨rfl,_,⟨hp269,hT272,rfl⟩,WkY.f1⟩
   ·rw [Cg hb271] at h
    refine SemY.skip ?_;refine AI ?_;refine AX AC 2 ?_;refine Aw rfl ?_;exact Br WkY.f1 (ih0 (wr .i64 (c233 + 1)) _ h  hp269 hT270)
  ·rw [Cg hb234] at h
   refine SemY.exit ?_;have hq:=OI h; subst hq;exact ⟨rfl,_,⟨hp,hT,rfl⟩,WkY.f1⟩
theorem G6 {L:List Asn}(r75:(List (List AE))×(List (List UInt8))) (v91:(List Int)×Int) (e2:AV) (e9:AV) (e109:AV) (e114:AV) (e119:AV) (e123:AV):∀ (f:Nat) (c148:Int) (c149:(List Aq)) (c150:(List Bool)) (c151:(List Int)) (c152:(List Int)) (c153:(List Int)) (c154:(List (List UInt8))) (r:(Unit) ⊕ (Unit)),Cb r75 v91 f c148 c149 c150 c151 c152 c153 c154=some r->∀ (hp:Hp),T hp ((cel e2 1 23 (.sl 9 (c149.map AH.enc)))::(own_ (ocL 1 4 (ocV cdB)) e109 c150)::(own_ (ocL 1 3 (ocV cdI)) e114 c151)::(own_ (ocL 1 3 (ocV cdI)) e119 c152)::(own_ (ocL 1 3 (ocV cdI)) e123 c153)::(cel e9 1 40 (.sl 1 (c154.map cdS.enc)))::L)->SemYN E0 ⟨none,false⟩ (pc DF [1,1,1,1,1,1,1,1,1,1,1,1,1,0,1,0,0]) f ⟨Fr 216 [(5,e2),(6,.sl 1 (r75.1.map (cdL 5 AB).enc)),(12,e109),(13,e114),(14,e119),(15,e123),(16,.fn 40 [] [e9,e2]),(88,.sl 1 (v91.1.map cdI.enc)),(89,.v (.int .i64 (v91.1.length:Int))),(90,.v (.int .i64 c148))],hp⟩ (fun e s=>match r with
 | (.inl w)=>e=(.exit 4)/\∃ s2,(∃ (h':Hp),T h' (L)/\s2=⟨Fr 216 [],h'⟩)/\WkY E0 s s2
 | (.inr w)=>e = .ret/\∃ s2,(∃ (h':Hp),T h' (L)/\s2=⟨Fr 216 [(4,.v (.bool false))],h'⟩)/\WkY E0 s s2):=by
 intro f;induction f with
 | zero=>intro c148 c149 c150 c151 c152 c153 c154 r h; cases h
 | succ f ih0 =>
  intro c148 c149 c150 c151 c152 c153 c154 r h  hp hT;unfold Cb at h;refine C5 ?_;refine BJ AC [(5,e2),(6,.sl 1 (r75.1.map (cdL 5 AB).enc)),(12,e109),(13,e114),(14,e119),(15,e123),(16,.fn 40 [] [e9,e2]),(88,.sl 1 (v91.1.map cdI.enc)),(89,.v (.int .i64 (v91.1.length:Int))),(90,.v (.int .i64 c148)),(91,.v (.bool (decide (c148 < (v91.1.length:Int)))))] ?_;refine AK ?_;refine BW (b:=(decide (c148 < (v91.1.length:Int)))) kr (fun hb155=>?_) (fun hb155=>?_)
  ·rw [if_pos hb155] at h
   refine SemY.skip ?_;refine AK ?_;refine BI ?_;refine AK ?_;refine AI ?_;obtain ⟨v156,hv156,h⟩:=OB h;refine AM AC 0 rfl (Cw (AA rfl) rfl (AQ (a:= .sl 1 (v91.1.map cdI.enc)) (b:= .v (.int .i64 c148)) kr kr (GS (e:=cdI.enc) (el:=3) (k:=1) (ki:= .i64) kr kr hv156))) ?_;refine BK AC [(5,e2),(6,.sl 1 (r75.1.map (cdL 5 AB).enc)),(12,e109),(13,e114),(14,e119),(15,e123),(16,.fn 40 [] [e9,e2]),(19,.v (.int .i64 v156)),(88,.sl 1 (v91.1.map cdI.enc)),(89,.v (.int .i64 (v91.1.length:Int))),(90,.v (.int .i64 c148))] ?_;refine AK ?_;refine AK ?_;obtain ⟨j159,hj159,h⟩:=OB h;refine Le (A:=fun s1=>∃ (h':Hp),T h' ((cel e2 1 23 (.sl 9 (c149.map AH.enc)))::(own_ (ocL 1 4 (ocV cdB)) e109 c150)::(own_ (ocL 1 3 (ocV cdI)) e114 c151)::(own_ (ocL 1 3 (ocV cdI)) e119 c152)::(own_ (ocL 1 3 (ocV cdI)) e123 c153)::(cel e9 1 40 (.sl 1 (c154.map cdS.enc)))::L)/\s1=⟨Fr 216 [(5,e2),(6,.sl 1 (r75.1.map (cdL 5 AB).enc)),(12,e109),(13,e114),(14,e119),(15,e123),(16,.fn 40 [] [e9,e2]),(19,.v (.int .i64 v156)),(88,.sl 1 (v91.1.map cdI.enc)),(89,.v (.int .i64 (v91.1.length:Int))),(90,.v (.int .i64 c148)),(107,.v (.bool j159))],h'⟩) ?_ ?_
   ·refine II (n:=216) AC 3 [(5,e2),(6,.sl 1 (r75.1.map (cdL 5 AB).enc)),(12,e109),(13,e114),(14,e119),(15,e123),(16,.fn 40 [] [e9,e2]),(19,.v (.int .i64 v156)),(88,.sl 1 (v91.1.map cdI.enc)),(89,.v (.int .i64 (v91.1.length:Int))),(90,.v (.int .i64 c148)),(96,.v (.bool (decide (v156 < 0))))] hp kr ?_
    rcases BE (decide (v156 < 0)) with hc308 | hc308
    ·rw [if_pos hc308] at hj159
     rw [hc308];refine AX AC 11 ?_;have hq:=OI hj159; subst hq;exact Aw rfl ⟨_,⟨hp,hT,rfl⟩,WkY.f1⟩
    ·rw [Cg hc308] at hj159
     rw [hc308];refine AX AC 1 ?_;refine AM AC 0 rfl (Cw kr rfl (CR (p:=e2) kr (DQ (y:= .sl 9 (c149.map AH.enc)) (m:=1) (g:=false) hT kr kr kr))) ?_;refine AM AC 0 rfl (Cw kr rfl (Ed (a:= .sl 9 (c149.map AH.enc)) kr (DC (el:=42) kr))) ?_;refine II (n:=216) AC 3 [(5,e2),(6,.sl 1 (r75.1.map (cdL 5 AB).enc)),(12,e109),(13,e114),(14,e119),(15,e123),(16,.fn 40 [] [e9,e2]),(19,.v (.int .i64 v156)),(88,.sl 1 (v91.1.map cdI.enc)),(89,.v (.int .i64 (v91.1.length:Int))),(90,.v (.int .i64 c148)),(97,.v (.int .i64 v156)),(98,.sl 9 (c149.map AH.enc)),(99,.v (.int .i64 (c149.length:Int))),(100,.v (.bool (decide (v156≥(c149.length:Int))))),(102,.v (.bool (decide (v156≥(c149.length:Int)))))] hp kr ?_;rcases BE (decide (v156≥(c149.length:Int))) with hc309 | hc309
     ·rw [if_pos hc309] at hj159
      rw [hc309];refine AX AC 5 ?_;have hq:=OI hj159; subst hq;exact Aw rfl ⟨_,⟨hp,hT,rfl⟩,WkY.f1⟩
     ·rw [Cg hc309] at hj159
      rw [hc309];refine AX AC 2 ?_;obtain ⟨v157,hv157,hj159⟩:=OB hj159
      have hT158:=(hT.front 1 rfl)
      refine AM AC 0 rfl (Cw kr rfl (AQ (a:=e109) (b:= .v (.int .i64 v156)) kr kr (MZ (bytes:=1) hT158 kr hv157))) ?_;refine AM AC 0 rfl (Cw kr rfl (CR (p:=eAt e109 v156.toNat) kr (FR (y:= .v (.bool v157)) (m:=1) (g:=false) hT158 (Cv hv157).2 kr kr kr))) ?_;refine AX AC 1 ?_;have hq:=OI hj159; subst hq
      have hT175:=((((((hT158.front 5 rfl).front 5 rfl).front 5 rfl).front 5 rfl).front 4 rfl).front 5 rfl)
      exact Aw rfl ⟨_,⟨hp,hT175,rfl⟩,WkY.f1⟩
   rintro _ ⟨hp176,hT177,rfl⟩;refine BW (b:=j159) kr (fun hb178=>?_) (fun hb178=>?_)
   ·rw [if_pos hb178] at h
    refine BJ AC [(4,.v (.bool false))] ?_;refine SemY.ret ?_;have hq:=OI h; subst hq
    have hT179:=hT177.drop.drop.drop.drop.drop.drop
    exact ⟨rfl,_,⟨hp176,hT179,rfl⟩,WkY.f1⟩
   ·rw [Cg hb178] at h
    refine SemY.skip ?_;refine AK ?_;refine AI ?_;refine AX AC 2 ?_;obtain ⟨v180,hv180,h⟩:=OB h
    have hT181:=(hT177.front 1 rfl)
    refine AM AC 0 rfl (Cw (AA rfl) rfl (AQ (a:=e109) (b:= .v (.int .i64 v156)) kr kr (MZ (bytes:=1) hT181 kr hv180))) ?_;obtain ⟨hp182,hs183,hT184⟩:=Kg (P:=Tryz.prog) (ty:=4) (y:= .v (.bool true)) (v':=true) hT181 (Cv hv180).2 kr kr kr;refine RunL.store AC (y:=eAt e109 v156.toNat) (z:= .v (.bool true)) rfl (AA rfl) kr kr hs183 ?_;refine Aw rfl (SemY.fr (l':=[(5,e2),(6,.sl 1 (r75.1.map (cdL 5 AB).enc)),(12,e109),(13,e114),(14,e119),(15,e123),(16,.fn 40 [] [e9,e2]),(19,.v (.int .i64 v156)),(88,.sl 1 (v91.1.map cdI.enc)),(89,.v (.int .i64 (v91.1.length:Int))),(90,.v (.int .i64 c148))]) kr ?_);refine AK ?_;refine AI ?_;refine AX AC 2 ?_;obtain ⟨v186,hv186,h⟩:=OB h
    have hT185:=((hT184.front 1 rfl).front 5 rfl)
    refine HN (E:=E0) (e:=E0) rfl rfl AC rfl rfl (fid:=40) (caps:=[e9,e2]) (xs:=[.v (.int .i64 v156)]) (fn:=Tryz.f40) (c:=Ev) (Out:=fun v h'=>v = .v (.int .i64 v186.1)/\T h' ((cel e9 1 40 (.sl 1 (v186.2.1.map cdS.enc)))::(cel e2 1 23 (.sl 9 (v186.2.2.map AH.enc)))::(own_ (ocL 1 4 (ocV cdB)) e109 (c150.set v156.toNat true))::(own_ (ocL 1 3 (ocV cdI)) e114 c151)::(own_ (ocL 1 3 (ocV cdI)) e119 c152)::(own_ (ocL 1 3 (ocV cdI)) e123 c153)::L)) rfl (AA rfl) kr kr kr kr (by show 3<=16; decide) (GQ v156 e9 c154 e2 c149 _ hv186 hT185) ?_;rintro xx hp187 ⟨hqhp187,hT188⟩; subst xx;refine BK AC [(5,e2),(6,.sl 1 (r75.1.map (cdL 5 AB).enc)),(12,e109),(13,e114),(14,e119),(15,e123),(16,.fn 40 [] [e9,e2]),(19,.v (.int .i64 v156)),(20,.v (.int .i64 v186.1)),(88,.sl 1 (v91.1.map cdI.enc)),(89,.v (.int .i64 (v91.1.length:Int))),(90,.v (.int .i64 c148))] ?_;refine AK ?_;refine AK ?_;refine AI ?_;refine AX AC 2 ?_;obtain ⟨v189,hv189,h⟩:=OB h
    have hT190:=(hT188.front 5 rfl)
    refine AM AC 0 rfl (Cw (AA rfl) rfl (AQ (a:=e123) (b:= .v (.int .i64 v186.1)) kr kr (MZ (bytes:=8) hT190 kr hv189))) ?_;refine AM AC 0 rfl (Cw (AA rfl) rfl (CR (p:=eAt e123 v186.1.toNat) kr (FR (y:= .v (.int .i64 v189)) (m:=1) (g:=false) hT190 (Cv hv189).2 kr kr kr))) ?_;refine BK AC [(5,e2),(6,.sl 1 (r75.1.map (cdL 5 AB).enc)),(12,e109),(13,e114),(14,e119),(15,e123),(16,.fn 40 [] [e9,e2]),(19,.v (.int .i64 v156)),(20,.v (.int .i64 v186.1)),(21,.v (.int .i64 v189)),(88,.sl 1 (v91.1.map cdI.enc)),(89,.v (.int .i64 (v91.1.length:Int))),(90,.v (.int .i64 c148))] ?_;refine AK ?_;obtain ⟨j201,hj201,h⟩:=OB h;refine Kr 33 (A:=fun s1=>∃ (h':Hp),T h' ((cel e2 1 23 (.sl 9 (v186.2.2.map AH.enc)))::(own_ (ocL 1 4 (ocV cdB)) e109 j201.2)::(own_ (ocL 1 3 (ocV cdI)) e114 c151)::(own_ (ocL 1 3 (ocV cdI)) e119 c152)::(own_ (ocL 1 3 (ocV cdI)) e123 c153)::(cel e9 1 40 (.sl 1 (v186.2.1.map cdS.enc)))::L)/\s1=⟨Fr 216 [(5,e2),(6,.sl 1 (r75.1.map (cdL 5 AB).enc)),(12,e109),(13,e114),(14,e119),(15,e123),(16,.fn 40 [] [e9,e2]),(19,.v (.int .i64 v156)),(20,.v (.int .i64 v186.1)),(88,.sl 1 (v91.1.map cdI.enc)),(89,.v (.int .i64 (v91.1.length:Int))),(90,.v (.int .i64 c148)),(150,.v (.bool j201.1))],h'⟩) AC.mixed kr kr ?_ ?_
    ·refine RunDT.q (x:= .v (.int .i64 v189)) rfl kr rfl (AA rfl) rfl kr kr ?_
     refine RunDT.q (x:= .v (.bool (decide (v189≥0)))) rfl kr rfl (AA rfl) rfl kr kr ?_;refine RunDT.q (x:= .v (.bool (decide (v189≥0)))) rfl kr rfl (AA rfl) rfl kr kr ?_;rcases BE (decide (v189≥0)) with hc303 | hc303
     ·rw [if_pos hc303] at hj201
      rw [hc303];refine RunDT.q (x:= .v (.int .i64 v186.1)) rfl kr rfl kr rfl kr kr ?_;refine RunDT.q (x:= .v (.bool (v186.1==4))) rfl kr rfl kr rfl kr kr ?_;refine RunDT.q (x:= .v (.bool (v186.1==4))) rfl kr rfl kr rfl kr kr ?_;rcases BE (v186.1==4) with hc304 | hc304
      ·rw [if_pos hc304] at hj201
       rw [hc304];refine RunDT.q (x:= .v (.int .i64 v189)) rfl kr rfl kr rfl kr kr ?_;refine RunDT.q (x:= .v (.int .i64 v156)) rfl kr rfl kr rfl kr kr ?_;refine RunDT.q (x:= .v (.bool (decide (v189 > v156)))) rfl kr rfl kr rfl kr kr ?_;refine RunDT.q (x:= .v (.bool (decide (v189 > v156)))) rfl kr rfl kr rfl kr kr ?_;refine RunDT.q (x:= .v (.bool (decide (v189 > v156)))) rfl kr rfl kr rfl kr kr ?_;rcases BE (decide (v189 > v156)) with hc305 | hc305
       ·rw [if_pos hc305] at hj201
        rw [hc305];refine RunDT.skip rfl kr rfl ?_;refine RunDT.skip rfl kr rfl ?_;refine RunDT.skip rfl kr rfl ?_;refine RunDT.skip rfl kr rfl ?_;refine RunDT.skip rfl kr rfl ?_;refine RunDT.skip rfl kr rfl ?_;refine RunDT.skip rfl kr rfl ?_;refine RunDT.skip rfl kr rfl ?_;refine RunDT.skip rfl kr rfl ?_;refine RunDT.skip rfl kr rfl ?_;refine RunDT.skip rfl kr rfl ?_;refine RunDT.skip rfl kr rfl ?_;refine RunDT.skip rfl kr rfl ?_;refine RunDT.skip rfl kr rfl ?_;refine RunDT.skip rfl kr rfl ?_;refine RunDT.skip rfl kr rfl ?_;refine RunDT.skip rfl kr rfl ?_;refine RunDT.skip rfl kr rfl ?_;refine RunDT.skip rfl kr rfl ?_;refine RunDT.skip rfl kr rfl ?_;refine RunDT.q (x:= .v (.bool true)) rfl kr rfl kr rfl kr kr ?_;refine RunDT.q (x:= .v (.bool true)) rfl kr rfl (AA rfl) rfl kr kr ?_;have hq:=OI hj201; subst hq
        have hT223:=((((((hT190.front 1 rfl).front 1 rfl).front 5 rfl).front 5 rfl).front 5 rfl).front 5 rfl)
        exact RunDT.done rfl ⟨_,⟨hp187,hT223,rfl⟩,WkY.f1⟩
       ·rw [Cg hc305] at hj201
        rw [hc305];refine RunDT.q (x:= .v (.int .i64 v186.1)) rfl kr rfl kr rfl kr kr ?_;refine RunDT.q (x:= .v (.bool (decide (v186.1 < 4)))) rfl kr rfl kr rfl kr kr ?_;refine RunDT.q (x:= .v (.bool (decide (v186.1 < 4)))) rfl kr rfl kr rfl kr kr ?_;rcases BE (decide (v186.1 < 4)) with hc306 | hc306
        ·rw [if_pos hc306] at hj201
         rw [hc306];refine RunDT.q (x:= .sl 1 (r75.1.map (cdL 5 AB).enc)) rfl kr rfl kr rfl kr kr ?_;refine RunDT.q (x:= .v (.int .i64 v186.1)) rfl kr rfl kr rfl kr kr ?_;obtain ⟨v191,hv191,hj201⟩:=OB hj201;refine RunDT.q (x:= .pe (.sl 5 (v191.map AB.enc)) 0) rfl kr rfl kr rfl (AQ (a:= .sl 1 (r75.1.map (cdL 5 AB).enc)) (b:= .v (.int .i64 v186.1)) kr kr (GS (e:=(cdL 5 AB).enc) (el:=22) (k:=1) (ki:= .i64) kr kr hv191)) kr ?_;refine RunDT.q (x:= .sl 5 (v191.map AB.enc)) rfl kr rfl kr rfl kr kr ?_
         have hT192:=(hT190.front 2 rfl)
         refine RunDT.q (x:= .sl 9 (v186.2.2.map AH.enc)) rfl kr rfl kr rfl (CR (p:=e2) kr (DQ (y:= .sl 9 (v186.2.2.map AH.enc)) (m:=1) (g:=false) hT192 kr kr kr)) (FK (hT190.front 2 rfl) kr) ?_;refine RunDT.q (x:= .v (.int .i64 v189)) rfl kr rfl kr rfl kr kr ?_;obtain ⟨v193,hv193,hj201⟩:=OB hj201;refine RunDT.q (x:= .pe (AH.enc v193) 0) rfl kr rfl kr rfl (AQ (a:= .sl 9 (v186.2.2.map AH.enc)) (b:= .v (.int .i64 v189)) kr kr (GS (e:=AH.enc) (el:=42) (k:=9) (ki:= .i64) kr kr hv193)) kr ?_;refine RunDT.q (x:=(AH.enc v193)) rfl kr rfl kr rfl kr kr ?_;refine RunDT.q (x:= .sl 9 (v186.2.2.map AH.enc)) rfl kr rfl kr rfl (CR (p:=e2) kr (DQ (y:= .sl 9 (v186.2.2.map AH.enc)) (m:=1) (g:=false) hT192 kr kr kr)) (FK (hT190.front 2 rfl) kr) ?_;refine RunDT.q (x:= .v (.int .i64 v156)) rfl kr rfl kr rfl kr kr ?_;obtain ⟨v194,hv194,hj201⟩:=OB hj201;refine RunDT.q (x:= .pe (AH.enc v194) 0) rfl kr rfl kr rfl (AQ (a:= .sl 9 (v186.2.2.map AH.enc)) (b:= .v (.int .i64 v156)) kr kr (GS (e:=AH.enc) (el:=42) (k:=9) (ki:= .i64) kr kr hv194)) kr ?_;refine RunDT.q (x:=(AH.enc v194)) rfl kr rfl kr rfl kr kr ?_;refine RunDT.q (x:= .v (.int .i64 v189)) rfl kr rfl kr rfl kr kr ?_;refine RunDT.q (x:= .v (.int .i64 v156)) rfl kr rfl kr rfl kr kr ?_;obtain ⟨v195,hv195,hj201⟩:=OB hj201;refine G9 (v:=v195) (caps:=[]) (xs:=[.sl 5 (v191.map AB.enc),AH.enc v193,AH.enc v194,.v (.int .i64 v189),.v (.int .i64 v156)]) (u:=(v191,v193,v194,v189,v156,())) rfl rfl Km rfl kr kr kr (A2 (CG (c:=(cdL 5 AB)) (v:=v191)) (A2 (CG (c:=AH) (v:=v193)) (A2 (CG (c:=AH) (v:=v194)) (A2 (CG (c:=cdI) (v:=v189)) (A2 (CG (c:=cdI) (v:=v156)) SeesD.nil))))) kr hv195 ?_;refine RunDT.q (x:= .v (.bool (decide (v195≥0)))) rfl kr rfl kr rfl kr kr ?_;refine RunDT.q (x:= .v (.bool (decide (v195≥0)))) rfl kr rfl kr rfl kr kr ?_;refine RunDT.q (x:= .v (.bool (decide (v195≥0)))) rfl kr rfl kr rfl kr kr ?_;refine RunDT.q (x:= .v (.bool (decide (v195≥0)))) rfl kr rfl (AA rfl) rfl kr kr ?_
         have hq:=OI hj201; subst hq
         have hT224:=((((((hT192.front 2 rfl).front 2 rfl).front 5 rfl).front 5 rfl).front 5 rfl).front 5 rfl)
         exact RunDT.done rfl ⟨_,⟨hp187,hT224,rfl⟩,WkY.f1⟩
        ·rw [Cg hc306] at hj201
         rw [hc306];refine RunDT.skip rfl kr rfl ?_;refine RunDT.skip rfl kr rfl ?_;refine RunDT.skip rfl kr rfl ?_;refine RunDT.skip rfl kr rfl ?_;refine RunDT.skip rfl kr rfl ?_;refine RunDT.skip rfl kr rfl ?_;refine RunDT.skip rfl kr rfl ?_;refine RunDT.skip rfl kr rfl ?_;refine RunDT.skip rfl kr rfl ?_;refine RunDT.skip rfl kr rfl ?_;refine RunDT.skip rfl kr rfl ?_;refine RunDT.skip rfl kr rfl ?_;refine RunDT.skip rfl kr rfl ?_;refine RunDT.skip rfl kr rfl ?_;refine RunDT.skip rfl kr rfl ?_;refine RunDT.skip rfl kr rfl ?_;refine RunDT.q (x:= .v (.bool false)) rfl kr rfl kr rfl kr kr ?_;refine RunDT.q (x:= .v (.bool false)) rfl kr rfl kr rfl kr kr ?_;refine RunDT.q (x:= .v (.bool false)) rfl kr rfl (AA rfl) rfl kr kr ?_;have hq:=OI hj201; subst hq
         have hT225:=((((((hT190.front 1 rfl).front 1 rfl).front 5 rfl).front 5 rfl).front 5 rfl).front 5 rfl)
         exact RunDT.done rfl ⟨_,⟨hp187,hT225,rfl⟩,WkY.f1⟩
      ·rw [Cg hc304] at hj201
       rw [hc304];refine RunDT.skip rfl kr rfl ?_;refine RunDT.skip rfl kr rfl ?_;refine RunDT.skip rfl kr rfl ?_;refine RunDT.q (x:= .v (.bool false)) rfl kr rfl kr rfl kr kr ?_;refine RunDT.q (x:= .v (.bool false)) rfl kr rfl kr rfl kr kr ?_;refine RunDT.q (x:= .v (.int .i64 v186.1)) rfl kr rfl kr rfl kr kr ?_;refine RunDT.q (x:= .v (.bool (decide (v186.1 < 4)))) rfl kr rfl kr rfl kr kr ?_;refine RunDT.q (x:= .v (.bool (decide (v186.1 < 4)))) rfl kr rfl kr rfl kr kr ?_;rcases BE (decide (v186.1 < 4)) with hc307 | hc307
       ·rw [if_pos hc307] at hj201
        rw [hc307];refine RunDT.q (x:= .sl 1 (r75.1.map (cdL 5 AB).enc)) rfl kr rfl kr rfl kr kr ?_;refine RunDT.q (x:= .v (.int .i64 v186.1)) rfl kr rfl kr rfl kr kr ?_;obtain ⟨v196,hv196,hj201⟩:=OB hj201;refine RunDT.q (x:= .pe (.sl 5 (v196.map AB.enc)) 0) rfl kr rfl kr rfl (AQ (a:= .sl 1 (r75.1.map (cdL 5 AB).enc)) (b:= .v (.int .i64 v186.1)) kr kr (GS (e:=(cdL 5 AB).enc) (el:=22) (k:=1) (ki:= .i64) kr kr hv196)) kr ?_;refine RunDT.q (x:= .sl 5 (v196.map AB.enc)) rfl kr rfl kr rfl kr kr ?_
        have hT197:=(hT190.front 2 rfl)
        refine RunDT.q (x:= .sl 9 (v186.2.2.map AH.enc)) rfl kr rfl kr rfl (CR (p:=e2) kr (DQ (y:= .sl 9 (v186.2.2.map AH.enc)) (m:=1) (g:=false) hT197 kr kr kr)) (FK (hT190.front 2 rfl) kr) ?_;refine RunDT.q (x:= .v (.int .i64 v189)) rfl kr rfl kr rfl kr kr ?_;obtain ⟨v198,hv198,hj201⟩:=OB hj201;refine RunDT.q (x:= .pe (AH.enc v198) 0) rfl kr rfl kr rfl (AQ (a:= .sl 9 (v186.2.2.map AH.enc)) (b:= .v (.int .i64 v189)) kr kr (GS (e:=AH.enc) (el:=42) (k:=9) (ki:= .i64) kr kr hv198)) kr ?_;refine RunDT.q (x:=(AH.enc v198)) rfl kr rfl kr rfl kr kr ?_;refine RunDT.q (x:= .sl 9 (v186.2.2.map AH.enc)) rfl kr rfl kr rfl (CR (p:=e2) kr (DQ (y:= .sl 9 (v186.2.2.map AH.enc)) (m:=1) (g:=false) hT197 kr kr kr)) (FK (hT190.front 2 rfl) kr) ?_;refine RunDT.q (x:= .v (.int .i64 v156)) rfl kr rfl kr rfl kr kr ?_;obtain ⟨v199,hv199,hj201⟩:=OB hj201;refine RunDT.q (x:= .pe (AH.enc v199) 0) rfl kr rfl kr rfl (AQ (a:= .sl 9 (v186.2.2.map AH.enc)) (b:= .v (.int .i64 v156)) kr kr (GS (e:=AH.enc) (el:=42) (k:=9) (ki:= .i64) kr kr hv199)) kr ?_;refine RunDT.q (x:=(AH.enc v199)) rfl kr rfl kr rfl kr kr ?_;refine RunDT.q (x:= .v (.int .i64 v189)) rfl kr rfl kr rfl kr kr ?_;refine RunDT.q (x:= .v (.int .i64 v156)) rfl kr rfl kr rfl kr kr ?_;obtain ⟨v200,hv200,hj201⟩:=OB hj201;refine G9 (v:=v200) (caps:=[]) (xs:=[.sl 5 (v196.map AB.enc),AH.enc v198,AH.enc v199,.v (.int .i64 v189),.v (.int .i64 v156)]) (u:=(v196,v198,v199,v189,v156,())) rfl rfl Km rfl kr kr kr (A2 (CG (c:=(cdL 5 AB)) (v:=v196)) (A2 (CG (c:=AH) (v:=v198)) (A2 (CG (c:=AH) (v:=v199)) (A2 (CG (c:=cdI) (v:=v189)) (A2 (CG (c:=cdI) (v:=v156)) SeesD.nil))))) kr hv200 ?_;refine RunDT.q (x:= .v (.bool (decide (v200≥0)))) rfl kr rfl kr rfl kr kr ?_;refine RunDT.q (x:= .v (.bool (decide (v200≥0)))) rfl kr rfl kr rfl kr kr ?_;refine RunDT.q (x:= .v (.bool (decide (v200≥0)))) rfl kr rfl kr rfl kr kr ?_;refine RunDT.q (x:= .v (.bool (decide (v200≥0)))) rfl kr rfl (AA rfl) rfl kr kr ?_
        have hq:=OI hj201; subst hq
        have hT226:=((((((hT197.front 2 rfl).front 2 rfl).front 5 rfl).front 5 rfl).front 5 rfl).front 5 rfl)
        exact RunDT.done rfl ⟨_,⟨hp187,hT226,rfl⟩,WkY.f1⟩
       ·rw [Cg hc307] at hj201
        rw [hc307];refine RunDT.skip rfl kr rfl ?_;refine RunDT.skip rfl kr rfl ?_;refine RunDT.skip rfl kr rfl ?_;refine RunDT.skip rfl kr rfl ?_;refine RunDT.skip rfl kr rfl ?_;refine RunDT.skip rfl kr rfl ?_;refine RunDT.skip rfl kr rfl ?_;refine RunDT.skip rfl kr rfl ?_;refine RunDT.skip rfl kr rfl ?_;refine RunDT.skip rfl kr rfl ?_;refine RunDT.skip rfl kr rfl ?_;refine RunDT.skip rfl kr rfl ?_;refine RunDT.skip rfl kr rfl ?_;refine RunDT.skip rfl kr rfl ?_;refine RunDT.skip rfl kr rfl ?_;refine RunDT.skip rfl kr rfl ?_;refine RunDT.q (x:= .v (.bool false)) rfl kr rfl kr rfl kr kr ?_;refine RunDT.q (x:= .v (.bool false)) rfl kr rfl kr rfl kr kr ?_;refine RunDT.q (x:= .v (.bool false)) rfl kr rfl (AA rfl) rfl kr kr ?_;have hq:=OI hj201; subst hq
        have hT227:=((((((hT190.front 1 rfl).front 1 rfl).front 5 rfl).front 5 rfl).front 5 rfl).front 5 rfl)
        exact RunDT.done rfl ⟨_,⟨hp187,hT227,rfl⟩,WkY.f1⟩
     ·rw [Cg hc303] at hj201
      rw [hc303];refine RunDT.skip rfl kr rfl ?_;refine RunDT.skip rfl kr rfl ?_;refine RunDT.skip rfl kr rfl ?_;refine RunDT.skip rfl kr rfl ?_;refine RunDT.skip rfl kr rfl ?_;refine RunDT.skip rfl kr rfl ?_;refine RunDT.skip rfl kr rfl ?_;refine RunDT.skip rfl kr rfl ?_;refine RunDT.skip rfl kr rfl ?_;refine RunDT.skip rfl kr rfl ?_;refine RunDT.skip rfl kr rfl ?_;refine RunDT.skip rfl kr rfl ?_;refine RunDT.skip rfl kr rfl ?_;refine RunDT.skip rfl kr rfl ?_;refine RunDT.skip rfl kr rfl ?_;refine RunDT.skip rfl kr rfl ?_;refine RunDT.skip rfl kr rfl ?_;refine RunDT.skip rfl kr rfl ?_;refine RunDT.skip rfl kr rfl ?_;refine RunDT.skip rfl kr rfl ?_;refine RunDT.skip rfl kr rfl ?_;refine RunDT.skip rfl kr rfl ?_;refine RunDT.skip rfl kr rfl ?_;refine RunDT.skip rfl kr rfl ?_;refine RunDT.skip rfl kr rfl ?_;refine RunDT.skip rfl kr rfl ?_;refine RunDT.skip rfl kr rfl ?_;refine RunDT.skip rfl kr rfl ?_;refine RunDT.skip rfl kr rfl ?_;refine RunDT.q (x:= .v (.bool false)) rfl kr rfl (AA rfl) rfl kr kr ?_;have hq:=OI hj201; subst hq
      have hT228:=((((((hT190.front 1 rfl).front 1 rfl).front 5 rfl).front 5 rfl).front 5 rfl).front 5 rfl)
      exact RunDT.done rfl ⟨_,⟨hp187,hT228,rfl⟩,WkY.f1⟩
    rintro _ ⟨hp229,hT230,rfl⟩;refine BW (b:=j201.1) kr (fun hb231=>?_) (fun hb231=>?_)
    ·rw [if_pos hb231] at h
     refine BJ AC [(4,.v (.bool false))] ?_;refine SemY.ret ?_;have hq:=OI h; subst hq
     have hT232:=hT230.drop.drop.drop.drop.drop.drop
     exact ⟨rfl,_,⟨hp229,hT232,rfl⟩,WkY.f1⟩
    ·rw [Cg hb231] at h
     refine SemY.skip ?_;refine AK ?_;refine AK ?_;refine AI ?_;refine AX AC 1 ?_;refine AM AC 0 rfl (Cw (AA rfl) rfl (Ed (a:= .sl 1 (r75.1.map (cdL 5 AB).enc)) kr (DC (el:=22) kr))) ?_;refine BK AC [(5,e2),(6,.sl 1 (r75.1.map (cdL 5 AB).enc)),(12,e109),(13,e114),(14,e119),(15,e123),(16,.fn 40 [] [e9,e2]),(19,.v (.int .i64 v156)),(20,.v (.int .i64 v186.1)),(88,.sl 1 (v91.1.map cdI.enc)),(89,.v (.int .i64 (v91.1.length:Int))),(90,.v (.int .i64 c148)),(152,.v (.int .i64 (r75.1.length:Int))),(153,.v (.int .i64 0))] ?_;refine BI ?_;refine SemY.loop (n:=100000) ?_;obtain ⟨r278,hr278,h⟩:=OB h;rcases r278 with w279 | w300
     ·try dsimp only at h
      refine CP (Br WkY.f1 (G7 r75 c151 c152 v186 e2 e9 v91 e109 e114 e119 e123 c148 c153 v156 j201 _ 0 _ hr278  hp229 hT230)) ?_;rintro _ ⟨hp280,hT281,rfl⟩;refine AK ?_;refine AI ?_;refine AX AC 3 ?_;obtain ⟨v282,hv282,h⟩:=OB h
      have hT283:=(hT281.front 4 rfl)
      refine AM AC 0 rfl (Cw (AA rfl) rfl (AQ (a:=e123) (b:= .v (.int .i64 v186.1)) kr kr (MZ (bytes:=8) hT283 kr hv282))) ?_;obtain ⟨hp284,hs285,hT286⟩:=Kg (P:=Tryz.prog) (ty:=3) (y:= .v (.int .i64 v156)) (v':=v156) hT283 (Cv hv282).2 kr kr kr;refine RunL.store AC (y:=eAt e123 v186.1.toNat) (z:= .v (.int .i64 v156)) rfl (AA rfl) kr kr hs285 ?_;refine Aw rfl (SemY.fr (l':=[(5,e2),(6,.sl 1 (r75.1.map (cdL 5 AB).enc)),(12,e109),(13,e114),(14,e119),(15,e123),(16,.fn 40 [] [e9,e2]),(20,.v (.int .i64 v186.1)),(88,.sl 1 (v91.1.map cdI.enc)),(89,.v (.int .i64 (v91.1.length:Int))),(90,.v (.int .i64 c148))]) kr ?_);refine AK ?_;refine AI ?_;refine AX AC 2 ?_;obtain ⟨v287,hv287,h⟩:=OB h
      have hT288:=(hT286.front 3 rfl)
      refine AM AC 0 rfl (Cw (AA rfl) rfl (AQ (a:=e114) (b:= .v (.int .i64 v186.1)) kr kr (MZ (bytes:=8) hT288 kr hv287))) ?_;refine AM AC 0 rfl (Cw (AA rfl) rfl (CR (p:=eAt e114 v186.1.toNat) kr (FR (y:= .v (.int .i64 v287)) (m:=1) (g:=false) hT288 (Cv hv287).2 kr kr kr))) ?_;refine AX AC 1 ?_;obtain ⟨v289,hv289,h⟩:=OB h;refine AM AC 0 rfl (Cw (AA rfl) rfl (AQ (a:=e114) (b:= .v (.int .i64 v186.1)) kr kr (MZ (bytes:=8) hT288 kr hv289))) ?_;obtain ⟨hp290,hs291,hT292⟩:=Kg (P:=Tryz.prog) (ty:=3) (y:= .v (.int .i64 (wr .i64 (v287 + 1)))) (v':=(wr .i64 (v287 + 1))) hT288 (Cv hv289).2 kr kr kr;refine RunL.store AC (y:=eAt e114 v186.1.toNat) (z:= .v (.int .i64 (wr .i64 (v287 + 1)))) rfl (AA rfl) kr kr hs291 ?_;refine Aw rfl (SemY.fr (l':=[(5,e2),(6,.sl 1 (r75.1.map (cdL 5 AB).enc)),(12,e109),(13,e114),(14,e119),(15,e123),(16,.fn 40 [] [e9,e2]),(20,.v (.int .i64 v186.1)),(88,.sl 1 (v91.1.map cdI.enc)),(89,.v (.int .i64 (v91.1.length:Int))),(90,.v (.int .i64 c148))]) kr ?_);refine AI ?_;refine AX AC 2 ?_;obtain ⟨v293,hv293,h⟩:=OB h
      have hT294:=(hT292.front 4 rfl)
      refine AM AC 0 rfl (Cw (AA rfl) rfl (AQ (a:=e119) (b:= .v (.int .i64 v186.1)) kr kr (MZ (bytes:=8) hT294 kr hv293))) ?_;refine AM AC 0 rfl (Cw (AA rfl) rfl (CR (p:=eAt e119 v186.1.toNat) kr (FR (y:= .v (.int .i64 v293)) (m:=1) (g:=false) hT294 (Cv hv293).2 kr kr kr))) ?_;refine AX AC 1 ?_;obtain ⟨v295,hv295,h⟩:=OB h;refine AM AC 0 rfl (Cw (AA rfl) rfl (AQ (a:=e119) (b:= .v (.int .i64 v186.1)) kr kr (MZ (bytes:=8) hT294 kr hv295))) ?_;obtain ⟨hp296,hs297,hT298⟩:=Kg (P:=Tryz.prog) (ty:=3) (y:= .v (.int .i64 (wr .i64 (v293 - 1)))) (v':=(wr .i64 (v293 - 1))) hT294 (Cv hv295).2 kr kr kr;refine RunL.store AC (y:=eAt e119 v186.1.toNat) (z:= .v (.int .i64 (wr .i64 (v293 - 1)))) rfl (AA rfl) kr kr hs297 ?_;refine Aw rfl (SemY.fr (l':=[(5,e2),(6,.sl 1 (r75.1.map (cdL 5 AB).enc)),(12,e109),(13,e114),(14,e119),(15,e123),(16,.fn 40 [] [e9,e2]),(88,.sl 1 (v91.1.map cdI.enc)),(89,.v (.int .i64 (v91.1.length:Int))),(90,.v (.int .i64 c148))]) kr ?_);refine AI ?_;refine AX AC 2 ?_;refine Aw rfl ?_
      have hT299:=((((((hT298.front 5 rfl).front 3 rfl).front 2 rfl).front 3 rfl).front 5 rfl).front 5 rfl)
      exact Br WkY.f1 (ih0 (wr .i64 (c148 + 1)) v186.2.2 j201.2 (c151.set v186.1.toNat (wr .i64 (v287 + 1))) (c152.set v186.1.toNat (wr .i64 (v293 - 1))) (c153.set v186.1.toNat v156) v186.2.1 _ h  hp296 hT299)
     ·try dsimp only at h
      refine CP (Br WkY.f1 (G7 r75 c151 c152 v186 e2 e9 v91 e109 e114 e119 e123 c148 c153 v156 j201 _ 0 _ hr278  hp229 hT230)) ?_;rintro _ ⟨hp301,hT302,rfl⟩;have hq:=OI h; subst hq;exact ⟨rfl,_,⟨hp301,hT302,rfl⟩,WkY.f1⟩
  ·rw [Cg hb155] at h
   refine SemY.exit ?_;have hq:=OI h; subst hq
   have hT310:=hT.drop.drop.drop.drop.drop.drop
   exact ⟨rfl,_,⟨hp,hT310,rfl⟩,WkY.f1⟩
theorem K6 {L:List Asn}{hp:Hp}(x0:(List (List (Int×Int×Int×Bool×Bool)))) (x1:(List (Int×Int))) (r:Bool) (h:Df x0 x1=some r) (hT:T hp (L)):SemY E0 ⟨none,false⟩ DF ⟨Fr 216 (BQ 0 [.sl 1 (x0.map (cdL 5 (cdA (csC (cdK .u8) (csC (cdK .u8) (csC (cdK .u8) (csC cdB (csE cdB))))) (fun _=>rfl))).enc),.sl 2 (x1.map (Oq (cdK .u8) (cdK .u8) (fun _=>rfl) (fun _=>rfl)).enc)]),hp⟩ fun x s'=>(x = .normal\/x = .ret)/\∃ ys,Es E0.P s'.fr s'.hp Tryz.f9.results.toList=some ys/\(fun v h'=>v = .v (.bool r)/\T h' (L)) (FG ys) s'.hp:=by
 unfold Df at h;refine HK (IJ (s1:=⟨Fr 216 [(0,.sl 1 (x0.map (cdL 5 (cdA (csC (cdK .u8) (csC (cdK .u8) (csC (cdK .u8) (csC cdB (csE cdB))))) (fun _=>rfl))).enc)),(1,.sl 2 (x1.map (Oq (cdK .u8) (cdK .u8) (fun _=>rfl) (fun _=>rfl)).enc))],hp⟩) WkY.f1 ?_);refine BJ AC [(0,.sl 1 (x0.map (cdL 5 (cdA (csC (cdK .u8) (csC (cdK .u8) (csC (cdK .u8) (csC cdB (csE cdB))))) (fun _=>rfl))).enc)),(1,.sl 2 (x1.map (Oq (cdK .u8) (cdK .u8) (fun _=>rfl) (fun _=>rfl)).enc))] ?_;refine AK ?_;refine AI ?_;refine AX AC 1 ?_;obtain ⟨v1,hv1,h⟩:=OB h;refine Eg (v:=v1) (caps:=[]) (xs:=[.sl 2 (x1.map (Oq (cdK .u8) (cdK .u8) (fun _=>rfl) (fun _=>rfl)).enc),.v (.int .i64 20)]) (u:=(x1,20,())) rfl rfl PB rfl (AA rfl) kr kr (A2 (CG (c:=(cdL 2 (Oq (cdK .u8) (cdK .u8) (fun _=>rfl) (fun _=>rfl)))) (v:=x1)) (A2 (CG (c:=cdI) (v:=20)) SeesD.nil)) (.inr ⟨by kernel_rfl,Gm.de (x1,20,())⟩) hv1 ?_;obtain ⟨e2,hp3,hb4,hT5⟩:=JY (t:=23) (a:= .e0) hT kr;refine AM AC 0 rfl (PN (AA rfl) rfl kr (LV (z:= .e0) kr hb4)) ?_;obtain ⟨hp6,hs7,hT8⟩:=LZ (P:=Tryz.prog) (ty:=23) (y:= .sl 9 (v1.map AH.enc)) (a':= .sl 9 (v1.map AH.enc)) hT5 kr kr kr;refine RunL.store AC (y:=e2) (z:= .sl 9 (v1.map AH.enc)) rfl (AA rfl) kr kr hs7 ?_;refine Aw rfl (SemY.fr (l':=[(0,.sl 1 (x0.map (cdL 5 (cdA (csC (cdK .u8) (csC (cdK .u8) (csC (cdK .u8) (csC cdB (csE cdB))))) (fun _=>rfl))).enc)),(5,e2)]) kr ?_);refine BJ AC [(0,.sl 1 (x0.map (cdL 5 (cdA (csC (cdK .u8) (csC (cdK .u8) (csC (cdK .u8) (csC cdB (csE cdB))))) (fun _=>rfl))).enc)),(5,e2),(6,.e0)] ?_;refine AK ?_;refine AI ?_;obtain ⟨e9,hp10,hb11,hT12⟩:=JY (t:=40) (a:= .e0) hT8 kr;refine AM AC 0 rfl (PN (AA rfl) rfl kr (LV (z:= .e0) kr hb11)) ?_;refine Aw rfl (SemY.fr (l':=[(0,.sl 1 (x0.map (cdL 5 (cdA (csC (cdK .u8) (csC (cdK .u8) (csC (cdK .u8) (csC cdB (csE cdB))))) (fun _=>rfl))).enc)),(5,e2),(6,.e0),(7,e9)]) kr ?_);refine AK ?_;refine AK ?_;refine AI ?_;refine AX AC 2 ?_;refine AM AC 0 rfl (Cw (AA rfl) rfl (Ed (a:= .sl 1 (x0.map (cdL 5 (cdA (csC (cdK .u8) (csC (cdK .u8) (csC (cdK .u8) (csC cdB (csE cdB))))) (fun _=>rfl))).enc)) kr (DC (el:=28) kr))) ?_
 refine AX AC 1 ?_;by_cases hk13:(DK 0 (mnI (x0.length:Int) 4) x0.length)=true
 case neg=>rw [if_neg hk13] at h; cases h
 rw [if_pos hk13] at h;refine AM AC 0 rfl (Cw (AA rfl) rfl (EE (a:= .sl 1 (x0.map (cdL 5 (cdA (csC (cdK .u8) (csC (cdK .u8) (csC (cdK .u8) (csC cdB (csE cdB))))) (fun _=>rfl))).enc)) (l:=none) (u:=(some (.v (.int .i64 (mnI (x0.length:Int) 4))))) (m:=none) kr kr kr rfl (K0 (xs:=x0) (e:=(cdL 5 (cdA (csC (cdK .u8) (csC (cdK .u8) (csC (cdK .u8) (csC cdB (csE cdB))))) (fun _=>rfl))).enc) (k:=1) (el:=28) (lo:=0) (hi:=(mnI (x0.length:Int) 4)) kr kr rfl (GR (JP hk13)) hk13))) ?_;refine AM AC 0 rfl (Cw (AA rfl) rfl (Ed (a:= .sl 1 (((x0.take (mnI (x0.length:Int) 4).toNat).drop (0:Int).toNat).map (cdL 5 (cdA (csC (cdK .u8) (csC (cdK .u8) (csC (cdK .u8) (csC cdB (csE cdB))))) (fun _=>rfl))).enc)) kr (DC (el:=28) kr))) ?_;refine BK AC [(5,e2),(6,.e0),(7,e9),(29,.sl 1 (((x0.take (mnI (x0.length:Int) 4).toNat).drop (0:Int).toNat).map (cdL 5 (cdA (csC (cdK .u8) (csC (cdK .u8) (csC (cdK .u8) (csC cdB (csE cdB))))) (fun _=>rfl))).enc)),(30,.v (.int .i64 (((x0.take (mnI (x0.length:Int) 4).toNat).drop (0:Int).toNat).length:Int))),(31,.v (.int .i64 0))] ?_;refine BI ?_
 have hT14:=(T.e0 (k:=1) (ty:=22) (o:=(ocV (cdL 5 AB))) hT12)
 have hT15:=(T.e0 (k:=1) (ty:=9) (o:=(ocV cdS)) hT14)
 have hT74:=(((hT15.front 2 rfl).front 2 rfl).front 3 rfl)
 refine SemY.loop (n:=100000) ?_;obtain ⟨r75,hr75,h⟩:=OB h;refine CP (Br WkY.f1 (J9 x0 v1 e2 e9 _ 0 ([]:(List (List AE))) ([]:(List (List UInt8))) _ hr75 .e0 .e0 hp10 hT74)) ?_;rintro _ ⟨e76,e77,hp78,hT79,rfl⟩;refine AK ?_;refine AI ?_;refine AX AC 1 ?_
 have hq80:=Kf (hT79.front 3 rfl)
 have hT81:=(hT79.front 2 rfl)
 refine AM AC 0 rfl (Cw (AA rfl) rfl (CR (p:=e9) kr (DQ (y:=e77) (m:=1) (g:=false) hT81 kr kr (SK hq80)))) ?_
 have hT82:=(hT81.front 1 rfl)
 refine AM AC 0 rfl (Cw (AA rfl) rfl (CR (p:=e2) kr (DQ (y:= .sl 9 (v1.map AH.enc)) (m:=1) (g:=false) hT82 kr kr kr))) ?_
 have hT83:=(hT82.front 2 rfl)
 obtain ⟨hp84,hw85,hT86⟩:=HL (E:=E0) (n:=216) (l:=[(5,e2),(6,e76),(7,e9),(52,e76),(53,e77),(54,.sl 9 (v1.map AH.enc))]) (l':=[(5,e2),(6,.sl 1 (r75.1.map (cdL 5 AB).enc)),(7,e9),(52,.sl 1 (r75.1.map (cdL 5 AB).enc)),(53,e77),(54,.sl 9 (v1.map AH.enc))]) hT83 ⟨⟨e2,kr,FzU.refl⟩,⟨e76,kr,F7⟩,⟨e9,kr,FzU.refl⟩,⟨e76,kr,F7⟩,⟨e77,kr,FzU.refl⟩,⟨.sl 9 (v1.map AH.enc),kr,FzU.refl⟩,trivial⟩;refine MG (WkY.trans WkY.f1 hw85) ?_
 have hT87:=((hT86.front 1 rfl).front 2 rfl)
 obtain ⟨hp88,hw89,hT90⟩:=Uo (E:=E0) (n:=216) (l:=[(5,e2),(6,.sl 1 (r75.1.map (cdL 5 AB).enc)),(7,e9),(52,.sl 1 (r75.1.map (cdL 5 AB).enc)),(53,e77),(54,.sl 9 (v1.map AH.enc))]) (l':=[(5,e2),(6,.sl 1 (r75.1.map (cdL 5 AB).enc)),(7,e9),(52,.sl 1 (r75.1.map (cdL 5 AB).enc)),(53,.sl 1 (r75.2.map cdS.enc)),(54,.sl 9 (v1.map AH.enc))]) hT87 ⟨⟨e2,kr,FzU.refl⟩,⟨.sl 1 (r75.1.map (cdL 5 AB).enc),kr,FzU.refl⟩,⟨e9,kr,FzU.refl⟩,⟨.sl 1 (r75.1.map (cdL 5 AB).enc),kr,FzU.refl⟩,⟨e77,kr,F7⟩,⟨.sl 9 (v1.map AH.enc),kr,FzU.refl⟩,trivial⟩;refine MG (WkY.trans WkY.f1 hw89) ?_;obtain ⟨v91,hv91,h⟩:=OB h;refine Eg (v:=v91) (caps:=[]) (xs:=[.sl 1 (r75.1.map (cdL 5 AB).enc),.sl 1 (r75.2.map cdS.enc),.sl 9 (v1.map AH.enc)]) (u:=(r75.1,r75.2,v1,())) rfl rfl Mv rfl (AA rfl) kr kr (A2 (CG (c:=(cdL 1 (cdL 5 AB))) (v:=r75.1)) (A2 (CG (c:=(cdL 1 cdS)) (v:=r75.2)) (A2 (CG (c:=(cdL 9 AH)) (v:=v1)) SeesD.nil))) (.inr ⟨by kernel_rfl,Gh.de (r75.1,r75.2,v1,())⟩) hv91 ?_;refine BK AC [(5,e2),(6,.sl 1 (r75.1.map (cdL 5 AB).enc)),(7,e9),(10,.sl 1 (v91.1.map cdI.enc)),(11,.v (.int .i64 v91.2))] ?_;refine AK ?_;refine AK ?_;obtain ⟨j93,hj93,h⟩:=OB h;refine Le (A:=fun s1=>∃ (h':Hp),T h' ((cel e2 1 23 (.sl 9 (v1.map AH.enc)))::(cel e9 1 40 (.sl 1 (r75.2.map cdS.enc)))::L)/\s1=⟨Fr 216 [(5,e2),(6,.sl 1 (r75.1.map (cdL 5 AB).enc)),(7,e9),(10,.sl 1 (v91.1.map cdI.enc)),(66,.v (.bool j93))],h'⟩) ?_ ?_
 ·refine II (n:=216) AC 3 [(5,e2),(6,.sl 1 (r75.1.map (cdL 5 AB).enc)),(7,e9),(10,.sl 1 (v91.1.map cdI.enc)),(60,.v (.bool (v91.2 != 0)))] hp88 kr ?_
  rcases BE (v91.2 != 0) with hc319 | hc319
  ·rw [if_pos hc319] at hj93
   rw [hc319];refine AX AC 6 ?_;have hq:=OI hj93; subst hq
   have hT101:=(hT90.front 1 rfl)
   exact Aw rfl ⟨_,⟨hp88,hT101,rfl⟩,WkY.f1⟩
  ·rw [Cg hc319] at hj93
   rw [hc319];refine AX AC 1 ?_;refine AM AC 0 rfl (Cw kr rfl (Ed (a:= .sl 1 (v91.1.map cdI.enc)) kr (DC (el:=3) kr))) ?_
   have hT92:=(hT90.front 1 rfl)
   refine AM AC 0 rfl (Cw kr rfl (CR (p:=e2) kr (DQ (y:= .sl 9 (v1.map AH.enc)) (m:=1) (g:=false) hT92 kr kr kr))) ?_;refine AM AC 0 rfl (Cw kr rfl (Ed (a:= .sl 9 (v1.map AH.enc)) kr (DC (el:=42) kr))) ?_;refine AX AC 2 ?_;have hq:=OI hj93; subst hq;exact Aw rfl ⟨_,⟨hp88,hT92,rfl⟩,WkY.f1⟩
 rintro _ ⟨hp102,hT103,rfl⟩;refine BW (b:=j93) kr (fun hb104=>?_) (fun hb104=>?_)
 ·rw [if_pos hb104] at h
  refine BJ AC [(4,.v (.bool false))] ?_;refine SemY.ret ?_;have hq:=OI h; subst hq;exact ⟨⟨Fr 216 [(4,.v (.bool false))],hp102⟩,WkY.f1,.inr rfl,[.v (.bool false)],kr,⟨rfl,hT103.drop.drop⟩⟩
 ·rw [Cg hb104] at h
  refine SemY.skip ?_;refine AK ?_;refine AI ?_;refine AM AC 0 rfl (Cw (AA rfl) rfl (CR (p:=e2) kr (DQ (y:= .sl 9 (v1.map AH.enc)) (m:=1) (g:=false) hT103 kr kr kr))) ?_;refine AM AC 0 rfl (Cw (AA rfl) rfl (Ed (a:= .sl 9 (v1.map AH.enc)) kr (DC (el:=42) kr))) ?_;by_cases hk105:(Uk 1 (v1.length:Int))=true
  case neg=>rw [if_neg hk105] at h; cases h
  rw [if_pos hk105] at h;obtain ⟨e109,hp106,hb107,hT108⟩:=N6 (P:=Tryz.prog) (o:=(ocV cdB)) (k:=1) (t:=4) (ty:=75) (bytes:=1) (kn:= .i64) (kc:= .i64) (m:=(v1.length:Int)) (x0:=false) hT103 (fun _=>⟨rfl,rfl⟩) kr kr hk105;refine AM AC 0 rfl (PN (AA rfl) rfl kr (UB (x:= .v (.int .i64 (v1.length:Int))) (y:= .v (.int .i64 (v1.length:Int))) kr kr hb107)) ?_;refine BK AC [(5,e2),(6,.sl 1 (r75.1.map (cdL 5 AB).enc)),(7,e9),(10,.sl 1 (v91.1.map cdI.enc)),(12,e109)] ?_;refine AK ?_;refine AI ?_;by_cases hk110:(Uk 8 5)=true
  case neg=>rw [if_neg hk110] at h; cases h
  rw [if_pos hk110] at h;obtain ⟨e114,hp111,hb112,hT113⟩:=N6 (P:=Tryz.prog) (o:=(ocV cdI)) (k:=1) (t:=3) (ty:=48) (bytes:=8) (kn:= .i64) (kc:= .i64) (m:=5) (x0:=0) hT108 (fun _=>⟨rfl,rfl⟩) kr kr hk110;refine AM AC 0 rfl (PN (AA rfl) rfl kr (UB (x:= .v (.int .i64 5)) (y:= .v (.int .i64 5)) kr kr hb112)) ?_;refine BK AC [(5,e2),(6,.sl 1 (r75.1.map (cdL 5 AB).enc)),(7,e9),(10,.sl 1 (v91.1.map cdI.enc)),(12,e109),(13,e114)] ?_;refine AK ?_;refine AI ?_;by_cases hk115:(Uk 8 5)=true
  case neg=>rw [if_neg hk115] at h; cases h
  rw [if_pos hk115] at h;obtain ⟨e119,hp116,hb117,hT118⟩:=N6 (P:=Tryz.prog) (o:=(ocV cdI)) (k:=1) (t:=3) (ty:=48) (bytes:=8) (kn:= .i64) (kc:= .i64) (m:=5) (x0:=0) hT113 (fun _=>⟨rfl,rfl⟩) kr kr hk115;refine AM AC 0 rfl (PN (AA rfl) rfl kr (UB (x:= .v (.int .i64 5)) (y:= .v (.int .i64 5)) kr kr hb117)) ?_;refine BK AC [(5,e2),(6,.sl 1 (r75.1.map (cdL 5 AB).enc)),(7,e9),(10,.sl 1 (v91.1.map cdI.enc)),(12,e109),(13,e114),(14,e119)] ?_;refine AK ?_;refine AI ?_;obtain ⟨e123,hp120,hb121,hT122⟩:=HM (P:=Tryz.prog) (bytes:=8) (k:=1) (t:=3) (ty:=48) (xs:=([(-1),(-1),(-1),(-1),(-1)]:List Int)) (n:=5) (Pp (k:=1) (fun _=>⟨rfl,rfl,rfl⟩)) (GB (c:=cdI) (xs:=([(-1),(-1),(-1),(-1),(-1)]:List Int)) hT118) rfl kr kr kr;refine AM AC 0 rfl (PN (AA rfl) rfl kr (O1 (xs:=K5 0 [.v (.int .i64 (-1)),.v (.int .i64 (-1)),.v (.int .i64 (-1)),.v (.int .i64 (-1)),.v (.int .i64 (-1))]) kr hb121)) ?_;refine BK AC [(5,e2),(6,.sl 1 (r75.1.map (cdL 5 AB).enc)),(7,e9),(10,.sl 1 (v91.1.map cdI.enc)),(12,e109),(13,e114),(14,e119),(15,e123)] ?_;refine BJ AC [(5,e2),(6,.sl 1 (r75.1.map (cdL 5 AB).enc)),(10,.sl 1 (v91.1.map cdI.enc)),(12,e109),(13,e114),(14,e119),(15,e123),(16,.fn 40 [] [e9,e2])] ?_;refine AK ?_;refine AK ?_;refine AI ?_
  have hT124:=(hT122.front 4 rfl)
  refine AM AC 0 rfl (Cw (AA rfl) rfl (CR (p:=e2) kr (DQ (y:= .sl 9 (v1.map AH.enc)) (m:=1) (g:=false) hT124 kr kr kr))) ?_;refine AM AC 0 rfl (Cw (AA rfl) rfl (Ed (a:= .sl 9 (v1.map AH.enc)) kr (DC (el:=42) kr))) ?_;refine BK AC [(5,e2),(6,.sl 1 (r75.1.map (cdL 5 AB).enc)),(10,.sl 1 (v91.1.map cdI.enc)),(12,e109),(13,e114),(14,e119),(15,e123),(16,.fn 40 [] [e9,e2]),(75,.v (.int .i64 (v1.length:Int))),(76,.v (.int .i64 0))] ?_;refine BI ?_
  have hT144:=((((((hT124.front 5 rfl).front 2 rfl).front 3 rfl).front 4 rfl).front 5 rfl).front 5 rfl)
  refine SemY.loop (n:=100000) ?_;obtain ⟨r145,hr145,h⟩:=OB h;refine CP (Br WkY.f1 (KA v1 e2 e9 r75 v91 e109 e114 e119 e123 _ 0 v1 (List.replicate (5:Int).toNat (0:Int)) r75.2 _ hr145  hp120 hT144)) ?_;rintro _ ⟨hp146,hT147,rfl⟩;refine AK ?_;refine AK ?_;refine AI ?_;refine AX AC 1 ?_;refine AM AC 0 rfl (Cw (AA rfl) rfl (Ed (a:= .sl 1 (v91.1.map cdI.enc)) kr (DC (el:=3) kr))) ?_;refine BK AC [(5,e2),(6,.sl 1 (r75.1.map (cdL 5 AB).enc)),(12,e109),(13,e114),(14,e119),(15,e123),(16,.fn 40 [] [e9,e2]),(88,.sl 1 (v91.1.map cdI.enc)),(89,.v (.int .i64 (v91.1.length:Int))),(90,.v (.int .i64 0))] ?_;refine BI ?_;refine SemY.loop (n:=100000) ?_;obtain ⟨r311,hr311,h⟩:=OB h;rcases r311 with w312 | w316
  ·try dsimp only at h
   refine CP (Br WkY.f1 (G6 r75 v91 e2 e9 e109 e114 e119 e123 _ 0 r145.1 (List.replicate (v1.length:Int).toNat (false:Bool)) (List.replicate (5:Int).toNat (0:Int)) r145.2.1 ([(-1),(-1),(-1),(-1),(-1)]:List Int) r145.2.2 _ hr311  hp146 hT147)) ?_;rintro _ ⟨hp313,hT314,rfl⟩;refine AK ?_;refine AI ?_;obtain ⟨v315,hv315,h⟩:=OB h;refine Eg (v:=v315) (caps:=[]) (xs:=[]) (u:=(())) rfl rfl QL rfl (AA rfl) kr kr SeesD.nil (.inl kr) hv315 ?_;refine BK AC [(4,.v (.bool v315))] ?_;refine SemY.ret ?_;have hq:=OI h; subst hq;exact ⟨⟨Fr 216 [(4,.v (.bool v315))],hp313⟩,WkY.f1,.inr rfl,[.v (.bool v315)],kr,⟨rfl,hT314⟩⟩
  ·try dsimp only at h
   refine CP (Br WkY.f1 (G6 r75 v91 e2 e9 e109 e114 e119 e123 _ 0 r145.1 (List.replicate (v1.length:Int).toNat (false:Bool)) (List.replicate (5:Int).toNat (0:Int)) r145.2.1 ([(-1),(-1),(-1),(-1),(-1)]:List Int) r145.2.2 _ hr311  hp146 hT147)) ?_;rintro _ ⟨hp317,hT318,rfl⟩;have hq:=OI h; subst hq;exact ⟨⟨Fr 216 [(4,.v (.bool false))],hp317⟩,WkY.f1,.inr rfl,[.v (.bool false)],kr,⟨rfl,hT318⟩⟩
def FC:Cs (((List (List (Int×Int×Int×Bool×Bool))))×((List (Int×Int)))×Unit):=(csC (cdL 1 (cdL 5 (cdA (csC (cdK .u8) (csC (cdK .u8) (csC (cdK .u8) (csC cdB (csE cdB))))) (fun _=>rfl)))) (csC (cdL 2 (Oq (cdK .u8) (cdK .u8) (fun _=>rfl) (fun _=>rfl))) csN))
def GK (r:Bool):AV:=cdB.enc r
def MA:List AV->Option AV:=Ee FC (fun a=>Df a.1 a.2.1) GK
theorem ME:XOk 9 MA:=by
 refine Ad Tryz.func9 (c:=DF) ?h2 ⟨Tryz.call9⟩ FC (fun a=>Df a.1 a.2.1) GK (fun a=>(by show 2<=216; decide)) ?h3 ?h4
 case h2=>kernel_rfl
 case h3=>intro b; kernel_rfl
 case h4 =>
  intro a b h;refine Sem.mono (Pa (K6 (L:=[]) (hp:=[]) a.1 a.2.1 b h T.nil)) fun e s' hs=>?_
  obtain ⟨h1,ys,h2,h3,-⟩:=hs;exact ⟨h1,ys,h2,h3⟩
theorem QI {n:Int}(h1 : -9223372036854775808<=n) (h2:n<=9223372036854775807):wr .i64 n=n:=by
 show (if _ then n else _)=n
 rw [if_pos ⟨h1,h2⟩]
theorem Do {α:Type}(pre:List α) (v:α) (r:List α):idx (pre++v::r) (pre.length:Int)=some v:=by
 unfold idx
 rw [if_pos (by omega)]
 simp
theorem JT {α:Type}{xs:List α}{i:Nat}(h:i < xs.length):idx xs (i:Int)=some xs[i]:=by
 unfold idx
 rw [if_pos (by omega)]
 simp [h]
theorem FV {α:Type}(pre:List α) (v:α) (r:List α) (h:(pre++v::r).length<=1000000000):wr .i64 ((pre.length:Int) + 1)=((pre++[v]).length:Int):=by
 simp at h
 rw [QI (by omega) (by omega)]; simp
theorem HS {α:Type}(pre:List α) (v:α) (r:List α):decide ((pre.length:Int) < ((pre++v::r).length:Int))=true:=by
 simp; omega
theorem D8 {b n:Nat}(hb:b<=1000) (h:n<=1000000000):Dj b n=true:=by
 have h1:n * b<=1000000000 * 1000:=Nat.mul_le_mul h hb
 unfold Dj
 rw [Bool.and_eq_true]
 exact ⟨Nat.ble_eq_true_of_le (by omega),Nat.ble_eq_true_of_le (by omega)⟩
/-- A loop over a list: v, its index, the rest. -/
def goU {α ρ:Type}(B:α->Nat->Option ρ->Option ρ) (D:Option ρ):List α->Nat->Option ρ
 | [],_=>D
 | v::r,i=>B v i (goU B D r (i + 1))
theorem Yb {α ρ:Type}(xs:List α) (L:Nat->Int->Option ρ) (B:α->Nat->Option ρ->Option ρ) (D:Option ρ)
  (hs:∀ f (pre:List α) v r,xs=pre++v::r->L (f + 1) (pre.length:Int)=B v pre.length (L f (((pre++[v]).length:Nat):Int))) (hd:∀ f,L (f + 1) (xs.length:Int)=D) :
  ∀ (r pre:List α) (f:Nat),xs=pre++r->r.length < f->L f (pre.length:Int)=goU B D r pre.length
 | [],pre,f + 1,hx,_=>by
  rw [show pre.length=xs.length by rw [hx]; simp]
  exact hd f
 | v::r,pre,f + 1,hx,hf=>by
  rw [hs f pre v r hx]
  have:=Yb xs L B D hs hd r (pre++[v]) f (by rw [hx]; simp) (by simp at hf; omega)
  rw [this]
  show B v pre.length _=B v pre.length _
  congr 1
  simp
theorem KW {α ρ:Type}(xs:List α) (L:Nat->Int->Option ρ) (B:α->Nat->Option ρ->Option ρ) (D:Option ρ) (f:Nat) (hf:xs.length < f)
  (hs:∀ f (pre:List α) v r,xs=pre++v::r->L (f + 1) (pre.length:Int)=B v pre.length (L f (((pre++[v]).length:Nat):Int))) (hd:∀ f,L (f + 1) (xs.length:Int)=D):L f 0=goU B D xs 0 :=
 Yb xs L B D hs hd xs [] f rfl hf
/-- .. as it is printed. -/
theorem Zt {α ρ:Type}(xs:List α) (L:Nat->Int->Option ρ) (B:α->Nat->Option ρ->Option ρ) (D:Option ρ) (f:Nat) (hf:xs.length < f) (hx:xs.length<=1000000)
  (h:∀ f c,L (f + 1) c=if decide (c < (xs.length:Int))=true then (idx xs c).bind fun v=>B v c.toNat (L f (wr .i64 (c + 1))) else D):L f 0=goU B D xs 0 :=
 KW xs L B D f hf (fun f pre v r e=>by
  subst e
  rw [h,if_pos (HS pre v r),Do,OS,FV pre v r (by omega),Int.toNat_natCast]) (fun f=>by rw [h,if_neg (by simp)])
/-- The first that meets a test. -/
theorem Tt {α:Type}(P:α->Option Bool) (p:α->Bool):∀ (xs:List α) (i:Nat),(∀ x ∈ xs,P x=some (p x))->∃ r:Unit ⊕ Int,goU (fun v i k=>(P v).bind fun b=>if b=true then some (.inr (i:Int)) else k) (some (.inl ())) xs i=some r/\(match r with | .inl _=>xs.any p=false | .inr n=>xs.any p=true/\0<=n)
 | [],i,_=>⟨.inl (),rfl,rfl⟩
 | x::xs,i,h=>by
  unfold goU
  rw [h x (by simp),OS]
  cases hp:p x with
  | true=>exact ⟨.inr i,by simp,by simp [hp]⟩
  | false =>
   obtain ⟨r,h1,h2⟩:=Tt P p xs (i + 1) fun y hy=>h y (List.mem_cons_of_mem _ hy)
   refine ⟨r,by simpa using h1,?_⟩
   cases r with
   | inl u=>simpa [hp] using h2
   | inr n=>simpa [hp] using h2
/-- slices.IndexFunc and slices.ContainsFunc. -/
theorem R4 {α:Type}(xs:List α) (hx:xs.length<=99999) (P:α->Option Bool) (p:α->Bool) (hP:∀ x ∈ xs,P x=some (p x)) (L:Nat->Int->Option (Unit ⊕ Int))
  (h:∀ f c,L (f + 1) c=if decide (c < (xs.length:Int))=true then (idx xs c).bind fun v=>(P v).bind fun b=>if b=true then some (.inr c) else L f (wr .i64 (c + 1)) else some (.inl ())) :
  ∃ n,((L 100000 0).bind fun r=>match r with | .inl _=>some (-1) | .inr w=>some w)=some n/\decide (n≥0)=xs.any p:=by
 have e:=KW xs L (fun v i k=>(P v).bind fun b=>if b=true then some (.inr (i:Int)) else k) (some (.inl ())) 100000 (by omega) (fun f pre v r e=>by
  subst e
  rw [h,if_pos (HS pre v r),Do,OS,FV pre v r (by omega)]) (fun f=>by rw [h,if_neg (by simp)])
 obtain ⟨r,h1,h2⟩:=Tt P p xs 0 hP
 rw [e,h1]
 cases r with
 | inl u=>exact ⟨-1,rfl,by rw [h2]; rfl⟩
 | inr n=>exact ⟨n,rfl,by rw [h2.1]; simpa using h2.2⟩
/- slices.Equal[[]string,string] -/
/- trestle/trestlelaw03.SameClause -/
/- slices.EqualFunc[[]trestle/api.Clause,[]trestle/api.Clause,trestle/api.Clause,trestle/api.Clause] -/
/- trestle/trestlelaw03.Same -/
/- trestle/trestlelaw03.Copy -/
/- trestle/trestlelaw03.Few$1$1 -/
/- slices.IndexFunc[[]string,string] -/
/- slices.ContainsFunc[[]string,string] -/
/- trestle/trestlelaw03.Few$1 -/
/- slices.IndexFunc[[]trestle/api.Clause,trestle/api.Clause] -/
/- slices.ContainsFunc[[]trestle/api.Clause,trestle/api.Clause] -/
/- trestle/trestlelaw03.Few -/
/- trestle/trestleref03.between -/
def A8 (x0:Int) (x1:Int) (x2:Int):Option (Bool) :=
 (if (decide (x1<=x0))=true then some (decide (x0<=x2)) else some false).bind fun j2 =>
 some j2
/- trestle/trestleref03.formed -/
def Eo (x0:AE):Option ((Bool)) :=
 if (x0.1==8)=true then
 some (x0.1==8)
 else
 some (x0.1==9)
def En (x0:AE):Option ((Bool)) :=
 if (x0.1==3)=true then
 some (x0.1==3)
 else
 (Eo x0).bind fun r14 =>
 some r14
def Em (x0:AE):Option ((Bool)) :=
 if (x0.1==2)=true then
 some (x0.1==2)
 else
 (En x0).bind fun r15 =>
 some r15
def Ep (x0:AE):Option ((Bool)) :=
 if (x0.1==6)=true then
 some (x0.1==6)
 else
 some (x0.1==7)
def A3 (x0:AE):Option (Bool) :=
 if (x0.1==1)=true then
 (A8 (x0.2.2.2.1.length:Int) 1 16).bind fun v2 =>
 (if v2=true then if (x0.2.2.2.2==0)=true then if (!x0.2.2.1)=true then some (x0.2.1==[]) else some false else some false else some false).bind fun j4 =>
 some j4
 else
 (Em x0).bind fun r16 =>
 if r16=true then
 (if ((x0.2.2.2.1.length:Int)==0)=true then if (x0.2.2.2.2==0)=true then some (!x0.2.2.1) else some false else some false).bind fun j19 =>
 some j19
 else
 if (x0.1==4)=true then
 (if ((x0.2.2.2.1.length:Int)==0)=true then (A8 x0.2.2.2.2 1 2).bind fun v23 =>
 some v23 else some false).bind fun j25 =>
 some j25
 else
 if (x0.1==5)=true then
 (if ((x0.2.2.2.1.length:Int)==0)=true then some (x0.2.2.2.2==0) else some false).bind fun j29 =>
 some j29
 else
 (Ep x0).bind fun r33 =>
 if r33=true then
 (A8 (x0.2.2.2.1.length:Int) 1 16).bind fun v35 =>
 (if v35=true then some (x0.2.2.2.2==0) else some false).bind fun j37 =>
 some j37
 else
 if (x0.1==10)=true then
 (if ((x0.2.2.2.1.length:Int)==0)=true then (A8 x0.2.2.2.2 0 63).bind fun v40 =>
 if v40=true then some (!x0.2.2.1) else some false else some false).bind fun j42 =>
 some j42
 else
 some false
/- trestle/trestlekit.Name -/
/- trestle/trestleref03.has -/
def Kc (x0:(List (List UInt8))) (x1:(List UInt8)):Nat->Int->Option ((Unit) ⊕ (Bool))
 | 0,_=>none
 | f + 1,c1 =>
  if (decide (c1 < (x0.length:Int)))=true then
  (idx x0 c1).bind fun v3 =>
  if (v3==x1)=true then
  some (.inr true)
  else
  Kc x0 x1 f (wr .i64 (c1 + 1))
  else
  some (.inl ())
def L8 (x0:(List (List UInt8))) (x1:(List UInt8)):Option (Bool) :=
 (Kc x0 x1 100000 0).bind fun r6 =>
 match r6 with
 | (.inl w7) =>
  some false
 | (.inr w8) =>
  some w8
/- trestle/trestleref03.CheckOne -/
/- trestle/trestleref03.Check -/
def Wl (x:AE):Prop:=x.2.1.length<=40/\x.2.2.2.1.length<=20/\∀ s ∈ x.2.2.2.1,s.length<=40
def few (c:List AE):Prop:=c.length<=40/\∀ x ∈ c,Wl x
/-- Names. -/
def XD (c:UInt8):Bool:=decide ((c.toNat:Int) < 97)||decide ((c.toNat:Int) > 122)
def FJ (s:List UInt8):Bool:=decide (1<=s.length)&&decide (s.length<=12)&&!s.any XD
theorem Tx:∀ (s:List UInt8) (i:Nat),goU (fun v _ (k:Option (Unit ⊕ Bool))=>if XD v=true then some (.inr false) else k) (some (.inl ())) s i=some (if s.any XD=true then .inr false else .inl ())
 | [],_=>rfl
 | c::s,i=>by
  unfold goU
  rw [Tx s (i + 1),List.any_cons]
  cases XD c <;> rfl
theorem Yh (s:List UInt8) (h:s.length<=99999):EN s 100000 0=some (if s.any XD=true then .inr false else .inl ()):=by
 rw [<-Tx s 0]
 refine KW s (EN s) _ _ 100000 (by omega) (fun f pre v r e=>?_) (fun f=>?_)
 ·conv=>lhs; unfold EN
  rw [e,if_pos (HS pre v r),Do,OS,OS,FV pre v r (by rw [<-e]; omega)]
  unfold XD
  by_cases h:(v.toNat:Int) < 97 <;> simp [h]
 ·conv=>lhs; unfold EN
  rw [if_neg (by simp)]
theorem Re (s:List UInt8) (h:s.length<=99999):Fo s=some (FJ s):=by
 unfold Fo FJ
 rw [Yh s h,OS]
 cases hb:s.any XD
 ·by_cases h1:s.length < 1
  ·have:s.length=0:=by omega
   simp [this]
  ·simp [show (s.length:Int)≥1 by omega,show 1<=s.length by omega]; omega
 ·simp
theorem XH (l:List (List UInt8)) (h:l.length<=99999) (hs:∀ s ∈ l,s.length<=99999):AU l=some (l.any fun s=>!FJ s):=by
 unfold AU Ax
 obtain ⟨n,h1,h2⟩:=R4 l h Ey (fun s=>!FJ s) (fun x hx=>by unfold Ey; rw [Re x (hs x hx)]; rfl) (A7 l) (fun f c=>rfl)
 rw [<-h2]
 exact (congrArg (fun o=>o.bind fun v1=>some (decide (v1≥0))) h1)
def GM (l:List (List UInt8)) (s:List UInt8):Bool:=l.any fun v=>s==v
theorem GF (l:List (List UInt8)) (s:List UInt8) (h:l.length<=99999):Am l s=some (GM l s):=by
 unfold Am A4
 obtain ⟨n,h1,h2⟩:=R4 l h (fun v=>some (s==v)) (fun v=>s==v) (fun _ _=>rfl) (Ac l s) (fun f c=>rfl)
 unfold GM
 rw [<-h2]
 exact (congrArg (fun o=>o.bind fun v1=>some (decide (v1≥0))) h1)
theorem Tw (s:List UInt8):∀ (l:List (List UInt8)) (i:Nat),goU (fun v _ (k:Option (Unit ⊕ Bool))=>if (v==s)=true then some (.inr true) else k) (some (.inl ())) l i=some (if GM l s=true then .inr true else .inl ())
 | [],_=>rfl
 | c::l,i=>by
  unfold goU
  rw [Tw s l (i + 1)]
  have:GM (c::l) s=((c==s)||GM l s):=by
   unfold GM
   rw [List.any_cons,Bool.beq_comm]
  rw [this]
  cases (c==s) <;> rfl
theorem V7 (l:List (List UInt8)) (s:List UInt8) (h:l.length<=99999):L8 l s=some (GM l s):=by
 unfold L8
 have e:=Zt l (Kc l s) (fun v _ (k:Option (Unit ⊕ Bool))=>if (v==s)=true then some (.inr true) else k) (some (.inl ())) 100000 (by omega) (by omega) (fun f c=>rfl)
 rw [e,Tw]
 cases GM l s <;> rfl
/-- What is asked of the fields, by a row: names, from, to, last. -/
def fin (L:Nat) (n:Int) (la:Bool) (w:Int×Int×Int×Bool):Option Bool :=
 (if (decide ((L:Int)<=w.1))=true then if (w.1==0)=true then if (decide (n≥w.2.1))=true then if (decide (n<=w.2.2.1))=true then if w.2.2.2=true then some true else some (!la) else some false else some false else if (decide ((L:Int) > 0))=true then if (decide (n≥w.2.1))=true then if (decide (n<=w.2.2.1))=true then if w.2.2.2=true then some true else some (!la) else some false else some false else some false else some false).bind fun j58=>some j58
theorem LC (L:Nat) (n:Int) (la:Bool) (a lo hi:Int) (last:Bool):fin L n la (a,lo,hi,last)=some ((decide ((L:Int)<=a)&&(a==0||decide ((L:Int) > 0)))&&(decide (n≥lo)&&(decide (n<=hi)&&(last||!la)))):=by
 unfold fin
 dsimp only
 generalize decide ((L:Int)<=a)=b1
 generalize (a==0)=b2
 generalize decide ((L:Int) > 0)=b3
 generalize decide (n≥lo)=b4
 generalize decide (n<=hi)=b5
 cases b1 <;> cases b2 <;> cases b3 <;> cases b4 <;> cases b5 <;> cases last <;> cases la <;> rfl
theorem To (x:AE):∃ b,Bv x=some b/\A3 x=some b:=by
 obtain ⟨k,am,la,nm,n⟩:=x
 by_cases h1:k=1
 ·subst h1
  have hr:A3 (1,am,la,nm,n)=some ((decide (1<=(nm.length:Int))&&decide ((nm.length:Int)<=16))&&((n==0)&&(!la&&(am==[])))):=by
   unfold A3
   unfold A8
   dsimp only
   generalize decide (1<=(nm.length:Int))=b0
   generalize decide ((nm.length:Int)<=16)=b1
   generalize (n==0)=b2
   generalize (am==[])=b3
   cases b0 <;> cases b1 <;> cases b2 <;> cases la <;> cases b3 <;> rfl
  refine ⟨_,?_,hr⟩
  cases am with
  | cons a am =>
   have hc:Bv (1,a::am,la,nm,n)=some false:=rfl
   rw [hc]
   simp
  | nil =>
   have hc:Bv (1,[],la,nm,n)=fin nm.length n la (16,0,0,false):=rfl
   rw [hc,LC]
   congr 1
   rw [Bool.eq_iff_iff]
   generalize nm.length=L
   cases la <;> simp <;> omega
 by_cases h2:k=2
 ·subst h2
  have hr:A3 (2,am,la,nm,n)=some (((nm.length:Int)==0)&&((n==0)&&!la)):=by
   unfold A3
   unfold A8
   dsimp only
   generalize ((nm.length:Int)==0)=b0
   generalize (n==0)=b1
   cases b0 <;> cases b1 <;> cases la <;> rfl
  refine ⟨_,?_,hr⟩
  have hc:Bv (2,am,la,nm,n)=fin nm.length n la (0,0,0,false):=rfl
  rw [hc,LC]
  congr 1
  rw [Bool.eq_iff_iff]
  generalize nm.length=L
  cases la <;> simp <;> omega
 by_cases h3:k=3
 ·subst h3
  have hr:A3 (3,am,la,nm,n)=some (((nm.length:Int)==0)&&((n==0)&&!la)):=by
   unfold A3
   unfold A8
   dsimp only
   generalize ((nm.length:Int)==0)=b0
   generalize (n==0)=b1
   cases b0 <;> cases b1 <;> cases la <;> rfl
  refine ⟨_,?_,hr⟩
  have hc:Bv (3,am,la,nm,n)=fin nm.length n la (0,0,0,false):=rfl
  rw [hc,LC]
  congr 1
  rw [Bool.eq_iff_iff]
  generalize nm.length=L
  cases la <;> simp <;> omega
 by_cases h8:k=8
 ·subst h8
  have hr:A3 (8,am,la,nm,n)=some (((nm.length:Int)==0)&&((n==0)&&!la)):=by
   unfold A3
   unfold A8
   dsimp only
   generalize ((nm.length:Int)==0)=b0
   generalize (n==0)=b1
   cases b0 <;> cases b1 <;> cases la <;> rfl
  refine ⟨_,?_,hr⟩
  have hc:Bv (8,am,la,nm,n)=fin nm.length n la (0,0,0,false):=rfl
  rw [hc,LC]
  congr 1
  rw [Bool.eq_iff_iff]
  generalize nm.length=L
  cases la <;> simp <;> omega
 by_cases h9:k=9
 ·subst h9
  have hr:A3 (9,am,la,nm,n)=some (((nm.length:Int)==0)&&((n==0)&&!la)):=by
   unfold A3
   unfold A8
   dsimp only
   generalize ((nm.length:Int)==0)=b0
   generalize (n==0)=b1
   cases b0 <;> cases b1 <;> cases la <;> rfl
  refine ⟨_,?_,hr⟩
  have hc:Bv (9,am,la,nm,n)=fin nm.length n la (0,0,0,false):=rfl
  rw [hc,LC]
  congr 1
  rw [Bool.eq_iff_iff]
  generalize nm.length=L
  cases la <;> simp <;> omega
 by_cases h4:k=4
 ·subst h4
  have hr:A3 (4,am,la,nm,n)=some (((nm.length:Int)==0)&&(decide (1<=n)&&decide (n<=2))):=by
   unfold A3
   unfold A8
   dsimp only
   generalize ((nm.length:Int)==0)=b0
   generalize decide (1<=n)=b1
   generalize decide (n<=2)=b2
   cases b0 <;> cases b1 <;> cases b2 <;> cases la <;> rfl
  refine ⟨_,?_,hr⟩
  have hc:Bv (4,am,la,nm,n)=fin nm.length n la (0,1,2,true):=rfl
  rw [hc,LC]
  congr 1
  rw [Bool.eq_iff_iff]
  generalize nm.length=L
  cases la <;> simp <;> omega
 by_cases h5:k=5
 ·subst h5
  have hr:A3 (5,am,la,nm,n)=some (((nm.length:Int)==0)&&(n==0)):=by
   unfold A3
   unfold A8
   dsimp only
   generalize ((nm.length:Int)==0)=b0
   generalize (n==0)=b1
   cases b0 <;> cases b1 <;> cases la <;> rfl
  refine ⟨_,?_,hr⟩
  have hc:Bv (5,am,la,nm,n)=fin nm.length n la (0,0,0,true):=rfl
  rw [hc,LC]
  congr 1
  rw [Bool.eq_iff_iff]
  generalize nm.length=L
  cases la <;> simp <;> omega
 by_cases h6:k=6
 ·subst h6
  have hr:A3 (6,am,la,nm,n)=some ((decide (1<=(nm.length:Int))&&decide ((nm.length:Int)<=16))&&(n==0)):=by
   unfold A3
   unfold A8
   dsimp only
   generalize decide (1<=(nm.length:Int))=b0
   generalize decide ((nm.length:Int)<=16)=b1
   generalize (n==0)=b2
   cases b0 <;> cases b1 <;> cases b2 <;> cases la <;> rfl
  refine ⟨_,?_,hr⟩
  have hc:Bv (6,am,la,nm,n)=fin nm.length n la (16,0,0,true):=rfl
  rw [hc,LC]
  congr 1
  rw [Bool.eq_iff_iff]
  generalize nm.length=L
  cases la <;> simp <;> omega
 by_cases h7:k=7
 ·subst h7
  have hr:A3 (7,am,la,nm,n)=some ((decide (1<=(nm.length:Int))&&decide ((nm.length:Int)<=16))&&(n==0)):=by
   unfold A3
   unfold A8
   dsimp only
   generalize decide (1<=(nm.length:Int))=b0
   generalize decide ((nm.length:Int)<=16)=b1
   generalize (n==0)=b2
   cases b0 <;> cases b1 <;> cases b2 <;> cases la <;> rfl
  refine ⟨_,?_,hr⟩
  have hc:Bv (7,am,la,nm,n)=fin nm.length n la (16,0,0,true):=rfl
  rw [hc,LC]
  congr 1
  rw [Bool.eq_iff_iff]
  generalize nm.length=L
  cases la <;> simp <;> omega
 by_cases h10:k=10
 ·subst h10
  have hr:A3 (10,am,la,nm,n)=some (((nm.length:Int)==0)&&((decide (0<=n)&&decide (n<=63))&&!la)):=by
   unfold A3
   unfold A8
   dsimp only
   generalize ((nm.length:Int)==0)=b0
   generalize decide (0<=n)=b1
   generalize decide (n<=63)=b2
   cases b0 <;> cases b1 <;> cases b2 <;> cases la <;> rfl
  refine ⟨_,?_,hr⟩
  have hc:Bv (10,am,la,nm,n)=fin nm.length n la (0,0,63,false):=rfl
  rw [hc,LC]
  congr 1
  rw [Bool.eq_iff_iff]
  generalize nm.length=L
  cases la <;> simp <;> omega
 have e:∀ m:Int,(m=1\/m=2\/m=3\/m=4\/m=5\/m=6\/m=7\/m=8\/m=9\/m=10)->(k==m)=false:=fun m hm=>by
  rw [beq_eq_false_iff_ne]
  rintro rfl
  omega
 refine ⟨false,?_,?_⟩
 ·simp [Bv,GV,GW,GX,GY,GZ,Ga,Gb,Gc,Gd,e]
 ·simp [A3,Em,En,Eo,Ep,e]
def fm (x:AE):Bool:=(A3 x).getD false
theorem AAN (x:AE):Bv x=some (fm x):=by
 obtain ⟨b,h1,h2⟩:=To x
 rw [h1]; unfold fm; rw [h2]; rfl
/-- Is a name there twice? -/
def Ti (l:List (List UInt8)):List (List UInt8)->Nat->Bool
 | [],_=>false
 | v::r,i=>GM (l.take i) v||Ti l r (i + 1)
def H8 (before:List AE) (am:List UInt8):Bool:=before.any fun b=>(b.1==1)&&GM b.2.2.2.1 am
def chk (before:List AE) (x:AE):Int :=
 if fm x=false then 30 else
 if ((!(x.2.1==[]))&&!FJ x.2.1)=true\/(x.2.2.2.1.any fun s=>!FJ s)=true then 4 else
 if Ti x.2.2.2.1 x.2.2.2.1 0=true then 5 else
 if x.2.1=[]\/H8 before x.2.1=true then 0 else 31
theorem Tv (l:List (List UInt8)):∀ (r:List (List UInt8)) (i:Nat),goU (fun v i (k:Option (Unit ⊕ Int))=>if GM (l.take i) v=true then some (.inr 5) else k) (some (.inl ())) r i=some (if Ti l r i=true then .inr 5 else .inl ())
 | [],_=>rfl
 | v::r,i=>by
  unfold goU Ti
  rw [Tv l r (i + 1)]
  cases GM (l.take i) v <;> rfl
theorem Zh (b:List AE) (j:AE) (h:j.2.2.2.1.length<=99999):Du b j 100000 0=some (if Ti j.2.2.2.1 j.2.2.2.1 0=true then .inr 5 else .inl ()):=by
 rw [<-Tv]
 refine KW j.2.2.2.1 (Du b j) _ _ 100000 (by omega) (fun f pre v r e=>?_) (fun f=>?_)
 ·conv=>lhs; unfold Du
  have hl:j.2.2.2.1.length=pre.length + r.length + 1:=by rw [e]; simp; omega
  rw [if_pos (by rw [e]; exact HS pre v r),show idx j.2.2.2.1 (pre.length:Int)=some v by rw [e,Do],OS,if_pos (by unfold DK; simp; omega),Int.toNat_natCast]
  rw [show ((j.2.2.2.1.take pre.length).drop (0:Int).toNat)=j.2.2.2.1.take pre.length from rfl,GF _ _ (by simp; omega),OS,FV pre v r (by rw [<-e]; omega)]
 ·conv=>lhs; unfold Du
  rw [if_neg (by simp)]
theorem Vb (b:List AE) (x:AE) (h:b.length<=99999) (hb:∀ y ∈ b,y.2.2.2.1.length<=99999):AT b x=some (H8 b x.2.1):=by
 unfold AT Aj
 obtain ⟨n,h1,h2⟩:=R4 b h (fun v=>Ez v x) (fun y=>(y.1==1)&&GM y.2.2.2.1 x.2.1) (fun y hy=>by
  unfold Ez
  rw [GF _ _ (hb y hy)]
  cases (y.1==1) <;> rfl) (Au b x) (fun f c=>rfl)
 unfold H8
 rw [<-h2]
 exact (congrArg (fun o=>o.bind fun v1=>some (decide (v1≥0))) h1)
theorem Zc (b:List AE) (x:AE) (hb:few b) (hx:Wl x):GG b x=some (chk b x):=by
 have hn:∀ s ∈ x.2.2.2.1,s.length<=99999:=fun s hs=>by have:=hx.2.2 s hs; omega
 unfold GG chk
 rw [AAN,OS]
 cases hf:fm x with
 | false=>simp
 | true =>
  rw [if_neg (show ¬ ((!true)=true) by simp),if_neg (show ¬ (true=false) by simp),XH _ (by have:=hx.2.1; omega) hn,Re _ (by have:=hx.1; omega)]
  have e:((if (!(x.2.1==[]))=true then (some (FJ x.2.1)).bind fun v3=>if (!v3)=true then some true else (some (x.2.2.2.1.any fun s=>!FJ s)).bind fun v4=>some v4 else (some (x.2.2.2.1.any fun s=>!FJ s)).bind fun v5=>some v5):Option Bool)=some (((!(x.2.1==[]))&&!FJ x.2.1)||(x.2.2.2.1.any fun s=>!FJ s)):=by
   cases (x.2.1==[]) <;> cases FJ x.2.1 <;> rfl
  rw [e,OS]
  cases hq:(((!(x.2.1==[]))&&!FJ x.2.1)||(x.2.2.2.1.any fun s=>!FJ s)) with
  | true=>rw [if_pos rfl,if_pos (by simpa using hq)]
  | false =>
   rw [if_neg (show ¬ (false=true) by simp),if_neg (show ¬ (((!(x.2.1==[]))&&!FJ x.2.1)=true\/(x.2.2.2.1.any fun s=>!FJ s)=true) by simpa using hq),Zh _ _ (by have:=hx.2.1; omega),OS]
   try dsimp only
   cases hd:Ti x.2.2.2.1 x.2.2.2.1 0 with
   | true=>rfl
   | false =>
    rw [if_neg (show ¬ (false=true) by simp)]
    dsimp only
    have hr:=Vb b x (by have:=hb.1; omega) (fun y hy=>by have:=(hb.2 y hy).2.1; omega)
    rw [hr]
    by_cases ha:x.2.1=[]
    ·simp [ha]
    ·simp only [ha,false_or]
     cases H8 b x.2.1 <;> simp [ha]
section
variable (c pre r:List AE) (x:AE) (e:c=pre++x::r) (h:few c)
include e h
end
/-- The first error of a text: its place, and which. -/
def R9 (c:List AE):List AE->Nat->Unit ⊕ (Int×Int)
 | [],_=> .inl ()
 | x::r,i=>if chk (c.take i) x≠0 then .inr ((i:Int),chk (c.take i) x) else R9 c r (i + 1)
def Kt (c:List AE):Int×Int:=if c.length > 32 then (0,7) else match R9 c c 0 with
 | .inl _=>(0,0)
 | .inr w=>w
theorem Tu (c:List AE):∀ (r:List AE) (i:Nat),goU (fun x i (k:Option (Unit ⊕ (Int×Int)))=>if (chk (c.take i) x != 0)=true then some (.inr ((i:Int),chk (c.take i) x)) else k) (some (.inl ())) r i=some (R9 c r i)
 | [],_=>rfl
 | x::r,i=>by
  unfold goU R9
  rw [Tu c r (i + 1)]
  by_cases h:chk (c.take i) x=0 <;> simp [h]
theorem VC {c:List AE}(h:few c) (n:Nat):few (c.take n):=⟨by have:=h.1; simp; omega,fun x hx=>h.2 x (List.mem_of_mem_take hx)⟩
theorem RG (c:List AE) (h:few c):Fd c=some (Kt c):=by
 have hl:=h.1
 have e1:Dt c 100000 0=some (R9 c c 0):=by
  rw [<-Tu]
  refine KW c (Dt c) _ _ 100000 (by omega) (fun f pre v r e=>?_) (fun f=>?_)
  ·conv=>lhs; unfold Dt
   have hl2:c.length=pre.length + r.length + 1:=by rw [e]; simp; omega
   rw [if_pos (by rw [e]; exact HS pre v r),show idx c (pre.length:Int)=some v by rw [e,Do],OS,if_pos (by unfold DK; simp; omega),Int.toNat_natCast,
    show ((c.take pre.length).drop (0:Int).toNat)=c.take pre.length from rfl,Zc _ v (VC h _) (h.2 v (by rw [e]; simp)),OS,FV pre v r (by rw [<-e]; omega)]
  ·conv=>lhs; unfold Dt
   rw [if_neg (by simp)]
 unfold Fd Kt
 by_cases h32:c.length > 32
 ·rw [if_pos (by simp; omega),if_pos h32]
 ·rw [if_neg (by simp; omega),if_neg h32,e1,OS]
  cases R9 c c 0 <;> rfl
/- trestle/trestleref03.rank -/
def Ft (x0:(List (List UInt8))) (x1:(List UInt8)):Nat->Int->Option ((Unit) ⊕ (Int))
 | 0,_=>none
 | f + 1,c1 =>
  if (decide (c1 < (x0.length:Int)))=true then
  (idx x0 c1).bind fun v3 =>
  if (v3==x1)=true then
  some (.inr c1)
  else
  Ft x0 x1 f (wr .i64 (c1 + 1))
  else
  some (.inl ())
def Kz (x0:(List (List UInt8))) (x1:(List UInt8)):Option (Int) :=
 (Ft x0 x1 100000 0).bind fun r6 =>
 match r6 with
 | (.inl w7) =>
  some (x0.length:Int)
 | (.inr w8) =>
  some w8
/- trestle/trestleref03.key -/
def OD (x0:Int) (x1:Int):Option (Int) :=
 some ((wr .i64 ((wr .i64 (x0 * (wr .i64 ((wr .i64 (x1 + x1)) + 1)))) + x1)).tmod 64)
/- trestle/trestleref03.named -/
def FQ (x0:AE) (x1:Aq):Nat->Int->Option ((Unit) ⊕ (Bool))
 | 0,_=>none
 | f + 1,c5 =>
  if (decide (c5 < (x1.2.2.2.2.2.2.2.2.length:Int)))=true then
  (idx x1.2.2.2.2.2.2.2.2 c5).bind fun v7 =>
  (L8 x0.2.2.2.1 v7).bind fun v8 =>
  if v8=true then
  some (.inr true)
  else
  FQ x0 x1 f (wr .i64 (c5 + 1))
  else
  some (.inl ())
def HI (x0:AE) (x1:Aq):Option (Bool) :=
 if (x0.1==4)=true then
 some (x1.2.2.2.2.1==x0.2.2.2.2)
 else
 if (x0.1==5)=true then
 some x1.2.2.2.2.2.2.1
 else
 if (x0.1==7)=true then
 (L8 x0.2.2.2.1 x1.2.2.1).bind fun v4 =>
 some v4
 else
 (FQ x0 x1 100000 0).bind fun r11 =>
 match r11 with
 | (.inl w12) =>
  some false
 | (.inr w13) =>
  some w13
/- trestle/trestleref03.before -/
def I1 (x0:AE) (x1:Aq) (x2:Aq) (x3:Int) (x4:Int):Option (Bool) :=
 if (x0.1==1)=true then
 (Kz x0.2.2.2.1 x1.2.1).bind fun v2 =>
 (Kz x0.2.2.2.1 x2.2.1).bind fun v3 =>
 some (decide (v2 < v3))
 else
 if (x0.1==2)=true then
 (if (x1.2.2.2.1 != 0)=true then if (x2.2.2.2.1==0)=true then some true else some (decide (x1.2.2.2.1 < x2.2.2.2.1)) else some false).bind fun j6 =>
 some j6
 else
 if (x0.1==3)=true then
 (if (x1.2.2.2.1 != 0)=true then if (x2.2.2.2.1==0)=true then some true else some (decide (x1.2.2.2.1 > x2.2.2.2.1)) else some false).bind fun j11 =>
 some j11
 else
 if (x0.1==8)=true then
 some (Go.Op.bytesLess x1.1 x2.1)
 else
 if (x0.1==9)=true then
 (A8 x3 0 63).bind fun v16 =>
 (if v16=true then (A8 x4 0 63).bind fun v17 =>
 if v17=true then some (decide (x3 < x4)) else some false else some false).bind fun j19 =>
 some j19
 else
 if (x0.1==10)=true then
 (A8 x3 0 63).bind fun v23 =>
 (if v23=true then (A8 x4 0 63).bind fun v24 =>
 if v24=true then (OD x3 x0.2.2.2.2).bind fun v25 =>
 (OD x4 x0.2.2.2.2).bind fun v26 =>
 some (decide (v25 < v26)) else some false else some false).bind fun j28 =>
 some j28
 else
 if x0.2.2.1=true then
 (HI x0 x1).bind fun v32 =>
 (if (!v32)=true then (HI x0 x2).bind fun v33 =>
 some v33 else some false).bind fun j35 =>
 some j35
 else
 (HI x0 x1).bind fun v37 =>
 (if v37=true then (HI x0 x2).bind fun v38 =>
 some (!v38) else some false).bind fun j40 =>
 some j40
/- trestle/trestleref03.Reason -/
def D2 (x0:(List AE)) (x1:Aq) (x2:Aq) (x3:Int) (x4:Int):Nat->Int->Option ((Unit) ⊕ (Int×Int))
 | 0,_=>none
 | f + 1,c1 =>
  if (decide (c1 < (x0.length:Int)))=true then
  (idx x0 c1).bind fun v3 =>
  (if (!(v3.2.1==[]))=true then (idx x0 c1).bind fun v4 =>
  if (!(x1.2.1==v4.2.1))=true then some true else (idx x0 c1).bind fun v5 =>
  some (!(x2.2.1==v5.2.1)) else some false).bind fun j7 =>
  if j7=true then
  D2 x0 x1 x2 x3 x4 f (wr .i64 (c1 + 1))
  else
  (idx x0 c1).bind fun v9 =>
  (I1 v9 x1 x2 x3 x4).bind fun v10 =>
  if v10=true then
  some (.inr (c1,(-1)))
  else
  (idx x0 c1).bind fun v14 =>
  (I1 v14 x2 x1 x4 x3).bind fun v15 =>
  if v15=true then
  some (.inr (c1,1))
  else
  D2 x0 x1 x2 x3 x4 f (wr .i64 (c1 + 1))
  else
  some (.inl ())
def Ka (x0:(List AE)) (x1:Aq) (x2:Aq) (x3:Int) (x4:Int):Option (Int×Int) :=
 (D2 x0 x1 x2 x3 x4 100000 0).bind fun r19 =>
 match r19 with
 | (.inl w20) =>
  some ((-1),0)
 | (.inr w21) =>
  some (w21.1,w21.2)
/-- The first of a word in a list, from a number on. -/
def rkN (s:List UInt8):List (List UInt8)->Nat->Nat
 | [],i=>i
 | v::r,i=>if (s==v)=true then i else rkN s r (i + 1)
theorem UP (s:List UInt8):∀ (l:List (List UInt8)) (i:Nat),GM l s=false->rkN s l i=i + l.length
 | [],i,_=>rfl
 | v::r,i,h=>by
  have h':((s==v)||GM r s)=false:=h
  simp only [Bool.or_eq_false_iff] at h'
  unfold rkN
  rw [if_neg (show ¬ (s==v)=true by rw [h'.1]; decide),UP s r (i + 1) h'.2]
  simp; omega
theorem SL (s:List UInt8):∀ (l:List (List UInt8)) (i:Nat),goU (fun v i (k:Option (Unit ⊕ Int))=>if (s==v)=true then some (.inr (i:Int)) else k) (some (.inl ())) l i=some (if GM l s=true then .inr (rkN s l i:Int) else .inl ())
 | [],_=>rfl
 | v::r,i=>by
  unfold goU rkN
  rw [SL s r (i + 1)]
  have:GM (v::r) s=((s==v)||GM r s):=rfl
  rw [this]
  cases (s==v) <;> rfl
theorem Wv (s:List UInt8) (l:List (List UInt8)) (i:Nat):goU (fun v i (k:Option (Unit ⊕ Int))=>if (v==s)=true then some (.inr (i:Int)) else k) (some (.inl ())) l i=some (if GM l s=true then .inr (rkN s l i:Int) else .inl ()):=by
 rw [<-SL]
 congr 1
 funext v i k
 rw [Bool.beq_comm]
def rk (l:List (List UInt8)) (s:List UInt8):Int:=(rkN s l 0:Nat)
theorem WA (x:AL) (c:AE) (h:c.2.2.2.1.length<=99999):DS x c=some (rk c.2.2.2.1 x.1.2.1):=by
 unfold DS A4
 have e:Ac c.2.2.2.1 x.1.2.1 100000 0=some (if GM c.2.2.2.1 x.1.2.1=true then .inr (rkN x.1.2.1 c.2.2.2.1 0:Int) else .inl ()):=by
  rw [<-SL]
  refine KW c.2.2.2.1 (Ac c.2.2.2.1 x.1.2.1) _ _ 100000 (by omega) (fun f pre v r e=>?_) (fun f=>?_)
  ·conv=>lhs; unfold Ac
   rw [if_pos (by rw [e]; exact HS pre v r),show idx c.2.2.2.1 (pre.length:Int)=some v by rw [e,Do],OS,FV pre v r (by rw [<-e]; omega)]
  ·conv=>lhs; unfold Ac
   rw [if_neg (by simp)]
 rw [e]
 cases hh:GM c.2.2.2.1 x.1.2.1 with
 | true=>simp [rk]
 | false=>simp [rk,UP _ _ _ hh]
theorem WB (l:List (List UInt8)) (s:List UInt8) (h:l.length<=99999):Kz l s=some (rk l s):=by
 unfold Kz
 have e:Ft l s 100000 0=some (if GM l s=true then .inr (rkN s l 0:Int) else .inl ()):=by
  rw [<-Wv]
  refine KW l (Ft l s) _ _ 100000 (by omega) (fun f pre v r e=>?_) (fun f=>?_)
  ·conv=>lhs; unfold Ft
   rw [if_pos (by rw [e]; exact HS pre v r),show idx l (pre.length:Int)=some v by rw [e,Do],OS,FV pre v r (by rw [<-e]; omega)]
  ·conv=>lhs; unfold Ft
   rw [if_neg (by simp)]
 rw [e]
 cases hh:GM l s with
 | true=>simp [rk]
 | false=>simp [rk,UP _ _ _ hh]
/-- -1, 0 or 1. -/
def J1 (x y:Int):Int:=if x < y then -1 else if y < x then 1 else 0
theorem U0 (x y:Int):CD x y=some (J1 x y):=by
 unfold CD Ew J1
 simp only [bne_self_eq_false,OS,Bool.false_eq_true,if_false,decide_eq_true_eq,gt_iff_lt]
 split
 ·rfl
 ·split <;> rfl
def RH (x y:List UInt8):Int:=if Go.Op.bytesLess x y=true then -1 else if (!(Go.Op.bytesLess x y||x==y))=true then 1 else 0
theorem Zd (x y:List UInt8):C0 x y=some (RH x y):=by
 unfold C0 Dc RH
 simp only [beq_self_eq_true,Bool.not_true,OS,Bool.false_eq_true,if_false]
 split
 ·rfl
 ·split <;> rfl
/-- Does a clause name a guest? -/
def nmB (c:AE) (g:Aq):Bool :=
 if (c.1==4)=true then g.2.2.2.2.1==c.2.2.2.2 else
 if (c.1==5)=true then g.2.2.2.2.2.2.1 else
 if (c.1==7)=true then GM c.2.2.2.1 g.2.2.1 else g.2.2.2.2.2.2.2.2.any fun s=>GM c.2.2.2.1 s
theorem V4 (l:List (List UInt8)):∀ (t:List (List UInt8)) (i:Nat),goU (fun v _ (k:Option (Unit ⊕ Bool))=>if GM l v=true then some (.inr true) else k) (some (.inl ())) t i=some (if (t.any fun s=>GM l s)=true then .inr true else .inl ())
 | [],_=>rfl
 | v::r,i=>by
  unfold goU
  rw [V4 l r (i + 1),List.any_cons]
  cases GM l v <;> rfl
theorem UC (c:AE) (g:Aq) (h:c.2.2.2.1.length<=99999) (ht:g.2.2.2.2.2.2.2.2.length<=99999):HI c g=some (nmB c g):=by
 unfold HI nmB
 split
 ·rfl
 split
 ·rfl
 split
 ·rw [V7 _ _ h]; rfl
 have e:FQ c g 100000 0=some (if (g.2.2.2.2.2.2.2.2.any fun s=>GM c.2.2.2.1 s)=true then .inr true else .inl ()):=by
  rw [<-V4 _ _ 0]
  refine KW g.2.2.2.2.2.2.2.2 (FQ c g) _ _ 100000 (by omega) (fun f pre v r e=>?_) (fun f=>?_)
  ·conv=>lhs; unfold FQ
   rw [if_pos (by rw [e]; exact HS pre v r),show idx g.2.2.2.2.2.2.2.2 (pre.length:Int)=some v by rw [e,Do],OS,V7 _ _ h,OS,FV pre v r (by rw [<-e]; omega)]
  ·conv=>lhs; unfold FQ
   rw [if_neg (by simp)]
 rw [e]
 cases (g.2.2.2.2.2.2.2.2.any fun s=>GM c.2.2.2.1 s) <;> rfl
theorem Q3 (t:List (List UInt8)) (c:AE) (ht:t.length<=99999) (h:c.2.2.2.1.length<=99999):Aa t c=some (t.any fun s=>GM c.2.2.2.1 s):=by
 unfold Aa Av
 obtain ⟨n,h1,h2⟩:=R4 t ht (fun v=>D0 v c) (fun s=>GM c.2.2.2.1 s) (fun v _=>by unfold D0; rw [GF _ _ h]; rfl) (A0 t c) (fun f c=>rfl)
 rw [<-h2]
 exact (congrArg (fun o=>o.bind fun v1=>some (decide (v1≥0))) h1)
def nv (c:AE) (g:Aq):Int:=if (!(nmB c g==c.2.2.1))=true then 0 else 1
def LT (i:Int):Bool:=decide (i≥0)&&decide (i<=63)
theorem Zn (i:Int):Ce i=some (LT i):=by
 unfold Ce LT
 by_cases h:i≥0 <;> simp [h]
theorem YS (i:Int):A8 i 0 63=some (LT i):=by
 unfold A8 LT
 by_cases h:i≥0 <;> simp [h]
def kyI (i n:Int):Int:=(wr .i64 ((wr .i64 (i * (wr .i64 ((wr .i64 (n + n)) + 1)))) + n)).tmod 64
theorem Zs (i:Int) (c:AE):Dm i c=some (kyI i c.2.2.2.2):=by
 unfold Dm kyI
 rw [Int.two_mul]
theorem YW (i n:Int):OD i n=some (kyI i n):=rfl
def b2 (b:Bool):Int:=if b=true then 1 else 0
theorem AAK (b:Bool):IS b=some (b2 b):=by cases b <;> rfl
def snc (y:Bool) (s t:Int):Int:=if (!((s==0)==(t==0)))=true then J1 (b2 (s==0)) (b2 (t==0)) else if y=true then wr .i64 (0 - J1 s t) else J1 s t
/-- What a clause says of two guests at their places, without regard to Among. -/
def NI (c:AE) (a b:Aq) (i j:Int):Int :=
 if (c.1==1)=true then J1 (rk c.2.2.2.1 a.2.1) (rk c.2.2.2.1 b.2.1) else
 if (c.1==2)=true then snc false a.2.2.2.1 b.2.2.2.1 else
 if (c.1==3)=true then snc true a.2.2.2.1 b.2.2.2.1 else
 if (c.1==8)=true then RH a.1 b.1 else
 if (c.1==9)=true then if (!LT i||!LT j)=true then 0 else J1 i j else
 if (c.1==10)=true then if (!LT i||!LT j)=true then 0 else J1 (kyI i c.2.2.2.2) (kyI j c.2.2.2.2) else
 J1 (nv c a) (nv c b)
def amB (c:AE) (a b:Aq):Bool:=(!(c.2.1==[]))&&((!(a.2.1==c.2.1))||(!(b.2.1==c.2.1)))
def dir (c:AE) (a b:Aq) (i j:Int):Int:=if amB c a b=true then 0 else NI c a b i j
theorem AAA (c:AE) (a b:Aq):((if (!(c.2.1==[]))=true then if (!(a.2.1==c.2.1))=true then some true else some (!(b.2.1==c.2.1)) else some false):Option Bool)=some (amB c a b):=by
 unfold amB
 cases (c.2.1==[]) <;> cases (a.2.1==c.2.1) <;> rfl
theorem SY (a b:Aq) (i j:Int) (c:AE):Cr (a,i) (b,j) c=some (snc (c.1==3) a.2.2.2.1 b.2.2.2.1):=by
 unfold Cr snc GA
 simp only [AAK,U0,OS]
 split
 ·rfl
 ·split <;> rfl
theorem Zg (c:AE) (a b:Aq) (i j:Int) (h:c.2.2.2.1.length<=99999) (ha:a.2.2.2.2.2.2.2.2.length<=99999) (hb:b.2.2.2.2.2.2.2.2.length<=99999) (hk:1<=c.1/\c.1<=10):Dz (a,i) (b,j) c=some (dir c a b i j):=by
 have cl:∀ (o:Option Int) (x:Int),o=some x->((((if (!(c.2.1==[]))=true then if (!(a.2.1==c.2.1))=true then some true else some (!(b.2.1==c.2.1)) else some false):Option Bool).bind fun j2=>if j2=true then some 0 else o.bind fun v4=>some v4):Option Int)=some (if amB c a b=true then 0 else x):=fun o x e=>by
  rw [AAA,OS,e]
  cases amB c a b <;> rfl
 have nm:∀ (p q:Bool),((if (!(p==c.2.2.1))=true then some 0 else some 1:Option Int).bind fun v1=>(if (!(q==c.2.2.1))=true then some 0 else some 1:Option Int).bind fun v2=>(CD v1 v2).bind fun v3=>some v3)=some (J1 (if (!(p==c.2.2.1))=true then 0 else 1) (if (!(q==c.2.2.1))=true then 0 else 1)):=fun p q=>by
  simp only [U0]
  cases (p==c.2.2.1) <;> cases (q==c.2.2.1) <;> rfl
 have pl:∀ (o:Int->Option Int) (k:Int->Int),(∀ i,o i=some (k i))->(((Ce i).bind fun v1=>((if (!v1)=true then some true else (Ce j).bind fun v2=>some (!v2)):Option Bool).bind fun j4=>if j4=true then some 0 else (o i).bind fun v6=>(o j).bind fun v7=>(CD v6 v7).bind fun v8=>some v8):Option Int)=some (if (!LT i||!LT j)=true then 0 else J1 (k i) (k j)):=fun o k e=>by
  simp only [Zn,OS,e,U0]
  cases LT i <;> cases LT j <;> rfl
 unfold Dz dir
 by_cases h1:c.1=1
 ·have e1:(c.1==1)=true:=by simp [h1]
  rw [if_pos e1]
  refine cl (CJ (fun x (v:AE×Unit)=>DS x v.1) (a,i) (b,j) (c,())) _ ?_
  unfold CJ NI
  dsimp only
  rw [if_pos e1,WA _ c h,OS,WA _ c h,OS,U0]; rfl
 rw [if_neg (show ¬ (c.1==1)=true by simpa using h1)]
 by_cases h2:c.1=2
 ·have e2:(c.1==2)=true:=by simp [h2]
  rw [if_pos e2]
  refine cl (Cr (a,i) (b,j) c) _ ?_
  unfold NI
  rw [if_neg (show ¬ (c.1==1)=true by simpa using h1),if_pos e2,SY,h2]; rfl
 rw [if_neg (show ¬ (c.1==2)=true by simpa using h2)]
 by_cases h3:c.1=3
 ·have e3:(c.1==3)=true:=by simp [h3]
  rw [if_pos e3]
  refine cl (Cr (a,i) (b,j) c) _ ?_
  unfold NI
  rw [if_neg (show ¬ (c.1==1)=true by simpa using h1),if_neg (show ¬ (c.1==2)=true by simpa using h2),if_pos e3,SY,h3]; rfl
 rw [if_neg (show ¬ (c.1==3)=true by simpa using h3)]
 by_cases h4:c.1=4
 ·have e4:(c.1==4)=true:=by simp [h4]
  rw [if_pos e4]
  refine cl (CJ (fun x (v:AE×AE×Unit)=>BM x v.1 v.2.1) (a,i) (b,j) (c,c,())) _ ?_
  have:NI c a b i j=J1 (nv c a) (nv c b):=by unfold NI; simp [h4]
  rw [this]
  unfold nv nmB
  rw [if_pos e4,if_pos e4]
  exact nm _ _
 rw [if_neg (show ¬ (c.1==4)=true by simpa using h4)]
 by_cases h5:c.1=5
 ·have e5:(c.1==5)=true:=by simp [h5]
  rw [if_pos e5]
  refine cl (CJ (fun x (v:Unit×AE×Unit)=>BN x v.2.1) (a,i) (b,j) ((),c,())) _ ?_
  have:NI c a b i j=J1 (nv c a) (nv c b):=by unfold NI; simp [h5]
  rw [this]
  unfold nv nmB
  simp only [h5]
  exact nm _ _
 rw [if_neg (show ¬ (c.1==5)=true by simpa using h5)]
 by_cases h6:c.1=6
 ·have e6:(c.1==6)=true:=by simp [h6]
  rw [if_pos e6]
  refine cl (CJ (fun x (v:AE×AE×Unit)=>BB x v.1 v.2.1) (a,i) (b,j) (c,c,())) _ ?_
  have:NI c a b i j=J1 (nv c a) (nv c b):=by unfold NI; simp [h6]
  rw [this]
  unfold CJ BB Fp
  dsimp only
  rw [Q3 _ _ ha h,Q3 _ _ hb h]
  unfold nv nmB
  simp only [h6]
  exact nm _ _
 rw [if_neg (show ¬ (c.1==6)=true by simpa using h6)]
 by_cases h7:c.1=7
 ·have e7:(c.1==7)=true:=by simp [h7]
  rw [if_pos e7]
  refine cl (CJ (fun x (v:AE×AE×Unit)=>BC x v.1 v.2.1) (a,i) (b,j) (c,c,())) _ ?_
  have:NI c a b i j=J1 (nv c a) (nv c b):=by unfold NI; simp [h7]
  rw [this]
  unfold CJ BC Fq
  dsimp only
  rw [GF _ _ h,GF _ _ h]
  unfold nv nmB
  simp only [h7]
  exact nm _ _
 rw [if_neg (show ¬ (c.1==7)=true by simpa using h7)]
 by_cases h8:c.1=8
 ·have e8:(c.1==8)=true:=by simp [h8]
  rw [if_pos e8]
  refine cl (EP (a,i) (b,j)) _ ?_
  have:NI c a b i j=RH a.1 b.1:=by unfold NI; simp [h8]
  rw [this]
  unfold EP
  rw [Zd]; rfl
 rw [if_neg (show ¬ (c.1==8)=true by simpa using h8)]
 by_cases h10:c.1=10
 ·have e10:(c.1==10)=true:=by simp [h10]
  rw [if_pos e10]
  refine cl (An (a,i) (b,j) c) _ ?_
  have:NI c a b i j=if (!LT i||!LT j)=true then 0 else J1 (kyI i c.2.2.2.2) (kyI j c.2.2.2.2):=by unfold NI; simp [h10]
  rw [this]
  exact pl (fun i=>Dm i c) (fun i=>kyI i c.2.2.2.2) (fun i=>Zs i c)
 rw [if_neg (show ¬ (c.1==10)=true by simpa using h10)]
 have h9:c.1=9:=by omega
 refine cl (Ao (a,i) (b,j)) _ ?_
 have:NI c a b i j=if (!LT i||!LT j)=true then 0 else J1 i j:=by unfold NI; simp [h9]
 rw [this]
 exact pl (fun i=>FB i) (fun i=>i) (fun i=>rfl)
/-- Does a guest go before another by a clause? -/
def bf (c:AE) (a b:Aq) (i j:Int):Bool :=
 if (c.1==1)=true then decide (rk c.2.2.2.1 a.2.1 < rk c.2.2.2.1 b.2.1) else
 if (c.1==2)=true then (a.2.2.2.1 != 0)&&((b.2.2.2.1==0)||decide (a.2.2.2.1 < b.2.2.2.1)) else
 if (c.1==3)=true then (a.2.2.2.1 != 0)&&((b.2.2.2.1==0)||decide (a.2.2.2.1 > b.2.2.2.1)) else
 if (c.1==8)=true then Go.Op.bytesLess a.1 b.1 else
 if (c.1==9)=true then LT i&&(LT j&&decide (i < j)) else
 if (c.1==10)=true then LT i&&(LT j&&decide (kyI i c.2.2.2.2 < kyI j c.2.2.2.2)) else
 if c.2.2.1=true then (!nmB c a)&&nmB c b else nmB c a&&!nmB c b
theorem R6 (c:AE) (a b:Aq) (i j:Int) (h:c.2.2.2.1.length<=99999) (ha:a.2.2.2.2.2.2.2.2.length<=99999) (hb:b.2.2.2.2.2.2.2.2.length<=99999):I1 c a b i j=some (bf c a b i j):=by
 unfold I1 bf
 rw [WB _ _ h,WB _ _ h,UC c a h ha,UC c b h hb,YS,YS,YW,YW]
 simp only [OS]
 split
 ·rfl
 split
 ·cases (a.2.2.2.1 != 0) <;> cases (b.2.2.2.1==0) <;> rfl
 split
 ·cases (a.2.2.2.1 != 0) <;> cases (b.2.2.2.1==0) <;> rfl
 split
 ·rfl
 split
 ·cases LT i <;> cases LT j <;> rfl
 split
 ·cases LT i <;> cases LT j <;> rfl
 split
 ·cases nmB c a <;> cases nmB c b <;> rfl
 ·cases nmB c a <;> cases nmB c b <;> rfl
theorem Pd:∀ (x y:List UInt8),Go.Op.bytesLess x y=false->Go.Op.bytesLess y x=!(x==y)
 | [],[],_=>rfl
 | a::x,[],_=>rfl
 | [],b::y,h=>by cases h
 | a::x,b::y,h=>by
  have h':(decide (a < b)||(a==b&&Go.Op.bytesLess x y))=false:=h
  simp only [Bool.or_eq_false_iff,decide_eq_false_iff_not] at h'
  show (decide (b < a)||(b==a&&Go.Op.bytesLess y x))=!(a::x==b::y)
  by_cases e:a=b
  ·subst e
   have h2:Go.Op.bytesLess x y=false:=by simpa using h'.2
   have:=Pd x y h2
   simp [this]
  ·have hlt:b < a:=by
    rcases Nat.lt_trichotomy a.toNat b.toNat with q | q | q
    ·exact absurd (UInt8.lt_iff_toNat_lt.2 q) h'.1
    ·exact absurd (UInt8.toNat_inj.1 q) e
    ·exact UInt8.lt_iff_toNat_lt.2 q
   simp [hlt,e]
theorem UV (y:Bool) (s t:Int):snc y s t=if ((s != 0)&&((t==0)||(if y=true then decide (s > t) else decide (s < t))))=true then -1 else if ((t != 0)&&((s==0)||(if y=true then decide (t > s) else decide (t < s))))=true then 1 else 0:=by
 have w1:wr .i64 1=1:=by decide
 have w2:wr .i64 (-1) = -1:=by decide
 have w3:wr .i64 0=0:=by decide
 unfold snc J1 b2
 by_cases hs:s=0 <;> by_cases ht:t=0
 ·subst hs ht; cases y <;> simp [w3]
 ·subst hs; simp [ht]
 ·subst ht; simp [hs]
 ·have e1:(s==0)=false:=by simpa using hs
  have e2:(t==0)=false:=by simpa using ht
  have e3:(s != 0)=true:=by simpa using hs
  have e4:(t != 0)=true:=by simpa using ht
  rw [e1,e2,e3,e4]
  rcases Int.lt_trichotomy s t with q | q | q
  ·have q2:¬ t < s:=by omega
   cases y <;> simp [q,q2,w1]
  ·subst q; cases y <;> simp [w3]
  ·have q2:¬ s < t:=by omega
   cases y <;> simp [q,q2,w2]
theorem Yl (c:AE) (a b:Aq) (i j:Int):NI c a b i j=if bf c a b i j=true then -1 else if bf c b a j i=true then 1 else 0:=by
 unfold NI bf
 split
 ·unfold J1; simp
 split
 ·rw [UV]; simp
 split
 ·rw [UV]; simp
 split
 ·unfold RH
  cases h:Go.Op.bytesLess a.1 b.1 with
  | true=>rfl
  | false=>rw [Pd _ _ h]; simp
 split
 ·unfold J1
  cases LT i <;> cases LT j <;> simp
 split
 ·unfold J1
  cases LT i <;> cases LT j <;> simp
 ·unfold nv J1
  cases nmB c a <;> cases nmB c b <;> cases c.2.2.1 <;> decide
/-- The first clause that separates two guests. -/
def rsn (a b:Aq) (i j:Int):List AE->Nat->Unit ⊕ (Int×Int)
 | [],_=> .inl ()
 | x::r,k=>if dir x a b i j=0 then rsn a b i j r (k + 1) else .inr ((k:Int),dir x a b i j)
def WF (c:List AE) (a b:Aq) (i j:Int):Int×Int:=match rsn a b i j c 0 with
 | .inl _=>(-1,0)
 | .inr w=>w
theorem YK (a b:Aq) (i j:Int):∀ (r:List AE) (k:Nat),goU (fun x k (n:Option (Unit ⊕ (Int×Int)))=>if (dir x a b i j != 0)=true then some (.inr ((k:Int),dir x a b i j)) else n) (some (.inl ())) r k=some (rsn a b i j r k)
 | [],_=>rfl
 | x::r,k=>by
  unfold goU rsn
  rw [YK a b i j r (k + 1)]
  by_cases h:dir x a b i j=0 <;> simp [h]
theorem YL (a b:Aq) (i j:Int):∀ (r:List AE) (k:Nat),goU (fun x k (n:Option (Unit ⊕ (Int×Int)))=>if amB x a b=true then n else if bf x a b i j=true then some (.inr ((k:Int),-1)) else if bf x b a j i=true then some (.inr ((k:Int),1)) else n) (some (.inl ())) r k=some (rsn a b i j r k)
 | [],_=>rfl
 | x::r,k=>by
  unfold goU rsn
  rw [YL a b i j r (k + 1)]
  unfold dir
  rw [Yl]
  cases amB x a b <;> cases bf x a b i j <;> cases bf x b a j i <;> simp
def Ot (g:Aq):Prop:=g.2.2.2.2.2.2.2.2.length<=10
def W3 (c:List AE):Prop:=∀ x ∈ c,1<=x.1/\x.1<=10
theorem Tm (c:List AE) (a b:Aq) (i j:Int) (h:few c) (hk:W3 c) (ha:Ot a) (hb:Ot b):Ar c (a,i) (b,j)=some (WF c a b i j):=by
 have hl:=h.1
 have e:Ae c 100000 a.1 a.2.1 a.2.2.1 a.2.2.2.1 a.2.2.2.2.1 a.2.2.2.2.2.1 a.2.2.2.2.2.2.1 a.2.2.2.2.2.2.2.1 a.2.2.2.2.2.2.2.2 i b.1 b.2.1 b.2.2.1 b.2.2.2.1 b.2.2.2.2.1 b.2.2.2.2.2.1 b.2.2.2.2.2.2.1 b.2.2.2.2.2.2.2.1 b.2.2.2.2.2.2.2.2 j 0=some (rsn a b i j c 0):=by
  rw [<-YK]
  refine KW c (fun f n=>Ae c f a.1 a.2.1 a.2.2.1 a.2.2.2.1 a.2.2.2.2.1 a.2.2.2.2.2.1 a.2.2.2.2.2.2.1 a.2.2.2.2.2.2.2.1 a.2.2.2.2.2.2.2.2 i b.1 b.2.1 b.2.2.1 b.2.2.2.1 b.2.2.2.2.1 b.2.2.2.2.2.1 b.2.2.2.2.2.2.1 b.2.2.2.2.2.2.2.1 b.2.2.2.2.2.2.2.2 j n) _ _ 100000 (by omega) (fun f pre v r e=>?_) (fun f=>?_)
  ·conv=>lhs; unfold Ae
   have hv:Wl v:=h.2 v (by rw [e]; simp)
   have hd:=Zg v a b i j (by have:=hv.2.1; omega) (by unfold Ot at ha; omega) (by unfold Ot at hb; omega) (hk v (by rw [e]; simp))
   rw [if_pos (by rw [e]; exact HS pre v r),show idx c (pre.length:Int)=some v by rw [e,Do],OS]
   rw [show Dz ((a.1,a.2.1,a.2.2.1,a.2.2.2.1,a.2.2.2.2.1,a.2.2.2.2.2.1,a.2.2.2.2.2.2.1,a.2.2.2.2.2.2.2.1,a.2.2.2.2.2.2.2.2),i) ((b.1,b.2.1,b.2.2.1,b.2.2.2.1,b.2.2.2.2.1,b.2.2.2.2.2.1,b.2.2.2.2.2.2.1,b.2.2.2.2.2.2.2.1,b.2.2.2.2.2.2.2.2),j) v=some (dir v a b i j) from hd,OS,FV pre v r (by rw [<-e]; omega)]
  ·show Ae c (f + 1) a.1 a.2.1 a.2.2.1 a.2.2.2.1 a.2.2.2.2.1 a.2.2.2.2.2.1 a.2.2.2.2.2.2.1 a.2.2.2.2.2.2.2.1 a.2.2.2.2.2.2.2.2 i b.1 b.2.1 b.2.2.1 b.2.2.2.1 b.2.2.2.2.1 b.2.2.2.2.2.1 b.2.2.2.2.2.2.1 b.2.2.2.2.2.2.2.1 b.2.2.2.2.2.2.2.2 j (c.length:Int)=_
   conv=>lhs; unfold Ae
   rw [if_neg (by simp)]
 unfold Ar WF
 dsimp only
 rw [e,OS]
 cases rsn a b i j c 0 <;> rfl
theorem Vd (c:List AE) (a b:Aq) (i j:Int) (h:few c) (ha:Ot a) (hb:Ot b):Ka c a b i j=some (WF c a b i j):=by
 have hl:=h.1
 have e:D2 c a b i j 100000 0=some (rsn a b i j c 0):=by
  rw [<-YL]
  refine KW c (D2 c a b i j) _ _ 100000 (by omega) (fun f pre v r e=>?_) (fun f=>?_)
  ·conv=>lhs; unfold D2
   have hv:Wl v:=h.2 v (by rw [e]; simp)
   have hb1:=R6 v a b i j (by have:=hv.2.1; omega) (by unfold Ot at ha; omega) (by unfold Ot at hb; omega)
   have hb2:=R6 v b a j i (by have:=hv.2.1; omega) (by unfold Ot at hb; omega) (by unfold Ot at ha; omega)
   have hi:idx c (pre.length:Int)=some v:=by rw [e,Do]
   rw [if_pos (by rw [e]; exact HS pre v r),hi,OS,OS,OS,AAA,OS,OS,OS,hb1,OS,hb2,OS,FV pre v r (by rw [<-e]; omega)]
  ·conv=>lhs; unfold D2
   rw [if_neg (by simp)]
 unfold Ka WF
 rw [e,OS]
 cases rsn a b i j c 0 <;> rfl
theorem N8 (c:List AE) (h:few c) (hk:W3 c):∀ (r pre:List AE) (f:Nat),c=pre++r->r.length < f->C2 c f pre (pre.length:Int)=some c
 | [],pre,f + 1,e,_=>by
  unfold C2
  rw [if_neg (by rw [e]; simp),e,List.append_nil]
 | v::r,pre,f + 1,e,hf=>by
  have hl:=h.1
  have hl2:c.length=pre.length + r.length + 1:=by rw [e]; simp; omega
  simp only [List.length_cons] at hf
  have hkv:=hk v (by rw [e]; simp)
  unfold C2
  rw [if_pos (by rw [e]; exact HS pre v r),show idx c (pre.length:Int)=some v by rw [e,Do],OS,show FA v=some v by unfold FA; rw [if_pos hkv],OS,if_pos (D8 (by omega) (by omega)),show wr .i64 ((pre.length:Int) + 1)=((pre++[v]).length:Int) from FV pre v r (by rw [<-e]; omega)]
  exact N8 c h hk r (pre++[v]) f (by rw [e]; simp) (by omega)
theorem Wo {x:AE}(h:fm x=true):1<=x.1/\x.1<=10:=by
 by_cases hk:1<=x.1/\x.1<=10
 ·exact hk
 ·exfalso
  have n:∀ q:Int,1<=q->q<=10->¬ (x.1==q)=true:=fun q h1 h2 e=>hk (by have:x.1=q:=(by simpa using e); omega)
  have e:A3 x=some false:=by
   unfold A3 Em En Eo Ep
   have n9:(x.1==9)=false:=by simpa using n 9 (by omega) (by omega)
   have n7:(x.1==7)=false:=by simpa using n 7 (by omega) (by omega)
   rw [if_neg (n 1 (by omega) (by omega)),if_neg (n 2 (by omega) (by omega)),if_neg (n 3 (by omega) (by omega)),if_neg (n 8 (by omega) (by omega)),if_neg (n 4 (by omega) (by omega)),if_neg (n 5 (by omega) (by omega)),if_neg (n 6 (by omega) (by omega)),if_neg (n 10 (by omega) (by omega)),n9,n7]
   rfl
  unfold fm at h
  rw [e] at h
  cases h
theorem Ph (c:List AE):∀ (r:List AE) (i:Nat),(∃ u,R9 c r i = .inl u/\∀ x ∈ r,fm x=true)\/∃ w,R9 c r i = .inr w/\w.2≠0
 | [],i=> .inl ⟨(),rfl,fun x hx=>by cases hx⟩
 | x::r,i=>by
  unfold R9
  by_cases h:chk (c.take i) x=0
  ·rw [if_neg (by simpa using h)]
   rcases Ph c r (i + 1) with ⟨u,h1,h2⟩ | h1
   ·refine .inl ⟨u,h1,fun y hy=>?_⟩
    rcases List.mem_cons.1 hy with rfl | hy
    ·cases hf:fm y with
     | true=>rfl
     | false=>unfold chk at h; rw [if_pos hf] at h; cases h
    ·exact h2 y hy
   ·exact .inr h1
  ·rw [if_pos h]
   exact .inr ⟨_,rfl,h⟩
theorem Lc {c:List AE}(h:(Kt c).2=0):W3 c:=by
 unfold Kt at h
 split at h
 ·cases h
 ·rcases Ph c c 0 with ⟨u,h1,h2⟩ | ⟨w,h1,h2⟩
  ·exact fun x hx=>Wo (h2 x hx)
  ·rw [h1] at h; exact absurd h h2
theorem Vc (c:List AE) (a b:Aq) (i j:Int) (h:few c) (ha:Ot a) (hb:Ot b):Fe c a b i j=some (if (Kt c).2=0 then WF c a b i j else (0,0)):=by
 unfold Fe EO
 rw [RG c h,OS]
 by_cases hv:(Kt c).2=0
 ·have hk:=Lc hv
  have e0:C2 c 100000 [] 0=some c:=N8 c h hk c [] 100000 rfl (by have:=h.1; omega)
  rw [if_neg (by simpa using hv),if_pos hv,e0]
  simp only [OS]
  rw [if_neg (by simp),Tm c a b i j h hk ha hb]
  rfl
 ·rw [if_pos (by simpa using hv),if_neg hv]
  rfl
theorem Te (c:List AE) (a b:Aq) (i j:Int) (h:few c) (ha:Ot a) (hb:Ot b):C1 c a b i j=some (if (Kt c).2=0 then WF c a b i j else (0,0)).2:=by
 unfold C1
 rw [Vc c a b i j h ha hb]; rfl
/-- A letter a to d. -/
def wd (k:Int):List UInt8:=((((([97,98,99,100]:List UInt8).take (([97,98,99,100]:List UInt8).length:Int).toNat).drop k.toNat).take (1:Int).toNat).drop (0:Int).toNat)
theorem ZJ {k:Int}(h1:0<=k) (h2:k < 4):k=0\/k=1\/k=2\/k=3:=by omega
theorem Rs {k:Int}(h1:0<=k) (h2:k < 4):FJ (wd k)=true/\(wd k).length=1:=by
 rcases ZJ h1 h2 with rfl | rfl | rfl | rfl <;> decide
theorem WI {a b:Int}(h1:0<=a) (h2:a < 4) (h3:0<=b) (h4:b < 4) (h:(wd a==wd b)=true):a=b:=by
 rcases ZJ h1 h2 with rfl | rfl | rfl | rfl <;> rcases ZJ h3 h4 with rfl | rfl | rfl | rfl <;> first | rfl | (exact absurd h (by decide))
theorem Wf {k:Int}(h1:0<=k) (h2:k < 4):DK k (([97,98,99,100]:List UInt8).length:Int) ([97,98,99,100]:List UInt8).length=true/\DK 0 (1:Int) ((([97,98,99,100]:List UInt8).take (([97,98,99,100]:List UInt8).length:Int).toNat).drop k.toNat).length=true:=by
 rcases ZJ h1 h2 with rfl | rfl | rfl | rfl <;> exact ⟨by decide,by decide⟩
def u8 (n:Int):Prop:=0<=n/\n<=255
theorem tm4 {n:Int}(h:u8 n):0<=n.tmod 4/\n.tmod 4 < 4:=by
 have:=h.1
 rw [Int.tmod_eq_emod_of_nonneg this]
 omega
theorem wr8 (n:Int) (h:u8 n):u8 (wr .u8 (n + 1))/\(wr .u8 (n + 1)).tmod 4≠n.tmod 4:=by
 have e:wr .u8 (n + 1)=(n + 1) % 256:=rfl
 have h2:u8 ((n + 1) % 256):=⟨by omega,by omega⟩
 refine ⟨e ▸ h2,?_⟩
 rw [e,Int.tmod_eq_emod_of_nonneg h2.1,Int.tmod_eq_emod_of_nonneg h.1]
 unfold u8 at h
 omega
/-- The names of a code. -/
def nms (v:Int×Int×Int×Bool×Bool):List (List UInt8):=if ((D7 .u8 v.2.2.1 4)!=0)=true then [wd (v.2.2.1.tmod 4),wd ((wr .u8 (v.2.2.1 + 1)).tmod 4)] else [wd (v.2.2.1.tmod 4)]
theorem Ye (x0:List (Int×Int×Int×Bool×Bool)) (c2:List AE) (c3:List UInt8) (c4:Int) (v:Int×Int×Int×Bool×Bool) (h:u8 v.2.2.1):Gu x0 c2 c3 c4 v=some (nms v):=by
 unfold Gu nms
 obtain ⟨h1,_⟩:=wr8 _ h
 obtain ⟨q1,q2⟩:=tm4 h1
 obtain ⟨d1,d2⟩:=Wf q1 q2
 by_cases hc:((D7 .u8 v.2.2.1 4)!=0)=true
 ·rw [if_pos hc,if_pos hc,if_pos d1,if_pos d2]
  refine (if_pos ?_).trans rfl
  show Dj 16 2=true
  decide
 ·rw [if_neg hc,if_neg hc]; rfl
/-- The clause of a code. -/
def clz (k:Int) (am:List UInt8) (la:Bool) (nm:List (List UInt8)) (b:Int):AE :=
 if k=1 then (1,am,false,nm,0) else if k=4 then (4,am,la,[],wr .i64 (1 + wr .i64 (b.tmod 2))) else if k=5 then (5,am,la,[],0) else
 if k=6 then (6,am,la,nm,0) else if k=7 then (7,am,la,nm,0) else if k=10 then (10,am,false,[],wr .i64 (b.tmod 64)) else (k,am,false,[],0)
theorem ten {k:Int}(h1:1<=k) (h2:k<=10):k=1\/k=2\/k=3\/k=4\/k=5\/k=6\/k=7\/k=8\/k=9\/k=10:=by omega
theorem Yf (x0:List (Int×Int×Int×Bool×Bool)) (c2:List AE) (c3:List UInt8) (c4 a b d:Int) (e g:Bool) (k:Int) (am:List UInt8) (w:List UInt8) (nm:List (List UInt8)) (h1:1<=k) (h2:k<=10) :
  Gv x0 c3 c4 (c2,a,b,d,e,g,k,am,false,0,w::nm)=some (c2,(if k=1 then w else c3),clz k am e (w::nm) b):=by
 rcases ten h1 h2 with rfl | rfl | rfl | rfl | rfl | rfl | rfl | rfl | rfl | rfl <;> rfl
/-- Names that are fit. -/
def ZD (nm:List (List UInt8)):Prop:=1<=nm.length/\nm.length<=2/\(nm.any fun s=>!FJ s)=false/\Ti nm nm 0=false/\∀ s ∈ nm,s.length<=40
theorem UF (v:Int×Int×Int×Bool×Bool) (h:u8 v.2.2.1):ZD (nms v)/\∃ r,nms v=wd (v.2.2.1.tmod 4)::r:=by
 obtain ⟨h1,h0⟩:=wr8 _ h
 obtain ⟨q1,q2⟩:=tm4 h1
 obtain ⟨p1,p2⟩:=tm4 h
 obtain ⟨a1,a2⟩:=Rs p1 p2
 obtain ⟨b1,b2⟩:=Rs q1 q2
 have hne:(wd ((wr .u8 (v.2.2.1 + 1)).tmod 4)==wd (v.2.2.1.tmod 4))=false:=by
  cases hh:(wd ((wr .u8 (v.2.2.1 + 1)).tmod 4)==wd (v.2.2.1.tmod 4)) with
  | false=>rfl
  | true=>exact absurd (WI q1 q2 p1 p2 hh) h0
 unfold nms
 split
 ·refine ⟨⟨by simp,by simp,by simp [a1,b1],?_,fun s hs=>?_⟩,_,rfl⟩
  ·simp [Ti,GM,hne]
  ·rcases (by simpa using hs:s=_\/s=_) with rfl | rfl <;> omega
 ·refine ⟨⟨by simp,by simp,by simp [a1],by simp [Ti,GM],fun s hs=>?_⟩,_,rfl⟩
  have:s=wd (v.2.2.1.tmod 4):=by simpa using hs
  rw [this]; omega
theorem YA (k:Int) (am:List UInt8) (la:Bool) (nm:List (List UInt8)) (b:Int) (h1:1<=k) (h2:k<=10) (hb:u8 b) (ha:k=1->am=[]) (hn:ZD nm):fm (clz k am la nm b)=true:=by
 obtain ⟨n1,n2,_⟩:=hn
 have hl:nm.length=1\/nm.length=2:=by omega
 have e2:wr .i64 (1 + wr .i64 (b.tmod 2))=1\/wr .i64 (1 + wr .i64 (b.tmod 2))=2:=by
  rw [Int.tmod_eq_emod_of_nonneg hb.1]
  have hw:wr .i64 (b % 2)=b % 2:=QI (by omega) (by omega)
  rw [hw,QI (by omega) (by omega)]
  omega
 have e64:0<=wr .i64 (b.tmod 64)/\wr .i64 (b.tmod 64)<=63:=by
  rw [Int.tmod_eq_emod_of_nonneg hb.1,QI (by omega) (by omega)]
  omega
 unfold fm
 rcases ten h1 h2 with rfl | rfl | rfl | rfl | rfl | rfl | rfl | rfl | rfl | rfl
 ·obtain rfl:=ha rfl
  have:clz 1 [] la nm b=(1,[],false,nm,0):=rfl
  rw [this]
  rcases hl with h | h <;> simp [A3,A8,h]
 ·rfl
 ·rfl
 ·have:clz 4 am la nm b=(4,am,la,[],wr .i64 (1 + wr .i64 (b.tmod 2))):=rfl
  rw [this]
  rcases e2 with h | h <;> rw [h] <;> rfl
 ·rfl
 ·have:clz 6 am la nm b=(6,am,la,nm,0):=rfl
  rw [this]
  rcases hl with h | h <;> simp [A3,Em,En,Eo,Ep,A8,h]
 ·have:clz 7 am la nm b=(7,am,la,nm,0):=rfl
  rw [this]
  rcases hl with h | h <;> simp [A3,Em,En,Eo,Ep,A8,h]
 ·rfl
 ·rfl
 ·have:clz 10 am la nm b=(10,am,false,[],wr .i64 (b.tmod 64)):=rfl
  rw [this]
  simp [A3,Em,En,Eo,Ep,A8,e64.1,e64.2]
/-- Every clause is valid behind what stands before it. -/
def JB (pre:List AE):List AE->Prop
 | []=>True
 | x::r=>chk pre x=0/\JB (pre++[x]) r
theorem KU:∀ (a pre b:List AE),JB pre (a++b)↔JB pre a/\JB (pre++a) b
 | [],pre,b=>by simp [JB]
 | x::a,pre,b=>by
  simp only [List.cons_append,JB,KU a (pre++[x]) b,List.append_assoc,List.cons_append,List.nil_append,and_assoc]
theorem PP (a b:List AE) (s:List UInt8):H8 (a++b) s=(H8 a s||H8 b s):=by
 unfold H8
 rw [List.any_append]
theorem Qg (c:List AE):∀ (r pre:List AE),c=pre++r->JB pre r->R9 c r pre.length = .inl ()
 | [],_,_,_=>rfl
 | x::r,pre,e,h=>by
  unfold R9
  have ht:c.take pre.length=pre:=by rw [e]; simp
  rw [ht,if_neg (by rw [h.1]; decide)]
  have:=Qg c r (pre++[x]) (by rw [e]; simp) h.2
  simpa using this
theorem Ty {c:List AE}(hl:c.length<=32) (h:JB [] c):Kt c=(0,0):=by
 unfold Kt
 have:R9 c c 0 = .inl ():=Qg c c [] rfl h
 rw [if_neg (by omega),this]
theorem V1 (k:Int) (am:List UInt8) (la:Bool) (nm:List (List UInt8)) (b:Int):(clz k am la nm b).2.1=am:=by
 unfold clz
 split; · rfl
 split; · rfl
 split; · rfl
 split; · rfl
 split; · rfl
 split <;> rfl
theorem SA (k:Int) (am:List UInt8) (la:Bool) (nm:List (List UInt8)) (b:Int):(clz k am la nm b).2.2.2.1=nm\/(clz k am la nm b).2.2.2.1=[]:=by
 unfold clz
 split; · exact .inl rfl
 split; · exact .inr rfl
 split; · exact .inr rfl
 split; · exact .inl rfl
 split; · exact .inl rfl
 split <;> exact .inr rfl
theorem Wb (pre:List AE) (k:Int) (am:List UInt8) (la:Bool) (nm:List (List UInt8)) (b:Int) (h1:1<=k) (h2:k<=10) (hb:u8 b) (ha:k=1->am=[]) (hn:ZD nm) (hr:am=[]\/H8 pre am=true/\FJ am=true):chk pre (clz k am la nm b)=0:=by
 unfold chk
 rw [YA k am la nm b h1 h2 hb ha hn,if_neg (by decide),V1]
 have hN:((clz k am la nm b).2.2.2.1.any fun s=>!FJ s)=false:=by
  rcases SA k am la nm b with e | e <;> rw [e]
  ·exact hn.2.2.1
  ·rfl
 have hD:Ti (clz k am la nm b).2.2.2.1 (clz k am la nm b).2.2.2.1 0=false:=by
  rcases SA k am la nm b with e | e <;> rw [e]
  ·exact hn.2.2.2.1
  ·rfl
 rw [hN,hD]
 rcases hr with rfl | ⟨h3,h4⟩
 ·simp
 ·simp [h3,h4]
theorem Wc (k:Int) (am:List UInt8) (la:Bool) (nm:List (List UInt8)) (b:Int) (ha:am.length<=40) (hn:ZD nm):Wl (clz k am la nm b):=by
 refine ⟨by rw [V1]; exact ha,?_,?_⟩
 ·rcases SA k am la nm b with e | e <;> rw [e]
  ·have:=hn.2.1; omega
  ·simp
 ·rcases SA k am la nm b with e | e <;> rw [e]
  ·exact hn.2.2.2.2
  ·simp
theorem YX {a:Int}(h:u8 a):1<=wr .u8 (1 + a.tmod 10)/\wr .u8 (1 + a.tmod 10)<=10:=by
 rw [Int.tmod_eq_emod_of_nonneg h.1]
 have e:wr .u8 (1 + a % 10)=(1 + a % 10) % 256:=rfl
 rw [e]
 omega
def QV (v:Int×Int×Int×Bool×Bool):Prop:=u8 v.1/\u8 v.2.1/\u8 v.2.2.1
/-- What the loop keeps. -/
def VL (c2:List AE) (c3:List UInt8):Prop:=JB [] c2/\(∀ x ∈ c2,Wl x)/\(c3=[]\/(H8 c2 c3=true/\FJ c3=true/\c3.length<=40))
theorem T1 {c2:List AE}{c3:List UInt8}(h:VL c2 c3) (v:Int×Int×Int×Bool×Bool) (hv:QV v) (am:List UInt8) (ham:am=[]\/am=c3) (hk1:wr .u8 (1 + v.1.tmod 10)=1->am=[]) (w:List UInt8) (r:List (List UInt8)) (hw:nms v=w::r) :
  VL (c2++[clz (wr .u8 (1 + v.1.tmod 10)) am v.2.2.2.1 (w::r) v.2.1]) (if wr .u8 (1 + v.1.tmod 10)=1 then w else c3):=by
 obtain ⟨g1,g2,g3⟩:=h
 obtain ⟨k1,k2⟩:=YX hv.1
 obtain ⟨n1,r',n2⟩:=UF v hv.2.2
 rw [hw] at n1
 have ha:am=[]\/H8 c2 am=true/\FJ am=true:=by
  rcases ham with e | e
  ·exact .inl e
  ·rcases g3 with g3 | ⟨q1,q2,_⟩
   ·exact .inl (e.trans g3)
   ·rw [e]; exact .inr ⟨q1,q2⟩
 have ha40:am.length<=40:=by
  rcases ham with e | e
  ·rw [e]; simp
  ·rcases g3 with g3 | ⟨_,_,q3⟩
   ·rw [e,g3]; simp
   ·rw [e]; exact q3
 refine ⟨(KU _ _ _).2 ⟨g1,Wb _ _ _ _ _ _ k1 k2 hv.2.1 hk1 n1 ha,trivial⟩,fun x hx=>?_,?_⟩
 ·rcases List.mem_append.1 hx with hx | hx
  ·exact g2 x hx
  ·rw [List.mem_singleton.1 hx]
   exact Wc _ _ _ _ _ ha40 n1
 ·by_cases hk:wr .u8 (1 + v.1.tmod 10)=1
  ·rw [if_pos hk]
   refine .inr ⟨?_,?_,n1.2.2.2.2 w (by simp)⟩
   ·rw [PP,hk]
    have:H8 [clz 1 am v.2.2.2.1 (w::r) v.2.1] w=true:=by
     unfold H8 clz GM
     simp
    rw [this]; simp
   ·have:=n1.2.2.1
    simp at this
    exact this.1
  ·rw [if_neg hk]
   rcases g3 with g3 | ⟨q1,q2,q3⟩
   ·exact .inl g3
   ·exact .inr ⟨by rw [PP,q1]; simp,q2,q3⟩
theorem T7 (x0:List (Int×Int×Int×Bool×Bool)) (ys:List (Int×Int×Int×Bool×Bool)) (hys:((x0.take (mnI (x0.length:Int) 8).toNat).drop (0:Int).toNat)=ys) (hb:∀ v ∈ ys,QV v) (h8:ys.length<=8):∀ (r pre:List (Int×Int×Int×Bool×Bool)) (c2:List AE) (c3:List UInt8) (f:Nat),ys=pre++r->r.length < f->c2.length=pre.length->VL c2 c3 ->
  ∃ c c3',EQ x0 f c2 c3 (pre.length:Int)=some c/\VL c c3'/\c.length=ys.length
 | [],pre,c2,c3,f + 1,e,_,hl,hk=>by
  refine ⟨c2,c3,?_,hk,by rw [hl,e]; simp⟩
  unfold EQ
  rw [hys,if_neg (by rw [e]; simp)]
 | v::r,pre,c2,c3,f + 1,e,hf,hl,hk=>by
  have hv:=hb v (by rw [e]; simp)
  have hl2:ys.length=pre.length + r.length + 1:=by rw [e]; simp; omega
  simp only [List.length_cons] at hf
  obtain ⟨p1,p2⟩:=tm4 hv.2.2
  obtain ⟨d1,d2⟩:=Wf p1 p2
  obtain ⟨k1,k2⟩:=YX hv.1
  obtain ⟨n1,r',n2⟩:=UF v hv.2.2
  have hstep:∃ am,(am=[]\/am=c3)/\(wr .u8 (1 + v.1.tmod 10)=1->am=[])/\((if v.2.2.2.2=true then some (c2,v.1,v.2.1,v.2.2.1,v.2.2.2.1,true,(wr .u8 (1 + (v.1.tmod 10))),([]:List UInt8),false,(0:Int),nms v,((wr .u8 (1 + (v.1.tmod 10)))!=1)) else some (c2,v.1,v.2.1,v.2.2.1,v.2.2.2.1,false,(wr .u8 (1 + (v.1.tmod 10))),([]:List UInt8),false,(0:Int),nms v,false)).bind fun j27=>Fs x0 c3 (pre.length:Int) j27)=some (c2,v.1,v.2.1,v.2.2.1,v.2.2.2.1,v.2.2.2.2,(wr .u8 (1 + (v.1.tmod 10))),am,false,(0:Int),nms v):=by
   cases ht:v.2.2.2.2 with
   | false=>exact ⟨[],.inl rfl,fun _=>rfl,rfl⟩
   | true =>
    by_cases h1:wr .u8 (1 + v.1.tmod 10)=1
    ·refine ⟨[],.inl rfl,fun _=>rfl,?_⟩
     rw [if_pos rfl,OS]
     unfold Fs
     rw [if_neg (by simp [h1])]
    ·refine ⟨c3,.inr rfl,fun q=>absurd q h1,?_⟩
     rw [if_pos rfl,OS]
     unfold Fs
     rw [if_pos (by simpa using h1)]
  obtain ⟨am,ham,hk1,hj⟩:=hstep
  have hm4:Gv x0 c3 (pre.length:Int) (c2,v.1,v.2.1,v.2.2.1,v.2.2.2.1,v.2.2.2.2,(wr .u8 (1 + (v.1.tmod 10))),am,false,(0:Int),nms v)=some (c2,(if wr .u8 (1 + v.1.tmod 10)=1 then wd (v.2.2.1.tmod 4) else c3),clz (wr .u8 (1 + v.1.tmod 10)) am v.2.2.2.1 (nms v) v.2.1):=by
   rw [n2]
   exact Yf x0 c2 c3 _ _ _ _ _ _ _ am _ _ k1 k2
  have hks:=T1 hk v hv am ham hk1 _ _ n2
  obtain ⟨c,c3',q1,q2,q3⟩:=T7 x0 ys hys hb h8 r (pre++[v]) _ _ f (by rw [e]; simp) (by omega) (by simp [hl]) hks
  refine ⟨c,c3',?_,q2,q3⟩
  rw [<-q1]
  conv=>lhs; unfold EQ
  rw [hys,if_pos (by rw [e]; exact HS pre v r),show idx ys (pre.length:Int)=some v by rw [e,Do],OS,if_pos d1,if_pos d2,Ye x0 c2 c3 _ v hv.2.2,OS]
  rw [<-Option.bind_assoc,hj,OS,hm4,OS]
  dsimp only
  rw [if_pos (D8 (by omega) (by omega)),FV pre v r (by rw [<-e]; omega),n2]
theorem XF (x0:List (Int×Int×Int×Bool×Bool)) (hb:∀ v ∈ x0,QV v):∃ c,ID x0=some c/\few c/\JB [] c/\c.length<=8:=by
 have hm:0<=mnI (x0.length:Int) 8/\mnI (x0.length:Int) 8<=8/\mnI (x0.length:Int) 8<=x0.length:=by
  unfold mnI
  split <;> omega
 have h8:((x0.take (mnI (x0.length:Int) 8).toNat).drop (0:Int).toNat).length<=8:=by
  rw [List.length_drop,List.length_take]; omega
 obtain ⟨c,c3,h1,h2,h3⟩:=T7 x0 _ rfl (fun v hv=>hb v (List.mem_of_mem_take (List.mem_of_mem_drop hv))) h8 _ [] [] [] 100000 rfl (Nat.lt_of_le_of_lt h8 (by decide)) rfl ⟨trivial,fun x hx=>by simp at hx,.inl rfl⟩
 refine ⟨c,?_,⟨by omega,h2.2.1⟩,h2.1,by omega⟩
 unfold ID
 rw [if_pos (by unfold DK; simp; omega)]
 have e:EQ x0 100000 [] [] 0=some c:=h1
 rw [e]; rfl
/-- The decision of a merged text. -/
theorem NZ (a b:Aq) (i j:Int) (x:AE) (r:List AE) (k:Nat):rsn a b i j (x::r) k=if dir x a b i j=0 then rsn a b i j r (k + 1) else .inr ((k:Int),dir x a b i j):=rfl
theorem UR (a b:Aq) (i j:Int):∀ (c d:List AE) (k:Nat),rsn a b i j (c++d) k=match rsn a b i j c k with | .inl _=>rsn a b i j d (k + c.length) | .inr w=> .inr w
 | [],d,k=>rfl
 | x::c,d,k=>by
  rw [List.cons_append,NZ,NZ]
  by_cases h:dir x a b i j=0
  ·rw [if_pos h,if_pos h,UR a b i j c d (k + 1),List.length_cons,show k + 1 + c.length=k + (c.length + 1) by omega]
  ·rw [if_neg h,if_neg h]
theorem US (a b:Aq) (i j:Int):∀ (c:List AE) (k:Nat),(∃ u,rsn a b i j c k = .inl u)\/∃ w,rsn a b i j c k = .inr w/\w.2≠0
 | [],k=> .inl ⟨(),rfl⟩
 | x::c,k=>by
  unfold rsn
  by_cases h:dir x a b i j=0
  ·rw [if_pos h]; exact US a b i j c (k + 1)
  ·rw [if_neg h]; exact .inr ⟨_,rfl,h⟩
theorem Yr (a b:Aq) (i j:Int):∀ (c:List AE) (k q:Nat),(match rsn a b i j c k with | .inl _=>(0:Int) | .inr w=>w.2)=(match rsn a b i j c q with | .inl _=>(0:Int) | .inr w=>w.2)
 | [],_,_=>rfl
 | x::c,k,q=>by
  unfold rsn
  by_cases h:dir x a b i j=0
  ·rw [if_pos h,if_pos h]; exact Yr a b i j c (k + 1) (q + 1)
  ·rw [if_neg h,if_neg h]
def PG (c:List AE) (a b:Aq) (i j:Int):Int:=(WF c a b i j).2
theorem Ni (c:List AE) (a b:Aq) (i j:Int):PG c a b i j=match rsn a b i j c 0 with | .inl _=>(0:Int) | .inr w=>w.2:=by
 unfold PG WF
 cases rsn a b i j c 0 <;> rfl
theorem TZ (c d:List AE) (a b:Aq) (i j:Int):PG (c++d) a b i j=if PG c a b i j=0 then PG d a b i j else PG c a b i j:=by
 rw [Ni,Ni,Ni,UR]
 rcases US a b i j c 0 with ⟨u,h⟩ | ⟨w,h,hw⟩
 ·rw [h]
  simp only [if_true]
  exact Yr a b i j d _ _
 ·rw [h]
  simp only [hw,if_false]
theorem We (c:List AE) (a b:Aq) (i j:Int) (h:few c) (hl:c.length<=32) (hg:JB [] c) (ha:Ot a) (hb:Ot b):C1 c a b i j=some (PG c a b i j):=by
 rw [Te c a b i j h ha hb,Ty hl hg,if_pos rfl]; rfl
/-- -1, 0 or 1, turned round with its arguments, and a chain decides by its least. -/
structure Wk3 {α:Type} (f:α->α->Int):Prop where
 v:∀ a b,f a b = -1\/f a b=0\/f a b=1
 s:∀ a b,f a b = - f b a
 t:∀ a b c,f a b<=0->f b c<=0->f a c=min (f a b) (f b c)
theorem QG {α:Type}(k:α->Int):Wk3 (fun a b=>J1 (k a) (k b)):=by
 refine ⟨fun a b=>?_,fun a b=>?_,fun a b c h1 h2=>?_⟩
 ·unfold J1; split
  ·exact .inl rfl
  ·split
   ·exact .inr (.inr rfl)
   ·exact .inr (.inl rfl)
 ·unfold J1; split <;> split <;> first | rfl | omega | (split <;> first | rfl | omega)
 ·(try dsimp only at h1 h2 ⊢)
  unfold J1 at *
  split at h1 <;> split at h2 <;> first | (split at h1 <;> first | omega | skip) | skip
  all_goals first | (split at h2 <;> first | omega | skip) | skip
  all_goals (split <;> first | omega | skip)
  all_goals first | rfl | omega | (split <;> first | rfl | omega)
theorem R7:∀ (x:List UInt8),Go.Op.bytesLess x x=false
 | []=>rfl
 | a::x=>by
  show (decide (a < a)||(a==a&&Go.Op.bytesLess x x))=false
  rw [R7 x]; simp
theorem Pe:∀ (x y z:List UInt8),Go.Op.bytesLess x y=true->Go.Op.bytesLess y z=true->Go.Op.bytesLess x z=true
 | x,[],_,h,_=>by cases x <;> cases h
 | _,_::_,[],_,h=>by cases h
 | [],_::_,_::_,_,_=>rfl
 | a::x,b::y,c::z,h1,h2=>by
  have h1':(decide (a < b)||(a==b&&Go.Op.bytesLess x y))=true:=h1
  have h2':(decide (b < c)||(b==c&&Go.Op.bytesLess y z))=true:=h2
  show (decide (a < c)||(a==c&&Go.Op.bytesLess x z))=true
  simp only [Bool.or_eq_true,Bool.and_eq_true,decide_eq_true_eq,beq_iff_eq] at h1' h2' ⊢
  rcases h1' with q1 | ⟨rfl,q1⟩ <;> rcases h2' with q2 | ⟨rfl,q2⟩
  ·exact .inl (UInt8.lt_trans q1 q2)
  ·exact .inl q1
  ·exact .inl q2
  ·exact .inr ⟨rfl,Pe x y z q1 q2⟩
theorem Xf {α:Type}(k:α->List UInt8):Wk3 (fun a b=>RH (k a) (k b)):=by
 have val:∀ x y:List UInt8,(Go.Op.bytesLess x y=true/\RH x y = -1)\/(x=y/\RH x y=0)\/(Go.Op.bytesLess y x=true/\RH x y=1):=fun x y=>by
  unfold RH
  cases h:Go.Op.bytesLess x y with
  | true=>exact .inl ⟨rfl,rfl⟩
  | false =>
   have:=Pd x y h
   cases he:(x==y) with
   | true=>exact .inr (.inl ⟨by simpa using he,rfl⟩)
   | false=>exact .inr (.inr ⟨by rw [this,he]; rfl,rfl⟩)
 have asy:∀ x y:List UInt8,Go.Op.bytesLess x y=true->Go.Op.bytesLess y x=true->False:=fun x y h1 h2=>by
  have:=Pe x y x h1 h2
  rw [R7] at this
  cases this
 refine ⟨fun a b=>?_,fun a b=>?_,fun a b c h1 h2=>?_⟩
 ·rcases val (k a) (k b) with ⟨_,h⟩ | ⟨_,h⟩ | ⟨_,h⟩
  ·exact .inl h
  ·exact .inr (.inl h)
  ·exact .inr (.inr h)
 ·(try dsimp only)
  rcases val (k a) (k b) with ⟨p,h⟩ | ⟨p,h⟩ | ⟨p,h⟩ <;> rcases val (k b) (k a) with ⟨q,g⟩ | ⟨q,g⟩ | ⟨q,g⟩ <;> rw [h,g] <;> first | rfl | (exfalso; first | exact asy _ _ p q | (rw [q,R7] at p; cases p) | (rw [p,R7] at q; cases q))
 ·(try dsimp only at h1 h2 ⊢)
  rcases val (k a) (k b) with ⟨p,h⟩ | ⟨p,h⟩ | ⟨p,h⟩ <;> rcases val (k b) (k c) with ⟨q,g⟩ | ⟨q,g⟩ | ⟨q,g⟩ <;> first | (rw [h] at h1; exact absurd h1 (by decide)) | (rw [g] at h2; exact absurd h2 (by decide)) | skip
  ·rw [h,g]
   have:=Pe _ _ _ p q
   unfold RH
   rw [if_pos this]; rfl
  ·rw [h,g,<-q,h]; rfl
  ·rw [h,g,p,g]; rfl
  ·rw [h,g,p,g]; rfl
theorem WJ {α:Type}(y:Bool) (k:α->Int):Wk3 (fun a b=>snc y (k a) (k b)):=by
 have val:∀ s t:Int,snc y s t=if s=0 then (if t=0 then 0 else 1) else if t=0 then -1 else if y=true then J1 t s else J1 s t:=fun s t=>by
  rw [UV]
  unfold J1
  by_cases hs:s=0 <;> by_cases ht:t=0
  ·simp [hs,ht]
  ·simp [hs,ht]
  ·simp [hs,ht]
  ·cases y <;> simp [hs,ht]
 refine ⟨fun a b=>?_,fun a b=>?_,fun a b c h1 h2=>?_⟩
 ·(try dsimp only)
  rw [val]
  unfold J1
  split
  ·split
   ·exact .inr (.inl rfl)
   ·exact .inr (.inr rfl)
  ·split
   ·exact .inl rfl
   ·split <;> (split; · exact .inl rfl) <;> (split; · exact .inr (.inr rfl)) <;> exact .inr (.inl rfl)
 ·(try dsimp only)
  rw [val,val]
  unfold J1
  cases y <;> simp only [if_true,if_false,Bool.false_eq_true] <;> (repeat' split) <;> first | rfl | omega
 ·(try dsimp only at h1 h2 ⊢)
  rw [val] at h1 h2
  rw [val,val,val]
  unfold J1 at *
  cases y <;> simp only [if_true,if_false,Bool.false_eq_true] at h1 h2 ⊢ <;> (repeat' split at h1) <;> (repeat' split at h2) <;> first | omega | ((repeat' split) <;> first | rfl | omega)
/-- A second order where a first one ties. -/
theorem Y3 {α:Type}{f g:α->α->Int}(hf:Wk3 f) (gv:∀ a b,g a b = -1\/g a b=0\/g a b=1) (gs:∀ a b,g a b = - g b a)
  (gt:∀ a b c,f a b=0->f b c=0->g a b<=0->g b c<=0->g a c=min (g a b) (g b c)):Wk3 (fun a b=>if f a b=0 then g a b else f a b):=by
 refine ⟨fun a b=>?_,fun a b=>?_,fun a b c h1 h2=>?_⟩
 ·show (if f a b=0 then g a b else f a b) = -1\/_
  split
  ·exact gv a b
  ·exact hf.v a b
 ·show (if f a b=0 then g a b else f a b) = - (if f b a=0 then g b a else f b a)
  have:=hf.s a b
  by_cases h:f b a=0
  ·rw [if_pos h,if_pos (by omega)]; exact gs a b
  ·rw [if_neg h,if_neg (by omega)]; exact this
 ·have h1':(if f a b=0 then g a b else f a b)<=0:=h1
  have h2':(if f b c=0 then g b c else f b c)<=0:=h2
  show (if f a c=0 then g a c else f a c)=min (if f a b=0 then g a b else f a b) (if f b c=0 then g b c else f b c)
  have ab:=hf.v a b
  have bc:=hf.v b c
  have gab:=gv a b
  have gbc:=gv b c
  by_cases x:f a b=0 <;> by_cases y:f b c=0
  ·have:=hf.t a b c (by omega) (by omega)
   rw [if_pos x] at h1' ⊢
   rw [if_pos y] at h2' ⊢
   rw [if_pos (by omega)]
   exact gt a b c x y h1' h2'
  ·rw [if_pos x] at h1' ⊢
   rw [if_neg y] at h2' ⊢
   have:=hf.t a b c (by omega) (by omega)
   rw [if_neg (by omega)]
   omega
  ·rw [if_neg x] at h1' ⊢
   rw [if_pos y] at h2' ⊢
   have:=hf.t a b c (by omega) (by omega)
   rw [if_neg (by omega)]
   omega
  ·rw [if_neg x] at h1' ⊢
   rw [if_neg y] at h2' ⊢
   have:=hf.t a b c (by omega) (by omega)
   rw [if_neg (by omega)]
   omega
/-- A guest at a place of the row. -/
abbrev At:={ p:Aq×Int // LT p.2=true }
theorem Y4 (x:AE):Wk3 (fun a b:At=>NI x a.1.1 b.1.1 a.1.2 b.1.2):=by
 have e:(fun a b:At=>NI x a.1.1 b.1.1 a.1.2 b.1.2)=fun a b:At =>
   if (x.1==1)=true then J1 (rk x.2.2.2.1 a.1.1.2.1) (rk x.2.2.2.1 b.1.1.2.1) else
   if (x.1==2)=true then snc false a.1.1.2.2.2.1 b.1.1.2.2.2.1 else
   if (x.1==3)=true then snc true a.1.1.2.2.2.1 b.1.1.2.2.2.1 else
   if (x.1==8)=true then RH a.1.1.1 b.1.1.1 else
   if (x.1==9)=true then J1 a.1.2 b.1.2 else
   if (x.1==10)=true then J1 (kyI a.1.2 x.2.2.2.2) (kyI b.1.2 x.2.2.2.2) else
   J1 (nv x a.1.1) (nv x b.1.1):=by
  funext a b
  unfold NI
  rw [a.2,b.2]
  simp only [Bool.not_true,Bool.or_self,Bool.false_eq_true,if_false]
 rw [e]
 by_cases h1:(x.1==1)=true
 ·simp only [h1,if_true]; exact QG (fun a:At=>rk x.2.2.2.1 a.1.1.2.1)
 by_cases h2:(x.1==2)=true
 ·simp only [h1,h2,if_true,if_false,Bool.false_eq_true]; exact WJ false (fun a:At=>a.1.1.2.2.2.1)
 by_cases h3:(x.1==3)=true
 ·simp only [h1,h2,h3,if_true,if_false,Bool.false_eq_true]; exact WJ true (fun a:At=>a.1.1.2.2.2.1)
 by_cases h8:(x.1==8)=true
 ·simp only [h1,h2,h3,h8,if_true,if_false,Bool.false_eq_true]; exact Xf (fun a:At=>a.1.1.1)
 by_cases h9:(x.1==9)=true
 ·simp only [h1,h2,h3,h8,h9,if_true,if_false,Bool.false_eq_true]; exact QG (fun a:At=>a.1.2)
 by_cases h10:(x.1==10)=true
 ·simp only [h1,h2,h3,h8,h9,h10,if_true,if_false,Bool.false_eq_true]; exact QG (fun a:At=>kyI a.1.2 x.2.2.2.2)
 ·simp only [h1,h2,h3,h8,h9,h10,if_false,Bool.false_eq_true]; exact QG (fun a:At=>nv x a.1.1)
theorem UN (s:List UInt8):∀ (l:List (List UInt8)) (i:Nat),i<=rkN s l i
 | [],i=>Nat.le_refl i
 | v::r,i=>by
  unfold rkN
  split
  ·exact Nat.le_refl i
  ·have:=UN s r (i + 1); omega
theorem Rk (s t:List UInt8):∀ (l:List (List UInt8)) (i:Nat),GM l s=true->rkN s l i=rkN t l i->t=s
 | [],_,h,_=>by cases h
 | v::r,i,h,e=>by
  have h':((s==v)||GM r s)=true:=h
  unfold rkN at e
  by_cases hs:(s==v)=true
  ·rw [if_pos hs] at e
   by_cases ht:(t==v)=true
   ·rw [beq_iff_eq] at hs ht; rw [hs,ht]
   ·rw [if_neg ht] at e
    have:=UN t r (i + 1)
    omega
  ·rw [if_neg hs] at e
   by_cases ht:(t==v)=true
   ·rw [if_pos ht] at e
    have:=UN s r (i + 1)
    omega
   ·rw [if_neg ht] at e
    have h2:GM r s=true:=by
     cases hq:(s==v) with
     | true=>exact absurd hq hs
     | false=>rwa [hq,Bool.false_or] at h'
    exact Rk s t r (i + 1) h2 e
theorem Zk {x:AE}(h:fm x=true) (hk:(x.1==1)=true):x.2.1=[]:=by
 unfold fm A3 at h
 rw [if_pos hk] at h
 cases hb:A8 (x.2.2.2.1.length:Int) 1 16 with
 | none=>rw [hb] at h; cases h
 | some v =>
  rw [hb,OS] at h
  cases v with
  | false=>cases h
  | true =>
   by_cases h2:(x.2.2.2.2==0)=true
   ·by_cases h3:(!x.2.2.1)=true
    ·rw [if_pos rfl,if_pos h2,if_pos h3] at h
     simpa using h
    ·rw [if_pos rfl,if_pos h2,if_neg h3] at h; cases h
   ·rw [if_pos rfl,if_neg h2] at h; cases h
theorem X9 {pre:List AE}{x:AE}(h:chk pre x=0):fm x=true:=by
 unfold chk at h
 split at h
 ·cases h
 ·next h1=>simpa using h1
theorem X8 {pre:List AE}{x:AE}(h:chk pre x=0):x.2.1=[]\/H8 pre x.2.1=true:=by
 unfold chk at h
 split at h
 ·cases h
 split at h
 ·cases h
 split at h
 ·cases h
 split at h
 ·next h4=>exact h4
 ·cases h
theorem Qh:∀ (c pre:List AE),JB pre c->∀ x ∈ c,fm x=true
 | y::r,pre,h,x,hx=>by
  rcases List.mem_cons.1 hx with e | e
  ·rw [e]; exact X9 h.1
  ·exact Qh r _ h.2 x e
/-- Ties of a text tie every clause of it. -/
theorem Tb (a b:Aq) (i j:Int):∀ (c:List AE) (k:Nat),rsn a b i j c k = .inl ()->∀ x ∈ c,dir x a b i j=0
 | y::r,k,h,x,hx=>by
  rw [NZ] at h
  by_cases q:dir y a b i j=0
  ·rw [if_pos q] at h
   rcases List.mem_cons.1 hx with e | e
   ·rw [e]; exact q
   ·exact Tb a b i j r (k + 1) h x e
  ·rw [if_neg q] at h; cases h
theorem U1 {c:List AE}{a b:Aq}{i j:Int}(h:PG c a b i j=0):∀ x ∈ c,dir x a b i j=0:=by
 rw [Ni] at h
 rcases US a b i j c 0 with ⟨u,e⟩ | ⟨w,e,hw⟩
 ·exact Tb a b i j c 0 e
 ·rw [e] at h; exact absurd h hw
theorem YB {x y:Int}(h:J1 x y=0):x=y:=by
 unfold J1 at h
 split at h
 ·cases h
 split at h
 ·cases h
 ·omega
/-- A text that ranks a rank ties nobody of it with anybody of another rank. -/
theorem Sg {c:List AE}{s:List UInt8}(hc:∀ x ∈ c,fm x=true) (hr:H8 c s=true){a b:Aq}{i j:Int}(h:PG c a b i j=0):(a.2.1==s)=(b.2.1==s):=by
 unfold H8 at hr
 obtain ⟨y,hy,e⟩:=List.any_eq_true.1 hr
 rw [Bool.and_eq_true] at e
 have hd:=U1 h y hy
 have ham:=Zk (hc y hy) e.1
 unfold dir amB at hd
 rw [ham,if_neg (by simp)] at hd
 unfold NI at hd
 rw [if_pos e.1] at hd
 have hk:=YB hd
 unfold rk at hk
 have hn:rkN a.2.1 y.2.2.2.1 0=rkN b.2.1 y.2.2.2.1 0:=by omega
 by_cases ha:a.2.1=s
 ·have hb:=Rk a.2.1 b.2.1 _ 0 (by rw [ha]; exact e.2) hn
  rw [hb]
 ·by_cases hb:b.2.1=s
  ·have:=Rk b.2.1 a.2.1 _ 0 (by rw [hb]; exact e.2) hn.symm
   exact absurd (this.trans hb) ha
  ·rw [beq_eq_false_iff_ne.2 ha,beq_eq_false_iff_ne.2 hb]
theorem X1 (x:AE) (a b:Aq):amB x a b=amB x b a:=by
 unfold amB
 cases (x.2.1==[]) <;> cases (a.2.1==x.2.1) <;> cases (b.2.1==x.2.1) <;> rfl
theorem Ta (x:AE) (a b:Aq) (i j:Int):PG [x] a b i j=dir x a b i j:=by
 rw [Ni,NZ]
 by_cases h:dir x a b i j=0
 ·rw [if_pos h,h]; rfl
 ·rw [if_neg h]
theorem Uf:∀ (c pre:List AE),JB [] (pre++c)->Wk3 (fun a b:At=>PG pre a.1.1 b.1.1 a.1.2 b.1.2)->Wk3 (fun a b:At=>PG (pre++c) a.1.1 b.1.1 a.1.2 b.1.2)
 | [],pre,_,h=>by rw [List.append_nil]; exact h
 | x::r,pre,hg,h=>by
  have e:pre++x::r=(pre++[x])++r:=by simp
  rw [e] at hg ⊢
  refine Uf r (pre++[x]) hg ?_
  have hgx:=(KU (pre++[x]) [] r).1 hg
  have hp:=(KU pre [] [x]).1 hgx.1
  have hchk:chk pre x=0:=by simpa using hp.2.1
  have hfm:=Qh pre [] hp.1
  have ho:=Y4 x
  have hx:(fun a b:At=>PG (pre++[x]) a.1.1 b.1.1 a.1.2 b.1.2)=fun a b:At=>if PG pre a.1.1 b.1.1 a.1.2 b.1.2=0 then dir x a.1.1 b.1.1 a.1.2 b.1.2 else PG pre a.1.1 b.1.1 a.1.2 b.1.2:=by
   funext a b
   rw [TZ,Ta]
  rw [hx]
  refine Y3 h (fun a b=>?_) (fun a b=>?_) (fun a b c h1 h2=>?_)
  ·unfold dir
   split
   ·exact .inr (.inl rfl)
   ·exact ho.v a b
  ·unfold dir
   rw [X1 x b.1.1 a.1.1]
   split
   ·rfl
   ·exact ho.s a b
  ·unfold dir
   rcases X8 hchk with ha | ha
   ·have q:∀ u v:Aq,amB x u v=false:=fun u v=>by unfold amB; rw [ha]; rfl
    rw [q,q,q,if_neg (by decide),if_neg (by decide),if_neg (by decide)]
    exact ho.t a b c
   ·have t1:=Sg hfm ha h1
    have t2:=Sg hfm ha h2
    unfold amB
    rw [<-t2,<-t1]
    cases (!(x.2.1==[]))
    ·exact ho.t a b c
    ·cases (a.1.1.2.1==x.2.1)
     ·intro _ _; rfl
     ·exact ho.t a b c
theorem Vs (c:List AE) (hg:JB [] c):Wk3 (fun a b:At=>PG c a.1.1 b.1.1 a.1.2 b.1.2) :=
 Uf c [] hg ⟨fun _ _=> .inr (.inl rfl),fun _ _=>rfl,fun _ _ _ _ _=>rfl⟩
/- trestle/court.list -/
noncomputable def Uz:Code:=Bo Tryz.f79
def Lp (x0:(List Aq)):Nat->(List AL)->Int->Option (((List AL)))
 | 0,_,_=>none
 | f + 1,c1,c2 =>
  if (decide (c2 < (x0.length:Int)))=true then
  (idx x0 c2).bind fun v4 =>
  if (Dj 120 (c1.length + 1))=true then
  Lp x0 f (c1++[(v4,c2)]) (wr .i64 (c2 + 1))
  else none
  else
  some c1
def Xk (x0:(List Aq)):Option ((List AL)) :=
 (Lp x0 100000 [] 0).bind fun r7 =>
 some r7
/- trestle/court.table -/
/- trestle/trestleref03.Goes -/
def Ky (x0:(List AE)) (x1:(List Aq)) (x2:Int) (x3:Int):Option (Bool) :=
 (idx x1 x2).bind fun v1 =>
 (idx x1 x3).bind fun v2 =>
 (Ka x0 v1 v2 x2 x3).bind fun v3 =>
 some (decide (v3.2 < 0))
/- trestle/trestleref03.votes -/
/- trestle/trestleref03.Votes -/
/- trestle/trestleref03.Valid -/
/- trestle/trestleref03.AllValid -/
/-- A loop whose states are known. -/
theorem AAC {σ ρ:Type}(n:Nat) (S:Nat->σ) (R:Option ρ) (L:Nat->Int->σ->Option ρ) (hn:n<=1000000) (hs:∀ i,i < n->∀ f,L (f + 1) (i:Int) (S i)=L f (wr .i64 ((i:Int) + 1)) (S (i + 1))) (he:∀ f,L (f + 1) (n:Int) (S n)=R):∀ (d i f:Nat),i + d=n->d < f->L f (i:Int) (S i)=R
 | 0,i,f + 1,e,_=>by
  rw [show i=n by omega]
  exact he f
 | d + 1,i,f + 1,e,hf=>by
  rw [hs i (by omega) f,QI (by omega) (by omega),show ((i:Int) + 1)=((i + 1:Nat):Int) by omega]
  exact AAC n S R L hn hs he d (i + 1) f (by omega) (by omega)
theorem QU {σ ρ:Type}(n:Nat) (S:Nat->σ) (R:Option ρ) (L:Nat->Int->σ->Option ρ) (hn:n<=99999) (hs:∀ i,i < n->∀ f,L (f + 1) (i:Int) (S i)=L f (wr .i64 ((i:Int) + 1)) (S (i + 1))) (he:∀ f,L (f + 1) (n:Int) (S n)=R):L 100000 0 (S 0)=R :=
 AAC n S R L (by omega) hs he n 0 100000 (by omega) (by omega)
theorem YE {σ ρ:Type}(n lo:Nat) (S:Nat->σ) (R:Option ρ) (L:Nat->Int->σ->Option ρ) (hn:n<=1000000) (hs:∀ i,lo<=i->i < n->∀ f,L (f + 1) (i:Int) (S i)=L f (wr .i64 ((i:Int) + 1)) (S (i + 1))) (he:∀ f,L (f + 1) (n:Int) (S n)=R):∀ (d i f:Nat),lo<=i->i + d=n->d < f->L f (i:Int) (S i)=R
 | 0,i,f + 1,_,e,_=>by
  rw [show i=n by omega]
  exact he f
 | d + 1,i,f + 1,hi,e,hf=>by
  rw [hs i hi (by omega) f,QI (by omega) (by omega),show ((i:Int) + 1)=((i + 1:Nat):Int) by omega]
  exact YE n lo S R L hn hs he d (i + 1) f (by omega) (by omega) (by omega)
/-- A valid text, as it is checked. -/
theorem QT (c:List AE):∀ (r pre:List AE),c=pre++r->(∃ u,R9 c r pre.length = .inl u)->JB pre r
 | [],_,_,_=>trivial
 | x::r,pre,e,⟨u,h⟩=>by
  unfold R9 at h
  rw [show c.take pre.length=pre by rw [e]; simp] at h
  by_cases hx:chk pre x=0
  ·rw [if_neg (by simpa using hx)] at h
   exact ⟨hx,QT c r (pre++[x]) (by rw [e]; simp) ⟨u,by simpa using h⟩⟩
  ·rw [if_pos hx] at h; cases h
theorem IQ {c:List AE}(h:(Kt c).2=0):c.length<=32/\JB [] c:=by
 unfold Kt at h
 split at h
 ·cases h
 ·next hl =>
  refine ⟨by omega,QT c c [] rfl ?_⟩
  rcases Ph c c 0 with ⟨u,h1,_⟩ | ⟨w,h1,h2⟩
  ·exact ⟨u,h1⟩
  ·rw [h1] at h; exact absurd h h2
theorem VY (c:List AE) (h:few c):EO c=some (if (Kt c).2=0 then (c,true) else ([],false)):=by
 unfold EO
 rw [RG c h,OS]
 by_cases hv:(Kt c).2=0
 ·have e0:C2 c 100000 [] 0=some c:=N8 c h (Lc hv) c [] 100000 rfl (by have:=h.1; omega)
  rw [if_neg (by simpa using hv),if_pos hv,e0]; rfl
 ·rw [if_pos (by simpa using hv),if_neg hv]
/-- Guests at their places. -/
def FX:List Aq->Nat->List AL
 | [],_=>[]
 | g::r,i=>(g,(i:Int))::FX r (i + 1)
theorem Mj:∀ (g:List Aq) (i:Nat),(FX g i).length=g.length
 | [],_=>rfl
 | _::r,i=>by simp [FX,Mj r (i + 1)]
theorem OA:∀ (g:List Aq) (x:Aq) (i:Nat),FX (g++[x]) i=FX g i++[(x,((i + g.length:Nat):Int))]
 | [],x,i=>by simp [FX]
 | y::r,x,i=>by
  simp only [List.cons_append,FX,OA r x (i + 1),List.length_cons]
  rw [show i + 1 + r.length=i + (r.length + 1) by omega]
/-- What a text says of the guests at two places. -/
def dG:Aq:=([],[],[],0,0,[],false,false,[])
def gAt (g:List Aq) (x:Nat):Aq:=g.getD x dG
def cm (c:List AE) (g:List Aq) (x y:Nat):Int:=PG c (gAt g x) (gAt g y) (x:Int) (y:Int)
theorem YR {x:Nat}(h:x < 64):LT (x:Int)=true:=by simp [LT]; omega
/-- Who sits in a row of at most 64. -/
abbrev Pl:={ x:Nat // x < 64 }
theorem Vr {c:List AE}(g:List Aq) (hg:JB [] c):Wk3 (fun a b:Pl=>cm c g a.1 b.1) :=
 let h:=Vs c hg
 let k:Pl->At:=fun a=>⟨(gAt g a.1,(a.1:Int)),YR a.2⟩
 ⟨fun a b=>h.v (k a) (k b),fun a b=>h.s (k a) (k b),fun a b d=>h.t (k a) (k b) (k d)⟩
theorem AAB {c:List AE}{g:List Aq}(hg:JB [] c){x y:Nat}(hx:x < 64) (hy:y < 64):cm c g x y = -1\/cm c g x y=0\/cm c g x y=1:=(Vr g hg).v ⟨x,hx⟩ ⟨y,hy⟩
theorem AAM {c:List AE}{g:List Aq}(hg:JB [] c){x y:Nat}(hx:x < 64) (hy:y < 64):cm c g x y = - cm c g y x:=(Vr g hg).s ⟨x,hx⟩ ⟨y,hy⟩
/-- Few guests, their places. -/
structure FewR (g:List Aq):Prop where
 n:g.length<=64
 f:∀ x ∈ g,Ot x
theorem FewR.at_ {g:List Aq}(h:FewR g){x:Nat}(hx:x < g.length):Ot (gAt g x):=h.f _ (by unfold gAt; rw [List.getD_eq_getElem?_getD,List.getElem?_eq_getElem hx]; exact List.getElem_mem hx)
theorem S1 (g:List Aq){x:Nat}(hx:x < g.length):idx g (x:Int)=some (gAt g x):=by
 rw [JT hx]; simp [gAt,hx]
theorem UA {α:Type}(n:Nat) (f h:Nat->α) (x:Nat) (v:α) (hx:h x=v) (hn:∀ y,y≠x->h y=f y):((List.range n).map f).set x v=(List.range n).map h:=by
 apply List.ext_getElem?
 intro i
 rw [List.getElem?_set]
 simp only [List.getElem?_map,List.length_map,List.length_range]
 by_cases e:x=i
 ·subst e
  rw [if_pos rfl]
  split
  ·next h1=>rw [List.getElem?_range h1]; simp [hx]
  ·next h1=>rw [List.getElem?_eq_none (by simp; omega)]; rfl
 ·rw [if_neg e]
  by_cases hi:i < n
  ·rw [List.getElem?_range hi]; simp [hn i (Ne.symm e)]
  ·rw [List.getElem?_eq_none (by simp; omega)]; rfl
section
variable {c:List AE}{g:List Aq}(hc:few c) (hv:(Kt c).2=0) (hg:FewR g)
include hc hv hg
theorem VF {x y:Nat}(hx:x < g.length) (hy:y < g.length):∃ k,Ar c (gAt g x,(x:Int)) (gAt g y,(y:Int))=some (k,cm c g x y) :=
 ⟨_,Tm c (gAt g x) (gAt g y) x y hc (Lc hv) (hg.at_ hx) (hg.at_ hy)⟩
end
section
variable {l:List (List AE)}{g:List Aq}(hl:∀ c ∈ l,few c) (hg:FewR g)
include hl hg
end
end Go.Proofs.YtlalcoehgkmhlaaGreatDoor
namespace Go.Proofs.YtlalcoehgkmhlaaGreatDoor
section
variable {α:Type}
theorem PU {lt:α->α->Prop}(irr:∀ a,¬ lt a a) (tr:∀ a b c,lt a b->lt b c->lt a c):∀ (l1 l2:List α),l1.Pairwise lt->l2.Pairwise lt->(∀ x,x ∈ l1↔x ∈ l2)->l1=l2
 | [],[],_,_,_=>rfl
 | [],b::l,_,_,h=>by have:=(h b).2 (by simp); cases this
 | a::l,[],_,_,h=>by have:=(h a).1 (by simp); cases this
 | a::l1,b::l2,h1,h2,h=>by
  obtain ⟨a1,a2⟩:=List.pairwise_cons.1 h1
  obtain ⟨b1,b2⟩:=List.pairwise_cons.1 h2
  have hab:a=b:=by
   rcases List.mem_cons.1 ((h a).1 (by simp)) with e | e
   ·exact e
   ·rcases List.mem_cons.1 ((h b).2 (by simp)) with e' | e'
    ·exact e'.symm
    ·exact (irr a (tr a b a (a1 b e') (b1 a e))).elim
  subst hab
  congr 1
  refine PU irr tr l1 l2 a2 b2 fun x=>⟨fun hx=>?_,fun hx=>?_⟩
  ·rcases List.mem_cons.1 ((h x).1 (List.mem_cons_of_mem _ hx)) with e | e
   ·subst e; exact (irr x (a1 x hx)).elim
   ·exact e
  ·rcases List.mem_cons.1 ((h x).2 (List.mem_cons_of_mem _ hx)) with e | e
   ·subst e; exact (irr x (b1 x hx)).elim
   ·exact e
/-- Groups of things that tie, each in the order of their places, each ahead of the later ones. -/
structure GL (f:α->α->Int) (p:α->Int) (L:List (List α)):Prop where
 ne:∀ g ∈ L,g≠[]
 tie:∀ g ∈ L,g.Pairwise fun a b=>p a < p b
 eq:∀ g ∈ L,∀ a ∈ g,∀ b ∈ g,f a b=0
 lt:L.Pairwise fun g h=>∀ a ∈ g,∀ b ∈ h,f a b = -1
theorem GL.tail {f:α->α->Int}{p:α->Int}{g:List α}{L:List (List α)}(h:GL f p (g::L)):GL f p L :=
 ⟨fun x hx=>h.ne x (List.mem_cons_of_mem _ hx),fun x hx=>h.tie x (List.mem_cons_of_mem _ hx),fun x hx=>h.eq x (List.mem_cons_of_mem _ hx),(List.pairwise_cons.1 h.lt).2⟩
theorem QM {f:α->α->Int}{p:α->Int}(hs:∀ a b,f a b = - f b a):∀ (L M:List (List α)),GL f p L->GL f p M->(∀ x,x ∈ L.flatten↔x ∈ M.flatten)->L=M
 | [],[],_,_,_=>rfl
 | [],g::M,_,h2,h=>by
  obtain ⟨x,hx⟩:=List.exists_mem_of_ne_nil g (h2.ne g (by simp))
  have:=(h x).2 (by simp [hx])
  simp at this
 | g::L,[],h1,_,h=>by
  obtain ⟨x,hx⟩:=List.exists_mem_of_ne_nil g (h1.ne g (by simp))
  have:=(h x).1 (by simp [hx])
  simp at this
 | g::L,k::M,h1,h2,h=>by
  have key:∀ (g k:List α) (L M:List (List α)),GL f p (g::L)->GL f p (k::M)->(∀ x,x ∈ (g::L).flatten↔x ∈ (k::M).flatten)->∀ x ∈ g,x ∈ k:=by
   intro g k L M h1 h2 h x hx
   have hx':=(h x).1 (by simp [hx])
   rw [List.flatten_cons,List.mem_append] at hx'
   rcases hx' with hx' | hx'
   ·exact hx'
   ·obtain ⟨k',hk',hxk⟩:=List.mem_flatten.1 hx'
    obtain ⟨y,hy⟩:=List.exists_mem_of_ne_nil k (h2.ne k (by simp))
    have e1:f y x = -1:=(List.pairwise_cons.1 h2.lt).1 k' hk' y hy x hxk
    have hy':=(h y).2 (by simp [hy])
    rw [List.flatten_cons,List.mem_append] at hy'
    rcases hy' with hy' | hy'
    ·have:=h1.eq g (by simp) y hy' x hx; omega
    ·obtain ⟨g',hg',hyg⟩:=List.mem_flatten.1 hy'
     have:=(List.pairwise_cons.1 h1.lt).1 g' hg' x hx y hyg
     have:=hs x y
     omega
  have hgk:g=k:=PU (lt:=fun a b=>p a < p b) (fun a h=>by omega) (fun a b c h k=>by omega) g k (h1.tie g (by simp)) (h2.tie k (by simp)) fun x=>⟨key g k L M h1 h2 h x,key k g M L h2 h1 (fun x=>(h x).symm) x⟩
  subst hgk
  congr 1
  have dis:∀ (L:List (List α)),GL f p (g::L)->∀ x ∈ L.flatten,x ∉ g:=fun L hL x hx hg=>by
   obtain ⟨g',hg',hxg⟩:=List.mem_flatten.1 hx
   have e1:=(List.pairwise_cons.1 hL.lt).1 g' hg' x hg x hxg
   have:=hs x x
   omega
  refine QM hs L M h1.tail h2.tail fun x=>⟨fun hx=>?_,fun hx=>?_⟩
  ·have:=(h x).1 (by rw [List.flatten_cons]; exact List.mem_append_right _ hx)
   rw [List.flatten_cons,List.mem_append] at this
   exact this.resolve_left (dis L h1 x hx)
  ·have:=(h x).2 (by rw [List.flatten_cons]; exact List.mem_append_right _ hx)
   rw [List.flatten_cons,List.mem_append] at this
   exact this.resolve_left (dis M h2 x hx)
end
/- trestle/court.Order -/
/-- What a text says of two places, as a weak order of all numbers. -/
def fN (c:List AE) (g:List Aq) (x y:Nat):Int:=if x < 64 then (if y < 64 then cm c g x y else -1) else if y < 64 then 1 else 0
theorem VB {c:List AE}{g:List Aq}{x y:Nat}(hx:x < 64) (hy:y < 64):fN c g x y=cm c g x y:=by unfold fN; rw [if_pos hx,if_pos hy]
theorem Xo {c:List AE}(g:List Aq) (hg:JB [] c):Wk3 (fN c g):=by
 refine ⟨fun a b=>?_,fun a b=>?_,fun a b d h1 h2=>?_⟩
 ·unfold fN
  split <;> split <;> first | exact AAB hg ‹_› ‹_› | omega
 ·unfold fN
  by_cases ha:a < 64 <;> by_cases hb:b < 64 <;> simp only [ha,hb,if_true,if_false] <;> first | exact AAM hg ha hb | rfl
 ·have:=(Vr g hg).t
  by_cases ha:a < 64 <;> by_cases hb:b < 64 <;> by_cases hd:d < 64 <;> simp only [fN,ha,hb,hd,if_true,if_false] at h1 h2 ⊢ <;> first | exact (Vr g hg).t ⟨a,ha⟩ ⟨b,hb⟩ ⟨d,hd⟩ h1 h2 | omega | (have:=AAB (g:=g) hg ha hb; omega)
/-- Before, or tied and at an earlier place. -/
def ltN (f:Nat->Nat->Int) (x y:Nat):Prop:=f x y = -1\/(f x y=0/\x < y)
/-- One more is laid into its place, from the end on. -/
def SN (f:Nat->Nat->Int) (x:Nat):List Nat->List Nat->List Nat
 | [],b=>x::b
 | y::a,b=>if f x y < 0 then SN f x a (y::b) else (y::a).reverse++x::b
theorem SP {f:Nat->Nat->Int}(x z:Nat):∀ (a b:List Nat),z ∈ SN f x a b↔z=x\/z ∈ a\/z ∈ b
 | [],b=>by simp [SN]
 | y::a,b=>by
  unfold SN
  split
  ·rw [SP x z a (y::b)]
   simp only [List.mem_cons]
   constructor
   ·rintro (h | h | h | h)
    ·exact .inl h
    ·exact .inr (.inl (.inr h))
    ·exact .inr (.inl (.inl h))
    ·exact .inr (.inr h)
   ·rintro (h | (h | h) | h)
    ·exact .inl h
    ·exact .inr (.inr (.inl h))
    ·exact .inr (.inl h)
    ·exact .inr (.inr (.inr h))
  ·simp only [List.mem_append,List.mem_reverse,List.mem_cons]
   constructor
   ·rintro (h | h | h)
    ·exact .inr (.inl h)
    ·exact .inl h
    ·exact .inr (.inr h)
   ·rintro (h | h | h)
    ·exact .inr (.inl h)
    ·exact .inl h
    ·exact .inr (.inr h)
theorem SO {f:Nat->Nat->Int}(x:Nat):∀ (a b:List Nat),(SN f x a b).length=a.length + b.length + 1
 | [],b=>by simp [SN]
 | y::a,b=>by
  unfold SN
  split
  ·rw [SO x a (y::b)]; simp; omega
  ·simp; omega
/-- Insertion sort. -/
def L1 (f:Nat->Nat->Int) (l:List Nat):List Nat:=l.foldl (fun acc x=>SN f x acc.reverse []) []
theorem L3 {f:Nat->Nat->Int}(l:List Nat) (x:Nat):L1 f (l++[x])=SN f x (L1 f l).reverse []:=by
 unfold L1; rw [List.foldl_append]; rfl
theorem OK {α:Type}{P:List α->Prop}(h0:P []) (h1:∀ l x,P l->P (l++[x])) (l:List α):P l:=by
 have:∀ r:List α,P r.reverse:=by
  intro r
  induction r with
  | nil=>exact h0
  | cons x r ih=>rw [List.reverse_cons]; exact h1 _ _ ih
 simpa using this l.reverse
theorem NU {f:Nat->Nat->Int}(z:Nat) (l:List Nat):z ∈ L1 f l↔z ∈ l:=by
 refine OK (P:=fun l=>z ∈ L1 f l↔z ∈ l) (by simp [L1]) (fun l x ih=>?_) l
 rw [L3,SP]
 simp [ih,or_comm]
theorem Pr {f:Nat->Nat->Int}(l:List Nat):(L1 f l).length=l.length:=by
 refine OK (P:=fun l=>(L1 f l).length=l.length) (by simp [L1]) (fun l x ih=>?_) l
 rw [L3,SO]
 simp [ih]
section
variable {f:Nat->Nat->Int}(hf:Wk3 f)
include hf
theorem T5 {x y z:Nat}(h1:ltN f x y) (h2:ltN f y z):ltN f x z:=by
 have:=hf.t x y z (by rcases h1 with h | h <;> omega) (by rcases h2 with h | h <;> omega)
 unfold ltN
 rcases h1 with h1 | h1 <;> rcases h2 with h2 | h2 <;> omega
theorem Ny (x:Nat):∀ (a b:List Nat),(a.reverse++b).Pairwise (ltN f)->(∀ y ∈ b,f x y = -1)->(∀ y ∈ a,y < x)->(SN f x a b).Pairwise (ltN f)
 | [],b,h,hb,_=>by
  unfold SN
  exact List.pairwise_cons.2 ⟨fun y hy=> .inl (hb y hy),by simpa using h⟩
 | y::a,b,h,hb,ha=>by
  unfold SN
  by_cases hxy:f x y < 0
  ·rw [if_pos hxy]
   have e:f x y = -1:=by have:=hf.v x y; omega
   refine Ny x a (y::b) (by simpa using h) (fun z hz=>?_) fun z hz=>ha z (List.mem_cons_of_mem _ hz)
   rcases List.mem_cons.1 hz with rfl | hz
   ·exact e
   ·exact hb z hz
  ·rw [if_neg hxy]
   have hyx:ltN f y x:=by
    have:=hf.s x y
    have:=hf.v x y
    have:=ha y (by simp)
    unfold ltN; omega
   rw [List.pairwise_append] at h ⊢
   obtain ⟨h1,h2,h3⟩:=h
   refine ⟨h1,List.pairwise_cons.2 ⟨fun z hz=> .inl (hb z hz),h2⟩,fun z hz w hw=>?_⟩
   rcases List.mem_cons.1 hw with rfl | hw
   ·rw [List.reverse_cons] at h1 hz
    rcases List.mem_append.1 hz with hz | hz
    ·exact T5 hf ((List.pairwise_append.1 h1).2.2 z hz y (by simp)) hyx
    ·simp at hz; subst hz; exact hyx
   ·exact h3 z hz w hw
theorem RV (l:List Nat):l.Pairwise (fun a b=>a < b)->(L1 f l).Pairwise (ltN f):=by
 refine OK (P:=fun l=>l.Pairwise (fun a b=>a < b)->(L1 f l).Pairwise (ltN f)) (fun _=>by simp [L1]) (fun l x ih h=>?_) l
 obtain ⟨h1,_,h3⟩:=List.pairwise_append.1 h
 rw [L3]
 refine Ny hf x _ [] (by simpa using ih h1) (fun y hy=>by cases hy) fun y hy=>?_
 exact h3 y ((NU y l).1 (List.mem_reverse.1 hy)) x (by simp)
end
/-- Guests by their places. -/
def sd (g:List Aq) (x:Nat):AL:=(gAt g x,(x:Int))
def sdL (g:List Aq) (l:List Nat):List AL:=l.map (sd g)
theorem Rl (g:List Aq) (a b:List Nat):sdL g (a++b)=sdL g a++sdL g b:=List.map_append
theorem Nb (g:List Aq) (x:Nat) (b:List Nat):sdL g (x::b)=sd g x::sdL g b:=rfl
theorem JG (g:List Aq) (a:List Nat):(sdL g a).length=a.length:=List.length_map _
theorem Rm {α:Type}(p:List α) (v w:α) (r:List α):(p++v::r).set p.length w=p++w::r:=by simp
theorem Qq (g:List Aq):∀ (r:List Aq) (p:List Aq),g=p++r->FX r p.length=sdL g ((List.range' p.length r.length))
 | [],_,_=>rfl
 | x::r,p,e=>by
  have:=Qq g r (p++[x]) (by rw [e]; simp)
  simp only [List.length_append,List.length_cons,List.length_nil,Nat.zero_add] at this
  simp only [FX,this,List.length_cons,List.range'_succ,Nb]
  congr 1
  unfold sd gAt
  rw [e]; simp
theorem S7 (g:List Aq):FX g 0=sdL g (List.range g.length):=by
 have:=Qq g g [] rfl
 rw [List.range_eq_range']
 exact this
section
variable {c:List AE}{g:List Aq}(hc:few c) (hv:(Kt c).2=0) (hg:FewR g)
include hc hv hg
theorem V5 {x y:Nat}(hx:x < g.length) (hy:y < g.length):Cz (sd g x) (sd g y) c=some (fN c g x y):=by
 have hn:=hg.n
 obtain ⟨k,h⟩:=VF hc hv hg hx hy
 unfold Cz
 rw [show sd g x=(gAt g x,(x:Int)) from rfl,show sd g y=(gAt g y,(y:Int)) from rfl,h,VB (by omega) (by omega)]; rfl
theorem V8 (x:Nat) (hx:x < g.length) (rest:List Nat):∀ (a b:List Nat) (fu:Nat),(∀ y ∈ a,y < g.length)->a.length < fu->a.length<=1000->Ap 0 c fu (a.length:Int) (sdL g (a.reverse++x::(b++rest)))=some (sdL g (SN (fN c g) x a b++rest))
 | [],b,fu + 1,_,_,_=>by
  unfold Ap
  rw [if_neg (by simp),OS,if_neg (by simp)]; rfl
 | y::a,b,fu + 1,ha,hf,hl=>by
  have hy:=ha y (by simp)
  simp only [List.length_cons] at hf hl
  have e1:sdL g ((y::a).reverse++x::(b++rest))=(sdL g a.reverse++[sd g y])++sd g x::sdL g (b++rest):=by
   simp [sdL]
  have e2:(sdL g a.reverse++[sd g y])++sd g x::sdL g (b++rest)=sdL g a.reverse++sd g y::sd g x::sdL g (b++rest):=by simp
  have l1:(((y::a).length:Nat):Int)=(((sdL g a.reverse++[sd g y]).length:Nat):Int):=by simp [JG]
  have l2:wr .i64 ((((y::a).length:Nat):Int) - 1)=(((sdL g a.reverse).length:Nat):Int):=by
   rw [QI (by simp <;> omega) (by simp <;> omega)]; simp [JG]
  have i1:idx (sdL g ((y::a).reverse++x::(b++rest))) (((y::a).length:Nat):Int)=some (sd g x):=by rw [e1,l1,Do]
  have i2:idx (sdL g ((y::a).reverse++x::(b++rest))) (wr .i64 ((((y::a).length:Nat):Int) - 1))=some (sd g y):=by rw [e1,e2,l2,Do]
  have s1:(sdL g ((y::a).reverse++x::(b++rest))).set (((y::a).length:Nat):Int).toNat (sd g y)=sdL g a.reverse++sd g y::sd g y::sdL g (b++rest):=by
   rw [e1,l1,Int.toNat_natCast,Rm]; simp
  have i3:idx (sdL g a.reverse++sd g y::sd g y::sdL g (b++rest)) (wr .i64 ((((y::a).length:Nat):Int) - 1))=some (sd g y):=by rw [l2,Do]
  have s2:(sdL g a.reverse++sd g y::sd g y::sdL g (b++rest)).set (wr .i64 ((((y::a).length:Nat):Int) - 1)).toNat (sd g x)=sdL g (a.reverse++x::((y::b)++rest)):=by
   rw [l2,Int.toNat_natCast,Rm]; simp [Rl,Nb]
  unfold Ap
  rw [if_pos (by simp <;> omega),i1,OS,i2,OS,V5 hc hv hg hx hy,OS,OS]
  unfold SN
  by_cases h:fN c g x y < 0
  ·rw [if_pos (by simpa using h),if_pos h,OS,OS,OS,s1,i3,OS,s2,l2,JG,List.length_reverse]
   exact V8 x hx rest a (y::b) fu (fun z hz=>ha z (List.mem_cons_of_mem _ hz)) (by omega) (by omega)
  ·rw [if_neg (by simpa using h),if_neg h]
   congr 2
   simp
theorem Zo (ns:List Nat) (hns:∀ x ∈ ns,x < g.length) (hl:ns.length<=1000):Ai (sdL g ns) 0 (ns.length:Int) c=some (sdL g (L1 (fN c g) ns),c):=by
 have hin:AN 0 (ns.length:Int) c 100000 (wr .i64 (0 + 1)) (sdL g ns)=some (sdL g (L1 (fN c g) ns)):=by
  rw [show wr .i64 (0 + 1)=((1:Nat):Int) from rfl]
  cases hns0:ns with
  | nil =>
   unfold AN
   rw [if_neg (by simp)]; rfl
  | cons n0 nr =>
   rw [<-hns0]
   have hpos:1<=ns.length:=by rw [hns0]; simp
   have e0:sdL g (L1 (fN c g) (ns.take 1)++ns.drop 1)=sdL g ns:=by rw [hns0]; rfl
   have h:=YE (σ:=List AL) ns.length 1 (fun i=>sdL g (L1 (fN c g) (ns.take i)++ns.drop i)) (some (sdL g (L1 (fN c g) ns))) (fun f c1 s=>AN 0 (ns.length:Int) c f c1 s) (by omega) (fun i h1 hi f=>by
    show AN 0 (ns.length:Int) c (f + 1) (i:Int) (sdL g (L1 (fN c g) (ns.take i)++ns.drop i))=_
    conv=>lhs; unfold AN
    have hil:((L1 (fN c g) (ns.take i)).reverse.length:Int)=(i:Int):=by rw [List.length_reverse,Pr]; simp; omega
    have:=V8 hc hv hg ns[i] (hns _ (List.getElem_mem hi)) (ns.drop (i + 1)) (L1 (fN c g) (ns.take i)).reverse [] 100000 (fun y hy=>hns y (List.mem_of_mem_take ((NU y _).1 (List.mem_reverse.1 hy)))) (by omega) (by omega)
    rw [hil,List.reverse_reverse,List.nil_append,<-L3,<-List.take_succ_eq_append_getElem hi,<-List.drop_eq_getElem_cons hi] at this
    rw [if_pos (by simp; omega),this,OS]) (fun f=>by
    show AN 0 (ns.length:Int) c (f + 1) (ns.length:Int) (sdL g (L1 (fN c g) (ns.take ns.length)++ns.drop ns.length))=_
    conv=>lhs; unfold AN
    rw [if_neg (by simp),List.take_length,List.drop_length,List.append_nil]) (ns.length - 1) 1 100000 (by omega) (by omega) (by omega)
   rw [<-e0]; exact h
 unfold Ai
 rw [hin]; rfl
theorem Yt (ns:List Nat) (hns:∀ x ∈ ns,x < g.length) (hl:ns.length<=20):A5 (sdL g ns) c=some (sdL g (L1 (fN c g) ns),c):=by
 have hi:=Zo hc hv hg ns hns (by omega)
 have e:Bi (sdL g ns) (ns.length:Int) c=some (sdL g (L1 (fN c g) ns),c):=by
  unfold Bi
  have e2:BU (ns.length:Int) 100000=some ():=by
   unfold BU
   rw [if_neg (by simp; omega)]
  by_cases h20:ns.length=20
  ·have e1:Ak (ns.length:Int) 100000 0 20 (sdL g ns) c=some (20,sdL g (L1 (fN c g) ns),c):=by
    unfold Ak
    rw [h20] at hi
    rw [if_pos (by rw [h20]; rfl),show ((20:Int))=((20:Nat):Int) from rfl,hi,OS]
    unfold Ak
    rw [if_neg (by rw [h20]; show ¬ (false=true); decide)]
   have e3:Ai (sdL g (L1 (fN c g) ns)) 20 (ns.length:Int) c=some (sdL g (L1 (fN c g) ns),c):=by
    unfold Ai AN
    rw [if_neg (by rw [h20]; show ¬ (false=true); decide)]; rfl
   rw [e1,OS,e3,OS,e2]; rfl
  ·have e1:Ak (ns.length:Int) 100000 0 20 (sdL g ns) c=some (0,sdL g ns,c):=by
    unfold Ak
    rw [if_neg (by simp; omega)]
   rw [e1,OS,hi,OS,e2]; rfl
 unfold A5
 rw [JG,e]; rfl
end
theorem Qx {α:Type}(l:List α):l=[]\/∃ a x,l=a++[x]:=by
 refine OK (P:=fun l=>l=[]\/∃ a x,l=a++[x]) (.inl rfl) (fun l x _=> .inr ⟨l,x,rfl⟩) l
def pI (x:Nat):Int:=(x:Int)
def toG (l:List Nat):List Int:=l.map pI
def toI (L:List (List Nat)):List (List Int):=L.map toG
theorem Ob (L M:List (List Nat)):toI (L++M)=toI L++toI M:=List.map_append
theorem Ih (L:List (List Nat)):(toI L).length=L.length:=List.length_map _
theorem Fn (L:List Nat):(toG L).length=L.length:=List.length_map _
section
variable {f:Nat->Nat->Int}{L:List (List Nat)}{gr:List Nat}{x:Nat}
theorem GL.snocNew (h:GL f pI L) (hx:f x x=0) (hn:∀ z ∈ L.flatten,f z x = -1):GL f pI (L++[[x]]):=by
 refine ⟨fun q hq=>?_,fun q hq=>?_,fun q hq=>?_,?_⟩
 ·rcases List.mem_append.1 hq with hq | hq
  ·exact h.ne q hq
  ·simp at hq; subst hq; simp
 ·rcases List.mem_append.1 hq with hq | hq
  ·exact h.tie q hq
  ·simp at hq; subst hq; simp
 ·rcases List.mem_append.1 hq with hq | hq
  ·exact h.eq q hq
  ·simp at hq; subst hq
   intro a ha b hb
   simp at ha hb; subst ha hb; exact hx
 ·refine List.pairwise_append.2 ⟨h.lt,by simp,fun q hq k hk a ha b hb=>?_⟩
  simp at hk; subst hk
  simp at hb; subst hb
  exact hn a (List.mem_flatten.2 ⟨q,hq,ha⟩)
theorem GL.snocIn (h:GL f pI (L++[gr])) (hx:f x x=0) (hg:∀ z ∈ gr,f z x=0/\f x z=0/\z < x) (hn:∀ q ∈ L,∀ z ∈ q,f z x = -1):GL f pI (L++[gr++[x]]):=by
 refine ⟨fun q hq=>?_,fun q hq=>?_,fun q hq=>?_,?_⟩
 ·rcases List.mem_append.1 hq with hq | hq
  ·exact h.ne q (List.mem_append_left _ hq)
  ·simp at hq; subst hq; simp
 ·rcases List.mem_append.1 hq with hq | hq
  ·exact h.tie q (List.mem_append_left _ hq)
  ·simp at hq; subst hq
   refine List.pairwise_append.2 ⟨h.tie gr (by simp),by simp,fun a ha b hb=>?_⟩
   simp at hb; subst hb
   have:=(hg a ha).2.2
   unfold pI; omega
 ·rcases List.mem_append.1 hq with hq | hq
  ·exact h.eq q (List.mem_append_left _ hq)
  ·simp at hq; subst hq
   intro a ha b hb
   have e:=h.eq gr (by simp)
   rcases List.mem_append.1 ha with h5 | h5 <;> rcases List.mem_append.1 hb with h6 | h6
   ·exact e a h5 b h6
   ·rw [show b=x by simpa using h6]; exact (hg a h5).1
   ·rw [show a=x by simpa using h5]; exact (hg b h6).2.1
   ·rw [show a=x by simpa using h5,show b=x by simpa using h6]; exact hx
 ·obtain ⟨h1,_,h3⟩:=List.pairwise_append.1 h.lt
  refine List.pairwise_append.2 ⟨h1,by simp,fun q hq k hk a ha b hb=>?_⟩
  simp at hk; subst hk
  rcases List.mem_append.1 hb with hb | hb
  ·exact h3 q hq gr (by simp) a ha b hb
  ·simp at hb; subst hb; exact hn q hq a ha
end
theorem Qi {α:Type}(p:List α) (v:α) (h:p.length<=1000000):idx (p++[v]) (wr .i64 (((p++[v]).length:Int) - 1))=some v:=by
 rw [QI (by simp <;> omega) (by simp <;> omega),show (((p++[v]).length:Int) - 1)=(p.length:Int) by simp,Do]
theorem Qw {α:Type}(p:List α) (v w:α) (h:p.length<=1000000):(p++[v]).set (wr .i64 (((p++[v]).length:Int) - 1)).toNat w=p++[w]:=by
 rw [QI (by simp <;> omega) (by simp <;> omega),show (((p++[v]).length:Int) - 1)=(p.length:Int) by simp,Int.toNat_natCast,Rm]
section
variable {c:List AE}{g:List Aq}(hc:few c) (hv:(Kt c).2=0) (hg:FewR g)
include hc hv hg
theorem V6 (ms:List Nat) (hs:ms.Pairwise (ltN (fN c g))) (hb:∀ x ∈ ms,x < g.length) (hl:ms.length<=1000):∀ (r pre:List Nat) (fu:Nat) (L:List (List Nat)),ms=pre++r->r.length < fu->L.flatten=pre->GL (fN c g) pI L->L.length<=pre.length->∃ L',CX (sdL g ms,c) fu (pre.length:Int) (toI L)=some (toI L')/\L'.flatten=ms/\GL (fN c g) pI L'
 | [],pre,fu + 1,L,e,_,hf,hL,_=>by
  refine ⟨L,?_,by rw [hf,e]; simp,hL⟩
  unfold CX
  rw [if_neg (by rw [e]; simp [JG])]
 | x::r,pre,fu + 1,L,e,hfu,hf,hL,hLl=>by
  have hw:=Xo g (IQ hv).2
  have hxx:fN c g x x=0:=by have:=hw.s x x; omega
  have hlen:ms.length=pre.length + r.length + 1:=by rw [e]; simp; omega
  simp only [List.length_cons] at hfu
  have hx:=hb x (by rw [e]; simp)
  have hlt:∀ z ∈ pre,ltN (fN c g) z x:=fun z hz=>by
   rw [e] at hs
   exact (List.pairwise_append.1 hs).2.2 z hz x (by simp)
  have hi:idx (sdL g ms) (pre.length:Int)=some (sd g x):=by
   rw [e,Rl,Nb,<-JG g pre,Do]
  have hwr:wr .i64 ((pre.length:Int) + 1)=(((pre++[x]).length:Nat):Int):=FV pre x r (by rw [<-e]; omega)
  have next:∀ L2:List (List Nat),L2.flatten=pre++[x]->GL (fN c g) pI L2->L2.length<=(pre++[x]).length->∃ L',CX (sdL g ms,c) fu (wr .i64 ((pre.length:Int) + 1)) (toI L2)=some (toI L')/\L'.flatten=ms/\GL (fN c g) pI L':=fun L2 h1 h2 h3=>by
   rw [hwr]
   exact V6 ms hs hb hl r (pre++[x]) fu L2 (by rw [e]; simp) (by omega) h1 h2 h3
  have new:(∀ z ∈ pre,fN c g z x = -1)->∀ j,(if (pre.length:Int)==0 then some true else (idx (sdL g ms) (wr .i64 ((pre.length:Int) - 1))).bind fun v25=>(Cz v25 (sd g x) c).bind fun v28=>some (v28 != 0))=some j->j=true->∃ L',CX (sdL g ms,c) (fu + 1) (pre.length:Int) (toI L)=some (toI L')/\L'.flatten=ms/\GL (fN c g) pI L':=fun hn j hj hjt=>by
   subst hjt
   obtain ⟨L',h1,h2⟩:=next (L++[[x]]) (by rw [List.flatten_append,hf]; simp) (hL.snocNew hxx (by rw [hf]; exact hn)) (by simp; omega)
   refine ⟨L',?_,h2⟩
   rw [<-h1]
   conv=>lhs; unfold CX
   rw [if_pos (by simp [JG]; omega),hi,OS,hj,OS]
   unfold Ff
   rw [if_pos rfl,if_pos (D8 (by omega) (by rw [Ih]; simp; omega)),OS,Qi _ _ (by rw [Ih]; omega),OS,if_pos (D8 (by omega) (by simp)),OS,Qw _ _ _ (by rw [Ih]; omega),Ob]
   rfl
  rcases Qx L with h0 | ⟨L0,gr,h0⟩
  ·subst h0
   have hp:pre=[]:=by rw [<-hf]; rfl
   subst hp
   exact new (fun z hz=>by cases hz) true (by simp) rfl
  ·subst h0
   rcases Qx gr with h1 | ⟨gr0,y,h1⟩
   ·exact absurd h1 (hL.ne gr (by simp))
   ·subst h1
    have hpre:pre=(L0.flatten++gr0)++[y]:=by rw [<-hf]; simp
    have hyp:y ∈ pre:=by rw [hpre]; simp
    have hy:=hb y (by rw [e]; exact List.mem_append_left _ hyp)
    have hprev:(if (pre.length:Int)==0 then some true else (idx (sdL g ms) (wr .i64 ((pre.length:Int) - 1))).bind fun v25=>(Cz v25 (sd g x) c).bind fun v28=>some (v28 != 0))=some (fN c g y x != 0):=by
     have hpl:(pre.length:Int)=(((L0.flatten++gr0).length:Nat):Int) + 1:=by rw [hpre]; simp; omega
     have hp0:¬ (((pre.length:Int)==0)=true):=by simp; intro h; rw [h] at hyp; cases hyp
     have hii:idx (sdL g ms) (wr .i64 ((pre.length:Int) - 1))=some (sd g y):=by
      have q1:wr .i64 ((pre.length:Int) - 1)=((L0.flatten++gr0).length:Int):=by rw [QI (by omega) (by omega)]; omega
      have q2:ms=(L0.flatten++gr0)++y::(x::r):=by rw [e,hpre]; simp
      rw [q1,q2,Rl,Nb,<-JG g (L0.flatten++gr0),Do]
     rw [if_neg hp0,hii,OS,V5 hc hv hg hy hx,OS]
    have hlyx:=hlt y hyp
    by_cases h0:fN c g y x=0
    ·have hLlen:(L0++[gr0++[y]++[x]]).length<=(pre++[x]).length:=by simp at hLl ⊢; omega
     have tie:∀ z ∈ gr0++[y],fN c g z x=0:=fun z hz=>by
      have e1:=hL.eq (gr0++[y]) (by simp) z hz y (by simp)
      have:=hw.t z y x (by omega) (by omega)
      omega
     obtain ⟨L',h1,h2⟩:=next (L0++[gr0++[y]++[x]]) (by rw [hpre]; simp) (hL.snocIn hxx (fun z hz=>by
      have e1:=tie z hz
      have:=hw.s z x
      refine ⟨e1,by omega,?_⟩
      have hzp:z ∈ pre:=by rw [hpre,List.append_assoc]; exact List.mem_append_right _ hz
      rcases hlt z hzp with h | h
      ·omega
      ·exact h.2) (fun q hq z hz=>by
      have e1:=(List.pairwise_append.1 hL.lt).2.2 q hq (gr0++[y]) (by simp) z hz y (by simp)
      have:=hw.t z y x (by omega) (by omega)
      omega)) hLlen
     refine ⟨L',?_,h2⟩
     rw [<-h1]
     conv=>lhs; unfold CX
     rw [if_pos (by simp [JG]; omega),hi,OS,hprev,OS]
     unfold Ff
     have hLle:L0.length<=1000:=by simp at hLl; omega
     have hgl:(gr0++[y]).length<=1000:=by
      have:pre.length=(L0.flatten).length + (gr0++[y]).length:=by rw [hpre]; simp
      omega
     have e3:toI (L0++[gr0++[y]])=toI L0++[toG (gr0++[y])]:=by rw [Ob]; rfl
     rw [if_neg (by simp [h0]),OS,e3,Qi _ _ (by rw [Ih]; omega),OS,if_pos (D8 (by omega) (by rw [Fn]; simp at hgl ⊢; omega)),OS,Qw _ _ _ (by rw [Ih]; omega)]
     have e4:toI L0++[toG (gr0++[y])++[(sd g x).2]]=toI (L0++[gr0++[y]++[x]]):=by
      rw [Ob]
      show _=toI L0++[toG (gr0++[y]++[x])]
      unfold toG
      rw [List.map_append (l₂:=[x])]
      rfl
     rw [e4]
    ·have hm1:fN c g y x = -1:=by rcases hlyx with h | h <;> omega
     refine new (fun z hz=>?_) (fN c g y x != 0) hprev (by simp [h0])
     have hzy:z=y\/ltN (fN c g) z y:=by
      rw [hpre] at hz
      rcases List.mem_append.1 hz with hz | hz
      ·right
       rw [e,hpre] at hs
       have:=(List.pairwise_append.1 (List.pairwise_append.1 hs).1).2.2 z hz y (by simp)
       exact this
      ·left; simpa using hz
     rcases hzy with rfl | hzy
     ·exact hm1
     ·have:=hw.t z y x (by rcases hzy with h | h <;> omega) (by omega)
      rcases hzy with h | h <;> omega
theorem VH (ns:List Nat) (ha:ns.Pairwise fun a b=>a < b) (hns:∀ x ∈ ns,x < g.length) (hl:ns.length<=20):∃ L,EL c (sdL g ns)=some (toI L)/\GL (fN c g) pI L/\∀ x,x ∈ L.flatten↔x ∈ ns:=by
 have hw:=Xo g (IQ hv).2
 obtain ⟨L,h1,h2,h3⟩:=V6 hc hv hg (L1 (fN c g) ns) (RV hw ns ha) (fun x hx=>hns x ((NU x ns).1 hx)) (by rw [Pr]; omega) (L1 (fN c g) ns) [] 100000 [] rfl (by rw [Pr]; omega) rfl ⟨fun _ h=>(by cases h),fun _ h=>(by cases h),fun _ h=>(by cases h),List.Pairwise.nil⟩ (Nat.le_refl _)
 refine ⟨L,?_,h3,fun x=>by rw [h2,NU]⟩
 unfold EL
 rw [if_pos (D8 (by omega) (by rw [JG]; omega)),Yt hc hv hg ns hns hl,OS]
 have h1':CX (sdL g (L1 (fN c g) ns),c) 100000 0 []=some (toI L):=h1
 rw [h1']; rfl
end
/- trestle/trestleref03.all -/
/- trestle/trestleref03.groups -/
def DY (x0:(List AE)) (x1:(List Aq)) (c2:(List Int)) (c8:Int):Nat->Bool->Int->Option ((Bool))
 | 0,_,_=>none
 | f + 1,c14,c15 =>
  if (decide (c15 < (c2.length:Int)))=true then
  (if c14=true then (idx c2 c15).bind fun v17 =>
  (idx c2 c8).bind fun v18 =>
  (Ky x0 x1 v17 v18).bind fun v19 =>
  some (!v19) else some false).bind fun j20 =>
  DY x0 x1 c2 c8 f j20 (wr .i64 (c15 + 1))
  else
  some c14
def Ie (c2:(List Int)) (c8:Int) (c10:(List Int)) (c12:(List Int)) (r33:Bool):Option (((List Int)×(List Int))) :=
 if r33=true then
 (idx c2 c8).bind fun v37 =>
 if (Dj 8 (c10.length + ([v37]:List Int).length))=true then
 some ((c10++([v37]:List Int)),c12)
 else none
 else
 (idx c2 c8).bind fun v53 =>
 if (Dj 8 (c12.length + ([v53]:List Int).length))=true then
 some (c10,(c12++([v53]:List Int)))
 else none
def DX (x0:(List AE)) (x1:(List Aq)) (c2:(List Int)):Nat->Int->(List Int)->(List Int)->Option (((List Int)×(List Int)))
 | 0,_,_,_=>none
 | f + 1,c8,c10,c12 =>
  if (decide (c8 < (c2.length:Int)))=true then
  (DY x0 x1 c2 c8 100000 true 0).bind fun r33 =>
  (Ie c2 c8 c10 c12 r33).bind fun r65 =>
  DX x0 x1 c2 f (wr .i64 (c8 + 1)) r65.1 r65.2
  else
  some (c10,c12)
def D3 (x0:(List AE)) (x1:(List Aq)):Nat->(List Int)->(List (List Int))->Option (((List (List Int))) ⊕ ((List (List Int))))
 | 0,_,_=>none
 | f + 1,c2,c4 =>
  if (decide ((c2.length:Int) > 0))=true then
  (DX x0 x1 c2 100000 0 ([]:(List Int)) ([]:(List Int))).bind fun r75 =>
  if ((r75.1.length:Int)==0)=true then
  some (.inr c4)
  else
  if (Dj 24 (c4.length + ([r75.1]:List (List Int)).length))=true then
  D3 x0 x1 f r75.2 (c4++([r75.1]:List (List Int)))
  else none
  else
  some (.inl c4)
def Kb (x0:(List AE)) (x1:(List Aq)) (x2:(List Int)):Option ((List (List Int))) :=
 (D3 x0 x1 100000 x2 ([]:(List (List Int)))).bind fun r107 =>
 match r107 with
 | (.inl w108) =>
  some w108
 | (.inr w115) =>
  some w115
/- trestle/trestleref03.Order -/
/- trestle/court.Class -/
/- trestle/court.Line -/
/- trestle/trestleref03.single -/
/- trestle/trestleref03.Line -/
/- trestle/trestleref03.all -/
/- trestle/trestleref03.Class -/
theorem Sh (l:List Nat) (i:Nat) (h:i < l.length):idx (toG l) (i:Int)=some (pI l[i]):=by
 unfold toG
 rw [JT (by simpa using h)]; simp
theorem Lb (a b:List Nat):toG (a++b)=toG a++toG b:=List.map_append
section
variable {c:List AE}{g:List Aq}(hc:few c) (hv:(Kt c).2=0) (hg:FewR g)
include hc hv hg
/-- Nobody of some goes before x. -/
def frB (f:Nat->Nat->Int) (ns:List Nat) (x:Nat):Bool:=ns.all fun k=>!decide (f k x < 0)
theorem YM {x y:Nat}(hx:x < g.length) (hy:y < g.length):Ky c g (pI x) (pI y)=some (decide (fN c g x y < 0)):=by
 have _:=hv
 have hn:=hg.n
 unfold Ky pI
 rw [S1 g hx,OS,S1 g hy,OS,Vd c _ _ _ _ hc (hg.at_ hx) (hg.at_ hy),OS,VB (by omega) (by omega)]
 rfl
theorem YO (ns:List Nat) (hns:∀ x ∈ ns,x < g.length) (hl:ns.length<=1000) (i:Nat) (hi:i < ns.length):DY c g (toG ns) (i:Int) 100000 true 0=some (frB (fN c g) ns ns[i]):=by
 have h:=QU (σ:=Bool) ns.length (fun k=>frB (fN c g) (ns.take k) ns[i]) (some (frB (fN c g) ns ns[i])) (fun f c' s=>DY c g (toG ns) (i:Int) f s c') (by omega) (fun k hk f=>by
  show DY c g (toG ns) (i:Int) (f + 1) (frB (fN c g) (ns.take k) ns[i]) (k:Int)=_
  conv=>lhs; unfold DY
  have e:frB (fN c g) (ns.take (k + 1)) ns[i]=(frB (fN c g) (ns.take k) ns[i]&&!decide (fN c g ns[k] ns[i] < 0)):=by
   unfold frB
   rw [List.take_succ_eq_append_getElem hk,List.all_append]; simp
  have q:(if frB (fN c g) (ns.take k) ns[i]=true then (idx (toG ns) (k:Int)).bind fun v17=>(idx (toG ns) (i:Int)).bind fun v18=>(Ky c g v17 v18).bind fun v19=>some (!v19) else some false)=some (frB (fN c g) (ns.take (k + 1)) ns[i]):=by
   rw [e]
   cases frB (fN c g) (ns.take k) ns[i] with
   | false=>rfl
   | true =>
    rw [if_pos rfl,Sh ns k hk,OS,Sh ns i hi,OS,YM hc hv hg (hns _ (List.getElem_mem hk)) (hns _ (List.getElem_mem hi))]
    rfl
  rw [if_pos (by rw [Fn]; simp; omega),q,OS]) (fun f=>by
  show DY c g (toG ns) (i:Int) (f + 1) (frB (fN c g) (ns.take ns.length) ns[i]) (ns.length:Int)=_
  conv=>lhs; unfold DY
  rw [if_neg (by rw [Fn]; simp),List.take_length])
 exact h
theorem YN (ns:List Nat) (hns:∀ x ∈ ns,x < g.length) (hl:ns.length<=1000):DX c g (toG ns) 100000 0 [] []=some (toG (ns.filter (frB (fN c g) ns)),toG (ns.filter fun x=>!frB (fN c g) ns x)):=by
 have h:=QU (σ:=List Int×List Int) ns.length (fun k=>(toG ((ns.take k).filter (frB (fN c g) ns)),toG ((ns.take k).filter fun x=>!frB (fN c g) ns x))) (some (toG (ns.filter (frB (fN c g) ns)),toG (ns.filter fun x=>!frB (fN c g) ns x))) (fun f c' s=>DX c g (toG ns) f c' s.1 s.2) (by omega) (fun k hk f=>by
  show DX c g (toG ns) (f + 1) (k:Int) (toG ((ns.take k).filter (frB (fN c g) ns))) (toG ((ns.take k).filter fun x=>!frB (fN c g) ns x))=_
  conv=>lhs; unfold DX
  have b1:((ns.take k).filter (frB (fN c g) ns)).length<=1000:=Nat.le_trans (List.length_filter_le _ _) (by simp; omega)
  have b2:((ns.take k).filter fun x=>!frB (fN c g) ns x).length<=1000:=Nat.le_trans (List.length_filter_le _ _) (by simp; omega)
  have q:Ie (toG ns) (k:Int) (toG ((ns.take k).filter (frB (fN c g) ns))) (toG ((ns.take k).filter fun x=>!frB (fN c g) ns x)) (frB (fN c g) ns ns[k])=some (toG ((ns.take (k + 1)).filter (frB (fN c g) ns)),toG ((ns.take (k + 1)).filter fun x=>!frB (fN c g) ns x)):=by
   unfold Ie
   rw [List.take_succ_eq_append_getElem hk,List.filter_append,List.filter_append,Lb,Lb]
   cases hb:frB (fN c g) ns ns[k] with
   | true =>
    rw [if_pos rfl,Sh ns k hk,OS,if_pos (D8 (by omega) (by rw [Fn]; simp; omega))]
    simp [hb,toG]
   | false =>
    rw [if_neg (by simp),Sh ns k hk,OS,if_pos (D8 (by omega) (by rw [Fn]; simp; omega))]
    simp [hb,toG]
  rw [if_pos (by rw [Fn]; simp; omega),YO hc hv hg ns hns hl k hk,OS,q]
  rfl) (fun f=>by
  show DX c g (toG ns) (f + 1) (ns.length:Int) (toG ((ns.take ns.length).filter (frB (fN c g) ns))) (toG ((ns.take ns.length).filter fun x=>!frB (fN c g) ns x))=_
  conv=>lhs; unfold DX
  rw [if_neg (by rw [Fn]; simp),List.take_length])
 exact h
omit hc hv hg in
theorem V9 {f:Nat->Nat->Int}(hw:Wk3 f):∀ (l:List Nat),l≠[]->∃ m ∈ l,∀ k ∈ l,¬ f k m < 0
 | [],h=>absurd rfl h
 | [x],_=>⟨x,by simp,fun k hk=>by
  have e:k=x:=by simpa using hk
  rw [e]; have:=hw.s x x; omega⟩
 | x::y::l,_=>by
  obtain ⟨m,h1,h2⟩:=V9 hw (y::l) (by simp)
  by_cases hx:f x m < 0
  ·refine ⟨x,by simp,fun k hk=>?_⟩
   rcases List.mem_cons.1 hk with rfl | hk
   ·have:=hw.s k k; omega
   ·have a1:=h2 k hk
    have a2:=hw.s k m
    have a3:=hw.v x m
    have:=hw.t x m k (by omega) (by omega)
    have:=hw.s x k
    omega
  ·refine ⟨m,List.mem_cons_of_mem _ h1,fun k hk=>?_⟩
   rcases List.mem_cons.1 hk with rfl | hk
   ·exact hx
   ·exact h2 k hk
theorem YP:∀ (m:Nat) (ns:List Nat) (fu:Nat) (out:List (List Nat)),ns.length<=m->m < fu->ns.length<=1000->out.length + m<=2000->(∀ x ∈ ns,x < g.length)->ns.Pairwise (fun a b=>a < b)->∃ L,D3 c g fu (toG ns) (toI out)=some (.inl (toI (out++L)))/\GL (fN c g) pI L/\∀ x,x ∈ L.flatten↔x ∈ ns
 | 0,ns,fu + 1,out,hm,_,_,_,_,_=>by
  have h0:ns=[]:=List.eq_nil_of_length_eq_zero (by omega)
  subst h0
  refine ⟨[],?_,⟨fun _ h=>(by cases h),fun _ h=>(by cases h),fun _ h=>(by cases h),List.Pairwise.nil⟩,by simp⟩
  unfold D3
  rw [if_neg (by simp [toG]),List.append_nil]
 | m + 1,ns,fu + 1,out,hm,hfu,hl,hol,hns,hp=>by
  have hw:=Xo g (IQ hv).2
  by_cases h0:ns=[]
  ·subst h0
   refine ⟨[],?_,⟨fun _ h=>(by cases h),fun _ h=>(by cases h),fun _ h=>(by cases h),List.Pairwise.nil⟩,by simp⟩
   unfold D3
   rw [if_neg (by simp [toG]),List.append_nil]
  ·obtain ⟨mn,h1,h2⟩:=V9 hw ns h0
   have hfree:∀ x,frB (fN c g) ns x=true↔∀ k ∈ ns,¬ fN c g k x < 0:=fun x=>by
    unfold frB
    rw [List.all_eq_true]
    constructor
    ·intro h k hk
     simpa using h k hk
    ·intro h k hk
     simpa using h k hk
   have hgr:ns.filter (frB (fN c g) ns)≠[]:=fun h=>by
    have:mn ∈ ns.filter (frB (fN c g) ns):=List.mem_filter.2 ⟨h1,(hfree mn).2 h2⟩
    rw [h] at this; cases this
   have hlen:(ns.filter fun x=>!frB (fN c g) ns x).length<=m:=by
    have a1:(ns.filter fun x=>!frB (fN c g) ns x).length < ns.length:=by
     rw [List.length_filter_lt_length_iff_exists]
     exact ⟨mn,h1,by simp [(hfree mn).2 h2]⟩
    omega
   obtain ⟨L,q1,q2,q3⟩:=YP m (ns.filter fun x=>!frB (fN c g) ns x) fu (out++[ns.filter (frB (fN c g) ns)]) hlen (by omega) (Nat.le_trans (List.length_filter_le _ _) hl) (by simp; omega) (fun x hx=>hns x (List.mem_filter.1 hx).1) (hp.sublist List.filter_sublist)
   refine ⟨ns.filter (frB (fN c g) ns)::L,?_,⟨fun k hk=>?_,fun k hk=>?_,fun k hk=>?_,?_⟩,fun x=>?_⟩
   ·unfold D3
    rw [if_pos (by rw [Fn]; have:=List.length_pos_iff.2 h0; simp; omega),YN hc hv hg ns hns hl,OS,if_neg (by rw [Fn]; have:=List.length_pos_iff.2 hgr; simp only [beq_iff_eq]; omega),if_pos (D8 (by omega) (by rw [Ih]; simp; omega))]
    have e:toI out++[toG (ns.filter (frB (fN c g) ns))]=toI (out++[ns.filter (frB (fN c g) ns)]):=by rw [Ob]; rfl
    rw [e,q1]
    simp
   ·rcases List.mem_cons.1 hk with rfl | hk
    ·exact hgr
    ·exact q2.ne k hk
   ·rcases List.mem_cons.1 hk with rfl | hk
    ·refine (hp.sublist List.filter_sublist).imp fun h=>?_
     unfold pI; omega
    ·exact q2.tie k hk
   ·rcases List.mem_cons.1 hk with rfl | hk
    ·intro a ha b hb
     obtain ⟨a1,a2⟩:=List.mem_filter.1 ha
     obtain ⟨b1,b2⟩:=List.mem_filter.1 hb
     have:=(hfree a).1 a2 b b1
     have:=(hfree b).1 b2 a a1
     have:=hw.s a b
     omega
    ·exact q2.eq k hk
   ·refine List.pairwise_cons.2 ⟨fun k hk a ha b hb=>?_,q2.lt⟩
    obtain ⟨a1,a2⟩:=List.mem_filter.1 ha
    have hb':b ∈ ns.filter fun x=>!frB (fN c g) ns x:=(q3 b).1 (List.mem_flatten.2 ⟨k,hk,hb⟩)
    obtain ⟨b1,b2⟩:=List.mem_filter.1 hb'
    have hnf:¬ (∀ k ∈ ns,¬ fN c g k b < 0):=fun h=>by
     rw [(hfree b).2 h] at b2; cases b2
    obtain ⟨k2,hk2⟩:=Classical.not_forall.1 hnf
    obtain ⟨hk3,hk4⟩:=Classical.not_imp.1 hk2
    have hk5:fN c g k2 b < 0:=Classical.not_not.1 hk4
    have e1:=(hfree a).1 a2 k2 hk3
    have e2:=hw.s a k2
    have e3:=hw.v k2 b
    have e4:=hw.v a k2
    have:=hw.t a k2 b (by omega) (by omega)
    omega
   ·rw [List.flatten_cons,List.mem_append,q3,List.mem_filter,List.mem_filter]
    cases frB (fN c g) ns x <;> simp
theorem VI (ns:List Nat) (ha:ns.Pairwise fun a b=>a < b) (hns:∀ x ∈ ns,x < g.length) (hl:ns.length<=1000):∃ L,Kb c g (toG ns)=some (toI L)/\GL (fN c g) pI L/\∀ x,x ∈ L.flatten↔x ∈ ns:=by
 obtain ⟨L,h1,h2,h3⟩:=YP hc hv hg ns.length ns 100000 [] (Nat.le_refl _) (by omega) hl (by simp; omega) hns ha
 refine ⟨L,?_,h2,h3⟩
 unfold Kb
 have h1':D3 c g 100000 (toG ns) []=some (.inl (toI L)):=by simpa [toI] using h1
 rw [h1']; rfl
end
/-- A list tells each one's group. -/
def Zp (L:List (List Nat)) (n k:Nat) (s:List Int):Prop:=s.length=n/\∀ j,j < k->∀ (gr:List Nat),L[j]? = some gr->∀ x ∈ gr,s[x]? = some (j:Int)
section
variable {f:Nat->Nat->Int}(hs:∀ a b,f a b = - f b a){L:List (List Nat)}(hL:GL f pI L)
include hs hL
end
theorem Y0 (L:List (List Nat)) (i:Nat) (h:i < L.length):idx (toI L) (i:Int)=some (toG L[i]):=by
 unfold toI
 rw [JT (by simpa using h)]; simp
section
theorem Id:∀ {l m:List Nat},l.Nodup->(∀ x ∈ l,x ∈ m)->l.length<=m.length
 | [],_,_,_=>Nat.zero_le _
 | x::l,m,h,s=>by
  obtain ⟨h1,h2⟩:=List.nodup_cons.1 h
  have hx:=s x (by simp)
  have:=Id (l:=l) (m:=m.erase x) h2 fun y hy=>(List.mem_erase_of_ne (fun e:y=x=>h1 (e ▸ hy))).2 (s y (List.mem_cons_of_mem _ hy))
  rw [List.length_erase_of_mem hx] at this
  have:0 < m.length:=List.length_pos_of_mem hx
  simp; omega
variable {c:List AE}{g:List Aq}(hc:few c) (hv:(Kt c).2=0) (hg:FewR g) (hn:g.length<=20){L:List (List Nat)}(hL:GL (fN c g) pI L) (hall:∀ x,x ∈ L.flatten↔x < g.length)
include hL hall
include hn
end
/-- A line out of groups of one. -/
def lnE (L:List (List Nat)):Bool:=L.all fun gr=>gr.length==1
theorem Ya (L:List (List Nat)) (hne:∀ gr ∈ L,gr≠[]) (hl:L.length<=1000) (hf:L.flatten.length<=1000):GO (toI L)=some (if lnE L=true then (toG L.flatten,0) else ([],32)):=by
 have go:∀ (r pre:List (List Nat)) (fu:Nat),L=pre++r->r.length < fu->EM (toI L) fu (pre.length:Int) (toG pre.flatten)=some (if lnE r=true then .inl (toG L.flatten) else .inr ()):=by
  intro r
  induction r with
  | nil =>
   intro pre fu e hfu
   obtain ⟨fu,rfl⟩:∃ q,fu=q + 1:=⟨fu - 1,by simp at hfu; omega⟩
   unfold EM
   rw [if_neg (by rw [e,Ih]; simp),e]; simp [lnE]
  | cons gr r ih =>
   intro pre fu e hfu
   obtain ⟨fu,rfl⟩:∃ q,fu=q + 1:=⟨fu - 1,by simp at hfu; omega⟩
   simp only [List.length_cons] at hfu
   have hlen:L.length=pre.length + r.length + 1:=by rw [e]; simp; omega
   have hi:idx (toI L) (pre.length:Int)=some (toG gr):=by
    rw [Y0 L pre.length (by omega)]
    have:L[pre.length]'(by omega)=gr:=by simp [e]
    rw [this]
   have hgr:=List.length_pos_iff.2 (hne gr (by rw [e]; simp))
   have hfl:L.flatten.length=pre.flatten.length + (gr.length + r.flatten.length):=by rw [e]; simp only [List.flatten_append,List.flatten_cons,List.length_append]
   unfold EM
   rw [if_pos (by rw [Ih]; simp; omega),hi,OS]
   by_cases h1:gr.length=1
   ·rw [if_neg (by rw [Fn]; simp; omega),if_pos (D8 (by omega) (by rw [Fn,Fn]; omega)),QI (by omega) (by omega),show ((pre.length:Int) + 1)=(((pre++[gr]).length:Nat):Int) by simp,<-Lb]
    have e2:pre.flatten++gr=(pre++[gr]).flatten:=by simp
    rw [e2,ih (pre++[gr]) fu (by rw [e]; simp) (by omega)]
    have:lnE (gr::r)=lnE r:=by simp [lnE,h1]
    rw [this]
   ·rw [if_pos (by rw [Fn]; simp; omega)]
    have:lnE (gr::r)=false:=by simp [lnE,h1]
    rw [this]; rfl
 have h:=go L [] 100000 rfl (by omega)
 have h':EM (toI L) 100000 0 []=some (if lnE L=true then .inl (toG L.flatten) else .inr ()):=h
 unfold GO
 rw [h']
 cases lnE L <;> rfl
/- trestle/court.Deciding -/
/- trestle/trestleref03.Deciding -/
section
variable {c:List AE}{g:List Aq}(hc:few c) (hv:(Kt c).2=0) (hg:FewR g)
include hc hv hg
open Classical in
end
section
variable {c:List AE}{g:List Aq}(hc:few c) (hv:(Kt c).2=0) (hg:FewR g)
include hc hv hg
open Classical in
end
section
variable {c:List AE}{g:List Aq}(hc:few c) (hv:(Kt c).2=0) (hg:FewR g)
include hc hv hg
open Classical in
end
section
variable {c:List AE}{g:List Aq}(hc:few c) (hv:(Kt c).2=0) (hg:FewR g)
include hc hv hg
end
/- trestle/court.Inversions$1 -/
/- slices.IndexFunc[[]int,int] -/
/- slices.ContainsFunc[[]int,int] -/
/- trestle/court.Inversions -/
/- slices.Equal[[]int,int] -/
/-- How many stand behind x and below it. -/
def X4 (x:Int) (r:List Int):Nat:=r.countP fun y=>decide (x > y)
section
variable (cl od:List Int)
end
/- trestle/trestlelaw03.FewGuests$1$1 -/
/- slices.IndexFunc[[]string,string] -/
/- slices.ContainsFunc[[]string,string] -/
/- trestle/trestlelaw03.FewGuests$1 -/
/- slices.IndexFunc[[]trestle/api.Guest,trestle/api.Guest] -/
/- slices.ContainsFunc[[]trestle/api.Guest,trestle/api.Guest] -/
/- trestle/trestlelaw03.FewGuests -/
/- trestle/trestlekit.CopyWords -/
/- trestle/trestlekit.CopyGuest -/
/- trestle/trestlekit.SameWords -/
/- trestle/trestlekit.SameGuest -/
/- trestle/trestlekit.CopyGuests -/
/- trestle/trestlekit.SameGuests -/
section
variable {g:List Aq}(hg:FewR g)
include hg
end
/- trestle/trestlekit.SameInts -/
/- trestle/trestlekit.SameLists -/
/- trestle/trestlelaw03.orders -/
/- trestle/trestlelaw03.CourtOrders -/
section
variable {c:List AE}{g:List Aq}(hc:few c) (hv:(Kt c).2=0) (hg:FewR g) (hn:g.length<=20)
include hc hv hg hn
end
end Go.Proofs.YtlalcoehgkmhlaaGreatDoor
