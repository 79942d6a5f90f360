/- Lemmas for the proof. -/
import Derived.Test.YtdjhmdbpcfnpgaaGreatDoorCourtWeakM1
import Derived.Test.YtdjhmdbpcfnpgaaGreatDoorCourtWeakM2
import Derived.Test.YtdjhmdbpcfnpgaaGreatDoorCourtWeakM3
import Derived.Test.YtdjhmdbpcfnpgaaGreatDoorCourtWeakM4
import Derived.Test.YtdjhmdbpcfnpgaaGreatDoorCourtWeakM5
import Derived.Test.YtdjhmdbpcfnpgaaGreatDoorCourtWeakM6
set_option maxHeartbeats 4000000
set_option maxRecDepth 100000
namespace Go.Proofs.YtdjhmdbpcfnpgaaGreatDoor
open Go.RowKit
def isT (r:Option (AV×Hp)):Bool:=match r with
 | some (.v (.bool true),_)=>true
 | _=>false
theorem Sg {r:Option (AV×Hp)}(h:isT r=true):∃ h',r=some (.v (.bool true),h'):=by
 unfold isT at h
 split at h
 ·exact ⟨_,rfl⟩
 ·cases h
set_option maxRecDepth 1000000 in
theorem Tr:isT (Ou E13 3000 8 [] [])=true:=by kernel_rfl
theorem Q2:∃ h,Ou E13 3000 8 [] []=some (.v (.bool true),h):=Sg Tr
theorem Pv (w:World):Ret Tryz.prog 8 #[] w fun v w'=>v = .bool true/\w.grownBy w' none:=by
 obtain ⟨h,e⟩:=Q2
 exact Ra (E:=E13) (Z:=fun _=>False) (us:=[]) Tg e (fun c hc=>hc.elim) (fun g x h=>by cases h) .nil
theorem TI {w:World}{Z:Nat->Prop}:VR w Z [] (.v (.bool true)) (.bool true):= .v rfl
def LT:Option Bool:=some true
def MB:Cs Unit:=csN
def MC (b:Bool):AV:=cdB.enc b
def M9:List AV->Option AV:=Db MB (fun _=>LT) MC
theorem NJ:XOk 8 M9:=by
 refine ⟨⟨Tryz.call8⟩,fun xs x h w Z us _ _ hv=>?_⟩
 obtain ⟨a,ha,h⟩:=OB h
 obtain ⟨b,hb,rfl⟩:=Option.map_eq_some_iff.1 h
 have hb:=OI hb
 subst hb
 have:xs=[]:=by
  cases xs with
  | nil=>rfl
  | cons x xs=>cases ha
 subst this
 have:us=[]:=by have:=hv.len; simpa using this
 subst this
 exact Ret.mono (Pv w) fun v w' h=>⟨h.2,by rw [h.1]; exact TI⟩
/- trestle/trestlelaw03.CourtWeak -/
noncomputable def Bn:Code:=Br Tryz.f5
def DP (x1:Pe3) (x2:(Bool×Bool)):Option ((Int)) :=
 if x2.1=true then
 some x1.1.1
 else
 some x1.2.1.1
def DQ (x1:Pe3) (x2:(Bool×Bool)):Option ((Int)) :=
 if x2.2=true then
 some x1.2.1.2
 else
 some x1.2.2.2
def A2 (x3:(Int×Int×Int)) (v14:(List AD)) (v39:Int) (v40:Int) (v41:Int) (v61:(List CB)) (c67:Int):Nat->Int->(List Int)->Option (((List Int)) ⊕ (Unit))
 | 0,_,_=>none
 | f + 1,c70,c71 =>
  if (decide (c70 < 3))=true then
  (idx v61 c67).bind fun v73 =>
  (idx v61 c70).bind fun v74 =>
  if (in3 c67)=true then
  ((((([x3.1,x3.2.1,x3.2.2]:List Int).set 0 (BG .i64 v39 63)).set 1 (BG .i64 v40 63)).set 2 (BG .i64 v41 63))[(0 + c67.toNat * 1)]?).bind fun v76 =>
  if (in3 c70)=true then
  ((((([x3.1,x3.2.1,x3.2.2]:List Int).set 0 (BG .i64 v39 63)).set 1 (BG .i64 v40 63)).set 2 (BG .i64 v41 63))[(0 + c70.toNat * 1)]?).bind fun v78 =>
  (DM v14 v73 v74 v76 v78).bind fun v79 =>
  (if (decide (v79.2 < (-1)))=true then some true else if (decide (v79.2 > 1))=true then some true else if (!((decide (v79.1 < 0))==(v79.2==0)))=true then some true else if (decide (v79.1≥(v14.length:Int)))=true then some true else (idx v61 c67).bind fun v80 =>
  (idx v61 c70).bind fun v81 =>
  if (in3 c67)=true then
  ((((([x3.1,x3.2.1,x3.2.2]:List Int).set 0 (BG .i64 v39 63)).set 1 (BG .i64 v40 63)).set 2 (BG .i64 v41 63))[(0 + c67.toNat * 1)]?).bind fun v83 =>
  if (in3 c70)=true then
  ((((([x3.1,x3.2.1,x3.2.2]:List Int).set 0 (BG .i64 v39 63)).set 1 (BG .i64 v40 63)).set 2 (BG .i64 v41 63))[(0 + c70.toNat * 1)]?).bind fun v85 =>
  (CC v14 v80 v81 v83 v85).bind fun v86 =>
  some (v86 != v79.2)
  else none
  else none).bind fun j87 =>
  if j87=true then
  some (.inr ())
  else
  (if (decide (v79.1≥0))=true then (D3 v14 v79.1).bind fun v98 =>
  (idx v61 c67).bind fun v99 =>
  (idx v61 c70).bind fun v100 =>
  if (in3 c67)=true then
  ((((([x3.1,x3.2.1,x3.2.2]:List Int).set 0 (BG .i64 v39 63)).set 1 (BG .i64 v40 63)).set 2 (BG .i64 v41 63))[(0 + c67.toNat * 1)]?).bind fun v102 =>
  if (in3 c70)=true then
  ((((([x3.1,x3.2.1,x3.2.2]:List Int).set 0 (BG .i64 v39 63)).set 1 (BG .i64 v40 63)).set 2 (BG .i64 v41 63))[(0 + c70.toNat * 1)]?).bind fun v104 =>
  (CC v98 v99 v100 v102 v104).bind fun v105 =>
  if (v105 != 0)=true then some true else (D3 v14 (wr .i64 (v79.1 + 1))).bind fun v106 =>
  (idx v61 c67).bind fun v107 =>
  (idx v61 c70).bind fun v108 =>
  if (in3 c67)=true then
  ((((([x3.1,x3.2.1,x3.2.2]:List Int).set 0 (BG .i64 v39 63)).set 1 (BG .i64 v40 63)).set 2 (BG .i64 v41 63))[(0 + c67.toNat * 1)]?).bind fun v110 =>
  if (in3 c70)=true then
  ((((([x3.1,x3.2.1,x3.2.2]:List Int).set 0 (BG .i64 v39 63)).set 1 (BG .i64 v40 63)).set 2 (BG .i64 v41 63))[(0 + c70.toNat * 1)]?).bind fun v112 =>
  (CC v106 v107 v108 v110 v112).bind fun v113 =>
  some (v113 != v79.2)
  else none
  else none
  else none
  else none else some false).bind fun j114 =>
  if j114=true then
  some (.inr ())
  else
  if (in3 c67)=true then
  if (in3 c70)=true then
  (c71[((0 + c67.toNat * 3) + c70.toNat * 1)]?).bind fun v128 =>
  if (decide (1 < c71.length))=true then
  A2 x3 v14 v39 v40 v41 v61 c67 f (wr .i64 (c70 + 1)) (c71.set ((0 + c67.toNat * 3) + c70.toNat * 1) v79.2)
  else none
  else none
  else none
  else none
  else none
  else
  some (.inl c71)
def BR (x3:(Int×Int×Int)) (v14:(List AD)) (v39:Int) (v40:Int) (v41:Int) (v61:(List CB)):Nat->Int->(List Int)->Option (((List Int)) ⊕ (Unit))
 | 0,_,_=>none
 | f + 1,c67,c68 =>
  if (decide (c67 < 3))=true then
  (A2 x3 v14 v39 v40 v41 v61 c67 100000 0 c68).bind fun r141 =>
  match r141 with
  | (.inl w142) =>
   BR x3 v14 v39 v40 v41 v61 f (wr .i64 (c67 + 1)) w142
  | (.inr w145) =>
   some (.inr ())
  else
  some (.inl c68)
def BU (w152:(List Int)) (c155:Int) (c157:Int):Nat->Int->Option ((Unit) ⊕ (Unit))
 | 0,_=>none
 | f + 1,c167 =>
  if (decide (c167 < 3))=true then
  if (in3 c155)=true then
  if (in3 c157)=true then
  (w152[((0 + c155.toNat * 3) + c157.toNat * 1)]?).bind fun v171 =>
  (if (decide (v171<=0))=true then if (in3 c157)=true then
  if (in3 c167)=true then
  (w152[((0 + c157.toNat * 3) + c167.toNat * 1)]?).bind fun v174 =>
  if (decide (v174<=0))=true then if (in3 c155)=true then
  if (in3 c167)=true then
  (w152[((0 + c155.toNat * 3) + c167.toNat * 1)]?).bind fun v177 =>
  if (in3 c155)=true then
  if (in3 c157)=true then
  (w152[((0 + c155.toNat * 3) + c157.toNat * 1)]?).bind fun v180 =>
  if (in3 c157)=true then
  if (in3 c167)=true then
  (w152[((0 + c157.toNat * 3) + c167.toNat * 1)]?).bind fun v183 =>
  some (v177 != (mnI v180 v183))
  else none
  else none
  else none
  else none
  else none
  else none else some false
  else none
  else none else some false).bind fun j184 =>
  if j184=true then
  some (.inr ())
  else
  BU w152 c155 c157 f (wr .i64 (c167 + 1))
  else none
  else none
  else
  some (.inl ())
def BT (w152:(List Int)) (c155:Int):Nat->Int->Option ((Unit) ⊕ (Unit))
 | 0,_=>none
 | f + 1,c157 =>
  if (decide (c157 < 3))=true then
  if (in3 c155)=true then
  if (in3 c157)=true then
  (w152[((0 + c155.toNat * 3) + c157.toNat * 1)]?).bind fun v161 =>
  if (in3 c157)=true then
  if (in3 c155)=true then
  (w152[((0 + c157.toNat * 3) + c155.toNat * 1)]?).bind fun v164 =>
  if (v161 != (wr .i64 (0 - v164)))=true then
  some (.inr ())
  else
  (BU w152 c155 c157 100000 0).bind fun r195 =>
  match r195 with
  | (.inl w196) =>
   BT w152 c155 f (wr .i64 (c157 + 1))
  | (.inr w199) =>
   some (.inr ())
  else none
  else none
  else none
  else none
  else
  some (.inl ())
def BS (w152:(List Int)):Nat->Int->Option ((Unit) ⊕ (Unit))
 | 0,_=>none
 | f + 1,c155 =>
  if (decide (c155 < 3))=true then
  (BT w152 c155 100000 0).bind fun r202 =>
  match r202 with
  | (.inl w203) =>
   BS w152 f (wr .i64 (c155 + 1))
  | (.inr w206) =>
   some (.inr ())
  else
  some (.inl ())
def DA (x0:(List (Int×Int×Int×Bool×Bool))) (x1:Pe3) (x2:(Bool×Bool)) (x3:(Int×Int×Int)):Option (Bool) :=
 (Fc x0).bind fun v14 =>
 (DP x1 x2).bind fun r23 =>
 (DQ x1 x2).bind fun r35 =>
 (([x3.1,x3.2.1,x3.2.2]:List Int)[0]?).bind fun v39 =>
 (([x3.1,x3.2.1,x3.2.2]:List Int)[1]?).bind fun v40 =>
 (([x3.1,x3.2.1,x3.2.2]:List Int)[2]?).bind fun v41 =>
 (([x3.1,x3.2.1,x3.2.2]:List Int)[0]?).bind fun v42 =>
 if (decide (1 < ([x3.1,x3.2.1,x3.2.2]:List Int).length))=true then
 ((([x3.1,x3.2.1,x3.2.2]:List Int).set 0 (BG .i64 v39 63))[1]?).bind fun v47 =>
 if (decide (1 < (([x3.1,x3.2.1,x3.2.2]:List Int).set 0 (BG .i64 v39 63)).length))=true then
 (((([x3.1,x3.2.1,x3.2.2]:List Int).set 0 (BG .i64 v39 63)).set 1 (BG .i64 v40 63))[2]?).bind fun v52 =>
 if (decide (1 < ((([x3.1,x3.2.1,x3.2.2]:List Int).set 0 (BG .i64 v39 63)).set 1 (BG .i64 v40 63)).length))=true then
 (EC [(x1.1.1,x1.1.2),(r23,x1.2.1.2),(x1.2.2.1,r35)] 3).bind fun v61 =>
 (BR x3 v14 v39 v40 v41 v61 100000 0 ([0,0,0,0,0,0,0,0,0]:List Int)).bind fun r151 =>
 match r151 with
 | (.inl w152) =>
  (BS w152 100000 0).bind fun r210 =>
  match r210 with
  | (.inl w211) =>
   LT.bind fun v214 =>
   some v214
  | (.inr w215) =>
   some false
 | (.inr w218) =>
  some false
 else none
 else none
 else none
theorem Ie {L:List Asn}{hp:Hp}(x1:Pe3) (x2:(Bool×Bool)) (x3:(Int×Int×Int)) (e1:AV) (e5:AV) (e9:AV) (v14:(List AD)) (r:(Int)) (h:DP x1 x2=some r) (hT:T hp ((cel e5 2 37 (.ag [.b x2.1,.b x2.2]))::(cel e9 3 38 (arI ([x3.1,x3.2.1,x3.2.2]:List Int)))::(cel e1 6 36 (.ag [.v (.int .u8 x1.1.1),.v (.int .u8 x1.1.2),.v (.int .u8 x1.2.1.1),.v (.int .u8 x1.2.1.2),.v (.int .u8 x1.2.2.1),.v (.int .u8 x1.2.2.2)]))::L)):SemY E0 ⟨none,false⟩ (pc Bn [1,1,0,1]) ⟨Fr 224 [(5,e1),(6,e5),(7,e9),(9,.sl 5 (v14.map AA.enc)),(22,.b x2.1)],hp⟩ (fun e s=>e = .normal/\∃ s2,(∃ (h':Hp),T h' ((cel e1 6 36 (.ag [.v (.int .u8 x1.1.1),.v (.int .u8 x1.1.2),.v (.int .u8 r),.v (.int .u8 x1.2.1.2),.v (.int .u8 x1.2.2.1),.v (.int .u8 x1.2.2.2)]))::(cel e5 2 37 (.ag [.b x2.1,.b x2.2]))::(cel e9 3 38 (arI ([x3.1,x3.2.1,x3.2.2]:List Int)))::L)/\s2=⟨Fr 224 [(5,e1),(6,e5),(7,e9),(9,.sl 5 (v14.map AA.enc))],h'⟩)/\WkY E0 s s2):=by
 unfold DP at h;refine D9 (b:=x2.1) kr (fun hb16=>?_) (fun hb16=>?_)
 ·rw [if_pos hb16] at h
  refine Bd ?_
  have hT17:=(hT.front 2 rfl)
  refine Bg AC 0 rfl (ED (AB rfl) rfl (AK (a:=e1) (b:= .j 0) kr kr (Hb (s:=2) hT17 kr))) ?_;refine Bg AC 0 rfl (ED (AB rfl) rfl (RT (a:=Dz e1 0) kr (Mt (off:=0) (o:=0) hT17 kr))) ?_;refine Bg AC 0 rfl (ED (AB rfl) rfl (EN (p:=Dz e1 0) kr (EM (off:=0) (y:= .v (.int .u8 x1.1.1)) (m:=1) (g:=false) hT17 kr kr kr))) ?_;refine Bg AC 0 rfl (ED (AB rfl) rfl (AK (a:=e1) (b:= .j 1) kr kr (Hb (s:=2) hT17 kr))) ?_;refine Bg AC 0 rfl (ED (AB rfl) rfl (RT (a:=Dz e1 2) kr (Mt (off:=0) (o:=2) hT17 kr))) ?_;obtain ⟨hp18,hs19,hT20⟩:=Mf (off:=2) (P:=Tryz.prog) (ty:=5) (y:= .v (.int .u8 x1.1.1)) (a':= .ag [.v (.int .u8 x1.1.1),.v (.int .u8 x1.1.2),.v (.int .u8 x1.1.1),.v (.int .u8 x1.2.1.2),.v (.int .u8 x1.2.2.1),.v (.int .u8 x1.2.2.2)]) hT17 kr kr kr;refine RunL.store AC (y:=Dz e1 2) (z:= .v (.int .u8 x1.1.1)) rfl (AB rfl) kr kr hs19 ?_;refine Dd rfl ?_;have hq:=OI h; subst hq;exact ⟨rfl,_,⟨hp18,hT20,rfl⟩,WkY.f1⟩
 ·rw [CZ hb16] at h
  refine SemY.skip ?_;have hq:=OI h; subst hq
  have hT22:=(((hT.front 1 rfl).front 1 rfl).front 2 rfl)
  exact ⟨rfl,_,⟨hp,hT22,rfl⟩,WkY.f1⟩
theorem If {L:List Asn}{hp:Hp}(x1:Pe3) (x2:(Bool×Bool)) (x3:(Int×Int×Int)) (e1:AV) (e5:AV) (e9:AV) (v14:(List AD)) (r23:Int) (r:(Int)) (h:DQ x1 x2=some r) (hT:T hp ((cel e5 2 37 (.ag [.b x2.1,.b x2.2]))::(cel e1 6 36 (.ag [.v (.int .u8 x1.1.1),.v (.int .u8 x1.1.2),.v (.int .u8 r23),.v (.int .u8 x1.2.1.2),.v (.int .u8 x1.2.2.1),.v (.int .u8 x1.2.2.2)]))::(cel e9 3 38 (arI ([x3.1,x3.2.1,x3.2.2]:List Int)))::L)):SemY E0 ⟨none,false⟩ (pc Bn [1,1,1,0,1]) ⟨Fr 224 [(5,e1),(7,e9),(9,.sl 5 (v14.map AA.enc)),(29,.b x2.2)],hp⟩ (fun e s=>e = .normal/\∃ s2,(∃ (h':Hp),T h' ((cel e1 6 36 (.ag [.v (.int .u8 x1.1.1),.v (.int .u8 x1.1.2),.v (.int .u8 r23),.v (.int .u8 x1.2.1.2),.v (.int .u8 x1.2.2.1),.v (.int .u8 r)]))::(cel e9 3 38 (arI ([x3.1,x3.2.1,x3.2.2]:List Int)))::L)/\s2=⟨Fr 224 [(5,e1),(7,e9),(9,.sl 5 (v14.map AA.enc))],h'⟩)/\WkY E0 s s2):=by
 unfold DQ at h;refine D9 (b:=x2.2) kr (fun hb27=>?_) (fun hb27=>?_)
 ·rw [if_pos hb27] at h
  refine Bd ?_
  have hT28:=(hT.front 1 rfl)
  refine Bg AC 0 rfl (ED (AB rfl) rfl (AK (a:=e1) (b:= .j 1) kr kr (Hb (s:=2) hT28 kr))) ?_;refine Bg AC 0 rfl (ED (AB rfl) rfl (RT (a:=Dz e1 2) kr (Mt (off:=1) (o:=2) hT28 kr))) ?_;refine Bg AC 0 rfl (ED (AB rfl) rfl (EN (p:=Dz e1 3) kr (EM (off:=3) (y:= .v (.int .u8 x1.2.1.2)) (m:=1) (g:=false) hT28 kr kr kr))) ?_;refine Bg AC 0 rfl (ED (AB rfl) rfl (AK (a:=e1) (b:= .j 2) kr kr (Hb (s:=2) hT28 kr))) ?_;refine Bg AC 0 rfl (ED (AB rfl) rfl (RT (a:=Dz e1 4) kr (Mt (off:=1) (o:=4) hT28 kr))) ?_;obtain ⟨hp29,hs30,hT31⟩:=Mf (off:=5) (P:=Tryz.prog) (ty:=5) (y:= .v (.int .u8 x1.2.1.2)) (a':= .ag [.v (.int .u8 x1.1.1),.v (.int .u8 x1.1.2),.v (.int .u8 r23),.v (.int .u8 x1.2.1.2),.v (.int .u8 x1.2.2.1),.v (.int .u8 x1.2.1.2)]) hT28 kr kr kr;refine RunL.store AC (y:=Dz e1 5) (z:= .v (.int .u8 x1.2.1.2)) rfl (AB rfl) kr kr hs30 ?_;refine Dd rfl ?_;have hq:=OI h; subst hq
  have hT33:=(hT31.front 1 rfl).drop
  exact ⟨rfl,_,⟨hp29,hT33,rfl⟩,WkY.f1⟩
 ·rw [CZ hb27] at h
  refine SemY.skip ?_;have hq:=OI h; subst hq
  have hT34:=hT.drop
  exact ⟨rfl,_,⟨hp,hT34,rfl⟩,WkY.f1⟩
theorem Fl {L:List Asn}(x3:(Int×Int×Int)) (v14:(List AD)) (v39:Int) (v40:Int) (v41:Int) (v61:(List CB)) (c67:Int) (e9:AV) (e62:AV):∀ (f:Nat) (c70:Int) (c71:(List Int)) (r:((List Int)) ⊕ (Unit)),A2 x3 v14 v39 v40 v41 v61 c67 f c70 c71=some r->∀ (hp:Hp),T hp ((cel e9 3 38 (arI (((([x3.1,x3.2.1,x3.2.2]:List Int).set 0 (BG .i64 v39 63)).set 1 (BG .i64 v40 63)).set 2 (BG .i64 v41 63))))::(cel e62 9 42 (arI c71))::L)->SemYN E0 ⟨none,false⟩ (pc Bn [1,1,1,1,1,1,1,0,1,0,0,1,1,0,0,1,1,0,0]) f ⟨Fr 224 [(7,e9),(9,.sl 5 (v14.map AA.enc)),(10,.sl 9 (v61.map AH.enc)),(11,e62),(12,.j c67),(49,.j c67),(52,.j c70)],hp⟩ (fun e s=>match r with
 | (.inl w)=>e=(.exit 2)/\∃ s2,(∃ (h':Hp),T h' ((cel e9 3 38 (arI (((([x3.1,x3.2.1,x3.2.2]:List Int).set 0 (BG .i64 v39 63)).set 1 (BG .i64 v40 63)).set 2 (BG .i64 v41 63))))::(cel e62 9 42 (arI w))::L)/\s2=⟨Fr 224 [(7,e9),(9,.sl 5 (v14.map AA.enc)),(10,.sl 9 (v61.map AH.enc)),(11,e62),(49,.j c67)],h'⟩)/\WkY E0 s s2
 | (.inr w)=>e = .ret/\∃ s2,(∃ (h':Hp),T h' (L)/\s2=⟨Fr 224 [(8,.b false)],h'⟩)/\WkY E0 s s2):=by
 intro f;induction f with
 | zero=>intro c70 c71 r h; cases h
 | succ f ih0 =>
  intro c70 c71 r h  hp hT;unfold A2 at h;refine HV ?_;refine Do AC [(7,e9),(9,.sl 5 (v14.map AA.enc)),(10,.sl 9 (v61.map AH.enc)),(11,e62),(12,.j c67),(49,.j c67),(52,.j c70),(53,.b (decide (c70 < 3)))] ?_;refine Bh ?_;refine D9 (b:=(decide (c70 < 3))) kr (fun hb72=>?_) (fun hb72=>?_)
  ·rw [if_pos hb72] at h
   refine SemY.skip ?_;refine Bh ?_;refine D0 ?_;refine Do AC [(7,e9),(9,.sl 5 (v14.map AA.enc)),(10,.sl 9 (v61.map AH.enc)),(11,e62),(12,.j c67),(13,.j c70),(49,.j c67),(52,.j c70)] ?_;refine Bh ?_;refine Jt 21 AC.mixed kr kr ?_;refine RunDT.q (x:= .sl 5 (v14.map AA.enc)) rfl kr rfl (AB rfl) rfl kr kr ?_;refine RunDT.q (x:= .sl 9 (v61.map AH.enc)) rfl kr rfl (AB rfl) rfl kr kr ?_;refine RunDT.q (x:= .j c67) rfl kr rfl (AB rfl) rfl kr kr ?_;obtain ⟨v73,hv73,h⟩:=OB h;refine RunDT.q (x:= .pe (AH.enc v73) 0) rfl kr rfl (AB rfl) rfl (AK (a:= .sl 9 (v61.map AH.enc)) (b:= .j c67) kr kr (Hw (e:=AH.enc) (el:=47) (k:=9) (ki:= .i64) kr kr hv73)) kr ?_;refine RunDT.q (x:=(AH.enc v73)) rfl kr rfl (AB rfl) rfl kr kr ?_;refine RunDT.q (x:= .sl 9 (v61.map AH.enc)) rfl kr rfl (AB rfl) rfl kr kr ?_;refine RunDT.q (x:= .j c70) rfl kr rfl (AB rfl) rfl kr kr ?_;obtain ⟨v74,hv74,h⟩:=OB h;refine RunDT.q (x:= .pe (AH.enc v74) 0) rfl kr rfl (AB rfl) rfl (AK (a:= .sl 9 (v61.map AH.enc)) (b:= .j c70) kr kr (Hw (e:=AH.enc) (el:=47) (k:=9) (ki:= .i64) kr kr hv74)) kr ?_;refine RunDT.q (x:=(AH.enc v74)) rfl kr rfl (AB rfl) rfl kr kr ?_;refine RunDT.q (x:= .j c67) rfl kr rfl (AB rfl) rfl kr kr ?_;by_cases hk75:(in3 c67)=true
   case neg=>rw [if_neg hk75] at h; cases h
   rw [if_pos hk75] at h;refine RunDT.q (x:=Dz e9 (0 + c67.toNat * 1)) rfl kr rfl (AB rfl) rfl (AK (a:=e9) (b:= .j c67) kr kr (Ga (s:=1) hT kr hk75)) kr ?_;obtain ⟨v76,hv76,h⟩:=OB h;refine RunDT.q (x:= .j v76) rfl kr rfl (AB rfl) rfl (EN (p:=Dz e9 (0 + c67.toNat * 1)) kr (EM (off:=(0 + c67.toNat * 1)) (y:= .j v76) (m:=1) (g:=false) hT kr kr (DD hv76))) (Dx (off:=(0 + c67.toNat * 1)) hT kr) ?_;refine RunDT.q (x:= .j c70) rfl kr rfl (AB rfl) rfl kr kr ?_;by_cases hk77:(in3 c70)=true
   case neg=>rw [if_neg hk77] at h; cases h
   rw [if_pos hk77] at h;refine RunDT.q (x:=Dz e9 (0 + c70.toNat * 1)) rfl kr rfl (AB rfl) rfl (AK (a:=e9) (b:= .j c70) kr kr (Ga (s:=1) hT kr hk77)) kr ?_;obtain ⟨v78,hv78,h⟩:=OB h;refine RunDT.q (x:= .j v78) rfl kr rfl (AB rfl) rfl (EN (p:=Dz e9 (0 + c70.toNat * 1)) kr (EM (off:=(0 + c70.toNat * 1)) (y:= .j v78) (m:=1) (g:=false) hT kr kr (DD hv78))) (Dx (off:=(0 + c70.toNat * 1)) hT kr) ?_;obtain ⟨v79,hv79,h⟩:=OB h;refine K7 (v:=v79) (caps:=[]) (xs:=[.sl 5 (v14.map AA.enc),AH.enc v73,AH.enc v74,.j v76,.j v78]) (u:=(v14,v73,v74,v76,v78,())) rfl rfl JG rfl (AB rfl) kr kr (A9 (B6 (c:=(cdL 5 AA)) (v:=v14)) (A9 (B6 (c:=AH) (v:=v73)) (A9 (B6 (c:=AH) (v:=v74)) (A9 (B6 (c:=cdI) (v:=v76)) (A9 (B6 (c:=cdI) (v:=v78)) SeesD.nil))))) kr hv79 ?_;refine RunDT.q (x:= .tp [.j v79.1,.j v79.2]) rfl kr rfl (AB rfl) rfl kr kr ?_;refine RunDT.q (x:= .j v79.1) rfl kr rfl (AB rfl) rfl kr kr ?_;refine RunDT.q (x:= .j v79.2) rfl kr rfl (AB rfl) rfl kr kr ?_;refine RunDT.q (x:= .j v79.1) rfl kr rfl (AB rfl) rfl kr kr ?_;refine RunDT.q (x:= .j v79.2) rfl kr rfl (AB rfl) rfl kr kr ?_;refine RunDT.done rfl (SemY.fr (l':=[(7,e9),(9,.sl 5 (v14.map AA.enc)),(10,.sl 9 (v61.map AH.enc)),(11,e62),(12,.j c67),(13,.j c70),(14,.j v79.1),(15,.j v79.2),(49,.j c67),(52,.j c70)]) kr ?_);refine Bh ?_;refine Bh ?_;obtain ⟨j87,hj87,h⟩:=OB h;refine Js 39 (A:=fun s1=>∃ (h':Hp),T h' ((cel e9 3 38 (arI (((([x3.1,x3.2.1,x3.2.2]:List Int).set 0 (BG .i64 v39 63)).set 1 (BG .i64 v40 63)).set 2 (BG .i64 v41 63))))::(cel e62 9 42 (arI c71))::L)/\s1=⟨Fr 224 [(7,e9),(9,.sl 5 (v14.map AA.enc)),(10,.sl 9 (v61.map AH.enc)),(11,e62),(12,.j c67),(13,.j c70),(14,.j v79.1),(15,.j v79.2),(49,.j c67),(52,.j c70),(112,.b j87)],h'⟩) AC.mixed kr kr ?_ ?_
   ·refine RunDT.q (x:= .j v79.2) rfl kr rfl (AB rfl) rfl kr kr ?_
    refine RunDT.q (x:= .b (decide (v79.2 < (-1)))) rfl kr rfl (AB rfl) rfl kr kr ?_;refine RunDT.q (x:= .b (decide (v79.2 < (-1)))) rfl kr rfl (AB rfl) rfl kr kr ?_;rcases BE (decide (v79.2 < (-1))) with hc136 | hc136
    ·rw [if_pos hc136] at hj87
     rw [hc136];refine RunDT.skip rfl kr rfl ?_;refine RunDT.skip rfl kr rfl ?_;refine RunDT.q (x:= .b true) rfl kr rfl (AB rfl) rfl kr kr ?_;refine RunDT.q (x:= .b true) rfl kr rfl (AB rfl) rfl kr kr ?_;refine RunDT.skip rfl kr rfl ?_;refine RunDT.skip rfl kr rfl ?_;refine RunDT.skip rfl kr rfl ?_;refine RunDT.skip rfl kr rfl ?_;refine RunDT.skip rfl kr rfl ?_;refine RunDT.q (x:= .b true) rfl kr rfl (AB rfl) rfl kr kr ?_;refine RunDT.q (x:= .b true) rfl kr rfl (AB rfl) rfl kr kr ?_;refine RunDT.skip rfl kr rfl ?_;refine RunDT.skip rfl kr rfl ?_;refine RunDT.skip rfl kr rfl ?_;refine RunDT.skip rfl kr rfl ?_;refine RunDT.q (x:= .b true) rfl kr rfl (AB rfl) rfl kr kr ?_;refine RunDT.q (x:= .b true) rfl kr rfl (AB rfl) rfl kr kr ?_;refine RunDT.skip rfl kr rfl ?_;refine RunDT.skip rfl kr rfl ?_;refine RunDT.skip rfl kr rfl ?_;refine RunDT.skip rfl kr rfl ?_;refine RunDT.skip rfl kr rfl ?_;refine RunDT.skip rfl kr rfl ?_;refine RunDT.skip rfl kr rfl ?_;refine RunDT.skip rfl kr rfl ?_;refine RunDT.skip rfl kr rfl ?_;refine RunDT.skip rfl kr rfl ?_;refine RunDT.skip rfl kr rfl ?_;refine RunDT.skip rfl kr rfl ?_;refine RunDT.skip rfl kr rfl ?_;refine RunDT.skip rfl kr rfl ?_;refine RunDT.skip rfl kr rfl ?_;refine RunDT.skip rfl kr rfl ?_;refine RunDT.skip rfl kr rfl ?_;refine RunDT.skip rfl kr rfl ?_;refine RunDT.q (x:= .b true) rfl kr rfl (AB rfl) rfl kr kr ?_;have hq:=OI hj87; subst hq;exact RunDT.done rfl ⟨_,⟨hp,hT,rfl⟩,WkY.f1⟩
    ·rw [CZ hc136] at hj87
     rw [hc136];refine RunDT.q (x:= .j v79.2) rfl kr rfl kr rfl kr kr ?_;refine RunDT.q (x:= .b (decide (v79.2 > 1))) rfl kr rfl kr rfl kr kr ?_;refine RunDT.q (x:= .b (decide (v79.2 > 1))) rfl kr rfl (AB rfl) rfl kr kr ?_;refine RunDT.q (x:= .b (decide (v79.2 > 1))) rfl kr rfl (AB rfl) rfl kr kr ?_;rcases BE (decide (v79.2 > 1)) with hc137 | hc137
     ·rw [if_pos hc137] at hj87
      rw [hc137];refine RunDT.skip rfl kr rfl ?_;refine RunDT.skip rfl kr rfl ?_;refine RunDT.skip rfl kr rfl ?_;refine RunDT.skip rfl kr rfl ?_;refine RunDT.skip rfl kr rfl ?_;refine RunDT.q (x:= .b true) rfl kr rfl (AB rfl) rfl kr kr ?_;refine RunDT.q (x:= .b true) rfl kr rfl (AB rfl) rfl kr kr ?_;refine RunDT.skip rfl kr rfl ?_;refine RunDT.skip rfl kr rfl ?_;refine RunDT.skip rfl kr rfl ?_;refine RunDT.skip rfl kr rfl ?_;refine RunDT.q (x:= .b true) rfl kr rfl (AB rfl) rfl kr kr ?_;refine RunDT.q (x:= .b true) rfl kr rfl (AB rfl) rfl kr kr ?_;refine RunDT.skip rfl kr rfl ?_;refine RunDT.skip rfl kr rfl ?_;refine RunDT.skip rfl kr rfl ?_;refine RunDT.skip rfl kr rfl ?_;refine RunDT.skip rfl kr rfl ?_;refine RunDT.skip rfl kr rfl ?_;refine RunDT.skip rfl kr rfl ?_;refine RunDT.skip rfl kr rfl ?_;refine RunDT.skip rfl kr rfl ?_;refine RunDT.skip rfl kr rfl ?_;refine RunDT.skip rfl kr rfl ?_;refine RunDT.skip rfl kr rfl ?_;refine RunDT.skip rfl kr rfl ?_;refine RunDT.skip rfl kr rfl ?_;refine RunDT.skip rfl kr rfl ?_;refine RunDT.skip rfl kr rfl ?_;refine RunDT.skip rfl kr rfl ?_;refine RunDT.skip rfl kr rfl ?_;refine RunDT.q (x:= .b true) rfl kr rfl (AB rfl) rfl kr kr ?_;have hq:=OI hj87; subst hq;exact RunDT.done rfl ⟨_,⟨hp,hT,rfl⟩,WkY.f1⟩
     ·rw [CZ hc137] at hj87
      rw [hc137];refine RunDT.q (x:= .j v79.1) rfl kr rfl kr rfl kr kr ?_;refine RunDT.q (x:= .b (decide (v79.1 < 0))) rfl kr rfl kr rfl kr kr ?_;refine RunDT.q (x:= .j v79.2) rfl kr rfl kr rfl kr kr ?_;refine RunDT.q (x:= .b (v79.2==0)) rfl kr rfl kr rfl kr kr ?_;refine RunDT.q (x:= .b (!((decide (v79.1 < 0))==(v79.2==0)))) rfl kr rfl kr rfl kr kr ?_;refine RunDT.q (x:= .b (!((decide (v79.1 < 0))==(v79.2==0)))) rfl kr rfl (AB rfl) rfl kr kr ?_;refine RunDT.q (x:= .b (!((decide (v79.1 < 0))==(v79.2==0)))) rfl kr rfl (AB rfl) rfl kr kr ?_;rcases BE (!((decide (v79.1 < 0))==(v79.2==0))) with hc138 | hc138
      ·rw [if_pos hc138] at hj87
       rw [hc138];refine RunDT.skip rfl kr rfl ?_;refine RunDT.skip rfl kr rfl ?_;refine RunDT.skip rfl kr rfl ?_;refine RunDT.skip rfl kr rfl ?_;refine RunDT.q (x:= .b true) rfl kr rfl (AB rfl) rfl kr kr ?_;refine RunDT.q (x:= .b true) rfl kr rfl (AB rfl) rfl kr kr ?_;refine RunDT.skip rfl kr rfl ?_;refine RunDT.skip rfl kr rfl ?_;refine RunDT.skip rfl kr rfl ?_;refine RunDT.skip rfl kr rfl ?_;refine RunDT.skip rfl kr rfl ?_;refine RunDT.skip rfl kr rfl ?_;refine RunDT.skip rfl kr rfl ?_;refine RunDT.skip rfl kr rfl ?_;refine RunDT.skip rfl kr rfl ?_;refine RunDT.skip rfl kr rfl ?_;refine RunDT.skip rfl kr rfl ?_;refine RunDT.skip rfl kr rfl ?_;refine RunDT.skip rfl kr rfl ?_;refine RunDT.skip rfl kr rfl ?_;refine RunDT.skip rfl kr rfl ?_;refine RunDT.skip rfl kr rfl ?_;refine RunDT.skip rfl kr rfl ?_;refine RunDT.skip rfl kr rfl ?_;refine RunDT.q (x:= .b true) rfl kr rfl (AB rfl) rfl kr kr ?_;have hq:=OI hj87; subst hq;exact RunDT.done rfl ⟨_,⟨hp,hT,rfl⟩,WkY.f1⟩
      ·rw [CZ hc138] at hj87
       rw [hc138];refine RunDT.q (x:= .j v79.1) rfl kr rfl kr rfl kr kr ?_;refine RunDT.q (x:= .sl 5 (v14.map AA.enc)) rfl kr rfl kr rfl kr kr ?_;refine RunDT.q (x:= .j (v14.length:Int)) rfl kr rfl kr rfl (Ij (a:= .sl 5 (v14.map AA.enc)) kr (Fp (el:=66) kr)) kr ?_;refine RunDT.q (x:= .b (decide (v79.1≥(v14.length:Int)))) rfl kr rfl kr rfl kr kr ?_;refine RunDT.q (x:= .b (decide (v79.1≥(v14.length:Int)))) rfl kr rfl (AB rfl) rfl kr kr ?_;refine RunDT.q (x:= .b (decide (v79.1≥(v14.length:Int)))) rfl kr rfl (AB rfl) rfl kr kr ?_;rcases BE (decide (v79.1≥(v14.length:Int))) with hc139 | hc139
       ·rw [if_pos hc139] at hj87
        rw [hc139];refine RunDT.skip rfl kr rfl ?_;refine RunDT.skip rfl kr rfl ?_;refine RunDT.skip rfl kr rfl ?_;refine RunDT.skip rfl kr rfl ?_;refine RunDT.skip rfl kr rfl ?_;refine RunDT.skip rfl kr rfl ?_;refine RunDT.skip rfl kr rfl ?_;refine RunDT.skip rfl kr rfl ?_;refine RunDT.skip rfl kr rfl ?_;refine RunDT.skip rfl kr rfl ?_;refine RunDT.skip rfl kr rfl ?_;refine RunDT.skip rfl kr rfl ?_;refine RunDT.skip rfl kr rfl ?_;refine RunDT.skip rfl kr rfl ?_;refine RunDT.skip rfl kr rfl ?_;refine RunDT.skip rfl kr rfl ?_;refine RunDT.skip rfl kr rfl ?_;refine RunDT.skip rfl kr rfl ?_;refine RunDT.q (x:= .b true) rfl kr rfl (AB rfl) rfl kr kr ?_;have hq:=OI hj87; subst hq;exact RunDT.done rfl ⟨_,⟨hp,hT,rfl⟩,WkY.f1⟩
       ·rw [CZ hc139] at hj87
        rw [hc139];refine RunDT.q (x:= .sl 5 (v14.map AA.enc)) rfl kr rfl kr rfl kr kr ?_;refine RunDT.q (x:= .sl 9 (v61.map AH.enc)) rfl kr rfl kr rfl kr kr ?_;refine RunDT.q (x:= .j c67) rfl kr rfl kr rfl kr kr ?_;obtain ⟨v80,hv80,hj87⟩:=OB hj87;refine RunDT.q (x:= .pe (AH.enc v80) 0) rfl kr rfl kr rfl (AK (a:= .sl 9 (v61.map AH.enc)) (b:= .j c67) kr kr (Hw (e:=AH.enc) (el:=47) (k:=9) (ki:= .i64) kr kr hv80)) kr ?_;refine RunDT.q (x:=(AH.enc v80)) rfl kr rfl kr rfl kr kr ?_;refine RunDT.q (x:= .sl 9 (v61.map AH.enc)) rfl kr rfl kr rfl kr kr ?_;refine RunDT.q (x:= .j c70) rfl kr rfl kr rfl kr kr ?_;obtain ⟨v81,hv81,hj87⟩:=OB hj87;refine RunDT.q (x:= .pe (AH.enc v81) 0) rfl kr rfl kr rfl (AK (a:= .sl 9 (v61.map AH.enc)) (b:= .j c70) kr kr (Hw (e:=AH.enc) (el:=47) (k:=9) (ki:= .i64) kr kr hv81)) kr ?_;refine RunDT.q (x:=(AH.enc v81)) rfl kr rfl kr rfl kr kr ?_;refine RunDT.q (x:= .j c67) rfl kr rfl kr rfl kr kr ?_;by_cases hk82:(in3 c67)=true
        case neg=>rw [if_neg hk82] at hj87; cases hj87
        rw [if_pos hk82] at hj87;refine RunDT.q (x:=Dz e9 (0 + c67.toNat * 1)) rfl kr rfl kr rfl (AK (a:=e9) (b:= .j c67) kr kr (Ga (s:=1) hT kr hk82)) kr ?_;obtain ⟨v83,hv83,hj87⟩:=OB hj87;refine RunDT.q (x:= .j v83) rfl kr rfl kr rfl (EN (p:=Dz e9 (0 + c67.toNat * 1)) kr (EM (off:=(0 + c67.toNat * 1)) (y:= .j v83) (m:=1) (g:=false) hT kr kr (DD hv83))) (Dx (off:=(0 + c67.toNat * 1)) hT kr) ?_;refine RunDT.q (x:= .j c70) rfl kr rfl kr rfl kr kr ?_;by_cases hk84:(in3 c70)=true
        case neg=>rw [if_neg hk84] at hj87; cases hj87
        rw [if_pos hk84] at hj87;refine RunDT.q (x:=Dz e9 (0 + c70.toNat * 1)) rfl kr rfl kr rfl (AK (a:=e9) (b:= .j c70) kr kr (Ga (s:=1) hT kr hk84)) kr ?_;obtain ⟨v85,hv85,hj87⟩:=OB hj87;refine RunDT.q (x:= .j v85) rfl kr rfl kr rfl (EN (p:=Dz e9 (0 + c70.toNat * 1)) kr (EM (off:=(0 + c70.toNat * 1)) (y:= .j v85) (m:=1) (g:=false) hT kr kr (DD hv85))) (Dx (off:=(0 + c70.toNat * 1)) hT kr) ?_;obtain ⟨v86,hv86,hj87⟩:=OB hj87;refine K7 (v:=v86) (caps:=[]) (xs:=[.sl 5 (v14.map AA.enc),AH.enc v80,AH.enc v81,.j v83,.j v85]) (u:=(v14,v80,v81,v83,v85,())) rfl rfl Gx rfl kr kr kr (A9 (B6 (c:=(cdL 5 AA)) (v:=v14)) (A9 (B6 (c:=AH) (v:=v80)) (A9 (B6 (c:=AH) (v:=v81)) (A9 (B6 (c:=cdI) (v:=v83)) (A9 (B6 (c:=cdI) (v:=v85)) SeesD.nil))))) kr hv86 ?_;refine RunDT.q (x:= .j v79.2) rfl kr rfl kr rfl kr kr ?_;refine RunDT.q (x:= .b (v86 != v79.2)) rfl kr rfl kr rfl kr kr ?_;refine RunDT.q (x:= .b (v86 != v79.2)) rfl kr rfl (AB rfl) rfl kr kr ?_;have hq:=OI hj87; subst hq;exact RunDT.done rfl ⟨_,⟨hp,hT,rfl⟩,WkY.f1⟩
   rintro _ ⟨hp94,hT95,rfl⟩;refine D9 (b:=j87) kr (fun hb96=>?_) (fun hb96=>?_)
   ·rw [if_pos hb96] at h
    refine Do AC [(8,.b false)] ?_;refine SemY.ret ?_;have hq:=OI h; subst hq
    have hT97:=hT95.drop.drop
    exact ⟨rfl,_,⟨hp94,hT97,rfl⟩,WkY.f1⟩
   ·rw [CZ hb96] at h
    refine SemY.skip ?_;refine Bh ?_;refine Bh ?_;obtain ⟨j114,hj114,h⟩:=OB h;refine Js 46 (A:=fun s1=>∃ (h':Hp),T h' ((cel e9 3 38 (arI (((([x3.1,x3.2.1,x3.2.2]:List Int).set 0 (BG .i64 v39 63)).set 1 (BG .i64 v40 63)).set 2 (BG .i64 v41 63))))::(cel e62 9 42 (arI c71))::L)/\s1=⟨Fr 224 [(7,e9),(9,.sl 5 (v14.map AA.enc)),(10,.sl 9 (v61.map AH.enc)),(11,e62),(12,.j c67),(13,.j c70),(15,.j v79.2),(49,.j c67),(52,.j c70),(158,.b j114)],h'⟩) AC.mixed kr kr ?_ ?_
    ·refine RunDT.q (x:= .j v79.1) rfl kr rfl (AB rfl) rfl kr kr ?_
     refine RunDT.q (x:= .b (decide (v79.1≥0))) rfl kr rfl (AB rfl) rfl kr kr ?_;refine RunDT.q (x:= .b (decide (v79.1≥0))) rfl kr rfl (AB rfl) rfl kr kr ?_;rcases BE (decide (v79.1≥0)) with hc134 | hc134
     ·rw [if_pos hc134] at hj114
      rw [hc134];refine RunDT.q (x:= .sl 5 (v14.map AA.enc)) rfl kr rfl kr rfl kr kr ?_;refine RunDT.q (x:= .j v79.1) rfl kr rfl kr rfl kr kr ?_;obtain ⟨v98,hv98,hj114⟩:=OB hj114;refine K6 (v:=v98) (caps:=[]) (xs:=[.sl 5 (v14.map AA.enc),.j v79.1]) (u:=(v14,v79.1,())) rfl rfl Kb rfl kr kr kr (A9 (B6 (c:=(cdL 5 AA)) (v:=v14)) (A9 (B6 (c:=cdI) (v:=v79.1)) SeesD.nil)) ⟨by kernel_rfl,FH.de (v14,v79.1,())⟩ kr hv98 ?_;refine RunDG.q (x:= .sl 9 (v61.map AH.enc)) rfl kr rfl kr rfl kr kr ?_;refine RunDG.q (x:= .j c67) rfl kr rfl kr rfl kr kr ?_;obtain ⟨v99,hv99,hj114⟩:=OB hj114;refine RunDG.q (x:= .pe (AH.enc v99) 0) rfl kr rfl kr rfl (AK (a:= .sl 9 (v61.map AH.enc)) (b:= .j c67) kr kr (Hw (e:=AH.enc) (el:=47) (k:=9) (ki:= .i64) kr kr hv99)) kr ?_;refine RunDG.q (x:=(AH.enc v99)) rfl kr rfl kr rfl kr kr ?_;refine RunDG.q (x:= .sl 9 (v61.map AH.enc)) rfl kr rfl kr rfl kr kr ?_;refine RunDG.q (x:= .j c70) rfl kr rfl kr rfl kr kr ?_;obtain ⟨v100,hv100,hj114⟩:=OB hj114;refine RunDG.q (x:= .pe (AH.enc v100) 0) rfl kr rfl kr rfl (AK (a:= .sl 9 (v61.map AH.enc)) (b:= .j c70) kr kr (Hw (e:=AH.enc) (el:=47) (k:=9) (ki:= .i64) kr kr hv100)) kr ?_;refine RunDG.q (x:=(AH.enc v100)) rfl kr rfl kr rfl kr kr ?_;refine RunDG.q (x:= .j c67) rfl kr rfl kr rfl kr kr ?_;by_cases hk101:(in3 c67)=true
      case neg=>rw [if_neg hk101] at hj114; cases hj114
      rw [if_pos hk101] at hj114;refine RunDG.q (x:=Dz e9 (0 + c67.toNat * 1)) rfl kr rfl kr rfl (AK (a:=e9) (b:= .j c67) kr kr (Ga (s:=1) hT95 kr hk101)) kr ?_;obtain ⟨v102,hv102,hj114⟩:=OB hj114;refine RunDG.q (x:= .j v102) rfl kr rfl kr rfl (EN (p:=Dz e9 (0 + c67.toNat * 1)) kr (EM (off:=(0 + c67.toNat * 1)) (y:= .j v102) (m:=1) (g:=false) hT95 kr kr (DD hv102))) (Dx (off:=(0 + c67.toNat * 1)) hT95 kr) ?_;refine RunDG.q (x:= .j c70) rfl kr rfl kr rfl kr kr ?_;by_cases hk103:(in3 c70)=true
      case neg=>rw [if_neg hk103] at hj114; cases hj114
      rw [if_pos hk103] at hj114;refine RunDG.q (x:=Dz e9 (0 + c70.toNat * 1)) rfl kr rfl kr rfl (AK (a:=e9) (b:= .j c70) kr kr (Ga (s:=1) hT95 kr hk103)) kr ?_;obtain ⟨v104,hv104,hj114⟩:=OB hj114;refine RunDG.q (x:= .j v104) rfl kr rfl kr rfl (EN (p:=Dz e9 (0 + c70.toNat * 1)) kr (EM (off:=(0 + c70.toNat * 1)) (y:= .j v104) (m:=1) (g:=false) hT95 kr kr (DD hv104))) (Dx (off:=(0 + c70.toNat * 1)) hT95 kr) ?_;obtain ⟨v105,hv105,hj114⟩:=OB hj114;refine K5 (v:=v105) (caps:=[]) (xs:=[.sl 5 (v98.map AA.enc),AH.enc v99,AH.enc v100,.j v102,.j v104]) (u:=(v98,v99,v100,v102,v104,())) rfl rfl Gx rfl kr kr kr (A9 (B6 (c:=(cdL 5 AA)) (v:=v98)) (A9 (B6 (c:=AH) (v:=v99)) (A9 (B6 (c:=AH) (v:=v100)) (A9 (B6 (c:=cdI) (v:=v102)) (A9 (B6 (c:=cdI) (v:=v104)) SeesD.nil))))) kr hv105 ?_;refine RunDT.q (x:= .b (v105 != 0)) rfl kr rfl kr rfl kr kr ?_;refine RunDT.q (x:= .b (v105 != 0)) rfl kr rfl kr rfl kr kr ?_;rcases BE (v105 != 0) with hc135 | hc135
      ·rw [if_pos hc135] at hj114
       rw [hc135];refine RunDT.skip rfl kr rfl ?_;refine RunDT.skip rfl kr rfl ?_;refine RunDT.skip rfl kr rfl ?_;refine RunDT.skip rfl kr rfl ?_;refine RunDT.skip rfl kr rfl ?_;refine RunDT.skip rfl kr rfl ?_;refine RunDT.skip rfl kr rfl ?_;refine RunDT.skip rfl kr rfl ?_;refine RunDT.skip rfl kr rfl ?_;refine RunDT.skip rfl kr rfl ?_;refine RunDT.skip rfl kr rfl ?_;refine RunDT.skip rfl kr rfl ?_;refine RunDT.skip rfl kr rfl ?_;refine RunDT.skip rfl kr rfl ?_;refine RunDT.skip rfl kr rfl ?_;refine RunDT.skip rfl kr rfl ?_;refine RunDT.skip rfl kr rfl ?_;refine RunDT.skip rfl kr rfl ?_;refine RunDT.skip rfl kr rfl ?_;refine RunDT.skip rfl kr rfl ?_;refine RunDT.skip rfl kr rfl ?_;refine RunDT.q (x:= .b true) rfl kr rfl kr rfl kr kr ?_;refine RunDT.q (x:= .b true) rfl kr rfl (AB rfl) rfl kr kr ?_;have hq:=OI hj114; subst hq;exact RunDT.done rfl ⟨_,⟨hp94,hT95,rfl⟩,WkY.f1⟩
      ·rw [CZ hc135] at hj114
       rw [hc135];refine RunDT.q (x:= .sl 5 (v14.map AA.enc)) rfl kr rfl kr rfl kr kr ?_;refine RunDT.q (x:= .j v79.1) rfl kr rfl kr rfl kr kr ?_;refine RunDT.q (x:= .j (wr .i64 (v79.1 + 1))) rfl kr rfl kr rfl kr kr ?_;obtain ⟨v106,hv106,hj114⟩:=OB hj114;refine K6 (v:=v106) (caps:=[]) (xs:=[.sl 5 (v14.map AA.enc),.j (wr .i64 (v79.1 + 1))]) (u:=(v14,(wr .i64 (v79.1 + 1)),())) rfl rfl Kb rfl kr kr kr (A9 (B6 (c:=(cdL 5 AA)) (v:=v14)) (A9 (B6 (c:=cdI) (v:=(wr .i64 (v79.1 + 1)))) SeesD.nil)) ⟨by kernel_rfl,FH.de (v14,(wr .i64 (v79.1 + 1)),())⟩ kr (by dsimp only; exact hv106) ?_;refine RunDG.q (x:= .sl 9 (v61.map AH.enc)) rfl kr rfl kr rfl kr kr ?_;refine RunDG.q (x:= .j c67) rfl kr rfl kr rfl kr kr ?_;obtain ⟨v107,hv107,hj114⟩:=OB hj114;refine RunDG.q (x:= .pe (AH.enc v107) 0) rfl kr rfl kr rfl (AK (a:= .sl 9 (v61.map AH.enc)) (b:= .j c67) kr kr (Hw (e:=AH.enc) (el:=47) (k:=9) (ki:= .i64) kr kr hv107)) kr ?_;refine RunDG.q (x:=(AH.enc v107)) rfl kr rfl kr rfl kr kr ?_;refine RunDG.q (x:= .sl 9 (v61.map AH.enc)) rfl kr rfl kr rfl kr kr ?_;refine RunDG.q (x:= .j c70) rfl kr rfl kr rfl kr kr ?_;obtain ⟨v108,hv108,hj114⟩:=OB hj114;refine RunDG.q (x:= .pe (AH.enc v108) 0) rfl kr rfl kr rfl (AK (a:= .sl 9 (v61.map AH.enc)) (b:= .j c70) kr kr (Hw (e:=AH.enc) (el:=47) (k:=9) (ki:= .i64) kr kr hv108)) kr ?_;refine RunDG.q (x:=(AH.enc v108)) rfl kr rfl kr rfl kr kr ?_;refine RunDG.q (x:= .j c67) rfl kr rfl kr rfl kr kr ?_;by_cases hk109:(in3 c67)=true
       case neg=>rw [if_neg hk109] at hj114; cases hj114
       rw [if_pos hk109] at hj114;refine RunDG.q (x:=Dz e9 (0 + c67.toNat * 1)) rfl kr rfl kr rfl (AK (a:=e9) (b:= .j c67) kr kr (Ga (s:=1) hT95 kr hk109)) kr ?_;obtain ⟨v110,hv110,hj114⟩:=OB hj114;refine RunDG.q (x:= .j v110) rfl kr rfl kr rfl (EN (p:=Dz e9 (0 + c67.toNat * 1)) kr (EM (off:=(0 + c67.toNat * 1)) (y:= .j v110) (m:=1) (g:=false) hT95 kr kr (DD hv110))) (Dx (off:=(0 + c67.toNat * 1)) hT95 kr) ?_;refine RunDG.q (x:= .j c70) rfl kr rfl kr rfl kr kr ?_;by_cases hk111:(in3 c70)=true
       case neg=>rw [if_neg hk111] at hj114; cases hj114
       rw [if_pos hk111] at hj114;refine RunDG.q (x:=Dz e9 (0 + c70.toNat * 1)) rfl kr rfl kr rfl (AK (a:=e9) (b:= .j c70) kr kr (Ga (s:=1) hT95 kr hk111)) kr ?_;obtain ⟨v112,hv112,hj114⟩:=OB hj114;refine RunDG.q (x:= .j v112) rfl kr rfl kr rfl (EN (p:=Dz e9 (0 + c70.toNat * 1)) kr (EM (off:=(0 + c70.toNat * 1)) (y:= .j v112) (m:=1) (g:=false) hT95 kr kr (DD hv112))) (Dx (off:=(0 + c70.toNat * 1)) hT95 kr) ?_;obtain ⟨v113,hv113,hj114⟩:=OB hj114;refine K5 (v:=v113) (caps:=[]) (xs:=[.sl 5 (v106.map AA.enc),AH.enc v107,AH.enc v108,.j v110,.j v112]) (u:=(v106,v107,v108,v110,v112,())) rfl rfl Gx rfl kr kr kr (A9 (B6 (c:=(cdL 5 AA)) (v:=v106)) (A9 (B6 (c:=AH) (v:=v107)) (A9 (B6 (c:=AH) (v:=v108)) (A9 (B6 (c:=cdI) (v:=v110)) (A9 (B6 (c:=cdI) (v:=v112)) SeesD.nil))))) kr hv113 ?_;refine RunDT.q (x:= .j v79.2) rfl kr rfl kr rfl kr kr ?_;refine RunDT.q (x:= .b (v113 != v79.2)) rfl kr rfl kr rfl kr kr ?_;refine RunDT.q (x:= .b (v113 != v79.2)) rfl kr rfl kr rfl kr kr ?_;refine RunDT.q (x:= .b (v113 != v79.2)) rfl kr rfl (AB rfl) rfl kr kr ?_;have hq:=OI hj114; subst hq;exact RunDT.done rfl ⟨_,⟨hp94,hT95,rfl⟩,WkY.f1⟩
     ·rw [CZ hc134] at hj114
      rw [hc134];refine RunDT.skip rfl kr rfl ?_;refine RunDT.skip rfl kr rfl ?_;refine RunDT.skip rfl kr rfl ?_;refine RunDT.skip rfl kr rfl ?_;refine RunDT.skip rfl kr rfl ?_;refine RunDT.skip rfl kr rfl ?_;refine RunDT.skip rfl kr rfl ?_;refine RunDT.skip rfl kr rfl ?_;refine RunDT.skip rfl kr rfl ?_;refine RunDT.skip rfl kr rfl ?_;refine RunDT.skip rfl kr rfl ?_;refine RunDT.skip rfl kr rfl ?_;refine RunDT.skip rfl kr rfl ?_;refine RunDT.skip rfl kr rfl ?_;refine RunDT.skip rfl kr rfl ?_;refine RunDT.skip rfl kr rfl ?_;refine RunDT.skip rfl kr rfl ?_;refine RunDT.skip rfl kr rfl ?_;refine RunDT.skip rfl kr rfl ?_;refine RunDT.skip rfl kr rfl ?_;refine RunDT.skip rfl kr rfl ?_;refine RunDT.skip rfl kr rfl ?_;refine RunDT.skip rfl kr rfl ?_;refine RunDT.skip rfl kr rfl ?_;refine RunDT.skip rfl kr rfl ?_;refine RunDT.skip rfl kr rfl ?_;refine RunDT.skip rfl kr rfl ?_;refine RunDT.skip rfl kr rfl ?_;refine RunDT.skip rfl kr rfl ?_;refine RunDT.skip rfl kr rfl ?_;refine RunDT.skip rfl kr rfl ?_;refine RunDT.skip rfl kr rfl ?_;refine RunDT.skip rfl kr rfl ?_;refine RunDT.skip rfl kr rfl ?_;refine RunDT.skip rfl kr rfl ?_;refine RunDT.skip rfl kr rfl ?_;refine RunDT.skip rfl kr rfl ?_;refine RunDT.skip rfl kr rfl ?_;refine RunDT.skip rfl kr rfl ?_;refine RunDT.skip rfl kr rfl ?_;refine RunDT.skip rfl kr rfl ?_;refine RunDT.skip rfl kr rfl ?_;refine RunDT.q (x:= .b false) rfl kr rfl (AB rfl) rfl kr kr ?_;have hq:=OI hj114; subst hq;exact RunDT.done rfl ⟨_,⟨hp94,hT95,rfl⟩,WkY.f1⟩
    rintro _ ⟨hp121,hT122,rfl⟩;refine D9 (b:=j114) kr (fun hb123=>?_) (fun hb123=>?_)
    ·rw [if_pos hb123] at h
     refine Do AC [(8,.b false)] ?_;refine SemY.ret ?_;have hq:=OI h; subst hq
     have hT124:=hT122.drop.drop
     exact ⟨rfl,_,⟨hp121,hT124,rfl⟩,WkY.f1⟩
    ·rw [CZ hb123] at h
     refine SemY.skip ?_;refine Bd ?_;refine HE AC 3 ?_;by_cases hk125:(in3 c67)=true
     case neg=>rw [if_neg hk125] at h; cases h
     rw [if_pos hk125] at h
     have hT126:=(hT122.front 1 rfl)
     refine Bg AC 0 rfl (ED (AB rfl) rfl (AK (a:=e62) (b:= .j c67) kr kr (Ga (s:=3) hT126 kr hk125))) ?_;by_cases hk127:(in3 c70)=true
     case neg=>rw [if_neg hk127] at h; cases h
     rw [if_pos hk127] at h;refine Bg AC 0 rfl (ED (AB rfl) rfl (AK (a:=Dz e62 (0 + c67.toNat * 3)) (b:= .j c70) kr kr (Nf (s:=1) hT126 kr hk127))) ?_;obtain ⟨v128,hv128,h⟩:=OB h;by_cases hk129:(decide (1 < c71.length))=true
     case neg=>rw [if_neg hk129] at h; cases h
     rw [if_pos hk129] at h;obtain ⟨hp130,hs131,hT132⟩:=Mf (off:=((0 + c67.toNat * 3) + c70.toNat * 1)) (P:=Tryz.prog) (ty:=3) (y:= .j v79.2) (a':=arI (c71.set ((0 + c67.toNat * 3) + c70.toNat * 1) v79.2)) hT126 kr kr (K2 hv128 hk129);refine RunL.store AC (y:=Dz e62 ((0 + c67.toNat * 3) + c70.toNat * 1)) (z:= .j v79.2) rfl (AB rfl) kr kr hs131 ?_;refine Dd rfl (SemY.fr (l':=[(7,e9),(9,.sl 5 (v14.map AA.enc)),(10,.sl 9 (v61.map AH.enc)),(11,e62),(12,.j c67),(49,.j c67),(52,.j c70)]) kr ?_);refine Bd ?_;refine HE AC 2 ?_;refine Dd rfl ?_
     have hT133:=(hT132.front 1 rfl)
     exact Dp WkY.f1 (ih0 (wr .i64 (c70 + 1)) (c71.set ((0 + c67.toNat * 3) + c70.toNat * 1) v79.2) _ h  hp130 hT133)
  ·rw [CZ hb72] at h
   refine SemY.exit ?_;have hq:=OI h; subst hq;exact ⟨rfl,_,⟨hp,hT,rfl⟩,WkY.f1⟩
theorem Fk {L:List Asn}(x3:(Int×Int×Int)) (v14:(List AD)) (v39:Int) (v40:Int) (v41:Int) (v61:(List CB)) (e9:AV) (e62:AV):∀ (f:Nat) (c67:Int) (c68:(List Int)) (r:((List Int)) ⊕ (Unit)),BR x3 v14 v39 v40 v41 v61 f c67 c68=some r->∀ (hp:Hp),T hp ((cel e9 3 38 (arI (((([x3.1,x3.2.1,x3.2.2]:List Int).set 0 (BG .i64 v39 63)).set 1 (BG .i64 v40 63)).set 2 (BG .i64 v41 63))))::(cel e62 9 42 (arI c68))::L)->SemYN E0 ⟨none,false⟩ (pc Bn [1,1,1,1,1,1,1,0,1,0,0]) f ⟨Fr 224 [(7,e9),(9,.sl 5 (v14.map AA.enc)),(10,.sl 9 (v61.map AH.enc)),(11,e62),(49,.j c67)],hp⟩ (fun e s=>match r with
 | (.inl w)=>e=(.exit 0)/\∃ s2,(∃ (h':Hp),T h' ((cel e62 9 42 (arI w))::L)/\s2=⟨Fr 224 [(11,e62)],h'⟩)/\WkY E0 s s2
 | (.inr w)=>e = .ret/\∃ s2,(∃ (h':Hp),T h' (L)/\s2=⟨Fr 224 [(8,.b false)],h'⟩)/\WkY E0 s s2):=by
 intro f;induction f with
 | zero=>intro c67 c68 r h; cases h
 | succ f ih0 =>
  intro c67 c68 r h  hp hT;unfold BR at h;refine HV ?_
  let p1:Nat×AV:=(49,.j c67)
  let p2:Nat×AV:=(10,.sl 9 (v61.map AH.enc))
  let p3:Nat×AV:=(9,.sl 5 (v14.map AA.enc))
  refine Do AC [(7,e9),p3,p2,(11,e62),p1,(50,.b (decide (c67 < 3)))] ?_;refine Bh ?_;refine D9 (b:=(decide (c67 < 3))) kr (fun hb69=>?_) (fun hb69=>?_)
  ·rw [if_pos hb69] at h
   refine SemY.skip ?_;refine Bh ?_;refine D0 ?_;refine Do AC [(7,e9),p3,p2,(11,e62),(12,.j c67),p1] ?_;refine Do AC [(7,e9),p3,p2,(11,e62),(12,.j c67),p1,(52,.j 0)] ?_;refine D0 ?_;refine SemY.loop (n:=100000) ?_;obtain ⟨r141,hr141,h⟩:=OB h;rcases r141 with w142 | w145
   ·try dsimp only at h
    refine D1 (Dp WkY.f1 (Fl x3 v14 v39 v40 v41 v61 c67 e9 e62 _ 0 c68 _ hr141  hp hT)) ?_;rintro _ ⟨hp143,hT144,rfl⟩;refine Bd ?_;refine HE AC 2 ?_;refine Dd rfl ?_;exact Dp WkY.f1 (ih0 (wr .i64 (c67 + 1)) w142 _ h  hp143 hT144)
   ·try dsimp only at h
    refine D1 (Dp WkY.f1 (Fl x3 v14 v39 v40 v41 v61 c67 e9 e62 _ 0 c68 _ hr141  hp hT)) ?_;rintro _ ⟨hp146,hT147,rfl⟩;have hq:=OI h; subst hq;exact ⟨rfl,_,⟨hp146,hT147,rfl⟩,WkY.f1⟩
  ·rw [CZ hb69] at h
   refine SemY.exit ?_;have hq:=OI h; subst hq
   have hT149:=hT.drop
   exact ⟨rfl,_,⟨hp,hT149,rfl⟩,WkY.f1⟩
theorem Fo {L:List Asn}(w152:(List Int)) (c155:Int) (c157:Int) (e62:AV):∀ (f:Nat) (c167:Int) (r:(Unit) ⊕ (Unit)),BU w152 c155 c157 f c167=some r->∀ (hp:Hp),T hp ((cel e62 9 42 (arI w152))::L)->SemYN E0 ⟨none,false⟩ (pc Bn [1,1,1,1,1,1,1,1,0,1,0,0,1,1,0,0,1,1,0,0,1,1,0,0,1,1,1,0,0]) f ⟨Fr 224 [(11,e62),(16,.j c155),(17,.j c157),(166,.j c155),(169,.j c157),(184,.j c167)],hp⟩ (fun e s=>match r with
 | (.inl w)=>e=(.exit 8)/\∃ s2,(∃ (h':Hp),T h' ((cel e62 9 42 (arI w152))::L)/\s2=⟨Fr 224 [(11,e62),(16,.j c155),(166,.j c155),(169,.j c157)],h'⟩)/\WkY E0 s s2
 | (.inr w)=>e = .ret/\∃ s2,(∃ (h':Hp),T h' (L)/\s2=⟨Fr 224 [(8,.b false)],h'⟩)/\WkY E0 s s2):=by
 intro f;induction f with
 | zero=>intro c167 r h; cases h
 | succ f ih0 =>
  intro c167 r h  hp hT;unfold BU at h;refine HV ?_;refine Do AC [(11,e62),(16,.j c155),(17,.j c157),(166,.j c155),(169,.j c157),(184,.j c167),(185,.b (decide (c167 < 3)))] ?_;refine Bh ?_;refine D9 (b:=(decide (c167 < 3))) kr (fun hb168=>?_) (fun hb168=>?_)
  ·rw [if_pos hb168] at h
   refine SemY.skip ?_;refine Bh ?_;refine D0 ?_;refine Do AC [(11,e62),(16,.j c155),(17,.j c157),(18,.j c167),(166,.j c155),(169,.j c157),(184,.j c167)] ?_;refine Bh ?_;by_cases hk169:(in3 c155)=true
   case neg=>rw [if_neg hk169] at h; cases h
   rw [if_pos hk169] at h;by_cases hk170:(in3 c157)=true
   case neg=>rw [if_neg hk170] at h; cases h
   rw [if_pos hk170] at h;obtain ⟨v171,hv171,h⟩:=OB h;obtain ⟨j184,hj184,h⟩:=OB h;refine Js 33 (A:=fun s1=>∃ (h':Hp),T h' ((cel e62 9 42 (arI w152))::L)/\s1=⟨Fr 224 [(11,e62),(16,.j c155),(17,.j c157),(166,.j c155),(169,.j c157),(184,.j c167),(219,.b j184)],h'⟩) AC.mixed kr kr ?_ ?_
   ·refine RunDT.q (x:= .j c155) rfl kr rfl (AB rfl) rfl kr kr ?_
    refine RunDT.q (x:= .j c157) rfl kr rfl (AB rfl) rfl kr kr ?_;refine RunDT.q (x:=Dz e62 (0 + c155.toNat * 3)) rfl kr rfl (AB rfl) rfl (AK (a:=e62) (b:= .j c155) kr kr (Ga (s:=3) hT kr hk169)) kr ?_;refine RunDT.q (x:=Dz e62 ((0 + c155.toNat * 3) + c157.toNat * 1)) rfl kr rfl (AB rfl) rfl (AK (a:=Dz e62 (0 + c155.toNat * 3)) (b:= .j c157) kr kr (Nf (s:=1) hT kr hk170)) kr ?_;refine RunDT.q (x:= .j v171) rfl kr rfl (AB rfl) rfl (EN (p:=Dz e62 ((0 + c155.toNat * 3) + c157.toNat * 1)) kr (EM (off:=((0 + c155.toNat * 3) + c157.toNat * 1)) (y:= .j v171) (m:=1) (g:=false) hT kr kr (DD hv171))) (Dx (off:=((0 + c155.toNat * 3) + c157.toNat * 1)) hT kr) ?_;refine RunDT.q (x:= .b (decide (v171<=0))) rfl kr rfl (AB rfl) rfl kr kr ?_;refine RunDT.q (x:= .b (decide (v171<=0))) rfl kr rfl (AB rfl) rfl kr kr ?_;rcases BE (decide (v171<=0)) with hc193 | hc193
    ·rw [if_pos hc193] at hj184
     rw [hc193];refine RunDT.q (x:= .j c157) rfl kr rfl kr rfl kr kr ?_;refine RunDT.q (x:= .j c167) rfl kr rfl kr rfl kr kr ?_;by_cases hk172:(in3 c157)=true
     case neg=>rw [if_neg hk172] at hj184; cases hj184
     rw [if_pos hk172] at hj184;refine RunDT.q (x:=Dz e62 (0 + c157.toNat * 3)) rfl kr rfl kr rfl (AK (a:=e62) (b:= .j c157) kr kr (Ga (s:=3) hT kr hk172)) kr ?_;by_cases hk173:(in3 c167)=true
     case neg=>rw [if_neg hk173] at hj184; cases hj184
     rw [if_pos hk173] at hj184;refine RunDT.q (x:=Dz e62 ((0 + c157.toNat * 3) + c167.toNat * 1)) rfl kr rfl kr rfl (AK (a:=Dz e62 (0 + c157.toNat * 3)) (b:= .j c167) kr kr (Nf (s:=1) hT kr hk173)) kr ?_;obtain ⟨v174,hv174,hj184⟩:=OB hj184;refine RunDT.q (x:= .j v174) rfl kr rfl kr rfl (EN (p:=Dz e62 ((0 + c157.toNat * 3) + c167.toNat * 1)) kr (EM (off:=((0 + c157.toNat * 3) + c167.toNat * 1)) (y:= .j v174) (m:=1) (g:=false) hT kr kr (DD hv174))) (Dx (off:=((0 + c157.toNat * 3) + c167.toNat * 1)) hT kr) ?_;refine RunDT.q (x:= .b (decide (v174<=0))) rfl kr rfl kr rfl kr kr ?_;refine RunDT.q (x:= .b (decide (v174<=0))) rfl kr rfl (AB rfl) rfl kr kr ?_;refine RunDT.q (x:= .b (decide (v174<=0))) rfl kr rfl (AB rfl) rfl kr kr ?_;rcases BE (decide (v174<=0)) with hc194 | hc194
     ·rw [if_pos hc194] at hj184
      rw [hc194];refine RunDT.q (x:= .j c155) rfl kr rfl kr rfl kr kr ?_;refine RunDT.q (x:= .j c167) rfl kr rfl kr rfl kr kr ?_;by_cases hk175:(in3 c155)=true
      case neg=>rw [if_neg hk175] at hj184; cases hj184
      rw [if_pos hk175] at hj184;refine RunDT.q (x:=Dz e62 (0 + c155.toNat * 3)) rfl kr rfl kr rfl (AK (a:=e62) (b:= .j c155) kr kr (Ga (s:=3) hT kr hk175)) kr ?_;by_cases hk176:(in3 c167)=true
      case neg=>rw [if_neg hk176] at hj184; cases hj184
      rw [if_pos hk176] at hj184;refine RunDT.q (x:=Dz e62 ((0 + c155.toNat * 3) + c167.toNat * 1)) rfl kr rfl kr rfl (AK (a:=Dz e62 (0 + c155.toNat * 3)) (b:= .j c167) kr kr (Nf (s:=1) hT kr hk176)) kr ?_;obtain ⟨v177,hv177,hj184⟩:=OB hj184;refine RunDT.q (x:= .j v177) rfl kr rfl kr rfl (EN (p:=Dz e62 ((0 + c155.toNat * 3) + c167.toNat * 1)) kr (EM (off:=((0 + c155.toNat * 3) + c167.toNat * 1)) (y:= .j v177) (m:=1) (g:=false) hT kr kr (DD hv177))) (Dx (off:=((0 + c155.toNat * 3) + c167.toNat * 1)) hT kr) ?_;refine RunDT.q (x:= .j c155) rfl kr rfl kr rfl kr kr ?_;refine RunDT.q (x:= .j c157) rfl kr rfl kr rfl kr kr ?_;by_cases hk178:(in3 c155)=true
      case neg=>rw [if_neg hk178] at hj184; cases hj184
      rw [if_pos hk178] at hj184;refine RunDT.q (x:=Dz e62 (0 + c155.toNat * 3)) rfl kr rfl kr rfl (AK (a:=e62) (b:= .j c155) kr kr (Ga (s:=3) hT kr hk178)) kr ?_;by_cases hk179:(in3 c157)=true
      case neg=>rw [if_neg hk179] at hj184; cases hj184
      rw [if_pos hk179] at hj184;refine RunDT.q (x:=Dz e62 ((0 + c155.toNat * 3) + c157.toNat * 1)) rfl kr rfl kr rfl (AK (a:=Dz e62 (0 + c155.toNat * 3)) (b:= .j c157) kr kr (Nf (s:=1) hT kr hk179)) kr ?_;obtain ⟨v180,hv180,hj184⟩:=OB hj184;refine RunDT.q (x:= .j v180) rfl kr rfl kr rfl (EN (p:=Dz e62 ((0 + c155.toNat * 3) + c157.toNat * 1)) kr (EM (off:=((0 + c155.toNat * 3) + c157.toNat * 1)) (y:= .j v180) (m:=1) (g:=false) hT kr kr (DD hv180))) (Dx (off:=((0 + c155.toNat * 3) + c157.toNat * 1)) hT kr) ?_;refine RunDT.q (x:= .j c157) rfl kr rfl kr rfl kr kr ?_;refine RunDT.q (x:= .j c167) rfl kr rfl kr rfl kr kr ?_;by_cases hk181:(in3 c157)=true
      case neg=>rw [if_neg hk181] at hj184; cases hj184
      rw [if_pos hk181] at hj184;refine RunDT.q (x:=Dz e62 (0 + c157.toNat * 3)) rfl kr rfl kr rfl (AK (a:=e62) (b:= .j c157) kr kr (Ga (s:=3) hT kr hk181)) kr ?_;by_cases hk182:(in3 c167)=true
      case neg=>rw [if_neg hk182] at hj184; cases hj184
      rw [if_pos hk182] at hj184;refine RunDT.q (x:=Dz e62 ((0 + c157.toNat * 3) + c167.toNat * 1)) rfl kr rfl kr rfl (AK (a:=Dz e62 (0 + c157.toNat * 3)) (b:= .j c167) kr kr (Nf (s:=1) hT kr hk182)) kr ?_;obtain ⟨v183,hv183,hj184⟩:=OB hj184;refine RunDT.q (x:= .j v183) rfl kr rfl kr rfl (EN (p:=Dz e62 ((0 + c157.toNat * 3) + c167.toNat * 1)) kr (EM (off:=((0 + c157.toNat * 3) + c167.toNat * 1)) (y:= .j v183) (m:=1) (g:=false) hT kr kr (DD hv183))) (Dx (off:=((0 + c157.toNat * 3) + c167.toNat * 1)) hT kr) ?_;refine RunDT.q (x:= .j (mnI v180 v183)) rfl kr rfl kr rfl kr kr ?_;refine RunDT.q (x:= .b (v177 != (mnI v180 v183))) rfl kr rfl kr rfl kr kr ?_;refine RunDT.q (x:= .b (v177 != (mnI v180 v183))) rfl kr rfl (AB rfl) rfl kr kr ?_;have hq:=OI hj184; subst hq;exact RunDT.done rfl ⟨_,⟨hp,hT,rfl⟩,WkY.f1⟩
     ·rw [CZ hc194] at hj184
      rw [hc194];refine RunDT.skip rfl kr rfl ?_;refine RunDT.skip rfl kr rfl ?_;refine RunDT.skip rfl kr rfl ?_;refine RunDT.skip rfl kr rfl ?_;refine RunDT.skip rfl kr rfl ?_;refine RunDT.skip rfl kr rfl ?_;refine RunDT.skip rfl kr rfl ?_;refine RunDT.skip rfl kr rfl ?_;refine RunDT.skip rfl kr rfl ?_;refine RunDT.skip rfl kr rfl ?_;refine RunDT.skip rfl kr rfl ?_;refine RunDT.skip rfl kr rfl ?_;refine RunDT.skip rfl kr rfl ?_;refine RunDT.skip rfl kr rfl ?_;refine RunDT.skip rfl kr rfl ?_;refine RunDT.skip rfl kr rfl ?_;refine RunDT.skip rfl kr rfl ?_;refine RunDT.q (x:= .b false) rfl kr rfl (AB rfl) rfl kr kr ?_;have hq:=OI hj184; subst hq;exact RunDT.done rfl ⟨_,⟨hp,hT,rfl⟩,WkY.f1⟩
    ·rw [CZ hc193] at hj184
     rw [hc193];refine RunDT.skip rfl kr rfl ?_;refine RunDT.skip rfl kr rfl ?_;refine RunDT.skip rfl kr rfl ?_;refine RunDT.skip rfl kr rfl ?_;refine RunDT.skip rfl kr rfl ?_;refine RunDT.skip rfl kr rfl ?_;refine RunDT.q (x:= .b false) rfl kr rfl (AB rfl) rfl kr kr ?_;refine RunDT.q (x:= .b false) rfl kr rfl (AB rfl) rfl kr kr ?_;refine RunDT.skip rfl kr rfl ?_;refine RunDT.skip rfl kr rfl ?_;refine RunDT.skip rfl kr rfl ?_;refine RunDT.skip rfl kr rfl ?_;refine RunDT.skip rfl kr rfl ?_;refine RunDT.skip rfl kr rfl ?_;refine RunDT.skip rfl kr rfl ?_;refine RunDT.skip rfl kr rfl ?_;refine RunDT.skip rfl kr rfl ?_;refine RunDT.skip rfl kr rfl ?_;refine RunDT.skip rfl kr rfl ?_;refine RunDT.skip rfl kr rfl ?_;refine RunDT.skip rfl kr rfl ?_;refine RunDT.skip rfl kr rfl ?_;refine RunDT.skip rfl kr rfl ?_;refine RunDT.skip rfl kr rfl ?_;refine RunDT.skip rfl kr rfl ?_;refine RunDT.q (x:= .b false) rfl kr rfl (AB rfl) rfl kr kr ?_;have hq:=OI hj184; subst hq;exact RunDT.done rfl ⟨_,⟨hp,hT,rfl⟩,WkY.f1⟩
   rintro _ ⟨hp189,hT190,rfl⟩;refine D9 (b:=j184) kr (fun hb191=>?_) (fun hb191=>?_)
   ·rw [if_pos hb191] at h
    refine Do AC [(8,.b false)] ?_;refine SemY.ret ?_;have hq:=OI h; subst hq
    have hT192:=hT190.drop
    exact ⟨rfl,_,⟨hp189,hT192,rfl⟩,WkY.f1⟩
   ·rw [CZ hb191] at h
    refine SemY.skip ?_;refine Bd ?_;refine HE AC 2 ?_;refine Dd rfl ?_;exact Dp WkY.f1 (ih0 (wr .i64 (c167 + 1)) _ h  hp189 hT190)
  ·rw [CZ hb168] at h
   refine SemY.exit ?_;have hq:=OI h; subst hq;exact ⟨rfl,_,⟨hp,hT,rfl⟩,WkY.f1⟩
theorem Fn {L:List Asn}(w152:(List Int)) (c155:Int) (e62:AV):∀ (f:Nat) (c157:Int) (r:(Unit) ⊕ (Unit)),BT w152 c155 f c157=some r->∀ (hp:Hp),T hp ((cel e62 9 42 (arI w152))::L)->SemYN E0 ⟨none,false⟩ (pc Bn [1,1,1,1,1,1,1,1,0,1,0,0,1,1,0,0,1,1,0,0]) f ⟨Fr 224 [(11,e62),(16,.j c155),(166,.j c155),(169,.j c157)],hp⟩ (fun e s=>match r with
 | (.inl w)=>e=(.exit 6)/\∃ s2,(∃ (h':Hp),T h' ((cel e62 9 42 (arI w152))::L)/\s2=⟨Fr 224 [(11,e62),(166,.j c155)],h'⟩)/\WkY E0 s s2
 | (.inr w)=>e = .ret/\∃ s2,(∃ (h':Hp),T h' (L)/\s2=⟨Fr 224 [(8,.b false)],h'⟩)/\WkY E0 s s2):=by
 intro f;induction f with
 | zero=>intro c157 r h; cases h
 | succ f ih0 =>
  intro c157 r h  hp hT;unfold BT at h;refine HV ?_
  let p1:Nat×AV:=(169,.j c157)
  let p2:Nat×AV:=(166,.j c155)
  let p3:Nat×AV:=(16,.j c155)
  refine Do AC [(11,e62),p3,p2,p1,(170,.b (decide (c157 < 3)))] ?_;refine Bh ?_;refine D9 (b:=(decide (c157 < 3))) kr (fun hb158=>?_) (fun hb158=>?_)
  ·rw [if_pos hb158] at h
   refine SemY.skip ?_;refine Bh ?_;refine D0 ?_
   let p4:Nat×AV:=(17,.j c157)
   refine Do AC [(11,e62),p3,p4,p2,p1] ?_;refine Bh ?_;refine Bh ?_;refine Jt 12 AC.mixed kr kr ?_;refine RunDT.q (x:= .j c155) rfl kr rfl (AB rfl) rfl kr kr ?_;refine RunDT.q (x:= .j c157) rfl kr rfl (AB rfl) rfl kr kr ?_;by_cases hk159:(in3 c155)=true
   case neg=>rw [if_neg hk159] at h; cases h
   rw [if_pos hk159] at h;refine RunDT.q (x:=Dz e62 (0 + c155.toNat * 3)) rfl kr rfl (AB rfl) rfl (AK (a:=e62) (b:= .j c155) kr kr (Ga (s:=3) hT kr hk159)) kr ?_;by_cases hk160:(in3 c157)=true
   case neg=>rw [if_neg hk160] at h; cases h
   rw [if_pos hk160] at h;refine RunDT.q (x:=Dz e62 ((0 + c155.toNat * 3) + c157.toNat * 1)) rfl kr rfl (AB rfl) rfl (AK (a:=Dz e62 (0 + c155.toNat * 3)) (b:= .j c157) kr kr (Nf (s:=1) hT kr hk160)) kr ?_;obtain ⟨v161,hv161,h⟩:=OB h;refine RunDT.q (x:= .j v161) rfl kr rfl (AB rfl) rfl (EN (p:=Dz e62 ((0 + c155.toNat * 3) + c157.toNat * 1)) kr (EM (off:=((0 + c155.toNat * 3) + c157.toNat * 1)) (y:= .j v161) (m:=1) (g:=false) hT kr kr (DD hv161))) (Dx (off:=((0 + c155.toNat * 3) + c157.toNat * 1)) hT kr) ?_;refine RunDT.q (x:= .j c157) rfl kr rfl (AB rfl) rfl kr kr ?_;refine RunDT.q (x:= .j c155) rfl kr rfl (AB rfl) rfl kr kr ?_;by_cases hk162:(in3 c157)=true
   case neg=>rw [if_neg hk162] at h; cases h
   rw [if_pos hk162] at h;refine RunDT.q (x:=Dz e62 (0 + c157.toNat * 3)) rfl kr rfl (AB rfl) rfl (AK (a:=e62) (b:= .j c157) kr kr (Ga (s:=3) hT kr hk162)) kr ?_;by_cases hk163:(in3 c155)=true
   case neg=>rw [if_neg hk163] at h; cases h
   rw [if_pos hk163] at h;refine RunDT.q (x:=Dz e62 ((0 + c157.toNat * 3) + c155.toNat * 1)) rfl kr rfl (AB rfl) rfl (AK (a:=Dz e62 (0 + c157.toNat * 3)) (b:= .j c155) kr kr (Nf (s:=1) hT kr hk163)) kr ?_;obtain ⟨v164,hv164,h⟩:=OB h;refine RunDT.q (x:= .j v164) rfl kr rfl (AB rfl) rfl (EN (p:=Dz e62 ((0 + c157.toNat * 3) + c155.toNat * 1)) kr (EM (off:=((0 + c157.toNat * 3) + c155.toNat * 1)) (y:= .j v164) (m:=1) (g:=false) hT kr kr (DD hv164))) (Dx (off:=((0 + c157.toNat * 3) + c155.toNat * 1)) hT kr) ?_;refine RunDT.q (x:= .j (wr .i64 (0 - v164))) rfl kr rfl (AB rfl) rfl kr kr ?_;refine RunDT.q (x:= .b (v161 != (wr .i64 (0 - v164)))) rfl kr rfl (AB rfl) rfl kr kr ?_;refine RunDT.done rfl (SemY.fr (l':=[(11,e62),p3,p4,p2,p1,(183,.b (v161 != (wr .i64 (0 - v164))))]) kr ?_);refine D9 (b:=(v161 != (wr .i64 (0 - v164)))) kr (fun hb165=>?_) (fun hb165=>?_)
   ·rw [if_pos hb165] at h
    refine Do AC [(8,.b false)] ?_;refine SemY.ret ?_;have hq:=OI h; subst hq
    have hT166:=hT.drop
    exact ⟨rfl,_,⟨hp,hT166,rfl⟩,WkY.f1⟩
   ·rw [CZ hb165] at h
    refine SemY.skip ?_;refine Do AC [(11,e62),p3,p4,p2,p1,(184,.j 0)] ?_;refine D0 ?_;refine SemY.loop (n:=100000) ?_;obtain ⟨r195,hr195,h⟩:=OB h;rcases r195 with w196 | w199
    ·try dsimp only at h
     refine D1 (Dp WkY.f1 (Fo w152 c155 c157 e62 _ 0 _ hr195  hp hT)) ?_;rintro _ ⟨hp197,hT198,rfl⟩;refine Bd ?_;refine HE AC 2 ?_;refine Dd rfl ?_;exact Dp WkY.f1 (ih0 (wr .i64 (c157 + 1)) _ h  hp197 hT198)
    ·try dsimp only at h
     refine D1 (Dp WkY.f1 (Fo w152 c155 c157 e62 _ 0 _ hr195  hp hT)) ?_;rintro _ ⟨hp200,hT201,rfl⟩;have hq:=OI h; subst hq;exact ⟨rfl,_,⟨hp200,hT201,rfl⟩,WkY.f1⟩
  ·rw [CZ hb158] at h
   refine SemY.exit ?_;have hq:=OI h; subst hq;exact ⟨rfl,_,⟨hp,hT,rfl⟩,WkY.f1⟩
theorem Fm {L:List Asn}(w152:(List Int)) (e62:AV):∀ (f:Nat) (c155:Int) (r:(Unit) ⊕ (Unit)),BS w152 f c155=some r->∀ (hp:Hp),T hp ((cel e62 9 42 (arI w152))::L)->SemYN E0 ⟨none,false⟩ (pc Bn [1,1,1,1,1,1,1,1,0,1,0,0]) f ⟨Fr 224 [(11,e62),(166,.j c155)],hp⟩ (fun e s=>match r with
 | (.inl w)=>e=(.exit 4)/\∃ s2,(∃ (h':Hp),T h' (L)/\s2=⟨Fr 224 [],h'⟩)/\WkY E0 s s2
 | (.inr w)=>e = .ret/\∃ s2,(∃ (h':Hp),T h' (L)/\s2=⟨Fr 224 [(8,.b false)],h'⟩)/\WkY E0 s s2):=by
 intro f;induction f with
 | zero=>intro c155 r h; cases h
 | succ f ih0 =>
  intro c155 r h  hp hT;unfold BS at h;refine HV ?_
  let p1:Nat×AV:=(166,.j c155)
  refine Do AC [(11,e62),p1,(167,.b (decide (c155 < 3)))] ?_;refine Bh ?_;refine D9 (b:=(decide (c155 < 3))) kr (fun hb156=>?_) (fun hb156=>?_)
  ·rw [if_pos hb156] at h
   refine SemY.skip ?_;refine Bh ?_;refine D0 ?_;refine Do AC [(11,e62),(16,.j c155),p1] ?_;refine Do AC [(11,e62),(16,.j c155),p1,(169,.j 0)] ?_;refine D0 ?_;refine SemY.loop (n:=100000) ?_;obtain ⟨r202,hr202,h⟩:=OB h;rcases r202 with w203 | w206
   ·try dsimp only at h
    refine D1 (Dp WkY.f1 (Fn w152 c155 e62 _ 0 _ hr202  hp hT)) ?_;rintro _ ⟨hp204,hT205,rfl⟩;refine Bd ?_;refine HE AC 2 ?_;refine Dd rfl ?_;exact Dp WkY.f1 (ih0 (wr .i64 (c155 + 1)) _ h  hp204 hT205)
   ·try dsimp only at h
    refine D1 (Dp WkY.f1 (Fn w152 c155 e62 _ 0 _ hr202  hp hT)) ?_;rintro _ ⟨hp207,hT208,rfl⟩;have hq:=OI h; subst hq;exact ⟨rfl,_,⟨hp207,hT208,rfl⟩,WkY.f1⟩
  ·rw [CZ hb156] at h
   refine SemY.exit ?_;have hq:=OI h; subst hq
   have hT209:=hT.drop
   exact ⟨rfl,_,⟨hp,hT209,rfl⟩,WkY.f1⟩
theorem JM {L:List Asn}{hp:Hp}(x0:(List (Int×Int×Int×Bool×Bool))) (x1:Pe3) (x2:(Bool×Bool)) (x3:(Int×Int×Int)) (r:Bool) (h:DA x0 x1 x2 x3=some r) (hT:T hp (L)):SemY E0 ⟨none,false⟩ Bn ⟨Fr 224 (BW 0 [.sl 5 (x0.map (cdA (csC (cdK .u8) (csC (cdK .u8) (csC (cdK .u8) (csC cdB (csE cdB))))) (fun _=>rfl)).enc),.ag [.v (.int .u8 x1.1.1),.v (.int .u8 x1.1.2),.v (.int .u8 x1.2.1.1),.v (.int .u8 x1.2.1.2),.v (.int .u8 x1.2.2.1),.v (.int .u8 x1.2.2.2)],.ag [.b x2.1,.b x2.2],.ag [.j x3.1,.j x3.2.1,.j x3.2.2]]),hp⟩ fun x s'=>(x = .normal\/x = .ret)/\∃ ys,EO E0.P s'.fr s'.hp Tryz.f5.results.toList=some ys/\(fun v h'=>v = .b r/\T h' (L)) (ET ys) s'.hp:=by
 unfold DA at h
 let p1:Nat×AV:=(0,.sl 5 (x0.map (cdA (csC (cdK .u8) (csC (cdK .u8) (csC (cdK .u8) (csC cdB (csE cdB))))) (fun _=>rfl)).enc))
 refine Qu (Pp (s1:=⟨Fr 224 [p1,(1,.ag [.v (.int .u8 x1.1.1),.v (.int .u8 x1.1.2),.v (.int .u8 x1.2.1.1),.v (.int .u8 x1.2.1.2),.v (.int .u8 x1.2.2.1),.v (.int .u8 x1.2.2.2)]),(2,.ag [.b x2.1,.b x2.2]),(3,.ag [.j x3.1,.j x3.2.1,.j x3.2.2])],hp⟩) WkY.f1 ?_);refine Bh ?_;refine Bd ?_;obtain ⟨e1,hp2,hb3,hT4⟩:=Mp (t:=36) (a:= .ag [.v (.int .u8 x1.1.1),.v (.int .u8 x1.1.2),.v (.int .u8 x1.2.1.1),.v (.int .u8 x1.2.1.2),.v (.int .u8 x1.2.2.1),.v (.int .u8 x1.2.2.2)]) hT kr;refine Bg AC 0 rfl (Ul (AB rfl) rfl kr (Sw (z:= .ag [.v (.int .u8 x1.1.1),.v (.int .u8 x1.1.2),.v (.int .u8 x1.2.1.1),.v (.int .u8 x1.2.1.2),.v (.int .u8 x1.2.2.1),.v (.int .u8 x1.2.2.2)]) kr hb3)) ?_;obtain ⟨e5,hp6,hb7,hT8⟩:=Mp (t:=37) (a:= .ag [.b x2.1,.b x2.2]) hT4 kr;refine Bg AC 0 rfl (Ul (AB rfl) rfl kr (Sw (z:= .ag [.b x2.1,.b x2.2]) kr hb7)) ?_;obtain ⟨e9,hp10,hb11,hT12⟩:=Mp (t:=38) (a:= .ag [.j x3.1,.j x3.2.1,.j x3.2.2]) hT8 kr;refine Bg AC 0 rfl (Ul (AB rfl) rfl kr (Sw (z:= .ag [.j x3.1,.j x3.2.1,.j x3.2.2]) kr hb11)) ?_
 have hT13:=hT12
 refine JQ AC [p1,(5,e1),(6,e5),(7,e9)] ?_;refine Bh ?_;refine Bd ?_;refine HE AC 1 ?_;obtain ⟨v14,hv14,h⟩:=OB h;refine Jr (v:=v14) (caps:=[]) (xs:=[.sl 5 (x0.map (cdA (csC (cdK .u8) (csC (cdK .u8) (csC (cdK .u8) (csC cdB (csE cdB))))) (fun _=>rfl)).enc)]) (u:=(x0,())) rfl rfl Nx rfl (AB rfl) kr kr (A9 (B6 (c:=(cdL 5 (cdA (csC (cdK .u8) (csC (cdK .u8) (csC (cdK .u8) (csC cdB (csE cdB))))) (fun _=>rfl)))) (v:=x0)) SeesD.nil) (.inr ⟨by kernel_rfl,Gc.de (x0,())⟩) hv14 ?_
 let p2:Nat×AV:=(9,.sl 5 (v14.map AA.enc))
 refine JQ AC [(5,e1),(6,e5),(7,e9),p2] ?_;refine Bh ?_;refine Bh ?_;refine Bd ?_
 have hT15:=(hT13.front 1 rfl)
 refine Bg AC 0 rfl (ED (AB rfl) rfl (AK (a:=e5) (b:= .j 0) kr kr (Hb (s:=1) hT15 kr))) ?_;refine Bg AC 0 rfl (ED (AB rfl) rfl (EN (p:=Dz e5 0) kr (EM (off:=0) (y:= .b x2.1) (m:=1) (g:=false) hT15 kr kr kr))) ?_;refine Dd rfl (SemY.fr (l':=[(5,e1),(6,e5),(7,e9),p2,(22,.b x2.1)]) kr ?_);obtain ⟨r23,hr23,h⟩:=OB h;refine K8 (Ie x1 x2 x3 e1 e5 e9 v14 _ hr23 hT15) ?_;rintro _ ⟨hp24,hT25,rfl⟩;refine Bh ?_;refine Bh ?_;refine Bd ?_
 have hT26:=(hT25.front 1 rfl)
 refine Bg AC 0 rfl (ED (AB rfl) rfl (AK (a:=e5) (b:= .j 1) kr kr (Hb (s:=1) hT26 kr))) ?_;refine Bg AC 0 rfl (ED (AB rfl) rfl (EN (p:=Dz e5 1) kr (EM (off:=1) (y:= .b x2.2) (m:=1) (g:=false) hT26 kr kr kr))) ?_;refine Dd rfl (SemY.fr (l':=[(5,e1),(7,e9),p2,(29,.b x2.2)]) kr ?_);obtain ⟨r35,hr35,h⟩:=OB h;refine K8 (If x1 x2 x3 e1 e5 e9 v14 r23 _ hr35 hT26) ?_;rintro _ ⟨hp36,hT37,rfl⟩;refine Bh ?_;refine Bd ?_
 have hT38:=(hT37.front 1 rfl)
 refine Bg AC 0 rfl (ED (AB rfl) rfl (AK (a:=e9) (b:= .j 0) kr kr (Hb (s:=1) hT38 kr))) ?_;obtain ⟨v39,hv39,h⟩:=OB h;refine Bg AC 0 rfl (ED (AB rfl) rfl (EN (p:=Dz e9 0) kr (EM (off:=0) (y:= .j v39) (m:=1) (g:=false) hT38 kr kr (DD hv39)))) ?_;refine HE AC 1 ?_;refine Bg AC 0 rfl (ED (AB rfl) rfl (AK (a:=e9) (b:= .j 1) kr kr (Hb (s:=1) hT38 kr))) ?_;obtain ⟨v40,hv40,h⟩:=OB h;refine Bg AC 0 rfl (ED (AB rfl) rfl (EN (p:=Dz e9 1) kr (EM (off:=1) (y:= .j v40) (m:=1) (g:=false) hT38 kr kr (DD hv40)))) ?_;refine HE AC 1 ?_;refine Bg AC 0 rfl (ED (AB rfl) rfl (AK (a:=e9) (b:= .j 2) kr kr (Hb (s:=1) hT38 kr))) ?_;obtain ⟨v41,hv41,h⟩:=OB h;refine Bg AC 0 rfl (ED (AB rfl) rfl (EN (p:=Dz e9 2) kr (EM (off:=2) (y:= .j v41) (m:=1) (g:=false) hT38 kr kr (DD hv41)))) ?_;refine HE AC 1 ?_;refine Bg AC 0 rfl (ED (AB rfl) rfl (AK (a:=e9) (b:= .j 0) kr kr (Hb (s:=1) hT38 kr))) ?_;obtain ⟨v42,hv42,h⟩:=OB h;by_cases hk43:(decide (1 < ([x3.1,x3.2.1,x3.2.2]:List Int).length))=true
 case neg=>rw [if_neg hk43] at h; cases h
 rw [if_pos hk43] at h;obtain ⟨hp44,hs45,hT46⟩:=Mf (off:=0) (P:=Tryz.prog) (ty:=3) (y:= .j (BG .i64 v39 63)) (a':=arI (([x3.1,x3.2.1,x3.2.2]:List Int).set 0 (BG .i64 v39 63))) hT38 kr kr (K2 hv42 hk43);refine RunL.store AC (y:=Dz e9 0) (z:= .j (BG .i64 v39 63)) rfl (AB rfl) kr kr hs45 ?_;refine Bg AC 0 rfl (ED (AB rfl) rfl (AK (a:=e9) (b:= .j 1) kr kr (Hb (s:=1) hT46 kr))) ?_;obtain ⟨v47,hv47,h⟩:=OB h;by_cases hk48:(decide (1 < (([x3.1,x3.2.1,x3.2.2]:List Int).set 0 (BG .i64 v39 63)).length))=true
 case neg=>rw [if_neg hk48] at h; cases h
 rw [if_pos hk48] at h;obtain ⟨hp49,hs50,hT51⟩:=Mf (off:=1) (P:=Tryz.prog) (ty:=3) (y:= .j (BG .i64 v40 63)) (a':=arI ((([x3.1,x3.2.1,x3.2.2]:List Int).set 0 (BG .i64 v39 63)).set 1 (BG .i64 v40 63))) hT46 kr kr (K2 hv47 hk48);refine RunL.store AC (y:=Dz e9 1) (z:= .j (BG .i64 v40 63)) rfl (AB rfl) kr kr hs50 ?_;refine Bg AC 0 rfl (ED (AB rfl) rfl (AK (a:=e9) (b:= .j 2) kr kr (Hb (s:=1) hT51 kr))) ?_;obtain ⟨v52,hv52,h⟩:=OB h;by_cases hk53:(decide (1 < ((([x3.1,x3.2.1,x3.2.2]:List Int).set 0 (BG .i64 v39 63)).set 1 (BG .i64 v40 63)).length))=true
 case neg=>rw [if_neg hk53] at h; cases h
 rw [if_pos hk53] at h;obtain ⟨hp54,hs55,hT56⟩:=Mf (off:=2) (P:=Tryz.prog) (ty:=3) (y:= .j (BG .i64 v41 63)) (a':=arI (((([x3.1,x3.2.1,x3.2.2]:List Int).set 0 (BG .i64 v39 63)).set 1 (BG .i64 v40 63)).set 2 (BG .i64 v41 63))) hT51 kr kr (K2 hv52 hk53);refine RunL.store AC (y:=Dz e9 2) (z:= .j (BG .i64 v41 63)) rfl (AB rfl) kr kr hs55 ?_;refine Dd rfl (SemY.fr (l':=[(5,e1),(7,e9),p2]) kr ?_);refine Bh ?_;refine Bd ?_
 have hT57:=(hT56.front 1 rfl)
 obtain ⟨hp58,hw59,hT60⟩:=Qv (E:=E0) (n:=224) (l:=[(5,e1),(7,e9),p2]) (l':=[(5,.pe (.ag [.v (.int .u8 x1.1.1),.v (.int .u8 x1.1.2),.v (.int .u8 r23),.v (.int .u8 x1.2.1.2),.v (.int .u8 x1.2.2.1),.v (.int .u8 r35)]) 0),(7,e9),p2]) (SK (c:=Tu) (x:=((x1.1.1,x1.1.2),(r23,x1.2.1.2),(x1.2.2.1,r35))) hT57) ⟨⟨e1,kr,Qp⟩,⟨e9,kr,FzU.refl⟩,⟨.sl 5 (v14.map AA.enc),kr,FzU.refl⟩,trivial⟩;refine SA (WkY.trans WkY.f1 hw59) ?_;refine Qr (e:=35) (v:=((x1.1.1,x1.1.2),(r23,x1.2.1.2),(x1.2.2.1,r35))) rfl (AB rfl) kr kr kr ?_;obtain ⟨v61,hv61,h⟩:=OB h;refine Jr (v:=v61) (caps:=[]) (xs:=[.sl 2 ([(x1.1.1,x1.1.2),(r23,x1.2.1.2),(x1.2.2.1,r35)].map (MQ (cdK .u8) (cdK .u8) (fun _=>rfl) (fun _=>rfl)).enc),.j 3]) (u:=([(x1.1.1,x1.1.2),(r23,x1.2.1.2),(x1.2.2.1,r35)],3,())) rfl rfl MM rfl (AB rfl) kr kr (A9 (B6 (c:=(cdL 2 (MQ (cdK .u8) (cdK .u8) (fun _=>rfl) (fun _=>rfl)))) (v:=[(x1.1.1,x1.1.2),(r23,x1.2.1.2),(x1.2.2.1,r35)])) (A9 (B6 (c:=cdI) (v:=3)) SeesD.nil)) (.inr ⟨by kernel_rfl,FG.de ([(x1.1.1,x1.1.2),(r23,x1.2.1.2),(x1.2.2.1,r35)],3,())⟩) hv61 ?_
 let p3:Nat×AV:=(10,.sl 9 (v61.map AH.enc))
 refine JQ AC [(7,e9),p2,p3] ?_;refine Bh ?_;refine Bd ?_;obtain ⟨e62,hp63,hb64,hT65⟩:=Mp (t:=42) (a:= .ag [.j 0,.j 0,.j 0,.j 0,.j 0,.j 0,.j 0,.j 0,.j 0]) hT60 kr;refine Bg AC 0 rfl (Ul (AB rfl) rfl kr (Sv (z:= .ag [.j 0,.j 0,.j 0,.j 0,.j 0,.j 0,.j 0,.j 0,.j 0]) kr hb64)) ?_
 have hT66:=hT65
 refine Dd rfl (SemY.fr (l':=[(7,e9),p2,p3,(11,e62)]) kr ?_);refine Bh ?_;refine Do AC [(7,e9),p2,p3,(11,e62),(49,.j 0)] ?_;refine D0 ?_
 have hT150:=(hT66.front 1 rfl)
 refine SemY.loop (n:=100000) ?_;obtain ⟨r151,hr151,h⟩:=OB h;rcases r151 with w152 | w218
 ·try dsimp only at h
  refine D1 (Dp WkY.f1 (Fk x3 v14 v39 v40 v41 v61 e9 e62 _ 0 ([0,0,0,0,0,0,0,0,0]:List Int) _ hr151  hp63 hT150)) ?_;rintro _ ⟨hp153,hT154,rfl⟩;refine Bh ?_;refine Do AC [(11,e62),(166,.j 0)] ?_;refine D0 ?_;refine SemY.loop (n:=100000) ?_;obtain ⟨r210,hr210,h⟩:=OB h;rcases r210 with w211 | w215
  ·try dsimp only at h
   refine D1 (Dp WkY.f1 (Fm w152 e62 _ 0 _ hr210  hp153 hT154)) ?_;rintro _ ⟨hp212,hT213,rfl⟩;refine Bh ?_;refine Bd ?_;obtain ⟨v214,hv214,h⟩:=OB h;refine Jr (v:=v214) (caps:=[]) (xs:=[]) (u:=(())) rfl rfl NJ rfl (AB rfl) kr kr SeesD.nil (.inl kr) hv214 ?_;refine JQ AC [(8,.b v214)] ?_;refine SemY.ret ?_;have hq:=OI h; subst hq;exact ⟨⟨Fr 224 [(8,.b v214)],hp212⟩,WkY.f1,.inr rfl,[.b v214],kr,⟨rfl,hT213⟩⟩
  ·try dsimp only at h
   refine D1 (Dp WkY.f1 (Fm w152 e62 _ 0 _ hr210  hp153 hT154)) ?_;rintro _ ⟨hp216,hT217,rfl⟩;have hq:=OI h; subst hq;exact ⟨⟨Fr 224 [(8,.b false)],hp216⟩,WkY.f1,.inr rfl,[.b false],kr,⟨rfl,hT217⟩⟩
 ·try dsimp only at h
  refine D1 (Dp WkY.f1 (Fk x3 v14 v39 v40 v41 v61 e9 e62 _ 0 ([0,0,0,0,0,0,0,0,0]:List Int) _ hr151  hp63 hT150)) ?_;rintro _ ⟨hp219,hT220,rfl⟩;have hq:=OI h; subst hq;exact ⟨⟨Fr 224 [(8,.b false)],hp219⟩,WkY.f1,.inr rfl,[.b false],kr,⟨rfl,hT220⟩⟩
def D5:Cs (((List (Int×Int×Int×Bool×Bool)))×Pe3×((Bool×Bool))×((Int×Int×Int))×Unit):=(csC (cdL 5 (cdA (csC (cdK .u8) (csC (cdK .u8) (csC (cdK .u8) (csC cdB (csE cdB))))) (fun _=>rfl))) (csC Tu (csC (MQ cdB cdB (fun _=>rfl) (fun _=>rfl)) (csC (VT cdI cdI cdI (fun _=>rfl) (fun _=>rfl) (fun _=>rfl)) csN))))
def FL (r:Bool):AV:=cdB.enc r
def KP:List AV->Option AV:=Db D5 (fun a=>DA a.1 a.2.1 a.2.2.1 a.2.2.2.1) FL
theorem KU:XOk 5 KP:=by
 refine AY Tryz.func5 (c:=Bn) ?h2 ⟨Tryz.call5⟩ D5 (fun a=>DA a.1 a.2.1 a.2.2.1 a.2.2.2.1) FL (fun a=>(by show 4<=224; decide)) ?h3 ?h4
 case h2=>kernel_rfl
 case h3=>intro b; kernel_rfl
 case h4 =>
  intro a b h;refine Sem.mono (SB (JM (L:=[]) (hp:=[]) a.1 a.2.1 a.2.2.1 a.2.2.2.1 b h T.nil)) fun e s' hs=>?_
  obtain ⟨h1,ys,h2,h3,-⟩:=hs;exact ⟨h1,ys,h2,h3⟩
theorem Tc {n:Int}(h1 : -9223372036854775808<=n) (h2:n<=9223372036854775807):wr .i64 n=n:=by
 show (if _ then n else _)=n
 rw [if_pos ⟨h1,h2⟩]
theorem Hu {α:Type}(pre:List α) (v:α) (r:List α):idx (pre++v::r) (pre.length:Int)=some v:=by
 unfold idx
 rw [if_pos (by omega)]
 simp
theorem H2 {α:Type}(pre:List α) (v:α) (r:List α) (h:(pre++v::r).length<=1000000000):wr .i64 ((pre.length:Int) + 1)=((pre++[v]).length:Int):=by
 simp at h
 rw [Tc (by omega) (by omega)]; simp
theorem Jg {α:Type}(pre:List α) (v:α) (r:List α):decide ((pre.length:Int) < ((pre++v::r).length:Int))=true:=by
 simp; omega
theorem Ku {b n:Nat}(hb:b<=1000) (h:n<=1000000000):Hh b n=true:=by
 have h1:n * b<=1000000000 * 1000:=Nat.mul_le_mul h hb
 unfold Hh
 rw [Bool.and_eq_true]
 exact ⟨Nat.ble_eq_true_of_le (by omega),Nat.ble_eq_true_of_le (by omega)⟩
/-- A loop over a list: v, its index, the rest. -/
def goU {α ρ:Type}(B:α->Nat->Option ρ->Option ρ) (D:Option ρ):List α->Nat->Option ρ
 | [],_=>D
 | v::r,i=>B v i (goU B D r (i + 1))
theorem UD {α ρ:Type}(xs:List α) (L:Nat->Int->Option ρ) (B:α->Nat->Option ρ->Option ρ) (D:Option ρ)
  (hs:∀ f (pre:List α) v r,xs=pre++v::r->L (f + 1) (pre.length:Int)=B v pre.length (L f (((pre++[v]).length:Nat):Int))) (hd:∀ f,L (f + 1) (xs.length:Int)=D) :
  ∀ (r pre:List α) (f:Nat),xs=pre++r->r.length < f->L f (pre.length:Int)=goU B D r pre.length
 | [],pre,f + 1,hx,_=>by
  rw [show pre.length=xs.length by rw [hx]; simp]
  exact hd f
 | v::r,pre,f + 1,hx,hf=>by
  rw [hs f pre v r hx]
  have:=UD xs L B D hs hd r (pre++[v]) f (by rw [hx]; simp) (by simp at hf; omega)
  rw [this]
  show B v pre.length _=B v pre.length _
  congr 1
  simp
theorem MW {α ρ:Type}(xs:List α) (L:Nat->Int->Option ρ) (B:α->Nat->Option ρ->Option ρ) (D:Option ρ) (f:Nat) (hf:xs.length < f)
  (hs:∀ f (pre:List α) v r,xs=pre++v::r->L (f + 1) (pre.length:Int)=B v pre.length (L f (((pre++[v]).length:Nat):Int))) (hd:∀ f,L (f + 1) (xs.length:Int)=D):L f 0=goU B D xs 0 :=
 UD xs L B D hs hd xs [] f rfl hf
/-- The first that meets a test. -/
theorem QE {α:Type}(P:α->Option Bool) (p:α->Bool):∀ (xs:List α) (i:Nat),(∀ x ∈ xs,P x=some (p x))->∃ r:Unit ⊕ Int,goU (fun v i k=>(P v).bind fun b=>if b=true then some (.inr (i:Int)) else k) (some (.inl ())) xs i=some r/\(match r with | .inl _=>xs.any p=false | .inr n=>xs.any p=true/\0<=n)
 | [],i,_=>⟨.inl (),rfl,rfl⟩
 | x::xs,i,h=>by
  unfold goU
  rw [h x (by simp),OS]
  cases hp:p x with
  | true=>exact ⟨.inr i,by simp,by simp [hp]⟩
  | false =>
   obtain ⟨r,h1,h2⟩:=QE P p xs (i + 1) fun y hy=>h y (List.mem_cons_of_mem _ hy)
   refine ⟨r,by simpa using h1,?_⟩
   cases r with
   | inl u=>simpa [hp] using h2
   | inr n=>simpa [hp] using h2
/-- slices.IndexFunc and slices.ContainsFunc. -/
theorem Oi {α:Type}(xs:List α) (hx:xs.length<=99999) (P:α->Option Bool) (p:α->Bool) (hP:∀ x ∈ xs,P x=some (p x)) (L:Nat->Int->Option (Unit ⊕ Int))
  (h:∀ f c,L (f + 1) c=if decide (c < (xs.length:Int))=true then (idx xs c).bind fun v=>(P v).bind fun b=>if b=true then some (.inr c) else L f (wr .i64 (c + 1)) else some (.inl ())) :
  ∃ n,((L 100000 0).bind fun r=>match r with | .inl _=>some (-1) | .inr w=>some w)=some n/\decide (n≥0)=xs.any p:=by
 have e:=MW xs L (fun v i k=>(P v).bind fun b=>if b=true then some (.inr (i:Int)) else k) (some (.inl ())) 100000 (by omega) (fun f pre v r e=>by
  subst e
  rw [h,if_pos (Jg pre v r),Hu,OS,H2 pre v r (by omega)]) (fun f=>by rw [h,if_neg (by simp)])
 obtain ⟨r,h1,h2⟩:=QE P p xs 0 hP
 rw [e,h1]
 cases r with
 | inl u=>exact ⟨-1,rfl,by rw [h2]; rfl⟩
 | inr n=>exact ⟨n,rfl,by rw [h2.1]; simpa using h2.2⟩
/- slices.Equal[[]string,string] -/
/- trestle/trestlelaw03.SameClause -/
/- slices.EqualFunc[[]trestle/api.Clause,[]trestle/api.Clause,trestle/api.Clause,trestle/api.Clause] -/
/- trestle/trestlelaw03.Same -/
/- trestle/trestlelaw03.Copy -/
/- trestle/trestlelaw03.Few$1$1 -/
/- slices.IndexFunc[[]string,string] -/
/- slices.ContainsFunc[[]string,string] -/
/- trestle/trestlelaw03.Few$1 -/
/- slices.IndexFunc[[]trestle/api.Clause,trestle/api.Clause] -/
/- slices.ContainsFunc[[]trestle/api.Clause,trestle/api.Clause] -/
/- trestle/trestlelaw03.Few -/
/- trestle/trestleref03.between -/
def A8 (x0:Int) (x1:Int) (x2:Int):Option (Bool) :=
 (if (decide (x1<=x0))=true then some (decide (x0<=x2)) else some false).bind fun j2 =>
 some j2
/- trestle/trestleref03.formed -/
def Dk (x0:AD):Option ((Bool)) :=
 if (x0.1==8)=true then
 some (x0.1==8)
 else
 some (x0.1==9)
def Dj (x0:AD):Option ((Bool)) :=
 if (x0.1==3)=true then
 some (x0.1==3)
 else
 (Dk x0).bind fun r14 =>
 some r14
def Di (x0:AD):Option ((Bool)) :=
 if (x0.1==2)=true then
 some (x0.1==2)
 else
 (Dj x0).bind fun r15 =>
 some r15
def Dl (x0:AD):Option ((Bool)) :=
 if (x0.1==6)=true then
 some (x0.1==6)
 else
 some (x0.1==7)
def Ah (x0:AD):Option (Bool) :=
 if (x0.1==1)=true then
 (A8 (x0.2.2.2.1.length:Int) 1 16).bind fun v2 =>
 (if v2=true then if (x0.2.2.2.2==0)=true then if (!x0.2.2.1)=true then some (x0.2.1==[]) else some false else some false else some false).bind fun j4 =>
 some j4
 else
 (Di x0).bind fun r16 =>
 if r16=true then
 (if ((x0.2.2.2.1.length:Int)==0)=true then if (x0.2.2.2.2==0)=true then some (!x0.2.2.1) else some false else some false).bind fun j19 =>
 some j19
 else
 if (x0.1==4)=true then
 (if ((x0.2.2.2.1.length:Int)==0)=true then (A8 x0.2.2.2.2 1 2).bind fun v23 =>
 some v23 else some false).bind fun j25 =>
 some j25
 else
 if (x0.1==5)=true then
 (if ((x0.2.2.2.1.length:Int)==0)=true then some (x0.2.2.2.2==0) else some false).bind fun j29 =>
 some j29
 else
 (Dl x0).bind fun r33 =>
 if r33=true then
 (A8 (x0.2.2.2.1.length:Int) 1 16).bind fun v35 =>
 (if v35=true then some (x0.2.2.2.2==0) else some false).bind fun j37 =>
 some j37
 else
 if (x0.1==10)=true then
 (if ((x0.2.2.2.1.length:Int)==0)=true then (A8 x0.2.2.2.2 0 63).bind fun v40 =>
 if v40=true then some (!x0.2.2.1) else some false else some false).bind fun j42 =>
 some j42
 else
 some false
/- trestle/trestlekit.Name -/
/- trestle/trestleref03.has -/
/- trestle/trestleref03.CheckOne -/
/- trestle/trestleref03.Check -/
def T2 (x:AD):Prop:=x.2.1.length<=40/\x.2.2.2.1.length<=20/\∀ s ∈ x.2.2.2.1,s.length<=40
def few (c:List AD):Prop:=c.length<=40/\∀ x ∈ c,T2 x
/-- Names. -/
def Sq (c:UInt8):Bool:=decide ((c.toNat:Int) < 97)||decide ((c.toNat:Int) > 122)
def EL (s:List UInt8):Bool:=decide (1<=s.length)&&decide (s.length<=12)&&!s.any Sq
theorem QH:∀ (s:List UInt8) (i:Nat),goU (fun v _ (k:Option (Unit ⊕ Bool))=>if Sq v=true then some (.inr false) else k) (some (.inl ())) s i=some (if s.any Sq=true then .inr false else .inl ())
 | [],_=>rfl
 | c::s,i=>by
  unfold goU
  rw [QH s (i + 1),List.any_cons]
  cases Sq c <;> rfl
theorem UH (s:List UInt8) (h:s.length<=99999):DN s 100000 0=some (if s.any Sq=true then .inr false else .inl ()):=by
 rw [<-QH s 0]
 refine MW s (DN s) _ _ 100000 (by omega) (fun f pre v r e=>?_) (fun f=>?_)
 ·conv=>lhs; unfold DN
  rw [e,if_pos (Jg pre v r),Hu,OS,OS,H2 pre v r (by rw [<-e]; omega)]
  unfold Sq
  by_cases h:(v.toNat:Int) < 97 <;> simp [h]
 ·conv=>lhs; unfold DN
  rw [if_neg (by simp)]
theorem QP (s:List UInt8) (h:s.length<=99999):Ei s=some (EL s):=by
 unfold Ei EL
 rw [UH s h,OS]
 cases hb:s.any Sq
 ·by_cases h1:s.length < 1
  ·have:s.length=0:=by omega
   simp [this]
  ·simp [show (s.length:Int)≥1 by omega,show 1<=s.length by omega]; omega
 ·simp
theorem Sx (l:List (List UInt8)) (h:l.length<=99999) (hs:∀ s ∈ l,s.length<=99999):AN l=some (l.any fun s=>!EL s):=by
 unfold AN Ac
 obtain ⟨n,h1,h2⟩:=Oi l h Dt (fun s=>!EL s) (fun x hx=>by unfold Dt; rw [QP x (hs x hx)]; rfl) (Am l) (fun f c=>rfl)
 rw [<-h2]
 exact (congrArg (fun o=>o.bind fun v1=>some (decide (v1≥0))) h1)
def Kx (l:List (List UInt8)) (s:List UInt8):Bool:=l.any fun v=>s==v
theorem Gl (l:List (List UInt8)) (s:List UInt8) (h:l.length<=99999):Ad l s=some (Kx l s):=by
 unfold Ad A3
 obtain ⟨n,h1,h2⟩:=Oi l h (fun v=>some (s==v)) (fun v=>s==v) (fun _ _=>rfl) (Ap l s) (fun f c=>rfl)
 unfold Kx
 rw [<-h2]
 exact (congrArg (fun o=>o.bind fun v1=>some (decide (v1≥0))) h1)
/-- What is asked of the fields, by a row: names, from, to, last. -/
def fin (L:Nat) (n:Int) (la:Bool) (w:Int×Int×Int×Bool):Option Bool :=
 (if (decide ((L:Int)<=w.1))=true then if (w.1==0)=true then if (decide (n≥w.2.1))=true then if (decide (n<=w.2.2.1))=true then if w.2.2.2=true then some true else some (!la) else some false else some false else if (decide ((L:Int) > 0))=true then if (decide (n≥w.2.1))=true then if (decide (n<=w.2.2.1))=true then if w.2.2.2=true then some true else some (!la) else some false else some false else some false else some false).bind fun j58=>some j58
theorem JB (L:Nat) (n:Int) (la:Bool) (a lo hi:Int) (last:Bool):fin L n la (a,lo,hi,last)=some ((decide ((L:Int)<=a)&&(a==0||decide ((L:Int) > 0)))&&(decide (n≥lo)&&(decide (n<=hi)&&(last||!la)))):=by
 unfold fin
 dsimp only
 generalize decide ((L:Int)<=a)=b1
 generalize (a==0)=b2
 generalize decide ((L:Int) > 0)=b3
 generalize decide (n≥lo)=b4
 generalize decide (n<=hi)=b5
 cases b1 <;> cases b2 <;> cases b3 <;> cases b4 <;> cases b5 <;> cases last <;> cases la <;> rfl
theorem QB (x:AD):∃ b,BJ x=some b/\Ah x=some b:=by
 obtain ⟨k,am,la,nm,n⟩:=x
 by_cases h1:k=1
 ·subst h1
  have hr:Ah (1,am,la,nm,n)=some ((decide (1<=(nm.length:Int))&&decide ((nm.length:Int)<=16))&&((n==0)&&(!la&&(am==[])))):=by
   unfold Ah
   unfold A8
   dsimp only
   generalize decide (1<=(nm.length:Int))=b0
   generalize decide ((nm.length:Int)<=16)=b1
   generalize (n==0)=b2
   generalize (am==[])=b3
   cases b0 <;> cases b1 <;> cases b2 <;> cases la <;> cases b3 <;> rfl
  refine ⟨_,?_,hr⟩
  cases am with
  | cons a am =>
   have hc:BJ (1,a::am,la,nm,n)=some false:=rfl
   rw [hc]
   simp
  | nil =>
   have hc:BJ (1,[],la,nm,n)=fin nm.length n la (16,0,0,false):=rfl
   rw [hc,JB]
   congr 1
   rw [Bool.eq_iff_iff]
   generalize nm.length=L
   cases la <;> simp <;> omega
 by_cases h2:k=2
 ·subst h2
  have hr:Ah (2,am,la,nm,n)=some (((nm.length:Int)==0)&&((n==0)&&!la)):=by
   unfold Ah
   unfold A8
   dsimp only
   generalize ((nm.length:Int)==0)=b0
   generalize (n==0)=b1
   cases b0 <;> cases b1 <;> cases la <;> rfl
  refine ⟨_,?_,hr⟩
  have hc:BJ (2,am,la,nm,n)=fin nm.length n la (0,0,0,false):=rfl
  rw [hc,JB]
  congr 1
  rw [Bool.eq_iff_iff]
  generalize nm.length=L
  cases la <;> simp <;> omega
 by_cases h3:k=3
 ·subst h3
  have hr:Ah (3,am,la,nm,n)=some (((nm.length:Int)==0)&&((n==0)&&!la)):=by
   unfold Ah
   unfold A8
   dsimp only
   generalize ((nm.length:Int)==0)=b0
   generalize (n==0)=b1
   cases b0 <;> cases b1 <;> cases la <;> rfl
  refine ⟨_,?_,hr⟩
  have hc:BJ (3,am,la,nm,n)=fin nm.length n la (0,0,0,false):=rfl
  rw [hc,JB]
  congr 1
  rw [Bool.eq_iff_iff]
  generalize nm.length=L
  cases la <;> simp <;> omega
 by_cases h8:k=8
 ·subst h8
  have hr:Ah (8,am,la,nm,n)=some (((nm.length:Int)==0)&&((n==0)&&!la)):=by
   unfold Ah
   unfold A8
   dsimp only
   generalize ((nm.length:Int)==0)=b0
   generalize (n==0)=b1
   cases b0 <;> cases b1 <;> cases la <;> rfl
  refine ⟨_,?_,hr⟩
  have hc:BJ (8,am,la,nm,n)=fin nm.length n la (0,0,0,false):=rfl
  rw [hc,JB]
  congr 1
  rw [Bool.eq_iff_iff]
  generalize nm.length=L
  cases la <;> simp <;> omega
 by_cases h9:k=9
 ·subst h9
  have hr:Ah (9,am,la,nm,n)=some (((nm.length:Int)==0)&&((n==0)&&!la)):=by
   unfold Ah
   unfold A8
   dsimp only
   generalize ((nm.length:Int)==0)=b0
   generalize (n==0)=b1
   cases b0 <;> cases b1 <;> cases la <;> rfl
  refine ⟨_,?_,hr⟩
  have hc:BJ (9,am,la,nm,n)=fin nm.length n la (0,0,0,false):=rfl
  rw [hc,JB]
  congr 1
  rw [Bool.eq_iff_iff]
  generalize nm.length=L
  cases la <;> simp <;> omega
 by_cases h4:k=4
 ·subst h4
  have hr:Ah (4,am,la,nm,n)=some (((nm.length:Int)==0)&&(decide (1<=n)&&decide (n<=2))):=by
   unfold Ah
   unfold A8
   dsimp only
   generalize ((nm.length:Int)==0)=b0
   generalize decide (1<=n)=b1
   generalize decide (n<=2)=b2
   cases b0 <;> cases b1 <;> cases b2 <;> cases la <;> rfl
  refine ⟨_,?_,hr⟩
  have hc:BJ (4,am,la,nm,n)=fin nm.length n la (0,1,2,true):=rfl
  rw [hc,JB]
  congr 1
  rw [Bool.eq_iff_iff]
  generalize nm.length=L
  cases la <;> simp <;> omega
 by_cases h5:k=5
 ·subst h5
  have hr:Ah (5,am,la,nm,n)=some (((nm.length:Int)==0)&&(n==0)):=by
   unfold Ah
   unfold A8
   dsimp only
   generalize ((nm.length:Int)==0)=b0
   generalize (n==0)=b1
   cases b0 <;> cases b1 <;> cases la <;> rfl
  refine ⟨_,?_,hr⟩
  have hc:BJ (5,am,la,nm,n)=fin nm.length n la (0,0,0,true):=rfl
  rw [hc,JB]
  congr 1
  rw [Bool.eq_iff_iff]
  generalize nm.length=L
  cases la <;> simp <;> omega
 by_cases h6:k=6
 ·subst h6
  have hr:Ah (6,am,la,nm,n)=some ((decide (1<=(nm.length:Int))&&decide ((nm.length:Int)<=16))&&(n==0)):=by
   unfold Ah
   unfold A8
   dsimp only
   generalize decide (1<=(nm.length:Int))=b0
   generalize decide ((nm.length:Int)<=16)=b1
   generalize (n==0)=b2
   cases b0 <;> cases b1 <;> cases b2 <;> cases la <;> rfl
  refine ⟨_,?_,hr⟩
  have hc:BJ (6,am,la,nm,n)=fin nm.length n la (16,0,0,true):=rfl
  rw [hc,JB]
  congr 1
  rw [Bool.eq_iff_iff]
  generalize nm.length=L
  cases la <;> simp <;> omega
 by_cases h7:k=7
 ·subst h7
  have hr:Ah (7,am,la,nm,n)=some ((decide (1<=(nm.length:Int))&&decide ((nm.length:Int)<=16))&&(n==0)):=by
   unfold Ah
   unfold A8
   dsimp only
   generalize decide (1<=(nm.length:Int))=b0
   generalize decide ((nm.length:Int)<=16)=b1
   generalize (n==0)=b2
   cases b0 <;> cases b1 <;> cases b2 <;> cases la <;> rfl
  refine ⟨_,?_,hr⟩
  have hc:BJ (7,am,la,nm,n)=fin nm.length n la (16,0,0,true):=rfl
  rw [hc,JB]
  congr 1
  rw [Bool.eq_iff_iff]
  generalize nm.length=L
  cases la <;> simp <;> omega
 by_cases h10:k=10
 ·subst h10
  have hr:Ah (10,am,la,nm,n)=some (((nm.length:Int)==0)&&((decide (0<=n)&&decide (n<=63))&&!la)):=by
   unfold Ah
   unfold A8
   dsimp only
   generalize ((nm.length:Int)==0)=b0
   generalize decide (0<=n)=b1
   generalize decide (n<=63)=b2
   cases b0 <;> cases b1 <;> cases b2 <;> cases la <;> rfl
  refine ⟨_,?_,hr⟩
  have hc:BJ (10,am,la,nm,n)=fin nm.length n la (0,0,63,false):=rfl
  rw [hc,JB]
  congr 1
  rw [Bool.eq_iff_iff]
  generalize nm.length=L
  cases la <;> simp <;> omega
 have e:∀ m:Int,(m=1\/m=2\/m=3\/m=4\/m=5\/m=6\/m=7\/m=8\/m=9\/m=10)->(k==m)=false:=fun m hm=>by
  rw [beq_eq_false_iff_ne]
  rintro rfl
  omega
 refine ⟨false,?_,?_⟩
 ·simp [BJ,Eq,Er,Es,Et,Eu,Ev,Ew,Ey,Ez,e]
 ·simp [Ah,Di,Dj,Dk,Dl,e]
def fm (x:AD):Bool:=(Ah x).getD false
theorem Va (x:AD):BJ x=some (fm x):=by
 obtain ⟨b,h1,h2⟩:=QB x
 rw [h1]; unfold fm; rw [h2]; rfl
/-- Is a name there twice? -/
def Qo (l:List (List UInt8)):List (List UInt8)->Nat->Bool
 | [],_=>false
 | v::r,i=>Kx (l.take i) v||Qo l r (i + 1)
def Gb (before:List AD) (am:List UInt8):Bool:=before.any fun b=>(b.1==1)&&Kx b.2.2.2.1 am
def chk (before:List AD) (x:AD):Int :=
 if fm x=false then 30 else
 if ((!(x.2.1==[]))&&!EL x.2.1)=true\/(x.2.2.2.1.any fun s=>!EL s)=true then 4 else
 if Qo x.2.2.2.1 x.2.2.2.1 0=true then 5 else
 if x.2.1=[]\/Gb before x.2.1=true then 0 else 31
theorem QG (l:List (List UInt8)):∀ (r:List (List UInt8)) (i:Nat),goU (fun v i (k:Option (Unit ⊕ Int))=>if Kx (l.take i) v=true then some (.inr 5) else k) (some (.inl ())) r i=some (if Qo l r i=true then .inr 5 else .inl ())
 | [],_=>rfl
 | v::r,i=>by
  unfold goU Qo
  rw [QG l r (i + 1)]
  cases Kx (l.take i) v <;> rfl
theorem VA (b:List AD) (j:AD) (h:j.2.2.2.1.length<=99999):Cz b j 100000 0=some (if Qo j.2.2.2.1 j.2.2.2.1 0=true then .inr 5 else .inl ()):=by
 rw [<-QG]
 refine MW j.2.2.2.1 (Cz b j) _ _ 100000 (by omega) (fun f pre v r e=>?_) (fun f=>?_)
 ·conv=>lhs; unfold Cz
  have hl:j.2.2.2.1.length=pre.length + r.length + 1:=by rw [e]; simp; omega
  rw [if_pos (by rw [e]; exact Jg pre v r),show idx j.2.2.2.1 (pre.length:Int)=some v by rw [e,Hu],OS,if_pos (by unfold C8; simp; omega),Int.toNat_natCast]
  rw [show ((j.2.2.2.1.take pre.length).drop (0:Int).toNat)=j.2.2.2.1.take pre.length from rfl,Gl _ _ (by simp; omega),OS,H2 pre v r (by rw [<-e]; omega)]
 ·conv=>lhs; unfold Cz
  rw [if_neg (by simp)]
theorem RU (b:List AD) (x:AD) (h:b.length<=99999) (hb:∀ y ∈ b,y.2.2.2.1.length<=99999):AM b x=some (Gb b x.2.1):=by
 unfold AM AT
 obtain ⟨n,h1,h2⟩:=Oi b h (fun v=>Du v x) (fun y=>(y.1==1)&&Kx y.2.2.2.1 x.2.1) (fun y hy=>by
  unfold Du
  rw [Gl _ _ (hb y hy)]
  cases (y.1==1) <;> rfl) (AZ b x) (fun f c=>rfl)
 unfold Gb
 rw [<-h2]
 exact (congrArg (fun o=>o.bind fun v1=>some (decide (v1≥0))) h1)
theorem U6 (b:List AD) (x:AD) (hb:few b) (hx:T2 x):Ec b x=some (chk b x):=by
 have hn:∀ s ∈ x.2.2.2.1,s.length<=99999:=fun s hs=>by have:=hx.2.2 s hs; omega
 unfold Ec chk
 rw [Va,OS]
 cases hf:fm x with
 | false=>simp
 | true =>
  rw [if_neg (show ¬ ((!true)=true) by simp),if_neg (show ¬ (true=false) by simp),Sx _ (by have:=hx.2.1; omega) hn,QP _ (by have:=hx.1; omega)]
  have e:((if (!(x.2.1==[]))=true then (some (EL x.2.1)).bind fun v3=>if (!v3)=true then some true else (some (x.2.2.2.1.any fun s=>!EL s)).bind fun v4=>some v4 else (some (x.2.2.2.1.any fun s=>!EL s)).bind fun v5=>some v5):Option Bool)=some (((!(x.2.1==[]))&&!EL x.2.1)||(x.2.2.2.1.any fun s=>!EL s)):=by
   cases (x.2.1==[]) <;> cases EL x.2.1 <;> rfl
  rw [e,OS]
  cases hq:(((!(x.2.1==[]))&&!EL x.2.1)||(x.2.2.2.1.any fun s=>!EL s)) with
  | true=>rw [if_pos rfl,if_pos (by simpa using hq)]
  | false =>
   rw [if_neg (show ¬ (false=true) by simp),if_neg (show ¬ (((!(x.2.1==[]))&&!EL x.2.1)=true\/(x.2.2.2.1.any fun s=>!EL s)=true) by simpa using hq),VA _ _ (by have:=hx.2.1; omega),OS]
   try dsimp only
   cases hd:Qo x.2.2.2.1 x.2.2.2.1 0 with
   | true=>rfl
   | false =>
    rw [if_neg (show ¬ (false=true) by simp)]
    dsimp only
    have hr:=RU b x (by have:=hb.1; omega) (fun y hy=>by have:=(hb.2 y hy).2.1; omega)
    rw [hr]
    by_cases ha:x.2.1=[]
    ·simp [ha]
    ·simp only [ha,false_or]
     cases Gb b x.2.1 <;> simp [ha]
section
variable (c pre r:List AD) (x:AD) (e:c=pre++x::r) (h:few c)
include e h
end
/-- The first error of a text: its place, and which. -/
def Pk (c:List AD):List AD->Nat->Unit ⊕ (Int×Int)
 | [],_=> .inl ()
 | x::r,i=>if chk (c.take i) x≠0 then .inr ((i:Int),chk (c.take i) x) else Pk c r (i + 1)
def Q5 (c:List AD):Int×Int:=if c.length > 32 then (0,7) else match Pk c c 0 with
 | .inl _=>(0,0)
 | .inr w=>w
theorem QF (c:List AD):∀ (r:List AD) (i:Nat),goU (fun x i (k:Option (Unit ⊕ (Int×Int)))=>if (chk (c.take i) x != 0)=true then some (.inr ((i:Int),chk (c.take i) x)) else k) (some (.inl ())) r i=some (Pk c r i)
 | [],_=>rfl
 | x::r,i=>by
  unfold goU Pk
  rw [QF c r (i + 1)]
  by_cases h:chk (c.take i) x=0 <;> simp [h]
theorem few_take {c:List AD}(h:few c) (n:Nat):few (c.take n):=⟨by have:=h.1; simp; omega,fun x hx=>h.2 x (List.mem_of_mem_take hx)⟩
theorem SP (c:List AD) (h:few c):Eb c=some (Q5 c):=by
 have hl:=h.1
 have e1:Cy c 100000 0=some (Pk c c 0):=by
  rw [<-QF]
  refine MW c (Cy c) _ _ 100000 (by omega) (fun f pre v r e=>?_) (fun f=>?_)
  ·conv=>lhs; unfold Cy
   have hl2:c.length=pre.length + r.length + 1:=by rw [e]; simp; omega
   rw [if_pos (by rw [e]; exact Jg pre v r),show idx c (pre.length:Int)=some v by rw [e,Hu],OS,if_pos (by unfold C8; simp; omega),Int.toNat_natCast,
    show ((c.take pre.length).drop (0:Int).toNat)=c.take pre.length from rfl,U6 _ v (few_take h _) (h.2 v (by rw [e]; simp)),OS,H2 pre v r (by rw [<-e]; omega)]
  ·conv=>lhs; unfold Cy
   rw [if_neg (by simp)]
 unfold Eb Q5
 by_cases h32:c.length > 32
 ·rw [if_pos (by simp; omega),if_pos h32]
 ·rw [if_neg (by simp; omega),if_neg h32,e1,OS]
  cases Pk c c 0 <;> rfl
/-- The first of a word in a list, from a number on. -/
def rkN (s:List UInt8):List (List UInt8)->Nat->Nat
 | [],i=>i
 | v::r,i=>if (s==v)=true then i else rkN s r (i + 1)
theorem R4 (s:List UInt8):∀ (l:List (List UInt8)) (i:Nat),Kx l s=false->rkN s l i=i + l.length
 | [],i,_=>rfl
 | v::r,i,h=>by
  have h':((s==v)||Kx r s)=false:=h
  simp only [Bool.or_eq_false_iff] at h'
  unfold rkN
  rw [if_neg (show ¬ (s==v)=true by rw [h'.1]; decide),R4 s r (i + 1) h'.2]
  simp; omega
theorem Rx (s:List UInt8):∀ (l:List (List UInt8)) (i:Nat),goU (fun v i (k:Option (Unit ⊕ Int))=>if (s==v)=true then some (.inr (i:Int)) else k) (some (.inl ())) l i=some (if Kx l s=true then .inr (rkN s l i:Int) else .inl ())
 | [],_=>rfl
 | v::r,i=>by
  unfold goU rkN
  rw [Rx s r (i + 1)]
  have:Kx (v::r) s=((s==v)||Kx r s):=rfl
  rw [this]
  cases (s==v) <;> rfl
def rk (l:List (List UInt8)) (s:List UInt8):Int:=(rkN s l 0:Nat)
theorem Rz (x:An) (c:AD) (h:c.2.2.2.1.length<=99999):CY x c=some (rk c.2.2.2.1 x.1.2.1):=by
 unfold CY A3
 have e:Ap c.2.2.2.1 x.1.2.1 100000 0=some (if Kx c.2.2.2.1 x.1.2.1=true then .inr (rkN x.1.2.1 c.2.2.2.1 0:Int) else .inl ()):=by
  rw [<-Rx]
  refine MW c.2.2.2.1 (Ap c.2.2.2.1 x.1.2.1) _ _ 100000 (by omega) (fun f pre v r e=>?_) (fun f=>?_)
  ·conv=>lhs; unfold Ap
   rw [if_pos (by rw [e]; exact Jg pre v r),show idx c.2.2.2.1 (pre.length:Int)=some v by rw [e,Hu],OS,H2 pre v r (by rw [<-e]; omega)]
  ·conv=>lhs; unfold Ap
   rw [if_neg (by simp)]
 rw [e]
 cases hh:Kx c.2.2.2.1 x.1.2.1 with
 | true=>simp [rk]
 | false=>simp [rk,R4 _ _ _ hh]
/-- -1, 0 or 1. -/
def Ix (x y:Int):Int:=if x < y then -1 else if y < x then 1 else 0
theorem Q6 (x y:Int):Ba x y=some (Ix x y):=by
 unfold Ba Dr Ix
 simp only [bne_self_eq_false,OS,Bool.false_eq_true,if_false,decide_eq_true_eq,gt_iff_lt]
 split
 ·rfl
 ·split <;> rfl
def Py (x y:List UInt8):Int:=if Go.Op.bytesLess x y=true then -1 else if (!(Go.Op.bytesLess x y||x==y))=true then 1 else 0
theorem U7 (x y:List UInt8):CH x y=some (Py x y):=by
 unfold CH Cj Py
 simp only [beq_self_eq_true,Bool.not_true,OS,Bool.false_eq_true,if_false]
 split
 ·rfl
 ·split <;> rfl
/-- Does a clause name a guest? -/
def nmB (c:AD) (g:CB):Bool :=
 if (c.1==4)=true then g.2.2.2.2.1==c.2.2.2.2 else
 if (c.1==5)=true then g.2.2.2.2.2.2.1 else
 if (c.1==7)=true then Kx c.2.2.2.1 g.2.2.1 else g.2.2.2.2.2.2.2.2.any fun s=>Kx c.2.2.2.1 s
theorem Nr (t:List (List UInt8)) (c:AD) (ht:t.length<=99999) (h:c.2.2.2.1.length<=99999):AO t c=some (t.any fun s=>Kx c.2.2.2.1 s):=by
 unfold AO Ab
 obtain ⟨n,h1,h2⟩:=Oi t ht (fun v=>C7 v c) (fun s=>Kx c.2.2.2.1 s) (fun v _=>by unfold C7; rw [Gl _ _ h]; rfl) (Ae t c) (fun f c=>rfl)
 rw [<-h2]
 exact (congrArg (fun o=>o.bind fun v1=>some (decide (v1≥0))) h1)
def nv (c:AD) (g:CB):Int:=if (!(nmB c g==c.2.2.1))=true then 0 else 1
def MT (i:Int):Bool:=decide (i≥0)&&decide (i<=63)
theorem VG (i:Int):B4 i=some (MT i):=by
 unfold B4 MT
 by_cases h:i≥0 <;> simp [h]
def kyI (i n:Int):Int:=(wr .i64 ((wr .i64 (i * (wr .i64 ((wr .i64 (n + n)) + 1)))) + n)).tmod 64
theorem VI (i:Int) (c:AD):Cv i c=some (kyI i c.2.2.2.2):=by
 unfold Cv kyI
 rw [Int.two_mul]
def b2 (b:Bool):Int:=if b=true then 1 else 0
theorem VY (b:Bool):Gm b=some (b2 b):=by cases b <;> rfl
def snc (y:Bool) (s t:Int):Int:=if (!((s==0)==(t==0)))=true then Ix (b2 (s==0)) (b2 (t==0)) else if y=true then wr .i64 (0 - Ix s t) else Ix s t
/-- What a clause says of two guests at their places, without regard to Among. -/
def L6 (c:AD) (a b:CB) (i j:Int):Int :=
 if (c.1==1)=true then Ix (rk c.2.2.2.1 a.2.1) (rk c.2.2.2.1 b.2.1) else
 if (c.1==2)=true then snc false a.2.2.2.1 b.2.2.2.1 else
 if (c.1==3)=true then snc true a.2.2.2.1 b.2.2.2.1 else
 if (c.1==8)=true then Py a.1 b.1 else
 if (c.1==9)=true then if (!MT i||!MT j)=true then 0 else Ix i j else
 if (c.1==10)=true then if (!MT i||!MT j)=true then 0 else Ix (kyI i c.2.2.2.2) (kyI j c.2.2.2.2) else
 Ix (nv c a) (nv c b)
def amB (c:AD) (a b:CB):Bool:=(!(c.2.1==[]))&&((!(a.2.1==c.2.1))||(!(b.2.1==c.2.1)))
def dir (c:AD) (a b:CB) (i j:Int):Int:=if amB c a b=true then 0 else L6 c a b i j
theorem VX (c:AD) (a b:CB):((if (!(c.2.1==[]))=true then if (!(a.2.1==c.2.1))=true then some true else some (!(b.2.1==c.2.1)) else some false):Option Bool)=some (amB c a b):=by
 unfold amB
 cases (c.2.1==[]) <;> cases (a.2.1==c.2.1) <;> rfl
theorem O7 (a b:CB) (i j:Int) (c:AD):CD (a,i) (b,j) c=some (snc (c.1==3) a.2.2.2.1 b.2.2.2.1):=by
 unfold CD snc EW
 simp only [VY,Q6,OS]
 split
 ·rfl
 ·split <;> rfl
theorem U9 (c:AD) (a b:CB) (i j:Int) (h:c.2.2.2.1.length<=99999) (ha:a.2.2.2.2.2.2.2.2.length<=99999) (hb:b.2.2.2.2.2.2.2.2.length<=99999) (hk:1<=c.1/\c.1<=10):C6 (a,i) (b,j) c=some (dir c a b i j):=by
 have cl:∀ (o:Option Int) (x:Int),o=some x->((((if (!(c.2.1==[]))=true then if (!(a.2.1==c.2.1))=true then some true else some (!(b.2.1==c.2.1)) else some false):Option Bool).bind fun j2=>if j2=true then some 0 else o.bind fun v4=>some v4):Option Int)=some (if amB c a b=true then 0 else x):=fun o x e=>by
  rw [VX,OS,e]
  cases amB c a b <;> rfl
 have nm:∀ (p q:Bool),((if (!(p==c.2.2.1))=true then some 0 else some 1:Option Int).bind fun v1=>(if (!(q==c.2.2.1))=true then some 0 else some 1:Option Int).bind fun v2=>(Ba v1 v2).bind fun v3=>some v3)=some (Ix (if (!(p==c.2.2.1))=true then 0 else 1) (if (!(q==c.2.2.1))=true then 0 else 1)):=fun p q=>by
  simp only [Q6]
  cases (p==c.2.2.1) <;> cases (q==c.2.2.1) <;> rfl
 have pl:∀ (o:Int->Option Int) (k:Int->Int),(∀ i,o i=some (k i))->(((B4 i).bind fun v1=>((if (!v1)=true then some true else (B4 j).bind fun v2=>some (!v2)):Option Bool).bind fun j4=>if j4=true then some 0 else (o i).bind fun v6=>(o j).bind fun v7=>(Ba v6 v7).bind fun v8=>some v8):Option Int)=some (if (!MT i||!MT j)=true then 0 else Ix (k i) (k j)):=fun o k e=>by
  simp only [VG,OS,e,Q6]
  cases MT i <;> cases MT j <;> rfl
 unfold C6 dir
 by_cases h1:c.1=1
 ·have e1:(c.1==1)=true:=by simp [h1]
  rw [if_pos e1]
  refine cl (Be (fun x (v:AD×Unit)=>CY x v.1) (a,i) (b,j) (c,())) _ ?_
  unfold Be L6
  dsimp only
  rw [if_pos e1,Rz _ c h,OS,Rz _ c h,OS,Q6]; rfl
 rw [if_neg (show ¬ (c.1==1)=true by simpa using h1)]
 by_cases h2:c.1=2
 ·have e2:(c.1==2)=true:=by simp [h2]
  rw [if_pos e2]
  refine cl (CD (a,i) (b,j) c) _ ?_
  unfold L6
  rw [if_neg (show ¬ (c.1==1)=true by simpa using h1),if_pos e2,O7,h2]; rfl
 rw [if_neg (show ¬ (c.1==2)=true by simpa using h2)]
 by_cases h3:c.1=3
 ·have e3:(c.1==3)=true:=by simp [h3]
  rw [if_pos e3]
  refine cl (CD (a,i) (b,j) c) _ ?_
  unfold L6
  rw [if_neg (show ¬ (c.1==1)=true by simpa using h1),if_neg (show ¬ (c.1==2)=true by simpa using h2),if_pos e3,O7,h3]; rfl
 rw [if_neg (show ¬ (c.1==3)=true by simpa using h3)]
 by_cases h4:c.1=4
 ·have e4:(c.1==4)=true:=by simp [h4]
  rw [if_pos e4]
  refine cl (Be (fun x (v:AD×AD×Unit)=>Au x v.1 v.2.1) (a,i) (b,j) (c,c,())) _ ?_
  have:L6 c a b i j=Ix (nv c a) (nv c b):=by unfold L6; simp [h4]
  rw [this]
  unfold nv nmB
  rw [if_pos e4,if_pos e4]
  exact nm _ _
 rw [if_neg (show ¬ (c.1==4)=true by simpa using h4)]
 by_cases h5:c.1=5
 ·have e5:(c.1==5)=true:=by simp [h5]
  rw [if_pos e5]
  refine cl (Be (fun x (v:Unit×AD×Unit)=>Av x v.2.1) (a,i) (b,j) ((),c,())) _ ?_
  have:L6 c a b i j=Ix (nv c a) (nv c b):=by unfold L6; simp [h5]
  rw [this]
  unfold nv nmB
  simp only [h5]
  exact nm _ _
 rw [if_neg (show ¬ (c.1==5)=true by simpa using h5)]
 by_cases h6:c.1=6
 ·have e6:(c.1==6)=true:=by simp [h6]
  rw [if_pos e6]
  refine cl (Be (fun x (v:AD×AD×Unit)=>Aq x v.1 v.2.1) (a,i) (b,j) (c,c,())) _ ?_
  have:L6 c a b i j=Ix (nv c a) (nv c b):=by unfold L6; simp [h6]
  rw [this]
  unfold Be Aq EF
  dsimp only
  rw [Nr _ _ ha h,Nr _ _ hb h]
  unfold nv nmB
  simp only [h6]
  exact nm _ _
 rw [if_neg (show ¬ (c.1==6)=true by simpa using h6)]
 by_cases h7:c.1=7
 ·have e7:(c.1==7)=true:=by simp [h7]
  rw [if_pos e7]
  refine cl (Be (fun x (v:AD×AD×Unit)=>Ar x v.1 v.2.1) (a,i) (b,j) (c,c,())) _ ?_
  have:L6 c a b i j=Ix (nv c a) (nv c b):=by unfold L6; simp [h7]
  rw [this]
  unfold Be Ar EG
  dsimp only
  rw [Gl _ _ h,Gl _ _ h]
  unfold nv nmB
  simp only [h7]
  exact nm _ _
 rw [if_neg (show ¬ (c.1==7)=true by simpa using h7)]
 by_cases h8:c.1=8
 ·have e8:(c.1==8)=true:=by simp [h8]
  rw [if_pos e8]
  refine cl (DO (a,i) (b,j)) _ ?_
  have:L6 c a b i j=Py a.1 b.1:=by unfold L6; simp [h8]
  rw [this]
  unfold DO
  rw [U7]; rfl
 rw [if_neg (show ¬ (c.1==8)=true by simpa using h8)]
 by_cases h10:c.1=10
 ·have e10:(c.1==10)=true:=by simp [h10]
  rw [if_pos e10]
  refine cl (AW (a,i) (b,j) c) _ ?_
  have:L6 c a b i j=if (!MT i||!MT j)=true then 0 else Ix (kyI i c.2.2.2.2) (kyI j c.2.2.2.2):=by unfold L6; simp [h10]
  rw [this]
  exact pl (fun i=>Cv i c) (fun i=>kyI i c.2.2.2.2) (fun i=>VI i c)
 rw [if_neg (show ¬ (c.1==10)=true by simpa using h10)]
 have h9:c.1=9:=by omega
 refine cl (AX (a,i) (b,j)) _ ?_
 have:L6 c a b i j=if (!MT i||!MT j)=true then 0 else Ix i j:=by unfold L6; simp [h9]
 rw [this]
 exact pl (fun i=>Dw i) (fun i=>i) (fun i=>rfl)
theorem Ok:∀ (x y:List UInt8),Go.Op.bytesLess x y=false->Go.Op.bytesLess y x=!(x==y)
 | [],[],_=>rfl
 | a::x,[],_=>rfl
 | [],b::y,h=>by cases h
 | a::x,b::y,h=>by
  have h':(decide (a < b)||(a==b&&Go.Op.bytesLess x y))=false:=h
  simp only [Bool.or_eq_false_iff,decide_eq_false_iff_not] at h'
  show (decide (b < a)||(b==a&&Go.Op.bytesLess y x))=!(a::x==b::y)
  by_cases e:a=b
  ·subst e
   have h2:Go.Op.bytesLess x y=false:=by simpa using h'.2
   have:=Ok x y h2
   simp [this]
  ·have hlt:b < a:=by
    rcases Nat.lt_trichotomy a.toNat b.toNat with q | q | q
    ·exact absurd (UInt8.lt_iff_toNat_lt.2 q) h'.1
    ·exact absurd (UInt8.toNat_inj.1 q) e
    ·exact UInt8.lt_iff_toNat_lt.2 q
   simp [hlt,e]
theorem UM (y:Bool) (s t:Int):snc y s t=if ((s != 0)&&((t==0)||(if y=true then decide (s > t) else decide (s < t))))=true then -1 else if ((t != 0)&&((s==0)||(if y=true then decide (t > s) else decide (t < s))))=true then 1 else 0:=by
 have w1:wr .i64 1=1:=by decide
 have w2:wr .i64 (-1) = -1:=by decide
 have w3:wr .i64 0=0:=by decide
 unfold snc Ix b2
 by_cases hs:s=0 <;> by_cases ht:t=0
 ·subst hs ht; cases y <;> simp [w3]
 ·subst hs; simp [ht]
 ·subst ht; simp [hs]
 ·have e1:(s==0)=false:=by simpa using hs
  have e2:(t==0)=false:=by simpa using ht
  have e3:(s != 0)=true:=by simpa using hs
  have e4:(t != 0)=true:=by simpa using ht
  rw [e1,e2,e3,e4]
  rcases Int.lt_trichotomy s t with q | q | q
  ·have q2:¬ t < s:=by omega
   cases y <;> simp [q,q2,w1]
  ·subst q; cases y <;> simp [w3]
  ·have q2:¬ s < t:=by omega
   cases y <;> simp [q,q2,w2]
/-- The first clause that separates two guests. -/
def rsn (a b:CB) (i j:Int):List AD->Nat->Unit ⊕ (Int×Int)
 | [],_=> .inl ()
 | x::r,k=>if dir x a b i j=0 then rsn a b i j r (k + 1) else .inr ((k:Int),dir x a b i j)
def OU (c:List AD) (a b:CB) (i j:Int):Int×Int:=match rsn a b i j c 0 with
 | .inl _=>(-1,0)
 | .inr w=>w
theorem T5 (a b:CB) (i j:Int):∀ (r:List AD) (k:Nat),goU (fun x k (n:Option (Unit ⊕ (Int×Int)))=>if (dir x a b i j != 0)=true then some (.inr ((k:Int),dir x a b i j)) else n) (some (.inl ())) r k=some (rsn a b i j r k)
 | [],_=>rfl
 | x::r,k=>by
  unfold goU rsn
  rw [T5 a b i j r (k + 1)]
  by_cases h:dir x a b i j=0 <;> simp [h]
def L4 (g:CB):Prop:=g.2.2.2.2.2.2.2.2.length<=10
def Sh (c:List AD):Prop:=∀ x ∈ c,1<=x.1/\x.1<=10
theorem SW (c:List AD) (a b:CB) (i j:Int) (h:few c) (hk:Sh c) (ha:L4 a) (hb:L4 b):Ao c (a,i) (b,j)=some (OU c a b i j):=by
 have hl:=h.1
 have e:AR c 100000 a.1 a.2.1 a.2.2.1 a.2.2.2.1 a.2.2.2.2.1 a.2.2.2.2.2.1 a.2.2.2.2.2.2.1 a.2.2.2.2.2.2.2.1 a.2.2.2.2.2.2.2.2 i b.1 b.2.1 b.2.2.1 b.2.2.2.1 b.2.2.2.2.1 b.2.2.2.2.2.1 b.2.2.2.2.2.2.1 b.2.2.2.2.2.2.2.1 b.2.2.2.2.2.2.2.2 j 0=some (rsn a b i j c 0):=by
  rw [<-T5]
  refine MW c (fun f n=>AR c f a.1 a.2.1 a.2.2.1 a.2.2.2.1 a.2.2.2.2.1 a.2.2.2.2.2.1 a.2.2.2.2.2.2.1 a.2.2.2.2.2.2.2.1 a.2.2.2.2.2.2.2.2 i b.1 b.2.1 b.2.2.1 b.2.2.2.1 b.2.2.2.2.1 b.2.2.2.2.2.1 b.2.2.2.2.2.2.1 b.2.2.2.2.2.2.2.1 b.2.2.2.2.2.2.2.2 j n) _ _ 100000 (by omega) (fun f pre v r e=>?_) (fun f=>?_)
  ·conv=>lhs; unfold AR
   have hv:T2 v:=h.2 v (by rw [e]; simp)
   have hd:=U9 v a b i j (by have:=hv.2.1; omega) (by unfold L4 at ha; omega) (by unfold L4 at hb; omega) (hk v (by rw [e]; simp))
   rw [if_pos (by rw [e]; exact Jg pre v r),show idx c (pre.length:Int)=some v by rw [e,Hu],OS]
   rw [show C6 ((a.1,a.2.1,a.2.2.1,a.2.2.2.1,a.2.2.2.2.1,a.2.2.2.2.2.1,a.2.2.2.2.2.2.1,a.2.2.2.2.2.2.2.1,a.2.2.2.2.2.2.2.2),i) ((b.1,b.2.1,b.2.2.1,b.2.2.2.1,b.2.2.2.2.1,b.2.2.2.2.2.1,b.2.2.2.2.2.2.1,b.2.2.2.2.2.2.2.1,b.2.2.2.2.2.2.2.2),j) v=some (dir v a b i j) from hd,OS,H2 pre v r (by rw [<-e]; omega)]
  ·show AR c (f + 1) a.1 a.2.1 a.2.2.1 a.2.2.2.1 a.2.2.2.2.1 a.2.2.2.2.2.1 a.2.2.2.2.2.2.1 a.2.2.2.2.2.2.2.1 a.2.2.2.2.2.2.2.2 i b.1 b.2.1 b.2.2.1 b.2.2.2.1 b.2.2.2.2.1 b.2.2.2.2.2.1 b.2.2.2.2.2.2.1 b.2.2.2.2.2.2.2.1 b.2.2.2.2.2.2.2.2 j (c.length:Int)=_
   conv=>lhs; unfold AR
   rw [if_neg (by simp)]
 unfold Ao OU
 dsimp only
 rw [e,OS]
 cases rsn a b i j c 0 <;> rfl
theorem Ni (c:List AD) (h:few c) (hk:Sh c):∀ (r pre:List AD) (f:Nat),c=pre++r->r.length < f->Cc c f pre (pre.length:Int)=some c
 | [],pre,f + 1,e,_=>by
  unfold Cc
  rw [if_neg (by rw [e]; simp),e,List.append_nil]
 | v::r,pre,f + 1,e,hf=>by
  have hl:=h.1
  have hl2:c.length=pre.length + r.length + 1:=by rw [e]; simp; omega
  simp only [List.length_cons] at hf
  have hkv:=hk v (by rw [e]; simp)
  unfold Cc
  rw [if_pos (by rw [e]; exact Jg pre v r),show idx c (pre.length:Int)=some v by rw [e,Hu],OS,show Dv v=some v by unfold Dv; rw [if_pos hkv],OS,if_pos (Ku (by omega) (by omega)),show wr .i64 ((pre.length:Int) + 1)=((pre++[v]).length:Int) from H2 pre v r (by rw [<-e]; omega)]
  exact Ni c h hk r (pre++[v]) f (by rw [e]; simp) (by omega)
theorem SX {x:AD}(h:fm x=true):1<=x.1/\x.1<=10:=by
 by_cases hk:1<=x.1/\x.1<=10
 ·exact hk
 ·exfalso
  have n:∀ q:Int,1<=q->q<=10->¬ (x.1==q)=true:=fun q h1 h2 e=>hk (by have:x.1=q:=(by simpa using e); omega)
  have e:Ah x=some false:=by
   unfold Ah Di Dj Dk Dl
   have n9:(x.1==9)=false:=by simpa using n 9 (by omega) (by omega)
   have n7:(x.1==7)=false:=by simpa using n 7 (by omega) (by omega)
   rw [if_neg (n 1 (by omega) (by omega)),if_neg (n 2 (by omega) (by omega)),if_neg (n 3 (by omega) (by omega)),if_neg (n 8 (by omega) (by omega)),if_neg (n 4 (by omega) (by omega)),if_neg (n 5 (by omega) (by omega)),if_neg (n 6 (by omega) (by omega)),if_neg (n 10 (by omega) (by omega)),n9,n7]
   rfl
  unfold fm at h
  rw [e] at h
  cases h
theorem Om (c:List AD):∀ (r:List AD) (i:Nat),(∃ u,Pk c r i = .inl u/\∀ x ∈ r,fm x=true)\/∃ w,Pk c r i = .inr w/\w.2≠0
 | [],i=> .inl ⟨(),rfl,fun x hx=>by cases hx⟩
 | x::r,i=>by
  unfold Pk
  by_cases h:chk (c.take i) x=0
  ·rw [if_neg (by simpa using h)]
   rcases Om c r (i + 1) with ⟨u,h1,h2⟩ | h1
   ·refine .inl ⟨u,h1,fun y hy=>?_⟩
    rcases List.mem_cons.1 hy with rfl | hy
    ·cases hf:fm y with
     | true=>rfl
     | false=>unfold chk at h; rw [if_pos hf] at h; cases h
    ·exact h2 y hy
   ·exact .inr h1
  ·rw [if_pos h]
   exact .inr ⟨_,rfl,h⟩
theorem OX {c:List AD}(h:(Q5 c).2=0):Sh c:=by
 unfold Q5 at h
 split at h
 ·cases h
 ·rcases Om c c 0 with ⟨u,h1,h2⟩ | ⟨w,h1,h2⟩
  ·exact fun x hx=>SX (h2 x hx)
  ·rw [h1] at h; exact absurd h h2
theorem O9 (c:List AD) (a b:CB) (i j:Int) (h:few c) (ha:L4 a) (hb:L4 b):DM c a b i j=some (if (Q5 c).2=0 then OU c a b i j else (0,0)):=by
 unfold DM Ej
 rw [SP c h,OS]
 by_cases hv:(Q5 c).2=0
 ·have hk:=OX hv
  have e0:Cc c 100000 [] 0=some c:=Ni c h hk c [] 100000 rfl (by have:=h.1; omega)
  rw [if_neg (by simpa using hv),if_pos hv,e0]
  simp only [OS]
  rw [if_neg (by simp),SW c a b i j h hk ha hb]
  rfl
 ·rw [if_pos (by simpa using hv),if_neg hv]
  rfl
theorem P3 (c:List AD) (a b:CB) (i j:Int) (h:few c) (ha:L4 a) (hb:L4 b):CC c a b i j=some (if (Q5 c).2=0 then OU c a b i j else (0,0)).2:=by
 unfold CC
 rw [O9 c a b i j h ha hb]; rfl
/-- A letter a to d. -/
def wd (k:Int):List UInt8:=((((([97,98,99,100]:List UInt8).take (([97,98,99,100]:List UInt8).length:Int).toNat).drop k.toNat).take (1:Int).toNat).drop (0:Int).toNat)
theorem Uk {k:Int}(h1:0<=k) (h2:k < 4):k=0\/k=1\/k=2\/k=3:=by omega
theorem Qh {k:Int}(h1:0<=k) (h2:k < 4):EL (wd k)=true/\(wd k).length=1:=by
 rcases Uk h1 h2 with rfl | rfl | rfl | rfl <;> decide
theorem UT {a b:Int}(h1:0<=a) (h2:a < 4) (h3:0<=b) (h4:b < 4) (h:(wd a==wd b)=true):a=b:=by
 rcases Uk h1 h2 with rfl | rfl | rfl | rfl <;> rcases Uk h3 h4 with rfl | rfl | rfl | rfl <;> first | rfl | (exact absurd h (by decide))
theorem TX {k:Int}(h1:0<=k) (h2:k < 4):C8 k (([97,98,99,100]:List UInt8).length:Int) ([97,98,99,100]:List UInt8).length=true/\C8 0 (1:Int) ((([97,98,99,100]:List UInt8).take (([97,98,99,100]:List UInt8).length:Int).toNat).drop k.toNat).length=true:=by
 rcases Uk h1 h2 with rfl | rfl | rfl | rfl <;> exact ⟨by decide,by decide⟩
def u8 (n:Int):Prop:=0<=n/\n<=255
theorem tm4 {n:Int}(h:u8 n):0<=n.tmod 4/\n.tmod 4 < 4:=by
 have:=h.1
 rw [Int.tmod_eq_emod_of_nonneg this]
 omega
theorem wr8 (n:Int) (h:u8 n):u8 (wr .u8 (n + 1))/\(wr .u8 (n + 1)).tmod 4≠n.tmod 4:=by
 have e:wr .u8 (n + 1)=(n + 1) % 256:=rfl
 have h2:u8 ((n + 1) % 256):=⟨by omega,by omega⟩
 refine ⟨e ▸ h2,?_⟩
 rw [e,Int.tmod_eq_emod_of_nonneg h2.1,Int.tmod_eq_emod_of_nonneg h.1]
 unfold u8 at h
 omega
/-- The names of a code. -/
def nms (v:Int×Int×Int×Bool×Bool):List (List UInt8):=if ((BG .u8 v.2.2.1 4)!=0)=true then [wd (v.2.2.1.tmod 4),wd ((wr .u8 (v.2.2.1 + 1)).tmod 4)] else [wd (v.2.2.1.tmod 4)]
theorem UF (x0:List (Int×Int×Int×Bool×Bool)) (c2:List AD) (c3:List UInt8) (c4:Int) (v:Int×Int×Int×Bool×Bool) (h:u8 v.2.2.1):FO x0 c2 c3 c4 v=some (nms v):=by
 unfold FO nms
 obtain ⟨h1,_⟩:=wr8 _ h
 obtain ⟨q1,q2⟩:=tm4 h1
 obtain ⟨d1,d2⟩:=TX q1 q2
 by_cases hc:((BG .u8 v.2.2.1 4)!=0)=true
 ·rw [if_pos hc,if_pos hc,if_pos d1,if_pos d2]
  refine (if_pos ?_).trans rfl
  show Hh 16 2=true
  decide
 ·rw [if_neg hc,if_neg hc]; rfl
/-- The clause of a code. -/
def clz (k:Int) (am:List UInt8) (la:Bool) (nm:List (List UInt8)) (b:Int):AD :=
 if k=1 then (1,am,false,nm,0) else if k=4 then (4,am,la,[],wr .i64 (1 + wr .i64 (b.tmod 2))) else if k=5 then (5,am,la,[],0) else
 if k=6 then (6,am,la,nm,0) else if k=7 then (7,am,la,nm,0) else if k=10 then (10,am,false,[],wr .i64 (b.tmod 64)) else (k,am,false,[],0)
theorem ten {k:Int}(h1:1<=k) (h2:k<=10):k=1\/k=2\/k=3\/k=4\/k=5\/k=6\/k=7\/k=8\/k=9\/k=10:=by omega
theorem UG (x0:List (Int×Int×Int×Bool×Bool)) (c2:List AD) (c3:List UInt8) (c4 a b d:Int) (e g:Bool) (k:Int) (am:List UInt8) (w:List UInt8) (nm:List (List UInt8)) (h1:1<=k) (h2:k<=10) :
  FP x0 c3 c4 (c2,a,b,d,e,g,k,am,false,0,w::nm)=some (c2,(if k=1 then w else c3),clz k am e (w::nm) b):=by
 rcases ten h1 h2 with rfl | rfl | rfl | rfl | rfl | rfl | rfl | rfl | rfl | rfl <;> rfl
/-- Names that are fit. -/
def Ug (nm:List (List UInt8)):Prop:=1<=nm.length/\nm.length<=2/\(nm.any fun s=>!EL s)=false/\Qo nm nm 0=false/\∀ s ∈ nm,s.length<=40
theorem QS (v:Int×Int×Int×Bool×Bool) (h:u8 v.2.2.1):Ug (nms v)/\∃ r,nms v=wd (v.2.2.1.tmod 4)::r:=by
 obtain ⟨h1,h0⟩:=wr8 _ h
 obtain ⟨q1,q2⟩:=tm4 h1
 obtain ⟨p1,p2⟩:=tm4 h
 obtain ⟨a1,a2⟩:=Qh p1 p2
 obtain ⟨b1,b2⟩:=Qh q1 q2
 have hne:(wd ((wr .u8 (v.2.2.1 + 1)).tmod 4)==wd (v.2.2.1.tmod 4))=false:=by
  cases hh:(wd ((wr .u8 (v.2.2.1 + 1)).tmod 4)==wd (v.2.2.1.tmod 4)) with
  | false=>rfl
  | true=>exact absurd (UT q1 q2 p1 p2 hh) h0
 unfold nms
 split
 ·refine ⟨⟨by simp,by simp,by simp [a1,b1],?_,fun s hs=>?_⟩,_,rfl⟩
  ·simp [Qo,Kx,hne]
  ·rcases (by simpa using hs:s=_\/s=_) with rfl | rfl <;> omega
 ·refine ⟨⟨by simp,by simp,by simp [a1],by simp [Qo,Kx],fun s hs=>?_⟩,_,rfl⟩
  have:s=wd (v.2.2.1.tmod 4):=by simpa using hs
  rw [this]; omega
theorem Ty (k:Int) (am:List UInt8) (la:Bool) (nm:List (List UInt8)) (b:Int) (h1:1<=k) (h2:k<=10) (hb:u8 b) (ha:k=1->am=[]) (hn:Ug nm):fm (clz k am la nm b)=true:=by
 obtain ⟨n1,n2,_⟩:=hn
 have hl:nm.length=1\/nm.length=2:=by omega
 have e2:wr .i64 (1 + wr .i64 (b.tmod 2))=1\/wr .i64 (1 + wr .i64 (b.tmod 2))=2:=by
  rw [Int.tmod_eq_emod_of_nonneg hb.1]
  have hw:wr .i64 (b % 2)=b % 2:=Tc (by omega) (by omega)
  rw [hw,Tc (by omega) (by omega)]
  omega
 have e64:0<=wr .i64 (b.tmod 64)/\wr .i64 (b.tmod 64)<=63:=by
  rw [Int.tmod_eq_emod_of_nonneg hb.1,Tc (by omega) (by omega)]
  omega
 unfold fm
 rcases ten h1 h2 with rfl | rfl | rfl | rfl | rfl | rfl | rfl | rfl | rfl | rfl
 ·obtain rfl:=ha rfl
  have:clz 1 [] la nm b=(1,[],false,nm,0):=rfl
  rw [this]
  rcases hl with h | h <;> simp [Ah,A8,h]
 ·rfl
 ·rfl
 ·have:clz 4 am la nm b=(4,am,la,[],wr .i64 (1 + wr .i64 (b.tmod 2))):=rfl
  rw [this]
  rcases e2 with h | h <;> rw [h] <;> rfl
 ·rfl
 ·have:clz 6 am la nm b=(6,am,la,nm,0):=rfl
  rw [this]
  rcases hl with h | h <;> simp [Ah,Di,Dj,Dk,Dl,A8,h]
 ·have:clz 7 am la nm b=(7,am,la,nm,0):=rfl
  rw [this]
  rcases hl with h | h <;> simp [Ah,Di,Dj,Dk,Dl,A8,h]
 ·rfl
 ·rfl
 ·have:clz 10 am la nm b=(10,am,false,[],wr .i64 (b.tmod 64)):=rfl
  rw [this]
  simp [Ah,Di,Dj,Dk,Dl,A8,e64.1,e64.2]
/-- Every clause is valid behind what stands before it. -/
def Ha (pre:List AD):List AD->Prop
 | []=>True
 | x::r=>chk pre x=0/\Ha (pre++[x]) r
theorem Id:∀ (a pre b:List AD),Ha pre (a++b)↔Ha pre a/\Ha (pre++a) b
 | [],pre,b=>by simp [Ha]
 | x::a,pre,b=>by
  simp only [List.cons_append,Ha,Id a (pre++[x]) b,List.append_assoc,List.cons_append,List.nil_append,and_assoc]
theorem Ma (a b:List AD) (s:List UInt8):Gb (a++b) s=(Gb a s||Gb b s):=by
 unfold Gb
 rw [List.any_append]
theorem Nb (c:List AD):∀ (r pre:List AD),c=pre++r->Ha pre r->Pk c r pre.length = .inl ()
 | [],_,_,_=>rfl
 | x::r,pre,e,h=>by
  unfold Pk
  have ht:c.take pre.length=pre:=by rw [e]; simp
  rw [ht,if_neg (by rw [h.1]; decide)]
  have:=Nb c r (pre++[x]) (by rw [e]; simp) h.2
  simpa using this
theorem QI {c:List AD}(hl:c.length<=32) (h:Ha [] c):Q5 c=(0,0):=by
 unfold Q5
 have:Pk c c 0 = .inl ():=Nb c c [] rfl h
 rw [if_neg (by omega),this]
theorem Rv (k:Int) (am:List UInt8) (la:Bool) (nm:List (List UInt8)) (b:Int):(clz k am la nm b).2.1=am:=by
 unfold clz
 split; · rfl
 split; · rfl
 split; · rfl
 split; · rfl
 split; · rfl
 split <;> rfl
theorem On (k:Int) (am:List UInt8) (la:Bool) (nm:List (List UInt8)) (b:Int):(clz k am la nm b).2.2.2.1=nm\/(clz k am la nm b).2.2.2.1=[]:=by
 unfold clz
 split; · exact .inl rfl
 split; · exact .inr rfl
 split; · exact .inr rfl
 split; · exact .inl rfl
 split; · exact .inl rfl
 split <;> exact .inr rfl
theorem SQ (pre:List AD) (k:Int) (am:List UInt8) (la:Bool) (nm:List (List UInt8)) (b:Int) (h1:1<=k) (h2:k<=10) (hb:u8 b) (ha:k=1->am=[]) (hn:Ug nm) (hr:am=[]\/Gb pre am=true/\EL am=true):chk pre (clz k am la nm b)=0:=by
 unfold chk
 rw [Ty k am la nm b h1 h2 hb ha hn,if_neg (by decide),Rv]
 have hN:((clz k am la nm b).2.2.2.1.any fun s=>!EL s)=false:=by
  rcases On k am la nm b with e | e <;> rw [e]
  ·exact hn.2.2.1
  ·rfl
 have hD:Qo (clz k am la nm b).2.2.2.1 (clz k am la nm b).2.2.2.1 0=false:=by
  rcases On k am la nm b with e | e <;> rw [e]
  ·exact hn.2.2.2.1
  ·rfl
 rw [hN,hD]
 rcases hr with rfl | ⟨h3,h4⟩
 ·simp
 ·simp [h3,h4]
theorem SS (k:Int) (am:List UInt8) (la:Bool) (nm:List (List UInt8)) (b:Int) (ha:am.length<=40) (hn:Ug nm):T2 (clz k am la nm b):=by
 refine ⟨by rw [Rv]; exact ha,?_,?_⟩
 ·rcases On k am la nm b with e | e <;> rw [e]
  ·have:=hn.2.1; omega
  ·simp
 ·rcases On k am la nm b with e | e <;> rw [e]
  ·exact hn.2.2.2.2
  ·simp
theorem UB {a:Int}(h:u8 a):1<=wr .u8 (1 + a.tmod 10)/\wr .u8 (1 + a.tmod 10)<=10:=by
 rw [Int.tmod_eq_emod_of_nonneg h.1]
 have e:wr .u8 (1 + a % 10)=(1 + a % 10) % 256:=rfl
 rw [e]
 omega
def Oo (v:Int×Int×Int×Bool×Bool):Prop:=u8 v.1/\u8 v.2.1/\u8 v.2.2.1
/-- What the loop keeps. -/
def RK (c2:List AD) (c3:List UInt8):Prop:=Ha [] c2/\(∀ x ∈ c2,T2 x)/\(c3=[]\/(Gb c2 c3=true/\EL c3=true/\c3.length<=40))
theorem QK {c2:List AD}{c3:List UInt8}(h:RK c2 c3) (v:Int×Int×Int×Bool×Bool) (hv:Oo v) (am:List UInt8) (ham:am=[]\/am=c3) (hk1:wr .u8 (1 + v.1.tmod 10)=1->am=[]) (w:List UInt8) (r:List (List UInt8)) (hw:nms v=w::r) :
  RK (c2++[clz (wr .u8 (1 + v.1.tmod 10)) am v.2.2.2.1 (w::r) v.2.1]) (if wr .u8 (1 + v.1.tmod 10)=1 then w else c3):=by
 obtain ⟨g1,g2,g3⟩:=h
 obtain ⟨k1,k2⟩:=UB hv.1
 obtain ⟨n1,r',n2⟩:=QS v hv.2.2
 rw [hw] at n1
 have ha:am=[]\/Gb c2 am=true/\EL am=true:=by
  rcases ham with e | e
  ·exact .inl e
  ·rcases g3 with g3 | ⟨q1,q2,_⟩
   ·exact .inl (e.trans g3)
   ·rw [e]; exact .inr ⟨q1,q2⟩
 have ha40:am.length<=40:=by
  rcases ham with e | e
  ·rw [e]; simp
  ·rcases g3 with g3 | ⟨_,_,q3⟩
   ·rw [e,g3]; simp
   ·rw [e]; exact q3
 refine ⟨(Id _ _ _).2 ⟨g1,SQ _ _ _ _ _ _ k1 k2 hv.2.1 hk1 n1 ha,trivial⟩,fun x hx=>?_,?_⟩
 ·rcases List.mem_append.1 hx with hx | hx
  ·exact g2 x hx
  ·rw [List.mem_singleton.1 hx]
   exact SS _ _ _ _ _ ha40 n1
 ·by_cases hk:wr .u8 (1 + v.1.tmod 10)=1
  ·rw [if_pos hk]
   refine .inr ⟨?_,?_,n1.2.2.2.2 w (by simp)⟩
   ·rw [Ma,hk]
    have:Gb [clz 1 am v.2.2.2.1 (w::r) v.2.1] w=true:=by
     unfold Gb clz Kx
     simp
    rw [this]; simp
   ·have:=n1.2.2.1
    simp at this
    exact this.1
  ·rw [if_neg hk]
   rcases g3 with g3 | ⟨q1,q2,q3⟩
   ·exact .inl g3
   ·exact .inr ⟨by rw [Ma,q1]; simp,q2,q3⟩
theorem QO (x0:List (Int×Int×Int×Bool×Bool)) (ys:List (Int×Int×Int×Bool×Bool)) (hys:((x0.take (mnI (x0.length:Int) 8).toNat).drop (0:Int).toNat)=ys) (hb:∀ v ∈ ys,Oo v) (h8:ys.length<=8):∀ (r pre:List (Int×Int×Int×Bool×Bool)) (c2:List AD) (c3:List UInt8) (f:Nat),ys=pre++r->r.length < f->c2.length=pre.length->RK c2 c3 ->
  ∃ c c3',DR x0 f c2 c3 (pre.length:Int)=some c/\RK c c3'/\c.length=ys.length
 | [],pre,c2,c3,f + 1,e,_,hl,hk=>by
  refine ⟨c2,c3,?_,hk,by rw [hl,e]; simp⟩
  unfold DR
  rw [hys,if_neg (by rw [e]; simp)]
 | v::r,pre,c2,c3,f + 1,e,hf,hl,hk=>by
  have hv:=hb v (by rw [e]; simp)
  have hl2:ys.length=pre.length + r.length + 1:=by rw [e]; simp; omega
  simp only [List.length_cons] at hf
  obtain ⟨p1,p2⟩:=tm4 hv.2.2
  obtain ⟨d1,d2⟩:=TX p1 p2
  obtain ⟨k1,k2⟩:=UB hv.1
  obtain ⟨n1,r',n2⟩:=QS v hv.2.2
  have hstep:∃ am,(am=[]\/am=c3)/\(wr .u8 (1 + v.1.tmod 10)=1->am=[])/\((if v.2.2.2.2=true then some (c2,v.1,v.2.1,v.2.2.1,v.2.2.2.1,true,(wr .u8 (1 + (v.1.tmod 10))),([]:List UInt8),false,(0:Int),nms v,((wr .u8 (1 + (v.1.tmod 10)))!=1)) else some (c2,v.1,v.2.1,v.2.2.1,v.2.2.2.1,false,(wr .u8 (1 + (v.1.tmod 10))),([]:List UInt8),false,(0:Int),nms v,false)).bind fun j27=>EH x0 c3 (pre.length:Int) j27)=some (c2,v.1,v.2.1,v.2.2.1,v.2.2.2.1,v.2.2.2.2,(wr .u8 (1 + (v.1.tmod 10))),am,false,(0:Int),nms v):=by
   cases ht:v.2.2.2.2 with
   | false=>exact ⟨[],.inl rfl,fun _=>rfl,rfl⟩
   | true =>
    by_cases h1:wr .u8 (1 + v.1.tmod 10)=1
    ·refine ⟨[],.inl rfl,fun _=>rfl,?_⟩
     rw [if_pos rfl,OS]
     unfold EH
     rw [if_neg (by simp [h1])]
    ·refine ⟨c3,.inr rfl,fun q=>absurd q h1,?_⟩
     rw [if_pos rfl,OS]
     unfold EH
     rw [if_pos (by simpa using h1)]
  obtain ⟨am,ham,hk1,hj⟩:=hstep
  have hm4:FP x0 c3 (pre.length:Int) (c2,v.1,v.2.1,v.2.2.1,v.2.2.2.1,v.2.2.2.2,(wr .u8 (1 + (v.1.tmod 10))),am,false,(0:Int),nms v)=some (c2,(if wr .u8 (1 + v.1.tmod 10)=1 then wd (v.2.2.1.tmod 4) else c3),clz (wr .u8 (1 + v.1.tmod 10)) am v.2.2.2.1 (nms v) v.2.1):=by
   rw [n2]
   exact UG x0 c2 c3 _ _ _ _ _ _ _ am _ _ k1 k2
  have hks:=QK hk v hv am ham hk1 _ _ n2
  obtain ⟨c,c3',q1,q2,q3⟩:=QO x0 ys hys hb h8 r (pre++[v]) _ _ f (by rw [e]; simp) (by omega) (by simp [hl]) hks
  refine ⟨c,c3',?_,q2,q3⟩
  rw [<-q1]
  conv=>lhs; unfold DR
  rw [hys,if_pos (by rw [e]; exact Jg pre v r),show idx ys (pre.length:Int)=some v by rw [e,Hu],OS,if_pos d1,if_pos d2,UF x0 c2 c3 _ v hv.2.2,OS]
  rw [<-Option.bind_assoc,hj,OS,hm4,OS]
  dsimp only
  rw [if_pos (Ku (by omega) (by omega)),H2 pre v r (by rw [<-e]; omega),n2]
theorem Ss (x0:List (Int×Int×Int×Bool×Bool)) (hb:∀ v ∈ x0,Oo v):∃ c,Fc x0=some c/\few c/\Ha [] c/\c.length<=8:=by
 have hm:0<=mnI (x0.length:Int) 8/\mnI (x0.length:Int) 8<=8/\mnI (x0.length:Int) 8<=x0.length:=by
  unfold mnI
  split <;> omega
 have h8:((x0.take (mnI (x0.length:Int) 8).toNat).drop (0:Int).toNat).length<=8:=by
  rw [List.length_drop,List.length_take]; omega
 obtain ⟨c,c3,h1,h2,h3⟩:=QO x0 _ rfl (fun v hv=>hb v (List.mem_of_mem_take (List.mem_of_mem_drop hv))) h8 _ [] [] [] 100000 rfl (Nat.lt_of_le_of_lt h8 (by decide)) rfl ⟨trivial,fun x hx=>by simp at hx,.inl rfl⟩
 refine ⟨c,?_,⟨by omega,h2.2.1⟩,h2.1,by omega⟩
 unfold Fc
 rw [if_pos (by unfold C8; simp; omega)]
 have e:DR x0 100000 [] [] 0=some c:=h1
 rw [e]; rfl
/-- The decision of a merged text. -/
theorem Jk (a b:CB) (i j:Int) (x:AD) (r:List AD) (k:Nat):rsn a b i j (x::r) k=if dir x a b i j=0 then rsn a b i j r (k + 1) else .inr ((k:Int),dir x a b i j):=rfl
theorem QZ (a b:CB) (i j:Int):∀ (c d:List AD) (k:Nat),rsn a b i j (c++d) k=match rsn a b i j c k with | .inl _=>rsn a b i j d (k + c.length) | .inr w=> .inr w
 | [],d,k=>rfl
 | x::c,d,k=>by
  rw [List.cons_append,Jk,Jk]
  by_cases h:dir x a b i j=0
  ·rw [if_pos h,if_pos h,QZ a b i j c d (k + 1),List.length_cons,show k + 1 + c.length=k + (c.length + 1) by omega]
  ·rw [if_neg h,if_neg h]
theorem PC (a b:CB) (i j:Int):∀ (c:List AD) (k:Nat),(∃ u,rsn a b i j c k = .inl u)\/∃ w,rsn a b i j c k = .inr w/\w.2≠0
 | [],k=> .inl ⟨(),rfl⟩
 | x::c,k=>by
  unfold rsn
  by_cases h:dir x a b i j=0
  ·rw [if_pos h]; exact PC a b i j c (k + 1)
  ·rw [if_neg h]; exact .inr ⟨_,rfl,h⟩
theorem UL (a b:CB) (i j:Int):∀ (c:List AD) (k q:Nat),(match rsn a b i j c k with | .inl _=>(0:Int) | .inr w=>w.2)=(match rsn a b i j c q with | .inl _=>(0:Int) | .inr w=>w.2)
 | [],_,_=>rfl
 | x::c,k,q=>by
  unfold rsn
  by_cases h:dir x a b i j=0
  ·rw [if_pos h,if_pos h]; exact UL a b i j c (k + 1) (q + 1)
  ·rw [if_neg h,if_neg h]
def FY (c:List AD) (a b:CB) (i j:Int):Int:=(OU c a b i j).2
theorem LB (c:List AD) (a b:CB) (i j:Int):FY c a b i j=match rsn a b i j c 0 with | .inl _=>(0:Int) | .inr w=>w.2:=by
 unfold FY OU
 cases rsn a b i j c 0 <;> rfl
theorem Pz (c d:List AD) (a b:CB) (i j:Int):FY (c++d) a b i j=if FY c a b i j=0 then FY d a b i j else FY c a b i j:=by
 rw [LB,LB,LB,QZ]
 rcases PC a b i j c 0 with ⟨u,h⟩ | ⟨w,h,hw⟩
 ·rw [h]
  simp only [if_true]
  exact UL a b i j d _ _
 ·rw [h]
  simp only [hw,if_false]
theorem P2 (c:List AD) (a b:CB) (i j:Int) (h:few c) (hl:c.length<=32) (hg:Ha [] c) (ha:L4 a) (hb:L4 b):CC c a b i j=some (FY c a b i j):=by
 rw [P3 c a b i j h ha hb,QI hl hg,if_pos rfl]; rfl
/-- -1, 0 or 1, turned round with its arguments, and a chain decides by its least. -/
structure Wk3 {α:Type} (f:α->α->Int):Prop where
 v:∀ a b,f a b = -1\/f a b=0\/f a b=1
 s:∀ a b,f a b = - f b a
 t:∀ a b c,f a b<=0->f b c<=0->f a c=min (f a b) (f b c)
theorem NE {α:Type}(k:α->Int):Wk3 (fun a b=>Ix (k a) (k b)):=by
 refine ⟨fun a b=>?_,fun a b=>?_,fun a b c h1 h2=>?_⟩
 ·unfold Ix; split
  ·exact .inl rfl
  ·split
   ·exact .inr (.inr rfl)
   ·exact .inr (.inl rfl)
 ·unfold Ix; split <;> split <;> first | rfl | omega | (split <;> first | rfl | omega)
 ·(try dsimp only at h1 h2 ⊢)
  unfold Ix at *
  split at h1 <;> split at h2 <;> first | (split at h1 <;> first | omega | skip) | skip
  all_goals first | (split at h2 <;> first | omega | skip) | skip
  all_goals (split <;> first | omega | skip)
  all_goals first | rfl | omega | (split <;> first | rfl | omega)
theorem Oj:∀ (x:List UInt8),Go.Op.bytesLess x x=false
 | []=>rfl
 | a::x=>by
  show (decide (a < a)||(a==a&&Go.Op.bytesLess x x))=false
  rw [Oj x]; simp
theorem Mo:∀ (x y z:List UInt8),Go.Op.bytesLess x y=true->Go.Op.bytesLess y z=true->Go.Op.bytesLess x z=true
 | x,[],_,h,_=>by cases x <;> cases h
 | _,_::_,[],_,h=>by cases h
 | [],_::_,_::_,_,_=>rfl
 | a::x,b::y,c::z,h1,h2=>by
  have h1':(decide (a < b)||(a==b&&Go.Op.bytesLess x y))=true:=h1
  have h2':(decide (b < c)||(b==c&&Go.Op.bytesLess y z))=true:=h2
  show (decide (a < c)||(a==c&&Go.Op.bytesLess x z))=true
  simp only [Bool.or_eq_true,Bool.and_eq_true,decide_eq_true_eq,beq_iff_eq] at h1' h2' ⊢
  rcases h1' with q1 | ⟨rfl,q1⟩ <;> rcases h2' with q2 | ⟨rfl,q2⟩
  ·exact .inl (UInt8.lt_trans q1 q2)
  ·exact .inl q1
  ·exact .inl q2
  ·exact .inr ⟨rfl,Mo x y z q1 q2⟩
theorem TO {α:Type}(k:α->List UInt8):Wk3 (fun a b=>Py (k a) (k b)):=by
 have val:∀ x y:List UInt8,(Go.Op.bytesLess x y=true/\Py x y = -1)\/(x=y/\Py x y=0)\/(Go.Op.bytesLess y x=true/\Py x y=1):=fun x y=>by
  unfold Py
  cases h:Go.Op.bytesLess x y with
  | true=>exact .inl ⟨rfl,rfl⟩
  | false =>
   have:=Ok x y h
   cases he:(x==y) with
   | true=>exact .inr (.inl ⟨by simpa using he,rfl⟩)
   | false=>exact .inr (.inr ⟨by rw [this,he]; rfl,rfl⟩)
 have asy:∀ x y:List UInt8,Go.Op.bytesLess x y=true->Go.Op.bytesLess y x=true->False:=fun x y h1 h2=>by
  have:=Mo x y x h1 h2
  rw [Oj] at this
  cases this
 refine ⟨fun a b=>?_,fun a b=>?_,fun a b c h1 h2=>?_⟩
 ·rcases val (k a) (k b) with ⟨_,h⟩ | ⟨_,h⟩ | ⟨_,h⟩
  ·exact .inl h
  ·exact .inr (.inl h)
  ·exact .inr (.inr h)
 ·(try dsimp only)
  rcases val (k a) (k b) with ⟨p,h⟩ | ⟨p,h⟩ | ⟨p,h⟩ <;> rcases val (k b) (k a) with ⟨q,g⟩ | ⟨q,g⟩ | ⟨q,g⟩ <;> rw [h,g] <;> first | rfl | (exfalso; first | exact asy _ _ p q | (rw [q,Oj] at p; cases p) | (rw [p,Oj] at q; cases q))
 ·(try dsimp only at h1 h2 ⊢)
  rcases val (k a) (k b) with ⟨p,h⟩ | ⟨p,h⟩ | ⟨p,h⟩ <;> rcases val (k b) (k c) with ⟨q,g⟩ | ⟨q,g⟩ | ⟨q,g⟩ <;> first | (rw [h] at h1; exact absurd h1 (by decide)) | (rw [g] at h2; exact absurd h2 (by decide)) | skip
  ·rw [h,g]
   have:=Mo _ _ _ p q
   unfold Py
   rw [if_pos this]; rfl
  ·rw [h,g,<-q,h]; rfl
  ·rw [h,g,p,g]; rfl
  ·rw [h,g,p,g]; rfl
theorem R9 {α:Type}(y:Bool) (k:α->Int):Wk3 (fun a b=>snc y (k a) (k b)):=by
 have val:∀ s t:Int,snc y s t=if s=0 then (if t=0 then 0 else 1) else if t=0 then -1 else if y=true then Ix t s else Ix s t:=fun s t=>by
  rw [UM]
  unfold Ix
  by_cases hs:s=0 <;> by_cases ht:t=0
  ·simp [hs,ht]
  ·simp [hs,ht]
  ·simp [hs,ht]
  ·cases y <;> simp [hs,ht]
 refine ⟨fun a b=>?_,fun a b=>?_,fun a b c h1 h2=>?_⟩
 ·(try dsimp only)
  rw [val]
  unfold Ix
  split
  ·split
   ·exact .inr (.inl rfl)
   ·exact .inr (.inr rfl)
  ·split
   ·exact .inl rfl
   ·split <;> (split; · exact .inl rfl) <;> (split; · exact .inr (.inr rfl)) <;> exact .inr (.inl rfl)
 ·(try dsimp only)
  rw [val,val]
  unfold Ix
  cases y <;> simp only [if_true,if_false,Bool.false_eq_true] <;> (repeat' split) <;> first | rfl | omega
 ·(try dsimp only at h1 h2 ⊢)
  rw [val] at h1 h2
  rw [val,val,val]
  unfold Ix at *
  cases y <;> simp only [if_true,if_false,Bool.false_eq_true] at h1 h2 ⊢ <;> (repeat' split at h1) <;> (repeat' split at h2) <;> first | omega | ((repeat' split) <;> first | rfl | omega)
/-- A second order where a first one ties. -/
theorem UU {α:Type}{f g:α->α->Int}(hf:Wk3 f) (gv:∀ a b,g a b = -1\/g a b=0\/g a b=1) (gs:∀ a b,g a b = - g b a)
  (gt:∀ a b c,f a b=0->f b c=0->g a b<=0->g b c<=0->g a c=min (g a b) (g b c)):Wk3 (fun a b=>if f a b=0 then g a b else f a b):=by
 refine ⟨fun a b=>?_,fun a b=>?_,fun a b c h1 h2=>?_⟩
 ·show (if f a b=0 then g a b else f a b) = -1\/_
  split
  ·exact gv a b
  ·exact hf.v a b
 ·show (if f a b=0 then g a b else f a b) = - (if f b a=0 then g b a else f b a)
  have:=hf.s a b
  by_cases h:f b a=0
  ·rw [if_pos h,if_pos (by omega)]; exact gs a b
  ·rw [if_neg h,if_neg (by omega)]; exact this
 ·have h1':(if f a b=0 then g a b else f a b)<=0:=h1
  have h2':(if f b c=0 then g b c else f b c)<=0:=h2
  show (if f a c=0 then g a c else f a c)=min (if f a b=0 then g a b else f a b) (if f b c=0 then g b c else f b c)
  have ab:=hf.v a b
  have bc:=hf.v b c
  have gab:=gv a b
  have gbc:=gv b c
  by_cases x:f a b=0 <;> by_cases y:f b c=0
  ·have:=hf.t a b c (by omega) (by omega)
   rw [if_pos x] at h1' ⊢
   rw [if_pos y] at h2' ⊢
   rw [if_pos (by omega)]
   exact gt a b c x y h1' h2'
  ·rw [if_pos x] at h1' ⊢
   rw [if_neg y] at h2' ⊢
   have:=hf.t a b c (by omega) (by omega)
   rw [if_neg (by omega)]
   omega
  ·rw [if_neg x] at h1' ⊢
   rw [if_pos y] at h2' ⊢
   have:=hf.t a b c (by omega) (by omega)
   rw [if_neg (by omega)]
   omega
  ·rw [if_neg x] at h1' ⊢
   rw [if_neg y] at h2' ⊢
   have:=hf.t a b c (by omega) (by omega)
   rw [if_neg (by omega)]
   omega
/-- A guest at a place of the row. -/
abbrev At:={ p:CB×Int // MT p.2=true }
theorem UV (x:AD):Wk3 (fun a b:At=>L6 x a.1.1 b.1.1 a.1.2 b.1.2):=by
 have e:(fun a b:At=>L6 x a.1.1 b.1.1 a.1.2 b.1.2)=fun a b:At =>
   if (x.1==1)=true then Ix (rk x.2.2.2.1 a.1.1.2.1) (rk x.2.2.2.1 b.1.1.2.1) else
   if (x.1==2)=true then snc false a.1.1.2.2.2.1 b.1.1.2.2.2.1 else
   if (x.1==3)=true then snc true a.1.1.2.2.2.1 b.1.1.2.2.2.1 else
   if (x.1==8)=true then Py a.1.1.1 b.1.1.1 else
   if (x.1==9)=true then Ix a.1.2 b.1.2 else
   if (x.1==10)=true then Ix (kyI a.1.2 x.2.2.2.2) (kyI b.1.2 x.2.2.2.2) else
   Ix (nv x a.1.1) (nv x b.1.1):=by
  funext a b
  unfold L6
  rw [a.2,b.2]
  simp only [Bool.not_true,Bool.or_self,Bool.false_eq_true,if_false]
 rw [e]
 by_cases h1:(x.1==1)=true
 ·simp only [h1,if_true]; exact NE (fun a:At=>rk x.2.2.2.1 a.1.1.2.1)
 by_cases h2:(x.1==2)=true
 ·simp only [h1,h2,if_true,if_false,Bool.false_eq_true]; exact R9 false (fun a:At=>a.1.1.2.2.2.1)
 by_cases h3:(x.1==3)=true
 ·simp only [h1,h2,h3,if_true,if_false,Bool.false_eq_true]; exact R9 true (fun a:At=>a.1.1.2.2.2.1)
 by_cases h8:(x.1==8)=true
 ·simp only [h1,h2,h3,h8,if_true,if_false,Bool.false_eq_true]; exact TO (fun a:At=>a.1.1.1)
 by_cases h9:(x.1==9)=true
 ·simp only [h1,h2,h3,h8,h9,if_true,if_false,Bool.false_eq_true]; exact NE (fun a:At=>a.1.2)
 by_cases h10:(x.1==10)=true
 ·simp only [h1,h2,h3,h8,h9,h10,if_true,if_false,Bool.false_eq_true]; exact NE (fun a:At=>kyI a.1.2 x.2.2.2.2)
 ·simp only [h1,h2,h3,h8,h9,h10,if_false,Bool.false_eq_true]; exact NE (fun a:At=>nv x a.1.1)
theorem QY (s:List UInt8):∀ (l:List (List UInt8)) (i:Nat),i<=rkN s l i
 | [],i=>Nat.le_refl i
 | v::r,i=>by
  unfold rkN
  split
  ·exact Nat.le_refl i
  ·have:=QY s r (i + 1); omega
theorem OT (s t:List UInt8):∀ (l:List (List UInt8)) (i:Nat),Kx l s=true->rkN s l i=rkN t l i->t=s
 | [],_,h,_=>by cases h
 | v::r,i,h,e=>by
  have h':((s==v)||Kx r s)=true:=h
  unfold rkN at e
  by_cases hs:(s==v)=true
  ·rw [if_pos hs] at e
   by_cases ht:(t==v)=true
   ·rw [beq_iff_eq] at hs ht; rw [hs,ht]
   ·rw [if_neg ht] at e
    have:=QY t r (i + 1)
    omega
  ·rw [if_neg hs] at e
   by_cases ht:(t==v)=true
   ·rw [if_pos ht] at e
    have:=QY s r (i + 1)
    omega
   ·rw [if_neg ht] at e
    have h2:Kx r s=true:=by
     cases hq:(s==v) with
     | true=>exact absurd hq hs
     | false=>rwa [hq,Bool.false_or] at h'
    exact OT s t r (i + 1) h2 e
theorem VD {x:AD}(h:fm x=true) (hk:(x.1==1)=true):x.2.1=[]:=by
 unfold fm Ah at h
 rw [if_pos hk] at h
 cases hb:A8 (x.2.2.2.1.length:Int) 1 16 with
 | none=>rw [hb] at h; cases h
 | some v =>
  rw [hb,OS] at h
  cases v with
  | false=>cases h
  | true =>
   by_cases h2:(x.2.2.2.2==0)=true
   ·by_cases h3:(!x.2.2.1)=true
    ·rw [if_pos rfl,if_pos h2,if_pos h3] at h
     simpa using h
    ·rw [if_pos rfl,if_pos h2,if_neg h3] at h; cases h
   ·rw [if_pos rfl,if_neg h2] at h; cases h
theorem Tx {pre:List AD}{x:AD}(h:chk pre x=0):fm x=true:=by
 unfold chk at h
 split at h
 ·cases h
 ·next h1=>simpa using h1
theorem Tw {pre:List AD}{x:AD}(h:chk pre x=0):x.2.1=[]\/Gb pre x.2.1=true:=by
 unfold chk at h
 split at h
 ·cases h
 split at h
 ·cases h
 split at h
 ·cases h
 split at h
 ·next h4=>exact h4
 ·cases h
theorem Nc:∀ (c pre:List AD),Ha pre c->∀ x ∈ c,fm x=true
 | y::r,pre,h,x,hx=>by
  rcases List.mem_cons.1 hx with e | e
  ·rw [e]; exact Tx h.1
  ·exact Nc r _ h.2 x e
/-- Ties of a text tie every clause of it. -/
theorem P0 (a b:CB) (i j:Int):∀ (c:List AD) (k:Nat),rsn a b i j c k = .inl ()->∀ x ∈ c,dir x a b i j=0
 | y::r,k,h,x,hx=>by
  rw [Jk] at h
  by_cases q:dir y a b i j=0
  ·rw [if_pos q] at h
   rcases List.mem_cons.1 hx with e | e
   ·rw [e]; exact q
   ·exact P0 a b i j r (k + 1) h x e
  ·rw [if_neg q] at h; cases h
theorem Q7 {c:List AD}{a b:CB}{i j:Int}(h:FY c a b i j=0):∀ x ∈ c,dir x a b i j=0:=by
 rw [LB] at h
 rcases PC a b i j c 0 with ⟨u,e⟩ | ⟨w,e,hw⟩
 ·exact P0 a b i j c 0 e
 ·rw [e] at h; exact absurd h hw
theorem Tz {x y:Int}(h:Ix x y=0):x=y:=by
 unfold Ix at h
 split at h
 ·cases h
 split at h
 ·cases h
 ·omega
/-- A text that ranks a rank ties nobody of it with anybody of another rank. -/
theorem PG {c:List AD}{s:List UInt8}(hc:∀ x ∈ c,fm x=true) (hr:Gb c s=true){a b:CB}{i j:Int}(h:FY c a b i j=0):(a.2.1==s)=(b.2.1==s):=by
 unfold Gb at hr
 obtain ⟨y,hy,e⟩:=List.any_eq_true.1 hr
 rw [Bool.and_eq_true] at e
 have hd:=Q7 h y hy
 have ham:=VD (hc y hy) e.1
 unfold dir amB at hd
 rw [ham,if_neg (by simp)] at hd
 unfold L6 at hd
 rw [if_pos e.1] at hd
 have hk:=Tz hd
 unfold rk at hk
 have hn:rkN a.2.1 y.2.2.2.1 0=rkN b.2.1 y.2.2.2.1 0:=by omega
 by_cases ha:a.2.1=s
 ·have hb:=OT a.2.1 b.2.1 _ 0 (by rw [ha]; exact e.2) hn
  rw [hb]
 ·by_cases hb:b.2.1=s
  ·have:=OT b.2.1 a.2.1 _ 0 (by rw [hb]; exact e.2) hn.symm
   exact absurd (this.trans hb) ha
  ·rw [beq_eq_false_iff_ne.2 ha,beq_eq_false_iff_ne.2 hb]
theorem Tq (x:AD) (a b:CB):amB x a b=amB x b a:=by
 unfold amB
 cases (x.2.1==[]) <;> cases (a.2.1==x.2.1) <;> cases (b.2.1==x.2.1) <;> rfl
theorem N3 (x:AD) (a b:CB) (i j:Int):FY [x] a b i j=dir x a b i j:=by
 rw [LB,Jk]
 by_cases h:dir x a b i j=0
 ·rw [if_pos h,h]; rfl
 ·rw [if_neg h]
theorem Qj:∀ (c pre:List AD),Ha [] (pre++c)->Wk3 (fun a b:At=>FY pre a.1.1 b.1.1 a.1.2 b.1.2)->Wk3 (fun a b:At=>FY (pre++c) a.1.1 b.1.1 a.1.2 b.1.2)
 | [],pre,_,h=>by rw [List.append_nil]; exact h
 | x::r,pre,hg,h=>by
  have e:pre++x::r=(pre++[x])++r:=by simp
  rw [e] at hg ⊢
  refine Qj r (pre++[x]) hg ?_
  have hgx:=(Id (pre++[x]) [] r).1 hg
  have hp:=(Id pre [] [x]).1 hgx.1
  have hchk:chk pre x=0:=by simpa using hp.2.1
  have hfm:=Nc pre [] hp.1
  have ho:=UV x
  have hx:(fun a b:At=>FY (pre++[x]) a.1.1 b.1.1 a.1.2 b.1.2)=fun a b:At=>if FY pre a.1.1 b.1.1 a.1.2 b.1.2=0 then dir x a.1.1 b.1.1 a.1.2 b.1.2 else FY pre a.1.1 b.1.1 a.1.2 b.1.2:=by
   funext a b
   rw [Pz,N3]
  rw [hx]
  refine UU h (fun a b=>?_) (fun a b=>?_) (fun a b c h1 h2=>?_)
  ·unfold dir
   split
   ·exact .inr (.inl rfl)
   ·exact ho.v a b
  ·unfold dir
   rw [Tq x b.1.1 a.1.1]
   split
   ·rfl
   ·exact ho.s a b
  ·unfold dir
   rcases Tw hchk with ha | ha
   ·have q:∀ u v:CB,amB x u v=false:=fun u v=>by unfold amB; rw [ha]; rfl
    rw [q,q,q,if_neg (by decide),if_neg (by decide),if_neg (by decide)]
    exact ho.t a b c
   ·have t1:=PG hfm ha h1
    have t2:=PG hfm ha h2
    unfold amB
    rw [<-t2,<-t1]
    cases (!(x.2.1==[]))
    ·exact ho.t a b c
    ·cases (a.1.1.2.1==x.2.1)
     ·intro _ _; rfl
     ·exact ho.t a b c
theorem PI (c:List AD) (hg:Ha [] c):Wk3 (fun a b:At=>FY c a.1.1 b.1.1 a.1.2 b.1.2) :=
 Qj c [] hg ⟨fun _ _=> .inr (.inl rfl),fun _ _=>rfl,fun _ _ _ _ _=>rfl⟩
/-- Where a text decides: what stands before it ties, and it decides alike with what stands up to it. -/
theorem R6 (a b:CB) (i j:Int):∀ (c:List AD) (k:Nat) (w:Int×Int),rsn a b i j c k = .inr w->∃ m:Nat,w.1=((k + m:Nat):Int)/\m < c.length/\FY (c.take m) a b i j=0/\FY (c.take (m + 1)) a b i j=w.2/\w.2≠0
 | [],k,w,h=>by cases h
 | x::r,k,w,h=>by
  rw [Jk] at h
  by_cases q:dir x a b i j=0
  ·rw [if_pos q] at h
   obtain ⟨m,h1,h2,h3,h4,h5⟩:=R6 a b i j r (k + 1) w h
   have e:∀ n:Nat,FY (x::r.take n) a b i j=FY (r.take n) a b i j:=fun n=>by
    rw [show x::r.take n=[x]++r.take n from rfl,Pz,N3,if_pos q]
   refine ⟨m + 1,by rw [h1]; congr 1; omega,by simp; omega,?_,?_,h5⟩
   ·rw [List.take_succ_cons,e]; exact h3
   ·rw [List.take_succ_cons,e]; exact h4
  ·rw [if_neg q] at h
   have hw:=Sum.inr.inj h
   subst hw
   refine ⟨0,by simp,by simp,rfl,?_,q⟩
   show FY [x] a b i j=dir x a b i j
   exact N3 x a b i j
theorem TB (c:List AD) (a b:CB) (i j:Int):(OU c a b i j=(-1,0))\/∃ m:Nat,OU c a b i j=((m:Int),FY c a b i j)/\m < c.length/\FY (c.take m) a b i j=0/\FY (c.take (m + 1)) a b i j=FY c a b i j/\FY c a b i j≠0:=by
 unfold OU FY
 rcases PC a b i j c 0 with ⟨u,e⟩ | ⟨w,e,hw⟩
 ·refine .inl ?_
  rw [e]
 ·refine .inr ?_
  obtain ⟨m,h1,h2,h3,h4,h5⟩:=R6 a b i j c 0 w e
  have e2:OU c a b i j=w:=by unfold OU; rw [e]
  rw [e]
  refine ⟨m,?_,h2,h3,?_,by rw [e2]; exact h5⟩
  ·show w=((m:Int),(OU c a b i j).2)
   rw [e2,Prod.ext_iff]
   exact ⟨by rw [h1]; simp,rfl⟩
  ·show FY (c.take (m + 1)) a b i j=(OU c a b i j).2
   rw [e2]; exact h4
theorem PW (c:List AD) (m:Nat) (h:Ha [] c):Ha [] (c.take m):=by
 have:Ha [] (c.take m++c.drop m):=by rw [List.take_append_drop]; exact h
 exact ((Id _ _ _).1 this).1
theorem SG:((List.range 256).all fun n=>decide (0<=BG .u8 ((n:Int).fdiv 8) 3)&&decide (BG .u8 ((n:Int).fdiv 8) 3 < 4)&&(decide (0<=BG .u8 ((n:Int).fdiv 16) 3)&&decide (BG .u8 ((n:Int).fdiv 16) 3 < 4)))=true:=by kernel_rfl
theorem Ub {a:Int}(h:u8 a):(0<=BG .u8 (a.fdiv 8) 3/\BG .u8 (a.fdiv 8) 3 < 4)/\0<=BG .u8 (a.fdiv 16) 3/\BG .u8 (a.fdiv 16) 3 < 4:=by
 obtain ⟨n,rfl⟩:=Int.eq_ofNat_of_zero_le h.1
 have hn:n < 256:=by have:=h.2; omega
 have:=List.all_eq_true.1 SG n (by simpa using hn)
 simp only [Bool.and_eq_true,decide_eq_true_eq] at this
 exact ⟨this.1,this.2⟩
theorem Sc (x:Int×Int) (nm:List UInt8) (h1:u8 x.1):∃ r,EP x nm=some r/\r.1=x.1/\r.2.1=x.2:=by
 obtain ⟨⟨a1,a2⟩,_⟩:=Ub h1
 obtain ⟨d1,d2⟩:=TX a1 a2
 unfold EP
 by_cases hc:((BG .u8 x.1 4)!=0)=true
 ·rw [if_pos hc,if_pos d1,if_pos d2]; exact ⟨_,rfl,rfl,rfl⟩
 ·rw [if_neg hc]; exact ⟨_,rfl,rfl,rfl⟩
theorem Sd (r) (h2:u8 r.2.1):∃ r',EQ r=some r'/\r'.1=r.1/\r'.2.1=r.2.1:=by
 obtain ⟨⟨a1,a2⟩,_⟩:=Ub h2
 obtain ⟨d1,d2⟩:=TX a1 a2
 unfold EQ
 by_cases hc:((BG .u8 r.2.1 4)!=0)=true
 ·rw [if_pos hc,if_pos d1,if_pos d2]; exact ⟨_,rfl,rfl,rfl⟩
 ·rw [if_neg hc]; exact ⟨_,rfl,rfl,rfl⟩
theorem Se (r) (h1:u8 r.1):∃ r',ER r=some r'/\r'.1=r.1/\r'.2.1=r.2.1/\r'.2.2.2.2.2.2.2.2.2.2.2.2.2.2.2.2.2.2.length<=1:=by
 obtain ⟨_,a1,a2⟩:=Ub h1
 obtain ⟨d1,d2⟩:=TX a1 a2
 unfold ER
 by_cases hc:((BG .u8 r.2.1 64)!=0)=true
 ·rw [if_pos hc,if_pos d1,if_pos d2]; exact ⟨_,rfl,rfl,rfl,by simp⟩
 ·rw [if_neg hc]; exact ⟨_,rfl,rfl,rfl,by simp⟩
theorem Sf (r) (h2:u8 r.2.1):∃ r',ES r=some r'/\r'.2.2.2.2.2.2.2.2.2.2.2.2.2.2.2.2=r.2.2.2.2.2.2.2.2.2.2.2.2.2.2.2.2.2.2:=by
 obtain ⟨_,a1,a2⟩:=Ub h2
 obtain ⟨d1,d2⟩:=TX a1 a2
 unfold ES
 by_cases hc:((BG .u8 r.1 128)!=0)=true
 ·rw [if_pos hc,if_pos d1,if_pos d2]; exact ⟨_,rfl,rfl⟩
 ·rw [if_neg hc]; exact ⟨_,rfl,rfl⟩
theorem RJ (x:Int×Int) (nm:List UInt8) (h1:u8 x.1) (h2:u8 x.2):∃ g,Eg x nm=some g/\L4 g:=by
 obtain ⟨r1,e1,p1,q1⟩:=Sc x nm h1
 obtain ⟨r2,e2,p2,q2⟩:=Sd r1 (q1 ▸ h2)
 obtain ⟨r3,e3,p3,q3,t3⟩:=Se r2 (by rw [p2,p1]; exact h1)
 obtain ⟨r4,e4,t4⟩:=Sf r3 (by rw [q3,q2,q1]; exact h2)
 refine ⟨r4.2.2.2.2.2.2.2.2,?_,?_⟩
 ·unfold Eg
  rw [e1,OS,e2,OS,e3,OS,e4]; rfl
 ·unfold L4
  rw [t4]; omega
theorem ok3 (a b:Int):okB ([103]++by8 [a,b])=true:=rfl
theorem Nd (x0:List (Int×Int)) (n:Int) (ys:List (Int×Int)) (hys:((x0.take (mnI (x0.length:Int) n).toNat).drop (0:Int).toNat)=ys) (hb:∀ v ∈ ys,u8 v.1/\u8 v.2) (h20:ys.length<=20):∀ (r pre:List (Int×Int)) (c2:List CB) (f:Nat),ys=pre++r->r.length < f->c2.length=pre.length->(∀ g ∈ c2,L4 g) ->
  ∃ c,Ce x0 n f c2 (pre.length:Int)=some c/\(∀ g ∈ c,L4 g)/\c.length=ys.length
 | [],pre,c2,f + 1,e,_,hl,hk=>by
  refine ⟨c2,?_,hk,by rw [hl,e]; simp⟩
  unfold Ce
  rw [hys,if_neg (by rw [e]; simp)]
 | v::r,pre,c2,f + 1,e,hf,hl,hk=>by
  have hv:=hb v (by rw [e]; simp)
  have hl2:ys.length=pre.length + r.length + 1:=by rw [e]; simp; omega
  simp only [List.length_cons] at hf
  obtain ⟨g,hg,hgf⟩:=RJ (v.1,v.2) ([103]++(by8 [(wr .u8 (wr .i64 (97 + (wr .i64 ((pre.length:Int).tdiv 26))))),(wr .u8 (wr .i64 (97 + ((pre.length:Int).tmod 26))))])) hv.1 hv.2
  obtain ⟨c,q1,q2,q3⟩:=Nd x0 n ys hys hb h20 r (pre++[v]) (c2++[g]) f (by rw [e]; simp) (by omega) (by simp [hl]) (fun y hy=>by
   rcases List.mem_append.1 hy with hy | hy
   ·exact hk y hy
   ·rw [List.mem_singleton.1 hy]; exact hgf)
  refine ⟨c,?_,q2,q3⟩
  rw [<-q1]
  conv=>lhs; unfold Ce
  rw [hys,if_pos (by rw [e]; exact Jg pre v r),show idx ys (pre.length:Int)=some v by rw [e,Hu],OS,if_pos (ok3 _ _),hg,OS,if_pos (Ku (by omega) (by omega)),H2 pre v r (by rw [<-e]; omega)]
theorem Pi (n:Nat) (h:n<=63):IntKind.i64.wrap n=(n:Int):=by
 have:∀ m:Fin 64,IntKind.i64.wrap (m:Nat)=((m:Nat):Int):=by decide
 exact this ⟨n,by omega⟩
theorem SF (a:Int):MT (BG .i64 a 63)=true:=by
 have h:(BitVec.ofInt 64 a &&& BitVec.ofInt 64 63).toNat<=63:=by
  rw [BitVec.toNat_and]
  exact Nat.and_le_right
 show MT (IntKind.i64.wrap ((BitVec.ofInt 64 a &&& BitVec.ofInt 64 63).toNat))=true
 rw [Pi _ h]
 unfold MT
 simp only [Bool.and_eq_true,decide_eq_true_eq]
 omega
theorem Ry (c:List AD) (m:Nat) (h:m<=c.length) (hl:c.length<=40):D3 c (m:Int)=some (c.take m):=by
 unfold D3 Ay
 have e1:C8 0 (m:Int) c.length=true:=by unfold C8; simp; omega
 have e2:(c.take ((m:Int)).toNat).drop (0:Int).toNat=c.take m:=by simp
 rw [e2,if_pos e1,if_pos (Ku (by omega) (by rw [List.length_take]; omega))]
 rfl
theorem JC {i:Int}(h:in3 i=true):0<=i/\i < 3:=by
 unfold in3 at h
 simpa using h
section
variable {x3:Int×Int×Int}{c:List AD}{v39 v40 v41:Int}{g:List CB}{i k:Int}{a b:CB}{p q:Int}
/-- One pair of guests. -/
theorem Qi (hc:few c) (hl:c.length<=32) (hg:Ha [] c) (ha:L4 a) (hb:L4 b) (hi:in3 i=true) (hk:in3 k=true) (ia:idx g i=some a) (ib:idx g k=some b)
  (ip:(((([x3.1,x3.2.1,x3.2.2]:List Int).set 0 (BG .i64 v39 63)).set 1 (BG .i64 v40 63)).set 2 (BG .i64 v41 63))[(0 + i.toNat * 1)]? = some p) (iq:(((([x3.1,x3.2.1,x3.2.2]:List Int).set 0 (BG .i64 v39 63)).set 1 (BG .i64 v40 63)).set 2 (BG .i64 v41 63))[(0 + k.toNat * 1)]? = some q)
  (hp:MT p=true) (hq:MT q=true) {f:Nat} {w:List Int} {o:Int} (iw:w[((0 + i.toNat * 3) + k.toNat * 1)]? = some o) (hw:1 < w.length) :
  A2 x3 c v39 v40 v41 g i (f + 1) k w=A2 x3 c v39 v40 v41 g i f (wr .i64 (k + 1)) (w.set ((0 + i.toNat * 3) + k.toNat * 1) (FY c a b p q)):=by
 have k3:decide (k < 3)=true:=by simpa using (JC hk).2
 have hT:=QI hl hg
 have hR:DM c a b p q=some (OU c a b p q):=by rw [O9 c a b p q hc ha hb,hT]; rfl
 have hC:CC c a b p q=some (FY c a b p q):=P2 c a b p q hc hl hg ha hb
 have hw':decide (1 < w.length)=true:=by simpa using hw
 conv=>lhs; unfold A2
 simp only [k3,ia,ib,hi,hk,ip,iq,hR,hC,iw,hw',OS,if_true]
 rcases TB c a b p q with h | ⟨m,h,hm,ht,ht1,hne⟩
 ·have hz:FY c a b p q=0:=by show (OU c a b p q).2=0; rw [h]
  have dn:decide ((-1:Int)≥(c.length:Int))=false:=by rw [decide_eq_false_iff_not]; omega
  rw [h,hz]
  simp only [dn]
  rfl
 ·rw [h]
  have hv:FY c a b p q = -1\/FY c a b p q=1:=by
   rcases (PI c hg).v ⟨(a,p),hp⟩ ⟨(b,q),hq⟩ with h1 | h1 | h1
   ·exact .inl h1
   ·exact absurd h1 hne
   ·exact .inr h1
  have few_take:∀ n,few (c.take n):=fun n=>⟨by rw [List.length_take]; have:=hc.1; omega,fun x hx=>hc.2 x (List.mem_of_mem_take hx)⟩
  have hD:∀ n,CC (c.take n) a b p q=some (FY (c.take n) a b p q):=fun n=>P2 _ a b p q (few_take n) (by rw [List.length_take]; omega) (PW c n hg) ha hb
  have h1:D3 c (m:Int)=some (c.take m):=Ry c m (by omega) (by omega)
  have h2:D3 c (wr .i64 ((m:Int) + 1))=some (c.take (m + 1)):=by
   rw [Tc (by omega) (by omega)]
   exact Ry c (m + 1) (by omega) (by omega)
  have d1:decide (FY c a b p q < -1)=false:=by rcases hv with h | h <;> rw [h] <;> rfl
  have d2:decide (FY c a b p q > 1)=false:=by rcases hv with h | h <;> rw [h] <;> rfl
  have d3:(!(decide ((m:Int) < 0)==(FY c a b p q==0)))=false:=by
   have:decide ((m:Int) < 0)=false:=by rw [decide_eq_false_iff_not]; omega
   rw [this]
   rcases hv with h | h <;> rw [h] <;> rfl
  have d4:decide ((m:Int)≥(c.length:Int))=false:=by rw [decide_eq_false_iff_not]; omega
  have d5:decide ((m:Int)≥0)=true:=by rw [decide_eq_true_eq]; omega
  simp only [d1,d2,d3,d4,d5,h1,h2,hD,ht,ht1,OS,bne_self_eq_false,Bool.false_eq_true,if_false,if_true]
end
section
variable {w:List Int}{F:Int->Int->Int}(hF:∀ i k,in3 i=true->in3 k=true->w[((0 + i.toNat * 3) + k.toNat * 1)]? = some (F i k))
include hF
theorem ND (ht:∀ i k m,in3 i=true->in3 k=true->in3 m=true->F i k<=0->F k m<=0->F i m=min (F i k) (F k m)){i k m:Int}(hi:in3 i=true) (hk:in3 k=true) (hm:in3 m=true) (f:Nat):BU w i k (f + 1) m=BU w i k f (wr .i64 (m + 1)):=by
 have m3:decide (m < 3)=true:=by simpa using (JC hm).2
 conv=>lhs; unfold BU
 simp only [m3,hi,hk,hm,hF i k hi hk,hF k m hk hm,hF i m hi hm,OS,if_true]
 by_cases h1:F i k<=0
 ·by_cases h2:F k m<=0
  ·have e:F i m=mnI (F i k) (F k m):=by
    rw [ht i k m hi hk hm h1 h2]
    unfold mnI
    split <;> omega
   simp only [h1,h2,e,decide_true,bne_self_eq_false,OS,if_true,Bool.false_eq_true,if_false]
  ·simp only [h1,h2,decide_true,decide_false,OS,if_true,Bool.false_eq_true,if_false]
 ·simp only [h1,decide_false,OS,Bool.false_eq_true,if_false]
theorem TN (ht:∀ i k m,in3 i=true->in3 k=true->in3 m=true->F i k<=0->F k m<=0->F i m=min (F i k) (F k m)){i k:Int}(hi:in3 i=true) (hk:in3 k=true):BU w i k 100000 0=some (.inl ()):=by
 show BU w i k (99999 + 1) 0=_
 rw [ND hF ht hi hk (m:=0) rfl,show wr .i64 (0 + 1)=1 from rfl]
 show BU w i k (99998 + 1) 1=_
 rw [ND hF ht hi hk (m:=1) rfl,show wr .i64 (1 + 1)=2 from rfl]
 show BU w i k (99997 + 1) 2=_
 rw [ND hF ht hi hk (m:=2) rfl,show wr .i64 (2 + 1)=3 from rfl]
 rfl
theorem NC (hs:∀ i k,in3 i=true->in3 k=true->F i k = - F k i) (hv:∀ i k,in3 i=true->in3 k=true->F i k = -1\/F i k=0\/F i k=1) (ht:∀ i k m,in3 i=true->in3 k=true->in3 m=true->F i k<=0->F k m<=0->F i m=min (F i k) (F k m)){i k:Int}(hi:in3 i=true) (hk:in3 k=true) (f:Nat):BT w i (f + 1) k=BT w i f (wr .i64 (k + 1)):=by
 have k3:decide (k < 3)=true:=by simpa using (JC hk).2
 have e:wr .i64 (0 - F k i)=F i k:=by
  have:=hv k i hk hi
  rw [Tc (by omega) (by omega),hs i k hi hk]
  omega
 conv=>lhs; unfold BT
 simp only [k3,hi,hk,hF i k hi hk,hF k i hk hi,e,TN hF ht hi hk,OS,bne_self_eq_false,Bool.false_eq_true,if_true,if_false]
theorem TM (hs:∀ i k,in3 i=true->in3 k=true->F i k = - F k i) (hv:∀ i k,in3 i=true->in3 k=true->F i k = -1\/F i k=0\/F i k=1) (ht:∀ i k m,in3 i=true->in3 k=true->in3 m=true->F i k<=0->F k m<=0->F i m=min (F i k) (F k m)){i:Int}(hi:in3 i=true):BT w i 100000 0=some (.inl ()):=by
 show BT w i (99999 + 1) 0=_
 rw [NC hF hs hv ht hi (k:=0) rfl,show wr .i64 (0 + 1)=1 from rfl]
 show BT w i (99998 + 1) 1=_
 rw [NC hF hs hv ht hi (k:=1) rfl,show wr .i64 (1 + 1)=2 from rfl]
 show BT w i (99997 + 1) 2=_
 rw [NC hF hs hv ht hi (k:=2) rfl,show wr .i64 (2 + 1)=3 from rfl]
 rfl
theorem NB (hs:∀ i k,in3 i=true->in3 k=true->F i k = - F k i) (hv:∀ i k,in3 i=true->in3 k=true->F i k = -1\/F i k=0\/F i k=1) (ht:∀ i k m,in3 i=true->in3 k=true->in3 m=true->F i k<=0->F k m<=0->F i m=min (F i k) (F k m)){i:Int}(hi:in3 i=true) (f:Nat):BS w (f + 1) i=BS w f (wr .i64 (i + 1)):=by
 have i3:decide (i < 3)=true:=by simpa using (JC hi).2
 conv=>lhs; unfold BS
 simp only [i3,TM hF hs hv ht hi,OS,if_true]
theorem TL (hs:∀ i k,in3 i=true->in3 k=true->F i k = - F k i) (hv:∀ i k,in3 i=true->in3 k=true->F i k = -1\/F i k=0\/F i k=1) (ht:∀ i k m,in3 i=true->in3 k=true->in3 m=true->F i k<=0->F k m<=0->F i m=min (F i k) (F k m)):BS w 100000 0=some (.inl ()):=by
 show BS w (99999 + 1) 0=_
 rw [NB hF hs hv ht (i:=0) rfl,show wr .i64 (0 + 1)=1 from rfl]
 show BS w (99998 + 1) 1=_
 rw [NB hF hs hv ht (i:=1) rfl,show wr .i64 (1 + 1)=2 from rfl]
 show BS w (99997 + 1) 2=_
 rw [NB hF hs hv ht (i:=2) rfl,show wr .i64 (2 + 1)=3 from rfl]
 rfl
end
section
variable {x3:Int×Int×Int}{c:List AD}{v39 v40 v41:Int}{g:List CB}{A:Int->At}
theorem TK (hc:few c) (hl:c.length<=32) (hg:Ha [] c) (hA:∀ i,in3 i=true->idx g i=some (A i).1.1/\((((([x3.1,x3.2.1,x3.2.2]:List Int).set 0 (BG .i64 v39 63)).set 1 (BG .i64 v40 63)).set 2 (BG .i64 v41 63))[(0 + i.toNat * 1)]?)=some (A i).1.2/\L4 (A i).1.1){i:Int}(hi:in3 i=true) (w:List Int) (hw:w.length=9) :
  A2 x3 c v39 v40 v41 g i 100000 0 w=some (.inl (((w.set ((0 + i.toNat * 3) + (0:Int).toNat * 1) (FY c (A i).1.1 (A 0).1.1 (A i).1.2 (A 0).1.2)).set ((0 + i.toNat * 3) + (1:Int).toNat * 1) (FY c (A i).1.1 (A 1).1.1 (A i).1.2 (A 1).1.2)).set ((0 + i.toNat * 3) + (2:Int).toNat * 1) (FY c (A i).1.1 (A 2).1.1 (A i).1.2 (A 2).1.2))):=by
 obtain ⟨i1,i2,i3⟩:=hA i hi
 have lt:=JC hi
 have step:∀ (k:Int),in3 k=true->∀ (f:Nat) (u:List Int),u.length=9->A2 x3 c v39 v40 v41 g i (f + 1) k u=A2 x3 c v39 v40 v41 g i f (wr .i64 (k + 1)) (u.set ((0 + i.toNat * 3) + k.toNat * 1) (FY c (A i).1.1 (A k).1.1 (A i).1.2 (A k).1.2)):=fun k hk f u hu=>by
  obtain ⟨k1,k2,k3⟩:=hA k hk
  have lk:=JC hk
  exact Qi hc hl hg i3 k3 hi hk i1 k1 i2 k2 (A i).2 (A k).2 (List.getElem?_eq_getElem (by omega)) (by omega)
 show A2 x3 c v39 v40 v41 g i (99999 + 1) 0 w=_
 rw [step 0 rfl _ _ hw,show wr .i64 (0 + 1)=1 from rfl]
 show A2 x3 c v39 v40 v41 g i (99998 + 1) 1 _=_
 rw [step 1 rfl _ _ (by rw [List.length_set]; exact hw),show wr .i64 (1 + 1)=2 from rfl]
 show A2 x3 c v39 v40 v41 g i (99997 + 1) 2 _=_
 rw [step 2 rfl _ _ (by rw [List.length_set,List.length_set]; exact hw),show wr .i64 (2 + 1)=3 from rfl]
 rfl
theorem TJ (hc:few c) (hl:c.length<=32) (hg:Ha [] c) (hA:∀ i,in3 i=true->idx g i=some (A i).1.1/\((((([x3.1,x3.2.1,x3.2.2]:List Int).set 0 (BG .i64 v39 63)).set 1 (BG .i64 v40 63)).set 2 (BG .i64 v41 63))[(0 + i.toNat * 1)]?)=some (A i).1.2/\L4 (A i).1.1) :
  ∃ w,BR x3 c v39 v40 v41 g 100000 0 ([0,0,0,0,0,0,0,0,0]:List Int)=some (.inl w)/\∀ i k,in3 i=true->in3 k=true->w[((0 + i.toNat * 3) + k.toNat * 1)]? = some (FY c (A i).1.1 (A k).1.1 (A i).1.2 (A k).1.2):=by
 have step:∀ (i:Int),in3 i=true->∀ (f:Nat) (u:List Int),u.length=9->BR x3 c v39 v40 v41 g (f + 1) i u=BR x3 c v39 v40 v41 g f (wr .i64 (i + 1)) (((u.set ((0 + i.toNat * 3) + (0:Int).toNat * 1) (FY c (A i).1.1 (A 0).1.1 (A i).1.2 (A 0).1.2)).set ((0 + i.toNat * 3) + (1:Int).toNat * 1) (FY c (A i).1.1 (A 1).1.1 (A i).1.2 (A 1).1.2)).set ((0 + i.toNat * 3) + (2:Int).toNat * 1) (FY c (A i).1.1 (A 2).1.1 (A i).1.2 (A 2).1.2)):=fun i hi f u hu=>by
  have i3:decide (i < 3)=true:=by simpa using (JC hi).2
  conv=>lhs; unfold BR
  simp only [i3,TK hc hl hg hA hi u hu,OS,if_true]
 refine ⟨[FY c (A 0).1.1 (A 0).1.1 (A 0).1.2 (A 0).1.2,FY c (A 0).1.1 (A 1).1.1 (A 0).1.2 (A 1).1.2,FY c (A 0).1.1 (A 2).1.1 (A 0).1.2 (A 2).1.2,FY c (A 1).1.1 (A 0).1.1 (A 1).1.2 (A 0).1.2,FY c (A 1).1.1 (A 1).1.1 (A 1).1.2 (A 1).1.2,FY c (A 1).1.1 (A 2).1.1 (A 1).1.2 (A 2).1.2,FY c (A 2).1.1 (A 0).1.1 (A 2).1.2 (A 0).1.2,FY c (A 2).1.1 (A 1).1.1 (A 2).1.2 (A 1).1.2,FY c (A 2).1.1 (A 2).1.1 (A 2).1.2 (A 2).1.2],?_,?_⟩
 ·show BR x3 c v39 v40 v41 g (99999 + 1) 0 _=_
  rw [step 0 rfl _ _ rfl,show wr .i64 (0 + 1)=1 from rfl]
  show BR x3 c v39 v40 v41 g (99998 + 1) 1 _=_
  rw [step 1 rfl _ _ (by simp only [List.length_set]; rfl),show wr .i64 (1 + 1)=2 from rfl]
  show BR x3 c v39 v40 v41 g (99997 + 1) 2 _=_
  rw [step 2 rfl _ _ (by simp only [List.length_set]; rfl),show wr .i64 (2 + 1)=3 from rfl]
  rfl
 ·intro i k hi hk
  have li:=JC hi
  have lk:=JC hk
  have ei:i=0\/i=1\/i=2:=by omega
  have ek:k=0\/k=1\/k=2:=by omega
  rcases ei with rfl | rfl | rfl <;> rcases ek with rfl | rfl | rfl <;> rfl
end
theorem Rm (x0:List (Int×Int×Int×Bool×Bool)) (hb:∀ v ∈ x0,Oo v) (x1:Pe3) (h1:(u8 x1.1.1/\u8 x1.1.2)/\(u8 x1.2.1.1/\u8 x1.2.1.2)/\(u8 x1.2.2.1/\u8 x1.2.2.2)) (x2:Bool×Bool) (x3:Int×Int×Int):DA x0 x1 x2 x3=some true:=by
 obtain ⟨c,c1,c2,c3,c4⟩:=Ss x0 hb
 obtain ⟨⟨a1,a2⟩,⟨a3,a4⟩,a5,a6⟩:=h1
 obtain ⟨r,e1,q1⟩:∃ r,DP x1 x2=some r/\u8 r:=by
  unfold DP
  split
  ·exact ⟨_,rfl,a1⟩
  ·exact ⟨_,rfl,a3⟩
 obtain ⟨t,e2,q2⟩:∃ r,DQ x1 x2=some r/\u8 r:=by
  unfold DQ
  split
  ·exact ⟨_,rfl,a4⟩
  ·exact ⟨_,rfl,a6⟩
 obtain ⟨g,g1,g2,g3⟩:=Nd [(x1.1.1,x1.1.2),(r,x1.2.1.2),(x1.2.2.1,t)] 3 [(x1.1.1,x1.1.2),(r,x1.2.1.2),(x1.2.2.1,t)] rfl (fun v hv=>by
  simp only [List.mem_cons,List.not_mem_nil,or_false] at hv
  rcases hv with rfl | rfl | rfl
  ·exact ⟨a1,a2⟩
  ·exact ⟨q1,a4⟩
  ·exact ⟨a5,q2⟩) (by simp) [(x1.1.1,x1.1.2),(r,x1.2.1.2),(x1.2.2.1,t)] [] [] 100000 rfl (by simp) rfl (fun g hg=>by simp at hg)
 have hgu:EC [(x1.1.1,x1.1.2),(r,x1.2.1.2),(x1.2.2.1,t)] 3=some g:=by
  unfold EC
  rw [if_pos (by rfl),show Ce [(x1.1.1,x1.1.2),(r,x1.2.1.2),(x1.2.2.1,t)] 3 100000 [] 0=some g from g1]
  rfl
 match g,g3 with
 | [y0,y1,y2],_ =>
  have f0:L4 y0:=g2 y0 (by simp)
  have f1:L4 y1:=g2 y1 (by simp)
  have f2:L4 y2:=g2 y2 (by simp)
  let A:Int->At:=fun i=>if i=0 then ⟨(y0,BG .i64 x3.1 63),SF _⟩ else if i=1 then ⟨(y1,BG .i64 x3.2.1 63),SF _⟩ else ⟨(y2,BG .i64 x3.2.2 63),SF _⟩
  have hA:∀ i,in3 i=true->idx [y0,y1,y2] i=some (A i).1.1/\((((([x3.1,x3.2.1,x3.2.2]:List Int).set 0 (BG .i64 x3.1 63)).set 1 (BG .i64 x3.2.1 63)).set 2 (BG .i64 x3.2.2 63))[(0 + i.toNat * 1)]?)=some (A i).1.2/\L4 (A i).1.1:=fun i hi=>by
   have li:=JC hi
   have ei:i=0\/i=1\/i=2:=by omega
   rcases ei with rfl | rfl | rfl
   ·exact ⟨rfl,rfl,f0⟩
   ·exact ⟨rfl,rfl,f1⟩
   ·exact ⟨rfl,rfl,f2⟩
  obtain ⟨w,w1,w2⟩:=TJ (v39:=x3.1) (v40:=x3.2.1) (v41:=x3.2.2) c2 (by omega) c3 hA
  have wk:=PI c c3
  have w3:=TL (F:=fun i k=>FY c (A i).1.1 (A k).1.1 (A i).1.2 (A k).1.2) w2 (fun i k _ _=>wk.s (A i) (A k)) (fun i k _ _=>wk.v (A i) (A k)) (fun i k m _ _ _ p q=>wk.t (A i) (A k) (A m) p q)
  unfold DA
  rw [c1,OS,e1,OS,e2,OS]
  rw [show ([x3.1,x3.2.1,x3.2.2]:List Int)[0]? = some x3.1 from rfl,OS,show ([x3.1,x3.2.1,x3.2.2]:List Int)[1]? = some x3.2.1 from rfl,OS,show ([x3.1,x3.2.1,x3.2.2]:List Int)[2]? = some x3.2.2 from rfl,OS,OS,if_pos (show decide (1 < ([x3.1,x3.2.1,x3.2.2]:List Int).length)=true from rfl),show (([x3.1,x3.2.1,x3.2.2]:List Int).set 0 (BG .i64 x3.1 63))[1]? = some x3.2.1 from rfl,OS,if_pos (show decide (1 < (([x3.1,x3.2.1,x3.2.2]:List Int).set 0 (BG .i64 x3.1 63)).length)=true from rfl),show ((([x3.1,x3.2.1,x3.2.2]:List Int).set 0 (BG .i64 x3.1 63)).set 1 (BG .i64 x3.2.1 63))[2]? = some x3.2.2 from rfl,OS,if_pos (show decide (1 < ((([x3.1,x3.2.1,x3.2.2]:List Int).set 0 (BG .i64 x3.1 63)).set 1 (BG .i64 x3.2.1 63)).length)=true from rfl)]
  rw [hgu,OS,w1,OS]
  dsimp only
  rw [w3,OS]
  rfl
end Go.Proofs.YtdjhmdbpcfnpgaaGreatDoor
namespace Go.Proofs.YtdjhmdbpcfnpgaaGreatDoor
open Go.RowKit Go.ChangeShapes Go.WideShapes Go.Deep
theorem K9 {P:Program}{w:World}{r:Reach}{b n:Nat}{t e:TypeId}{v:Value}(ht:P.underlying t=some (.array n e)) (h:Value.okWide P w r b t v):∃ us,v = .agg us:=by
 simp only [Value.okWide,ht] at h
 obtain ⟨cs,h1,_⟩:=h
 exact ⟨cs,h1⟩
theorem S9 {α:Type}{P:Program}{c:Cd α}{t e:TypeId}{good:α->Prop}{hn:∀ x,((csC c (csC c (csE c))).enc x).all IK=true}(ht:P.underlying t=some (.array 3 e)) (hl:P.cellsOf t=3) (hc:P.cellsOf e=1) (hs:∀ a,((csC c (csC c (csE c))).enc a).length=3) (he:∀ a,elm ((csC c (csC c (csE c))).enc a) = .ag ((csC c (csC c (csE c))).enc a)) (h1:∀ a,(c.enc a).cel=[c.enc a]) (r:Rc P c e good):Rc P (cdA (csC c (csC c (csE c))) hn) t (fun x=>good x.1/\good x.2.1/\good x.2.2):=⟨fun a=>he a,fun a=>(hs a).trans hl.symm,fun {H enc w base spare held fuel cs x} h hw=>by
 obtain ⟨xs,m,_,rfl,hlc,hlx,hf⟩:=DataW.trod_array ht h
 simp only [DataW.weights,ht] at hw
 have r2 : Rf P (csC c (csC c (csE c))) [Field.mk "" e 0 false "" "" 0, Field.mk "" e 1 false "" "" 0, Field.mk "" e 2 false "" "" 0] 0 (fun x => good x.1 ∧ good x.2.1 ∧ good x.2.2) := Ik r rfl hc h1 (Ik r rfl hc h1 (PB r rfl hc h1))
 obtain ⟨a,k1,k2,k3⟩:=r2.rd (cs:=cs) (xs:=xs) (n:=m) (by rw [hlc,hl]; rfl) (by rw [hlx]; rfl) (fun j f hj=>by
  match j,hj with
  | 0,hj =>
   obtain rfl:=OI hj
   have:=hf 0 (by omega)
   rw [Nat.zero_mul] at this
   exact this
  | 1,hj =>
   obtain rfl:=OI hj
   have:=hf 1 (by omega)
   rw [Nat.one_mul,hc] at this
   rw [hc]
   exact this
  | 2,hj =>
   obtain rfl:=OI hj
   have:=hf 2 (by omega)
   rw [hc] at this
   rw [hc]
   exact this) (by
  match xs,hlx with
  | [y,z,u],_ =>
   simp only [List.map_cons,List.map_nil,DataW.weightsAll,DataW.weightsEach] at hw ⊢
   exact hw)
 exact ⟨a,k1,k2,k3⟩⟩
theorem RV {P:Program}{t e:TypeId}{good:Int×Int->Prop}{hn:∀ x,(Rw.enc x).all IK=true}(ht:P.underlying t=some (.array 3 e)) (hl:P.cellsOf t=6) (hc:P.cellsOf e=2) (r:Rc P (cdA Rw hn) e good):Rc P Tu t (fun x=>good x.1/\good x.2.1/\good x.2.2):=⟨fun _=>rfl,fun _=>hl.symm,fun {H enc w base spare held fuel cs x} h hw=>by
 obtain ⟨xs,m,_,rfl,hlc,hlx,hf⟩:=DataW.trod_array ht h
 simp only [DataW.weights,ht] at hw
 match xs,hlx with
 | [y,z,u],_ =>
  simp only [List.map_cons,List.map_nil,DataW.weightsAll,List.append_nil,List.all_append,Bool.and_eq_true] at hw
  have f0:=hf 0 (by omega)
  have f1:=hf 1 (by omega)
  have f2:=hf 2 (by omega)
  rw [hc] at f0 f1 f2
  rw [hl] at hlc
  match cs,hlc with
  | [c0,c1,c2,c3,c4,c5],_ =>
   obtain ⟨a0,k1,k2,k3⟩:=r.rd f0 hw.1
   obtain ⟨a1,l1,l2,l3⟩:=r.rd f1 hw.2.1
   obtain ⟨a2,m1,m2,m3⟩:=r.rd f2 hw.2.2
   refine ⟨(a0,a1,a2),?_,?_,k3,l3,m3⟩
   ·exact (k1.append (l1.append m1):VRs w _ [] ((Rw.enc a0)++((Rw.enc a1)++(Rw.enc a2))) ([c0,c1]++([c2,c3]++[c4,c5])))
   ·simp at k2 l2 m2 ⊢
    exact ⟨k2.1,k2.2,l2.1,l2.2,m2.1,m2.2⟩⟩
end Go.Proofs.YtdjhmdbpcfnpgaaGreatDoor
namespace Go.Proofs.YtdjhmdbpcfnpgaaGreatDoor
open Go.RowKit Go.ChangeShapes Go.WideShapes Go.Deep
theorem S8 {α:Type}{P:Program}{c:Cd α}{t e:TypeId}{good:α->Prop}{hn:∀ x,((csC c (csE c)).enc x).all IK=true}(ht:P.underlying t=some (.array 2 e)) (hl:P.cellsOf t=2) (hc:P.cellsOf e=1) (hs:∀ a,((csC c (csE c)).enc a).length=2) (he:∀ a,elm ((csC c (csE c)).enc a) = .ag ((csC c (csE c)).enc a)) (h1:∀ a,(c.enc a).cel=[c.enc a]) (r:Rc P c e good):Rc P (cdA (csC c (csE c)) hn) t (fun x=>good x.1/\good x.2):=⟨fun a=>he a,fun a=>(hs a).trans hl.symm,fun {H enc w base spare held fuel cs x} h hw=>by
 obtain ⟨xs,m,_,rfl,hlc,hlx,hf⟩:=DataW.trod_array ht h
 simp only [DataW.weights,ht] at hw
 have r2 : Rf P (csC c (csE c)) [Field.mk "" e 0 false "" "" 0, Field.mk "" e 1 false "" "" 0] 0 (fun x => good x.1 ∧ good x.2) := Ik r rfl hc h1 (PB r rfl hc h1)
 obtain ⟨a,k1,k2,k3⟩:=r2.rd (cs:=cs) (xs:=xs) (n:=m) (by rw [hlc,hl]; rfl) (by rw [hlx]; rfl) (fun j f hj=>by
  match j,hj with
  | 0,hj =>
   obtain rfl:=OI hj
   have:=hf 0 (by omega)
   rw [Nat.zero_mul] at this
   exact this
  | 1,hj =>
   obtain rfl:=OI hj
   have:=hf 1 (by omega)
   rw [Nat.one_mul,hc] at this
   rw [hc]
   exact this) (by
  match xs,hlx with
  | [y,z],_ =>
   simp only [List.map_cons,List.map_nil,DataW.weightsAll,DataW.weightsEach] at hw ⊢
   exact hw)
 exact ⟨a,k1,k2,k3⟩⟩
end Go.Proofs.YtdjhmdbpcfnpgaaGreatDoor
