/- Lemmas for the proof. -/
import Derived.Test.YtlalcoehgkmhlaaGreatDoorCourtParetoM1
import Derived.Test.YtlalcoehgkmhlaaGreatDoorCourtParetoM2
import Derived.Test.YtlalcoehgkmhlaaGreatDoorCourtParetoM3
import Derived.Test.YtlalcoehgkmhlaaGreatDoorCourtParetoM4
import Derived.Test.YtlalcoehgkmhlaaGreatDoorCourtParetoM5
import Derived.Test.YtlalcoehgkmhlaaGreatDoorCourtParetoM6
set_option maxHeartbeats 4000000
set_option maxRecDepth 100000
namespace Go.Proofs.YtlalcoehgkmhlaaGreatDoor
open Go.RowKit
def isT (r:Option (AV×Hp)):Bool:=match r with
 | some (.v (.bool true),_)=>true
 | _=>false
theorem V3 {r:Option (AV×Hp)}(h:isT r=true):∃ h',r=some (.v (.bool true),h'):=by
 unfold isT at h
 split at h
 ·exact ⟨_,rfl⟩
 ·cases h
set_option maxRecDepth 1000000 in
theorem XC:isT (RL E13 3000 18 [] [])=true:=by kernel_rfl
theorem Tx:∃ h,RL E13 3000 18 [] []=some (.v (.bool true),h):=V3 XC
theorem SU (w:World):Ret Tryz.prog 18 #[] w fun v w'=>v = .bool true/\w.grownBy w' none:=by
 obtain ⟨h,e⟩:=Tx
 exact Ui (E:=E13) (Z:=fun _=>False) (us:=[]) W1 e (fun c hc=>hc.elim) (fun g x h=>by cases h) .nil
theorem Wi {w:World}{Z:Nat->Prop}:VR w Z [] (.v (.bool true)) (.bool true):= .v rfl
def NK:Option Bool:=some true
def N8:Cs Unit:=csN
def N9 (b:Bool):AV:=cdB.enc b
def PT:List AV->Option AV:=D4 N8 (fun _=>NK) N9
theorem Pb:XOk 18 PT:=by
 refine ⟨⟨Tryz.call18⟩,fun xs x h w Z us _ _ hv=>?_⟩
 obtain ⟨a,ha,h⟩:=OB h
 obtain ⟨b,hb,rfl⟩:=Option.map_eq_some_iff.1 h
 have hb:=OI hb
 subst hb
 have:xs=[]:=by
  cases xs with
  | nil=>rfl
  | cons x xs=>cases ha
 subst this
 have:us=[]:=by have:=hv.len; simpa using this
 subst this
 exact Ret.mono (SU w) fun v w' h=>⟨h.2,by rw [h.1]; exact Wi⟩
/- trestle/trestlelaw03.CourtPareto -/
noncomputable def CT:Code:=Br Tryz.f14
def BV (x0:(List (List (Int×Int×Int×Bool×Bool)))) (v1:(List Am)):Nat->(List (List AE))->Int->Option (((List (List AE))))
 | 0,_,_=>none
 | f + 1,c3,c4 =>
  if (decide (c4 < (((x0.take (mnI (x0.length:Int) 5).toNat).drop (0:Int).toNat).length:Int)))=true then
  (idx ((x0.take (mnI (x0.length:Int) 5).toNat).drop (0:Int).toNat) c4).bind fun v6 =>
  (Fj v6).bind fun v7 =>
  if (Gg 24 (c3.length + 1))=true then
  BV x0 v1 f (c3++[v7]) (wr .i64 (c4 + 1))
  else none
  else
  some c3
def BW (v1:(List Am)) (r10:(List (List AE))) (v11:(List Int)×Int×Int) (v16:(List (Int×Int))):Nat->Int->Option ((Unit) ⊕ (Bool))
 | 0,_=>none
 | f + 1,c17 =>
  if (decide (c17 < (v16.length:Int)))=true then
  (idx v16 c17).bind fun v19 =>
  (if ((r10.length:Int)==0)=true then some true else (A4 v11.1 v19.1).bind fun v20 =>
  (A4 v11.1 v19.2).bind fun v21 =>
  some (decide (v20≥v21))).bind fun j23 =>
  if j23=true then
  some (.inr false)
  else
  BW v1 r10 v11 v16 f (wr .i64 (c17 + 1))
  else
  some (.inl ())
def BI (v1:(List Am)) (r10:(List (List AE))) (v11:(List Int)×Int×Int) (c29:Int) (c31:Bool) (c32:Int):Nat->Int->Int->Option ((Int))
 | 0,_,_=>none
 | f + 1,c34,c35 =>
  if (decide (c35 < (r10.length:Int)))=true then
  (idx r10 c35).bind fun v37 =>
  (idx v1 c29).bind fun v38 =>
  (idx v1 c32).bind fun v39 =>
  (DW v37 v38 v39 c29 c32).bind fun v40 =>
  BI v1 r10 v11 c29 c31 c32 f (wr .i64 (c34 - v40)) (wr .i64 (c35 + 1))
  else
  some c34
def A7 (v1:(List Am)) (r10:(List (List AE))) (v11:(List Int)×Int×Int) (c29:Int):Nat->Bool->Int->Option ((Bool))
 | 0,_,_=>none
 | f + 1,c31,c32 =>
  if (decide (c32 < (v1.length:Int)))=true then
  (BI v1 r10 v11 c29 c31 c32 100000 0 0).bind fun r42 =>
  (if c31=true then if (c29==c32)=true then some true else some (decide (r42 > 0)) else some false).bind fun j44 =>
  A7 v1 r10 v11 c29 f j44 (wr .i64 (c32 + 1))
  else
  some c31
def BX (v1:(List Am)) (r10:(List (List AE))) (v11:(List Int)×Int×Int):Nat->Int->Option ((Unit) ⊕ (Bool))
 | 0,_=>none
 | f + 1,c29 =>
  if (decide (c29 < (v1.length:Int)))=true then
  (A7 v1 r10 v11 c29 100000 (decide ((v1.length:Int) > 1)) 0).bind fun r48 =>
  (if r48=true then (idx v11.1 0).bind fun v49 =>
  some (v49 != c29) else some false).bind fun j51 =>
  if j51=true then
  some (.inr false)
  else
  BX v1 r10 v11 f (wr .i64 (c29 + 1))
  else
  some (.inl ())
def DA (x0:(List (List (Int×Int×Int×Bool×Bool)))) (x1:(List (Int×Int))):Option (Bool) :=
 (ER x1 7).bind fun v1 =>
 if (DN 0 (mnI (x0.length:Int) 5) x0.length)=true then
 (BV x0 v1 100000 [] 0).bind fun r10 =>
 (DK r10 v1).bind fun v11 =>
 (if (v11.2.2 != 0)=true then some true else if ((v11.1.length:Int)!=(v1.length:Int))=true then some true else (B4 r10 v1 v11.1).bind fun v12 =>
 some (v11.2.1 != v12)).bind fun j14 =>
 if j14=true then
 some false
 else
 (FX r10 v1).bind fun v16 =>
 (BW v1 r10 v11 v16 100000 0).bind fun r27 =>
 match r27 with
 | (.inl _w28) =>
  (BX v1 r10 v11 100000 0).bind fun r55 =>
  match r55 with
  | (.inl _w56) =>
   NK.bind fun v57 =>
   some v57
  | (.inr w58) =>
   some w58
 | (.inr w59) =>
  some w59
 else none
def DU:Cs (((List (List (Int×Int×Int×Bool×Bool))))×((List (Int×Int)))×Unit):=(csC (cdL 1 (cdL 5 (cdA (csC (cdK .u8) (csC (cdK .u8) (csC (cdK .u8) (csC cdB (csE cdB))))) (fun _=>rfl)))) (csC (cdL 2 (Fl (cdK .u8) (cdK .u8) (fun _=>rfl) (fun _=>rfl))) csN))
def EE (r:Bool):AV:=cdB.enc r
theorem JB (x0:(List (List (Int×Int×Int×Bool×Bool)))) (v1:(List Am)):∀ (f:Nat) (c3:(List (List AE))) (c4:Int) (r:((List (List AE)))),BV x0 v1 f c3 c4=some r->SemN E0 ⟨none,false⟩ (pc CT [1,1,1,0,1,0,0]) f ⟨Fr 140 [(5,.sl 9 (v1.map AG.enc)),(6,hd 0 (c3.map (cdL 5 AA).enc)),(26,.sl 1 (((x0.take (mnI (x0.length:Int) 5).toNat).drop (0:Int).toNat).map (cdL 5 (cdA (csC (cdK .u8) (csC (cdK .u8) (csC (cdK .u8) (csC cdB (csE cdB))))) (fun _=>rfl))).enc)),(27,.v (.int .i64 (((x0.take (mnI (x0.length:Int) 5).toNat).drop (0:Int).toNat).length:Int))),(28,.v (.int .i64 c4))],[mk 1 22 (c3.map (cdL 5 AA).enc)]⟩ (fun e s=>e=(.exit 0)/\Wk E0 s ⟨Fr 140 [(5,.sl 9 (v1.map AG.enc)),(6,hd 0 (r.map (cdL 5 AA).enc))],[mk 1 22 (r.map (cdL 5 AA).enc)]⟩):=by
 intro f;induction f with
 | zero=>intro c3 c4 r h; cases h
 | succ f ih0 =>
  intro c3 c4 r h
  have ih:=fun (c3:(List (List AE))) (c4:Int)=>ih0 c3 c4 r
  unfold BV at h;refine Bw ?_
  let p1:Option Blk:=mk 1 22 (c3.map (cdL 5 AA).enc)
  let p2:Nat×AV:=(28,.v (.int .i64 c4))
  let p3:Nat×AV:=(27,.v (.int .i64 (((x0.take (mnI (x0.length:Int) 5).toNat).drop (0:Int).toNat).length:Int)))
  let p4:Nat×AV:=(26,.sl 1 (((x0.take (mnI (x0.length:Int) 5).toNat).drop (0:Int).toNat).map (cdL 5 (cdA (csC (cdK .u8) (csC (cdK .u8) (csC (cdK .u8) (csC cdB (csE cdB))))) (fun _=>rfl))).enc))
  let p5:Nat×AV:=(6,hd 0 (c3.map (cdL 5 AA).enc))
  let p6:Nat×AV:=(5,.sl 9 (v1.map AG.enc))
  refine AJ AC [p6,p5,p4,p3,p2,(29,.v (.bool (decide (c4 < (((x0.take (mnI (x0.length:Int) 5).toNat).drop (0:Int).toNat).length:Int)))))] [p1] ?_;refine AH ?_;refine AM (b:=(decide (c4 < (((x0.take (mnI (x0.length:Int) 5).toNat).drop (0:Int).toNat).length:Int)))) kr (fun hb5=>?_) (fun hb5=>?_)
  ·rw [if_pos hb5] at h
   refine AQ ?_;refine AH ?_;refine Af ?_;refine AH ?_;obtain ⟨v6,hv6,h⟩:=OB h;refine AI (s1:=⟨Fr 140 [p6,p5,(8,.sl 5 (v6.map (cdA (csC (cdK .u8) (csC (cdK .u8) (csC (cdK .u8) (csC cdB (csE cdB))))) (fun _=>rfl)).enc)),p4,p3,p2],[p1]⟩) ?_ ?_
   ·refine AK AC 0 rfl (Ci (AB rfl) rfl (AS (a:= .sl 1 (((x0.take (mnI (x0.length:Int) 5).toNat).drop (0:Int).toNat).map (cdL 5 (cdA (csC (cdK .u8) (csC (cdK .u8) (csC (cdK .u8) (csC cdB (csE cdB))))) (fun _=>rfl))).enc)) (b:= .v (.int .i64 c4)) kr kr (FM (e:=(cdL 5 (cdA (csC (cdK .u8) (csC (cdK .u8) (csC (cdK .u8) (csC cdB (csE cdB))))) (fun _=>rfl))).enc) (el:=28) (k:=1) (ki:= .i64) kr kr hv6))) ?_
    exact AO AC
   obtain ⟨v7,hv7,h⟩:=OB h;by_cases hk8:(Gg 24 (c3.length + 1))=true
   case neg=>rw [if_neg hk8] at h; cases h
   rw [if_pos hk8] at h
   let p7:Option Blk:=mk 1 22 ((c3++[v7]).map (cdL 5 AA).enc)
   let p8:Nat×AV:=(6,hd 0 ((c3++[v7]).map (cdL 5 AA).enc))
   refine AI (s1:=⟨Fr 140 [p6,p8,p4,p3,p2],[p7]⟩) ?_ ?_
   ·let p9:Nat×AV:=(32,hd 0 (c3.map (cdL 5 AA).enc))
    refine AD (n:=140) AC 2 [p6,p4,p3,p2,p9,(33,.sl 5 (v6.map (cdA (csC (cdK .u8) (csC (cdK .u8) (csC (cdK .u8) (csC cdB (csE cdB))))) (fun _=>rfl)).enc))] [p1] kr ?_;refine Ac (caps:=[]) (xs:=[.sl 5 (v6.map (cdA (csC (cdK .u8) (csC (cdK .u8) (csC (cdK .u8) (csC cdB (csE cdB))))) (fun _=>rfl)).enc)]) (u:=(v6,())) rfl rfl QT rfl (AB rfl) kr kr (AP (Ab (c:=(cdL 5 (cdA (csC (cdK .u8) (csC (cdK .u8) (csC (cdK .u8) (csC cdB (csE cdB))))) (fun _=>rfl)))) (v:=v6)) BJ) (.inr kr) hv7 ?_
    let p10:Option Blk:=mk 1 22 ([v7].map (cdL 5 AA).enc)
    refine AD (n:=140) AC 1 [p6,p4,p3,p2,p9,(35,hd 1 ([v7].map (cdL 5 AA).enc))] [p1,p10] kr ?_;refine AK AC 0 rfl (VD (AB rfl) rfl kr kr (IM (a:=hd 0 (c3.map (cdL 5 AA).enc)) (b:=hd 1 ([v7].map (cdL 5 AA).enc)) kr kr (Is (c:=(cdL 5 AA)) (xs:=c3) (vs:=[v7]) (k:=1) (bytes:=24) (el:=22) kr kr (I1 (t:=22) kr) (List.cons_ne_nil _ _) kr hk8))) ?_;refine AD (n:=140) AC 1 [p6,(6,hd 2 ((c3++[v7]).map (cdL 5 AA).enc)),p4,p3,p2] [none,p10,p7] kr ?_;exact AL rfl (AY [2] ⟨⟨_,rfl,Cq⟩,trivial⟩ ⟨lv,Cr (b':=2) kr kr,lv,lv,lv,trivial⟩)
   let p11:Nat×AV:=(28,.v (.int .i64 (wr .i64 (c4 + 1))))
   refine Cy AC [p6,p8,p4,p3,p11] [p7] ?_;exact As (s1:=⟨Fr 140 [p6,p8,p4,p3,p11],[p7]⟩) (AY [0] ⟨⟨_,rfl,Cq⟩,trivial⟩ ⟨lv,Cr (b':=0) kr kr,lv,lv,lv,trivial⟩) (ih (c3++[v7]) (wr .i64 (c4 + 1)) h)
  ·rw [CL hb5] at h
   refine CO ?_;have hq:=OI h; subst hq;exact ⟨rfl,(AY [0] ⟨⟨_,rfl,Cq⟩,trivial⟩ ⟨lv,Cr (b':=0) kr kr,trivial⟩)⟩
theorem GM (v1:(List Am)) (r10:(List (List AE))) (v11:(List Int)×Int×Int) (v16:(List (Int×Int))):∀ (f:Nat) (c17:Int) (r:(Unit) ⊕ (Bool)),BW v1 r10 v11 v16 f c17=some r->SemN E0 ⟨none,false⟩ (pc CT [1,1,1,1,1,1,0,1,0,0]) f ⟨Fr 140 [(5,.sl 9 (v1.map AG.enc)),(6,.sl 1 (r10.map (cdL 5 AA).enc)),(9,.sl 1 (v11.1.map cdI.enc)),(64,.sl 2 (v16.map (Fl cdI cdI (fun _=>rfl) (fun _=>rfl)).enc)),(65,.v (.int .i64 (v16.length:Int))),(66,.v (.int .i64 c17))],[]⟩ (fun e s=>match r with
 | (.inl _w)=>e=(.exit 2)/\Wk E0 s ⟨Fr 140 [(5,.sl 9 (v1.map AG.enc)),(6,.sl 1 (r10.map (cdL 5 AA).enc)),(9,.sl 1 (v11.1.map cdI.enc))],[]⟩
 | (.inr w)=>e = .ret/\Wk E0 s ⟨Fr 140 [(4,.v (.bool w))],[]⟩):=by
 intro f;induction f with
 | zero=>intro c17 r h; cases h
 | succ f ih0 =>
  intro c17 r h
  have ih:=fun (c17:Int)=>ih0 c17 r
  unfold BW at h;refine Bw ?_;refine AJ AC [(5,.sl 9 (v1.map AG.enc)),(6,.sl 1 (r10.map (cdL 5 AA).enc)),(9,.sl 1 (v11.1.map cdI.enc)),(64,.sl 2 (v16.map (Fl cdI cdI (fun _=>rfl) (fun _=>rfl)).enc)),(65,.v (.int .i64 (v16.length:Int))),(66,.v (.int .i64 c17)),(67,.v (.bool (decide (c17 < (v16.length:Int)))))] [] ?_;refine AH ?_;refine AM (b:=(decide (c17 < (v16.length:Int)))) kr (fun hb18=>?_) (fun hb18=>?_)
  ·rw [if_pos hb18] at h
   refine AQ ?_;refine AH ?_;refine Af ?_;refine AH ?_;obtain ⟨v19,hv19,h⟩:=OB h;refine AI (s1:=⟨Fr 140 [(5,.sl 9 (v1.map AG.enc)),(6,.sl 1 (r10.map (cdL 5 AA).enc)),(9,.sl 1 (v11.1.map cdI.enc)),(13,.pt 0 0 0),(64,.sl 2 (v16.map (Fl cdI cdI (fun _=>rfl) (fun _=>rfl)).enc)),(65,.v (.int .i64 (v16.length:Int))),(66,.v (.int .i64 c17))],[some ⟨2,90,[.ag [.v (.int .i64 v19.1),.v (.int .i64 v19.2)]],false⟩]⟩) ?_ ?_
   ·refine AK AC 0 rfl (Ci (AB rfl) rfl (AS (a:= .sl 2 (v16.map (Fl cdI cdI (fun _=>rfl) (fun _=>rfl)).enc)) (b:= .v (.int .i64 c17)) kr kr (FM (e:=(Fl cdI cdI (fun _=>rfl) (fun _=>rfl)).enc) (el:=90) (k:=2) (ki:= .i64) kr kr hv19))) ?_
    exact AO AC
   refine AH ?_;obtain ⟨j23,hj23,h⟩:=OB h;refine EH AC (s1:=⟨Fr 140 [(5,.sl 9 (v1.map AG.enc)),(6,.sl 1 (r10.map (cdL 5 AA).enc)),(9,.sl 1 (v11.1.map cdI.enc)),(64,.sl 2 (v16.map (Fl cdI cdI (fun _=>rfl) (fun _=>rfl)).enc)),(65,.v (.int .i64 (v16.length:Int))),(66,.v (.int .i64 c17)),(83,.v (.bool j23))],[]⟩) kr ?_ ?_
   ·refine Ap (n:=140) AC 1 [(5,.sl 9 (v1.map AG.enc)),(6,.sl 1 (r10.map (cdL 5 AA).enc)),(9,.sl 1 (v11.1.map cdI.enc)),(13,.pt 0 0 0),(64,.sl 2 (v16.map (Fl cdI cdI (fun _=>rfl) (fun _=>rfl)).enc)),(65,.v (.int .i64 (v16.length:Int))),(66,.v (.int .i64 c17)),(70,.sl 1 (r10.map (cdL 5 AA).enc))] [some ⟨2,90,[.ag [.v (.int .i64 v19.1),.v (.int .i64 v19.2)]],false⟩] kr kr ?_
    refine RunDS.one AC rfl kr (PE kr (AB rfl) rfl (DY (a:= .sl 1 (r10.map (cdL 5 AA).enc)) kr (CB (el:=22) kr)) kr) ?_;refine Ap (n:=140) AC 2 [(5,.sl 9 (v1.map AG.enc)),(6,.sl 1 (r10.map (cdL 5 AA).enc)),(9,.sl 1 (v11.1.map cdI.enc)),(13,.pt 0 0 0),(64,.sl 2 (v16.map (Fl cdI cdI (fun _=>rfl) (fun _=>rfl)).enc)),(65,.v (.int .i64 (v16.length:Int))),(66,.v (.int .i64 c17)),(73,.v (.bool ((r10.length:Int)==0)))] [some ⟨2,90,[.ag [.v (.int .i64 v19.1),.v (.int .i64 v19.2)]],false⟩] kr kr ?_;rcases BE ((r10.length:Int)==0) with hc26 | hc26
    ·rw [if_pos hc26] at hj23
     rw [hc26];refine Ap (n:=140) AC 10 [(5,.sl 9 (v1.map AG.enc)),(6,.sl 1 (r10.map (cdL 5 AA).enc)),(9,.sl 1 (v11.1.map cdI.enc)),(64,.sl 2 (v16.map (Fl cdI cdI (fun _=>rfl) (fun _=>rfl)).enc)),(65,.v (.int .i64 (v16.length:Int))),(66,.v (.int .i64 c17)),(74,.tp []),(75,.tp []),(76,.tp []),(77,.tp []),(78,.tp []),(79,.tp []),(80,.tp []),(81,.tp []),(82,.tp []),(83,.v (.bool true))] [some ⟨2,90,[.ag [.v (.int .i64 v19.1),.v (.int .i64 v19.2)]],false⟩] kr kr ?_;have hq:=OI hj23; subst hq;exact RunDS.done rfl (AY [] trivial ⟨lv,lv,lv,lv,lv,lv,lv,trivial⟩)
    ·rw [CL hc26] at hj23
     rw [hc26];refine Ap (n:=140) AC 3 [(5,.sl 9 (v1.map AG.enc)),(6,.sl 1 (r10.map (cdL 5 AA).enc)),(9,.sl 1 (v11.1.map cdI.enc)),(13,.pt 0 0 0),(64,.sl 2 (v16.map (Fl cdI cdI (fun _=>rfl) (fun _=>rfl)).enc)),(65,.v (.int .i64 (v16.length:Int))),(66,.v (.int .i64 c17)),(73,.v (.bool false)),(74,.sl 1 (v11.1.map cdI.enc)),(75,.pt 0 0 0),(76,.v (.int .i64 v19.1))] [some ⟨2,90,[.ag [.v (.int .i64 v19.1),.v (.int .i64 v19.2)]],false⟩] kr kr ?_;obtain ⟨v20,hv20,hj23⟩:=OB hj23;refine Bo (caps:=[]) (xs:=[.sl 1 (v11.1.map cdI.enc),.v (.int .i64 v19.1)]) (u:=(v11.1,v19.1,())) rfl rfl He rfl kr kr kr (AP (Ab (c:=(cdL 1 cdI)) (v:=v11.1)) (AP (Ab (c:=cdI) (v:=v19.1)) BJ)) kr hv20 ?_;refine Ap (n:=140) AC 3 [(5,.sl 9 (v1.map AG.enc)),(6,.sl 1 (r10.map (cdL 5 AA).enc)),(9,.sl 1 (v11.1.map cdI.enc)),(64,.sl 2 (v16.map (Fl cdI cdI (fun _=>rfl) (fun _=>rfl)).enc)),(65,.v (.int .i64 (v16.length:Int))),(66,.v (.int .i64 c17)),(73,.v (.bool false)),(74,.sl 1 (v11.1.map cdI.enc)),(75,.pt 0 0 0),(76,.v (.int .i64 v19.1)),(77,.v (.int .i64 v20)),(78,.sl 1 (v11.1.map cdI.enc)),(79,.pt 0 0 1),(80,.v (.int .i64 v19.2))] [some ⟨2,90,[.ag [.v (.int .i64 v19.1),.v (.int .i64 v19.2)]],false⟩] kr kr ?_;obtain ⟨v21,hv21,hj23⟩:=OB hj23;refine Bo (caps:=[]) (xs:=[.sl 1 (v11.1.map cdI.enc),.v (.int .i64 v19.2)]) (u:=(v11.1,v19.2,())) rfl rfl He rfl kr kr kr (AP (Ab (c:=(cdL 1 cdI)) (v:=v11.1)) (AP (Ab (c:=cdI) (v:=v19.2)) BJ)) kr hv21 ?_;refine Ap (n:=140) AC 2 [(5,.sl 9 (v1.map AG.enc)),(6,.sl 1 (r10.map (cdL 5 AA).enc)),(9,.sl 1 (v11.1.map cdI.enc)),(64,.sl 2 (v16.map (Fl cdI cdI (fun _=>rfl) (fun _=>rfl)).enc)),(65,.v (.int .i64 (v16.length:Int))),(66,.v (.int .i64 c17)),(74,.sl 1 (v11.1.map cdI.enc)),(75,.pt 0 0 0),(76,.v (.int .i64 v19.1)),(77,.v (.int .i64 v20)),(78,.sl 1 (v11.1.map cdI.enc)),(79,.pt 0 0 1),(80,.v (.int .i64 v19.2)),(81,.v (.int .i64 v21)),(82,.v (.bool (decide (v20≥v21)))),(83,.v (.bool (decide (v20≥v21))))] [some ⟨2,90,[.ag [.v (.int .i64 v19.1),.v (.int .i64 v19.2)]],false⟩] kr kr ?_
     have hq:=OI hj23; subst hq;exact RunDS.done rfl (AY [] trivial ⟨lv,lv,lv,lv,lv,lv,lv,trivial⟩)
   refine AM (b:=j23) kr (fun hb24=>?_) (fun hb24=>?_)
   ·rw [if_pos hb24] at h
    refine AJ AC [(4,.v (.bool false))] [] ?_;refine AU ?_;have hq:=OI h; subst hq;exact ⟨rfl,AN⟩
   ·rw [CL hb24] at h
    refine AQ ?_;refine Cy AC [(5,.sl 9 (v1.map AG.enc)),(6,.sl 1 (r10.map (cdL 5 AA).enc)),(9,.sl 1 (v11.1.map cdI.enc)),(64,.sl 2 (v16.map (Fl cdI cdI (fun _=>rfl) (fun _=>rfl)).enc)),(65,.v (.int .i64 (v16.length:Int))),(66,.v (.int .i64 (wr .i64 (c17 + 1))))] [] ?_;exact As (s1:=⟨Fr 140 [(5,.sl 9 (v1.map AG.enc)),(6,.sl 1 (r10.map (cdL 5 AA).enc)),(9,.sl 1 (v11.1.map cdI.enc)),(64,.sl 2 (v16.map (Fl cdI cdI (fun _=>rfl) (fun _=>rfl)).enc)),(65,.v (.int .i64 (v16.length:Int))),(66,.v (.int .i64 (wr .i64 (c17 + 1))))],[]⟩) AN (ih (wr .i64 (c17 + 1)) h)
  ·rw [CL hb18] at h
   refine CO ?_;have hq:=OI h; subst hq;exact ⟨rfl,AN⟩
theorem JD (v1:(List Am)) (r10:(List (List AE))) (v11:(List Int)×Int×Int) (c29:Int) (c31:Bool) (c32:Int):∀ (f:Nat) (c34:Int) (c35:Int) (r:(Int)),BI v1 r10 v11 c29 c31 c32 f c34 c35=some r->SemN E0 ⟨none,false⟩ (pc CT [1,1,1,1,1,1,1,0,1,0,0,1,1,0,0,1,1,0,1,0,0,1,1,0,0,1,1,0,1,0,0]) f ⟨Fr 140 [(5,.sl 9 (v1.map AG.enc)),(6,.sl 1 (r10.map (cdL 5 AA).enc)),(9,.sl 1 (v11.1.map cdI.enc)),(14,.v (.int .i64 c29)),(15,.v (.bool c31)),(16,.v (.int .i64 c32)),(17,.v (.int .i64 c34)),(86,.v (.int .i64 (v1.length:Int))),(87,.v (.int .i64 c29)),(94,.v (.int .i64 (v1.length:Int))),(95,.v (.int .i64 c32)),(98,.sl 1 (r10.map (cdL 5 AA).enc)),(99,.v (.int .i64 (r10.length:Int))),(100,.v (.int .i64 c35))],[]⟩ (fun e s=>e=(.exit 8)/\Wk E0 s ⟨Fr 140 [(5,.sl 9 (v1.map AG.enc)),(6,.sl 1 (r10.map (cdL 5 AA).enc)),(9,.sl 1 (v11.1.map cdI.enc)),(14,.v (.int .i64 c29)),(15,.v (.bool c31)),(16,.v (.int .i64 c32)),(17,.v (.int .i64 r)),(86,.v (.int .i64 (v1.length:Int))),(87,.v (.int .i64 c29)),(94,.v (.int .i64 (v1.length:Int))),(95,.v (.int .i64 c32))],[]⟩):=by
 intro f;induction f with
 | zero=>intro c34 c35 r h; cases h
 | succ f ih0 =>
  intro c34 c35 r h
  have ih:=fun (c34:Int) (c35:Int)=>ih0 c34 c35 r
  unfold BI at h;refine Bw ?_
  let p1:Nat×AV:=(100,.v (.int .i64 c35))
  let p2:Nat×AV:=(99,.v (.int .i64 (r10.length:Int)))
  let p3:Nat×AV:=(98,.sl 1 (r10.map (cdL 5 AA).enc))
  let p4:Nat×AV:=(95,.v (.int .i64 c32))
  let p5:Nat×AV:=(94,.v (.int .i64 (v1.length:Int)))
  let p6:Nat×AV:=(87,.v (.int .i64 c29))
  let p7:Nat×AV:=(86,.v (.int .i64 (v1.length:Int)))
  let p8:Nat×AV:=(16,.v (.int .i64 c32))
  let p9:Nat×AV:=(15,.v (.bool c31))
  let p10:Nat×AV:=(14,.v (.int .i64 c29))
  let p11:Nat×AV:=(9,.sl 1 (v11.1.map cdI.enc))
  let p12:Nat×AV:=(6,.sl 1 (r10.map (cdL 5 AA).enc))
  let p13:Nat×AV:=(5,.sl 9 (v1.map AG.enc))
  refine AJ AC [p13,p12,p11,p10,p9,p8,(17,.v (.int .i64 c34)),p7,p6,p5,p4,p3,p2,p1,(101,.v (.bool (decide (c35 < (r10.length:Int)))))] [] ?_;refine AH ?_;refine AM (b:=(decide (c35 < (r10.length:Int)))) kr (fun hb36=>?_) (fun hb36=>?_)
  ·rw [if_pos hb36] at h
   refine AQ ?_;refine AH ?_;refine Af ?_;refine AH ?_;obtain ⟨v37,hv37,h⟩:=OB h;refine AI (s1:=⟨Fr 140 [p13,p12,p11,p10,p9,p8,(17,.v (.int .i64 c34)),(19,.sl 5 (v37.map AA.enc)),p7,p6,p5,p4,p3,p2,p1],[]⟩) ?_ ?_
   ·refine AK AC 0 rfl (Ci (AB rfl) rfl (AS (a:= .sl 1 (r10.map (cdL 5 AA).enc)) (b:= .v (.int .i64 c35)) kr kr (FM (e:=(cdL 5 AA).enc) (el:=22) (k:=1) (ki:= .i64) kr kr hv37))) ?_
    exact AO AC
   obtain ⟨v38,hv38,h⟩:=OB h;obtain ⟨v39,hv39,h⟩:=OB h;obtain ⟨v40,hv40,h⟩:=OB h
   let p14:Nat×AV:=(17,.v (.int .i64 (wr .i64 (c34 - v40))))
   refine EH AC (s1:=⟨Fr 140 [p13,p12,p11,p10,p9,p8,p14,p7,p6,p5,p4,p3,p2,p1],[]⟩) kr ?_ ?_
   ·let p15:Nat×AV:=(105,.sl 5 (v37.map AA.enc))
    let p16:Nat×AV:=(104,.v (.int .i64 c34))
    refine Ap (n:=140) AC 4 [p13,p12,p11,p10,p9,p8,p7,p6,p5,p4,p3,p2,p1,p16,p15,(106,.sl 9 (v1.map AG.enc)),(107,.v (.int .i64 c29))] [] kr kr ?_;refine RunDS.one AC rfl kr (PE kr (AB rfl) rfl (AS (a:= .sl 9 (v1.map AG.enc)) (b:= .v (.int .i64 c29)) kr kr (FM (e:=AG.enc) (el:=42) (k:=9) (ki:= .i64) kr kr hv38)) kr) ?_;refine Ap (n:=140) AC 3 [p13,p12,p11,p10,p9,p8,p7,p6,p5,p4,p3,p2,p1,p16,p15,(109,AG.enc v38),(110,.sl 9 (v1.map AG.enc)),(111,.v (.int .i64 c32))] [] kr kr ?_;refine RunDS.one AC rfl kr (PE kr (AB rfl) rfl (AS (a:= .sl 9 (v1.map AG.enc)) (b:= .v (.int .i64 c32)) kr kr (FM (e:=AG.enc) (el:=42) (k:=9) (ki:= .i64) kr kr hv39)) kr) ?_;refine Ap (n:=140) AC 3 [p13,p12,p11,p10,p9,p8,p7,p6,p5,p4,p3,p2,p1,p16,p15,(109,AG.enc v38),(113,AG.enc v39),(114,.v (.int .i64 c29)),(115,.v (.int .i64 c32))] [] kr kr ?_;refine Bo (caps:=[]) (xs:=[.sl 5 (v37.map AA.enc),AG.enc v38,AG.enc v39,.v (.int .i64 c29),.v (.int .i64 c32)]) (u:=(v37,v38,v39,c29,c32,())) rfl rfl Np rfl (AB rfl) kr kr (AP (Ab (c:=(cdL 5 AA)) (v:=v37)) (AP (Ab (c:=AG) (v:=v38)) (AP (Ab (c:=AG) (v:=v39)) (AP (Ab (c:=cdI) (v:=c29)) (AP (Ab (c:=cdI) (v:=c32)) BJ))))) kr hv40 ?_;refine Ap (n:=140) AC 2 [p13,p12,p11,p10,p9,p8,p14,p7,p6,p5,p4,p3,p2,p1] [] kr kr ?_;exact RunDS.done rfl AN
   let p17:Nat×AV:=(100,.v (.int .i64 (wr .i64 (c35 + 1))))
   refine Cy AC [p13,p12,p11,p10,p9,p8,p14,p7,p6,p5,p4,p3,p2,p17] [] ?_;exact As (s1:=⟨Fr 140 [p13,p12,p11,p10,p9,p8,p14,p7,p6,p5,p4,p3,p2,p17],[]⟩) AN (ih (wr .i64 (c34 - v40)) (wr .i64 (c35 + 1)) h)
  ·rw [CL hb36] at h
   refine CO ?_;have hq:=OI h; subst hq;exact ⟨rfl,AN⟩
theorem JC (v1:(List Am)) (r10:(List (List AE))) (v11:(List Int)×Int×Int) (c29:Int):∀ (f:Nat) (c31:Bool) (c32:Int) (r:(Bool)),A7 v1 r10 v11 c29 f c31 c32=some r->SemN E0 ⟨none,false⟩ (pc CT [1,1,1,1,1,1,1,0,1,0,0,1,1,0,0,1,1,0,1,0,0]) f ⟨Fr 140 [(5,.sl 9 (v1.map AG.enc)),(6,.sl 1 (r10.map (cdL 5 AA).enc)),(9,.sl 1 (v11.1.map cdI.enc)),(14,.v (.int .i64 c29)),(15,.v (.bool c31)),(86,.v (.int .i64 (v1.length:Int))),(87,.v (.int .i64 c29)),(94,.v (.int .i64 (v1.length:Int))),(95,.v (.int .i64 c32))],[]⟩ (fun e s=>e=(.exit 6)/\Wk E0 s ⟨Fr 140 [(5,.sl 9 (v1.map AG.enc)),(6,.sl 1 (r10.map (cdL 5 AA).enc)),(9,.sl 1 (v11.1.map cdI.enc)),(14,.v (.int .i64 c29)),(15,.v (.bool r)),(86,.v (.int .i64 (v1.length:Int))),(87,.v (.int .i64 c29))],[]⟩):=by
 intro f;induction f with
 | zero=>intro c31 c32 r h; cases h
 | succ f ih0 =>
  intro c31 c32 r h
  have ih:=fun (c31:Bool) (c32:Int)=>ih0 c31 c32 r
  unfold A7 at h;refine Bw ?_;refine AJ AC [(5,.sl 9 (v1.map AG.enc)),(6,.sl 1 (r10.map (cdL 5 AA).enc)),(9,.sl 1 (v11.1.map cdI.enc)),(14,.v (.int .i64 c29)),(15,.v (.bool c31)),(86,.v (.int .i64 (v1.length:Int))),(87,.v (.int .i64 c29)),(94,.v (.int .i64 (v1.length:Int))),(95,.v (.int .i64 c32)),(96,.v (.bool (decide (c32 < (v1.length:Int)))))] [] ?_;refine AH ?_;refine AM (b:=(decide (c32 < (v1.length:Int)))) kr (fun hb33=>?_) (fun hb33=>?_)
  ·rw [if_pos hb33] at h
   refine AQ ?_;refine AH ?_;refine Af ?_;refine AJ AC [(5,.sl 9 (v1.map AG.enc)),(6,.sl 1 (r10.map (cdL 5 AA).enc)),(9,.sl 1 (v11.1.map cdI.enc)),(14,.v (.int .i64 c29)),(15,.v (.bool c31)),(16,.v (.int .i64 c32)),(86,.v (.int .i64 (v1.length:Int))),(87,.v (.int .i64 c29)),(94,.v (.int .i64 (v1.length:Int))),(95,.v (.int .i64 c32))] [] ?_;refine AJ AC [(5,.sl 9 (v1.map AG.enc)),(6,.sl 1 (r10.map (cdL 5 AA).enc)),(9,.sl 1 (v11.1.map cdI.enc)),(14,.v (.int .i64 c29)),(15,.v (.bool c31)),(16,.v (.int .i64 c32)),(17,.v (.int .i64 0)),(86,.v (.int .i64 (v1.length:Int))),(87,.v (.int .i64 c29)),(94,.v (.int .i64 (v1.length:Int))),(95,.v (.int .i64 c32))] [] ?_;refine AH ?_;refine AH ?_;refine AI (s1:=⟨Fr 140 [(5,.sl 9 (v1.map AG.enc)),(6,.sl 1 (r10.map (cdL 5 AA).enc)),(9,.sl 1 (v11.1.map cdI.enc)),(14,.v (.int .i64 c29)),(15,.v (.bool c31)),(16,.v (.int .i64 c32)),(17,.v (.int .i64 0)),(86,.v (.int .i64 (v1.length:Int))),(87,.v (.int .i64 c29)),(94,.v (.int .i64 (v1.length:Int))),(95,.v (.int .i64 c32)),(98,.sl 1 (r10.map (cdL 5 AA).enc)),(99,.v (.int .i64 (r10.length:Int))),(100,.v (.int .i64 0))],[]⟩) ?_ ?_
   ·refine AD (n:=140) AC 1 [(5,.sl 9 (v1.map AG.enc)),(6,.sl 1 (r10.map (cdL 5 AA).enc)),(9,.sl 1 (v11.1.map cdI.enc)),(14,.v (.int .i64 c29)),(15,.v (.bool c31)),(16,.v (.int .i64 c32)),(17,.v (.int .i64 0)),(86,.v (.int .i64 (v1.length:Int))),(87,.v (.int .i64 c29)),(94,.v (.int .i64 (v1.length:Int))),(95,.v (.int .i64 c32)),(98,.sl 1 (r10.map (cdL 5 AA).enc))] [] kr ?_
    refine AK AC 0 rfl (Ci (AB rfl) rfl (DY (a:= .sl 1 (r10.map (cdL 5 AA).enc)) kr (CB (el:=22) kr))) ?_;exact AO AC
   refine Af ?_;obtain ⟨r42,hr42,h⟩:=OB h;refine CV (n:=100000) ?_;refine BK (As (s1:=⟨Fr 140 [(5,.sl 9 (v1.map AG.enc)),(6,.sl 1 (r10.map (cdL 5 AA).enc)),(9,.sl 1 (v11.1.map cdI.enc)),(14,.v (.int .i64 c29)),(15,.v (.bool c31)),(16,.v (.int .i64 c32)),(17,.v (.int .i64 0)),(86,.v (.int .i64 (v1.length:Int))),(87,.v (.int .i64 c29)),(94,.v (.int .i64 (v1.length:Int))),(95,.v (.int .i64 c32)),(98,.sl 1 (r10.map (cdL 5 AA).enc)),(99,.v (.int .i64 (r10.length:Int))),(100,.v (.int .i64 0))],[]⟩) AN (JD v1 r10 v11 c29 c31 c32 _ 0 0 _ hr42)) ?_;obtain ⟨j44,hj44,h⟩:=OB h;refine AI (s1:=⟨Fr 140 [(5,.sl 9 (v1.map AG.enc)),(6,.sl 1 (r10.map (cdL 5 AA).enc)),(9,.sl 1 (v11.1.map cdI.enc)),(14,.v (.int .i64 c29)),(15,.v (.bool j44)),(86,.v (.int .i64 (v1.length:Int))),(87,.v (.int .i64 c29)),(94,.v (.int .i64 (v1.length:Int))),(95,.v (.int .i64 c32))],[]⟩) ?_ ?_
   ·refine AD (n:=140) AC 2 [(5,.sl 9 (v1.map AG.enc)),(6,.sl 1 (r10.map (cdL 5 AA).enc)),(9,.sl 1 (v11.1.map cdI.enc)),(14,.v (.int .i64 c29)),(16,.v (.int .i64 c32)),(17,.v (.int .i64 r42)),(86,.v (.int .i64 (v1.length:Int))),(87,.v (.int .i64 c29)),(94,.v (.int .i64 (v1.length:Int))),(95,.v (.int .i64 c32)),(120,.v (.bool c31))] [] kr ?_
    rcases BE c31 with hc45 | hc45
    ·rw [if_pos hc45] at hj44
     rw [hc45];refine AD (n:=140) AC 4 [(5,.sl 9 (v1.map AG.enc)),(6,.sl 1 (r10.map (cdL 5 AA).enc)),(9,.sl 1 (v11.1.map cdI.enc)),(14,.v (.int .i64 c29)),(17,.v (.int .i64 r42)),(86,.v (.int .i64 (v1.length:Int))),(87,.v (.int .i64 c29)),(94,.v (.int .i64 (v1.length:Int))),(95,.v (.int .i64 c32)),(120,.v (.bool true)),(121,.v (.int .i64 c29)),(122,.v (.int .i64 c32)),(123,.v (.bool (c29==c32))),(124,.v (.bool (c29==c32)))] [] kr ?_;rcases BE (c29==c32) with hc46 | hc46
     ·rw [if_pos hc46] at hj44
      rw [hc46];refine AD (n:=140) AC 5 [(5,.sl 9 (v1.map AG.enc)),(6,.sl 1 (r10.map (cdL 5 AA).enc)),(9,.sl 1 (v11.1.map cdI.enc)),(14,.v (.int .i64 c29)),(15,.v (.bool true)),(86,.v (.int .i64 (v1.length:Int))),(87,.v (.int .i64 c29)),(94,.v (.int .i64 (v1.length:Int))),(95,.v (.int .i64 c32)),(121,.v (.int .i64 c29)),(122,.v (.int .i64 c32)),(123,.v (.bool true)),(124,.v (.bool true)),(125,.tp []),(126,.tp []),(127,.v (.bool true))] [] kr ?_;have hq:=OI hj44; subst hq;exact AL rfl AN
     ·rw [CL hc46] at hj44
      rw [hc46];refine AD (n:=140) AC 5 [(5,.sl 9 (v1.map AG.enc)),(6,.sl 1 (r10.map (cdL 5 AA).enc)),(9,.sl 1 (v11.1.map cdI.enc)),(14,.v (.int .i64 c29)),(15,.v (.bool (decide (r42 > 0)))),(86,.v (.int .i64 (v1.length:Int))),(87,.v (.int .i64 c29)),(94,.v (.int .i64 (v1.length:Int))),(95,.v (.int .i64 c32)),(121,.v (.int .i64 c29)),(122,.v (.int .i64 c32)),(123,.v (.bool false)),(124,.v (.bool false)),(125,.v (.int .i64 r42)),(126,.v (.bool (decide (r42 > 0)))),(127,.v (.bool (decide (r42 > 0))))] [] kr ?_;have hq:=OI hj44; subst hq;exact AL rfl AN
    ·rw [CL hc45] at hj44
     rw [hc45];refine AD (n:=140) AC 9 [(5,.sl 9 (v1.map AG.enc)),(6,.sl 1 (r10.map (cdL 5 AA).enc)),(9,.sl 1 (v11.1.map cdI.enc)),(14,.v (.int .i64 c29)),(15,.v (.bool false)),(86,.v (.int .i64 (v1.length:Int))),(87,.v (.int .i64 c29)),(94,.v (.int .i64 (v1.length:Int))),(95,.v (.int .i64 c32)),(121,.tp []),(122,.tp []),(123,.tp []),(124,.tp []),(125,.tp []),(126,.tp []),(127,.tp [])] [] kr ?_;have hq:=OI hj44; subst hq;exact AL rfl AN
   refine Cy AC [(5,.sl 9 (v1.map AG.enc)),(6,.sl 1 (r10.map (cdL 5 AA).enc)),(9,.sl 1 (v11.1.map cdI.enc)),(14,.v (.int .i64 c29)),(15,.v (.bool j44)),(86,.v (.int .i64 (v1.length:Int))),(87,.v (.int .i64 c29)),(94,.v (.int .i64 (v1.length:Int))),(95,.v (.int .i64 (wr .i64 (c32 + 1))))] [] ?_;exact As (s1:=⟨Fr 140 [(5,.sl 9 (v1.map AG.enc)),(6,.sl 1 (r10.map (cdL 5 AA).enc)),(9,.sl 1 (v11.1.map cdI.enc)),(14,.v (.int .i64 c29)),(15,.v (.bool j44)),(86,.v (.int .i64 (v1.length:Int))),(87,.v (.int .i64 c29)),(94,.v (.int .i64 (v1.length:Int))),(95,.v (.int .i64 (wr .i64 (c32 + 1))))],[]⟩) AN (ih j44 (wr .i64 (c32 + 1)) h)
  ·rw [CL hb33] at h
   refine CO ?_;have hq:=OI h; subst hq;exact ⟨rfl,AN⟩
theorem GN (v1:(List Am)) (r10:(List (List AE))) (v11:(List Int)×Int×Int):∀ (f:Nat) (c29:Int) (r:(Unit) ⊕ (Bool)),BX v1 r10 v11 f c29=some r->SemN E0 ⟨none,false⟩ (pc CT [1,1,1,1,1,1,1,0,1,0,0]) f ⟨Fr 140 [(5,.sl 9 (v1.map AG.enc)),(6,.sl 1 (r10.map (cdL 5 AA).enc)),(9,.sl 1 (v11.1.map cdI.enc)),(86,.v (.int .i64 (v1.length:Int))),(87,.v (.int .i64 c29))],[]⟩ (fun e s=>match r with
 | (.inl _w)=>e=(.exit 4)/\Wk E0 s ⟨Fr 140 [],[]⟩
 | (.inr w)=>e = .ret/\Wk E0 s ⟨Fr 140 [(4,.v (.bool w))],[]⟩):=by
 intro f;induction f with
 | zero=>intro c29 r h; cases h
 | succ f ih0 =>
  intro c29 r h
  have ih:=fun (c29:Int)=>ih0 c29 r
  unfold BX at h;refine Bw ?_;refine AJ AC [(5,.sl 9 (v1.map AG.enc)),(6,.sl 1 (r10.map (cdL 5 AA).enc)),(9,.sl 1 (v11.1.map cdI.enc)),(86,.v (.int .i64 (v1.length:Int))),(87,.v (.int .i64 c29)),(88,.v (.bool (decide (c29 < (v1.length:Int)))))] [] ?_;refine AH ?_;refine AM (b:=(decide (c29 < (v1.length:Int)))) kr (fun hb30=>?_) (fun hb30=>?_)
  ·rw [if_pos hb30] at h
   refine AQ ?_;refine AH ?_;refine Af ?_;refine AJ AC [(5,.sl 9 (v1.map AG.enc)),(6,.sl 1 (r10.map (cdL 5 AA).enc)),(9,.sl 1 (v11.1.map cdI.enc)),(14,.v (.int .i64 c29)),(86,.v (.int .i64 (v1.length:Int))),(87,.v (.int .i64 c29))] [] ?_;refine AH ?_;refine AI (s1:=⟨Fr 140 [(5,.sl 9 (v1.map AG.enc)),(6,.sl 1 (r10.map (cdL 5 AA).enc)),(9,.sl 1 (v11.1.map cdI.enc)),(14,.v (.int .i64 c29)),(15,.v (.bool (decide ((v1.length:Int) > 1)))),(86,.v (.int .i64 (v1.length:Int))),(87,.v (.int .i64 c29))],[]⟩) ?_ ?_
   ·refine AD (n:=140) AC 1 [(5,.sl 9 (v1.map AG.enc)),(6,.sl 1 (r10.map (cdL 5 AA).enc)),(9,.sl 1 (v11.1.map cdI.enc)),(14,.v (.int .i64 c29)),(86,.v (.int .i64 (v1.length:Int))),(87,.v (.int .i64 c29)),(90,.sl 9 (v1.map AG.enc))] [] kr ?_
    refine AK AC 0 rfl (Ci (AB rfl) rfl (DY (a:= .sl 9 (v1.map AG.enc)) kr (CB (el:=42) kr))) ?_;exact AO AC
   refine AH ?_;refine AH ?_;refine AI (s1:=⟨Fr 140 [(5,.sl 9 (v1.map AG.enc)),(6,.sl 1 (r10.map (cdL 5 AA).enc)),(9,.sl 1 (v11.1.map cdI.enc)),(14,.v (.int .i64 c29)),(15,.v (.bool (decide ((v1.length:Int) > 1)))),(86,.v (.int .i64 (v1.length:Int))),(87,.v (.int .i64 c29)),(94,.v (.int .i64 (v1.length:Int))),(95,.v (.int .i64 0))],[]⟩) ?_ ?_
   ·refine AD (n:=140) AC 1 [(5,.sl 9 (v1.map AG.enc)),(6,.sl 1 (r10.map (cdL 5 AA).enc)),(9,.sl 1 (v11.1.map cdI.enc)),(14,.v (.int .i64 c29)),(15,.v (.bool (decide ((v1.length:Int) > 1)))),(86,.v (.int .i64 (v1.length:Int))),(87,.v (.int .i64 c29)),(93,.sl 9 (v1.map AG.enc))] [] kr ?_
    refine AK AC 0 rfl (Ci (AB rfl) rfl (DY (a:= .sl 9 (v1.map AG.enc)) kr (CB (el:=42) kr))) ?_;exact AO AC
   refine Af ?_;obtain ⟨r48,hr48,h⟩:=OB h;refine CV (n:=100000) ?_;refine BK (As (s1:=⟨Fr 140 [(5,.sl 9 (v1.map AG.enc)),(6,.sl 1 (r10.map (cdL 5 AA).enc)),(9,.sl 1 (v11.1.map cdI.enc)),(14,.v (.int .i64 c29)),(15,.v (.bool (decide ((v1.length:Int) > 1)))),(86,.v (.int .i64 (v1.length:Int))),(87,.v (.int .i64 c29)),(94,.v (.int .i64 (v1.length:Int))),(95,.v (.int .i64 0))],[]⟩) AN (JC v1 r10 v11 c29 _ (decide ((v1.length:Int) > 1)) 0 _ hr48)) ?_;refine AH ?_;obtain ⟨j51,hj51,h⟩:=OB h;refine AI (s1:=⟨Fr 140 [(5,.sl 9 (v1.map AG.enc)),(6,.sl 1 (r10.map (cdL 5 AA).enc)),(9,.sl 1 (v11.1.map cdI.enc)),(86,.v (.int .i64 (v1.length:Int))),(87,.v (.int .i64 c29)),(137,.v (.bool j51))],[]⟩) ?_ ?_
   ·refine AD (n:=140) AC 2 [(5,.sl 9 (v1.map AG.enc)),(6,.sl 1 (r10.map (cdL 5 AA).enc)),(9,.sl 1 (v11.1.map cdI.enc)),(14,.v (.int .i64 c29)),(86,.v (.int .i64 (v1.length:Int))),(87,.v (.int .i64 c29)),(131,.v (.bool r48))] [] kr ?_
    rcases BE r48 with hc54 | hc54
    ·rw [if_pos hc54] at hj51
     rw [hc54];refine AD (n:=140) AC 1 [(5,.sl 9 (v1.map AG.enc)),(6,.sl 1 (r10.map (cdL 5 AA).enc)),(9,.sl 1 (v11.1.map cdI.enc)),(14,.v (.int .i64 c29)),(86,.v (.int .i64 (v1.length:Int))),(87,.v (.int .i64 c29)),(131,.v (.bool true)),(132,.sl 1 (v11.1.map cdI.enc))] [] kr ?_;obtain ⟨v49,hv49,hj51⟩:=OB hj51;refine AK AC 0 rfl (Ci kr rfl (AS (a:= .sl 1 (v11.1.map cdI.enc)) (b:= .v (.int .i64 0)) kr kr (FM (e:=cdI.enc) (el:=3) (k:=1) (ki:= .i64) kr kr hv49))) ?_;refine AD (n:=140) AC 4 [(5,.sl 9 (v1.map AG.enc)),(6,.sl 1 (r10.map (cdL 5 AA).enc)),(9,.sl 1 (v11.1.map cdI.enc)),(86,.v (.int .i64 (v1.length:Int))),(87,.v (.int .i64 c29)),(132,.sl 1 (v11.1.map cdI.enc)),(133,.pe (.v (.int .i64 v49)) 0),(134,.v (.int .i64 v49)),(135,.v (.int .i64 c29)),(136,.v (.bool (v49 != c29))),(137,.v (.bool (v49 != c29)))] [] kr ?_;have hq:=OI hj51; subst hq;exact AL rfl AN
    ·rw [CL hc54] at hj51
     rw [hc54];refine AD (n:=140) AC 6 [(5,.sl 9 (v1.map AG.enc)),(6,.sl 1 (r10.map (cdL 5 AA).enc)),(9,.sl 1 (v11.1.map cdI.enc)),(86,.v (.int .i64 (v1.length:Int))),(87,.v (.int .i64 c29)),(132,.tp []),(133,.tp []),(134,.tp []),(135,.tp []),(136,.tp []),(137,.v (.bool false))] [] kr ?_;have hq:=OI hj51; subst hq;exact AL rfl AN
   refine AM (b:=j51) kr (fun hb52=>?_) (fun hb52=>?_)
   ·rw [if_pos hb52] at h
    refine AJ AC [(4,.v (.bool false))] [] ?_;refine AU ?_;have hq:=OI h; subst hq;exact ⟨rfl,AN⟩
   ·rw [CL hb52] at h
    refine AQ ?_;refine Cy AC [(5,.sl 9 (v1.map AG.enc)),(6,.sl 1 (r10.map (cdL 5 AA).enc)),(9,.sl 1 (v11.1.map cdI.enc)),(86,.v (.int .i64 (v1.length:Int))),(87,.v (.int .i64 (wr .i64 (c29 + 1))))] [] ?_;exact As (s1:=⟨Fr 140 [(5,.sl 9 (v1.map AG.enc)),(6,.sl 1 (r10.map (cdL 5 AA).enc)),(9,.sl 1 (v11.1.map cdI.enc)),(86,.v (.int .i64 (v1.length:Int))),(87,.v (.int .i64 (wr .i64 (c29 + 1))))],[]⟩) AN (ih (wr .i64 (c29 + 1)) h)
  ·rw [CL hb30] at h
   refine CO ?_;have hq:=OI h; subst hq;exact ⟨rfl,AN⟩
theorem J0 (x0:(List (List (Int×Int×Int×Bool×Bool)))) (x1:(List (Int×Int))) (r:Bool) (h:DA x0 x1=some r):Sem E0 ⟨none,false⟩ CT ⟨Fr 140 (BP 0 (DU.enc (x0,x1,()))),[]⟩ fun e s'=>(e = .normal\/e = .ret)/\∃ xs,Em E0.P s'.fr s'.hp Tryz.f14.results.toList=some xs/\Ev xs=EE r:=by
 unfold DA at h;refine A8 (Bv (s1:=⟨Fr 140 [(0,.sl 1 (x0.map (cdL 5 (cdA (csC (cdK .u8) (csC (cdK .u8) (csC (cdK .u8) (csC cdB (csE cdB))))) (fun _=>rfl))).enc)),(1,.sl 2 (x1.map (Fl (cdK .u8) (cdK .u8) (fun _=>rfl) (fun _=>rfl)).enc))],[]⟩) AN ?_);refine AJ AC [(0,.sl 1 (x0.map (cdL 5 (cdA (csC (cdK .u8) (csC (cdK .u8) (csC (cdK .u8) (csC cdB (csE cdB))))) (fun _=>rfl))).enc)),(1,.sl 2 (x1.map (Fl (cdK .u8) (cdK .u8) (fun _=>rfl) (fun _=>rfl)).enc))] [] ?_;refine AH ?_;obtain ⟨v1,hv1,h⟩:=OB h;refine AI (s1:=⟨Fr 140 [(0,.sl 1 (x0.map (cdL 5 (cdA (csC (cdK .u8) (csC (cdK .u8) (csC (cdK .u8) (csC cdB (csE cdB))))) (fun _=>rfl))).enc)),(5,.sl 9 (v1.map AG.enc))],[]⟩) ?_ ?_
 ·refine AD (n:=140) AC 1 [(0,.sl 1 (x0.map (cdL 5 (cdA (csC (cdK .u8) (csC (cdK .u8) (csC (cdK .u8) (csC cdB (csE cdB))))) (fun _=>rfl))).enc)),(20,.sl 2 (x1.map (Fl (cdK .u8) (cdK .u8) (fun _=>rfl) (fun _=>rfl)).enc))] [] kr ?_
  refine Ac (caps:=[]) (xs:=[.sl 2 (x1.map (Fl (cdK .u8) (cdK .u8) (fun _=>rfl) (fun _=>rfl)).enc),.v (.int .i64 7)]) (u:=(x1,7,())) rfl rfl ON rfl (AB rfl) kr kr (AP (Ab (c:=(cdL 2 (Fl (cdK .u8) (cdK .u8) (fun _=>rfl) (fun _=>rfl)))) (v:=x1)) (AP (Ab (c:=cdI) (v:=7)) BJ)) (.inr kr) hv1 ?_;exact AO AC
 refine AJ AC [(0,.sl 1 (x0.map (cdL 5 (cdA (csC (cdK .u8) (csC (cdK .u8) (csC (cdK .u8) (csC cdB (csE cdB))))) (fun _=>rfl))).enc)),(5,.sl 9 (v1.map AG.enc)),(6,.e0)] [] ?_;refine AH ?_;refine AH ?_;by_cases hk2:(DN 0 (mnI (x0.length:Int) 5) x0.length)=true
 case neg=>rw [if_neg hk2] at h; cases h
 rw [if_pos hk2] at h;refine AI (s1:=⟨Fr 140 [(5,.sl 9 (v1.map AG.enc)),(6,.e0),(26,.sl 1 (((x0.take (mnI (x0.length:Int) 5).toNat).drop (0:Int).toNat).map (cdL 5 (cdA (csC (cdK .u8) (csC (cdK .u8) (csC (cdK .u8) (csC cdB (csE cdB))))) (fun _=>rfl))).enc)),(27,.v (.int .i64 (((x0.take (mnI (x0.length:Int) 5).toNat).drop (0:Int).toNat).length:Int))),(28,.v (.int .i64 0))],[]⟩) ?_ ?_
 ·refine AD (n:=140) AC 2 [(5,.sl 9 (v1.map AG.enc)),(6,.e0),(22,.sl 1 (x0.map (cdL 5 (cdA (csC (cdK .u8) (csC (cdK .u8) (csC (cdK .u8) (csC cdB (csE cdB))))) (fun _=>rfl))).enc)),(23,.sl 1 (x0.map (cdL 5 (cdA (csC (cdK .u8) (csC (cdK .u8) (csC (cdK .u8) (csC cdB (csE cdB))))) (fun _=>rfl))).enc))] [] kr ?_
  refine AK AC 0 rfl (Ci (AB rfl) rfl (DY (a:= .sl 1 (x0.map (cdL 5 (cdA (csC (cdK .u8) (csC (cdK .u8) (csC (cdK .u8) (csC cdB (csE cdB))))) (fun _=>rfl))).enc)) kr (CB (el:=28) kr))) ?_;refine AD (n:=140) AC 1 [(5,.sl 9 (v1.map AG.enc)),(6,.e0),(22,.sl 1 (x0.map (cdL 5 (cdA (csC (cdK .u8) (csC (cdK .u8) (csC (cdK .u8) (csC cdB (csE cdB))))) (fun _=>rfl))).enc)),(25,.v (.int .i64 (mnI (x0.length:Int) 5)))] [] kr ?_;refine AK AC 0 rfl (Ci (AB rfl) rfl (Ei (a:= .sl 1 (x0.map (cdL 5 (cdA (csC (cdK .u8) (csC (cdK .u8) (csC (cdK .u8) (csC cdB (csE cdB))))) (fun _=>rfl))).enc)) (l:=none) (u:=(some (.v (.int .i64 (mnI (x0.length:Int) 5))))) (m:=none) kr kr kr rfl (KO (xs:=x0) (e:=(cdL 5 (cdA (csC (cdK .u8) (csC (cdK .u8) (csC (cdK .u8) (csC cdB (csE cdB))))) (fun _=>rfl))).enc) (k:=1) (el:=28) (lo:=0) (hi:=(mnI (x0.length:Int) 5)) kr kr rfl (Gd (Jw hk2)) hk2))) ?_;refine AK AC 0 rfl (Ci (AB rfl) rfl (DY (a:= .sl 1 (((x0.take (mnI (x0.length:Int) 5).toNat).drop (0:Int).toNat).map (cdL 5 (cdA (csC (cdK .u8) (csC (cdK .u8) (csC (cdK .u8) (csC cdB (csE cdB))))) (fun _=>rfl))).enc)) kr (CB (el:=28) kr))) ?_;exact AO AC
 refine Af ?_;obtain ⟨r10,hr10,h⟩:=OB h;refine CV (n:=100000) ?_;refine BK (As (s1:=⟨Fr 140 [(5,.sl 9 (v1.map AG.enc)),(6,hd 0 ([].map (cdL 5 AA).enc)),(26,.sl 1 (((x0.take (mnI (x0.length:Int) 5).toNat).drop (0:Int).toNat).map (cdL 5 (cdA (csC (cdK .u8) (csC (cdK .u8) (csC (cdK .u8) (csC cdB (csE cdB))))) (fun _=>rfl))).enc)),(27,.v (.int .i64 (((x0.take (mnI (x0.length:Int) 5).toNat).drop (0:Int).toNat).length:Int))),(28,.v (.int .i64 0))],[mk 1 22 ([].map (cdL 5 AA).enc)]⟩) (Wk.trans (s1:=⟨Fr 140 [(5,.sl 9 (v1.map AG.enc)),(6,hd 0 ([].map (cdL 5 AA).enc)),(26,.sl 1 (((x0.take (mnI (x0.length:Int) 5).toNat).drop (0:Int).toNat).map (cdL 5 (cdA (csC (cdK .u8) (csC (cdK .u8) (csC (cdK .u8) (csC cdB (csE cdB))))) (fun _=>rfl))).enc)),(27,.v (.int .i64 (((x0.take (mnI (x0.length:Int) 5).toNat).drop (0:Int).toNat).length:Int))),(28,.v (.int .i64 0))],[mk 1 22 ([].map (cdL 5 AA).enc)]⟩) Wk.none (AY [0] ⟨⟨_,rfl,LU⟩,trivial⟩ ⟨lv,lv,lv,lv,lv,trivial⟩)) (JB x0 v1 _ [] 0 _ hr10)) ?_;refine AH ?_;obtain ⟨v11,hv11,h⟩:=OB h;refine AI (s1:=⟨Fr 140 [(5,.sl 9 (v1.map AG.enc)),(6,.sl 1 (r10.map (cdL 5 AA).enc)),(9,.sl 1 (v11.1.map cdI.enc)),(10,.v (.int .i64 v11.2.1)),(11,.v (.int .i64 v11.2.2))],[]⟩) ?_ ?_
 ·refine AD (n:=140) AC 2 [(5,.sl 9 (v1.map AG.enc)),(6,hd 0 (r10.map (cdL 5 AA).enc)),(39,hd 0 (r10.map (cdL 5 AA).enc)),(40,.sl 9 (v1.map AG.enc))] [mk 1 22 (r10.map (cdL 5 AA).enc)] kr ?_
  refine Mv (s1:=⟨Fr 140 [(5,.sl 9 (v1.map AG.enc)),(6,.sl 1 (r10.map (cdL 5 AA).enc)),(39,.sl 1 (r10.map (cdL 5 AA).enc)),(40,.sl 9 (v1.map AG.enc))],[none]⟩) (Fs 0 (.inl kr) ⟨.inl rfl,trivial⟩ ⟨⟨.sl 9 (v1.map AG.enc),kr,.inl rfl⟩,⟨hd 0 (r10.map (cdL 5 AA).enc),kr,MV (t:=22) kr II⟩,⟨hd 0 (r10.map (cdL 5 AA).enc),kr,MV (t:=22) kr II⟩,⟨.sl 9 (v1.map AG.enc),kr,.inl rfl⟩,trivial⟩) ?_;refine Ac (caps:=[]) (xs:=[.sl 1 (r10.map (cdL 5 AA).enc),.sl 9 (v1.map AG.enc)]) (u:=(r10,v1,())) rfl rfl LQ rfl (AB rfl) kr kr (AP (Ab (c:=(cdL 1 (cdL 5 AA))) (v:=r10)) (AP (Ab (c:=(cdL 9 AG)) (v:=v1)) BJ)) (.inr kr) hv11 ?_;refine AD (n:=140) AC 7 [(5,.sl 9 (v1.map AG.enc)),(6,.sl 1 (r10.map (cdL 5 AA).enc)),(9,.sl 1 (v11.1.map cdI.enc)),(10,.v (.int .i64 v11.2.1)),(11,.v (.int .i64 v11.2.2))] [none] kr ?_;exact AL rfl (AY [] trivial ⟨lv,lv,lv,lv,lv,trivial⟩)
 refine AH ?_;refine AH ?_;obtain ⟨j14,hj14,h⟩:=OB h;refine AI (s1:=⟨Fr 140 [(5,.sl 9 (v1.map AG.enc)),(6,.sl 1 (r10.map (cdL 5 AA).enc)),(9,.sl 1 (v11.1.map cdI.enc)),(61,.v (.bool j14))],[]⟩) ?_ ?_
 ·refine AD (n:=140) AC 3 [(5,.sl 9 (v1.map AG.enc)),(6,.sl 1 (r10.map (cdL 5 AA).enc)),(9,.sl 1 (v11.1.map cdI.enc)),(10,.v (.int .i64 v11.2.1)),(47,.v (.bool (v11.2.2 != 0)))] [] kr ?_
  rcases BE (v11.2.2 != 0) with hc60 | hc60
  ·rw [if_pos hc60] at hj14
   rw [hc60];refine AD (n:=140) AC 14 [(5,.sl 9 (v1.map AG.enc)),(6,.sl 1 (r10.map (cdL 5 AA).enc)),(9,.sl 1 (v11.1.map cdI.enc)),(61,.v (.bool true))] [] kr ?_;have hq:=OI hj14; subst hq;exact AL rfl AN
  ·rw [CL hc60] at hj14
   rw [hc60];refine AD (n:=140) AC 1 [(5,.sl 9 (v1.map AG.enc)),(6,.sl 1 (r10.map (cdL 5 AA).enc)),(9,.sl 1 (v11.1.map cdI.enc)),(10,.v (.int .i64 v11.2.1)),(47,.v (.bool false)),(48,.sl 1 (v11.1.map cdI.enc))] [] kr ?_;refine AK AC 0 rfl (Ci kr rfl (DY (a:= .sl 1 (v11.1.map cdI.enc)) kr (CB (el:=3) kr))) ?_;refine AD (n:=140) AC 1 [(5,.sl 9 (v1.map AG.enc)),(6,.sl 1 (r10.map (cdL 5 AA).enc)),(9,.sl 1 (v11.1.map cdI.enc)),(10,.v (.int .i64 v11.2.1)),(47,.v (.bool false)),(49,.v (.int .i64 (v11.1.length:Int))),(50,.sl 9 (v1.map AG.enc))] [] kr ?_;refine AK AC 0 rfl (Ci kr rfl (DY (a:= .sl 9 (v1.map AG.enc)) kr (CB (el:=42) kr))) ?_;refine AD (n:=140) AC 3 [(5,.sl 9 (v1.map AG.enc)),(6,.sl 1 (r10.map (cdL 5 AA).enc)),(9,.sl 1 (v11.1.map cdI.enc)),(10,.v (.int .i64 v11.2.1)),(54,.v (.bool ((v11.1.length:Int)!=(v1.length:Int))))] [] kr ?_;rcases BE ((v11.1.length:Int)!=(v1.length:Int)) with hc61 | hc61
   ·rw [if_pos hc61] at hj14
    rw [hc61];refine AD (n:=140) AC 7 [(5,.sl 9 (v1.map AG.enc)),(6,.sl 1 (r10.map (cdL 5 AA).enc)),(9,.sl 1 (v11.1.map cdI.enc)),(61,.v (.bool true))] [] kr ?_;have hq:=OI hj14; subst hq;exact AL rfl AN
   ·rw [CL hc61] at hj14
    rw [hc61];refine AD (n:=140) AC 4 [(5,.sl 9 (v1.map AG.enc)),(6,.sl 1 (r10.map (cdL 5 AA).enc)),(9,.sl 1 (v11.1.map cdI.enc)),(54,.v (.bool false)),(55,.v (.int .i64 v11.2.1)),(56,.sl 1 (r10.map (cdL 5 AA).enc)),(57,.sl 9 (v1.map AG.enc)),(58,.sl 1 (v11.1.map cdI.enc))] [] kr ?_;obtain ⟨v12,hv12,hj14⟩:=OB hj14;refine Ac (caps:=[]) (xs:=[.sl 1 (r10.map (cdL 5 AA).enc),.sl 9 (v1.map AG.enc),.sl 1 (v11.1.map cdI.enc)]) (u:=(r10,v1,v11.1,())) rfl rfl KD rfl kr kr kr (AP (Ab (c:=(cdL 1 (cdL 5 AA))) (v:=r10)) (AP (Ab (c:=(cdL 9 AG)) (v:=v1)) (AP (Ab (c:=(cdL 1 cdI)) (v:=v11.1)) BJ))) (.inl kr) hv12 ?_;refine AD (n:=140) AC 2 [(5,.sl 9 (v1.map AG.enc)),(6,.sl 1 (r10.map (cdL 5 AA).enc)),(9,.sl 1 (v11.1.map cdI.enc)),(61,.v (.bool (v11.2.1 != v12)))] [] kr ?_;have hq:=OI hj14; subst hq;exact AL rfl AN
 refine AM (b:=j14) kr (fun hb15=>?_) (fun hb15=>?_)
 ·rw [if_pos hb15] at h
  refine AJ AC [(4,.v (.bool false))] [] ?_;refine AU ?_;have hq:=OI h; subst hq;exact ⟨⟨Fr 140 [(4,.v (.bool false))],[]⟩,AN,.inr rfl,[.v (.bool false)],kr,kr⟩
 ·rw [CL hb15] at h
  refine AQ ?_;refine AH ?_;refine AH ?_;obtain ⟨v16,hv16,h⟩:=OB h;refine AI (s1:=⟨Fr 140 [(5,.sl 9 (v1.map AG.enc)),(6,.sl 1 (r10.map (cdL 5 AA).enc)),(9,.sl 1 (v11.1.map cdI.enc)),(64,.sl 2 (v16.map (Fl cdI cdI (fun _=>rfl) (fun _=>rfl)).enc)),(65,.v (.int .i64 (v16.length:Int))),(66,.v (.int .i64 0))],[]⟩) ?_ ?_
  ·refine AD (n:=140) AC 2 [(5,.sl 9 (v1.map AG.enc)),(6,.sl 1 (r10.map (cdL 5 AA).enc)),(9,.sl 1 (v11.1.map cdI.enc)),(62,.sl 1 (r10.map (cdL 5 AA).enc)),(63,.sl 9 (v1.map AG.enc))] [] kr ?_
   refine Ac (caps:=[]) (xs:=[.sl 1 (r10.map (cdL 5 AA).enc),.sl 9 (v1.map AG.enc)]) (u:=(r10,v1,())) rfl rfl PY rfl (AB rfl) kr kr (AP (Ab (c:=(cdL 1 (cdL 5 AA))) (v:=r10)) (AP (Ab (c:=(cdL 9 AG)) (v:=v1)) BJ)) (.inr kr) hv16 ?_;refine AK AC 0 rfl (Ci (AB rfl) rfl (DY (a:= .sl 2 (v16.map (Fl cdI cdI (fun _=>rfl) (fun _=>rfl)).enc)) kr (CB (el:=90) kr))) ?_;exact AO AC
  refine Af ?_;obtain ⟨r27,hr27,h⟩:=OB h;refine CV (n:=100000) ?_;rcases r27 with w28 | w59
  ·try dsimp only at h
   refine BK (As (s1:=⟨Fr 140 [(5,.sl 9 (v1.map AG.enc)),(6,.sl 1 (r10.map (cdL 5 AA).enc)),(9,.sl 1 (v11.1.map cdI.enc)),(64,.sl 2 (v16.map (Fl cdI cdI (fun _=>rfl) (fun _=>rfl)).enc)),(65,.v (.int .i64 (v16.length:Int))),(66,.v (.int .i64 0))],[]⟩) AN (GM v1 r10 v11 v16 _ 0 _ hr27)) ?_;refine AH ?_;refine AH ?_;refine AI (s1:=⟨Fr 140 [(5,.sl 9 (v1.map AG.enc)),(6,.sl 1 (r10.map (cdL 5 AA).enc)),(9,.sl 1 (v11.1.map cdI.enc)),(86,.v (.int .i64 (v1.length:Int))),(87,.v (.int .i64 0))],[]⟩) ?_ ?_
   ·refine AD (n:=140) AC 1 [(5,.sl 9 (v1.map AG.enc)),(6,.sl 1 (r10.map (cdL 5 AA).enc)),(9,.sl 1 (v11.1.map cdI.enc)),(85,.sl 9 (v1.map AG.enc))] [] kr ?_
    refine AK AC 0 rfl (Ci (AB rfl) rfl (DY (a:= .sl 9 (v1.map AG.enc)) kr (CB (el:=42) kr))) ?_;exact AO AC
   refine Af ?_;obtain ⟨r55,hr55,h⟩:=OB h;refine CV (n:=100000) ?_;rcases r55 with w56 | w58
   ·try dsimp only at h
    refine BK (As (s1:=⟨Fr 140 [(5,.sl 9 (v1.map AG.enc)),(6,.sl 1 (r10.map (cdL 5 AA).enc)),(9,.sl 1 (v11.1.map cdI.enc)),(86,.v (.int .i64 (v1.length:Int))),(87,.v (.int .i64 0))],[]⟩) AN (GN v1 r10 v11 _ 0 _ hr55)) ?_;refine AH ?_;obtain ⟨v57,hv57,h⟩:=OB h;refine AI (s1:=⟨Fr 140 [(4,.v (.bool v57))],[]⟩) ?_ ?_
    ·refine Ac (caps:=[]) (xs:=[]) (u:=(())) rfl rfl Pb rfl (AB rfl) kr kr BJ (.inl kr) hv57 ?_
     exact AO AC
    refine AU ?_;have hq:=OI h; subst hq;exact ⟨⟨Fr 140 [(4,.v (.bool v57))],[]⟩,AN,.inr rfl,[.v (.bool v57)],kr,kr⟩
   ·try dsimp only at h
    refine BK (As (s1:=⟨Fr 140 [(5,.sl 9 (v1.map AG.enc)),(6,.sl 1 (r10.map (cdL 5 AA).enc)),(9,.sl 1 (v11.1.map cdI.enc)),(86,.v (.int .i64 (v1.length:Int))),(87,.v (.int .i64 0))],[]⟩) AN (GN v1 r10 v11 _ 0 _ hr55)) ?_;have hq:=OI h; subst hq;exact ⟨⟨Fr 140 [(4,.v (.bool w58))],[]⟩,AN,.inr rfl,[.v (.bool w58)],kr,kr⟩
  ·try dsimp only at h
   refine BK (As (s1:=⟨Fr 140 [(5,.sl 9 (v1.map AG.enc)),(6,.sl 1 (r10.map (cdL 5 AA).enc)),(9,.sl 1 (v11.1.map cdI.enc)),(64,.sl 2 (v16.map (Fl cdI cdI (fun _=>rfl) (fun _=>rfl)).enc)),(65,.v (.int .i64 (v16.length:Int))),(66,.v (.int .i64 0))],[]⟩) AN (GM v1 r10 v11 v16 _ 0 _ hr27)) ?_;have hq:=OI h; subst hq;exact ⟨⟨Fr 140 [(4,.v (.bool w59))],[]⟩,AN,.inr rfl,[.v (.bool w59)],kr,kr⟩
def Kw:List AV->Option AV:=D4 DU (fun a=>DA a.1 a.2.1) EE
theorem Kz:XOk 14 Kw:=by
 refine AW Tryz.func14 (c:=CT) ?h2 ⟨Tryz.call14⟩ DU (fun a=>DA a.1 a.2.1) EE (fun a=>(by show 2<=140; decide)) ?h3 ?h4
 case h2=>kernel_rfl
 case h3=>intro b; kernel_rfl
 case h4=>exact fun a b h=>J0 a.1 a.2.1 b h
theorem Q6 {n:Int}(h1 : -9223372036854775808<=n) (h2:n<=9223372036854775807):wr .i64 n=n:=by
 show (if _ then n else _)=n
 rw [if_pos ⟨h1,h2⟩]
theorem FJ {α:Type}(pre:List α) (v:α) (r:List α):idx (pre++v::r) (pre.length:Int)=some v:=by
 unfold idx
 rw [if_pos (by omega)]
 simp
theorem H3 {α:Type}{xs:List α}{i:Nat}(h:i < xs.length):idx xs (i:Int)=some xs[i]:=by
 unfold idx
 rw [if_pos (by omega)]
 simp [h]
theorem Fe {α:Type}(pre:List α) (v:α) (r:List α) (h:(pre++v::r).length<=1000000000):wr .i64 ((pre.length:Int) + 1)=((pre++[v]).length:Int):=by
 simp at h
 rw [Q6 (by omega) (by omega)]; simp
theorem Hc {α:Type}(pre:List α) (v:α) (r:List α):decide ((pre.length:Int) < ((pre++v::r).length:Int))=true:=by
 simp; omega
theorem It {b n:Nat}(hb:b<=1000) (h:n<=1000000000):Gg b n=true:=by
 have h1:n * b<=1000000000 * 1000:=Nat.mul_le_mul h hb
 unfold Gg
 rw [Bool.and_eq_true]
 exact ⟨Nat.ble_eq_true_of_le (by omega),Nat.ble_eq_true_of_le (by omega)⟩
/-- A loop over a list: v, its index, the rest. -/
def goU {α ρ:Type}(B:α->Nat->Option ρ->Option ρ) (D:Option ρ):List α->Nat->Option ρ
 | [],_=>D
 | v::r,i=>B v i (goU B D r (i + 1))
theorem Xh {α ρ:Type}(xs:List α) (L:Nat->Int->Option ρ) (B:α->Nat->Option ρ->Option ρ) (D:Option ρ)
  (hs:∀ f (pre:List α) v r,xs=pre++v::r->L (f + 1) (pre.length:Int)=B v pre.length (L f (((pre++[v]).length:Nat):Int))) (hd:∀ f,L (f + 1) (xs.length:Int)=D) :
  ∀ (r pre:List α) (f:Nat),xs=pre++r->r.length < f->L f (pre.length:Int)=goU B D r pre.length
 | [],pre,f + 1,hx,_=>by
  rw [show pre.length=xs.length by rw [hx]; simp]
  exact hd f
 | v::r,pre,f + 1,hx,hf=>by
  rw [hs f pre v r hx]
  have:=Xh xs L B D hs hd r (pre++[v]) f (by rw [hx]; simp) (by simp at hf; omega)
  rw [this]
  show B v pre.length _=B v pre.length _
  congr 1
  simp
theorem OX {α ρ:Type}(xs:List α) (L:Nat->Int->Option ρ) (B:α->Nat->Option ρ->Option ρ) (D:Option ρ) (f:Nat) (hf:xs.length < f)
  (hs:∀ f (pre:List α) v r,xs=pre++v::r->L (f + 1) (pre.length:Int)=B v pre.length (L f (((pre++[v]).length:Nat):Int))) (hd:∀ f,L (f + 1) (xs.length:Int)=D):L f 0=goU B D xs 0 :=
 Xh xs L B D hs hd xs [] f rfl hf
/-- The first that meets a test. -/
theorem Su {α:Type}(P:α->Option Bool) (p:α->Bool):∀ (xs:List α) (i:Nat),(∀ x ∈ xs,P x=some (p x))->∃ r:Unit ⊕ Int,goU (fun v i k=>(P v).bind fun b=>if b=true then some (.inr (i:Int)) else k) (some (.inl ())) xs i=some r/\(match r with | .inl _=>xs.any p=false | .inr n=>xs.any p=true/\0<=n)
 | [],i,_=>⟨.inl (),rfl,rfl⟩
 | x::xs,i,h=>by
  unfold goU
  rw [h x (by simp),OS]
  cases hp:p x with
  | true=>exact ⟨.inr i,by simp,by simp [hp]⟩
  | false =>
   obtain ⟨r,h1,h2⟩:=Su P p xs (i + 1) fun y hy=>h y (List.mem_cons_of_mem _ hy)
   refine ⟨r,by simpa using h1,?_⟩
   cases r with
   | inl u=>simpa [hp] using h2
   | inr n=>simpa [hp] using h2
/-- slices.IndexFunc and slices.ContainsFunc. -/
theorem RB {α:Type}(xs:List α) (hx:xs.length<=99999) (P:α->Option Bool) (p:α->Bool) (hP:∀ x ∈ xs,P x=some (p x)) (L:Nat->Int->Option (Unit ⊕ Int))
  (h:∀ f c,L (f + 1) c=if decide (c < (xs.length:Int))=true then (idx xs c).bind fun v=>(P v).bind fun b=>if b=true then some (.inr c) else L f (wr .i64 (c + 1)) else some (.inl ())) :
  ∃ n,((L 100000 0).bind fun r=>match r with | .inl _=>some (-1) | .inr w=>some w)=some n/\decide (n≥0)=xs.any p:=by
 have e:=OX xs L (fun v i k=>(P v).bind fun b=>if b=true then some (.inr (i:Int)) else k) (some (.inl ())) 100000 (by omega) (fun f pre v r e=>by
  subst e
  rw [h,if_pos (Hc pre v r),FJ,OS,Fe pre v r (by omega)]) (fun f=>by rw [h,if_neg (by simp)])
 obtain ⟨r,h1,h2⟩:=Su P p xs 0 hP
 rw [e,h1]
 cases r with
 | inl u=>exact ⟨-1,rfl,by rw [h2]; rfl⟩
 | inr n=>exact ⟨n,rfl,by rw [h2.1]; simpa using h2.2⟩
/- slices.Equal[[]string,string] -/
/- trestle/trestlelaw03.SameClause -/
/- slices.EqualFunc[[]trestle/api.Clause,[]trestle/api.Clause,trestle/api.Clause,trestle/api.Clause] -/
/- trestle/trestlelaw03.Same -/
/- trestle/trestlelaw03.Copy -/
/- trestle/trestlelaw03.Few$1$1 -/
/- slices.IndexFunc[[]string,string] -/
/- slices.ContainsFunc[[]string,string] -/
/- trestle/trestlelaw03.Few$1 -/
/- slices.IndexFunc[[]trestle/api.Clause,trestle/api.Clause] -/
/- slices.ContainsFunc[[]trestle/api.Clause,trestle/api.Clause] -/
/- trestle/trestlelaw03.Few -/
/- trestle/trestleref03.between -/
def BO (x0:Int) (x1:Int) (x2:Int):Option (Bool) :=
 (if (decide (x1<=x0))=true then some (decide (x0<=x2)) else some false).bind fun j2 =>
 some j2
/- trestle/trestleref03.formed -/
def EO (x0:AE):Option ((Bool)) :=
 if (x0.1==8)=true then
 some (x0.1==8)
 else
 some (x0.1==9)
def EN (x0:AE):Option ((Bool)) :=
 if (x0.1==3)=true then
 some (x0.1==3)
 else
 (EO x0).bind fun r14 =>
 some r14
def EM (x0:AE):Option ((Bool)) :=
 if (x0.1==2)=true then
 some (x0.1==2)
 else
 (EN x0).bind fun r15 =>
 some r15
def EP (x0:AE):Option ((Bool)) :=
 if (x0.1==6)=true then
 some (x0.1==6)
 else
 some (x0.1==7)
def Aq (x0:AE):Option (Bool) :=
 if (x0.1==1)=true then
 (BO (x0.2.2.2.1.length:Int) 1 16).bind fun v2 =>
 (if v2=true then if (x0.2.2.2.2==0)=true then if (!x0.2.2.1)=true then some (x0.2.1==[]) else some false else some false else some false).bind fun j4 =>
 some j4
 else
 (EM x0).bind fun r16 =>
 if r16=true then
 (if ((x0.2.2.2.1.length:Int)==0)=true then if (x0.2.2.2.2==0)=true then some (!x0.2.2.1) else some false else some false).bind fun j19 =>
 some j19
 else
 if (x0.1==4)=true then
 (if ((x0.2.2.2.1.length:Int)==0)=true then (BO x0.2.2.2.2 1 2).bind fun v23 =>
 some v23 else some false).bind fun j25 =>
 some j25
 else
 if (x0.1==5)=true then
 (if ((x0.2.2.2.1.length:Int)==0)=true then some (x0.2.2.2.2==0) else some false).bind fun j29 =>
 some j29
 else
 (EP x0).bind fun r33 =>
 if r33=true then
 (BO (x0.2.2.2.1.length:Int) 1 16).bind fun v35 =>
 (if v35=true then some (x0.2.2.2.2==0) else some false).bind fun j37 =>
 some j37
 else
 if (x0.1==10)=true then
 (if ((x0.2.2.2.1.length:Int)==0)=true then (BO x0.2.2.2.2 0 63).bind fun v40 =>
 if v40=true then some (!x0.2.2.1) else some false else some false).bind fun j42 =>
 some j42
 else
 some false
/- trestle/trestlekit.Name -/
/- trestle/trestleref03.has -/
/- trestle/trestleref03.CheckOne -/
/- trestle/trestleref03.Check -/
def XS (x:AE):Prop:=x.2.1.length<=40/\x.2.2.2.1.length<=20/\∀ s ∈ x.2.2.2.1,s.length<=40
def few (c:List AE):Prop:=c.length<=40/\∀ x ∈ c,XS x
/-- Names. -/
def WD (c:UInt8):Bool:=decide ((c.toNat:Int) < 97)||decide ((c.toNat:Int) > 122)
def FF (s:List UInt8):Bool:=decide (1<=s.length)&&decide (s.length<=12)&&!s.any WD
theorem Sx:∀ (s:List UInt8) (i:Nat),goU (fun v _ (k:Option (Unit ⊕ Bool))=>if WD v=true then some (.inr false) else k) (some (.inl ())) s i=some (if s.any WD=true then .inr false else .inl ())
 | [],_=>rfl
 | c::s,i=>by
  unfold goU
  rw [Sx s (i + 1),List.any_cons]
  cases WD c <;> rfl
theorem Xm (s:List UInt8) (h:s.length<=99999):Dz s 100000 0=some (if s.any WD=true then .inr false else .inl ()):=by
 rw [<-Sx s 0]
 refine OX s (Dz s) _ _ 100000 (by omega) (fun f pre v r e=>?_) (fun f=>?_)
 ·conv=>lhs; unfold Dz
  rw [e,if_pos (Hc pre v r),FJ,OS,OS,Fe pre v r (by rw [<-e]; omega)]
  unfold WD
  by_cases h:(v.toNat:Int) < 97 <;> simp [h]
 ·conv=>lhs; unfold Dz
  rw [if_neg (by simp)]
theorem S9 (s:List UInt8) (h:s.length<=99999):Ff s=some (FF s):=by
 unfold Ff FF
 rw [Xm s h,OS]
 cases hb:s.any WD
 ·by_cases h1:s.length < 1
  ·have:s.length=0:=by omega
   simp [this]
  ·simp [show (s.length:Int)≥1 by omega,show 1<=s.length by omega]; omega
 ·simp
theorem WK (l:List (List UInt8)) (h:l.length<=99999) (hs:∀ s ∈ l,s.length<=99999):AT l=some (l.any fun s=>!FF s):=by
 unfold AT Al
 obtain ⟨n,h1,h2⟩:=RB l h EW (fun s=>!FF s) (fun x hx=>by unfold EW; rw [S9 x (hs x hx)]; rfl) (Ar l) (fun f c=>rfl)
 rw [<-h2]
 exact (congrArg (fun o=>o.bind fun v1=>some (decide (v1≥0))) h1)
def Ml (l:List (List UInt8)) (s:List UInt8):Bool:=l.any fun v=>s==v
theorem Ht (l:List (List UInt8)) (s:List UInt8) (h:l.length<=99999):An l s=some (Ml l s):=by
 unfold An BH
 obtain ⟨n,h1,h2⟩:=RB l h (fun v=>some (s==v)) (fun v=>s==v) (fun _ _=>rfl) (Ax l s) (fun f c=>rfl)
 unfold Ml
 rw [<-h2]
 exact (congrArg (fun o=>o.bind fun v1=>some (decide (v1≥0))) h1)
/-- What is asked of the fields, by a row: names, from, to, last. -/
def fin (L:Nat) (n:Int) (la:Bool) (w:Int×Int×Int×Bool):Option Bool :=
 (if (decide ((L:Int)<=w.1))=true then if (w.1==0)=true then if (decide (n≥w.2.1))=true then if (decide (n<=w.2.2.1))=true then if w.2.2.2=true then some true else some (!la) else some false else some false else if (decide ((L:Int) > 0))=true then if (decide (n≥w.2.1))=true then if (decide (n<=w.2.2.1))=true then if w.2.2.2=true then some true else some (!la) else some false else some false else some false else some false).bind fun j58=>some j58
theorem Kf (L:Nat) (n:Int) (la:Bool) (a lo hi:Int) (last:Bool):fin L n la (a,lo,hi,last)=some ((decide ((L:Int)<=a)&&(a==0||decide ((L:Int) > 0)))&&(decide (n≥lo)&&(decide (n<=hi)&&(last||!la)))):=by
 unfold fin
 dsimp only
 generalize decide ((L:Int)<=a)=b1
 generalize (a==0)=b2
 generalize decide ((L:Int) > 0)=b3
 generalize decide (n≥lo)=b4
 generalize decide (n<=hi)=b5
 cases b1 <;> cases b2 <;> cases b3 <;> cases b4 <;> cases b5 <;> cases last <;> cases la <;> rfl
theorem Sq (x:AE):∃ b,Bb x=some b/\Aq x=some b:=by
 obtain ⟨k,am,la,nm,n⟩:=x
 by_cases h1:k=1
 ·subst h1
  have hr:Aq (1,am,la,nm,n)=some ((decide (1<=(nm.length:Int))&&decide ((nm.length:Int)<=16))&&((n==0)&&(!la&&(am==[])))):=by
   unfold Aq
   unfold BO
   dsimp only
   generalize decide (1<=(nm.length:Int))=b0
   generalize decide ((nm.length:Int)<=16)=b1
   generalize (n==0)=b2
   generalize (am==[])=b3
   cases b0 <;> cases b1 <;> cases b2 <;> cases la <;> cases b3 <;> rfl
  refine ⟨_,?_,hr⟩
  cases am with
  | cons a am =>
   have hc:Bb (1,a::am,la,nm,n)=some false:=rfl
   rw [hc]
   simp
  | nil =>
   have hc:Bb (1,[],la,nm,n)=fin nm.length n la (16,0,0,false):=rfl
   rw [hc,Kf]
   congr 1
   rw [Bool.eq_iff_iff]
   generalize nm.length=L
   cases la <;> simp <;> omega
 by_cases h2:k=2
 ·subst h2
  have hr:Aq (2,am,la,nm,n)=some (((nm.length:Int)==0)&&((n==0)&&!la)):=by
   unfold Aq
   unfold BO
   dsimp only
   generalize ((nm.length:Int)==0)=b0
   generalize (n==0)=b1
   cases b0 <;> cases b1 <;> cases la <;> rfl
  refine ⟨_,?_,hr⟩
  have hc:Bb (2,am,la,nm,n)=fin nm.length n la (0,0,0,false):=rfl
  rw [hc,Kf]
  congr 1
  rw [Bool.eq_iff_iff]
  generalize nm.length=L
  cases la <;> simp <;> omega
 by_cases h3:k=3
 ·subst h3
  have hr:Aq (3,am,la,nm,n)=some (((nm.length:Int)==0)&&((n==0)&&!la)):=by
   unfold Aq
   unfold BO
   dsimp only
   generalize ((nm.length:Int)==0)=b0
   generalize (n==0)=b1
   cases b0 <;> cases b1 <;> cases la <;> rfl
  refine ⟨_,?_,hr⟩
  have hc:Bb (3,am,la,nm,n)=fin nm.length n la (0,0,0,false):=rfl
  rw [hc,Kf]
  congr 1
  rw [Bool.eq_iff_iff]
  generalize nm.length=L
  cases la <;> simp <;> omega
 by_cases h8:k=8
 ·subst h8
  have hr:Aq (8,am,la,nm,n)=some (((nm.length:Int)==0)&&((n==0)&&!la)):=by
   unfold Aq
   unfold BO
   dsimp only
   generalize ((nm.length:Int)==0)=b0
   generalize (n==0)=b1
   cases b0 <;> cases b1 <;> cases la <;> rfl
  refine ⟨_,?_,hr⟩
  have hc:Bb (8,am,la,nm,n)=fin nm.length n la (0,0,0,false):=rfl
  rw [hc,Kf]
  congr 1
  rw [Bool.eq_iff_iff]
  generalize nm.length=L
  cases la <;> simp <;> omega
 by_cases h9:k=9
 ·subst h9
  have hr:Aq (9,am,la,nm,n)=some (((nm.length:Int)==0)&&((n==0)&&!la)):=by
   unfold Aq
   unfold BO
   dsimp only
   generalize ((nm.length:Int)==0)=b0
   generalize (n==0)=b1
   cases b0 <;> cases b1 <;> cases la <;> rfl
  refine ⟨_,?_,hr⟩
  have hc:Bb (9,am,la,nm,n)=fin nm.length n la (0,0,0,false):=rfl
  rw [hc,Kf]
  congr 1
  rw [Bool.eq_iff_iff]
  generalize nm.length=L
  cases la <;> simp <;> omega
 by_cases h4:k=4
 ·subst h4
  have hr:Aq (4,am,la,nm,n)=some (((nm.length:Int)==0)&&(decide (1<=n)&&decide (n<=2))):=by
   unfold Aq
   unfold BO
   dsimp only
   generalize ((nm.length:Int)==0)=b0
   generalize decide (1<=n)=b1
   generalize decide (n<=2)=b2
   cases b0 <;> cases b1 <;> cases b2 <;> cases la <;> rfl
  refine ⟨_,?_,hr⟩
  have hc:Bb (4,am,la,nm,n)=fin nm.length n la (0,1,2,true):=rfl
  rw [hc,Kf]
  congr 1
  rw [Bool.eq_iff_iff]
  generalize nm.length=L
  cases la <;> simp <;> omega
 by_cases h5:k=5
 ·subst h5
  have hr:Aq (5,am,la,nm,n)=some (((nm.length:Int)==0)&&(n==0)):=by
   unfold Aq
   unfold BO
   dsimp only
   generalize ((nm.length:Int)==0)=b0
   generalize (n==0)=b1
   cases b0 <;> cases b1 <;> cases la <;> rfl
  refine ⟨_,?_,hr⟩
  have hc:Bb (5,am,la,nm,n)=fin nm.length n la (0,0,0,true):=rfl
  rw [hc,Kf]
  congr 1
  rw [Bool.eq_iff_iff]
  generalize nm.length=L
  cases la <;> simp <;> omega
 by_cases h6:k=6
 ·subst h6
  have hr:Aq (6,am,la,nm,n)=some ((decide (1<=(nm.length:Int))&&decide ((nm.length:Int)<=16))&&(n==0)):=by
   unfold Aq
   unfold BO
   dsimp only
   generalize decide (1<=(nm.length:Int))=b0
   generalize decide ((nm.length:Int)<=16)=b1
   generalize (n==0)=b2
   cases b0 <;> cases b1 <;> cases b2 <;> cases la <;> rfl
  refine ⟨_,?_,hr⟩
  have hc:Bb (6,am,la,nm,n)=fin nm.length n la (16,0,0,true):=rfl
  rw [hc,Kf]
  congr 1
  rw [Bool.eq_iff_iff]
  generalize nm.length=L
  cases la <;> simp <;> omega
 by_cases h7:k=7
 ·subst h7
  have hr:Aq (7,am,la,nm,n)=some ((decide (1<=(nm.length:Int))&&decide ((nm.length:Int)<=16))&&(n==0)):=by
   unfold Aq
   unfold BO
   dsimp only
   generalize decide (1<=(nm.length:Int))=b0
   generalize decide ((nm.length:Int)<=16)=b1
   generalize (n==0)=b2
   cases b0 <;> cases b1 <;> cases b2 <;> cases la <;> rfl
  refine ⟨_,?_,hr⟩
  have hc:Bb (7,am,la,nm,n)=fin nm.length n la (16,0,0,true):=rfl
  rw [hc,Kf]
  congr 1
  rw [Bool.eq_iff_iff]
  generalize nm.length=L
  cases la <;> simp <;> omega
 by_cases h10:k=10
 ·subst h10
  have hr:Aq (10,am,la,nm,n)=some (((nm.length:Int)==0)&&((decide (0<=n)&&decide (n<=63))&&!la)):=by
   unfold Aq
   unfold BO
   dsimp only
   generalize ((nm.length:Int)==0)=b0
   generalize decide (0<=n)=b1
   generalize decide (n<=63)=b2
   cases b0 <;> cases b1 <;> cases b2 <;> cases la <;> rfl
  refine ⟨_,?_,hr⟩
  have hc:Bb (10,am,la,nm,n)=fin nm.length n la (0,0,63,false):=rfl
  rw [hc,Kf]
  congr 1
  rw [Bool.eq_iff_iff]
  generalize nm.length=L
  cases la <;> simp <;> omega
 have e:∀ m:Int,(m=1\/m=2\/m=3\/m=4\/m=5\/m=6\/m=7\/m=8\/m=9\/m=10)->(k==m)=false:=fun m hm=>by
  rw [beq_eq_false_iff_ne]
  rintro rfl
  omega
 refine ⟨false,?_,?_⟩
 ·simp [Bb,Ft,Fu,Fv,Fz,F0,F3,F4,F5,F6,e]
 ·simp [Aq,EM,EN,EO,EP,e]
def fm (x:AE):Bool:=(Aq x).getD false
theorem ZX (x:AE):Bb x=some (fm x):=by
 obtain ⟨b,h1,h2⟩:=Sq x
 rw [h1]; unfold fm; rw [h2]; rfl
/-- Is a name there twice? -/
def Tm (l:List (List UInt8)):List (List UInt8)->Nat->Bool
 | [],_=>false
 | v::r,i=>Ml (l.take i) v||Tm l r (i + 1)
def Hd (before:List AE) (am:List UInt8):Bool:=before.any fun b=>(b.1==1)&&Ml b.2.2.2.1 am
def chk (before:List AE) (x:AE):Int :=
 if fm x=false then 30 else
 if ((!(x.2.1==[]))&&!FF x.2.1)=true\/(x.2.2.2.1.any fun s=>!FF s)=true then 4 else
 if Tm x.2.2.2.1 x.2.2.2.1 0=true then 5 else
 if x.2.1=[]\/Hd before x.2.1=true then 0 else 31
theorem Sw (l:List (List UInt8)):∀ (r:List (List UInt8)) (i:Nat),goU (fun v i (k:Option (Unit ⊕ Int))=>if Ml (l.take i) v=true then some (.inr 5) else k) (some (.inl ())) r i=some (if Tm l r i=true then .inr 5 else .inl ())
 | [],_=>rfl
 | v::r,i=>by
  unfold goU Tm
  rw [Sw l r (i + 1)]
  cases Ml (l.take i) v <;> rfl
theorem Yt (b:List AE) (j:AE) (h:j.2.2.2.1.length<=99999):Db b j 100000 0=some (if Tm j.2.2.2.1 j.2.2.2.1 0=true then .inr 5 else .inl ()):=by
 rw [<-Sw]
 refine OX j.2.2.2.1 (Db b j) _ _ 100000 (by omega) (fun f pre v r e=>?_) (fun f=>?_)
 ·conv=>lhs; unfold Db
  have hl:j.2.2.2.1.length=pre.length + r.length + 1:=by rw [e]; simp; omega
  rw [if_pos (by rw [e]; exact Hc pre v r),show idx j.2.2.2.1 (pre.length:Int)=some v by rw [e,FJ],OS,if_pos (by unfold DN; simp; omega),Int.toNat_natCast]
  rw [show ((j.2.2.2.1.take pre.length).drop (0:Int).toNat)=j.2.2.2.1.take pre.length from rfl,Ht _ _ (by simp; omega),OS,Fe pre v r (by rw [<-e]; omega)]
 ·conv=>lhs; unfold Db
  rw [if_neg (by simp)]
theorem Ue (b:List AE) (x:AE) (h:b.length<=99999) (hb:∀ y ∈ b,y.2.2.2.1.length<=99999):AR b x=some (Hd b x.2.1):=by
 unfold AR Aa
 obtain ⟨n,h1,h2⟩:=RB b h (fun v=>EX v x) (fun y=>(y.1==1)&&Ml y.2.2.2.1 x.2.1) (fun y hy=>by
  unfold EX
  rw [Ht _ _ (hb y hy)]
  cases (y.1==1) <;> rfl) (Aj b x) (fun f c=>rfl)
 unfold Hd
 rw [<-h2]
 exact (congrArg (fun o=>o.bind fun v1=>some (decide (v1≥0))) h1)
theorem Yo (b:List AE) (x:AE) (hb:few b) (hx:XS x):FY b x=some (chk b x):=by
 have hn:∀ s ∈ x.2.2.2.1,s.length<=99999:=fun s hs=>by have:=hx.2.2 s hs; omega
 unfold FY chk
 rw [ZX,OS]
 cases hf:fm x with
 | false=>simp
 | true =>
  rw [if_neg (show ¬ ((!true)=true) by simp),if_neg (show ¬ (true=false) by simp),WK _ (by have:=hx.2.1; omega) hn,S9 _ (by have:=hx.1; omega)]
  have e:((if (!(x.2.1==[]))=true then (some (FF x.2.1)).bind fun v3=>if (!v3)=true then some true else (some (x.2.2.2.1.any fun s=>!FF s)).bind fun v4=>some v4 else (some (x.2.2.2.1.any fun s=>!FF s)).bind fun v5=>some v5):Option Bool)=some (((!(x.2.1==[]))&&!FF x.2.1)||(x.2.2.2.1.any fun s=>!FF s)):=by
   cases (x.2.1==[]) <;> cases FF x.2.1 <;> rfl
  rw [e,OS]
  cases hq:(((!(x.2.1==[]))&&!FF x.2.1)||(x.2.2.2.1.any fun s=>!FF s)) with
  | true=>rw [if_pos rfl,if_pos (by simpa using hq)]
  | false =>
   rw [if_neg (show ¬ (false=true) by simp),if_neg (show ¬ (((!(x.2.1==[]))&&!FF x.2.1)=true\/(x.2.2.2.1.any fun s=>!FF s)=true) by simpa using hq),Yt _ _ (by have:=hx.2.1; omega),OS]
   try dsimp only
   cases hd:Tm x.2.2.2.1 x.2.2.2.1 0 with
   | true=>rfl
   | false =>
    rw [if_neg (show ¬ (false=true) by simp)]
    dsimp only
    have hr:=Ue b x (by have:=hb.1; omega) (fun y hy=>by have:=(hb.2 y hy).2.1; omega)
    rw [hr]
    by_cases ha:x.2.1=[]
    ·simp [ha]
    ·simp only [ha,false_or]
     cases Hd b x.2.1 <;> simp [ha]
section
variable (c pre r:List AE) (x:AE) (e:c=pre++x::r) (h:few c)
include e h
end
/-- The first error of a text: its place, and which. -/
def RF (c:List AE):List AE->Nat->Unit ⊕ (Int×Int)
 | [],_=> .inl ()
 | x::r,i=>if chk (c.take i) x≠0 then .inr ((i:Int),chk (c.take i) x) else RF c r (i + 1)
def MN (c:List AE):Int×Int:=if c.length > 32 then (0,7) else match RF c c 0 with
 | .inl _=>(0,0)
 | .inr w=>w
theorem Sv (c:List AE):∀ (r:List AE) (i:Nat),goU (fun x i (k:Option (Unit ⊕ (Int×Int)))=>if (chk (c.take i) x != 0)=true then some (.inr ((i:Int),chk (c.take i) x)) else k) (some (.inl ())) r i=some (RF c r i)
 | [],_=>rfl
 | x::r,i=>by
  unfold goU RF
  rw [Sv c r (i + 1)]
  by_cases h:chk (c.take i) x=0 <;> simp [h]
theorem UB {c:List AE}(h:few c) (n:Nat):few (c.take n):=⟨by have:=h.1; simp; omega,fun x hx=>h.2 x (List.mem_of_mem_take hx)⟩
theorem Qc (c:List AE) (h:few c):Eo c=some (MN c):=by
 have hl:=h.1
 have e1:Da c 100000 0=some (RF c c 0):=by
  rw [<-Sv]
  refine OX c (Da c) _ _ 100000 (by omega) (fun f pre v r e=>?_) (fun f=>?_)
  ·conv=>lhs; unfold Da
   have hl2:c.length=pre.length + r.length + 1:=by rw [e]; simp; omega
   rw [if_pos (by rw [e]; exact Hc pre v r),show idx c (pre.length:Int)=some v by rw [e,FJ],OS,if_pos (by unfold DN; simp; omega),Int.toNat_natCast,
    show ((c.take pre.length).drop (0:Int).toNat)=c.take pre.length from rfl,Yo _ v (UB h _) (h.2 v (by rw [e]; simp)),OS,Fe pre v r (by rw [<-e]; omega)]
  ·conv=>lhs; unfold Da
   rw [if_neg (by simp)]
 unfold Eo MN
 by_cases h32:c.length > 32
 ·rw [if_pos (by simp; omega),if_pos h32]
 ·rw [if_neg (by simp; omega),if_neg h32,e1,OS]
  cases RF c c 0 <;> rfl
/- trestle/trestleref03.rank -/
/- trestle/trestleref03.key -/
/- trestle/trestleref03.named -/
/- trestle/trestleref03.before -/
/- trestle/trestleref03.Reason -/
/-- The first of a word in a list, from a number on. -/
def rkN (s:List UInt8):List (List UInt8)->Nat->Nat
 | [],i=>i
 | v::r,i=>if (s==v)=true then i else rkN s r (i + 1)
theorem VH (s:List UInt8):∀ (l:List (List UInt8)) (i:Nat),Ml l s=false->rkN s l i=i + l.length
 | [],i,_=>rfl
 | v::r,i,h=>by
  have h':((s==v)||Ml r s)=false:=h
  simp only [Bool.or_eq_false_iff] at h'
  unfold rkN
  rw [if_neg (show ¬ (s==v)=true by rw [h'.1]; decide),VH s r (i + 1) h'.2]
  simp; omega
theorem U9 (s:List UInt8):∀ (l:List (List UInt8)) (i:Nat),goU (fun v i (k:Option (Unit ⊕ Int))=>if (s==v)=true then some (.inr (i:Int)) else k) (some (.inl ())) l i=some (if Ml l s=true then .inr (rkN s l i:Int) else .inl ())
 | [],_=>rfl
 | v::r,i=>by
  unfold goU rkN
  rw [U9 s r (i + 1)]
  have:Ml (v::r) s=((s==v)||Ml r s):=rfl
  rw [this]
  cases (s==v) <;> rfl
def rk (l:List (List UInt8)) (s:List UInt8):Int:=(rkN s l 0:Nat)
theorem VE (x:Ai) (c:AE) (h:c.2.2.2.1.length<=99999):DB x c=some (rk c.2.2.2.1 x.1.2.1):=by
 unfold DB BH
 have e:Ax c.2.2.2.1 x.1.2.1 100000 0=some (if Ml c.2.2.2.1 x.1.2.1=true then .inr (rkN x.1.2.1 c.2.2.2.1 0:Int) else .inl ()):=by
  rw [<-U9]
  refine OX c.2.2.2.1 (Ax c.2.2.2.1 x.1.2.1) _ _ 100000 (by omega) (fun f pre v r e=>?_) (fun f=>?_)
  ·conv=>lhs; unfold Ax
   rw [if_pos (by rw [e]; exact Hc pre v r),show idx c.2.2.2.1 (pre.length:Int)=some v by rw [e,FJ],OS,Fe pre v r (by rw [<-e]; omega)]
  ·conv=>lhs; unfold Ax
   rw [if_neg (by simp)]
 rw [e]
 cases hh:Ml c.2.2.2.1 x.1.2.1 with
 | true=>simp [rk]
 | false=>simp [rk,VH _ _ _ hh]
/-- -1, 0 or 1. -/
def KH (x y:Int):Int:=if x < y then -1 else if y < x then 1 else 0
theorem T0 (x y:Int):Bq x y=some (KH x y):=by
 unfold Bq EU KH
 simp only [bne_self_eq_false,OS,Bool.false_eq_true,if_false,decide_eq_true_eq,gt_iff_lt]
 split
 ·rfl
 ·split <;> rfl
def Sb (x y:List UInt8):Int:=if Go.Op.bytesLess x y=true then -1 else if (!(Go.Op.bytesLess x y||x==y))=true then 1 else 0
theorem Yp (x y:List UInt8):Cn x y=some (Sb x y):=by
 unfold Cn DJ Sb
 simp only [beq_self_eq_true,Bool.not_true,OS,Bool.false_eq_true,if_false]
 split
 ·rfl
 ·split <;> rfl
/-- Does a clause name a guest? -/
def nmB (c:AE) (g:Am):Bool :=
 if (c.1==4)=true then g.2.2.2.2.1==c.2.2.2.2 else
 if (c.1==5)=true then g.2.2.2.2.2.2.1 else
 if (c.1==7)=true then Ml c.2.2.2.1 g.2.2.1 else g.2.2.2.2.2.2.2.2.any fun s=>Ml c.2.2.2.1 s
theorem QN (t:List (List UInt8)) (c:AE) (ht:t.length<=99999) (h:c.2.2.2.1.length<=99999):AX t c=some (t.any fun s=>Ml c.2.2.2.1 s):=by
 unfold AX Ak
 obtain ⟨n,h1,h2⟩:=RB t ht (fun v=>Dk v c) (fun s=>Ml c.2.2.2.1 s) (fun v _=>by unfold Dk; rw [Ht _ _ h]; rfl) (Ao t c) (fun f c=>rfl)
 rw [<-h2]
 exact (congrArg (fun o=>o.bind fun v1=>some (decide (v1≥0))) h1)
def nv (c:AE) (g:Am):Int:=if (!(nmB c g==c.2.2.1))=true then 0 else 1
def P2 (i:Int):Bool:=decide (i≥0)&&decide (i<=63)
theorem Yz (i:Int):CK i=some (P2 i):=by
 unfold CK P2
 by_cases h:i≥0 <;> simp [h]
def kyI (i n:Int):Int:=(wr .i64 ((wr .i64 (i * (wr .i64 ((wr .i64 (n + n)) + 1)))) + n)).tmod 64
theorem Y1 (i:Int) (c:AE):DX i c=some (kyI i c.2.2.2.2):=by
 unfold DX kyI
 rw [Int.two_mul]
def b2 (b:Bool):Int:=if b=true then 1 else 0
theorem ZV (b:Bool):Hu b=some (b2 b):=by cases b <;> rfl
def snc (y:Bool) (s t:Int):Int:=if (!((s==0)==(t==0)))=true then KH (b2 (s==0)) (b2 (t==0)) else if y=true then wr .i64 (0 - KH s t) else KH s t
/-- What a clause says of two guests at their places, without regard to Among. -/
def N2 (c:AE) (a b:Am) (i j:Int):Int :=
 if (c.1==1)=true then KH (rk c.2.2.2.1 a.2.1) (rk c.2.2.2.1 b.2.1) else
 if (c.1==2)=true then snc false a.2.2.2.1 b.2.2.2.1 else
 if (c.1==3)=true then snc true a.2.2.2.1 b.2.2.2.1 else
 if (c.1==8)=true then Sb a.1 b.1 else
 if (c.1==9)=true then if (!P2 i||!P2 j)=true then 0 else KH i j else
 if (c.1==10)=true then if (!P2 i||!P2 j)=true then 0 else KH (kyI i c.2.2.2.2) (kyI j c.2.2.2.2) else
 KH (nv c a) (nv c b)
def amB (c:AE) (a b:Am):Bool:=(!(c.2.1==[]))&&((!(a.2.1==c.2.1))||(!(b.2.1==c.2.1)))
def dir (c:AE) (a b:Am) (i j:Int):Int:=if amB c a b=true then 0 else N2 c a b i j
theorem ZU (c:AE) (a b:Am):((if (!(c.2.1==[]))=true then if (!(a.2.1==c.2.1))=true then some true else some (!(b.2.1==c.2.1)) else some false):Option Bool)=some (amB c a b):=by
 unfold amB
 cases (c.2.1==[]) <;> cases (a.2.1==c.2.1) <;> rfl
theorem RZ (a b:Am) (i j:Int) (c:AE):Ce (a,i) (b,j) c=some (snc (c.1==3) a.2.2.2.1 b.2.2.2.1):=by
 unfold Ce snc FS
 simp only [ZV,T0,OS]
 split
 ·rfl
 ·split <;> rfl
theorem Yr (c:AE) (a b:Am) (i j:Int) (h:c.2.2.2.1.length<=99999) (ha:a.2.2.2.2.2.2.2.2.length<=99999) (hb:b.2.2.2.2.2.2.2.2.length<=99999) (hk:1<=c.1/\c.1<=10):Dj (a,i) (b,j) c=some (dir c a b i j):=by
 have cl:∀ (o:Option Int) (x:Int),o=some x->((((if (!(c.2.1==[]))=true then if (!(a.2.1==c.2.1))=true then some true else some (!(b.2.1==c.2.1)) else some false):Option Bool).bind fun j2=>if j2=true then some 0 else o.bind fun v4=>some v4):Option Int)=some (if amB c a b=true then 0 else x):=fun o x e=>by
  rw [ZU,OS,e]
  cases amB c a b <;> rfl
 have nm:∀ (p q:Bool),((if (!(p==c.2.2.1))=true then some 0 else some 1:Option Int).bind fun v1=>(if (!(q==c.2.2.1))=true then some 0 else some 1:Option Int).bind fun v2=>(Bq v1 v2).bind fun v3=>some v3)=some (KH (if (!(p==c.2.2.1))=true then 0 else 1) (if (!(q==c.2.2.1))=true then 0 else 1)):=fun p q=>by
  simp only [T0]
  cases (p==c.2.2.1) <;> cases (q==c.2.2.1) <;> rfl
 have pl:∀ (o:Int->Option Int) (k:Int->Int),(∀ i,o i=some (k i))->(((CK i).bind fun v1=>((if (!v1)=true then some true else (CK j).bind fun v2=>some (!v2)):Option Bool).bind fun j4=>if j4=true then some 0 else (o i).bind fun v6=>(o j).bind fun v7=>(Bq v6 v7).bind fun v8=>some v8):Option Int)=some (if (!P2 i||!P2 j)=true then 0 else KH (k i) (k j)):=fun o k e=>by
  simp only [Yz,OS,e,T0]
  cases P2 i <;> cases P2 j <;> rfl
 unfold Dj dir
 by_cases h1:c.1=1
 ·have e1:(c.1==1)=true:=by simp [h1]
  rw [if_pos e1]
  refine cl (By (fun x (v:AE×Unit)=>DB x v.1) (a,i) (b,j) (c,())) _ ?_
  unfold By N2
  dsimp only
  rw [if_pos e1,VE _ c h,OS,VE _ c h,OS,T0]; rfl
 rw [if_neg (show ¬ (c.1==1)=true by simpa using h1)]
 by_cases h2:c.1=2
 ·have e2:(c.1==2)=true:=by simp [h2]
  rw [if_pos e2]
  refine cl (Ce (a,i) (b,j) c) _ ?_
  unfold N2
  rw [if_neg (show ¬ (c.1==1)=true by simpa using h1),if_pos e2,RZ,h2]; rfl
 rw [if_neg (show ¬ (c.1==2)=true by simpa using h2)]
 by_cases h3:c.1=3
 ·have e3:(c.1==3)=true:=by simp [h3]
  rw [if_pos e3]
  refine cl (Ce (a,i) (b,j) c) _ ?_
  unfold N2
  rw [if_neg (show ¬ (c.1==1)=true by simpa using h1),if_neg (show ¬ (c.1==2)=true by simpa using h2),if_pos e3,RZ,h3]; rfl
 rw [if_neg (show ¬ (c.1==3)=true by simpa using h3)]
 by_cases h4:c.1=4
 ·have e4:(c.1==4)=true:=by simp [h4]
  rw [if_pos e4]
  refine cl (By (fun x (v:AE×AE×Unit)=>A0 x v.1 v.2.1) (a,i) (b,j) (c,c,())) _ ?_
  have:N2 c a b i j=KH (nv c a) (nv c b):=by unfold N2; simp [h4]
  rw [this]
  unfold nv nmB
  rw [if_pos e4,if_pos e4]
  exact nm _ _
 rw [if_neg (show ¬ (c.1==4)=true by simpa using h4)]
 by_cases h5:c.1=5
 ·have e5:(c.1==5)=true:=by simp [h5]
  rw [if_pos e5]
  refine cl (By (fun x (v:Unit×AE×Unit)=>A3 x v.2.1) (a,i) (b,j) ((),c,())) _ ?_
  have:N2 c a b i j=KH (nv c a) (nv c b):=by unfold N2; simp [h5]
  rw [this]
  unfold nv nmB
  simp only [h5]
  exact nm _ _
 rw [if_neg (show ¬ (c.1==5)=true by simpa using h5)]
 by_cases h6:c.1=6
 ·have e6:(c.1==6)=true:=by simp [h6]
  rw [if_pos e6]
  refine cl (By (fun x (v:AE×AE×Unit)=>Ay x v.1 v.2.1) (a,i) (b,j) (c,c,())) _ ?_
  have:N2 c a b i j=KH (nv c a) (nv c b):=by unfold N2; simp [h6]
  rw [this]
  unfold By Ay FA
  dsimp only
  rw [QN _ _ ha h,QN _ _ hb h]
  unfold nv nmB
  simp only [h6]
  exact nm _ _
 rw [if_neg (show ¬ (c.1==6)=true by simpa using h6)]
 by_cases h7:c.1=7
 ·have e7:(c.1==7)=true:=by simp [h7]
  rw [if_pos e7]
  refine cl (By (fun x (v:AE×AE×Unit)=>Az x v.1 v.2.1) (a,i) (b,j) (c,c,())) _ ?_
  have:N2 c a b i j=KH (nv c a) (nv c b):=by unfold N2; simp [h7]
  rw [this]
  unfold By Az FB
  dsimp only
  rw [Ht _ _ h,Ht _ _ h]
  unfold nv nmB
  simp only [h7]
  exact nm _ _
 rw [if_neg (show ¬ (c.1==7)=true by simpa using h7)]
 by_cases h8:c.1=8
 ·have e8:(c.1==8)=true:=by simp [h8]
  rw [if_pos e8]
  refine cl (D1 (a,i) (b,j)) _ ?_
  have:N2 c a b i j=Sb a.1 b.1:=by unfold N2; simp [h8]
  rw [this]
  unfold D1
  rw [Yp]; rfl
 rw [if_neg (show ¬ (c.1==8)=true by simpa using h8)]
 by_cases h10:c.1=10
 ·have e10:(c.1==10)=true:=by simp [h10]
  rw [if_pos e10]
  refine cl (Ad (a,i) (b,j) c) _ ?_
  have:N2 c a b i j=if (!P2 i||!P2 j)=true then 0 else KH (kyI i c.2.2.2.2) (kyI j c.2.2.2.2):=by unfold N2; simp [h10]
  rw [this]
  exact pl (fun i=>DX i c) (fun i=>kyI i c.2.2.2.2) (fun i=>Y1 i c)
 rw [if_neg (show ¬ (c.1==10)=true by simpa using h10)]
 have h9:c.1=9:=by omega
 refine cl (Ae (a,i) (b,j)) _ ?_
 have:N2 c a b i j=if (!P2 i||!P2 j)=true then 0 else KH i j:=by unfold N2; simp [h9]
 rw [this]
 exact pl (fun i=>EZ i) (fun i=>i) (fun i=>rfl)
theorem RD:∀ (x y:List UInt8),Go.Op.bytesLess x y=false->Go.Op.bytesLess y x=!(x==y)
 | [],[],_=>rfl
 | a::x,[],_=>rfl
 | [],b::y,h=>by cases h
 | a::x,b::y,h=>by
  have h':(decide (a < b)||(a==b&&Go.Op.bytesLess x y))=false:=h
  simp only [Bool.or_eq_false_iff,decide_eq_false_iff_not] at h'
  show (decide (b < a)||(b==a&&Go.Op.bytesLess y x))=!(a::x==b::y)
  by_cases e:a=b
  ·subst e
   have h2:Go.Op.bytesLess x y=false:=by simpa using h'.2
   have:=RD x y h2
   simp [this]
  ·have hlt:b < a:=by
    rcases Nat.lt_trichotomy a.toNat b.toNat with q | q | q
    ·exact absurd (UInt8.lt_iff_toNat_lt.2 q) h'.1
    ·exact absurd (UInt8.toNat_inj.1 q) e
    ·exact UInt8.lt_iff_toNat_lt.2 q
   simp [hlt,e]
theorem Xy (y:Bool) (s t:Int):snc y s t=if ((s != 0)&&((t==0)||(if y=true then decide (s > t) else decide (s < t))))=true then -1 else if ((t != 0)&&((s==0)||(if y=true then decide (t > s) else decide (t < s))))=true then 1 else 0:=by
 have w1:wr .i64 1=1:=by decide
 have w2:wr .i64 (-1) = -1:=by decide
 have w3:wr .i64 0=0:=by decide
 unfold snc KH b2
 by_cases hs:s=0 <;> by_cases ht:t=0
 ·subst hs ht; cases y <;> simp [w3]
 ·subst hs; simp [ht]
 ·subst ht; simp [hs]
 ·have e1:(s==0)=false:=by simpa using hs
  have e2:(t==0)=false:=by simpa using ht
  have e3:(s != 0)=true:=by simpa using hs
  have e4:(t != 0)=true:=by simpa using ht
  rw [e1,e2,e3,e4]
  rcases Int.lt_trichotomy s t with q | q | q
  ·have q2:¬ t < s:=by omega
   cases y <;> simp [q,q2,w1]
  ·subst q; cases y <;> simp [w3]
  ·have q2:¬ s < t:=by omega
   cases y <;> simp [q,q2,w2]
/-- The first clause that separates two guests. -/
def rsn (a b:Am) (i j:Int):List AE->Nat->Unit ⊕ (Int×Int)
 | [],_=> .inl ()
 | x::r,k=>if dir x a b i j=0 then rsn a b i j r (k + 1) else .inr ((k:Int),dir x a b i j)
def Wx (c:List AE) (a b:Am) (i j:Int):Int×Int:=match rsn a b i j c 0 with
 | .inl _=>(-1,0)
 | .inr w=>w
theorem XV (a b:Am) (i j:Int):∀ (r:List AE) (k:Nat),goU (fun x k (n:Option (Unit ⊕ (Int×Int)))=>if (dir x a b i j != 0)=true then some (.inr ((k:Int),dir x a b i j)) else n) (some (.inl ())) r k=some (rsn a b i j r k)
 | [],_=>rfl
 | x::r,k=>by
  unfold goU rsn
  rw [XV a b i j r (k + 1)]
  by_cases h:dir x a b i j=0 <;> simp [h]
def QU (g:Am):Prop:=g.2.2.2.2.2.2.2.2.length<=10
def V5 (c:List AE):Prop:=∀ x ∈ c,1<=x.1/\x.1<=10
theorem So (c:List AE) (a b:Am) (i j:Int) (h:few c) (hk:V5 c) (ha:QU a) (hb:QU b):Ah c (a,i) (b,j)=some (Wx c a b i j):=by
 have hl:=h.1
 have e:AZ c 100000 a.1 a.2.1 a.2.2.1 a.2.2.2.1 a.2.2.2.2.1 a.2.2.2.2.2.1 a.2.2.2.2.2.2.1 a.2.2.2.2.2.2.2.1 a.2.2.2.2.2.2.2.2 i b.1 b.2.1 b.2.2.1 b.2.2.2.1 b.2.2.2.2.1 b.2.2.2.2.2.1 b.2.2.2.2.2.2.1 b.2.2.2.2.2.2.2.1 b.2.2.2.2.2.2.2.2 j 0=some (rsn a b i j c 0):=by
  rw [<-XV]
  refine OX c (fun f n=>AZ c f a.1 a.2.1 a.2.2.1 a.2.2.2.1 a.2.2.2.2.1 a.2.2.2.2.2.1 a.2.2.2.2.2.2.1 a.2.2.2.2.2.2.2.1 a.2.2.2.2.2.2.2.2 i b.1 b.2.1 b.2.2.1 b.2.2.2.1 b.2.2.2.2.1 b.2.2.2.2.2.1 b.2.2.2.2.2.2.1 b.2.2.2.2.2.2.2.1 b.2.2.2.2.2.2.2.2 j n) _ _ 100000 (by omega) (fun f pre v r e=>?_) (fun f=>?_)
  ·conv=>lhs; unfold AZ
   have hv:XS v:=h.2 v (by rw [e]; simp)
   have hd:=Yr v a b i j (by have:=hv.2.1; omega) (by unfold QU at ha; omega) (by unfold QU at hb; omega) (hk v (by rw [e]; simp))
   rw [if_pos (by rw [e]; exact Hc pre v r),show idx c (pre.length:Int)=some v by rw [e,FJ],OS]
   rw [show Dj ((a.1,a.2.1,a.2.2.1,a.2.2.2.1,a.2.2.2.2.1,a.2.2.2.2.2.1,a.2.2.2.2.2.2.1,a.2.2.2.2.2.2.2.1,a.2.2.2.2.2.2.2.2),i) ((b.1,b.2.1,b.2.2.1,b.2.2.2.1,b.2.2.2.2.1,b.2.2.2.2.2.1,b.2.2.2.2.2.2.1,b.2.2.2.2.2.2.2.1,b.2.2.2.2.2.2.2.2),j) v=some (dir v a b i j) from hd,OS,Fe pre v r (by rw [<-e]; omega)]
  ·show AZ c (f + 1) a.1 a.2.1 a.2.2.1 a.2.2.2.1 a.2.2.2.2.1 a.2.2.2.2.2.1 a.2.2.2.2.2.2.1 a.2.2.2.2.2.2.2.1 a.2.2.2.2.2.2.2.2 i b.1 b.2.1 b.2.2.1 b.2.2.2.1 b.2.2.2.2.1 b.2.2.2.2.2.1 b.2.2.2.2.2.2.1 b.2.2.2.2.2.2.2.1 b.2.2.2.2.2.2.2.2 j (c.length:Int)=_
   conv=>lhs; unfold AZ
   rw [if_neg (by simp)]
 unfold Ah Wx
 dsimp only
 rw [e,OS]
 cases rsn a b i j c 0 <;> rfl
theorem NP (c:List AE) (h:few c) (hk:V5 c):∀ (r pre:List AE) (f:Nat),c=pre++r->r.length < f->Cp c f pre (pre.length:Int)=some c
 | [],pre,f + 1,e,_=>by
  unfold Cp
  rw [if_neg (by rw [e]; simp),e,List.append_nil]
 | v::r,pre,f + 1,e,hf=>by
  have hl:=h.1
  have hl2:c.length=pre.length + r.length + 1:=by rw [e]; simp; omega
  simp only [List.length_cons] at hf
  have hkv:=hk v (by rw [e]; simp)
  unfold Cp
  rw [if_pos (by rw [e]; exact Hc pre v r),show idx c (pre.length:Int)=some v by rw [e,FJ],OS,show EY v=some v by unfold EY; rw [if_pos hkv],OS,if_pos (It (by omega) (by omega)),show wr .i64 ((pre.length:Int) + 1)=((pre++[v]).length:Int) from Fe pre v r (by rw [<-e]; omega)]
  exact NP c h hk r (pre++[v]) f (by rw [e]; simp) (by omega)
theorem Vs {x:AE}(h:fm x=true):1<=x.1/\x.1<=10:=by
 by_cases hk:1<=x.1/\x.1<=10
 ·exact hk
 ·exfalso
  have n:∀ q:Int,1<=q->q<=10->¬ (x.1==q)=true:=fun q h1 h2 e=>hk (by have:x.1=q:=(by simpa using e); omega)
  have e:Aq x=some false:=by
   unfold Aq EM EN EO EP
   have n9:(x.1==9)=false:=by simpa using n 9 (by omega) (by omega)
   have n7:(x.1==7)=false:=by simpa using n 7 (by omega) (by omega)
   rw [if_neg (n 1 (by omega) (by omega)),if_neg (n 2 (by omega) (by omega)),if_neg (n 3 (by omega) (by omega)),if_neg (n 8 (by omega) (by omega)),if_neg (n 4 (by omega) (by omega)),if_neg (n 5 (by omega) (by omega)),if_neg (n 6 (by omega) (by omega)),if_neg (n 10 (by omega) (by omega)),n9,n7]
   rfl
  unfold fm at h
  rw [e] at h
  cases h
theorem O0 (c:List AE):∀ (r:List AE) (i:Nat),(∃ u,RF c r i = .inl u/\∀ x ∈ r,fm x=true)\/∃ w,RF c r i = .inr w/\w.2≠0
 | [],i=> .inl ⟨(),rfl,fun x hx=>by cases hx⟩
 | x::r,i=>by
  unfold RF
  by_cases h:chk (c.take i) x=0
  ·rw [if_neg (by simpa using h)]
   rcases O0 c r (i + 1) with ⟨u,h1,h2⟩ | h1
   ·refine .inl ⟨u,h1,fun y hy=>?_⟩
    rcases List.mem_cons.1 hy with rfl | hy
    ·cases hf:fm y with
     | true=>rfl
     | false=>unfold chk at h; rw [if_pos hf] at h; cases h
    ·exact h2 y hy
   ·exact .inr h1
  ·rw [if_pos h]
   exact .inr ⟨_,rfl,h⟩
theorem Kx {c:List AE}(h:(MN c).2=0):V5 c:=by
 unfold MN at h
 split at h
 ·cases h
 ·rcases O0 c c 0 with ⟨u,h1,h2⟩ | ⟨w,h1,h2⟩
  ·exact fun x hx=>Vs (h2 x hx)
  ·rw [h1] at h; exact absurd h h2
theorem Uf (c:List AE) (a b:Am) (i j:Int) (h:few c) (ha:QU a) (hb:QU b):Ep c a b i j=some (if (MN c).2=0 then Wx c a b i j else (0,0)):=by
 unfold Ep D0
 rw [Qc c h,OS]
 by_cases hv:(MN c).2=0
 ·have hk:=Kx hv
  have e0:Cp c 100000 [] 0=some c:=NP c h hk c [] 100000 rfl (by have:=h.1; omega)
  rw [if_neg (by simpa using hv),if_pos hv,e0]
  simp only [OS]
  rw [if_neg (by simp),So c a b i j h hk ha hb]
  rfl
 ·rw [if_pos (by simpa using hv),if_neg hv]
  rfl
theorem Se (c:List AE) (a b:Am) (i j:Int) (h:few c) (ha:QU a) (hb:QU b):DW c a b i j=some (if (MN c).2=0 then Wx c a b i j else (0,0)).2:=by
 unfold DW
 rw [Uf c a b i j h ha hb]; rfl
/-- A letter a to d. -/
def wd (k:Int):List UInt8:=((((([97,98,99,100]:List UInt8).take (([97,98,99,100]:List UInt8).length:Int).toNat).drop k.toNat).take (1:Int).toNat).drop (0:Int).toNat)
theorem YS {k:Int}(h1:0<=k) (h2:k < 4):k=0\/k=1\/k=2\/k=3:=by omega
theorem Tg {k:Int}(h1:0<=k) (h2:k < 4):FF (wd k)=true/\(wd k).length=1:=by
 rcases YS h1 h2 with rfl | rfl | rfl | rfl <;> decide
theorem X8 {a b:Int}(h1:0<=a) (h2:a < 4) (h3:0<=b) (h4:b < 4) (h:(wd a==wd b)=true):a=b:=by
 rcases YS h1 h2 with rfl | rfl | rfl | rfl <;> rcases YS h3 h4 with rfl | rfl | rfl | rfl <;> first | rfl | (exact absurd h (by decide))
theorem Wt {k:Int}(h1:0<=k) (h2:k < 4):DN k (([97,98,99,100]:List UInt8).length:Int) ([97,98,99,100]:List UInt8).length=true/\DN 0 (1:Int) ((([97,98,99,100]:List UInt8).take (([97,98,99,100]:List UInt8).length:Int).toNat).drop k.toNat).length=true:=by
 rcases YS h1 h2 with rfl | rfl | rfl | rfl <;> exact ⟨by decide,by decide⟩
def u8 (n:Int):Prop:=0<=n/\n<=255
theorem tm4 {n:Int}(h:u8 n):0<=n.tmod 4/\n.tmod 4 < 4:=by
 have:=h.1
 rw [Int.tmod_eq_emod_of_nonneg this]
 omega
theorem wr8 (n:Int) (h:u8 n):u8 (wr .u8 (n + 1))/\(wr .u8 (n + 1)).tmod 4≠n.tmod 4:=by
 have e:wr .u8 (n + 1)=(n + 1) % 256:=rfl
 have h2:u8 ((n + 1) % 256):=⟨by omega,by omega⟩
 refine ⟨e ▸ h2,?_⟩
 rw [e,Int.tmod_eq_emod_of_nonneg h2.1,Int.tmod_eq_emod_of_nonneg h.1]
 unfold u8 at h
 omega
/-- The names of a code. -/
def nms (v:Int×Int×Int×Bool×Bool):List (List UInt8):=if ((DS .u8 v.2.2.1 4)!=0)=true then [wd (v.2.2.1.tmod 4),wd ((wr .u8 (v.2.2.1 + 1)).tmod 4)] else [wd (v.2.2.1.tmod 4)]
theorem Xj (x0:List (Int×Int×Int×Bool×Bool)) (c2:List AE) (c3:List UInt8) (c4:Int) (v:Int×Int×Int×Bool×Bool) (h:u8 v.2.2.1):GO x0 c2 c3 c4 v=some (nms v):=by
 unfold GO nms
 obtain ⟨h1,_⟩:=wr8 _ h
 obtain ⟨q1,q2⟩:=tm4 h1
 obtain ⟨d1,d2⟩:=Wt q1 q2
 by_cases hc:((DS .u8 v.2.2.1 4)!=0)=true
 ·rw [if_pos hc,if_pos hc,if_pos d1,if_pos d2]
  refine (if_pos ?_).trans rfl
  show Gg 16 2=true
  decide
 ·rw [if_neg hc,if_neg hc]; rfl
/-- The clause of a code. -/
def clz (k:Int) (am:List UInt8) (la:Bool) (nm:List (List UInt8)) (b:Int):AE :=
 if k=1 then (1,am,false,nm,0) else if k=4 then (4,am,la,[],wr .i64 (1 + wr .i64 (b.tmod 2))) else if k=5 then (5,am,la,[],0) else
 if k=6 then (6,am,la,nm,0) else if k=7 then (7,am,la,nm,0) else if k=10 then (10,am,false,[],wr .i64 (b.tmod 64)) else (k,am,false,[],0)
theorem ten {k:Int}(h1:1<=k) (h2:k<=10):k=1\/k=2\/k=3\/k=4\/k=5\/k=6\/k=7\/k=8\/k=9\/k=10:=by omega
theorem Xk (x0:List (Int×Int×Int×Bool×Bool)) (c2:List AE) (c3:List UInt8) (c4 a b d:Int) (e g:Bool) (k:Int) (am:List UInt8) (w:List UInt8) (nm:List (List UInt8)) (h1:1<=k) (h2:k<=10) :
  GP x0 c3 c4 (c2,a,b,d,e,g,k,am,false,0,w::nm)=some (c2,(if k=1 then w else c3),clz k am e (w::nm) b):=by
 rcases ten h1 h2 with rfl | rfl | rfl | rfl | rfl | rfl | rfl | rfl | rfl | rfl <;> rfl
/-- Names that are fit. -/
def YM (nm:List (List UInt8)):Prop:=1<=nm.length/\nm.length<=2/\(nm.any fun s=>!FF s)=false/\Tm nm nm 0=false/\∀ s ∈ nm,s.length<=40
theorem TE (v:Int×Int×Int×Bool×Bool) (h:u8 v.2.2.1):YM (nms v)/\∃ r,nms v=wd (v.2.2.1.tmod 4)::r:=by
 obtain ⟨h1,h0⟩:=wr8 _ h
 obtain ⟨q1,q2⟩:=tm4 h1
 obtain ⟨p1,p2⟩:=tm4 h
 obtain ⟨a1,a2⟩:=Tg p1 p2
 obtain ⟨b1,b2⟩:=Tg q1 q2
 have hne:(wd ((wr .u8 (v.2.2.1 + 1)).tmod 4)==wd (v.2.2.1.tmod 4))=false:=by
  cases hh:(wd ((wr .u8 (v.2.2.1 + 1)).tmod 4)==wd (v.2.2.1.tmod 4)) with
  | false=>rfl
  | true=>exact absurd (X8 q1 q2 p1 p2 hh) h0
 unfold nms
 split
 ·refine ⟨⟨by simp,by simp,by simp [a1,b1],?_,fun s hs=>?_⟩,_,rfl⟩
  ·simp [Tm,Ml,hne]
  ·rcases (by simpa using hs:s=_\/s=_) with rfl | rfl <;> omega
 ·refine ⟨⟨by simp,by simp,by simp [a1],by simp [Tm,Ml],fun s hs=>?_⟩,_,rfl⟩
  have:s=wd (v.2.2.1.tmod 4):=by simpa using hs
  rw [this]; omega
theorem XL (k:Int) (am:List UInt8) (la:Bool) (nm:List (List UInt8)) (b:Int) (h1:1<=k) (h2:k<=10) (hb:u8 b) (ha:k=1->am=[]) (hn:YM nm):fm (clz k am la nm b)=true:=by
 obtain ⟨n1,n2,_⟩:=hn
 have hl:nm.length=1\/nm.length=2:=by omega
 have e2:wr .i64 (1 + wr .i64 (b.tmod 2))=1\/wr .i64 (1 + wr .i64 (b.tmod 2))=2:=by
  rw [Int.tmod_eq_emod_of_nonneg hb.1]
  have hw:wr .i64 (b % 2)=b % 2:=Q6 (by omega) (by omega)
  rw [hw,Q6 (by omega) (by omega)]
  omega
 have e64:0<=wr .i64 (b.tmod 64)/\wr .i64 (b.tmod 64)<=63:=by
  rw [Int.tmod_eq_emod_of_nonneg hb.1,Q6 (by omega) (by omega)]
  omega
 unfold fm
 rcases ten h1 h2 with rfl | rfl | rfl | rfl | rfl | rfl | rfl | rfl | rfl | rfl
 ·obtain rfl:=ha rfl
  have:clz 1 [] la nm b=(1,[],false,nm,0):=rfl
  rw [this]
  rcases hl with h | h <;> simp [Aq,BO,h]
 ·rfl
 ·rfl
 ·have:clz 4 am la nm b=(4,am,la,[],wr .i64 (1 + wr .i64 (b.tmod 2))):=rfl
  rw [this]
  rcases e2 with h | h <;> rw [h] <;> rfl
 ·rfl
 ·have:clz 6 am la nm b=(6,am,la,nm,0):=rfl
  rw [this]
  rcases hl with h | h <;> simp [Aq,EM,EN,EO,EP,BO,h]
 ·have:clz 7 am la nm b=(7,am,la,nm,0):=rfl
  rw [this]
  rcases hl with h | h <;> simp [Aq,EM,EN,EO,EP,BO,h]
 ·rfl
 ·rfl
 ·have:clz 10 am la nm b=(10,am,false,[],wr .i64 (b.tmod 64)):=rfl
  rw [this]
  simp [Aq,EM,EN,EO,EP,BO,e64.1,e64.2]
/-- Every clause is valid behind what stands before it. -/
def H6 (pre:List AE):List AE->Prop
 | []=>True
 | x::r=>chk pre x=0/\H6 (pre++[x]) r
theorem LD:∀ (a pre b:List AE),H6 pre (a++b)↔H6 pre a/\H6 (pre++a) b
 | [],pre,b=>by simp [H6]
 | x::a,pre,b=>by
  simp only [List.cons_append,H6,LD a (pre++[x]) b,List.append_assoc,List.cons_append,List.nil_append,and_assoc]
theorem Oe (a b:List AE) (s:List UInt8):Hd (a++b) s=(Hd a s||Hd b s):=by
 unfold Hd
 rw [List.any_append]
theorem Pz (c:List AE):∀ (r pre:List AE),c=pre++r->H6 pre r->RF c r pre.length = .inl ()
 | [],_,_,_=>rfl
 | x::r,pre,e,h=>by
  unfold RF
  have ht:c.take pre.length=pre:=by rw [e]; simp
  rw [ht,if_neg (by rw [h.1]; decide)]
  have:=Pz c r (pre++[x]) (by rw [e]; simp) h.2
  simpa using this
theorem Sy {c:List AE}(hl:c.length<=32) (h:H6 [] c):MN c=(0,0):=by
 unfold MN
 have:RF c c 0 = .inl ():=Pz c c [] rfl h
 rw [if_neg (by omega),this]
theorem U7 (k:Int) (am:List UInt8) (la:Bool) (nm:List (List UInt8)) (b:Int):(clz k am la nm b).2.1=am:=by
 unfold clz
 split; · rfl
 split; · rfl
 split; · rfl
 split; · rfl
 split; · rfl
 split <;> rfl
theorem RG (k:Int) (am:List UInt8) (la:Bool) (nm:List (List UInt8)) (b:Int):(clz k am la nm b).2.2.2.1=nm\/(clz k am la nm b).2.2.2.1=[]:=by
 unfold clz
 split; · exact .inl rfl
 split; · exact .inr rfl
 split; · exact .inr rfl
 split; · exact .inl rfl
 split; · exact .inl rfl
 split <;> exact .inr rfl
theorem Vg (pre:List AE) (k:Int) (am:List UInt8) (la:Bool) (nm:List (List UInt8)) (b:Int) (h1:1<=k) (h2:k<=10) (hb:u8 b) (ha:k=1->am=[]) (hn:YM nm) (hr:am=[]\/Hd pre am=true/\FF am=true):chk pre (clz k am la nm b)=0:=by
 unfold chk
 rw [XL k am la nm b h1 h2 hb ha hn,if_neg (by decide),U7]
 have hN:((clz k am la nm b).2.2.2.1.any fun s=>!FF s)=false:=by
  rcases RG k am la nm b with e | e <;> rw [e]
  ·exact hn.2.2.1
  ·rfl
 have hD:Tm (clz k am la nm b).2.2.2.1 (clz k am la nm b).2.2.2.1 0=false:=by
  rcases RG k am la nm b with e | e <;> rw [e]
  ·exact hn.2.2.2.1
  ·rfl
 rw [hN,hD]
 rcases hr with rfl | ⟨h3,h4⟩
 ·simp
 ·simp [h3,h4]
theorem Vh (k:Int) (am:List UInt8) (la:Bool) (nm:List (List UInt8)) (b:Int) (ha:am.length<=40) (hn:YM nm):XS (clz k am la nm b):=by
 refine ⟨by rw [U7]; exact ha,?_,?_⟩
 ·rcases RG k am la nm b with e | e <;> rw [e]
  ·have:=hn.2.1; omega
  ·simp
 ·rcases RG k am la nm b with e | e <;> rw [e]
  ·exact hn.2.2.2.2
  ·simp
theorem Xc {a:Int}(h:u8 a):1<=wr .u8 (1 + a.tmod 10)/\wr .u8 (1 + a.tmod 10)<=10:=by
 rw [Int.tmod_eq_emod_of_nonneg h.1]
 have e:wr .u8 (1 + a % 10)=(1 + a % 10) % 256:=rfl
 rw [e]
 omega
def Pn (v:Int×Int×Int×Bool×Bool):Prop:=u8 v.1/\u8 v.2.1/\u8 v.2.2.1
/-- What the loop keeps. -/
def UI (c2:List AE) (c3:List UInt8):Prop:=H6 [] c2/\(∀ x ∈ c2,XS x)/\(c3=[]\/(Hd c2 c3=true/\FF c3=true/\c3.length<=40))
theorem S1 {c2:List AE}{c3:List UInt8}(h:UI c2 c3) (v:Int×Int×Int×Bool×Bool) (hv:Pn v) (am:List UInt8) (ham:am=[]\/am=c3) (hk1:wr .u8 (1 + v.1.tmod 10)=1->am=[]) (w:List UInt8) (r:List (List UInt8)) (hw:nms v=w::r) :
  UI (c2++[clz (wr .u8 (1 + v.1.tmod 10)) am v.2.2.2.1 (w::r) v.2.1]) (if wr .u8 (1 + v.1.tmod 10)=1 then w else c3):=by
 obtain ⟨g1,g2,g3⟩:=h
 obtain ⟨k1,k2⟩:=Xc hv.1
 obtain ⟨n1,r',n2⟩:=TE v hv.2.2
 rw [hw] at n1
 have ha:am=[]\/Hd c2 am=true/\FF am=true:=by
  rcases ham with e | e
  ·exact .inl e
  ·rcases g3 with g3 | ⟨q1,q2,_⟩
   ·exact .inl (e.trans g3)
   ·rw [e]; exact .inr ⟨q1,q2⟩
 have ha40:am.length<=40:=by
  rcases ham with e | e
  ·rw [e]; simp
  ·rcases g3 with g3 | ⟨_,_,q3⟩
   ·rw [e,g3]; simp
   ·rw [e]; exact q3
 refine ⟨(LD _ _ _).2 ⟨g1,Vg _ _ _ _ _ _ k1 k2 hv.2.1 hk1 n1 ha,trivial⟩,fun x hx=>?_,?_⟩
 ·rcases List.mem_append.1 hx with hx | hx
  ·exact g2 x hx
  ·rw [List.mem_singleton.1 hx]
   exact Vh _ _ _ _ _ ha40 n1
 ·by_cases hk:wr .u8 (1 + v.1.tmod 10)=1
  ·rw [if_pos hk]
   refine .inr ⟨?_,?_,n1.2.2.2.2 w (by simp)⟩
   ·rw [Oe,hk]
    have:Hd [clz 1 am v.2.2.2.1 (w::r) v.2.1] w=true:=by
     unfold Hd clz Ml
     simp
    rw [this]; simp
   ·have:=n1.2.2.1
    simp at this
    exact this.1
  ·rw [if_neg hk]
   rcases g3 with g3 | ⟨q1,q2,q3⟩
   ·exact .inl g3
   ·exact .inr ⟨by rw [Oe,q1]; simp,q2,q3⟩
theorem S7 (x0:List (Int×Int×Int×Bool×Bool)) (ys:List (Int×Int×Int×Bool×Bool)) (hys:((x0.take (mnI (x0.length:Int) 8).toNat).drop (0:Int).toNat)=ys) (hb:∀ v ∈ ys,Pn v) (h8:ys.length<=8):∀ (r pre:List (Int×Int×Int×Bool×Bool)) (c2:List AE) (c3:List UInt8) (f:Nat),ys=pre++r->r.length < f->c2.length=pre.length->UI c2 c3 ->
  ∃ c c3',D2 x0 f c2 c3 (pre.length:Int)=some c/\UI c c3'/\c.length=ys.length
 | [],pre,c2,c3,f + 1,e,_,hl,hk=>by
  refine ⟨c2,c3,?_,hk,by rw [hl,e]; simp⟩
  unfold D2
  rw [hys,if_neg (by rw [e]; simp)]
 | v::r,pre,c2,c3,f + 1,e,hf,hl,hk=>by
  have hv:=hb v (by rw [e]; simp)
  have hl2:ys.length=pre.length + r.length + 1:=by rw [e]; simp; omega
  simp only [List.length_cons] at hf
  obtain ⟨p1,p2⟩:=tm4 hv.2.2
  obtain ⟨d1,d2⟩:=Wt p1 p2
  obtain ⟨k1,k2⟩:=Xc hv.1
  obtain ⟨n1,r',n2⟩:=TE v hv.2.2
  have hstep:∃ am,(am=[]\/am=c3)/\(wr .u8 (1 + v.1.tmod 10)=1->am=[])/\((if v.2.2.2.2=true then some (c2,v.1,v.2.1,v.2.2.1,v.2.2.2.1,true,(wr .u8 (1 + (v.1.tmod 10))),([]:List UInt8),false,(0:Int),nms v,((wr .u8 (1 + (v.1.tmod 10)))!=1)) else some (c2,v.1,v.2.1,v.2.2.1,v.2.2.2.1,false,(wr .u8 (1 + (v.1.tmod 10))),([]:List UInt8),false,(0:Int),nms v,false)).bind fun j27=>FD x0 c3 (pre.length:Int) j27)=some (c2,v.1,v.2.1,v.2.2.1,v.2.2.2.1,v.2.2.2.2,(wr .u8 (1 + (v.1.tmod 10))),am,false,(0:Int),nms v):=by
   cases ht:v.2.2.2.2 with
   | false=>exact ⟨[],.inl rfl,fun _=>rfl,rfl⟩
   | true =>
    by_cases h1:wr .u8 (1 + v.1.tmod 10)=1
    ·refine ⟨[],.inl rfl,fun _=>rfl,?_⟩
     rw [if_pos rfl,OS]
     unfold FD
     rw [if_neg (by simp [h1])]
    ·refine ⟨c3,.inr rfl,fun q=>absurd q h1,?_⟩
     rw [if_pos rfl,OS]
     unfold FD
     rw [if_pos (by simpa using h1)]
  obtain ⟨am,ham,hk1,hj⟩:=hstep
  have hm4:GP x0 c3 (pre.length:Int) (c2,v.1,v.2.1,v.2.2.1,v.2.2.2.1,v.2.2.2.2,(wr .u8 (1 + (v.1.tmod 10))),am,false,(0:Int),nms v)=some (c2,(if wr .u8 (1 + v.1.tmod 10)=1 then wd (v.2.2.1.tmod 4) else c3),clz (wr .u8 (1 + v.1.tmod 10)) am v.2.2.2.1 (nms v) v.2.1):=by
   rw [n2]
   exact Xk x0 c2 c3 _ _ _ _ _ _ _ am _ _ k1 k2
  have hks:=S1 hk v hv am ham hk1 _ _ n2
  obtain ⟨c,c3',q1,q2,q3⟩:=S7 x0 ys hys hb h8 r (pre++[v]) _ _ f (by rw [e]; simp) (by omega) (by simp [hl]) hks
  refine ⟨c,c3',?_,q2,q3⟩
  rw [<-q1]
  conv=>lhs; unfold D2
  rw [hys,if_pos (by rw [e]; exact Hc pre v r),show idx ys (pre.length:Int)=some v by rw [e,FJ],OS,if_pos d1,if_pos d2,Xj x0 c2 c3 _ v hv.2.2,OS]
  rw [<-Option.bind_assoc,hj,OS,hm4,OS]
  dsimp only
  rw [if_pos (It (by omega) (by omega)),Fe pre v r (by rw [<-e]; omega),n2]
theorem WF (x0:List (Int×Int×Int×Bool×Bool)) (hb:∀ v ∈ x0,Pn v):∃ c,Fj x0=some c/\few c/\H6 [] c/\c.length<=8:=by
 have hm:0<=mnI (x0.length:Int) 8/\mnI (x0.length:Int) 8<=8/\mnI (x0.length:Int) 8<=x0.length:=by
  unfold mnI
  split <;> omega
 have h8:((x0.take (mnI (x0.length:Int) 8).toNat).drop (0:Int).toNat).length<=8:=by
  rw [List.length_drop,List.length_take]; omega
 obtain ⟨c,c3,h1,h2,h3⟩:=S7 x0 _ rfl (fun v hv=>hb v (List.mem_of_mem_take (List.mem_of_mem_drop hv))) h8 _ [] [] [] 100000 rfl (Nat.lt_of_le_of_lt h8 (by decide)) rfl ⟨trivial,fun x hx=>by simp at hx,.inl rfl⟩
 refine ⟨c,?_,⟨by omega,h2.2.1⟩,h2.1,by omega⟩
 unfold Fj
 rw [if_pos (by unfold DN; simp; omega)]
 have e:D2 x0 100000 [] [] 0=some c:=h1
 rw [e]; rfl
/-- The decision of a merged text. -/
theorem Mo (a b:Am) (i j:Int) (x:AE) (r:List AE) (k:Nat):rsn a b i j (x::r) k=if dir x a b i j=0 then rsn a b i j r (k + 1) else .inr ((k:Int),dir x a b i j):=rfl
theorem TT (a b:Am) (i j:Int):∀ (c d:List AE) (k:Nat),rsn a b i j (c++d) k=match rsn a b i j c k with | .inl _=>rsn a b i j d (k + c.length) | .inr w=> .inr w
 | [],d,k=>rfl
 | x::c,d,k=>by
  rw [List.cons_append,Mo,Mo]
  by_cases h:dir x a b i j=0
  ·rw [if_pos h,if_pos h,TT a b i j c d (k + 1),List.length_cons,show k + 1 + c.length=k + (c.length + 1) by omega]
  ·rw [if_neg h,if_neg h]
theorem TU (a b:Am) (i j:Int):∀ (c:List AE) (k:Nat),(∃ u,rsn a b i j c k = .inl u)\/∃ w,rsn a b i j c k = .inr w/\w.2≠0
 | [],k=> .inl ⟨(),rfl⟩
 | x::c,k=>by
  unfold rsn
  by_cases h:dir x a b i j=0
  ·rw [if_pos h]; exact TU a b i j c (k + 1)
  ·rw [if_neg h]; exact .inr ⟨_,rfl,h⟩
theorem Xx (a b:Am) (i j:Int):∀ (c:List AE) (k q:Nat),(match rsn a b i j c k with | .inl _=>(0:Int) | .inr w=>w.2)=(match rsn a b i j c q with | .inl _=>(0:Int) | .inr w=>w.2)
 | [],_,_=>rfl
 | x::c,k,q=>by
  unfold rsn
  by_cases h:dir x a b i j=0
  ·rw [if_pos h,if_pos h]; exact Xx a b i j c (k + 1) (q + 1)
  ·rw [if_neg h,if_neg h]
def Pm (c:List AE) (a b:Am) (i j:Int):Int:=(Wx c a b i j).2
theorem My (c:List AE) (a b:Am) (i j:Int):Pm c a b i j=match rsn a b i j c 0 with | .inl _=>(0:Int) | .inr w=>w.2:=by
 unfold Pm Wx
 cases rsn a b i j c 0 <;> rfl
theorem Vi (c d:List AE) (a b:Am) (i j:Int):Pm (c++d) a b i j=if Pm c a b i j=0 then Pm d a b i j else Pm c a b i j:=by
 rw [My,My,My,TT]
 rcases TU a b i j c 0 with ⟨u,h⟩ | ⟨w,h,hw⟩
 ·rw [h]
  simp only [if_true]
  exact Xx a b i j d _ _
 ·rw [h]
  simp only [hw,if_false]
theorem Vl (c:List AE) (a b:Am) (i j:Int) (h:few c) (hl:c.length<=32) (hg:H6 [] c) (ha:QU a) (hb:QU b):DW c a b i j=some (Pm c a b i j):=by
 rw [Se c a b i j h ha hb,Sy hl hg,if_pos rfl]; rfl
/-- -1, 0 or 1, turned round with its arguments, and a chain decides by its least. -/
structure Wk3 {α:Type} (f:α->α->Int):Prop where
 v:∀ a b,f a b = -1\/f a b=0\/f a b=1
 s:∀ a b,f a b = - f b a
 t:∀ a b c,f a b<=0->f b c<=0->f a c=min (f a b) (f b c)
theorem PW {α:Type}(k:α->Int):Wk3 (fun a b=>KH (k a) (k b)):=by
 refine ⟨fun a b=>?_,fun a b=>?_,fun a b c h1 h2=>?_⟩
 ·unfold KH; split
  ·exact .inl rfl
  ·split
   ·exact .inr (.inr rfl)
   ·exact .inr (.inl rfl)
 ·unfold KH; split <;> split <;> first | rfl | omega | (split <;> first | rfl | omega)
 ·(try dsimp only at h1 h2 ⊢)
  unfold KH at *
  split at h1 <;> split at h2 <;> first | (split at h1 <;> first | omega | skip) | skip
  all_goals first | (split at h2 <;> first | omega | skip) | skip
  all_goals (split <;> first | omega | skip)
  all_goals first | rfl | omega | (split <;> first | rfl | omega)
theorem RC:∀ (x:List UInt8),Go.Op.bytesLess x x=false
 | []=>rfl
 | a::x=>by
  show (decide (a < a)||(a==a&&Go.Op.bytesLess x x))=false
  rw [RC x]; simp
theorem Ox:∀ (x y z:List UInt8),Go.Op.bytesLess x y=true->Go.Op.bytesLess y z=true->Go.Op.bytesLess x z=true
 | x,[],_,h,_=>by cases x <;> cases h
 | _,_::_,[],_,h=>by cases h
 | [],_::_,_::_,_,_=>rfl
 | a::x,b::y,c::z,h1,h2=>by
  have h1':(decide (a < b)||(a==b&&Go.Op.bytesLess x y))=true:=h1
  have h2':(decide (b < c)||(b==c&&Go.Op.bytesLess y z))=true:=h2
  show (decide (a < c)||(a==c&&Go.Op.bytesLess x z))=true
  simp only [Bool.or_eq_true,Bool.and_eq_true,decide_eq_true_eq,beq_iff_eq] at h1' h2' ⊢
  rcases h1' with q1 | ⟨rfl,q1⟩ <;> rcases h2' with q2 | ⟨rfl,q2⟩
  ·exact .inl (UInt8.lt_trans q1 q2)
  ·exact .inl q1
  ·exact .inl q2
  ·exact .inr ⟨rfl,Ox x y z q1 q2⟩
theorem Wj {α:Type}(k:α->List UInt8):Wk3 (fun a b=>Sb (k a) (k b)):=by
 have val:∀ x y:List UInt8,(Go.Op.bytesLess x y=true/\Sb x y = -1)\/(x=y/\Sb x y=0)\/(Go.Op.bytesLess y x=true/\Sb x y=1):=fun x y=>by
  unfold Sb
  cases h:Go.Op.bytesLess x y with
  | true=>exact .inl ⟨rfl,rfl⟩
  | false =>
   have:=RD x y h
   cases he:(x==y) with
   | true=>exact .inr (.inl ⟨by simpa using he,rfl⟩)
   | false=>exact .inr (.inr ⟨by rw [this,he]; rfl,rfl⟩)
 have asy:∀ x y:List UInt8,Go.Op.bytesLess x y=true->Go.Op.bytesLess y x=true->False:=fun x y h1 h2=>by
  have:=Ox x y x h1 h2
  rw [RC] at this
  cases this
 refine ⟨fun a b=>?_,fun a b=>?_,fun a b c h1 h2=>?_⟩
 ·rcases val (k a) (k b) with ⟨_,h⟩ | ⟨_,h⟩ | ⟨_,h⟩
  ·exact .inl h
  ·exact .inr (.inl h)
  ·exact .inr (.inr h)
 ·(try dsimp only)
  rcases val (k a) (k b) with ⟨p,h⟩ | ⟨p,h⟩ | ⟨p,h⟩ <;> rcases val (k b) (k a) with ⟨q,g⟩ | ⟨q,g⟩ | ⟨q,g⟩ <;> rw [h,g] <;> first | rfl | (exfalso; first | exact asy _ _ p q | (rw [q,RC] at p; cases p) | (rw [p,RC] at q; cases q))
 ·(try dsimp only at h1 h2 ⊢)
  rcases val (k a) (k b) with ⟨p,h⟩ | ⟨p,h⟩ | ⟨p,h⟩ <;> rcases val (k b) (k c) with ⟨q,g⟩ | ⟨q,g⟩ | ⟨q,g⟩ <;> first | (rw [h] at h1; exact absurd h1 (by decide)) | (rw [g] at h2; exact absurd h2 (by decide)) | skip
  ·rw [h,g]
   have:=Ox _ _ _ p q
   unfold Sb
   rw [if_pos this]; rfl
  ·rw [h,g,<-q,h]; rfl
  ·rw [h,g,p,g]; rfl
  ·rw [h,g,p,g]; rfl
theorem VN {α:Type}(y:Bool) (k:α->Int):Wk3 (fun a b=>snc y (k a) (k b)):=by
 have val:∀ s t:Int,snc y s t=if s=0 then (if t=0 then 0 else 1) else if t=0 then -1 else if y=true then KH t s else KH s t:=fun s t=>by
  rw [Xy]
  unfold KH
  by_cases hs:s=0 <;> by_cases ht:t=0
  ·simp [hs,ht]
  ·simp [hs,ht]
  ·simp [hs,ht]
  ·cases y <;> simp [hs,ht]
 refine ⟨fun a b=>?_,fun a b=>?_,fun a b c h1 h2=>?_⟩
 ·(try dsimp only)
  rw [val]
  unfold KH
  split
  ·split
   ·exact .inr (.inl rfl)
   ·exact .inr (.inr rfl)
  ·split
   ·exact .inl rfl
   ·split <;> (split; · exact .inl rfl) <;> (split; · exact .inr (.inr rfl)) <;> exact .inr (.inl rfl)
 ·(try dsimp only)
  rw [val,val]
  unfold KH
  cases y <;> simp only [if_true,if_false,Bool.false_eq_true] <;> (repeat' split) <;> first | rfl | omega
 ·(try dsimp only at h1 h2 ⊢)
  rw [val] at h1 h2
  rw [val,val,val]
  unfold KH at *
  cases y <;> simp only [if_true,if_false,Bool.false_eq_true] at h1 h2 ⊢ <;> (repeat' split at h1) <;> (repeat' split at h2) <;> first | omega | ((repeat' split) <;> first | rfl | omega)
/-- A second order where a first one ties. -/
theorem X9 {α:Type}{f g:α->α->Int}(hf:Wk3 f) (gv:∀ a b,g a b = -1\/g a b=0\/g a b=1) (gs:∀ a b,g a b = - g b a)
  (gt:∀ a b c,f a b=0->f b c=0->g a b<=0->g b c<=0->g a c=min (g a b) (g b c)):Wk3 (fun a b=>if f a b=0 then g a b else f a b):=by
 refine ⟨fun a b=>?_,fun a b=>?_,fun a b c h1 h2=>?_⟩
 ·show (if f a b=0 then g a b else f a b) = -1\/_
  split
  ·exact gv a b
  ·exact hf.v a b
 ·show (if f a b=0 then g a b else f a b) = - (if f b a=0 then g b a else f b a)
  have:=hf.s a b
  by_cases h:f b a=0
  ·rw [if_pos h,if_pos (by omega)]; exact gs a b
  ·rw [if_neg h,if_neg (by omega)]; exact this
 ·have h1':(if f a b=0 then g a b else f a b)<=0:=h1
  have h2':(if f b c=0 then g b c else f b c)<=0:=h2
  show (if f a c=0 then g a c else f a c)=min (if f a b=0 then g a b else f a b) (if f b c=0 then g b c else f b c)
  have ab:=hf.v a b
  have bc:=hf.v b c
  have gab:=gv a b
  have gbc:=gv b c
  by_cases x:f a b=0 <;> by_cases y:f b c=0
  ·have:=hf.t a b c (by omega) (by omega)
   rw [if_pos x] at h1' ⊢
   rw [if_pos y] at h2' ⊢
   rw [if_pos (by omega)]
   exact gt a b c x y h1' h2'
  ·rw [if_pos x] at h1' ⊢
   rw [if_neg y] at h2' ⊢
   have:=hf.t a b c (by omega) (by omega)
   rw [if_neg (by omega)]
   omega
  ·rw [if_neg x] at h1' ⊢
   rw [if_pos y] at h2' ⊢
   have:=hf.t a b c (by omega) (by omega)
   rw [if_neg (by omega)]
   omega
  ·rw [if_neg x] at h1' ⊢
   rw [if_neg y] at h2' ⊢
   have:=hf.t a b c (by omega) (by omega)
   rw [if_neg (by omega)]
   omega
/-- A guest at a place of the row. -/
abbrev At:={ p:Am×Int // P2 p.2=true }
theorem YA (x:AE):Wk3 (fun a b:At=>N2 x a.1.1 b.1.1 a.1.2 b.1.2):=by
 have e:(fun a b:At=>N2 x a.1.1 b.1.1 a.1.2 b.1.2)=fun a b:At =>
   if (x.1==1)=true then KH (rk x.2.2.2.1 a.1.1.2.1) (rk x.2.2.2.1 b.1.1.2.1) else
   if (x.1==2)=true then snc false a.1.1.2.2.2.1 b.1.1.2.2.2.1 else
   if (x.1==3)=true then snc true a.1.1.2.2.2.1 b.1.1.2.2.2.1 else
   if (x.1==8)=true then Sb a.1.1.1 b.1.1.1 else
   if (x.1==9)=true then KH a.1.2 b.1.2 else
   if (x.1==10)=true then KH (kyI a.1.2 x.2.2.2.2) (kyI b.1.2 x.2.2.2.2) else
   KH (nv x a.1.1) (nv x b.1.1):=by
  funext a b
  unfold N2
  rw [a.2,b.2]
  simp only [Bool.not_true,Bool.or_self,Bool.false_eq_true,if_false]
 rw [e]
 by_cases h1:(x.1==1)=true
 ·simp only [h1,if_true]; exact PW (fun a:At=>rk x.2.2.2.1 a.1.1.2.1)
 by_cases h2:(x.1==2)=true
 ·simp only [h1,h2,if_true,if_false,Bool.false_eq_true]; exact VN false (fun a:At=>a.1.1.2.2.2.1)
 by_cases h3:(x.1==3)=true
 ·simp only [h1,h2,h3,if_true,if_false,Bool.false_eq_true]; exact VN true (fun a:At=>a.1.1.2.2.2.1)
 by_cases h8:(x.1==8)=true
 ·simp only [h1,h2,h3,h8,if_true,if_false,Bool.false_eq_true]; exact Wj (fun a:At=>a.1.1.1)
 by_cases h9:(x.1==9)=true
 ·simp only [h1,h2,h3,h8,h9,if_true,if_false,Bool.false_eq_true]; exact PW (fun a:At=>a.1.2)
 by_cases h10:(x.1==10)=true
 ·simp only [h1,h2,h3,h8,h9,h10,if_true,if_false,Bool.false_eq_true]; exact PW (fun a:At=>kyI a.1.2 x.2.2.2.2)
 ·simp only [h1,h2,h3,h8,h9,h10,if_false,Bool.false_eq_true]; exact PW (fun a:At=>nv x a.1.1)
theorem TP (s:List UInt8):∀ (l:List (List UInt8)) (i:Nat),i<=rkN s l i
 | [],i=>Nat.le_refl i
 | v::r,i=>by
  unfold rkN
  split
  ·exact Nat.le_refl i
  ·have:=TP s r (i + 1); omega
theorem Qw (s t:List UInt8):∀ (l:List (List UInt8)) (i:Nat),Ml l s=true->rkN s l i=rkN t l i->t=s
 | [],_,h,_=>by cases h
 | v::r,i,h,e=>by
  have h':((s==v)||Ml r s)=true:=h
  unfold rkN at e
  by_cases hs:(s==v)=true
  ·rw [if_pos hs] at e
   by_cases ht:(t==v)=true
   ·rw [beq_iff_eq] at hs ht; rw [hs,ht]
   ·rw [if_neg ht] at e
    have:=TP t r (i + 1)
    omega
  ·rw [if_neg hs] at e
   by_cases ht:(t==v)=true
   ·rw [if_pos ht] at e
    have:=TP s r (i + 1)
    omega
   ·rw [if_neg ht] at e
    have h2:Ml r s=true:=by
     cases hq:(s==v) with
     | true=>exact absurd hq hs
     | false=>rwa [hq,Bool.false_or] at h'
    exact Qw s t r (i + 1) h2 e
theorem Yw {x:AE}(h:fm x=true) (hk:(x.1==1)=true):x.2.1=[]:=by
 unfold fm Aq at h
 rw [if_pos hk] at h
 cases hb:BO (x.2.2.2.1.length:Int) 1 16 with
 | none=>rw [hb] at h; cases h
 | some v =>
  rw [hb,OS] at h
  cases v with
  | false=>cases h
  | true =>
   by_cases h2:(x.2.2.2.2==0)=true
   ·by_cases h3:(!x.2.2.1)=true
    ·rw [if_pos rfl,if_pos h2,if_pos h3] at h
     simpa using h
    ·rw [if_pos rfl,if_pos h2,if_neg h3] at h; cases h
   ·rw [if_pos rfl,if_neg h2] at h; cases h
theorem XK {pre:List AE}{x:AE}(h:chk pre x=0):fm x=true:=by
 unfold chk at h
 split at h
 ·cases h
 ·next h1=>simpa using h1
theorem XJ {pre:List AE}{x:AE}(h:chk pre x=0):x.2.1=[]\/Hd pre x.2.1=true:=by
 unfold chk at h
 split at h
 ·cases h
 split at h
 ·cases h
 split at h
 ·cases h
 split at h
 ·next h4=>exact h4
 ·cases h
theorem P0:∀ (c pre:List AE),H6 pre c->∀ x ∈ c,fm x=true
 | y::r,pre,h,x,hx=>by
  rcases List.mem_cons.1 hx with e | e
  ·rw [e]; exact XK h.1
  ·exact P0 r _ h.2 x e
/-- Ties of a text tie every clause of it. -/
theorem Sc (a b:Am) (i j:Int):∀ (c:List AE) (k:Nat),rsn a b i j c k = .inl ()->∀ x ∈ c,dir x a b i j=0
 | y::r,k,h,x,hx=>by
  rw [Mo] at h
  by_cases q:dir y a b i j=0
  ·rw [if_pos q] at h
   rcases List.mem_cons.1 hx with e | e
   ·rw [e]; exact q
   ·exact Sc a b i j r (k + 1) h x e
  ·rw [if_neg q] at h; cases h
theorem T1 {c:List AE}{a b:Am}{i j:Int}(h:Pm c a b i j=0):∀ x ∈ c,dir x a b i j=0:=by
 rw [My] at h
 rcases TU a b i j c 0 with ⟨u,e⟩ | ⟨w,e,hw⟩
 ·exact Sc a b i j c 0 e
 ·rw [e] at h; exact absurd h hw
theorem XN {x y:Int}(h:KH x y=0):x=y:=by
 unfold KH at h
 split at h
 ·cases h
 split at h
 ·cases h
 ·omega
/-- A text that ranks a rank ties nobody of it with anybody of another rank. -/
theorem Rm {c:List AE}{s:List UInt8}(hc:∀ x ∈ c,fm x=true) (hr:Hd c s=true){a b:Am}{i j:Int}(h:Pm c a b i j=0):(a.2.1==s)=(b.2.1==s):=by
 unfold Hd at hr
 obtain ⟨y,hy,e⟩:=List.any_eq_true.1 hr
 rw [Bool.and_eq_true] at e
 have hd:=T1 h y hy
 have ham:=Yw (hc y hy) e.1
 unfold dir amB at hd
 rw [ham,if_neg (by simp)] at hd
 unfold N2 at hd
 rw [if_pos e.1] at hd
 have hk:=XN hd
 unfold rk at hk
 have hn:rkN a.2.1 y.2.2.2.1 0=rkN b.2.1 y.2.2.2.1 0:=by omega
 by_cases ha:a.2.1=s
 ·have hb:=Qw a.2.1 b.2.1 _ 0 (by rw [ha]; exact e.2) hn
  rw [hb]
 ·by_cases hb:b.2.1=s
  ·have:=Qw b.2.1 a.2.1 _ 0 (by rw [hb]; exact e.2) hn.symm
   exact absurd (this.trans hb) ha
  ·rw [beq_eq_false_iff_ne.2 ha,beq_eq_false_iff_ne.2 hb]
theorem XB (x:AE) (a b:Am):amB x a b=amB x b a:=by
 unfold amB
 cases (x.2.1==[]) <;> cases (a.2.1==x.2.1) <;> cases (b.2.1==x.2.1) <;> rfl
theorem Vj (x:AE) (a b:Am) (i j:Int):Pm [x] a b i j=dir x a b i j:=by
 rw [My,Mo]
 by_cases h:dir x a b i j=0
 ·rw [if_pos h,h]; rfl
 ·rw [if_neg h]
theorem Ti:∀ (c pre:List AE),H6 [] (pre++c)->Wk3 (fun a b:At=>Pm pre a.1.1 b.1.1 a.1.2 b.1.2)->Wk3 (fun a b:At=>Pm (pre++c) a.1.1 b.1.1 a.1.2 b.1.2)
 | [],pre,_,h=>by rw [List.append_nil]; exact h
 | x::r,pre,hg,h=>by
  have e:pre++x::r=(pre++[x])++r:=by simp
  rw [e] at hg ⊢
  refine Ti r (pre++[x]) hg ?_
  have hgx:=(LD (pre++[x]) [] r).1 hg
  have hp:=(LD pre [] [x]).1 hgx.1
  have hchk:chk pre x=0:=by simpa using hp.2.1
  have hfm:=P0 pre [] hp.1
  have ho:=YA x
  have hx:(fun a b:At=>Pm (pre++[x]) a.1.1 b.1.1 a.1.2 b.1.2)=fun a b:At=>if Pm pre a.1.1 b.1.1 a.1.2 b.1.2=0 then dir x a.1.1 b.1.1 a.1.2 b.1.2 else Pm pre a.1.1 b.1.1 a.1.2 b.1.2:=by
   funext a b
   rw [Vi,Vj]
  rw [hx]
  refine X9 h (fun a b=>?_) (fun a b=>?_) (fun a b c h1 h2=>?_)
  ·unfold dir
   split
   ·exact .inr (.inl rfl)
   ·exact ho.v a b
  ·unfold dir
   rw [XB x b.1.1 a.1.1]
   split
   ·rfl
   ·exact ho.s a b
  ·unfold dir
   rcases XJ hchk with ha | ha
   ·have q:∀ u v:Am,amB x u v=false:=fun u v=>by unfold amB; rw [ha]; rfl
    rw [q,q,q,if_neg (by decide),if_neg (by decide),if_neg (by decide)]
    exact ho.t a b c
   ·have t1:=Rm hfm ha h1
    have t2:=Rm hfm ha h2
    unfold amB
    rw [<-t2,<-t1]
    cases (!(x.2.1==[]))
    ·exact ho.t a b c
    ·cases (a.1.1.2.1==x.2.1)
     ·intro _ _; rfl
     ·exact ho.t a b c
theorem Uy (c:List AE) (hg:H6 [] c):Wk3 (fun a b:At=>Pm c a.1.1 b.1.1 a.1.2 b.1.2) :=
 Ti c [] hg ⟨fun _ _=> .inr (.inl rfl),fun _ _=>rfl,fun _ _ _ _ _=>rfl⟩
/- trestle/trestleref03.Goes -/
/- trestle/trestleref03.votes -/
/- trestle/trestleref03.Votes -/
/- trestle/trestleref03.Valid -/
/- trestle/trestleref03.AllValid -/
/-- A loop whose states are known. -/
theorem ZJ {σ ρ:Type}(n:Nat) (S:Nat->σ) (R:Option ρ) (L:Nat->Int->σ->Option ρ) (hn:n<=1000000) (hs:∀ i,i < n->∀ f,L (f + 1) (i:Int) (S i)=L f (wr .i64 ((i:Int) + 1)) (S (i + 1))) (he:∀ f,L (f + 1) (n:Int) (S n)=R):∀ (d i f:Nat),i + d=n->d < f->L f (i:Int) (S i)=R
 | 0,i,f + 1,e,_=>by
  rw [show i=n by omega]
  exact he f
 | d + 1,i,f + 1,e,hf=>by
  rw [hs i (by omega) f,Q6 (by omega) (by omega),show ((i:Int) + 1)=((i + 1:Nat):Int) by omega]
  exact ZJ n S R L hn hs he d (i + 1) f (by omega) (by omega)
theorem MO {σ ρ:Type}(n:Nat) (S:Nat->σ) (R:Option ρ) (L:Nat->Int->σ->Option ρ) (hn:n<=99999) (hs:∀ i,i < n->∀ f,L (f + 1) (i:Int) (S i)=L f (wr .i64 ((i:Int) + 1)) (S (i + 1))) (he:∀ f,L (f + 1) (n:Int) (S n)=R):L 100000 0 (S 0)=R :=
 ZJ n S R L (by omega) hs he n 0 100000 (by omega) (by omega)
/-- A valid text, as it is checked. -/
theorem Pk (c:List AE):∀ (r pre:List AE),c=pre++r->(∃ u,RF c r pre.length = .inl u)->H6 pre r
 | [],_,_,_=>trivial
 | x::r,pre,e,⟨u,h⟩=>by
  unfold RF at h
  rw [show c.take pre.length=pre by rw [e]; simp] at h
  by_cases hx:chk pre x=0
  ·rw [if_neg (by simpa using hx)] at h
   exact ⟨hx,Pk c r (pre++[x]) (by rw [e]; simp) ⟨u,by simpa using h⟩⟩
  ·rw [if_pos hx] at h; cases h
theorem Jt {c:List AE}(h:(MN c).2=0):c.length<=32/\H6 [] c:=by
 unfold MN at h
 split at h
 ·cases h
 ·next hl =>
  refine ⟨by omega,Pk c c [] rfl ?_⟩
  rcases O0 c c 0 with ⟨u,h1,_⟩ | ⟨w,h1,h2⟩
  ·exact ⟨u,h1⟩
  ·rw [h1] at h; exact absurd h h2
theorem UZ (c:List AE) (h:few c):D0 c=some (if (MN c).2=0 then (c,true) else ([],false)):=by
 unfold D0
 rw [Qc c h,OS]
 by_cases hv:(MN c).2=0
 ·have e0:Cp c 100000 [] 0=some c:=NP c h (Kx hv) c [] 100000 rfl (by have:=h.1; omega)
  rw [if_neg (by simpa using hv),if_pos hv,e0]; rfl
 ·rw [if_pos (by simpa using hv),if_neg hv]
/-- Guests at their places. -/
def Dc:List Am->Nat->List Ai
 | [],_=>[]
 | g::r,i=>(g,(i:Int))::Dc r (i + 1)
theorem KN:∀ (g:List Am) (i:Nat),(Dc g i).length=g.length
 | [],_=>rfl
 | _::r,i=>by simp [Dc,KN r (i + 1)]
theorem Ob:∀ (g:List Am) (i k:Nat),(Dc g i)[k]? = (g[k]?).map fun x=>(x,((i + k:Nat):Int))
 | [],_,_=>by simp [Dc]
 | x::r,i,0=>by simp [Dc]
 | x::r,i,k + 1=>by
  simp only [Dc,List.getElem?_cons_succ]
  rw [Ob r (i + 1) k,show i + 1 + k=i + (k + 1) by omega]
theorem NQ:∀ (g:List Am) (x:Am) (i:Nat),Dc (g++[x]) i=Dc g i++[(x,((i + g.length:Nat):Int))]
 | [],x,i=>by simp [Dc]
 | y::r,x,i=>by
  simp only [List.cons_append,Dc,NQ r x (i + 1),List.length_cons]
  rw [show i + 1 + r.length=i + (r.length + 1) by omega]
theorem Xg (g:List Am) (h:g.length<=99999):Gh g=some (Dc g 0):=by
 unfold Gh
 have:Co g 100000 [] 0=some (Dc g 0):=by
  have:=MO (σ:=List Ai) g.length (fun i=>Dc (g.take i) 0) (some (Dc g 0)) (fun f c s=>Co g f s c) h (fun i hi f=>by
   show Co g (f + 1) (Dc (g.take i) 0) (i:Int)=_
   conv=>lhs; unfold Co
   rw [if_pos (by simp; omega),H3 hi,OS,if_pos (It (by omega) (by rw [KN]; simp; omega))]
   have e:Dc (g.take (i + 1)) 0=Dc (g.take i) 0++[(g[i],(i:Int))]:=by
    rw [List.take_succ_eq_append_getElem hi,NQ]; simp; omega
   show _=Co g f (Dc (g.take (i + 1)) 0) _
   rw [e]) (fun f=>by
   show Co g (f + 1) (Dc (g.take g.length) 0) (g.length:Int)=_
   conv=>lhs; unfold Co
   rw [if_neg (by simp),List.take_length])
  exact this
 rw [this]; rfl
/-- What a text says of the guests at two places. -/
def dG:Am:=([],[],[],0,0,[],false,false,[])
def gAt (g:List Am) (x:Nat):Am:=g.getD x dG
def cm (c:List AE) (g:List Am) (x y:Nat):Int:=Pm c (gAt g x) (gAt g y) (x:Int) (y:Int)
theorem XX {x:Nat}(h:x < 64):P2 (x:Int)=true:=by simp [P2]; omega
/-- Who sits in a row of at most 64. -/
abbrev Pl:={ x:Nat // x < 64 }
theorem Ux {c:List AE}(g:List Am) (hg:H6 [] c):Wk3 (fun a b:Pl=>cm c g a.1 b.1) :=
 let h:=Uy c hg
 let k:Pl->At:=fun a=>⟨(gAt g a.1,(a.1:Int)),XX a.2⟩
 ⟨fun a b=>h.v (k a) (k b),fun a b=>h.s (k a) (k b),fun a b d=>h.t (k a) (k b) (k d)⟩
theorem YJ {c:List AE}{g:List Am}(hg:H6 [] c){x y:Nat}(hx:x < 64) (hy:y < 64):cm c g x y = -1\/cm c g x y=0\/cm c g x y=1:=(Ux g hg).v ⟨x,hx⟩ ⟨y,hy⟩
theorem XM {c:List AE}{g:List Am}(hg:H6 [] c){x y:Nat}(hx:x < 64) (hy:y < 64):cm c g x y = - cm c g y x:=(Ux g hg).s ⟨x,hx⟩ ⟨y,hy⟩
theorem ZH {c:List AE}{g:List Am}(hg:H6 [] c){x:Nat}(hx:x < 64):cm c g x x=0:=by have:=XM (g:=g) hg hx hx; omega
/-- Few guests, their places. -/
structure FewR (g:List Am):Prop where
 n:g.length<=64
 f:∀ x ∈ g,QU x
theorem FewR.at_ {g:List Am}(h:FewR g){x:Nat}(hx:x < g.length):QU (gAt g x):=h.f _ (by unfold gAt; rw [List.getD_eq_getElem?_getD,List.getElem?_eq_getElem hx]; exact List.getElem_mem hx)
theorem QA (g:List Am){x:Nat}(hx:x < g.length):idx (Dc g 0) (x:Int)=some (gAt g x,(x:Int)):=by
 unfold idx
 rw [if_pos (by omega),Int.toNat_natCast,Ob,List.getElem?_eq_getElem hx]
 simp [gAt,hx]
theorem XW (g:List Am){x:Nat}(hx:x < g.length):idx g (x:Int)=some (gAt g x):=by
 rw [H3 hx]; simp [gAt,hx]
/-- Tables of numbers. -/
def QF (n:Nat) (f:Nat->Int):List Int:=(List.range n).map f
def H4 (n:Nat) (M:Nat->Nat->Int):List (List Int):=(List.range n).map fun x=>QF n (M x)
theorem Uj (n:Nat) (f:Nat->Int):(QF n f).length=n:=by simp [QF]
theorem UP (n:Nat) (M:Nat->Nat->Int):(H4 n M).length=n:=by simp [H4]
theorem PL {n:Nat}{f:Nat->Int}{x:Nat}(h:x < n):idx (QF n f) (x:Int)=some (f x):=by
 rw [H3 (by rw [Uj]; exact h)]; simp [QF]
theorem O7 {n:Nat}{M:Nat->Nat->Int}{x:Nat}(h:x < n):idx (H4 n M) (x:Int)=some (QF n (M x)):=by
 rw [H3 (by rw [UP]; exact h)]; simp [H4]
theorem O6 {α:Type}(n:Nat) (f h:Nat->α) (x:Nat) (v:α) (hx:h x=v) (hn:∀ y,y≠x->h y=f y):((List.range n).map f).set x v=(List.range n).map h:=by
 apply List.ext_getElem?
 intro i
 rw [List.getElem?_set]
 simp only [List.getElem?_map,List.length_map,List.length_range]
 by_cases e:x=i
 ·subst e
  rw [if_pos rfl]
  split
  ·next h1=>rw [List.getElem?_range h1]; simp [hx]
  ·next h1=>rw [List.getElem?_eq_none (by simp; omega)]; rfl
 ·rw [if_neg e]
  by_cases hi:i < n
  ·rw [List.getElem?_range hi]; simp [hn i (Ne.symm e)]
  ·rw [List.getElem?_eq_none (by simp; omega)]; rfl
theorem Uk {n x:Nat}{f h:Nat->Int}{v:Int}(hx:h x=v) (hn:∀ y,y≠x->h y=f y):(QF n f).set x v=QF n h:=O6 n f h x v hx hn
theorem UQ {n x:Nat}{M K:Nat->Nat->Int}{r:List Int}(hx:QF n (K x)=r) (hn:∀ z,z≠x->K z=M z):(H4 n M).set x r=H4 n K :=
 O6 n _ _ x r hx fun z hz=>by rw [hn z hz]
/-- One more in a table. -/
def VZ (M:Nat->Nat->Int) (x y:Nat):Nat->Nat->Int:=fun a b=>if a=x/\b=y then M a b + 1 else M a b
theorem P6 {n x y:Nat}{M:Nat->Nat->Int}:(H4 n M).set x ((QF n (M x)).set y (M x y + 1))=H4 n (VZ M x y):=by
 refine UQ ?_ fun z hz=>?_
 ·rw [Uk (h:=fun b=>VZ M x y x b) (by simp [VZ]) (fun b hb=>by simp [VZ,hb])]
 ·funext b; simp [VZ,hz]
section
variable {c:List AE}{g:List Am}(hc:few c) (hv:(MN c).2=0) (hg:FewR g)
include hc hv hg
theorem UE {x y:Nat}(hx:x < g.length) (hy:y < g.length):∃ k,Ah c (gAt g x,(x:Int)) (gAt g y,(y:Int))=some (k,cm c g x y) :=
 ⟨_,So c (gAt g x) (gAt g y) x y hc (Kx hv) (hg.at_ hx) (hg.at_ hy)⟩
/-- What a text adds to the table. -/
def dl (c:List AE) (g:List Am) (x y:Nat):Int:=if cm c g x y = -1 then 1 else 0
def Hh (M:Nat->Nat->Int) (c:List AE) (g:List Am) (i k:Nat):Nat->Nat->Int:=fun x y=>M x y + if (x=i/\y < k)\/(y=i/\x < k) then dl c g x y else 0
theorem Uo (M:Nat->Nat->Int) (B:Int) (hB:B<=1000000) (hM:∀ x y,0<=M x y/\M x y<=B) (i:Nat) (hi:i < g.length):Cb (Dc g 0) (c,true) (i:Int) 100000 0 (H4 g.length M)=some (H4 g.length (Hh M c g i i)):=by
 have hgd:=(Jt hv).2
 have hn:=hg.n
 have h0:Hh M c g i 0=M:=by funext x y; simp [Hh]
 suffices h1:Cb (Dc g 0) (c,true) (i:Int) 100000 0 (H4 g.length (Hh M c g i 0))=some (H4 g.length (Hh M c g i i)) by rwa [h0] at h1
 refine MO (σ:=List (List Int)) i (fun k=>H4 g.length (Hh M c g i k)) (some (H4 g.length (Hh M c g i i))) (fun f c' s=>Cb (Dc g 0) (c,true) (i:Int) f c' s) (by omega) (fun k hk f=>?_) (fun f=>?_)
 ·show Cb (Dc g 0) (c,true) (i:Int) (f + 1) (k:Int) (H4 g.length (Hh M c g i k))=_
  conv=>lhs; unfold Cb
  obtain ⟨q,hq⟩:=UE hc hv hg hi (show k < g.length by omega)
  have s1:Hh M c g i k i k=M i k:=by unfold Hh; rw [if_neg (by omega)]; omega
  have s2:Hh M c g i k k i=M k i:=by unfold Hh; rw [if_neg (by omega)]; omega
  have b1:=hM i k
  have b2:=hM k i
  have anti:=XM (g:=g) hgd (show i < 64 by omega) (show k < 64 by omega)
  have key:FK (i:Int) (k:Int) (H4 g.length (Hh M c g i k)) (q,cm c g i k)=some (H4 g.length (Hh M c g i (k + 1))):=by
   have other:∀ x y,¬ (x=i/\y=k)->¬ (x=k/\y=i)->Hh M c g i (k + 1) x y=Hh M c g i k x y:=fun x y h1 h2=>by
    unfold Hh
    by_cases e:(x=i/\y < k)\/(y=i/\x < k)
    ·rw [if_pos e,if_pos (by omega)]
    ·rw [if_neg e,if_neg (by omega)]
   have t1:Hh M c g i (k + 1) i k=M i k + dl c g i k:=by unfold Hh; rw [if_pos (by omega)]
   have t2:Hh M c g i (k + 1) k i=M k i + dl c g k i:=by unfold Hh; rw [if_pos (by omega)]
   unfold FK Gn
   rcases YJ (g:=g) hgd (show i < 64 by omega) (show k < 64 by omega) with e | e | e
   ·rw [e,if_pos (by rfl),O7 hi,OS,PL (by omega),OS,OS,s1,Q6 (by omega) (by omega),Int.toNat_natCast,Int.toNat_natCast,<-s1,P6]
    congr 2
    funext x y
    unfold VZ
    by_cases h1:x=i/\y=k
    ·rw [if_pos h1,h1.1,h1.2,s1,t1]; unfold dl; rw [if_pos e]
    ·rw [if_neg h1]
     by_cases h2:x=k/\y=i
     ·rw [h2.1,h2.2,s2,t2]; unfold dl; rw [if_neg (by omega)]; omega
     ·exact (other x y h1 h2).symm
   ·rw [e,if_neg (by simp),if_neg (by simp),OS]
    congr 2
    funext x y
    by_cases h1:x=i/\y=k
    ·rw [h1.1,h1.2,s1,t1]; unfold dl; rw [if_neg (by omega)]; omega
    ·by_cases h2:x=k/\y=i
     ·rw [h2.1,h2.2,s2,t2]; unfold dl; rw [if_neg (by omega)]; omega
     ·exact (other x y h1 h2).symm
   ·rw [e,if_neg (by simp),if_pos (by rfl),O7 (show k < g.length by omega),OS,PL hi,OS,OS,s2,Q6 (by omega) (by omega),Int.toNat_natCast,Int.toNat_natCast,<-s2,P6,OS]
    congr 2
    funext x y
    unfold VZ
    by_cases h1:x=k/\y=i
    ·rw [if_pos h1,h1.1,h1.2,s2,t2]; unfold dl; rw [if_pos (by omega)]
    ·rw [if_neg h1]
     by_cases h2:x=i/\y=k
     ·rw [h2.1,h2.2,s1,t1]; unfold dl; rw [if_neg (by omega)]; omega
     ·exact (other x y h2 h1).symm
  rw [if_pos (by simp; omega),QA g hi,OS,QA g (by omega),OS,hq,OS,key,OS]
 ·show Cb (Dc g 0) (c,true) (i:Int) (f + 1) (i:Int) (H4 g.length (Hh M c g i i))=_
  conv=>lhs; unfold Cb
  rw [if_neg (by simp)]
def KT (M:Nat->Nat->Int) (c:List AE) (g:List Am) (m:Nat):Nat->Nat->Int:=fun x y=>M x y + if x < m/\y < m then dl c g x y else 0
theorem Ta (M:Nat->Nat->Int) (B:Int) (hB:B<=10000) (hM:∀ x y,0<=M x y/\M x y<=B):Ca (Dc g 0) (c,true) 100000 0 (H4 g.length M)=some (H4 g.length (KT M c g g.length)):=by
 have hgd:=(Jt hv).2
 have hn:=hg.n
 have h0:KT M c g 0=M:=by funext x y; simp [KT]
 have hd:∀ x y,0<=dl c g x y/\dl c g x y<=1:=fun x y=>by unfold dl; split <;> omega
 have h1:Ca (Dc g 0) (c,true) 100000 0 (H4 g.length (KT M c g 0))=some (H4 g.length (KT M c g g.length)):=by
  refine MO (σ:=List (List Int)) g.length (fun k=>H4 g.length (KT M c g k)) (some (H4 g.length (KT M c g g.length))) (fun f c' s=>Ca (Dc g 0) (c,true) f c' s) (by omega) (fun i hi f=>?_) (fun f=>?_)
  ·show Ca (Dc g 0) (c,true) (f + 1) (i:Int) (H4 g.length (KT M c g i))=_
   conv=>lhs; unfold Ca
   have e:Hh (KT M c g i) c g i i=KT M c g (i + 1):=by
    funext x y
    unfold Hh KT
    by_cases h1:x < i/\y < i
    ·rw [if_pos h1,if_neg (by omega),if_pos (by omega)]; omega
    ·rw [if_neg h1]
     by_cases h2:(x=i/\y < i)\/(y=i/\x < i)
     ·rw [if_pos h2,if_pos (by omega)]; omega
     ·rw [if_neg h2]
      by_cases h3:x < i + 1/\y < i + 1
      ·rw [if_pos h3]
       have:x=i/\y=i:=by omega
       rw [this.1,this.2]
       have:=ZH (g:=g) hgd (show i < 64 by omega)
       unfold dl; rw [if_neg (by omega)]; omega
      ·rw [if_neg h3]; omega
   rw [if_pos (by rw [KN]; simp; omega),Uo hc hv hg (KT M c g i) (B + 1) (by omega) (fun x y=>by
    have:=hM x y; have:=hd x y
    unfold KT; split <;> omega) i hi,OS,e]
  ·show Ca (Dc g 0) (c,true) (f + 1) (g.length:Int) (H4 g.length (KT M c g g.length))=_
   conv=>lhs; unfold Ca
   rw [if_neg (by rw [KN]; simp)]
 rwa [h0] at h1
end
/-- How many texts put x before y. -/
def vt (l:List (List AE)) (g:List Am) (x y:Nat):Int:=((l.countP fun c=>cm c g x y == -1:Nat):Int)
theorem Q3 (l:List (List AE)) (c:List AE) (g:List Am) (x y:Nat):vt (l++[c]) g x y=vt l g x y + dl c g x y:=by
 unfold vt dl
 rw [List.countP_append]
 by_cases h:cm c g x y = -1 <;> simp [h]
theorem Tf (l:List (List AE)) (g:List Am) (x y:Nat):0<=vt l g x y/\vt l g x y<=l.length:=by
 unfold vt
 have:=List.countP_le_length (p:=fun c=>cm c g x y == -1) (l:=l)
 omega
theorem R9 {n:Nat}{M K:Nat->Nat->Int}(h:∀ x y,x < n->y < n->M x y=K x y):H4 n M=H4 n K:=by
 unfold H4
 refine List.map_congr_left fun x hx=>?_
 unfold QF
 exact List.map_congr_left fun y hy=>h x y (List.mem_range.1 hx) (List.mem_range.1 hy)
def okT (l:List (List AE)):Bool:=l.all fun c=>decide ((MN c).2=0)
section
variable {l:List (List AE)}{g:List Am}(hl:∀ c ∈ l,few c) (hg:FewR g)
include hl hg
theorem Rk (h16:l.length<=16):∀ (r pre:List (List AE)) (f:Nat),l=pre++r->r.length < f->okT pre=true->D5 l (Dc g 0) f (pre.length:Int) (H4 g.length (vt pre g))=some (if okT l=true then .inl (H4 g.length (vt l g)) else .inr ())
 | [],pre,f + 1,e,_,hv=>by
  have e':l=pre:=by rw [e]; simp
  unfold D5
  rw [if_neg (by rw [e']; simp),e',if_pos hv]
 | c::r,pre,f + 1,e,hf,hv=>by
  have hcf:few c:=hl c (by rw [e]; simp)
  have hll:l.length=pre.length + r.length + 1:=by rw [e]; simp; omega
  unfold D5
  rw [if_pos (by rw [e]; exact Hc pre c r),show idx l (pre.length:Int)=some c by rw [e,FJ],OS,UZ c hcf,OS]
  by_cases h0:(MN c).2=0
  ·rw [if_pos h0]
   have hM:=Ta hcf h0 hg (vt pre g) pre.length (by omega) (fun x y=>Tf pre g x y)
   have e2:H4 g.length (KT (vt pre g) c g g.length)=H4 g.length (vt (pre++[c]) g):=R9 fun x y hx hy=>by
    rw [Q3]; unfold KT; rw [if_pos ⟨hx,hy⟩]
   rw [if_neg (by simp),hM,OS,e2,show wr .i64 ((pre.length:Int) + 1)=((pre++[c]).length:Int) from Fe pre c r (by rw [<-e]; omega)]
   exact Rk h16 r (pre++[c]) f (by rw [e]; simp) (by simp at hf; omega) (by unfold okT at hv ⊢; rw [List.all_append,hv]; simp [h0])
  ·rw [if_neg h0,if_pos (by rfl),if_neg]
   unfold okT
   rw [e,List.all_append]
   simp [h0]
/-- The table of the program. -/
theorem Qz:Ea l g=some (if l.length<=16/\okT l=true then (H4 g.length (vt l g),true) else ([],false)):=by
 have hn:=hg.n
 unfold Ea
 by_cases h16:l.length<=16
 ·have j:(if (decide ((l.length:Int) > 16))=true then some true else some (decide ((g.length:Int) > 64)))=some false:=by
   rw [if_neg (by simp; omega)]; simp; omega
  rw [j,OS,if_neg (by simp),if_pos (by simp [OD]; omega)]
  have z:Ck g 100000 0 (List.replicate (g.length:Int).toNat ([]:List Int))=some (H4 g.length (vt [] g)):=by
   have:=MO (σ:=List (List Int)) g.length (fun i=>(List.range g.length).map fun x=>if x < i then QF g.length (vt [] g x) else []) (some (H4 g.length (vt [] g))) (fun f c' s=>Ck g f c' s) (by omega) (fun i hi f=>by
    show Ck g (f + 1) (i:Int) ((List.range g.length).map fun x=>if x < i then QF g.length (vt [] g x) else [])=_
    conv=>lhs; unfold Ck
    rw [if_pos (by simp; omega),if_pos (by simp [OD]; omega),H3 (by simpa using hi),OS,Int.toNat_natCast,Int.toNat_natCast]
    rw [O6 g.length _ (fun x=>if x < i + 1 then QF g.length (vt [] g x) else []) i _ (by
     rw [if_pos (by omega)]
     unfold QF
     apply List.ext_getElem <;> simp [vt]) (fun y hy=>by
     by_cases h1:y < i
     ·rw [if_pos (by omega),if_pos h1]
     ·rw [if_neg (by omega),if_neg h1])]) (fun f=>by
    show Ck g (f + 1) (g.length:Int) ((List.range g.length).map fun x=>if x < g.length then QF g.length (vt [] g x) else [])=_
    conv=>lhs; unfold Ck
    rw [if_neg (by simp)]
    congr 1
    unfold H4
    exact List.map_congr_left fun x hx=>by rw [if_pos (List.mem_range.1 hx)])
   rw [<-this]
   congr 1
   apply List.ext_getElem <;> simp
  have t:=Rk hl hg h16 l [] 100000 rfl (by omega) rfl
  rw [z,OS,Xg g (by omega),OS]
  rw [show ((([]:List (List AE)).length:Nat):Int)=0 from rfl] at t
  rw [t,OS]
  by_cases hv:okT l=true
  ·rw [if_pos hv,if_pos ⟨h16,hv⟩]
  ·rw [if_neg hv,if_neg (fun h=>hv h.2)]
 ·have j:(if (decide ((l.length:Int) > 16))=true then some true else some (decide ((g.length:Int) > 64)))=some true:=by
   rw [if_pos (by simp; omega)]
  rw [j,OS,if_pos rfl,if_neg (fun h=>h16 h.1)]
end
theorem PC:∀ {l m:List Int},l.Nodup->(∀ x ∈ l,x ∈ m)->l.length<=m.length
 | [],_,_,_=>Nat.zero_le _
 | x::l,m,h,s=>by
  obtain ⟨h1,h2⟩:=List.nodup_cons.1 h
  have hx:=s x (by simp)
  have:=PC (l:=l) (m:=m.erase x) h2 fun y hy=>(List.mem_erase_of_ne (fun e:y=x=>h1 (e ▸ hy))).2 (s y (List.mem_cons_of_mem _ hy))
  rw [List.length_erase_of_mem hx] at this
  have:0 < m.length:=List.length_pos_of_mem hx
  simp; omega
/-- The numbers below n. -/
def QV (n:Nat):List Int:=(List.range n).map fun (i:Nat)=>(i:Int)
theorem Ej (n:Nat):(QV n).length=n:=by simp [QV]
theorem KL {n:Nat}{v:Int}:v ∈ QV n↔0<=v/\v < n:=by
 unfold QV
 rw [List.mem_map]
 constructor
 ·rintro ⟨i,hi,rfl⟩
  have:=List.mem_range.1 hi
  omega
 ·rintro ⟨h1,h2⟩
  exact ⟨v.toNat,List.mem_range.2 (by omega),by omega⟩
theorem Ok (n:Nat):(QV n).Nodup:=by
 unfold QV
 refine List.Pairwise.map (fun (i:Nat)=>(i:Int)) (fun a b (h:a≠b)=>?_) (List.nodup_range (n:=n))
 simp only [ne_eq]; omega
/-- In the range, none twice. -/
def pmB (n:Nat):List Int->List Int->Bool
 | _,[]=>true
 | pre,v::r=>!(decide (v < 0)||decide (v≥(n:Int))||decide (v ∈ pre))&&pmB n (pre++[v]) r
theorem PI {n:Nat}:∀ {r pre:List Int},pmB n pre r=true->pre.Nodup->(∀ v ∈ pre,0<=v/\v < n)->(pre++r).Nodup/\∀ v ∈ pre++r,0<=v/\v < n
 | [],pre,_,hn,hp=>by simpa using ⟨hn,hp⟩
 | v::r,pre,h,hn,hp=>by
  unfold pmB at h
  simp only [Bool.and_eq_true,Bool.not_eq_true',Bool.or_eq_false_iff,decide_eq_false_iff_not] at h
  obtain ⟨⟨⟨h1,h2⟩,h3⟩,h4⟩:=h
  have:=PI (r:=r) (pre:=pre++[v]) h4 (List.nodup_append.2 ⟨hn,by simp,fun a ha b hb e=>by
   simp at hb; subst hb e; exact h3 ha⟩) (fun w hw=>by
   rcases List.mem_append.1 hw with hw | hw
   ·exact hp w hw
   ·simp at hw; subst hw; omega)
  simpa using this
theorem QB {n:Nat}:∀ {r pre:List Int},pmB n pre r=false->∃ (p:List Int) (v:Int) (q:List Int),pre++r=p++v::q/\(¬ (0<=v/\v < n)\/v ∈ p)
 | [],pre,h=>by cases h
 | v::r,pre,h=>by
  unfold pmB at h
  by_cases hb:¬ (0<=v/\v < n)\/v ∈ pre
  ·exact ⟨pre,v,r,rfl,hb⟩
  ·have hb':(decide (v < 0)||decide (v≥(n:Int))||decide (v ∈ pre))=false:=by
    simp only [Bool.or_eq_false_iff,decide_eq_false_iff_not]
    refine ⟨⟨?_,?_⟩,fun h=>hb (.inr h)⟩
    ·intro h; exact hb (.inl (by omega))
    ·intro h; exact hb (.inl (by omega))
   rw [hb'] at h
   obtain ⟨p,w,q,h1,h2⟩:=QB (r:=r) (pre:=pre++[v]) (by simpa using h)
   exact ⟨p,w,q,by rw [<-h1]; simp,h2⟩
/-- Both tests of a permutation say the same. -/
theorem Xu (n:Nat) (o:List Int):(pmB n [] o=true/\o.length=n)↔(o.length=n/\∀ w:Nat,w < n->(w:Int) ∈ o):=by
 constructor
 ·rintro ⟨h,hl⟩
  obtain ⟨h1,h2⟩:=PI h List.nodup_nil (fun v hv=>by cases hv)
  simp only [List.nil_append] at h1 h2
  refine ⟨hl,fun w hw=>?_⟩
  by_cases hin:(w:Int) ∈ o
  ·exact hin
  ·have:=PC (l:=(w:Int)::o) (m:=QV n) (List.nodup_cons.2 ⟨hin,h1⟩) (fun x hx=>by
    rcases List.mem_cons.1 hx with rfl | hx
    ·exact KL.2 (by omega)
    ·exact KL.2 (h2 x hx))
   rw [Ej] at this
   simp at this
   omega
 ·rintro ⟨hl,hw⟩
  refine ⟨?_,hl⟩
  cases h:pmB n [] o with
  | true=>rfl
  | false =>
   obtain ⟨p,v,q,h1,h2⟩:=QB h
   simp only [List.nil_append] at h1
   have:=PC (l:=QV n) (m:=p++q) (Ok n) (fun x hx=>by
    have hr:=KL.1 hx
    have:=hw x.toNat (by omega)
    rw [show ((x.toNat:Nat):Int)=x by omega,h1] at this
    rcases List.mem_append.1 this with h3 | h3
    ·exact List.mem_append_left _ h3
    ·rcases List.mem_cons.1 h3 with e | h3
     ·subst e
      rcases h2 with h2 | h2
      ·exact absurd hr h2
      ·exact List.mem_append_left _ h2
     ·exact List.mem_append_right _ h3)
   rw [Ej] at this
   have hl2:=congrArg List.length h1
   simp at hl2 this
   omega
def VA (n:Nat) (o:List Int):Bool:=pmB n [] o&&decide (o.length=n)
theorem UH {n:Nat}{o:List Int}(h:VA n o=true):∀ v ∈ o,0<=v/\v < n:=by
 unfold VA at h
 simp only [Bool.and_eq_true] at h
 exact (PI h.1 List.nodup_nil (fun v hv=>by cases hv)).2
/-- Sums. -/
def Ew {α:Type}(f:α->Int):List α->Int
 | []=>0
 | x::r=>f x + Ew f r
theorem KP {α:Type}(f:α->Int):∀ a b:List α,Ew f (a++b)=Ew f a + Ew f b
 | [],b=>by simp [Ew]
 | x::a,b=>by simp only [List.cons_append,Ew,KP f a b]; omega
theorem Ku {α:Type}{f:α->Int}{B:Int}:∀ {l:List α},(∀ x ∈ l,0<=f x/\f x<=B)->0<=Ew f l/\Ew f l<=l.length * B
 | [],_=>by simp [Ew]
 | x::l,h=>by
  have h1:=h x (by simp)
  have h2:=Ku (l:=l) fun y hy=>h y (List.mem_cons_of_mem _ hy)
  simp only [Ew,List.length_cons]
  have:((l.length + 1:Nat):Int) * B=l.length * B + B:=by rw [Int.natCast_add,Int.add_mul]; simp
  rw [this]
  omega
/-- The sum over the pairs of an order: W of the later and the earlier one. -/
def prS (W:Int->Int->Int):List Int->Int
 | []=>0
 | x::r=>Ew (fun y=>W y x) r + prS W r
theorem QC {W:Int->Int->Int}{B:Int}(hB:0<=B):∀ {l:List Int},(∀ x ∈ l,∀ y ∈ l,0<=W x y/\W x y<=B)->0<=prS W l/\prS W l<=l.length * (l.length * B)
 | [],_=>by simp [prS]
 | x::l,h=>by
  have h1:=Ku (f:=fun y=>W y x) (l:=l) (B:=B) fun y hy=>h y (List.mem_cons_of_mem _ hy) x (by simp)
  have h2:=QC hB (l:=l) fun a ha b hb=>h a (List.mem_cons_of_mem _ ha) b (List.mem_cons_of_mem _ hb)
  simp only [prS,List.length_cons]
  have e:((l.length + 1:Nat):Int) * (((l.length + 1:Nat):Int) * B)=l.length * (l.length * B) + l.length * B + (l.length * B + B):=by
   rw [Int.natCast_add]
   simp only [Int.add_mul,Int.mul_add,Int.one_mul,Int.natCast_one]
  rw [e]
  have:0<=(l.length:Int) * B:=Int.mul_nonneg (by omega) hB
  omega
/- trestle/trestleref03.Disagreements -/
/- trestle/trestleref03.all -/
/- trestle/trestlekit.CopyInts -/
/- trestle/trestleref03.next -/
/- trestle/trestleref03.Compromise -/
/-- Two numbers with their orders: the first one, unless the second one is less. -/
def mrg:Option (Int×List Int)->Option (Int×List Int)->Option (Int×List Int)
 | none,b=>b
 | a,none=>a
 | some a,some b=>some (if b.1 < a.1 then b else a)
theorem UR (a:Option (Int×List Int)):mrg a none=a:=by cases a <;> rfl
theorem UU (a:Option (Int×List Int)):mrg none a=a:=rfl
/-- All numbers grow by the same, all orders get the same head. -/
def shf (k x:Int) (q:Int×List Int):Int×List Int:=(q.1 + k,x::q.2)
/-- Which one it is. -/
theorem Xl {a b:Option (Int×List Int)}{q:Int×List Int}(h:mrg a b=some q):a=some q\/b=some q:=by
 cases a with
 | none=>exact .inr h
 | some a =>
  cases b with
  | none=>exact .inl h
  | some b =>
   simp only [mrg,Option.some.injEq] at h
   by_cases hb:b.1 < a.1
   ·rw [if_pos hb] at h; exact .inr (by rw [h])
   ·rw [if_neg hb] at h; exact .inl (by rw [h])
theorem Mj {α:Type}{F:α->Option (Int×List Int)}{q:Int×List Int}:∀ {l:List α}{s:Option (Int×List Int)},l.foldl (fun s x=>mrg s (F x)) s=some q->s=some q\/∃ x ∈ l,F x=some q
 | [],s,h=> .inl h
 | x::l,s,h=>by
  rcases Mj (l:=l) h with h | ⟨y,hy,h⟩
  ·rcases Xl h with h | h
   ·exact .inl h
   ·exact .inr ⟨x,by simp,h⟩
  ·exact .inr ⟨y,by simp [hy],h⟩
theorem LJ {f:Int->Int}{a b:List Int}(h:a.Perm b):Ew f a=Ew f b:=by
 induction h with
 | nil=>rfl
 | cons x _ ih=>simp only [Ew,ih]
 | swap x y l=>simp only [Ew]; omega
 | trans _ _ h1 h2=>exact h1.trans h2
/-- The best, one by one from the front. -/
def BB (W:Int->Int->Int):Nat->List Int->Option (Int×List Int)
 | 0,_=>some (0,[])
 | k + 1,l=>l.foldl (fun s x=>mrg s ((BB W k (l.erase x)).map (shf (Ew (fun y=>W y x) (l.erase x)) x))) none
/-- The best is one of them. -/
theorem Ka {W:Int->Int->Int}:∀ (k:Nat){l:List Int}{q:Int×List Int},l.length=k->BB W k l=some q->q.2.Perm l/\q.1=prS W q.2
 | 0,l,q,h,e=>by
  have:l=[]:=List.eq_nil_of_length_eq_zero h
  subst this
  unfold BB at e
  obtain rfl:=OI e
  exact ⟨.nil,rfl⟩
 | k + 1,l,q,h,e=>by
  unfold BB at e
  rcases Mj e with e | ⟨x,hx,e⟩
  ·cases e
  ·obtain ⟨q',h1,rfl⟩:=Option.map_eq_some_iff.1 e
   obtain ⟨p1,p2⟩:=Ka k (by rw [List.length_erase_of_mem hx]; omega) h1
   refine ⟨(List.Perm.cons x p1).trans (List.perm_cons_erase hx).symm,?_⟩
   simp only [shf,prS]
   rw [LJ p1,p2,Int.add_comm]
theorem US (a:Option (Int×List Int)) (b:Int×List Int):∃ q,mrg a (some b)=some q:=by
 cases a with
 | none=>exact ⟨b,rfl⟩
 | some a=>exact ⟨_,rfl⟩
theorem OT {α:Type}{F:α->Option (Int×List Int)}:∀ (l:List α) (s:Option (Int×List Int)),(∀ x ∈ l,∃ q,F x=some q)->(l=[]->∃ q,s=some q)->∃ q,l.foldl (fun s x=>mrg s (F x)) s=some q
 | [],s,_,h=>h rfl
 | x::l,s,h,_=>by
  obtain ⟨q,hq⟩:=h x (by simp)
  rw [List.foldl_cons]
  refine OT l _ (fun y hy=>h y (List.mem_cons_of_mem _ hy)) fun _=>?_
  rw [hq]; exact US s q
theorem Ow (W:Int->Int->Int):∀ (k:Nat) (l:List Int),l.length=k->∃ q,BB W k l=some q
 | 0,_,_=>⟨_,rfl⟩
 | k + 1,l,h=>by
  unfold BB
  refine OT l none (fun x hx=>?_) fun e=>by rw [e] at h; simp at h
  obtain ⟨q,hq⟩:=Ow W k (l.erase x) (by rw [List.length_erase_of_mem hx]; omega)
  rw [hq]; exact ⟨_,rfl⟩
/-- The rest of the best is the best of the rest. -/
theorem VX {W:Int->Int->Int}{k:Nat}{l:List Int}{v x:Int}{o:List Int}(e:BB W (k + 1) l=some (v,x::o)):x ∈ l/\∃ u,BB W k (l.erase x)=some (u,o):=by
 unfold BB at e
 rcases Mj e with e | ⟨y,hy,e⟩
 ·cases e
 ·obtain ⟨q',h1,h2⟩:=Option.map_eq_some_iff.1 e
  simp only [shf,Prod.mk.injEq,List.cons.injEq] at h2
  obtain ⟨_,rfl,rfl⟩:=h2
  exact ⟨hy,_,h1⟩
/-- Those below n that are not in the set. -/
def RN (n s:Nat):List Int:=((List.range n).filter fun x=>!s.testBit x).map fun (i:Nat)=>(i:Int)
theorem XE:∀ s:Nat,s < 128->∀ x:Nat,x < 7->((DS .i64 (s:Int) (wr .i64 (1 * 2 ^ min (x:Int).toNat 64)))==0)=!s.testBit x:=by decide +kernel
theorem ZO:∀ s:Nat,s < 128->∀ x:Nat,x < 7->orI .i64 (s:Int) (wr .i64 (1 * 2 ^ min (x:Int).toNat 64))=((s ||| 2 ^ x:Nat):Int):=by decide +kernel
def ZP (n s x:Nat):Bool:=s.testBit x||(Nat.blt (s ||| 2 ^ x) (2 ^ n)&&Nat.blt s (s ||| 2 ^ x)&&RN n (s ||| 2 ^ x)==(RN n s).erase (x:Int)&&(RN n s).elem (x:Int))
theorem Xw:((List.range 8).all fun n=>(List.range (2 ^ n)).all fun s=>(List.range n).all fun x=>ZP n s x)=true:=by kernel_rfl
theorem WY (n:Nat) (h:n < 8) (s:Nat) (hs:s < 2 ^ n) (x:Nat) (hx:x < n) (ht:s.testBit x=false):s ||| 2 ^ x < 2 ^ n/\s < s ||| 2 ^ x/\RN n (s ||| 2 ^ x)=(RN n s).erase (x:Int)/\(x:Int) ∈ RN n s:=by
 have h1:=List.all_eq_true.1 (List.all_eq_true.1 (List.all_eq_true.1 Xw n (List.mem_range.2 h)) s (List.mem_range.2 hs)) x (List.mem_range.2 hx)
 unfold ZP at h1
 rw [ht,Bool.false_or,Bool.and_eq_true,Bool.and_eq_true,Bool.and_eq_true,beq_iff_eq] at h1
 obtain ⟨⟨⟨h2,h3⟩,h4⟩,h5⟩:=h1
 exact ⟨Nat.le_of_ble_eq_true h2,Nat.le_of_ble_eq_true h3,h4,List.elem_iff.1 h5⟩
theorem Rb:∀ n:Nat,n < 8->∀ s:Nat,s < 2 ^ n->(RN n s=[]↔s=2 ^ n - 1):=by decide +kernel
theorem Zc:∀ n:Nat,n < 8->RN n 0=QV n:=by decide +kernel
theorem Rs:∀ n:Nat,n < 8->wr .i64 ((wr .i64 (1 * 2 ^ min (n:Int).toNat 64)) - 1)=((2 ^ n - 1:Nat):Int)/\2 ^ n<=128/\0 < 2 ^ n:=by decide +kernel
theorem TQ (n s:Nat):RN (n + 1) s=if s.testBit n then RN n s else RN n s++[(n:Int)]:=by
 unfold RN
 rw [List.range_succ,List.filter_append,List.map_append]
 cases h:s.testBit n with
 | true=>simp [h]
 | false=>simp [h]
theorem VJ {n s:Nat}{x:Int}(h:x ∈ RN n s):∃ i:Nat,x=(i:Int)/\i < n/\s.testBit i=false:=by
 unfold RN at h
 obtain ⟨i,hi,rfl⟩:=List.mem_map.1 h
 have:=List.mem_filter.1 hi
 exact ⟨i,rfl,List.mem_range.1 this.1,by simpa using this.2⟩
theorem VI (n s:Nat):(RN n s).length<=n:=by
 unfold RN
 rw [List.length_map]
 have:=List.length_filter_le (fun x=>!s.testBit x) (List.range n)
 simpa using this
section
variable {g:List Am}(hn:g.length<=7){W:Int->Int->Int}(hW:∀ x y,0<=W x y/\W x y<=16) (h0:∀ x:Nat,x < g.length->W (x:Int) (x:Int)=0){T:List (List Int)}{b:Bool}(hT:∀ u v:Int,0<=u/\u < g.length->0<=v/\v < g.length->∃ r,idx T u=some r/\idx r v=some (W u v))
include hn hW hT in
theorem ZZ (s:Nat) (hs:s < 128) (c21 c22:List Int) (x:Nat) (hx:x < g.length) (v:Int) (hv:0<=v/\v<=100000):BG g (T,b) (s:Int) c21 c22 (x:Int) 100000 v 0=some (v + Ew (fun y=>W y (x:Int)) (RN g.length s)):=by
 have h:=MO (σ:=Int) g.length (fun k=>v + Ew (fun y=>W y (x:Int)) (RN k s)) (some (v + Ew (fun y=>W y (x:Int)) (RN g.length s))) (fun f c st=>BG g (T,b) (s:Int) c21 c22 (x:Int) f st c) (by omega) (fun k hk f=>by
  show BG g (T,b) (s:Int) c21 c22 (x:Int) (f + 1) (v + Ew (fun y=>W y (x:Int)) (RN k s)) (k:Int)=BG g (T,b) (s:Int) c21 c22 (x:Int) f (v + Ew (fun y=>W y (x:Int)) (RN (k + 1) s)) _
  conv=>lhs; unfold BG
  have e:Di g (T,b) (s:Int) c21 c22 (x:Int) (v + Ew (fun y=>W y (x:Int)) (RN k s)) (k:Int)=some (v + Ew (fun y=>W y (x:Int)) (RN (k + 1) s)):=by
   unfold Di
   rw [XE s hs k (by omega),TQ]
   cases hb:s.testBit k with
   | true=>rw [if_neg (by simp),if_pos (by rfl)]
   | false =>
    obtain ⟨r,r1,r2⟩:=hT (k:Int) (x:Int) (by omega) (by omega)
    have h1:=Ku (f:=fun y=>W y (x:Int)) (l:=RN k s) (B:=16) fun y _=>hW y x
    have h2:=VI k s
    have h3:=hW (k:Int) (x:Int)
    rw [if_pos (by rfl),if_neg (by simp)]
    show (idx T (k:Int)).bind _=_
    rw [r1,OS,r2,OS,KP]
    simp only [Ew]
    rw [Q6 (by omega) (by omega)]
    congr 1
    omega
  rw [if_pos (by simp; omega),if_pos (by simp),e,OS]) (fun f=>by
  show BG g (T,b) (s:Int) c21 c22 (x:Int) (f + 1) _ (g.length:Int)=_
  conv=>lhs; unfold BG
  rw [if_neg (by simp)])
 have h':BG g (T,b) (s:Int) c21 c22 (x:Int) 100000 (v + 0) 0=_:=h
 rwa [Int.add_zero] at h'
/-- What is known of all sets from a set on. -/
def VO (W:Int->Int->Int) (n m:Nat) (cs nx:List Int):Prop:=cs.length=2 ^ n/\nx.length=2 ^ n/\∀ s,m<=s->s < 2 ^ n->∃ q,BB W (RN n s).length (RN n s)=some q/\cs[s]? = some q.1/\(RN n s≠[]->nx[s]? = some (q.2.headD 0))
/-- Both lists at a set. -/
def upC (cs nx:List Int) (s:Nat):Option (Int×List Int)->List Int×List Int
 | none=>(cs.set s (-1),nx)
 | some q=>(cs.set s q.1,nx.set s (q.2.headD 0))
/-- One more in front. -/
def GC (W:Int->Int->Int) (k:Nat) (l:List Int) (x:Int):Option (Int×List Int):=(BB W k (l.erase x)).map (shf (Ew (fun y=>W y x) (l.erase x)) x)
def FC (W:Int->Int->Int) (k n s x:Nat):Option (Int×List Int):=(RN x s).foldl (fun a x=>mrg a (GC W k (RN n s) x)) none
include hn hW in
theorem U8 {k n s:Nat}{x:Int}(hk:(RN n s).length=k + 1) (hn':n<=7) (hx:x ∈ RN n s){q:Int×List Int}(h:GC W k (RN n s) x=some q):0<=q.1/\q.1<=10000:=by
 have _:=hn
 obtain ⟨p,h1,rfl⟩:=Option.map_eq_some_iff.1 h
 have hl:((RN n s).erase x).length=k:=by rw [List.length_erase_of_mem hx]; omega
 obtain ⟨p1,p2⟩:=Ka k hl h1
 have h2:=QC (W:=W) (B:=16) (by omega) (l:=p.2) fun a _ c _=>hW a c
 have h3:=Ku (f:=fun y=>W y x) (l:=(RN n s).erase x) (B:=16) fun y _=>hW y x
 have h4:=VI n s
 rw [hl] at h3
 rw [p1.length_eq,hl] at h2
 have h5:(k:Int) * ((k:Int) * 16)<=7 * (7 * 16):=Int.mul_le_mul (by omega) (by omega) (by omega) (by omega)
 simp only [shf]
 omega
include hn hW h0 hT in
theorem ZY (s:Nat) (hs:s < 2 ^ g.length) (k:Nat) (hk:(RN g.length s).length=k + 1) (cs nx:List Int) (hI:VO W g.length (s + 1) cs nx):BF g (T,b) (s:Int) 100000 (cs.set s (-1)) nx 0=some (upC cs nx s (BB W (k + 1) (RN g.length s))):=by
 obtain ⟨i1,i2,i3⟩:=hI
 have hs128:s < 128:=by have:=(Rs g.length (by omega)).2.1; omega
 have h:=MO (σ:=List Int×List Int) g.length (fun x=>upC cs nx s (FC W k g.length s x)) (some (upC cs nx s (FC W k g.length s g.length))) (fun f c st=>BF g (T,b) (s:Int) f st.1 st.2 c) (by omega) (fun x hx f=>by
  show BF g (T,b) (s:Int) (f + 1) (upC cs nx s (FC W k g.length s x)).1 (upC cs nx s (FC W k g.length s x)).2 (x:Int)=BF g (T,b) (s:Int) f (upC cs nx s (FC W k g.length s (x + 1))).1 (upC cs nx s (FC W k g.length s (x + 1))).2 _
  conv=>lhs; unfold BF
  have hb:=XE s hs128 x (by omega)
  have eF:FC W k g.length s (x + 1)=if s.testBit x then FC W k g.length s x else mrg (FC W k g.length s x) (GC W k (RN g.length s) (x:Int)):=by
   unfold FC
   rw [TQ]
   cases s.testBit x with
   | true=>rfl
   | false=>rw [if_neg (by simp),if_neg (by simp),List.foldl_append]; rfl
  rw [if_pos (by simp; omega),if_pos (by simp)]
  cases ht:s.testBit x with
  | true =>
   rw [ht] at hb eF
   rw [if_pos (by simpa [bne] using hb),eF,if_pos rfl]
  | false =>
   rw [ht] at hb eF
   obtain ⟨o1,o2,o3,o4⟩:=WY g.length (by omega) s hs x hx ht
   have hl:((RN g.length s).erase (x:Int)).length=k:=by rw [List.length_erase_of_mem o4]; omega
   obtain ⟨q,q1,q2,_⟩:=i3 (s ||| 2 ^ x) (by omega) o1
   rw [o3,hl] at q1
   have eG:GC W k (RN g.length s) (x:Int)=some (shf (Ew (fun y=>W y (x:Int)) ((RN g.length s).erase (x:Int))) (x:Int) q):=by unfold GC; rw [q1]; rfl
   have hpos:=U8 hn hW hk hn o4 eG
   have hs3:=Ku (f:=fun y=>W y (x:Int)) (l:=(RN g.length s).erase (x:Int)) (B:=16) fun y _=>hW y x
   have hq0:0<=q.1:=by
    obtain ⟨p1,p2⟩:=Ka k hl q1
    have:=QC (W:=W) (B:=16) (by omega) (l:=q.2) fun a _ c _=>hW a c
    omega
   simp only [shf] at hpos
   have hsum:Ew (fun y=>W y (x:Int)) (RN g.length s)=Ew (fun y=>W y (x:Int)) ((RN g.length s).erase (x:Int)):=by
    rw [LJ (List.perm_cons_erase o4)]
    simp only [Ew]
    rw [h0 x hx]; omega
   have hlenU:∀ F,(upC cs nx s F).1.length=2 ^ g.length/\(upC cs nx s F).2.length=2 ^ g.length:=fun F=>by cases F <;> simp [upC,i1,i2]
   have hat:∀ F,idx (upC cs nx s F).1 ((s ||| 2 ^ x:Nat):Int)=some q.1:=fun F=>by
    have hne:¬ s=s ||| 2 ^ x:=by omega
    have e1:(upC cs nx s F).1[s ||| 2 ^ x]? = some q.1:=by cases F <;> simp only [upC] <;> rw [List.getElem?_set,if_neg hne] <;> exact q2
    obtain ⟨hlt,e2⟩:=List.getElem?_eq_some_iff.1 e1
    rw [H3 hlt,e2]
   have hself:∀ F,idx (upC cs nx s F).1 (s:Int)=some (match F with | none=> -1 | some q=>q.1):=fun F=>by
    have hlt:s < (upC cs nx s F).1.length:=by rw [(hlenU F).1]; exact hs
    rw [H3 hlt]
    cases F <;> simp [upC]
   have hnx:∀ F,∃ v,idx (upC cs nx s F).2 (s:Int)=some v:=fun F=>⟨_,H3 (by rw [(hlenU F).2]; exact hs)⟩
   have hFpos:∀ p,FC W k g.length s x=some p->0<=p.1:=fun p hp=>by
    rcases Mj hp with h | ⟨y,hy,h⟩
    ·cases h
    ·obtain ⟨i,rfl,hi,hti⟩:=VJ hy
     exact (U8 hn hW hk hn (WY g.length (by omega) s hs i (by omega) hti).2.2.2 h).1
   rw [eF,if_neg (show ¬ (false=true) by simp),eG,if_neg (by simpa [bne] using hb),if_pos (by simp),ZO s hs128 x (by omega),hat,OS,ZZ hn hW hT s hs128 _ _ x hx q.1 (by omega),OS,hself,OS,hsum]
   have key:∀ F:Option (Int×List Int),(∀ p,F=some p->0<=p.1)->((if (decide ((match F with | none=> -1 | some q=>q.1) < (0:Int)))=true then some ((upC cs nx s F).1,(upC cs nx s F).2,true) else (some (match F with | none=>(-1:Int) | some q=>q.1)).bind fun v41=>some ((upC cs nx s F).1,(upC cs nx s F).2,(decide (q.1 + Ew (fun y=>W y (x:Int)) ((RN g.length s).erase (x:Int)) < v41)))).bind fun j45=>(C0 g (T,b) (s:Int) (x:Int) (q.1 + Ew (fun y=>W y (x:Int)) ((RN g.length s).erase (x:Int))) j45))=some (upC cs nx s (mrg F (some (shf (Ew (fun y=>W y (x:Int)) ((RN g.length s).erase (x:Int))) (x:Int) q)))):=by
    intro F hF
    obtain ⟨v,hv⟩:=hnx F
    cases F with
    | none =>
     rw [if_pos (by simp),OS]
     unfold C0
     rw [if_pos rfl]
     show (idx (upC cs nx s none).1 (s:Int)).bind _=_
     rw [hself,OS,hv,OS,Int.toNat_natCast]
     simp only [upC,mrg,shf,List.headD_cons,List.set_set]
    | some p =>
     have:=hF p rfl
     rw [if_neg (by simp; omega),OS,OS]
     unfold C0
     by_cases hlt:q.1 + Ew (fun y=>W y (x:Int)) ((RN g.length s).erase (x:Int)) < p.1
     ·rw [if_pos (by simpa using hlt)]
      show (idx (upC cs nx s (some p)).1 (s:Int)).bind _=_
      rw [hself,OS,hv,OS,Int.toNat_natCast]
      show _=some (upC cs nx s (some (if q.1 + Ew (fun y=>W y (x:Int)) ((RN g.length s).erase (x:Int)) < p.1 then shf (Ew (fun y=>W y (x:Int)) ((RN g.length s).erase (x:Int))) (x:Int) q else p)))
      rw [if_pos hlt]
      simp only [upC,shf,List.headD_cons,List.set_set]
     ·rw [if_neg (by simpa using hlt)]
      show _=some (upC cs nx s (some (if q.1 + Ew (fun y=>W y (x:Int)) ((RN g.length s).erase (x:Int)) < p.1 then shf (Ew (fun y=>W y (x:Int)) ((RN g.length s).erase (x:Int))) (x:Int) q else p)))
      rw [if_neg hlt]
   have k2:=key (FC W k g.length s x) hFpos
   rw [<-Option.bind_assoc]
   refine (congrArg (fun o=>Option.bind o _) k2).trans ?_
   rw [OS]) (fun f=>by
  show BF g (T,b) (s:Int) (f + 1) _ _ (g.length:Int)=_
  conv=>lhs; unfold BF
  rw [if_neg (by simp)])
 exact h
theorem XY {n m:Nat}{cs nx:List Int}(hI:VO W n (m + 1) cs nx) (hm:m < 2 ^ n){k:Nat}(hk:(RN n m).length=k + 1):VO W n m (upC cs nx m (BB W (k + 1) (RN n m))).1 (upC cs nx m (BB W (k + 1) (RN n m))).2:=by
 obtain ⟨i1,i2,i3⟩:=hI
 obtain ⟨q,hq⟩:=Ow W (k + 1) (RN n m) hk
 rw [hq]
 refine ⟨by simp [upC,i1],by simp [upC,i2],fun s h1 h2=>?_⟩
 by_cases e:s=m
 ·subst e
  exact ⟨q,by rw [hk]; exact hq,by simp only [upC]; rw [List.getElem?_set,if_pos rfl,if_pos (by omega)],fun _=>by simp only [upC]; rw [List.getElem?_set,if_pos rfl,if_pos (by omega)]⟩
 ·obtain ⟨p,p1,p2,p3⟩:=i3 s (by omega) h2
  exact ⟨p,p1,by simp only [upC]; rw [List.getElem?_set,if_neg (by omega)]; exact p2,fun h=>by simp only [upC]; rw [List.getElem?_set,if_neg (by omega)]; exact p3 h⟩
include hn hW h0 hT in
theorem ZL:∀ (m f:Nat) (cs nx:List Int),VO W g.length m cs nx->m < 2 ^ g.length->m < f->∃ cs' nx',Ch g (T,b) f cs nx ((m:Int) - 1)=some (cs',nx')/\VO W g.length 0 cs' nx'
 | 0,f + 1,cs,nx,hI,_,_=>by
  refine ⟨cs,nx,?_,hI⟩
  unfold Ch
  rw [if_neg (by simp)]
 | m + 1,f + 1,cs,nx,hI,hm,hf=>by
  have hm':m < 2 ^ g.length:=by omega
  have h128:=(Rs g.length (by omega)).2.1
  obtain ⟨k,hk⟩:∃ k,(RN g.length m).length=k + 1:=by
   have:RN g.length m≠[]:=fun e=>by
    have:=(Rb g.length (by omega) m hm').1 e
    omega
   have:=List.length_pos_iff.2 this
   exact ⟨(RN g.length m).length - 1,by omega⟩
  have h3:=ZY (b:=b) hn hW h0 hT m hm' k hk cs nx hI
  obtain ⟨cs',nx',e1,e2⟩:=ZL m f _ _ (XY hI hm' hk) hm' (by omega)
  refine ⟨cs',nx',?_,e2⟩
  have ec:((m + 1:Nat):Int) - 1=(m:Int):=by omega
  unfold Ch
  rw [ec,if_pos (by simp),H3 (by rw [hI.1]; exact hm'),OS,Int.toNat_natCast,h3,OS,Q6 (by omega) (by omega)]
  exact e1
include hn in
theorem ZM (cs nx:List Int) (hI:VO W g.length 0 cs nx):∀ (k s f:Nat) (out:List Int) (q:Int×List Int),(RN g.length s).length=k->s < 2 ^ g.length->BB W k (RN g.length s)=some q->k < f->out.length + k<=1000->CG g (cs,nx) f out (s:Int)=some (out++q.2)
 | 0,s,f + 1,out,q,hk,hs,hq,_,_=>by
  have he:RN g.length s=[]:=List.eq_nil_of_length_eq_zero hk
  have:=(Rb g.length (by omega) s hs).1 he
  unfold BB at hq
  obtain rfl:=OI hq
  unfold CG
  rw [(Rs g.length (by omega)).1,if_neg (by simp; omega),List.append_nil]
 | k + 1,s,f + 1,out,q,hk,hs,hq,hf,ho=>by
  have h128:=(Rs g.length (by omega)).2.1
  have hne:RN g.length s≠[]:=fun e=>by rw [e] at hk; cases hk
  have hns:¬ s=2 ^ g.length - 1:=fun e=>hne ((Rb g.length (by omega) s hs).2 e)
  obtain ⟨p1,p2⟩:=Ka (k + 1) hk hq
  obtain ⟨v,w⟩:=q
  cases w with
  | nil=>have:=p1.length_eq; rw [hk] at this; cases this
  | cons x o =>
   obtain ⟨hx,u,hu⟩:=VX hq
   obtain ⟨i,rfl,hi,hti⟩:=VJ hx
   obtain ⟨o1,o2,o3,o4⟩:=WY g.length (by omega) s hs i hi hti
   obtain ⟨q',q1,_,q3⟩:=hI.2.2 s (by omega) hs
   rw [hk,hq] at q1
   obtain rfl:=OI q1
   have hnx:idx nx (s:Int)=some (i:Int):=by
    obtain ⟨hlt,e2⟩:=List.getElem?_eq_some_iff.1 (q3 hne)
    rw [H3 hlt,e2]; rfl
   have ih:=ZM cs nx hI k (s ||| 2 ^ i) f (out++[(i:Int)]) (u,o) (by rw [o3,List.length_erase_of_mem o4]; omega) o1 (by rw [o3]; exact hu) (by omega) (by simp; omega)
   unfold CG
   rw [(Rs g.length (by omega)).1,if_pos (by simp; omega)]
   show (idx nx (s:Int)).bind _=_
   rw [hnx,OS,if_pos (It (by omega) (by omega)),OS,if_pos (by simp),ZO s (by omega) i (by omega),ih]
   simp
end
section
variable {g:List Am}(hg:FewR g)
include hg
end
/- trestle/trestlelaw03.FewGuests$1$1 -/
/- slices.IndexFunc[[]string,string] -/
/- slices.ContainsFunc[[]string,string] -/
/- trestle/trestlelaw03.FewGuests$1 -/
/- slices.IndexFunc[[]trestle/api.Guest,trestle/api.Guest] -/
/- slices.ContainsFunc[[]trestle/api.Guest,trestle/api.Guest] -/
/- trestle/trestlelaw03.FewGuests -/
/- trestle/trestlekit.CopyWords -/
/- trestle/trestlekit.CopyGuest -/
/- trestle/trestlekit.SameWords -/
/- trestle/trestlekit.SameGuest -/
/- trestle/trestlekit.CopyGuests -/
/- trestle/trestlekit.SameGuests -/
/- trestle/trestlelaw03.FewAll$1 -/
/- slices.IndexFunc[[][]trestle/api.Clause,[]trestle/api.Clause] -/
/- slices.ContainsFunc[[][]trestle/api.Clause,[]trestle/api.Clause] -/
/- trestle/trestlelaw03.FewAll -/
/- trestle/trestlelaw03.CopyAll -/
/- slices.EqualFunc[[][]trestle/api.Clause,[][]trestle/api.Clause,[]trestle/api.Clause,[]trestle/api.Clause] -/
/- trestle/trestlelaw03.SameAll -/
/- trestle/trestleref03.Agree -/
/- trestle/trestleref03.Conflicts -/
/- slices.Contains[[]int,int] -/
/- trestle/trestlelaw03.permutation -/
/- slices.Equal[[][2]int,[2]int] -/
/- trestle/court.Conflicts$1 -/
/- trestle/court.pairs -/
/- trestle/court.Conflicts -/
/- slices.Equal[[]int,int] -/
/- trestle/trestlelaw03.pairs -/
/- trestle/trestlelaw03.CourtPairs -/
/-- The pairs of numbers below n that meet a test. -/
def Re (p:Nat->Nat->Bool) (x k:Nat):List (Int×Int):=((List.range k).filter (p x)).map fun (y:Nat)=>((x:Int),(y:Int))
def pairP (p:Nat->Nat->Bool) (n k:Nat):List (Int×Int):=(List.range k).flatMap fun x=>Re p x n
theorem TS (p:Nat->Nat->Bool) (x k:Nat):Re p x (k + 1)=Re p x k++if p x k=true then [((x:Int),(k:Int))] else []:=by
 unfold Re
 rw [List.range_succ,List.filter_append,List.map_append]
 congr 1
 by_cases h:p x k=true <;> simp [h]
theorem TR (p:Nat->Nat->Bool) (x k:Nat):(Re p x k).length<=k:=by
 unfold Re
 have:=List.length_filter_le (p x) (List.range k)
 simpa using this
theorem WZ (p:Nat->Nat->Bool) (x k:Nat) (h:∀ y,y < k->p x y=false):Re p x k=[]:=by
 unfold Re
 rw [List.filter_eq_nil_iff.2 (fun y hy=>by simp [h y (List.mem_range.1 hy)])]; rfl
theorem Oa (p:Nat->Nat->Bool) (n k:Nat):pairP p n (k + 1)=pairP p n k++Re p k n:=by
 unfold pairP
 rw [List.range_succ,List.flatMap_append]; simp
theorem PH (p:Nat->Nat->Bool) (n:Nat):∀ k,(pairP p n k).length<=k * n
 | 0=>by simp [pairP]
 | k + 1=>by
  rw [Oa,List.length_append,Nat.add_mul]
  have:=PH p n k
  have:=TR p k n
  omega
theorem ZI {σ ρ:Type}(n lo:Nat) (S:Nat->σ) (R:Option ρ) (L:Nat->Int->σ->Option ρ) (hn:n<=1000000) (hs:∀ i,lo<=i->i < n->∀ f,L (f + 1) (i:Int) (S i)=L f (wr .i64 ((i:Int) + 1)) (S (i + 1))) (he:∀ f,L (f + 1) (n:Int) (S n)=R):∀ (d i f:Nat),lo<=i->i + d=n->d < f->L f (i:Int) (S i)=R
 | 0,i,f + 1,_,e,_=>by
  rw [show i=n by omega]
  exact he f
 | d + 1,i,f + 1,hi,e,hf=>by
  rw [hs i hi (by omega) f,Q6 (by omega) (by omega),show ((i:Int) + 1)=((i + 1:Nat):Int) by omega]
  exact ZI n lo S R L hn hs he d (i + 1) f (by omega) (by omega) (by omega)
/-- Two loops that gather pairs. -/
theorem Y6 (n:Nat) (hn:n<=64) (p:Nat->Nat->Bool) (st:Nat->Nat) (hst:∀ x,x < n->st x<=n/\∀ y,y < st x->p x y=false) (L1:Nat->Int->List (Int×Int)->Option (List (Int×Int))) (L2:Nat->Nat->Int->List (Int×Int)->Option (List (Int×Int)))
  (h1:∀ x,x < n->∀ f s,L1 (f + 1) (x:Int) s=(L2 x 100000 ((st x:Nat):Int) s).bind fun r=>L1 f (wr .i64 ((x:Int) + 1)) r) (h1e:∀ f s,L1 (f + 1) (n:Int) s=some s)
  (h2:∀ x y,x < n->y < n->st x<=y->∀ f s,s.length<=100000->L2 x (f + 1) (y:Int) s=L2 x f (wr .i64 ((y:Int) + 1)) (s++if p x y=true then [((x:Int),(y:Int))] else [])) (h2e:∀ x,x < n->∀ f s,L2 x (f + 1) (n:Int) s=some s):L1 100000 0 []=some (pairP p n n):=by
 have hsq:n * n<=4096:=Nat.mul_le_mul hn hn
 refine MO (σ:=List (Int×Int)) n (fun k=>pairP p n k) (some (pairP p n n)) L1 (by omega) (fun x hx f=>?_) (fun f=>h1e f _)
 have hl:=PH p n x
 have hxn:x * n<=n * n:=Nat.mul_le_mul_right n (by omega)
 have hin:L2 x 100000 ((st x:Nat):Int) (pairP p n x++Re p x (st x))=some (pairP p n x++Re p x n) :=
  ZI (σ:=List (Int×Int)) n (st x) (fun k=>pairP p n x++Re p x k) (some (pairP p n x++Re p x n)) (L2 x) (by omega) (fun k hlo hk f=>by
   have:=TR p x k
   rw [h2 x k hx hk hlo f _ (by simp; omega),TS,List.append_assoc]) (fun f=>h2e x hx f _) (n - st x) (st x) 100000 (by omega) (by have:=(hst x hx).1; omega) (by omega)
 rw [WZ p x (st x) (hst x hx).2,List.append_nil] at hin
 rw [h1 x hx f,hin,OS,Oa]
section
variable {l:List (List AE)}{g:List Am}(hl:∀ c ∈ l,few c) (hg:FewR g) (h16:l.length<=16) (hv:okT l=true)
include hl hg h16 hv
def agP (l:List (List AE)) (g:List Am) (x y:Nat):Bool:=vt l g x y==(l.length:Int)
theorem VT:FX l g=some (if l=[] then [] else pairP (agP l g) g.length g.length):=by
 have hn:=hg.n
 have e:BY (g.length:Int) (H4 g.length (vt l g),l)=some (pairP (agP l g) g.length g.length):=by
  unfold BY
  rw [Y6 g.length hn (agP l g) (fun _=>0) (fun x hx=>⟨by omega,fun y hy=>by omega⟩) (fun f c s=>Av (g.length:Int) (H4 g.length (vt l g),l) f c s) (fun x f c s=>Aw (g.length:Int) (H4 g.length (vt l g),l) (x:Int) f c s) (fun x hx f s=>by
   show Av _ _ (f + 1) (x:Int) s=_
   conv=>lhs; unfold Av
   rw [if_pos (by simp; omega)]; rfl) (fun f s=>by
   show Av _ _ (f + 1) (g.length:Int) s=_
   conv=>lhs; unfold Av
   rw [if_neg (by simp)]) (fun x y hx hy _ f s hs=>by
   show Aw _ _ (x:Int) (f + 1) (y:Int) s=_
   conv=>lhs; unfold Aw
   have q:EV (x:Int) (y:Int) (H4 g.length (vt l g)) l=some (agP l g x y):=by
    unfold EV
    rw [O7 hx,OS,PL hy]; rfl
   rw [if_pos (by simp; omega),q,OS]
   unfold Cc
   by_cases h:agP l g x y=true
   ·rw [if_pos h,if_pos h,if_pos (It (by omega) (by simp; omega)),OS]
   ·rw [if_neg h,if_neg h,OS,List.append_nil]) (fun x hx f s=>by
   show Aw _ _ (x:Int) (f + 1) (g.length:Int) s=_
   conv=>lhs; unfold Aw
   rw [if_neg (by simp)])]
  rfl
 unfold FX
 rw [Qz hl hg,if_pos ⟨h16,hv⟩,OS,if_neg (by simp),OS]
 by_cases h0:l=[]
 ·rw [if_pos h0,if_pos (by rw [h0]; rfl)]
 ·rw [if_neg h0,if_neg (by simp; exact h0),e]; rfl
end
/-- The disagreements of an order. -/
def WI (l:List (List AE)) (g:List Am) (a b:Int):Int:=vt l g a.toNat b.toNat
theorem SO {l:List (List AE)}(g:List Am) (h16:l.length<=16) (a b:Int):0<=WI l g a b/\WI l g a b<=16:=by
 have:=Tf l g a.toNat b.toNat
 unfold WI; omega
theorem VB {l:List (List AE)}{g:List Am}{a b:Int}(ha:0<=a/\a < g.length) (hb:0<=b/\b < g.length):∃ r,idx (H4 g.length (vt l g)) a=some r/\idx r b=some (WI l g a b):=by
 have e1:((a.toNat:Nat):Int)=a:=by omega
 have e2:((b.toNat:Nat):Int)=b:=by omega
 refine ⟨QF g.length (vt l g a.toNat),?_,?_⟩
 ·have:=O7 (n:=g.length) (M:=vt l g) (x:=a.toNat) (by omega)
  rwa [e1] at this
 ·have:=PL (n:=g.length) (f:=vt l g a.toNat) (x:=b.toNat) (by omega)
  rwa [e2] at this
theorem TV {n:Nat}{pre:List Int}{v:Int}(hv:0<=v/\v < n):idx ((List.range n).map fun (k:Nat)=>decide ((k:Int) ∈ pre)) v=some (decide (v ∈ pre)):=by
 have e:((v.toNat:Nat):Int)=v:=by omega
 have:idx ((List.range n).map fun (k:Nat)=>decide ((k:Int) ∈ pre)) ((v.toNat:Nat):Int)=some (decide (((v.toNat:Nat):Int) ∈ pre)):=by
  rw [H3 (by simp; omega)]; simp
 rwa [e] at this
theorem TJ (n:Nat) (o:List Int) (ho:o.length<=1000):∀ (r pre:List Int) (f:Nat),o=pre++r->r.length < f->CU o (n:Int) f ((List.range n).map fun (k:Nat)=>decide ((k:Int) ∈ pre)) (pre.length:Int)=some (if pmB n pre r=true then .inl () else .inr false)
 | [],pre,f + 1,e,_=>by
  unfold CU
  rw [if_neg (by rw [e]; simp)]; rfl
 | v::r,pre,f + 1,e,hf=>by
  simp only [List.length_cons] at hf
  have hl:o.length=pre.length + r.length + 1:=by rw [e]; simp; omega
  unfold CU
  rw [if_pos (by rw [e]; exact Hc pre v r),show idx o (pre.length:Int)=some v by rw [e,FJ],OS]
  by_cases h0:v < 0
  ·rw [if_pos (by simpa using h0),OS,if_pos rfl,if_neg]
   unfold pmB; simp [h0]
  ·rw [if_neg (by simpa using h0)]
   by_cases h1:v≥(n:Int)
   ·rw [if_pos (by simpa using h1),OS,if_pos rfl,if_neg]
    unfold pmB; simp [h1]
   ·rw [if_neg (by simpa using h1),TV ⟨by omega,by omega⟩,OS,OS]
    by_cases h2:v ∈ pre
    ·rw [if_pos (by simpa using h2),if_neg]
     unfold pmB; simp [h2]
    ·rw [if_neg (by simpa using h2),TV ⟨by omega,by omega⟩,OS]
     have e2:((List.range n).map fun (k:Nat)=>decide ((k:Int) ∈ pre)).set v.toNat true=(List.range n).map fun (k:Nat)=>decide ((k:Int) ∈ pre++[v]) :=
      O6 n _ _ v.toNat true (by simp; omega) (fun y hy=>by
       have:¬ ((y:Int)=v):=by omega
       simp [this])
     have e3:pmB n pre (v::r)=pmB n (pre++[v]) r:=by
      conv=>lhs; unfold pmB
      simp [h0,h1,h2]
     rw [e2,Fe pre v r (by rw [<-e]; omega),e3]
     exact TJ n o ho r (pre++[v]) f (by rw [e]; simp) (by omega)
theorem Xt (n:Nat) (o:List Int) (hn:n<=64) (ho:o.length<=1000):C1 o (n:Int)=some (VA n o):=by
 have h:=TJ n o ho o [] 100000 rfl (by omega)
 have e:(List.replicate (n:Int).toNat false)=(List.range n).map fun (k:Nat)=>decide ((k:Int) ∈ ([]:List Int)):=by
  apply List.ext_getElem <;> simp
 unfold C1
 rw [if_pos (by simp [OD]; omega),e]
 rw [show ((([]:List Int).length:Nat):Int)=0 from rfl] at h
 rw [h,OS]
 unfold VA
 cases pmB n [] o with
 | false=>rfl
 | true =>
  show some ((o.length:Int)==(n:Int))=_
  by_cases hq:o.length=n
  ·simp [hq]
  ·have:¬ ((o.length:Int)=(n:Int)):=by omega
   simp [hq,this]
section
variable {l:List (List AE)}{g:List Am}{o:List Int}(hg:FewR g) (h16:l.length<=16) (ho:o.length<=64) (hm:∀ v ∈ o,0<=v/\v < (g.length:Int))
include hg h16 ho hm
theorem XR (c7:Int) (x:Int) (hx:0<=x/\x < (g.length:Int)) (ys:List Int) (hys:((o.take (o.length:Int).toNat).drop (wr .i64 (c7 + 1)).toNat)=ys) (hyo:∀ v ∈ ys,v ∈ o) (a:Int) (ha:0<=a/\a<=1000000) (hyl:ys.length<=64):Au o (H4 g.length (vt l g),true) c7 x 100000 a 0=some (a + Ew (fun y=>WI l g y x) ys):=by
 have _:=hg; have _:=ho
 have bnd:∀ k,0<=Ew (fun y=>WI l g y x) (ys.take k)/\Ew (fun y=>WI l g y x) (ys.take k)<=1024:=fun k=>by
  have:=Ku (f:=fun y=>WI l g y x) (B:=16) (l:=ys.take k) (fun y _=>SO g h16 y x)
  have hk:(ys.take k).length<=64:=by simp; omega
  omega
 have h0:a + Ew (fun y=>WI l g y x) (ys.take 0)=a:=by simp [Ew]
 have h1:Au o (H4 g.length (vt l g),true) c7 x 100000 (a + Ew (fun y=>WI l g y x) (ys.take 0)) 0=some (a + Ew (fun y=>WI l g y x) ys):=by
  refine MO (σ:=Int) ys.length (fun k=>a + Ew (fun y=>WI l g y x) (ys.take k)) _ (fun f c s=>Au o (H4 g.length (vt l g),true) c7 x f s c) (by omega) (fun k hk f=>?_) (fun f=>?_)
  ·show Au _ _ c7 x (f + 1) (a + Ew (fun y=>WI l g y x) (ys.take k)) (k:Int)=_
   conv=>lhs; unfold Au
   have hb:=bnd k
   have hw:=SO g h16 ys[k] x
   obtain ⟨r,r1,r2⟩:=VB (l:=l) (hm ys[k] (hyo _ (List.getElem_mem hk))) hx
   rw [hys,if_pos (by simp; omega),H3 hk,OS,r1,OS,r2,OS,Q6 (by omega) (by omega)]
   have e:Ew (fun y=>WI l g y x) (ys.take (k + 1))=Ew (fun y=>WI l g y x) (ys.take k) + WI l g ys[k] x:=by
    rw [List.take_succ_eq_append_getElem hk,KP]; simp [Ew]
   show Au _ _ c7 x f _ _=Au _ _ c7 x f _ _
   rw [e,Int.add_assoc]
  ·show Au _ _ c7 x (f + 1) (a + Ew (fun y=>WI l g y x) (ys.take ys.length)) (ys.length:Int)=_
   conv=>lhs; unfold Au
   rw [hys,if_neg (by simp),List.take_length]
 rwa [h0] at h1
theorem WX:0<=prS (WI l g) o/\prS (WI l g) o<=100000:=by
 have _:=hg; have _:=hm
 have:=QC (W:=WI l g) (B:=16) (by omega) (l:=o) (fun x _ y _=>SO g h16 x y)
 have h1:(o.length:Int) * ((o.length:Int) * 16)<=64 * (64 * 16):=by
  have:o.length * (o.length * 16)<=64 * (64 * 16):=Nat.mul_le_mul ho (Nat.mul_le_mul ho (Nat.le_refl _))
  exact_mod_cast this
 omega
theorem Vo (r:List Int):∀ (pre:List Int) (f:Nat) (a:Int),o=pre++r->r.length < f->0<=a->a + prS (WI l g) r<=100000->B8 o (H4 g.length (vt l g),true) f a (pre.length:Int)=some (a + prS (WI l g) r):=by
 induction r with
 | nil =>
  intro pre f a e hf _ _
  obtain ⟨f,rfl⟩:∃ q,f=q + 1:=⟨f - 1,by simp at hf; omega⟩
  unfold B8
  rw [if_neg (by rw [e]; simp)]
  simp [prS]
 | cons x r ih =>
  intro pre f a e hf ha hb
  obtain ⟨f,rfl⟩:∃ q,f=q + 1:=⟨f - 1,by simp at hf; omega⟩
  simp only [List.length_cons] at hf
  have hl:o.length=pre.length + r.length + 1:=by rw [e]; simp; omega
  have hx:=hm x (by rw [e]; simp)
  have hsub:∀ v ∈ r,v ∈ o:=fun v hv=>by rw [e]; simp [hv]
  have hps:0<=prS (WI l g) r:=(QC (W:=WI l g) (B:=16) (by omega) (l:=r) (fun x _ y _=>SO g h16 x y)).1
  have hs:=Ku (f:=fun y=>WI l g y x) (B:=16) (l:=r) (fun y _=>SO g h16 y x)
  simp only [prS] at hb ⊢
  unfold B8
  have k1:0<=a/\a<=1000000:=by omega
  have k2:r.length<=64:=by omega
  have k3:0<=a + Ew (fun y=>WI l g y x) r:=by omega
  have k4:a + Ew (fun y=>WI l g y x) r + prS (WI l g) r<=100000:=by omega
  have k5:r.length < f:=by omega
  have k6:DN ((pre.length + 1:Nat):Int) (o.length:Int) o.length=true:=by simp [DN]; omega
  have k7:(pre++x::r).length<=1000000000:=by rw [<-e]; omega
  have hw:wr .i64 ((pre.length:Int) + 1)=((pre.length + 1:Nat):Int):=by rw [Q6 (by omega) (by omega)]; omega
  have hys:((o.take (o.length:Int).toNat).drop (wr .i64 ((pre.length:Int) + 1)).toNat)=r:=by
   rw [hw,Int.toNat_natCast,Int.toNat_natCast,List.take_length,e]
   rw [show pre++x::r=(pre++[x])++r by simp,show pre.length + 1=(pre++[x]).length by simp,List.drop_left]
  rw [if_pos (by rw [e]; exact Hc pre x r),show idx o (pre.length:Int)=some x by rw [e,FJ],OS,if_pos (by rw [hw]; exact k6),XR hg h16 ho hm (pre.length:Int) x hx r hys hsub a k1 k2,OS,Fe pre x r k7,ih (pre++[x]) f _ (by rw [e]; simp) k5 k3 k4,Int.add_assoc]
end
theorem Ys {l:List (List AE)}{g:List Am}(hl:∀ c ∈ l,few c) (hg:FewR g) (h16:l.length<=16) (hv:okT l=true) (o:List Int) (ho:o.length<=64):B4 l g o=some (if VA g.length o=true then prS (WI l g) o else 0):=by
 unfold B4
 rw [Qz hl hg,if_pos ⟨h16,hv⟩,OS,if_neg (by simp),Xt g.length o hg.n (by omega),OS,OS]
 by_cases hp:VA g.length o=true
 ·have hm:=UH hp
  have hb:=WX hg h16 ho hm
  have:=Vo hg h16 ho hm o [] 100000 0 rfl (by omega) (by omega) (by omega)
  rw [show ((([]:List Int).length:Nat):Int)=0 from rfl] at this
  rw [if_neg (by simp [hp]),if_pos hp,this]
  simp
 ·rw [if_pos (by simpa using hp),if_neg hp]
theorem VU:((List.range 256).all fun n=>decide (0<=DS .u8 ((n:Int).fdiv 8) 3)&&decide (DS .u8 ((n:Int).fdiv 8) 3 < 4)&&(decide (0<=DS .u8 ((n:Int).fdiv 16) 3)&&decide (DS .u8 ((n:Int).fdiv 16) 3 < 4)))=true:=by kernel_rfl
theorem YG {a:Int}(h:u8 a):(0<=DS .u8 (a.fdiv 8) 3/\DS .u8 (a.fdiv 8) 3 < 4)/\0<=DS .u8 (a.fdiv 16) 3/\DS .u8 (a.fdiv 16) 3 < 4:=by
 obtain ⟨n,rfl⟩:=Int.eq_ofNat_of_zero_le h.1
 have hn:n < 256:=by have:=h.2; omega
 have:=List.all_eq_true.1 VU n (by simpa using hn)
 simp only [Bool.and_eq_true,decide_eq_true_eq] at this
 exact ⟨this.1,this.2⟩
theorem Vz (x:Int×Int) (nm:List UInt8) (h1:u8 x.1):∃ r,FN x nm=some r/\r.1=x.1/\r.2.1=x.2:=by
 obtain ⟨⟨a1,a2⟩,_⟩:=YG h1
 obtain ⟨d1,d2⟩:=Wt a1 a2
 unfold FN
 by_cases hc:((DS .u8 x.1 4)!=0)=true
 ·rw [if_pos hc,if_pos d1,if_pos d2]; exact ⟨_,rfl,rfl,rfl⟩
 ·rw [if_neg hc]; exact ⟨_,rfl,rfl,rfl⟩
theorem V0 (r) (h2:u8 r.2.1):∃ r',FO r=some r'/\r'.1=r.1/\r'.2.1=r.2.1:=by
 obtain ⟨⟨a1,a2⟩,_⟩:=YG h2
 obtain ⟨d1,d2⟩:=Wt a1 a2
 unfold FO
 by_cases hc:((DS .u8 r.2.1 4)!=0)=true
 ·rw [if_pos hc,if_pos d1,if_pos d2]; exact ⟨_,rfl,rfl,rfl⟩
 ·rw [if_neg hc]; exact ⟨_,rfl,rfl,rfl⟩
theorem V1 (r) (h1:u8 r.1):∃ r',FP r=some r'/\r'.1=r.1/\r'.2.1=r.2.1/\r'.2.2.2.2.2.2.2.2.2.2.2.2.2.2.2.2.2.2.length<=1:=by
 obtain ⟨_,a1,a2⟩:=YG h1
 obtain ⟨d1,d2⟩:=Wt a1 a2
 unfold FP
 by_cases hc:((DS .u8 r.2.1 64)!=0)=true
 ·rw [if_pos hc,if_pos d1,if_pos d2]; exact ⟨_,rfl,rfl,rfl,by simp⟩
 ·rw [if_neg hc]; exact ⟨_,rfl,rfl,rfl,by simp⟩
theorem V2 (r) (h2:u8 r.2.1):∃ r',FQ r=some r'/\r'.2.2.2.2.2.2.2.2.2.2.2.2.2.2.2.2=r.2.2.2.2.2.2.2.2.2.2.2.2.2.2.2.2.2.2:=by
 obtain ⟨_,a1,a2⟩:=YG h2
 obtain ⟨d1,d2⟩:=Wt a1 a2
 unfold FQ
 by_cases hc:((DS .u8 r.1 128)!=0)=true
 ·rw [if_pos hc,if_pos d1,if_pos d2]; exact ⟨_,rfl,rfl⟩
 ·rw [if_neg hc]; exact ⟨_,rfl,rfl⟩
theorem UF (x:Int×Int) (nm:List UInt8) (h1:u8 x.1) (h2:u8 x.2):∃ g,Fd x nm=some g/\QU g:=by
 obtain ⟨r1,e1,p1,q1⟩:=Vz x nm h1
 obtain ⟨r2,e2,p2,q2⟩:=V0 r1 (q1 ▸ h2)
 obtain ⟨r3,e3,p3,q3,t3⟩:=V1 r2 (by rw [p2,p1]; exact h1)
 obtain ⟨r4,e4,t4⟩:=V2 r3 (by rw [q3,q2,q1]; exact h2)
 refine ⟨r4.2.2.2.2.2.2.2.2,?_,?_⟩
 ·unfold Fd
  rw [e1,OS,e2,OS,e3,OS,e4]; rfl
 ·unfold QU
  rw [t4]; omega
theorem ok3 (a b:Int):okB ([103]++by8 [a,b])=true:=rfl
theorem P1 (x0:List (Int×Int)) (n:Int) (ys:List (Int×Int)) (hys:((x0.take (mnI (x0.length:Int) n).toNat).drop (0:Int).toNat)=ys) (hb:∀ v ∈ ys,u8 v.1/\u8 v.2) (h20:ys.length<=20):∀ (r pre:List (Int×Int)) (c2:List Am) (f:Nat),ys=pre++r->r.length < f->c2.length=pre.length->(∀ g ∈ c2,QU g) ->
  ∃ c,DF x0 n f c2 (pre.length:Int)=some c/\(∀ g ∈ c,QU g)/\c.length=ys.length
 | [],pre,c2,f + 1,e,_,hl,hk=>by
  refine ⟨c2,?_,hk,by rw [hl,e]; simp⟩
  unfold DF
  rw [hys,if_neg (by rw [e]; simp)]
 | v::r,pre,c2,f + 1,e,hf,hl,hk=>by
  have hv:=hb v (by rw [e]; simp)
  have hl2:ys.length=pre.length + r.length + 1:=by rw [e]; simp; omega
  simp only [List.length_cons] at hf
  obtain ⟨g,hg,hgf⟩:=UF (v.1,v.2) ([103]++(by8 [(wr .u8 (wr .i64 (97 + (wr .i64 ((pre.length:Int).tdiv 26))))),(wr .u8 (wr .i64 (97 + ((pre.length:Int).tmod 26))))])) hv.1 hv.2
  obtain ⟨c,q1,q2,q3⟩:=P1 x0 n ys hys hb h20 r (pre++[v]) (c2++[g]) f (by rw [e]; simp) (by omega) (by simp [hl]) (fun y hy=>by
   rcases List.mem_append.1 hy with hy | hy
   ·exact hk y hy
   ·rw [List.mem_singleton.1 hy]; exact hgf)
  refine ⟨c,?_,q2,q3⟩
  rw [<-q1]
  conv=>lhs; unfold DF
  rw [hys,if_pos (by rw [e]; exact Hc pre v r),show idx ys (pre.length:Int)=some v by rw [e,FJ],OS,if_pos (ok3 _ _),hg,OS,if_pos (It (by omega) (by omega)),Fe pre v r (by rw [<-e]; omega)]
/-- Not after in lexicographic order (of the same length). -/
def UK:List Int->List Int->Bool
 | x::a,y::b=>decide (x < y)||(decide (x=y)&&UK a b)
 | _,_=>true
theorem OR {F:Int->Option (Int×List Int)}:∀ {l:List Int}{s:Option (Int×List Int)}{q:Int×List Int},l.foldl (fun s x=>mrg s (F x)) s=some q->(s=some q/\∀ y ∈ l,∀ p,F y=some p->q.1<=p.1)\/∃ l1 x l2,l=l1++x::l2/\F x=some q/\(∀ y ∈ l1,∀ p,F y=some p->q.1 < p.1)/\(∀ y ∈ l2,∀ p,F y=some p->q.1<=p.1)/\∀ a,s=some a->q.1 < a.1
 | [],s,q,h=> .inl ⟨h,fun y hy=>by cases hy⟩
 | x::l,s,q,h=>by
  rw [List.foldl_cons] at h
  rcases OR h with ⟨h1,h2⟩ | ⟨l1,x',l2,e,h1,h2,h3,h4⟩
  ·cases s with
   | none =>
    rw [UU] at h1
    exact .inr ⟨[],x,l,rfl,h1,fun y hy=>(by cases hy),h2,fun a ha=>(by cases ha)⟩
   | some a =>
    cases hF:F x with
    | none =>
     rw [hF,UR] at h1
     refine .inl ⟨h1,fun y hy p hp=>?_⟩
     rcases List.mem_cons.1 hy with e | hy
     ·subst e; rw [hF] at hp; cases hp
     ·exact h2 y hy p hp
    | some b =>
     rw [hF] at h1
     simp only [mrg,Option.some.injEq] at h1
     by_cases hb:b.1 < a.1
     ·rw [if_pos hb] at h1
      subst h1
      exact .inr ⟨[],x,l,rfl,hF,fun y hy=>(by cases hy),h2,fun c hc=>by obtain rfl:=OI hc; exact hb⟩
     ·rw [if_neg hb] at h1
      subst h1
      refine .inl ⟨rfl,fun y hy p hp=>?_⟩
      rcases List.mem_cons.1 hy with e | hy
      ·subst e
       rw [hF] at hp
       obtain rfl:=OI hp
       omega
      ·exact h2 y hy p hp
  ·refine .inr ⟨x::l1,x',l2,by rw [e]; rfl,h1,fun y hy p hp=>?_,h3,fun a ha=>?_⟩
   ·rcases List.mem_cons.1 hy with e' | hy
    ·subst e'
     rw [hp] at h4
     cases s with
     | none=>exact h4 p rfl
     | some a =>
      have:=h4 _ rfl
      by_cases hb:p.1 < a.1
      ·rw [if_pos hb] at this; exact this
      ·rw [if_neg hb] at this; omega
    ·exact h2 y hy p hp
   ·subst ha
    cases hF:F x with
    | none=>rw [hF] at h4; exact h4 a rfl
    | some b =>
     rw [hF] at h4
     have:=h4 _ rfl
     by_cases hb:b.1 < a.1
     ·rw [if_pos hb] at this; omega
     ·rw [if_neg hb] at this; exact this
theorem XD {W:Int->Int->Int}:∀ (k:Nat){l:List Int}{q:Int×List Int},l.length=k->l.Pairwise (fun a b=>a < b)->BB W k l=some q->∀ o:List Int,o.Perm l->q.1<=prS W o/\(q.1=prS W o->UK q.2 o=true)
 | 0,l,q,h,_,e,o,ho=>by
  have hl:l=[]:=List.eq_nil_of_length_eq_zero h
  subst hl
  unfold BB at e
  obtain rfl:=OI e
  have:o=[]:=List.eq_nil_of_length_eq_zero (by rw [ho.length_eq]; rfl)
  subst this
  exact ⟨Int.le_refl _,fun _=>rfl⟩
 | k + 1,l,q,h,hs,e,o,ho=>by
  cases o with
  | nil=>have:=ho.length_eq; rw [h] at this; cases this
  | cons y w =>
   obtain ⟨hy,hw⟩:=List.cons_perm_iff_perm_erase.1 ho
   have hle:∀ z ∈ l,(l.erase z).length=k:=fun z hz=>by rw [List.length_erase_of_mem hz]; omega
   obtain ⟨p',hp'⟩:=Ow W k (l.erase y) (hle y hy)
   obtain ⟨i1,i2⟩:=XD k (hle y hy) (List.Pairwise.sublist List.erase_sublist hs) hp' w hw
   have hD:prS W (y::w)=Ew (fun z=>W z y) (l.erase y) + prS W w:=by
    simp only [prS]
    rw [LJ hw]
   unfold BB at e
   rcases OR e with ⟨e1,_⟩ | ⟨l1,x,l2,el,e1,e2,e3,_⟩
   ·cases e1
   ·have hG:((BB W k (l.erase y)).map (shf (Ew (fun z=>W z y) (l.erase y)) y))=some (shf (Ew (fun z=>W z y) (l.erase y)) y p'):=by rw [hp']; rfl
    have hq2:∃ o',q.2=x::o':=by
     obtain ⟨q',_,h2⟩:=Option.map_eq_some_iff.1 e1
     exact ⟨q'.2,by rw [<-h2]; rfl⟩
    rw [hD]
    have hy':y ∈ l1\/y=x\/y ∈ l2:=by
     rw [el] at hy
     rcases List.mem_append.1 hy with h | h
     ·exact .inl h
     ·exact .inr (List.mem_cons.1 h)
    rcases hy' with hy' | hy' | hy'
    ·have:=e2 y hy' _ hG
     simp only [shf] at this
     exact ⟨by omega,fun h=>by omega⟩
    ·subst hy'
     rw [hG] at e1
     obtain rfl:=OI e1
     simp only [shf]
     refine ⟨by omega,fun h=>?_⟩
     have:=i2 (by omega)
     simp [UK,this]
    ·have h5:=e3 y hy' _ hG
     simp only [shf] at h5
     refine ⟨by omega,fun h=>?_⟩
     have hxy:x < y:=by
      rw [el] at hs
      exact List.rel_of_pairwise_cons (List.pairwise_append.1 hs).2.1 hy'
     obtain ⟨o',ho'⟩:=hq2
     rw [ho']
     simp [UK,hxy]
theorem Q0 (n:Nat):(QV n).Pairwise (fun a b=>a < b):=by
 unfold QV
 exact List.Pairwise.map (fun (i:Nat)=>(i:Int)) (fun a b h=>by omega) List.pairwise_lt_range
theorem S0 {n:Nat}{o:List Int}(h:o.Perm (QV n)):VA n o=true:=by
 have hl:o.length=n:=by rw [h.length_eq,Ej]
 have:=(Xu n o).2 ⟨hl,fun w hw=>h.mem_iff.2 (KL.2 ⟨by omega,by omega⟩)⟩
 unfold VA
 rw [this.1,decide_eq_true this.2]; rfl
/-- The guests, with their number. -/
theorem UG (x0:List (Int×Int)) (n:Nat) (hn:n<=20) (hb:∀ v ∈ x0,u8 v.1/\u8 v.2):∃ c,ER x0 (n:Int)=some c/\FewR c/\c.length<=n:=by
 have hm:0<=mnI (x0.length:Int) n/\mnI (x0.length:Int) n<=n/\mnI (x0.length:Int) n<=x0.length:=by
  unfold mnI
  split <;> omega
 have h8:((x0.take (mnI (x0.length:Int) n).toNat).drop (0:Int).toNat).length<=n:=by
  rw [List.length_drop,List.length_take]; omega
 obtain ⟨c,h1,h2,h3⟩:=P1 x0 n _ rfl (fun v hv=>hb v (List.mem_of_mem_take (List.mem_of_mem_drop hv))) (Nat.le_trans h8 hn) _ [] [] 100000 rfl (Nat.lt_of_le_of_lt h8 (by omega)) rfl (fun g hg=>by simp at hg)
 refine ⟨c,?_,⟨by omega,h2⟩,by omega⟩
 unfold ER
 rw [if_pos (by unfold DN; simp; omega)]
 have e:DF x0 n 100000 [] 0=some c:=h1
 rw [e]; rfl
/-- Texts that are made, one after the other. -/
theorem Vm (ys:List (List (Int×Int×Int×Bool×Bool))) (hy:ys.length<=5) (hb:∀ x ∈ ys,∀ v ∈ x,Pn v) (L:Nat->Int->List (List AE)->Option (List (List AE)))
  (hs:∀ (pre:List (List (Int×Int×Int×Bool×Bool))) v r,ys=pre++v::r->∀ f st,L (f + 1) (pre.length:Int) st=(Fj v).bind fun v9=>if (Gg 24 (st.length + ([v9]:List (List AE)).length))=true then L f (wr .i64 ((pre.length:Int) + 1)) (st++[v9]) else none)
  (he:∀ f st,L (f + 1) (ys.length:Int) st=some st):∃ c,L 100000 0 []=some c/\(∀ x ∈ c,few x)/\okT c=true/\c.length=ys.length:=by
 have go:∀ (r pre:List (List (Int×Int×Int×Bool×Bool))) (f:Nat) (st:List (List AE)),ys=pre++r->r.length < f->st.length=pre.length->(∀ x ∈ st,few x)->okT st=true->∃ c,L f (pre.length:Int) st=some c/\(∀ x ∈ c,few x)/\okT c=true/\c.length=ys.length:=by
  intro r
  induction r with
  | nil =>
   intro pre f st e hf hl h1 h2
   obtain ⟨f,rfl⟩:∃ q,f=q + 1:=⟨f - 1,by simp at hf; omega⟩
   have e':ys=pre:=by rw [e]; simp
   subst e'
   exact ⟨st,he f st,h1,h2,hl⟩
  | cons v r ih =>
   intro pre f st e hf hl h1 h2
   obtain ⟨f,rfl⟩:∃ q,f=q + 1:=⟨f - 1,by simp at hf; omega⟩
   simp only [List.length_cons] at hf
   have hl2:ys.length=pre.length + r.length + 1:=by rw [e]; simp; omega
   obtain ⟨c,c1,c2,c3,c4⟩:=WF v (hb v (by rw [e]; simp))
   have hc:(MN c).2=0:=by rw [Sy (by omega) c3]
   obtain ⟨d,d1,d2⟩:=ih (pre++[v]) f (st++[c]) (by rw [e]; simp) (by omega) (by simp [hl]) (fun x hx=>by
    rcases List.mem_append.1 hx with hx | hx
    ·exact h1 x hx
    ·rw [List.mem_singleton.1 hx]; exact c2) (by unfold okT at h2 ⊢; rw [List.all_append,h2]; simp [hc])
   refine ⟨d,?_,d2⟩
   rw [hs pre v r e f st,c1,OS,if_pos (It (by omega) (by simp; omega)),Fe pre v r (by rw [<-e]; omega)]
   exact d1
 exact go ys [] 100000 [] rfl (by omega) rfl (fun x hx=>by cases hx) rfl
/-- The sum over all pairs of two lists. -/
def crs (W:Int->Int->Int) (A B:List Int):Int:=Ew (fun a=>Ew (fun y=>W y a) B) A
theorem Rj {f h:Int->Int}:∀ l:List Int,Ew (fun a=>f a + h a) l=Ew f l + Ew h l
 | []=>rfl
 | a::l=>by simp only [Ew,Rj l]; omega
theorem LI {f h:Int->Int}:∀ {l:List Int},(∀ a ∈ l,f a<=h a)->Ew f l<=Ew h l
 | [],_=>Int.le_refl _
 | a::l,hl=>by
  have h1:=hl a (by simp)
  have h2:=LI (l:=l) fun b hb=>hl b (List.mem_cons_of_mem _ hb)
  simp only [Ew]; omega
theorem We {f h:Int->Int}:∀ {l:List Int},l≠[]->(∀ a ∈ l,f a < h a)->Ew f l < Ew h l
 | [],h,_=>absurd rfl h
 | a::l,_,hl=>by
  have h1:=hl a (by simp)
  have h2:=LI (l:=l) fun b hb=>Int.le_of_lt (hl b (List.mem_cons_of_mem _ hb))
  simp only [Ew]; omega
theorem L5 (W:Int->Int->Int):∀ A B:List Int,prS W (A++B)=prS W A + crs W A B + prS W B
 | [],B=>by simp [prS,crs,Ew]
 | a::A,B=>by
  simp only [List.cons_append,prS,L5 W A B,crs,Ew,KP]
  omega
theorem T3 (W:Int->Int->Int) (A:List Int){B C:List Int}(h:B.Perm C):crs W A B=crs W A C:=by
 unfold crs
 congr 1
 funext a
 exact LJ h
theorem RH (W:Int->Int->Int) (x:Int) (C:List Int):∀ B:List Int,crs W B (x::C)=Ew (fun b=>W x b) B + crs W B C:=fun B=>by
 unfold crs
 rw [<-Rj]; rfl
/-- Two that change places. -/
theorem Uc {W:Int->Int->Int}{A B C:List Int}{x y:Int}(h1:∀ b ∈ B,W b x<=W b y) (h2:∀ b ∈ B,W y b<=W x b) (h3:W y x < W x y):prS W (A++x::(B++y::C)) < prS W (A++y::(B++x::C)):=by
 have hp:(x::(B++y::C)).Perm (y::(B++x::C)):=by
  have e1:(x::(B++y::C)).Perm (x::y::(B++C)):=List.Perm.cons x List.perm_middle
  have e2:(y::(B++x::C)).Perm (y::x::(B++C)):=List.Perm.cons y List.perm_middle
  exact e1.trans ((List.Perm.swap y x _).trans e2.symm)
 rw [L5,L5,T3 W A hp]
 simp only [prS,L5,KP,RH,Ew]
 have m1:=LI (f:=fun z=>W z x) (h:=fun z=>W z y) (l:=B) h1
 have m2:=LI (f:=fun b=>W y b) (h:=fun b=>W x b) (l:=B) h2
 omega
/-- One that goes to the front. -/
theorem TL {W:Int->Int->Int}{A B:List Int}{x:Int}(hA:A≠[]) (h:∀ a ∈ A,W a x < W x a):prS W (x::(A++B)) < prS W (A++x::B):=by
 rw [L5]
 simp only [prS,L5,KP,RH]
 have m:=We (f:=fun z=>W z x) (h:=fun z=>W x z) hA h
 omega
/-- Where a number stands. -/
theorem RP (A B:List Int) (x:Int) (hx:x ∉ A) (hn:(A++x::B).length<=99999):A4 (A++x::B) x=some (A.length:Int):=by
 have go:∀ (r pre:List Int) (f:Nat),A=pre++r->r.length + 1 < f->Bx (A++x::B) x f (pre.length:Int)=some (.inr (A.length:Int)):=by
  intro r
  induction r with
  | nil =>
   intro pre f e hf
   obtain ⟨f,rfl⟩:∃ q,f=q + 1:=⟨f - 1,by simp at hf; omega⟩
   have e':A=pre:=by rw [e]; simp
   subst e'
   unfold Bx
   rw [if_pos (Hc A x B),FJ,OS,if_pos (by simp)]
  | cons v r ih =>
   intro pre f e hf
   obtain ⟨f,rfl⟩:∃ q,f=q + 1:=⟨f - 1,by simp at hf; omega⟩
   simp only [List.length_cons] at hf
   have hv:¬ x=v:=fun e2=>hx (by rw [e,e2]; simp)
   have eA:A++x::B=pre++v::(r++x::B):=by rw [e]; simp
   unfold Bx
   rw [show (decide ((pre.length:Int) < ((A++x::B).length:Int)))=true by rw [eA]; exact Hc pre v _,if_pos rfl,show idx (A++x::B) (pre.length:Int)=some v by rw [eA,FJ],OS,if_neg (by simpa using hv),Fe pre v (r++x::B) (by rw [<-eA]; omega)]
   exact ih (pre++[v]) f (by rw [e]; simp) (by omega)
 have h:=go A [] 100000 rfl (by simp at hn; omega)
 have h':Bx (A++x::B) x 100000 0=some (.inr (A.length:Int)):=h
 unfold A4
 rw [h']; rfl
theorem TX {o:List Int}{x y:Int}(hx:x ∈ o) (hy:y ∈ o) (hne:x≠y):(∃ A B C,o=A++x::(B++y::C))\/∃ A B C,o=A++y::(B++x::C):=by
 obtain ⟨A,R,rfl⟩:=List.append_of_mem hx
 rcases List.mem_append.1 hy with h | h
 ·obtain ⟨A1,A2,rfl⟩:=List.append_of_mem h
  exact .inr ⟨A1,A2,R,by simp⟩
 ·rcases List.mem_cons.1 h with e | h
  ·exact absurd e.symm hne
  ·obtain ⟨B,C,rfl⟩:=List.append_of_mem h
   exact .inl ⟨A,B,C,rfl⟩
section
variable {l:List (List AE)}{g:List Am}(hv:okT l=true) (hn:g.length<=7)
include hv hn
theorem Qk {c:List AE}(hc:c ∈ l):H6 [] c:=by
 have _:=hn
 have h1:(MN c).2=0:=by simpa using List.all_eq_true.1 hv c hc
 exact (Jt h1).2
/-- All courts put one before another. -/
theorem Rr {x y:Nat}(hx:x < g.length) (hy:y < g.length) (h:vt l g x y=(l.length:Int)):(∀ c ∈ l,cm c g x y = -1)/\vt l g y x=0:=by
 have h1:(l.countP fun c=>cm c g x y == -1)=l.length:=by unfold vt at h; omega
 rw [List.countP_eq_length] at h1
 have h2:∀ c ∈ l,cm c g x y = -1:=fun c hc=>by simpa using h1 c hc
 refine ⟨h2,?_⟩
 unfold vt
 have:(l.countP fun c=>cm c g y x == -1)=0:=by
  rw [List.countP_eq_zero]
  intro c hc
  have h3:=h2 c hc
  have h4:=XM (g:=g) (Qk hv hn hc) (x:=y) (y:=x) (by omega) (by omega)
  rw [h4,h3]; simp
 rw [this]; rfl
theorem VM {x y u w:Nat}(h:∀ c ∈ l,cm c g x y = -1->cm c g u w = -1):vt l g x y<=vt l g u w:=by
 have _:=hv; have _:=hn
 unfold vt
 have:=List.countP_mono_left (l:=l) (p:=fun c=>cm c g x y == -1) (q:=fun c=>cm c g u w == -1) fun c hc hp=>by simpa using h c hc (by simpa using hp)
 omega
end
/-- The first error of texts. -/
def T9:List (List AE)->Int
 | []=>0
 | c::r=>if (MN c).2=0 then T9 r else (MN c).2
theorem Sh:∀ l:List (List AE),okT l=true↔T9 l=0
 | []=>by simp [okT,T9]
 | c::r=>by
  have:=Sh r
  unfold T9
  by_cases h:(MN c).2=0
  ·rw [if_pos h,<-this]; simp [okT,h]
  ·rw [if_neg h]; simp [okT,h]
/- trestle/court.Inversions$1 -/
/- slices.IndexFunc[[]int,int] -/
/- slices.ContainsFunc[[]int,int] -/
/- trestle/court.Inversions -/
/-- How many stand behind x and below it. -/
def VY (x:Int) (r:List Int):Nat:=r.countP fun y=>decide (x > y)
def inv:List Int->Nat
 | []=>0
 | x::r=>VY x r + inv r
section
variable (cl od:List Int)
end
/- trestle/trestlelaw03.compromises -/
/- trestle/trestlelaw03.CourtCompromises -/
theorem XI {l:List (List AE)}(g:List Am) (hl:∀ c ∈ l,few c) (hn:l.length<=99999):CF l g 100000 0=some (if T9 l=0 then .inl () else .inr (0,T9 l)):=by
 have go:∀ (r pre:List (List AE)) (f:Nat),l=pre++r->r.length < f->CF l g f (pre.length:Int)=some (if T9 r=0 then .inl () else .inr (0,T9 r)):=by
  intro r
  induction r with
  | nil =>
   intro pre f e hf
   obtain ⟨f,rfl⟩:∃ q,f=q + 1:=⟨f - 1,by simp at hf; omega⟩
   unfold CF
   rw [if_neg (by rw [e]; simp)]; rfl
  | cons c r ih =>
   intro pre f e hf
   obtain ⟨f,rfl⟩:∃ q,f=q + 1:=⟨f - 1,by simp at hf; omega⟩
   have hl2:l.length=pre.length + r.length + 1:=by rw [e]; simp; omega
   simp only [List.length_cons] at hf
   unfold CF
   rw [if_pos (by rw [e]; exact Hc pre c r),show idx l (pre.length:Int)=some c by rw [e,FJ],OS,Qc c (hl c (by rw [e]; simp)),OS]
   unfold T9
   by_cases h:(MN c).2=0
   ·rw [if_neg (by simp [h]),if_pos h,Fe pre c r (by rw [<-e]; omega)]
    exact ih (pre++[c]) f (by rw [e]; simp) (by omega)
   ·rw [if_pos (by simp [h]),if_neg h,if_neg h]
 exact go l [] 100000 rfl (by omega)
theorem XO {l:List (List AE)}{g:List Am}(hl:∀ c ∈ l,few c) (h16:l.length<=16) (hv:okT l=true) (hg:FewR g) (hn:g.length<=7){q:Int×List Int}(hq:BB (WI l g) g.length (QV g.length)=some q):DK l g=some (q.2,q.1,0):=by
 obtain ⟨a1,a2,a3⟩:=Rs g.length (by omega)
 have hW:∀ x y,0<=WI l g x y/\WI l g x y<=16:=fun x y=>by
  have:=Tf l g x.toNat y.toNat
  unfold WI
  omega
 have h0:∀ x:Nat,x < g.length->WI l g (x:Int) (x:Int)=0:=fun x hx=>by
  unfold WI vt
  rw [Int.toNat_natCast]
  have:(l.countP fun c=>cm c g x x == -1)=0:=by
   rw [List.countP_eq_zero]
   intro c hc
   have h1:(MN c).2=0:=by simpa using List.all_eq_true.1 hv c hc
   rw [ZH (Jt h1).2 (by omega)]
   simp
  rw [this]; rfl
 have hT:∀ u v:Int,0<=u/\u < g.length->0<=v/\v < g.length->∃ r,idx (H4 g.length (vt l g)) u=some r/\idx r v=some (WI l g u v):=fun u v hu hv=>VB hu hv
 have hI:VO (WI l g) g.length (2 ^ g.length - 1) (List.replicate (2 ^ g.length) 0) (List.replicate (2 ^ g.length) 0):=by
  refine ⟨List.length_replicate,List.length_replicate,fun s h1 h2=>?_⟩
  have he:=(Rb g.length (by omega) s h2).2 (by omega)
  exact ⟨(0,[]),by rw [he]; rfl,by simp [h2],fun h=>absurd he h⟩
 obtain ⟨cs,nx,e1,e2⟩:=ZL (b:=true) hn hW h0 hT (2 ^ g.length - 1) 100000 _ _ hI (by omega) (by omega)
 have hr0:RN g.length 0=QV g.length:=Zc g.length (by omega)
 have hl0:(RN g.length 0).length=g.length:=by rw [hr0,Ej]
 have e3:=ZM hn cs nx e2 g.length 0 100000 [] q hl0 a3 (by rw [hr0]; exact hq) (by omega) (by simp; omega)
 obtain ⟨q',q1,q2,_⟩:=e2.2.2 0 (Nat.le_refl _) a3
 rw [hl0,hr0,hq] at q1
 obtain rfl:=OI q1
 have hc0:idx cs 0=some q.1:=by
  obtain ⟨hlt,e⟩:=List.getElem?_eq_some_iff.1 q2
  have:=H3 hlt
  rw [e] at this
  exact this
 have w1:wr .i64 (((2 ^ g.length - 1:Nat):Int) + 1)=((2 ^ g.length:Nat):Int):=by rw [Q6 (by omega) (by omega)]; omega
 have w2:wr .i64 (((2 ^ g.length - 1:Nat):Int) - 1)=((2 ^ g.length - 1:Nat):Int) - 1:=Q6 (by omega) (by omega)
 have he:=(Sh l).1 hv
 have mk:OD 8 ((2 ^ g.length:Nat):Int)=true:=by
  generalize 2 ^ g.length=z at a2 a3
  simp [OD]; omega
 unfold DK
 rw [if_neg (by simp; omega),XI g hl (by omega),if_pos he,OS]
 simp only []
 rw [if_neg (by simp; omega),Qz hl hg,if_pos ⟨h16,hv⟩,OS,if_pos (by simp),a1,w1,w2,if_pos mk,if_pos mk,Int.toNat_natCast,e1,OS]
 have e3':CG g (cs,nx) 100000 [] 0=some ([]++q.2):=e3
 rw [e3',OS]
 show (idx cs 0).bind _=_
 rw [hc0]; rfl
end Go.Proofs.YtlalcoehgkmhlaaGreatDoor
namespace Go.Proofs.YtlalcoehgkmhlaaGreatDoor
section
variable {α:Type}
/-- Groups of things that tie, each in the order of their places, each ahead of the later ones. -/
structure GL (f:α->α->Int) (p:α->Int) (L:List (List α)):Prop where
 ne:∀ g ∈ L,g≠[]
 tie:∀ g ∈ L,g.Pairwise fun a b=>p a < p b
 eq:∀ g ∈ L,∀ a ∈ g,∀ b ∈ g,f a b=0
 lt:L.Pairwise fun g h=>∀ a ∈ g,∀ b ∈ h,f a b = -1
theorem Ye {f:α->α->Int}{p:α->Int}{g:List α}{L:List (List α)}(h:GL f p (g::L)):GL f p L :=
 ⟨fun x hx=>h.ne x (List.mem_cons_of_mem _ hx),fun x hx=>h.tie x (List.mem_cons_of_mem _ hx),fun x hx=>h.eq x (List.mem_cons_of_mem _ hx),(List.pairwise_cons.1 h.lt).2⟩
end
/- trestle/court.groups$1 -/
/- slices.insertionSortCmpFunc[trestle/court.seated] -/
/- slices.stableCmpFunc[trestle/court.seated] -/
end Go.Proofs.YtlalcoehgkmhlaaGreatDoor
