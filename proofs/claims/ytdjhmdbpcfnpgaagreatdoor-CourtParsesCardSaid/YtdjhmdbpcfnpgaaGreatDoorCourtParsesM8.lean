/- Lemmas for the proof. -/
import Derived.Test.YtdjhmdbpcfnpgaaGreatDoorCourtParsesM1
import Derived.Test.YtdjhmdbpcfnpgaaGreatDoorCourtParsesM2
import Derived.Test.YtdjhmdbpcfnpgaaGreatDoorCourtParsesM3
import Derived.Test.YtdjhmdbpcfnpgaaGreatDoorCourtParsesM4
import Derived.Test.YtdjhmdbpcfnpgaaGreatDoorCourtParsesM5
import Derived.Test.YtdjhmdbpcfnpgaaGreatDoorCourtParsesM6
import Derived.Test.YtdjhmdbpcfnpgaaGreatDoorCourtParsesM7
namespace Go.Proofs.YtdjhmdbpcfnpgaaGreatDoor
open Go.RowKit
theorem Vy (q:List (List UInt8)) (a:Int) (b:List UInt8) (c:Bool) (d k:Int) (am:List UInt8) (x:Bool) (n:Int) (ok:Bool) (hq:q.length<=9999):CM (q,a,b,c,d,k,am,x,n,ok) true=some (match q with
  | []=> .inr (k,am,x,[],n,false)
  | l::q'=>if Gz l=true then .inl (q',a,b,c,d,k,am,(l==laB),n) else .inr (k,am,x,[],n,false)):=by
 unfold CM
 rw [if_pos rfl]
 cases q with
 | nil=>rfl
 | cons l q' =>
  obtain ⟨h1,h2⟩:=TT l q' (by simp at hq; omega)
  have ne:(((l::q').length:Int)==0)=false:=by rw [beq_eq_false_iff_ne,List.length_cons]; omega
  dsimp only
  rw [ne,if_neg (show ¬ (false=true) by decide),show idx (l::q') 0=some l from rfl,OS,OS]
  unfold Gz
  show ((if (!(l==ftB))=true then some (!(l==laB)) else some false).bind _)=_
  cases hf:l==ftB <;> cases hg:l==laB
  ·rfl
  ·rw [show (if (!false)=true then some (!true) else some false)=some false from rfl,OS,if_neg (show ¬ (false=true) by decide),OS,if_pos h1,h2]
   show some (Sum.inl (q',a,b,c,d,k,am,(l==laB),n))=some (Sum.inl (q',a,b,c,d,k,am,true,n))
   rw [hg]
  ·rw [show (if (!true)=true then some (!false) else some false)=some false from rfl,OS,if_neg (show ¬ (false=true) by decide),OS,if_pos h1,h2]
   show some (Sum.inl (q',a,b,c,d,k,am,(l==laB),n))=some (Sum.inl (q',a,b,c,d,k,am,false,n))
   rw [hg]
  ·rw [show (if (!true)=true then some (!true) else some false)=some false from rfl,OS,if_neg (show ¬ (false=true) by decide),OS,if_pos h1,h2]
   show some (Sum.inl (q',a,b,c,d,k,am,(l==laB),n))=some (Sum.inl (q',a,b,c,d,k,am,true,n))
   rw [hg]
theorem Vx (w:(List (List UInt8))×Int×(List UInt8)×Bool×Int×Int×(List UInt8)×Bool×Int×Bool):CM w false=some (.inl (w.1,w.2.1,w.2.2.1,w.2.2.2.1,w.2.2.2.2.1,w.2.2.2.2.2.1,w.2.2.2.2.2.2.1,w.2.2.2.2.2.2.2.1,w.2.2.2.2.2.2.2.2.1)):=by
 unfold CM
 rw [if_neg (by decide)]
/-- What stands behind the kind and the number. -/
def SF (w73:(List (List UInt8))×Int×(List UInt8)×Bool×Int×Int×(List UInt8)×Bool×Int×Bool):Option (AJ×Bool) :=
  (if (decide (w73.2.2.2.2.2.1≥4))=true then some (decide (w73.2.2.2.2.2.1<=7)) else some false).bind fun j75 =>
  (CM w73 j75).bind fun r101 =>
  match r101 with
  | (.inl w102) =>
   (if (w102.2.2.2.2.2.1==1)=true then some true else if (w102.2.2.2.2.2.1==6)=true then some true else some (w102.2.2.2.2.2.1==7)).bind fun j104 =>
   if j104=true then
   (if w73.2.2.2.2.2.2.2.2.2=true then some (w102.2.2.2.2.2.1,w102.2.2.2.2.2.2.1,w102.2.2.2.2.2.2.2.1,w102.1,w102.2.2.2.2.2.2.2.2,(decide ((w102.1.length:Int) > 0))) else some (w102.2.2.2.2.2.1,w102.2.2.2.2.2.2.1,w102.2.2.2.2.2.2.2.1,w102.1,w102.2.2.2.2.2.2.2.2,false)).bind fun j112 =>
   some ((j112.1,j112.2.1,j112.2.2.1,j112.2.2.2.1,j112.2.2.2.2.1),j112.2.2.2.2.2)
   else
   (if w73.2.2.2.2.2.2.2.2.2=true then if (w102.2.2.2.2.2.1 != 0)=true then some (w102.2.2.2.2.2.1,w102.2.2.2.2.2.2.1,w102.2.2.2.2.2.2.2.1,w102.2.2.2.2.2.2.2.2,((w102.1.length:Int)==0)) else some (w102.2.2.2.2.2.1,w102.2.2.2.2.2.2.1,w102.2.2.2.2.2.2.2.1,w102.2.2.2.2.2.2.2.2,false) else some (w102.2.2.2.2.2.1,w102.2.2.2.2.2.2.1,w102.2.2.2.2.2.2.2.1,w102.2.2.2.2.2.2.2.2,false)).bind fun j119 =>
   some ((j119.1,j119.2.1,j119.2.2.1,[],j119.2.2.2.1),j119.2.2.2.2)
  | (.inr w124) =>
   some ((w124.1,w124.2.1,w124.2.2.1,w124.2.2.2.1,w124.2.2.2.2.1),w124.2.2.2.2.2)
def tlR (am:List UInt8) (k:Int) (s:List UInt8) (r:List (List UInt8)):Option (AJ×Bool) :=
 (if (k==4)=true then some true else some (k==10)).bind fun j50 =>
 (Bz (s::r,0,[],false,0,0,am,false,0) (0,[],false,0,k,am,false,0) j50).bind fun r72 =>
 match r72 with
 | (.inl w73)=>SF w73
 | (.inr w126) =>
  some ((w126.1,w126.2.1,w126.2.2.1,w126.2.2.2.1,w126.2.2.2.2.1),w126.2.2.2.2.2)
theorem Vw (am:List UInt8) (k:Int) (s:List UInt8) (r:List (List UInt8)) (hr:r.length<=9999):Bz (s::r,0,[],false,0,0,am,false,0) (0,[],false,0,k,am,false,0) false=some (.inl (r,0,[],false,0,k,am,false,0,true)):=by
 unfold Bz
 rw [if_neg (by decide)]
 dsimp only
 rw [(TT s r hr).2]
theorem Vi (am:List UInt8) (k:Int) (s:List UInt8) (r:List (List UInt8)) (hr:r.length<=9999):Bz (s::r,0,[],false,0,0,am,false,0) (0,[],false,0,k,am,false,0) true=some (match r with
  | []=> .inr (k,am,false,[],0,false)
  | n::q=> .inl (q,0,[],false,0,k,am,false,(PZ (Ia n)).1,(PZ (Ia n)).2)):=by
 unfold Bz
 rw [if_pos rfl]
 dsimp only
 rw [(TT s r hr).2]
 cases r with
 | nil=>rfl
 | cons n q =>
  obtain ⟨h1,h2⟩:=TT n q (by simp at hr; omega)
  have ne:(((n::q).length:Int)==0)=false:=by rw [beq_eq_false_iff_ne,List.length_cons]; omega
  rw [ne,if_neg (show ¬ (false=true) by decide),show idx (n::q) 0=some n from rfl,OS,PV,OS,if_pos h1,h2]
theorem M0 (am:List UInt8) (k:Int) (s:List UInt8) (r:List (List UInt8)) (hr:r.length<=9999) (h4:(k==4)=false) (h10:(k==10)=false):tlR am k s r=SF (r,0,[],false,0,k,am,false,0,true):=by
 unfold tlR
 rw [h4,if_neg (show ¬ (false=true) by decide),h10,OS,Vw _ _ _ _ hr]
 rfl
theorem UZ (am:List UInt8) (k:Int) (s:List UInt8) (hk:(if (k==4)=true then some true else some (k==10))=some true):tlR am k s []=some ((k,am,false,[],0),false):=by
 unfold tlR
 rw [hk,OS,Vi _ _ _ _ (by simp)]
 rfl
theorem Rq (am:List UInt8) (k:Int) (s n:List UInt8) (q:List (List UInt8)) (hr:(n::q).length<=9999) (hk:(if (k==4)=true then some true else some (k==10))=some true):tlR am k s (n::q)=SF (q,0,[],false,0,k,am,false,(PZ (Ia n)).1,(PZ (Ia n)).2):=by
 unfold tlR
 rw [hk,OS,Vi _ _ _ _ hr]
 rfl
def T1 (q:List (List UInt8)) (k:Int) (am:List UInt8) (la:Bool) (n:Int) (ok:Bool):Option (AJ×Bool) :=
 if ((k==1)||((k==6)||(k==7)))=true then some ((k,am,la,q,n),ok&&decide ((q.length:Int) > 0)) else some ((k,am,la,[],n),ok&&((k != 0)&&((q.length:Int)==0)))
theorem P7 (q:List (List UInt8)) (a:Int) (b:List UInt8) (c:Bool) (d k:Int) (am:List UInt8) (la:Bool) (n:Int) (ok:Bool):(match (.inl (q,a,b,c,d,k,am,la,n):((List (List UInt8))×Int×(List UInt8)×Bool×Int×Int×(List UInt8)×Bool×Int) ⊕ (Int×(List UInt8)×Bool×(List (List UInt8))×Int×Bool)) with
  | (.inl w102) =>
   (if (w102.2.2.2.2.2.1==1)=true then some true else if (w102.2.2.2.2.2.1==6)=true then some true else some (w102.2.2.2.2.2.1==7)).bind fun j104 =>
   if j104=true then
   (if ok=true then some (w102.2.2.2.2.2.1,w102.2.2.2.2.2.2.1,w102.2.2.2.2.2.2.2.1,w102.1,w102.2.2.2.2.2.2.2.2,(decide ((w102.1.length:Int) > 0))) else some (w102.2.2.2.2.2.1,w102.2.2.2.2.2.2.1,w102.2.2.2.2.2.2.2.1,w102.1,w102.2.2.2.2.2.2.2.2,false)).bind fun j112 =>
   some ((j112.1,j112.2.1,j112.2.2.1,j112.2.2.2.1,j112.2.2.2.2.1),j112.2.2.2.2.2)
   else
   (if ok=true then if (w102.2.2.2.2.2.1 != 0)=true then some (w102.2.2.2.2.2.1,w102.2.2.2.2.2.2.1,w102.2.2.2.2.2.2.2.1,w102.2.2.2.2.2.2.2.2,((w102.1.length:Int)==0)) else some (w102.2.2.2.2.2.1,w102.2.2.2.2.2.2.1,w102.2.2.2.2.2.2.2.1,w102.2.2.2.2.2.2.2.2,false) else some (w102.2.2.2.2.2.1,w102.2.2.2.2.2.2.1,w102.2.2.2.2.2.2.2.1,w102.2.2.2.2.2.2.2.2,false)).bind fun j119 =>
   some ((j119.1,j119.2.1,j119.2.2.1,[],j119.2.2.2.1),j119.2.2.2.2)
  | (.inr w124) =>
   some ((w124.1,w124.2.1,w124.2.2.1,w124.2.2.2.1,w124.2.2.2.2.1),w124.2.2.2.2.2))=T1 q k am la n ok:=by
 dsimp only
 unfold T1
 cases k==1 <;> cases k==6 <;> cases k==7 <;> cases ok <;> cases k != 0 <;> rfl
theorem Oy (q:List (List UInt8)) (a:Int) (b:List UInt8) (c:Bool) (d k:Int) (am:List UInt8) (la:Bool) (n:Int) (ok:Bool) (hk:k < 4\/7 < k):SF (q,a,b,c,d,k,am,la,n,ok)=T1 q k am la n ok:=by
 unfold SF
 have e:(if (decide (k≥4))=true then some (decide (k<=7)) else some false)=some false:=by
  rcases hk with h | h
  ·rw [if_neg (by rw [decide_eq_true_eq]; omega)]
  ·rw [if_pos (decide_eq_true (by omega)),show decide (k<=7)=false from decide_eq_false (by omega)]
 dsimp only
 rw [e,OS,Vx,OS]
 exact P7 q a b c d k am la n ok
theorem JT (q:List (List UInt8)) (a:Int) (b:List UInt8) (c:Bool) (d k:Int) (am:List UInt8) (la:Bool) (n:Int) (ok:Bool) (h4:4<=k) (h7:k<=7) (hq:q.length<=9999):SF (q,a,b,c,d,k,am,la,n,ok)=match q with
  | []=>some ((k,am,la,[],n),false)
  | l::q'=>if Gz l=true then T1 q' k am (l==laB) n ok else some ((k,am,la,[],n),false):=by
 unfold SF
 dsimp only
 rw [if_pos (decide_eq_true h4),show decide (k<=7)=true from decide_eq_true h7,OS,Vy _ _ _ _ _ _ _ _ _ _ hq,OS]
 cases q with
 | nil=>rfl
 | cons l q' =>
  dsimp only
  cases Gz l with
  | false=>rfl
  | true=>exact P7 q' a b c d k am (l==laB) n ok
def okR (o:Option AJ) (y:Option (AJ×Bool)):Prop:=∃ c,y=some (c,o.isSome)/\∀ x,o=some x->c=x
theorem okN {y:Option (AJ×Bool)}{c:AJ}(h:y=some (c,false)):okR none y:=⟨c,h,fun _ h=>by cases h⟩
theorem okS {y:Option (AJ×Bool)}{c:AJ}(h:y=some (c,true)):okR (some c) y:=⟨c,h,fun _ h=>OI h⟩
theorem UW (s am:List UInt8) (r:List (List UInt8)) (k:Int) (hr:r.length<=9999) (h0:0<=k) (h10:k<=10):okR (clK am k r) (tlR am k s r):=by
 have hk:k=0\/k=1\/k=2\/k=3\/k=4\/k=5\/k=6\/k=7\/k=8\/k=9\/k=10:=by omega
 have ne:∀ (x:List UInt8) (q:List (List UInt8)),(((x::q).length:Int)==0)=false:=fun x q=>by rw [beq_eq_false_iff_ne,List.length_cons]; omega
 have pe:∀ (x:List UInt8) (q:List (List UInt8)),decide (((x::q).length:Int) > 0)=true:=fun x q=>decide_eq_true (by rw [List.length_cons]; omega)
 have oth:∀ k:Int,k=2\/k=3\/k=8\/k=9->okR (if r=[] then some (k,am,false,[],0) else none) (tlR am k s r):=fun k hk=>by
  have e:tlR am k s r=some ((k,am,false,[],0),((r.length:Int)==0)):=by
   rw [M0 _ _ _ _ hr (by rcases hk with rfl | rfl | rfl | rfl <;> rfl) (by rcases hk with rfl | rfl | rfl | rfl <;> rfl),Oy _ _ _ _ _ _ _ _ _ _ (by omega)]
   rcases hk with rfl | rfl | rfl | rfl <;> rfl
  cases r with
  | nil=>exact okS e
  | cons x q=>rw [ne] at e; exact okN e
 rcases hk with rfl | rfl | rfl | rfl | rfl | rfl | rfl | rfl | rfl | rfl | rfl
 ·refine okN (c:=(0,am,false,[],0)) ?_
  rw [M0 _ _ _ _ hr rfl rfl,Oy _ _ _ _ _ _ _ _ _ _ (by omega)]
  rfl
 ·have e:tlR am 1 s r=some ((1,am,false,r,0),decide ((r.length:Int) > 0)):=by
   rw [M0 _ _ _ _ hr rfl rfl,Oy _ _ _ _ _ _ _ _ _ _ (by omega)]
   rfl
  cases r with
  | nil=>exact okN e
  | cons x q=>rw [pe] at e; exact okS e
 ·exact oth 2 (by omega)
 ·exact oth 3 (by omega)
 · -- a number, then first or last
  match r,hr with
  | [],hr =>
   refine okN (c:=(4,am,false,[],0)) ?_
   exact UZ _ _ _ rfl
  | [n],hr =>
   refine okN (c:=(4,am,false,[],(PZ (Ia n)).1)) ?_
   rw [Rq _ _ _ _ _ hr rfl,JT _ _ _ _ _ _ _ _ _ _ (by omega) (by omega) (by simp)]
  | [n,l],hr =>
   have e0:clK am 4 [n,l]=(match Ia n with
    | some x=>if Gz l=true then some (4,am,l==laB,[],(x:Int)) else none
    | none=>none):=rfl
   have e:tlR am 4 s [n,l]=if Gz l=true then some ((4,am,l==laB,[],(PZ (Ia n)).1),(if (PZ (Ia n)).2=true then true else false)) else some ((4,am,false,[],(PZ (Ia n)).1),false):=by
    rw [Rq _ _ _ _ _ hr rfl,JT _ _ _ _ _ _ _ _ _ _ (by omega) (by omega) (by simp)]
    dsimp only
    cases Gz l with
    | false=>rfl
    | true=>cases Ia n <;> rfl
   rw [e0]
   cases hf:Gz l with
   | false =>
    rw [hf,if_neg (by decide)] at e
    cases Ia n <;> exact okN e
   | true =>
    rw [hf,if_pos rfl] at e
    cases hn:Ia n with
    | none=>rw [hn] at e; exact okN e
    | some x=>rw [hn] at e; exact okS e
  | n::l::y::q,hr =>
   have e0:clK am 4 (n::l::y::q)=none:=rfl
   rw [e0]
   have e:tlR am 4 s (n::l::y::q)=if Gz l=true then some ((4,am,l==laB,[],(PZ (Ia n)).1),false) else some ((4,am,false,[],(PZ (Ia n)).1),false):=by
    rw [Rq _ _ _ _ _ hr rfl,JT _ _ _ _ _ _ _ _ _ _ (by omega) (by omega) (by simp at hr ⊢; omega)]
    dsimp only
    cases Gz l with
    | false=>rfl
    | true =>
     rw [if_pos rfl,if_pos rfl]
     unfold T1
     rw [ne]
     cases Ia n <;> rfl
   cases hf:Gz l with
   | false=>rw [hf,if_neg (by decide)] at e; exact okN e
   | true=>rw [hf,if_pos rfl] at e; exact okN e
 ·match r,hr with
  | [],hr =>
   refine okN (c:=(5,am,false,[],0)) ?_
   rw [M0 _ _ _ _ hr rfl rfl,JT _ _ _ _ _ _ _ _ _ _ (by omega) (by omega) hr]
  | l::q,hr =>
   have e0:clK am 5 (l::q)=if Gz l=true then (if q=[] then some (5,am,l==laB,[],0) else none) else none:=by
    cases q with
    | nil=>rfl
    | cons y q=>show none=_; split <;> rfl
   have e:tlR am 5 s (l::q)=if Gz l=true then some ((5,am,l==laB,[],0),((q.length:Int)==0)) else some ((5,am,false,[],0),false):=by
    rw [M0 _ _ _ _ hr rfl rfl,JT _ _ _ _ _ _ _ _ _ _ (by omega) (by omega) hr]
    dsimp only
    cases Gz l <;> rfl
   rw [e0]
   cases hf:Gz l with
   | false=>rw [hf,if_neg (by decide)] at e; rw [if_neg (by decide)]; exact okN e
   | true =>
    rw [hf,if_pos rfl] at e
    rw [if_pos rfl]
    cases q with
    | nil=>exact okS e
    | cons y q=>rw [ne] at e; exact okN e
 ·match r,hr with
  | [],hr =>
   refine okN (c:=(6,am,false,[],0)) ?_
   rw [M0 _ _ _ _ hr rfl rfl,JT _ _ _ _ _ _ _ _ _ _ (by omega) (by omega) hr]
  | l::q,hr =>
   have e0:clK am 6 (l::q)=if Gz l=true then (if q=[] then none else some (6,am,l==laB,q,0)) else none:=by
    cases q with
    | nil=>show none=_; split <;> rfl
    | cons y q=>rfl
   have e:tlR am 6 s (l::q)=if Gz l=true then some ((6,am,l==laB,q,0),decide ((q.length:Int) > 0)) else some ((6,am,false,[],0),false):=by
    rw [M0 _ _ _ _ hr rfl rfl,JT _ _ _ _ _ _ _ _ _ _ (by omega) (by omega) hr]
    dsimp only
    cases Gz l <;> rfl
   rw [e0]
   cases hf:Gz l with
   | false=>rw [hf,if_neg (by decide)] at e; rw [if_neg (by decide)]; exact okN e
   | true =>
    rw [hf,if_pos rfl] at e
    rw [if_pos rfl]
    cases q with
    | nil=>exact okN e
    | cons y q=>rw [pe] at e; exact okS e
 ·match r,hr with
  | [],hr =>
   refine okN (c:=(7,am,false,[],0)) ?_
   rw [M0 _ _ _ _ hr rfl rfl,JT _ _ _ _ _ _ _ _ _ _ (by omega) (by omega) hr]
  | l::q,hr =>
   have e0:clK am 7 (l::q)=if Gz l=true then (if q=[] then none else some (7,am,l==laB,q,0)) else none:=by
    cases q with
    | nil=>show none=_; split <;> rfl
    | cons y q=>rfl
   have e:tlR am 7 s (l::q)=if Gz l=true then some ((7,am,l==laB,q,0),decide ((q.length:Int) > 0)) else some ((7,am,false,[],0),false):=by
    rw [M0 _ _ _ _ hr rfl rfl,JT _ _ _ _ _ _ _ _ _ _ (by omega) (by omega) hr]
    dsimp only
    cases Gz l <;> rfl
   rw [e0]
   cases hf:Gz l with
   | false=>rw [hf,if_neg (by decide)] at e; rw [if_neg (by decide)]; exact okN e
   | true =>
    rw [hf,if_pos rfl] at e
    rw [if_pos rfl]
    cases q with
    | nil=>exact okN e
    | cons y q=>rw [pe] at e; exact okS e
 ·exact oth 8 (by omega)
 ·exact oth 9 (by omega)
 ·match r,hr with
  | [],hr =>
   refine okN (c:=(10,am,false,[],0)) ?_
   exact UZ _ _ _ rfl
  | n::q,hr =>
   have e0:clK am 10 (n::q)=if q=[] then (match Ia n with
    | some x=>(some ((10:Int),am,false,[],(x:Int)):Option AJ)
    | none=>none) else none:=by cases q <;> rfl
   have e:tlR am 10 s (n::q)=some ((10,am,false,[],(PZ (Ia n)).1),(if (PZ (Ia n)).2=true then ((q.length:Int)==0) else false)):=by
    rw [Rq _ _ _ _ _ hr rfl,Oy _ _ _ _ _ _ _ _ _ _ (by omega)]
    cases Ia n <;> rfl
   rw [e0]
   cases q with
   | nil =>
    rw [if_pos rfl]
    cases hn:Ia n with
    | none=>rw [hn] at e; exact okN e
    | some x=>rw [hn] at e; exact okS e
   | cons y q =>
    rw [if_neg (by simp)]
    rw [ne] at e
    cases hn:Ia n with
    | none=>rw [hn] at e; exact okN e
    | some x=>rw [hn] at e; exact okN e
theorem Oq (s:List UInt8) (r:List (List UInt8)):clW (s::r)=if s=amB then (match r with
  | a::s'::r'=>clK a (kd s') r'
  | _=>none) else clK [] (kd s) r:=rfl
theorem RE (ws:List (List UInt8)) (hw:ws≠[]) (hl:ws.length<=3001):okR (clW ws) (DL ws):=by
 obtain ⟨s,r,rfl⟩:=List.exists_cons_of_ne_nil hw
 simp only [List.length_cons] at hl
 have plain:∀ (s:List UInt8) (am:List UInt8) (r:List (List UInt8)),r.length<=9999->∀ y,y=((B3 (s::r,0,[],false,0,0,am,false,0) 100000 0 [] false 0 0 am false 0 1).bind fun r47 =>
   if (By 1 ((s::r).length:Int) (s::r).length)=true then
   (if (r47.2.2.2.2.1==4)=true then some true else some (r47.2.2.2.2.1==10)).bind fun j50 =>
   (Bz (s::r,0,[],false,0,0,am,false,0) r47 j50).bind fun r72 =>
   match r72 with
   | (.inl w73)=>SF w73
   | (.inr w126)=>some ((w126.1,w126.2.1,w126.2.2.1,w126.2.2.2.1,w126.2.2.2.2.1),w126.2.2.2.2.2)
   else none)->okR (clK am (kd s) r) y:=fun s am r hr y hy=>by
  have h1:B3 (s::r,0,[],false,0,0,am,false,0) 100000 0 [] false 0 0 am false 0 1=_:=Vj (s::r,0,[],false,0,0,am,false,0) s rfl 0 0 [] am false false 10 1 0 100000 (by omega) (by omega) (by omega)
  rw [h1,OS,if_pos (TT s r hr).1] at hy
  rw [hy]
  exact UW s am r (kd s) hr (PT s).1 (PT s).2
 have e:=Oq s r
 have hka:kd amB=0:=by decide
 by_cases hs:s=amB
 ·match r,hl,e with
  | [],_,e =>
   rw [e,if_pos hs,hs]
   have:=plain amB [] [] (by simp) _ rfl
   rw [hka] at this
   exact this
  | [a],_,e =>
   rw [e,if_pos hs,hs]
   have:=plain amB [] [a] (by simp) _ rfl
   rw [hka] at this
   exact this
  | a::s'::r',hl,e =>
   simp only [List.length_cons] at hl
   rw [e,if_pos hs]
   refine plain s' a r' (by omega) _ ?_
   unfold DL
   have hc:By 2 ((s::a::s'::r').length:Int) (s::a::s'::r').length=true:=by simp only [By,Bool.and_eq_true,decide_eq_true_eq,List.length_cons]; omega
   have hd:(((s::a::s'::r').take ((s::a::s'::r').length:Int).toNat).drop (2:Int).toNat)=s'::r':=by
    rw [Int.toNat_natCast,List.take_length]; rfl
   rw [if_pos (decide_eq_true (by simp only [List.length_cons]; omega)),show idx (s::a::s'::r') 0=some s from rfl,OS,OS,show (s==[97,109,111,110,103])=true by rw [hs]; rfl]
   unfold Dj
   rw [if_pos rfl,show idx (s::a::s'::r') 1=some a from rfl,OS,if_pos hc,hd,OS]
   rfl
 ·rw [e,if_neg hs]
  refine plain s [] r (by omega) _ ?_
  unfold DL
  have hj:(if (decide (((s::r).length:Int) > 2))=true then (idx (s::r) 0).bind fun v1=>some (v1==[97,109,111,110,103]) else some false)=some false:=by
   rw [show idx (s::r) 0=some s from rfl,OS,show (s==[97,109,111,110,103])=false from beq_eq_false_iff_ne.2 hs]
   split <;> rfl
  rw [hj,OS]
  unfold Dj
  rw [if_neg (by decide),OS]
  rfl
def lnP (p:List UInt8):Option AJ:=if [] ∈ pcs 32 p then none else clW (pcs 32 p)
def Mj:List (List UInt8)->Nat->List AJ->List AJ×Int×Int
 | [],_,out=>(out,0,0)
 | [p],line,out=>if p=[] then (out,0,0) else ([],(line:Int),3)
 | p::q::r,line,out=>match lnP p with
  | none=>([],(line:Int),3)
  | some x=>if chk out x≠0 then ([],(line:Int),chk out x) else if out.length=32 then ([],(line:Int),7) else Mj (q::r) (line + 1) (out++[x])
theorem I3 (c:UInt8):∀ (s w:List UInt8),w ∈ pcs c s->w.length<=s.length
 | [],w,h=>by
  have:w=[]:=by simpa [pcs] using h
  rw [this]; exact Nat.le_refl _
 | b::r,w,h=>by
  unfold pcs at h
  split at h
  ·rcases List.mem_cons.1 h with rfl | h
   ·simp
   ·have:=I3 c r w h; simp; omega
  ·cases hp:pcs c r with
   | nil=>exact absurd hp (Qc c r)
   | cons v vs =>
    rw [hp] at h
    rcases List.mem_cons.1 h with rfl | h
    ·have:=I3 c r v (by rw [hp]; simp); simp; omega
    ·have:=I3 c r w (by rw [hp]; simp [h]); simp; omega
theorem LK (c:UInt8) (s:List UInt8):(pcs c s).length<=s.length + 1:=by
 have:s.count c<=s.length:=List.count_le_length
 rw [Ml]; omega
/-- What a clause is made of. -/
theorem SA {am:List UInt8}{k:Int}{r:List (List UInt8)}{x:AJ}(h:clK am k r=some x):x.2.1=am/\x.2.2.2.1.length<=r.length/\∀ w ∈ x.2.2.2.1,w ∈ r:=by
 unfold clK at h
 split at h
 ·cases h
 split at h
 ·split at h
  ·cases h
  ·obtain rfl:=OI h; exact ⟨rfl,Nat.le_refl _,fun _ h=>h⟩
 split at h
 ·split at h
  ·split at h
   ·split at h
    ·obtain rfl:=OI h; exact ⟨rfl,Nat.zero_le _,fun _ h=>by cases h⟩
    ·cases h
   ·cases h
  ·cases h
 split at h
 ·split at h
  ·split at h
   ·obtain rfl:=OI h; exact ⟨rfl,Nat.zero_le _,fun _ h=>by cases h⟩
   ·cases h
  ·cases h
 split at h
 ·split at h
  ·split at h
   ·obtain rfl:=OI h; exact ⟨rfl,by simp,fun w hw=>List.mem_cons_of_mem _ hw⟩
   ·cases h
  ·cases h
 split at h
 ·split at h
  ·split at h
   ·obtain rfl:=OI h; exact ⟨rfl,Nat.zero_le _,fun _ h=>by cases h⟩
   ·cases h
  ·cases h
 ·split at h
  ·obtain rfl:=OI h; exact ⟨rfl,Nat.zero_le _,fun _ h=>by cases h⟩
  ·cases h
theorem Ty {ws:List (List UInt8)}{x:AJ}(h:clW ws=some x):(x.2.1=[]\/x.2.1 ∈ ws)/\x.2.2.2.1.length<=ws.length/\∀ w ∈ x.2.2.2.1,w ∈ ws:=by
 match ws,h with
 | s::r,h =>
  rw [Oq] at h
  split at h
  ·match r,h with
   | a::s'::r',h =>
    obtain ⟨h1,h2,h3⟩:=SA h
    exact ⟨.inr (by rw [h1]; simp),by simp only [List.length_cons]; omega,fun w hw=>by simp [h3 w hw]⟩
  ·obtain ⟨h1,h2,h3⟩:=SA h
   exact ⟨.inl h1,by simp only [List.length_cons]; omega,fun w hw=>by simp [h3 w hw]⟩
theorem Ma {p:List UInt8}(hp:p.length<=3000){x:AJ}(h:lnP p=some x):M4 x:=by
 unfold lnP at h
 split at h
 ·cases h
 ·obtain ⟨h1,h2,h3⟩:=Ty h
  have hl:=LK 32 p
  refine ⟨?_,by omega,fun w hw=>by have:=I3 32 p w (h3 w hw); omega⟩
  rcases h1 with h1 | h1
  ·rw [h1]; simp
  ·have:=I3 32 p _ h1; omega
theorem Pz (p:List UInt8) (hp:p.length<=3000):DI p=some (inR (lnP p)):=by
 rw [RD p hp]
 unfold lnP
 split <;> rfl
theorem Jp {out:List AJ}{x:AJ}(h:Qp out) (hx:M4 x) (hl:out.length<=32):Qp (out++[x]) :=
 ⟨by simp; omega,fun y hy=>by
  rcases List.mem_append.1 hy with hy | hy
  ·exact h.2 y hy
  ·have:y=x:=by simpa using hy
   rw [this]; exact hx⟩
theorem Uo {α β:Type}(v:α) (n:Int) (k:α->Option (β ⊕ (Int×Int))):OT (some (.inl v)) n k=k v:=rfl
theorem Vl {α β:Type}(e n:Int) (k:α->Option (β ⊕ (Int×Int))):OT (some (.inr e)) n k=some (.inr (e,n)):=rfl
def Vf:(Int×List AJ) ⊕ (Int×Int)->List AJ×Int×Int
 | .inl q=>(q.2,0,0)
 | .inr e=>([],e.2,e.1)
theorem Qa:∀ (f:Nat) (text:List UInt8) (out:List AJ),text.length<=3000->Qp out->out.length<=32->text.length < f->∃ r,Bo f text (out.length:Int) out=some r/\Vf r=Mj (pcs 10 text) out.length out
 | f + 1,text,out,ht,hw,hl,hf=>by
  unfold Bo
  by_cases h0:text=[]
  ·rw [h0,if_neg (by decide)]
   exact ⟨_,rfl,rfl⟩
  ·rw [if_pos (by simpa using h0),Tz text 10 (by omega),OS]
   cases h10:NB 10 text with
   | none =>
    rw [LL 10 (MV h10)]
    refine ⟨.inr (3,(out.length:Int)),rfl,?_⟩
    unfold Mj
    rw [if_neg h0]
    rfl
   | some i =>
    obtain ⟨a1,_,_⟩:=JU h10
    dsimp only
    rw [JZ,Uo,Pz _ (by rw [List.length_take]; omega),SK h10]
    obtain ⟨q,ws,hq⟩:=O6 10 (text.drop (i + 1))
    have e:Mj (text.take i::pcs 10 (text.drop (i + 1))) out.length out=match lnP (text.take i) with
      | none=>([],(out.length:Int),3)
      | some x=>if chk out x≠0 then ([],(out.length:Int),chk out x) else if out.length=32 then ([],(out.length:Int),7) else Mj (pcs 10 (text.drop (i + 1))) (out.length + 1) (out++[x]):=by rw [hq]; rfl
    rw [e]
    cases hx:lnP (text.take i) with
    | none=>exact ⟨_,rfl,rfl⟩
    | some x =>
     have hx1:=Ma (by rw [List.length_take]; omega) hx
     simp only [inR]
     rw [Uo,Tw out x hw hx1,OS]
     by_cases hc:chk out x=0
     ·rw [hc,show ((0:Int)==0)=true from rfl,JZ,Uo,if_neg (show ¬ ((0:Int)≠0) from fun h=>h rfl)]
      by_cases h32:out.length=32
      ·rw [if_pos h32,show decide ((out.length:Int) < 32)=false from decide_eq_false (by omega),IG,Vl]
       exact ⟨_,rfl,rfl⟩
      ·rw [if_neg h32,show decide ((out.length:Int) < 32)=true from decide_eq_true (by omega),JZ,Uo,if_pos (IX (by omega) (by simp; omega)),Ke (by omega) (by omega)]
       obtain ⟨r,h1,h2⟩:=Qa f (text.drop (i + 1)) (out++[x]) (by rw [List.length_drop]; omega) (Jp hw hx1 hl) (by simp; omega) (by rw [List.length_drop]; omega)
       have el:(out++[x]).length=out.length + 1:=by simp
       rw [el] at h1 h2
       exact ⟨r,h1,h2⟩
     ·rw [show (chk out x==0)=false from beq_eq_false_iff_ne.2 hc,IG,Vl,if_pos hc]
      exact ⟨_,rfl,rfl⟩
theorem Fb:Qp []:=⟨by simp,fun _ h=>by cases h⟩
theorem SS (text:List UInt8) (ht:text.length<=3000):De text=some (Mj (pcs 10 text) 0 []):=by
 unfold De
 obtain ⟨r,h1,h2⟩:=Qa 100000 text [] ht Fb (by simp) (by omega)
 have h1:Bo 100000 text 0 []=some r:=h1
 rw [if_neg (by rw [decide_eq_true_eq]; omega),h1,OS]
 have h2:Vf r=Mj (pcs 10 text) 0 []:=h2
 rw [<-h2]
 cases r <;> rfl
/- The reference. -/
def Uh:List AJ ⊕ (Int×Int)->List AJ×Int×Int
 | .inl q=>(q,0,0)
 | .inr e=>([],e.1,e.2)
theorem TH (p:List UInt8) (hp:p.length<=3000):∃ ws,Ew p=some (ws,!decide ([] ∈ pcs 32 p))/\(¬ [] ∈ pcs 32 p->ws=pcs 32 p):=by
 rw [Rx p hp]
 by_cases h:[] ∈ pcs 32 p
 ·rw [if_pos h]; exact ⟨[],by simp [h],fun q=>absurd h q⟩
 ·rw [if_neg h]; exact ⟨_,by simp [h],fun _=>rfl⟩
theorem OQ (v:(List (List UInt8))×Bool) (hv:∀ p ∈ v.1,p.length<=3000) (hvl:v.1.length<=3001) (hlast:v.2=true\/∃ o c,v.1=o++[c]/\c≠[]):∀ (rest pre:List (List UInt8)) (f:Nat) (out:List AJ),v.1=pre++rest->out.length=pre.length->Qp out->pre.length<=32->rest.length < f->∃ r,CE v f out (pre.length:Int)=some r/\Uh r=Mj (rest++(if v.2=true then [[]] else [])) pre.length out
 | [],pre,f + 1,out,h,ho,hw,hl,hf=>by
  unfold CE
  rw [if_neg (by rw [h]; simp)]
  refine ⟨_,rfl,?_⟩
  cases v.2 <;> rfl
 | p::rest,pre,f + 1,out,h,ho,hw,hl,hf=>by
  have hvl2:v.1.length=pre.length + rest.length + 1:=by rw [h]; simp; omega
  have hp:p.length<=3000:=hv p (by rw [h]; simp)
  obtain ⟨ws,w1,w2⟩:=TH p hp
  unfold CE
  rw [if_pos (decide_eq_true (by omega)),show idx v.1 (pre.length:Int)=some p by rw [h]; exact Cu pre p rest,OS,w1,OS]
  dsimp only
  have hwr:wr .i64 ((v.1.length:Int) - 1)=(v.1.length:Int) - 1:=Ke (by omega) (by omega)
  by_cases hend:rest=[]/\v.2=false
  ·obtain ⟨rfl,hv2⟩:=hend
   have hpne:p≠[]:=by
    rcases hlast with h' | ⟨o,c,h1,h2⟩
    ·rw [hv2] at h'; cases h'
    ·rw [h] at h1
     have:=List.append_inj' h1 rfl
     have e:p=c:=by simpa using this.2
     rw [e]; exact h2
   have hj:(if (!(!decide ([] ∈ pcs 32 p)))=true then some (out,true) else if ((pre.length:Int)==wr .i64 ((v.1.length:Int) - 1))=true then some (out,(!v.2)) else some (out,false))=some (out,true):=by
    rw [hwr,hv2,show ((pre.length:Int)==(v.1.length:Int) - 1)=true by rw [beq_iff_eq,hvl2]; simp]
    cases (!(!decide ([] ∈ pcs 32 p))) <;> rfl
   rw [hj,OS,if_pos rfl,hv2]
   refine ⟨_,rfl,?_⟩
   show _=Mj [p] pre.length out
   unfold Mj
   rw [if_neg hpne]
   rfl
  ·obtain ⟨q,r2,hq⟩:∃ q r2,rest++(if v.2=true then [[]] else [])=q::r2:=by
    cases rest with
    | cons a b=>exact ⟨_,_,rfl⟩
    | nil =>
     have:v.2=true:=by cases hb:v.2 with
      | true=>rfl
      | false=>exact absurd ⟨rfl,hb⟩ hend
     rw [if_pos this]; exact ⟨[],[],rfl⟩
   have e:Mj (p::rest++(if v.2=true then [[]] else [])) pre.length out=match lnP p with
     | none=>([],(pre.length:Int),3)
     | some x=>if chk out x≠0 then ([],(pre.length:Int),chk out x) else if out.length=32 then ([],(pre.length:Int),7) else Mj (rest++(if v.2=true then [[]] else [])) (pre.length + 1) (out++[x]):=by
    rw [List.cons_append,hq]; rfl
   rw [e]
   unfold lnP
   by_cases hm:[] ∈ pcs 32 p
   ·rw [if_pos hm]
    have hj:(if (!(!decide ([] ∈ pcs 32 p)))=true then some (out,true) else if ((pre.length:Int)==wr .i64 ((v.1.length:Int) - 1))=true then some (out,(!v.2)) else some (out,false))=some (out,true):=by
     rw [show decide ([] ∈ pcs 32 p)=true from decide_eq_true hm]; rfl
    rw [hj,OS,if_pos rfl]
    exact ⟨_,rfl,rfl⟩
   ·rw [if_neg hm]
    have hj:(if (!(!decide ([] ∈ pcs 32 p)))=true then some (out,true) else if ((pre.length:Int)==wr .i64 ((v.1.length:Int) - 1))=true then some (out,(!v.2)) else some (out,false))=some (out,false):=by
     rw [show decide ([] ∈ pcs 32 p)=false from decide_eq_false hm]
     show (if ((pre.length:Int)==wr .i64 ((v.1.length:Int) - 1))=true then some (out,(!v.2)) else some (out,false))=_
     split
     ·next hh =>
      rw [hwr,beq_iff_eq,hvl2] at hh
      have hr0:rest=[]:=List.length_eq_zero_iff.1 (by omega)
      cases hb:v.2 with
      | true=>rfl
      | false=>exact absurd ⟨hr0,hb⟩ hend
     ·rfl
    have hln:(pcs 32 p).length<=3001:=by have:=LK 32 p; omega
    obtain ⟨c,k1,k2⟩:=RE (pcs 32 p) (Qc 32 p) hln
    rw [hj,OS,if_neg (show ¬ ((out,false):List AJ×Bool).2=true from Bool.false_ne_true),w2 hm,k1,OS]
    dsimp only
    cases hx:clW (pcs 32 p) with
    | none=>exact ⟨_,rfl,rfl⟩
    | some x =>
     obtain rfl:=k2 x hx
     have hx1:M4 c:=Ma hp (by unfold lnP; rw [if_neg hm]; exact hx)
     have hck:=Tx (out++[c]) out [] c rfl (Jp hw hx1 (by omega))
     rw [ho] at hck
     rw [show (!(some c).isSome)=false from rfl,if_neg (by decide),if_pos (IX (by omega) (by omega)),hck,OS]
     by_cases hc:chk out c=0
     ·rw [hc,show ((0:Int)!=0)=false from rfl,if_neg (by decide)]
      dsimp only
      rw [if_neg (show ¬ (chk out c≠0) from fun h=>h hc)]
      by_cases h32:out.length=32
      ·rw [if_pos h32,if_pos (by rw [beq_iff_eq]; omega)]
       exact ⟨_,rfl,rfl⟩
      ·rw [if_neg h32,if_neg (by rw [beq_iff_eq]; omega),Ke (by omega) (by omega)]
       have el:(pre++[p]).length=pre.length + 1:=by simp
       obtain ⟨r,h1,h2⟩:=OQ v hv hvl hlast rest (pre++[p]) f (out++[c]) (by rw [h]; simp) (by simp [ho]) (Jp hw hx1 (by omega)) (by simp; omega) (by simp at hf; omega)
       rw [el] at h1 h2
       exact ⟨r,h1,h2⟩
     ·rw [show (chk out c != 0)=true from bne_iff_ne.2 hc,if_pos rfl]
      dsimp only
      rw [if_pos hc]
      exact ⟨_,rfl,rfl⟩
theorem ST (text:List UInt8) (ht:text.length<=3000):DV text=some (Mj (pcs 10 text) 0 []):=by
 obtain ⟨o,c,h1,h2⟩:=RS text ht
 have hlen:=LK 10 text
 have hmem:=I3 10 text
 unfold DV
 rw [if_neg (by rw [decide_eq_true_eq]; omega),h2,OS,h1]
 rw [h1] at hlen hmem
 have hfin:∀ r:List AJ ⊕ (Int×Int),(match r with | .inl w24=>some (w24,0,0) | .inr w25=>some ([],w25.1,w25.2):Option (List AJ×Int×Int))=some (Uh r):=fun r=>by cases r <;> rfl
 by_cases hc:c=[]
 ·rw [if_pos hc]
  obtain ⟨r,k1,k2⟩:=OQ (o,true) (fun p hp=>by have:=hmem p (by simp [show p ∈ o from hp]); omega) (by simp at hlen; show o.length<=3001; omega) (.inl rfl) o [] 100000 [] rfl rfl Fb (by simp) (by simp at hlen; omega)
  have k1:CE (o,true) 100000 [] 0=some r:=k1
  have k2:Uh r=Mj (o++[[]]) 0 []:=k2
  rw [k1,OS,hc,<-k2]
  exact hfin r
 ·rw [if_neg hc]
  obtain ⟨r,k1,k2⟩:=OQ (o++[c],false) (fun p hp=>by have:=hmem p hp; omega) (by show (o++[c]).length<=3001; omega) (.inr ⟨o,c,rfl,hc⟩) (o++[c]) [] 100000 [] rfl rfl Fb (by simp) (by omega)
  have k1:CE (o++[c],false) 100000 [] 0=some r:=k1
  have k2:Uh r=Mj (o++[c]++[]) 0 []:=k2
  rw [List.append_nil] at k2
  rw [k1,OS,<-k2]
  exact hfin r
theorem Na:∀ (ls:List (List UInt8)) (n:Nat) (out:List AJ),(∀ p ∈ ls,p.length<=3000)->Qp out->out.length<=32->Qp (Mj ls n out).1
 | [],_,_,_,h,_=>h
 | [p],_,out,_,h,_=>by
  unfold Mj
  split
  ·exact h
  ·exact Fb
 | p::q::r,n,out,hp,h,hl=>by
  have e:Mj (p::q::r) n out=match lnP p with
   | none=>([],(n:Int),3)
   | some x=>if chk out x≠0 then ([],(n:Int),chk out x) else if out.length=32 then ([],(n:Int),7) else Mj (q::r) (n + 1) (out++[x]):=rfl
  rw [e]
  cases hx:lnP p with
  | none=>exact Fb
  | some x =>
   dsimp only
   have hx1:=Ma (hp p (by simp)) hx
   split
   ·exact Fb
   ·split
    ·exact Fb
    ·exact Na (q::r) (n + 1) (out++[x]) (fun y hy=>hp y (List.mem_cons_of_mem _ hy)) (Jp h hx1 hl) (by simp; omega)
theorem LJ (a:List AJ×Int×Int) (ha:Qp a.1) (x:List UInt8) (h1:De x=some a) (h2:DV x=some a):Cj x=some true:=by
 unfold Cj
 rw [h1,OS,h2,OS,Rk _ _ ha]
 simp
theorem Pb (x:List UInt8):CC x=some true:=by
 unfold CC
 by_cases h:x.length<=3000
 ·have hp:Cj x=some true:=LJ _ (Na _ _ _ (fun p hp=>by have:=I3 10 x p hp; omega) Fb (by simp)) x (SS x h) (ST x h)
  rw [if_neg (by rw [decide_eq_true_eq]; omega),hp]
  rfl
 ·rw [if_pos (decide_eq_true (by omega))]
  by_cases h2:x.length<=65536
  ·rw [if_pos (decide_eq_true (by omega))]; rfl
  ·rw [if_neg (by rw [decide_eq_true_eq]; omega)]
   have hp:Cj x=some true:=LJ ([],0,7) Fb x (by unfold De; rw [if_pos (decide_eq_true (by omega))]) (by unfold DV; rw [if_pos (decide_eq_true (by omega))])
   rw [hp]
   rfl
end Go.Proofs.YtdjhmdbpcfnpgaaGreatDoor
