/- Lemmas for the proof. -/
import Derived.Test.YtlalcoehgkmhlaaGreatDoorCourtOrdersM1
import Derived.Test.YtlalcoehgkmhlaaGreatDoorCourtOrdersM2
import Derived.Test.YtlalcoehgkmhlaaGreatDoorCourtOrdersM3
import Derived.Test.YtlalcoehgkmhlaaGreatDoorCourtOrdersM4
import Derived.Test.YtlalcoehgkmhlaaGreatDoorCourtOrdersM5
import Derived.Test.YtlalcoehgkmhlaaGreatDoorCourtOrdersM6
import Derived.Test.YtlalcoehgkmhlaaGreatDoorCourtOrdersM7
namespace Go.Proofs.YtlalcoehgkmhlaaGreatDoor
open Go.RowKit
/-- The first of a word in a list, from a number on. -/
def rkN (s:List UInt8):List (List UInt8)->Nat->Nat
 | [],i=>i
 | v::r,i=>if (s==v)=true then i else rkN s r (i + 1)
theorem Zy (s:List UInt8):∀ (l:List (List UInt8)) (i:Nat),NW l s=false->rkN s l i=i + l.length
 | [],i,_=>rfl
 | v::r,i,h=>by
  have h':((s==v)||NW r s)=false:=h
  simp only [Bool.or_eq_false_iff] at h'
  unfold rkN
  rw [if_neg (show ¬ (s==v)=true by rw [h'.1]; decide),Zy s r (i + 1) h'.2]
  simp; omega
theorem Zb (s:List UInt8):∀ (l:List (List UInt8)) (i:Nat),goU (fun v i (k:Option (Unit ⊕ Int))=>if (s==v)=true then some (.inr (i:Int)) else k) (some (.inl ())) l i=some (if NW l s=true then .inr (rkN s l i:Int) else .inl ())
 | [],_=>rfl
 | v::r,i=>by
  unfold goU rkN
  rw [Zb s r (i + 1)]
  have:NW (v::r) s=((s==v)||NW r s):=rfl
  rw [this]
  cases (s==v) <;> rfl
theorem ACS (s:List UInt8) (l:List (List UInt8)) (i:Nat):goU (fun v i (k:Option (Unit ⊕ Int))=>if (v==s)=true then some (.inr (i:Int)) else k) (some (.inl ())) l i=some (if NW l s=true then .inr (rkN s l i:Int) else .inl ()):=by
 rw [<-Zb]
 congr 1
 funext v i k
 rw [Bool.beq_comm]
def rk (l:List (List UInt8)) (s:List UInt8):Int:=(rkN s l 0:Nat)
theorem ABj (x:Ae) (c:AH) (h:c.2.2.2.1.length<=99999):EX x c=some (rk c.2.2.2.1 x.1.2.1):=by
 unfold EX B3
 have e:BU c.2.2.2.1 x.1.2.1 100000 0=some (if NW c.2.2.2.1 x.1.2.1=true then .inr (rkN x.1.2.1 c.2.2.2.1 0:Int) else .inl ()):=by
  rw [<-Zb]
  refine LD c.2.2.2.1 (BU c.2.2.2.1 x.1.2.1) _ _ 100000 (by omega) (fun f pre v r e=>?_) (fun f=>?_)
  ·conv=>lhs; unfold BU
   rw [if_pos (by rw [e]; exact In pre v r),show idx c.2.2.2.1 (pre.length:Int)=some v by rw [e,Dy],OS,Gf pre v r (by rw [<-e]; omega)]
  ·conv=>lhs; unfold BU
   rw [if_neg (by simp)]
 rw [e]
 cases hh:NW c.2.2.2.1 x.1.2.1 with
 | true=>simp [rk]
 | false=>simp [rk,Zy _ _ _ hh]
theorem ABk (l:List (List UInt8)) (s:List UInt8) (h:l.length<=99999):II l s=some (rk l s):=by
 unfold II
 have e:F6 l s 100000 0=some (if NW l s=true then .inr (rkN s l 0:Int) else .inl ()):=by
  rw [<-ACS]
  refine LD l (F6 l s) _ _ 100000 (by omega) (fun f pre v r e=>?_) (fun f=>?_)
  ·conv=>lhs; unfold F6
   rw [if_pos (by rw [e]; exact In pre v r),show idx l (pre.length:Int)=some v by rw [e,Dy],OS,Gf pre v r (by rw [<-e]; omega)]
  ·conv=>lhs; unfold F6
   rw [if_neg (by simp)]
 rw [e]
 cases hh:NW l s with
 | true=>simp [rk]
 | false=>simp [rk,Zy _ _ _ hh]
/-- -1, 0 or 1. -/
def NR (x y:Int):Int:=if x < y then -1 else if y < x then 1 else 0
theorem AAa (x y:Int):Co x y=some (NR x y):=by
 unfold Co Gp NR
 simp only [bne_self_eq_false,OS,Bool.false_eq_true,if_false,decide_eq_true_eq,gt_iff_lt]
 split
 ·rfl
 ·split <;> rfl
def Y2 (x y:List UInt8):Int:=if Go.Op.bytesLess x y=true then -1 else if (!(Go.Op.bytesLess x y||x==y))=true then 1 else 0
theorem AFI (x y:List UInt8):D2 x y=some (Y2 x y):=by
 unfold D2 Eu Y2
 simp only [beq_self_eq_true,Bool.not_true,OS,Bool.false_eq_true,if_false]
 split
 ·rfl
 ·split <;> rfl
/-- Does a clause name a guest? -/
def nmB (c:AH) (g:Af):Bool :=
 if (c.1==4)=true then g.2.2.2.2.1==c.2.2.2.2 else
 if (c.1==5)=true then g.2.2.2.2.2.2.1 else
 if (c.1==7)=true then NW c.2.2.2.1 g.2.2.1 else g.2.2.2.2.2.2.2.2.any fun s=>NW c.2.2.2.1 s
theorem ABa (l:List (List UInt8)):∀ (t:List (List UInt8)) (i:Nat),goU (fun v _ (k:Option (Unit ⊕ Bool))=>if NW l v=true then some (.inr true) else k) (some (.inl ())) t i=some (if (t.any fun s=>NW l s)=true then .inr true else .inl ())
 | [],_=>rfl
 | v::r,i=>by
  unfold goU
  rw [ABa l r (i + 1),List.any_cons]
  cases NW l v <;> rfl
theorem Zn (c:AH) (g:Af) (h:c.2.2.2.1.length<=99999) (ht:g.2.2.2.2.2.2.2.2.length<=99999):GD c g=some (nmB c g):=by
 unfold GD nmB
 split
 ·rfl
 split
 ·rfl
 split
 ·rw [Xu _ _ h]; rfl
 have e:FV c g 100000 0=some (if (g.2.2.2.2.2.2.2.2.any fun s=>NW c.2.2.2.1 s)=true then .inr true else .inl ()):=by
  rw [<-ABa _ _ 0]
  refine LD g.2.2.2.2.2.2.2.2 (FV c g) _ _ 100000 (by omega) (fun f pre v r e=>?_) (fun f=>?_)
  ·conv=>lhs; unfold FV
   rw [if_pos (by rw [e]; exact In pre v r),show idx g.2.2.2.2.2.2.2.2 (pre.length:Int)=some v by rw [e,Dy],OS,Xu _ _ h,OS,Gf pre v r (by rw [<-e]; omega)]
  ·conv=>lhs; unfold FV
   rw [if_neg (by simp)]
 rw [e]
 cases (g.2.2.2.2.2.2.2.2.any fun s=>NW c.2.2.2.1 s) <;> rfl
theorem Wd (t:List (List UInt8)) (c:AH) (ht:t.length<=99999) (h:c.2.2.2.1.length<=99999):Aq t c=some (t.any fun s=>NW c.2.2.2.1 s):=by
 unfold Aq BD
 obtain ⟨n,h1,h2⟩:=RN t ht (fun v=>Fd v c) (fun s=>NW c.2.2.2.1 s) (fun v _=>by unfold Fd; rw [Ko _ _ h]; rfl) (BM t c) (fun f c=>rfl)
 rw [<-h2]
 exact (congrArg (fun o=>o.bind fun v1=>some (decide (v1≥0))) h1)
def nv (c:AH) (g:Af):Int:=if (!(nmB c g==c.2.2.1))=true then 0 else 1
def PS (i:Int):Bool:=decide (i≥0)&&decide (i<=63)
theorem AFV (i:Int):DU i=some (PS i):=by
 unfold DU PS
 by_cases h:i≥0 <;> simp [h]
theorem AD8 (i:Int):BT i 0 63=some (PS i):=by
 unfold BT PS
 by_cases h:i≥0 <;> simp [h]
def kyI (i n:Int):Int:=(wr .i64 ((wr .i64 (i * (wr .i64 ((wr .i64 (n + n)) + 1)))) + n)).tmod 64
theorem AFZ (i:Int) (c:AH):FJ i c=some (kyI i c.2.2.2.2):=by
 unfold FJ kyI
 rw [Int.two_mul]
theorem AEC (i n:Int):LK i n=some (kyI i n):=rfl
def b2 (b:Bool):Int:=if b=true then 1 else 0
theorem AFv (b:Bool):Kp b=some (b2 b):=by cases b <;> rfl
def snc (y:Bool) (s t:Int):Int:=if (!((s==0)==(t==0)))=true then NR (b2 (s==0)) (b2 (t==0)) else if y=true then wr .i64 (0 - NR s t) else NR s t
/-- What a clause says of two guests at their places, without regard to Among. -/
def SK (c:AH) (a b:Af) (i j:Int):Int :=
 if (c.1==1)=true then NR (rk c.2.2.2.1 a.2.1) (rk c.2.2.2.1 b.2.1) else
 if (c.1==2)=true then snc false a.2.2.2.1 b.2.2.2.1 else
 if (c.1==3)=true then snc true a.2.2.2.1 b.2.2.2.1 else
 if (c.1==8)=true then Y2 a.1 b.1 else
 if (c.1==9)=true then if (!PS i||!PS j)=true then 0 else NR i j else
 if (c.1==10)=true then if (!PS i||!PS j)=true then 0 else NR (kyI i c.2.2.2.2) (kyI j c.2.2.2.2) else
 NR (nv c a) (nv c b)
def amB (c:AH) (a b:Af):Bool:=(!(c.2.1==[]))&&((!(a.2.1==c.2.1))||(!(b.2.1==c.2.1)))
def dir (c:AH) (a b:Af) (i j:Int):Int:=if amB c a b=true then 0 else SK c a b i j
theorem AFn (c:AH) (a b:Af):((if (!(c.2.1==[]))=true then if (!(a.2.1==c.2.1))=true then some true else some (!(b.2.1==c.2.1)) else some false):Option Bool)=some (amB c a b):=by
 unfold amB
 cases (c.2.1==[]) <;> cases (a.2.1==c.2.1) <;> rfl
theorem X6 (a b:Af) (i j:Int) (c:AH):Dn (a,i) (b,j) c=some (snc (c.1==3) a.2.2.2.1 b.2.2.2.1):=by
 unfold Dn snc Hz
 simp only [AFv,AAa,OS]
 split
 ·rfl
 ·split <;> rfl
theorem AFK (c:AH) (a b:Af) (i j:Int) (h:c.2.2.2.1.length<=99999) (ha:a.2.2.2.2.2.2.2.2.length<=99999) (hb:b.2.2.2.2.2.2.2.2.length<=99999) (hk:1<=c.1/\c.1<=10):Fc (a,i) (b,j) c=some (dir c a b i j):=by
 have cl:∀ (o:Option Int) (x:Int),o=some x->((((if (!(c.2.1==[]))=true then if (!(a.2.1==c.2.1))=true then some true else some (!(b.2.1==c.2.1)) else some false):Option Bool).bind fun j2=>if j2=true then some 0 else o.bind fun v4=>some v4):Option Int)=some (if amB c a b=true then 0 else x):=fun o x e=>by
  rw [AFn,OS,e]
  cases amB c a b <;> rfl
 have nm:∀ (p q:Bool),((if (!(p==c.2.2.1))=true then some 0 else some 1:Option Int).bind fun v1=>(if (!(q==c.2.2.1))=true then some 0 else some 1:Option Int).bind fun v2=>(Co v1 v2).bind fun v3=>some v3)=some (NR (if (!(p==c.2.2.1))=true then 0 else 1) (if (!(q==c.2.2.1))=true then 0 else 1)):=fun p q=>by
  simp only [AAa]
  cases (p==c.2.2.1) <;> cases (q==c.2.2.1) <;> rfl
 have pl:∀ (o:Int->Option Int) (k:Int->Int),(∀ i,o i=some (k i))->(((DU i).bind fun v1=>((if (!v1)=true then some true else (DU j).bind fun v2=>some (!v2)):Option Bool).bind fun j4=>if j4=true then some 0 else (o i).bind fun v6=>(o j).bind fun v7=>(Co v6 v7).bind fun v8=>some v8):Option Int)=some (if (!PS i||!PS j)=true then 0 else NR (k i) (k j)):=fun o k e=>by
  simp only [AFV,OS,e,AAa]
  cases PS i <;> cases PS j <;> rfl
 unfold Fc dir
 by_cases h1:c.1=1
 ·have e1:(c.1==1)=true:=by simp [h1]
  rw [if_pos e1]
  refine cl (Cy (fun x (v:AH×Unit)=>EX x v.1) (a,i) (b,j) (c,())) _ ?_
  unfold Cy SK
  dsimp only
  rw [if_pos e1,ABj _ c h,OS,ABj _ c h,OS,AAa]; rfl
 rw [if_neg (show ¬ (c.1==1)=true by simpa using h1)]
 by_cases h2:c.1=2
 ·have e2:(c.1==2)=true:=by simp [h2]
  rw [if_pos e2]
  refine cl (Dn (a,i) (b,j) c) _ ?_
  unfold SK
  rw [if_neg (show ¬ (c.1==1)=true by simpa using h1),if_pos e2,X6,h2]; rfl
 rw [if_neg (show ¬ (c.1==2)=true by simpa using h2)]
 by_cases h3:c.1=3
 ·have e3:(c.1==3)=true:=by simp [h3]
  rw [if_pos e3]
  refine cl (Dn (a,i) (b,j) c) _ ?_
  unfold SK
  rw [if_neg (show ¬ (c.1==1)=true by simpa using h1),if_neg (show ¬ (c.1==2)=true by simpa using h2),if_pos e3,X6,h3]; rfl
 rw [if_neg (show ¬ (c.1==3)=true by simpa using h3)]
 by_cases h4:c.1=4
 ·have e4:(c.1==4)=true:=by simp [h4]
  rw [if_pos e4]
  refine cl (Cy (fun x (v:AH×AH×Unit)=>Bh x v.1 v.2.1) (a,i) (b,j) (c,c,())) _ ?_
  have:SK c a b i j=NR (nv c a) (nv c b):=by unfold SK; simp [h4]
  rw [this]
  unfold nv nmB
  rw [if_pos e4,if_pos e4]
  exact nm _ _
 rw [if_neg (show ¬ (c.1==4)=true by simpa using h4)]
 by_cases h5:c.1=5
 ·have e5:(c.1==5)=true:=by simp [h5]
  rw [if_pos e5]
  refine cl (Cy (fun x (v:Unit×AH×Unit)=>Bi x v.2.1) (a,i) (b,j) ((),c,())) _ ?_
  have:SK c a b i j=NR (nv c a) (nv c b):=by unfold SK; simp [h5]
  rw [this]
  unfold nv nmB
  simp only [h5]
  exact nm _ _
 rw [if_neg (show ¬ (c.1==5)=true by simpa using h5)]
 by_cases h6:c.1=6
 ·have e6:(c.1==6)=true:=by simp [h6]
  rw [if_pos e6]
  refine cl (Cy (fun x (v:AH×AH×Unit)=>BY x v.1 v.2.1) (a,i) (b,j) (c,c,())) _ ?_
  have:SK c a b i j=NR (nv c a) (nv c b):=by unfold SK; simp [h6]
  rw [this]
  unfold Cy BY Hj
  dsimp only
  rw [Wd _ _ ha h,Wd _ _ hb h]
  unfold nv nmB
  simp only [h6]
  exact nm _ _
 rw [if_neg (show ¬ (c.1==6)=true by simpa using h6)]
 by_cases h7:c.1=7
 ·have e7:(c.1==7)=true:=by simp [h7]
  rw [if_pos e7]
  refine cl (Cy (fun x (v:AH×AH×Unit)=>BZ x v.1 v.2.1) (a,i) (b,j) (c,c,())) _ ?_
  have:SK c a b i j=NR (nv c a) (nv c b):=by unfold SK; simp [h7]
  rw [this]
  unfold Cy BZ Hk
  dsimp only
  rw [Ko _ _ h,Ko _ _ h]
  unfold nv nmB
  simp only [h7]
  exact nm _ _
 rw [if_neg (show ¬ (c.1==7)=true by simpa using h7)]
 by_cases h8:c.1=8
 ·have e8:(c.1==8)=true:=by simp [h8]
  rw [if_pos e8]
  refine cl (F3 (a,i) (b,j)) _ ?_
  have:SK c a b i j=Y2 a.1 b.1:=by unfold SK; simp [h8]
  rw [this]
  unfold F3
  rw [AFI]; rfl
 rw [if_neg (show ¬ (c.1==8)=true by simpa using h8)]
 by_cases h10:c.1=10
 ·have e10:(c.1==10)=true:=by simp [h10]
  rw [if_pos e10]
  refine cl (A2 (a,i) (b,j) c) _ ?_
  have:SK c a b i j=if (!PS i||!PS j)=true then 0 else NR (kyI i c.2.2.2.2) (kyI j c.2.2.2.2):=by unfold SK; simp [h10]
  rw [this]
  exact pl (fun i=>FJ i c) (fun i=>kyI i c.2.2.2.2) (fun i=>AFZ i c)
 rw [if_neg (show ¬ (c.1==10)=true by simpa using h10)]
 have h9:c.1=9:=by omega
 refine cl (A3 (a,i) (b,j)) _ ?_
 have:SK c a b i j=if (!PS i||!PS j)=true then 0 else NR i j:=by unfold SK; simp [h9]
 rw [this]
 exact pl (fun i=>Gt i) (fun i=>i) (fun i=>rfl)
/-- Does a guest go before another by a clause? -/
def bf (c:AH) (a b:Af) (i j:Int):Bool :=
 if (c.1==1)=true then decide (rk c.2.2.2.1 a.2.1 < rk c.2.2.2.1 b.2.1) else
 if (c.1==2)=true then (a.2.2.2.1 != 0)&&((b.2.2.2.1==0)||decide (a.2.2.2.1 < b.2.2.2.1)) else
 if (c.1==3)=true then (a.2.2.2.1 != 0)&&((b.2.2.2.1==0)||decide (a.2.2.2.1 > b.2.2.2.1)) else
 if (c.1==8)=true then Go.Op.bytesLess a.1 b.1 else
 if (c.1==9)=true then PS i&&(PS j&&decide (i < j)) else
 if (c.1==10)=true then PS i&&(PS j&&decide (kyI i c.2.2.2.2 < kyI j c.2.2.2.2)) else
 if c.2.2.1=true then (!nmB c a)&&nmB c b else nmB c a&&!nmB c b
theorem Xj (c:AH) (a b:Af) (i j:Int) (h:c.2.2.2.1.length<=99999) (ha:a.2.2.2.2.2.2.2.2.length<=99999) (hb:b.2.2.2.2.2.2.2.2.length<=99999):Gk c a b i j=some (bf c a b i j):=by
 unfold Gk bf
 rw [ABk _ _ h,ABk _ _ h,Zn c a h ha,Zn c b h hb,AD8,AD8,AEC,AEC]
 simp only [OS]
 split
 ·rfl
 split
 ·cases (a.2.2.2.1 != 0) <;> cases (b.2.2.2.1==0) <;> rfl
 split
 ·cases (a.2.2.2.1 != 0) <;> cases (b.2.2.2.1==0) <;> rfl
 split
 ·rfl
 split
 ·cases PS i <;> cases PS j <;> rfl
 split
 ·cases PS i <;> cases PS j <;> rfl
 split
 ·cases nmB c a <;> cases nmB c b <;> rfl
 ·cases nmB c a <;> cases nmB c b <;> rfl
theorem Un:∀ (x y:List UInt8),Go.Op.bytesLess x y=false->Go.Op.bytesLess y x=!(x==y)
 | [],[],_=>rfl
 | a::x,[],_=>rfl
 | [],b::y,h=>by cases h
 | a::x,b::y,h=>by
  have h':(decide (a < b)||(a==b&&Go.Op.bytesLess x y))=false:=h
  simp only [Bool.or_eq_false_iff,decide_eq_false_iff_not] at h'
  show (decide (b < a)||(b==a&&Go.Op.bytesLess y x))=!(a::x==b::y)
  by_cases e:a=b
  ·subst e
   have h2:Go.Op.bytesLess x y=false:=by simpa using h'.2
   have:=Un x y h2
   simp [this]
  ·have hlt:b < a:=by
    rcases Nat.lt_trichotomy a.toNat b.toNat with q | q | q
    ·exact absurd (UInt8.lt_iff_toNat_lt.2 q) h'.1
    ·exact absurd (UInt8.toNat_inj.1 q) e
    ·exact UInt8.lt_iff_toNat_lt.2 q
   simp [hlt,e]
theorem Z6 (y:Bool) (s t:Int):snc y s t=if ((s != 0)&&((t==0)||(if y=true then decide (s > t) else decide (s < t))))=true then -1 else if ((t != 0)&&((s==0)||(if y=true then decide (t > s) else decide (t < s))))=true then 1 else 0:=by
 have w1:wr .i64 1=1:=by decide
 have w2:wr .i64 (-1) = -1:=by decide
 have w3:wr .i64 0=0:=by decide
 unfold snc NR b2
 by_cases hs:s=0 <;> by_cases ht:t=0
 ·subst hs ht; cases y <;> simp [w3]
 ·subst hs; simp [ht]
 ·subst ht; simp [hs]
 ·have e1:(s==0)=false:=by simpa using hs
  have e2:(t==0)=false:=by simpa using ht
  have e3:(s != 0)=true:=by simpa using hs
  have e4:(t != 0)=true:=by simpa using ht
  rw [e1,e2,e3,e4]
  rcases Int.lt_trichotomy s t with q | q | q
  ·have q2:¬ t < s:=by omega
   cases y <;> simp [q,q2,w1]
  ·subst q; cases y <;> simp [w3]
  ·have q2:¬ s < t:=by omega
   cases y <;> simp [q,q2,w2]
theorem AEP (c:AH) (a b:Af) (i j:Int):SK c a b i j=if bf c a b i j=true then -1 else if bf c b a j i=true then 1 else 0:=by
 unfold SK bf
 split
 ·unfold NR; simp
 split
 ·rw [Z6]; simp
 split
 ·rw [Z6]; simp
 split
 ·unfold Y2
  cases h:Go.Op.bytesLess a.1 b.1 with
  | true=>rfl
  | false=>rw [Un _ _ h]; simp
 split
 ·unfold NR
  cases PS i <;> cases PS j <;> simp
 split
 ·unfold NR
  cases PS i <;> cases PS j <;> simp
 ·unfold nv NR
  cases nmB c a <;> cases nmB c b <;> cases c.2.2.1 <;> decide
/-- The first clause that separates two guests. -/
def rsn (a b:Af) (i j:Int):List AH->Nat->Unit ⊕ (Int×Int)
 | [],_=> .inl ()
 | x::r,k=>if dir x a b i j=0 then rsn a b i j r (k + 1) else .inr ((k:Int),dir x a b i j)
def X8 (c:List AH) (a b:Af) (i j:Int):Int×Int:=match rsn a b i j c 0 with
 | .inl _=>(-1,0)
 | .inr w=>w
theorem ADz (a b:Af) (i j:Int):∀ (r:List AH) (k:Nat),goU (fun x k (n:Option (Unit ⊕ (Int×Int)))=>if (dir x a b i j != 0)=true then some (.inr ((k:Int),dir x a b i j)) else n) (some (.inl ())) r k=some (rsn a b i j r k)
 | [],_=>rfl
 | x::r,k=>by
  unfold goU rsn
  rw [ADz a b i j r (k + 1)]
  by_cases h:dir x a b i j=0 <;> simp [h]
theorem AD0 (a b:Af) (i j:Int):∀ (r:List AH) (k:Nat),goU (fun x k (n:Option (Unit ⊕ (Int×Int)))=>if amB x a b=true then n else if bf x a b i j=true then some (.inr ((k:Int),-1)) else if bf x b a j i=true then some (.inr ((k:Int),1)) else n) (some (.inl ())) r k=some (rsn a b i j r k)
 | [],_=>rfl
 | x::r,k=>by
  unfold goU rsn
  rw [AD0 a b i j r (k + 1)]
  unfold dir
  rw [AEP]
  cases amB x a b <;> cases bf x a b i j <;> cases bf x b a j i <;> simp
def Xs (g:Af):Prop:=g.2.2.2.2.2.2.2.2.length<=10
def ACW (c:List AH):Prop:=∀ x ∈ c,1<=x.1/\x.1<=10
theorem ZV (c:List AH) (a b:Af) (i j:Int) (h:few c) (hk:ACW c) (ha:Xs a) (hb:Xs b):As c (a,i) (b,j)=some (X8 c a b i j):=by
 have hl:=h.1
 have e:Au c 100000 a.1 a.2.1 a.2.2.1 a.2.2.2.1 a.2.2.2.2.1 a.2.2.2.2.2.1 a.2.2.2.2.2.2.1 a.2.2.2.2.2.2.2.1 a.2.2.2.2.2.2.2.2 i b.1 b.2.1 b.2.2.1 b.2.2.2.1 b.2.2.2.2.1 b.2.2.2.2.2.1 b.2.2.2.2.2.2.1 b.2.2.2.2.2.2.2.1 b.2.2.2.2.2.2.2.2 j 0=some (rsn a b i j c 0):=by
  rw [<-ADz]
  refine LD c (fun f n=>Au c f a.1 a.2.1 a.2.2.1 a.2.2.2.1 a.2.2.2.2.1 a.2.2.2.2.2.1 a.2.2.2.2.2.2.1 a.2.2.2.2.2.2.2.1 a.2.2.2.2.2.2.2.2 i b.1 b.2.1 b.2.2.1 b.2.2.2.1 b.2.2.2.2.1 b.2.2.2.2.2.1 b.2.2.2.2.2.2.1 b.2.2.2.2.2.2.2.1 b.2.2.2.2.2.2.2.2 j n) _ _ 100000 (by omega) (fun f pre v r e=>?_) (fun f=>?_)
  ·conv=>lhs; unfold Au
   have hv:ZT v:=h.2 v (by rw [e]; simp)
   have hd:=AFK v a b i j (by have:=hv.2.1; omega) (by unfold Xs at ha; omega) (by unfold Xs at hb; omega) (hk v (by rw [e]; simp))
   rw [if_pos (by rw [e]; exact In pre v r),show idx c (pre.length:Int)=some v by rw [e,Dy],OS]
   rw [show Fc ((a.1,a.2.1,a.2.2.1,a.2.2.2.1,a.2.2.2.2.1,a.2.2.2.2.2.1,a.2.2.2.2.2.2.1,a.2.2.2.2.2.2.2.1,a.2.2.2.2.2.2.2.2),i) ((b.1,b.2.1,b.2.2.1,b.2.2.2.1,b.2.2.2.2.1,b.2.2.2.2.2.1,b.2.2.2.2.2.2.1,b.2.2.2.2.2.2.2.1,b.2.2.2.2.2.2.2.2),j) v=some (dir v a b i j) from hd,OS,Gf pre v r (by rw [<-e]; omega)]
  ·show Au c (f + 1) a.1 a.2.1 a.2.2.1 a.2.2.2.1 a.2.2.2.2.1 a.2.2.2.2.2.1 a.2.2.2.2.2.2.1 a.2.2.2.2.2.2.2.1 a.2.2.2.2.2.2.2.2 i b.1 b.2.1 b.2.2.1 b.2.2.2.1 b.2.2.2.2.1 b.2.2.2.2.2.1 b.2.2.2.2.2.2.1 b.2.2.2.2.2.2.2.1 b.2.2.2.2.2.2.2.2 j (c.length:Int)=_
   conv=>lhs; unfold Au
   rw [if_neg (by simp)]
 unfold As X8
 dsimp only
 rw [e,OS]
 cases rsn a b i j c 0 <;> rfl
theorem X7 (c:List AH) (a b:Af) (i j:Int) (h:few c) (ha:Xs a) (hb:Xs b):F5 c a b i j=some (X8 c a b i j):=by
 have hl:=h.1
 have e:D5 c a b i j 100000 0=some (rsn a b i j c 0):=by
  rw [<-AD0]
  refine LD c (D5 c a b i j) _ _ 100000 (by omega) (fun f pre v r e=>?_) (fun f=>?_)
  ·conv=>lhs; unfold D5
   have hv:ZT v:=h.2 v (by rw [e]; simp)
   have hb1:=Xj v a b i j (by have:=hv.2.1; omega) (by unfold Xs at ha; omega) (by unfold Xs at hb; omega)
   have hb2:=Xj v b a j i (by have:=hv.2.1; omega) (by unfold Xs at hb; omega) (by unfold Xs at ha; omega)
   have hi:idx c (pre.length:Int)=some v:=by rw [e,Dy]
   rw [if_pos (by rw [e]; exact In pre v r),hi,OS,OS,OS,AFn,OS,OS,OS,hb1,OS,hb2,OS,Gf pre v r (by rw [<-e]; omega)]
  ·conv=>lhs; unfold D5
   rw [if_neg (by simp)]
 unfold F5 X8
 rw [e,OS]
 cases rsn a b i j c 0 <;> rfl
theorem WF (c:List AH) (h:few c) (hk:ACW c):∀ (r pre:List AH) (f:Nat),c=pre++r->r.length < f->Ee c f pre (pre.length:Int)=some c
 | [],pre,f + 1,e,_=>by
  unfold Ee
  rw [if_neg (by rw [e]; simp),e,List.append_nil]
 | v::r,pre,f + 1,e,hf=>by
  have hl:=h.1
  have hl2:c.length=pre.length + r.length + 1:=by rw [e]; simp; omega
  simp only [List.length_cons] at hf
  have hkv:=hk v (by rw [e]; simp)
  unfold Ee
  rw [if_pos (by rw [e]; exact In pre v r),show idx c (pre.length:Int)=some v by rw [e,Dy],OS,show Gs v=some v by unfold Gs; rw [if_pos hkv],OS,if_pos (FI (by omega) (by omega)),show wr .i64 ((pre.length:Int) + 1)=((pre++[v]).length:Int) from Gf pre v r (by rw [<-e]; omega)]
  exact WF c h hk r (pre++[v]) f (by rw [e]; simp) (by omega)
theorem ACL {x:AH}(h:fm x=true):1<=x.1/\x.1<=10:=by
 by_cases hk:1<=x.1/\x.1<=10
 ·exact hk
 ·exfalso
  have n:∀ q:Int,1<=q->q<=10->¬ (x.1==q)=true:=fun q h1 h2 e=>hk (by have:x.1=q:=(by simpa using e); omega)
  have e:BH x=some false:=by
   unfold BH Ha Hb Hc Hd
   have n9:(x.1==9)=false:=by simpa using n 9 (by omega) (by omega)
   have n7:(x.1==7)=false:=by simpa using n 7 (by omega) (by omega)
   rw [if_neg (n 1 (by omega) (by omega)),if_neg (n 2 (by omega) (by omega)),if_neg (n 3 (by omega) (by omega)),if_neg (n 8 (by omega) (by omega)),if_neg (n 4 (by omega) (by omega)),if_neg (n 5 (by omega) (by omega)),if_neg (n 6 (by omega) (by omega)),if_neg (n 10 (by omega) (by omega)),n9,n7]
   rfl
  unfold fm at h
  rw [e] at h
  cases h
theorem Ut (c:List AH):∀ (r:List AH) (i:Nat),(∃ u,YU c r i = .inl u/\∀ x ∈ r,fm x=true)\/∃ w,YU c r i = .inr w/\w.2≠0
 | [],i=> .inl ⟨(),rfl,fun x hx=>by cases hx⟩
 | x::r,i=>by
  unfold YU
  by_cases h:chk (c.take i) x=0
  ·rw [if_neg (by simpa using h)]
   rcases Ut c r (i + 1) with ⟨u,h1,h2⟩ | h1
   ·refine .inl ⟨u,h1,fun y hy=>?_⟩
    rcases List.mem_cons.1 hy with rfl | hy
    ·cases hf:fm y with
     | true=>rfl
     | false=>unfold chk at h; rw [if_pos hf] at h; cases h
    ·exact h2 y hy
   ·exact .inr h1
  ·rw [if_pos h]
   exact .inr ⟨_,rfl,h⟩
theorem PZ {c:List AH}(h:(Ts c).2=0):ACW c:=by
 unfold Ts at h
 split at h
 ·cases h
 ·rcases Ut c c 0 with ⟨u,h1,h2⟩ | ⟨w,h1,h2⟩
  ·exact fun x hx=>ACL (h2 x hx)
  ·rw [h1] at h; exact absurd h h2
section
variable {P:Program}{ops:Array Oper}{C:World->Prop}{Q:Act->World->Prop}{loud:Nat->Bool}{T:Nat}
/-- Loud operations that may come up now: one of them is the first loud one, if every other stands behind one of them. -/
theorem TX {n:Nat}(L:List Nat) (hL:L≠[]) (ht:NB ops loud T n) (hin:∀ i ∈ L,∃ o,ops[i]? = some o) (hsel:∀ (j:Nat) (o:Oper) cs b,ops[j]? = some o->o.op≠ .select cs b) :
  ∀ (fuel:Nat) (listed:Array Bool) (a:Act) (w:World),(∀ j,j < ops.size->j ∉ L->loud j=true->listed.getD j true=false->∃ i ∈ L,IK ops n j i=true)->Closed ops listed->listed.size=ops.size->(Vj ops loud T listed->C w) ->
   (∀ i ∈ L,∀ oi,ops[i]? = some oi->∀ j oj,ops[j]? = some oj->j≠i->listed.getD j true=false->(∀ e ∈ oj.after,Region.binds .any e=true->e.on≠i)->oi.apart ops oj=true) ->
   (∀ i ∈ L,i ∈ Region.ready .any ops listed) ->
   (∀ i ∈ L,mOp P ops C loud i (wpM P ops C loud T Q fuel (listed.setIfInBounds i true)) a w)->wpM P ops C loud T Q (fuel + 1) listed a w:=by
 intro fuel
 obtain ⟨i0,hi0⟩:=List.exists_mem_of_ne_nil L hL
 obtain ⟨o0,ho0⟩:=hin i0 hi0
 induction fuel with
 | zero =>
  intro listed a w _ _ _ hC _ hr H
  refine ⟨hC,fun h=>(by have:=hr i0 hi0; rw [h] at this; cases this),fun j hj=>?_⟩
  by_cases hji:j ∈ L
  ·exact H j hji
  ·obtain ⟨u,w',h1⟩:=LE ho0 (H i0 hi0)
   have:=ready_mono hj (fun e=>hji (e ▸ hi0))
   rw [h1.2.1] at this
   cases this
 | succ fuel ih =>
  intro listed a w hT hcl hsz hC hfree hr H
  refine ⟨hC,fun h=>(by have:=hr i0 hi0; rw [h] at this; cases this),fun j hj=>?_⟩
  by_cases hji:j ∈ L
  ·exact H j hji
  obtain ⟨hjun,oj,hoj,hall⟩:=mem_ready.1 hj
  have hnl:∀ i ∈ L,¬ listed.getD i false=true:=fun i hi h1=>by
   obtain ⟨ox,hx⟩:=hin i hi
   have hun:=(mem_ready.1 (hr i hi)).1
   have hlt:i < ops.size:=(Array.getElem?_eq_some_iff.1 hx).1
   have h':i < listed.size:=by omega
   simp [h'] at hun h1; rw [hun] at h1; cases h1
  have hne:∀ i ∈ L,j≠i:=fun i hi e=>hji (e ▸ hi)
  have hnot:∀ i ∈ L,∀ e ∈ oj.after,Region.binds .any e=true->e.on≠i:=fun i hi e he hb heq=>hnl i hi (by rw [<-heq]; exact hall e he hb)
  have hjlt:j < ops.size:=(Array.getElem?_eq_some_iff.1 hoj).1
  have hlj:loud j=false:=by
   cases hlj:loud j with
   | false=>rfl
   | true =>
    obtain ⟨i,hi,hw⟩:=hT j hjlt hji hlj hjun
    exact absurd (LM hcl n j i hw fun o ho e he hb=>by rw [hoj] at ho; injection ho with ho; subst ho; exact hall e he hb) (hnl i hi)
  have ap:∀ i ∈ L,∀ oi,ops[i]? = some oi->oi.apart ops oj=true:=fun i hi oi hoi=>hfree i hi oi hoi j oj hoj (hne i hi) hjun (hnot i hi)
  have hun':∀ k,(listed.setIfInBounds j true).getD k true=false->listed.getD k true=false:=fun k hun=>by
   by_cases hjk:j=k
   ·subst hjk; exact hjun
   ·rw [getD_set_ne true hjk] at hun; exact hun
  have hCw:Vj ops loud T (listed.setIfInBounds j true)->C w:=fun hn=>hC fun k hTk hk hlk=>hun' k (hn k hTk hk hlk)
  obtain ⟨ap1,ap2,ap3⟩:=Oper.apart_spec (ap i0 hi0 o0 ho0)
  obtain ⟨u,w',h1⟩:=LE ho0 (H i0 hi0)
  obtain ⟨v,hy,_⟩:=Ed hoj hlj (h1.2.2 j (ready_mono hj (hne i0 hi0)))
  have hya:YieldsM P ops C oj v a:=hy.same (execOp_put oj (fun cs b=>hsel j oj cs b hoj) _ o0.dst u ap1).symm (wanted_put oj _ o0.dst u ap1).symm
  refine hya.mOp hoj hlj ?_
  exact ih (listed.setIfInBounds j true) (a.put oj.dst v) w (fun k hk h1 h2 h3=>hT k hk h1 h2 (hun' k h3)) (hcl.set hj) (by simpa using hsz) hCw (fun i hi oi hoi k ok hk h1 h2 h3=>hfree i hi oi hoi k ok hk h1 (hun' k h2) h3) (fun i hi=>ready_mono (hr i hi) (Ne.symm (hne i hi)))
   (fun i hi=>by
    obtain ⟨oi,hoi⟩:=hin i hi
    obtain ⟨bp1,bp2,bp3⟩:=Oper.apart_spec (ap i hi oi hoi)
    exact Sv ht hoi hoj hsel hcl hsz bp1 bp2 bp3 (hr i hi) hj (hne i hi) hlj hya (H i hi))
/-- What holds of the region throughout. -/
structure MOk (ops:Array Oper) (T:Nat):Prop where
 ns:Region.noSelect ops=true
 tl:NB ops (FX ops T) T ops.size
 tT:T < ops.size->FX ops T T=true
/-- What is checked of an operation that may come up now. -/
def PB (ops:Array Oper) (m:List Bool) (i:Nat):Bool:=(Region.ready .any ops m.toArray).contains i&&Region.free .any ops m.toArray i
def UW (ops:Array Oper) (T:Nat) (m:List Bool) (L:List Nat):Bool :=
 (L.all fun i=>PB ops m i)&&(List.range ops.size).all fun j=>L.contains j||!FX ops T j||m.toArray.getD j true||L.any fun i=>IK ops ops.size j i
def YE (ops:Array Oper) (T p f:Nat) (m:List Bool):Bool :=
 Nat.beq (p + f) ops.size&&Region.lexFrom .any ops f p m.toArray&&((List.range p).all fun j=>m.toArray.getD j true)&&(List.range ops.size).all fun k=>!(Nat.ble p k&&FX ops T k)||(List.range ops.size).all fun j=>!(Nat.blt k j&&FX ops T j)||IK ops ops.size j k
end
def RunM (E:Env) (ops:Array Oper) (T n0 f:Nat) (m:List Bool) (s:St) (K:St->Prop):Prop :=
 ∀ (base:Bs) (Q:Act->World->Prop) (w0:World) (Z:Nat->Prop) (R0:List RI) (h0:Hp) (a:Act) (w:World) (R:List RI),MOk ops T->Closed ops m.toArray->m.length=ops.size->HR w0 Z R0 h0->n0=h0.length->SR E base w Z R s a->w0.grownBy w none->Step w0 Z R0 h0 w Z R s.hp->(∀ (b:Nat) (B:Option Blk),h0[b]? = some B->s.hp[b]? = some B) ->
  (∀ s' a' w' Z' R',K s'->SR E base w' Z' R' s' a'->StepW w0 Z R0 h0 w' Z' R' s'.hp->Q a' w')->wpM E.P ops (fun w'=>w0.grownBy w' none) (FX ops T) T Q f m.toArray a w
section
variable {E:Env}{cx:Cx}{ops:Array Oper}{s s1:St}{K:St->Prop}{n0 f T i j k:Nat}{m:List Bool}{Q:Ex->St->Prop}{id:Nat}{o o2 o3:Oper}
theorem H0 (m:List Bool) (i:Nat):m.toArray.setIfInBounds i true=(m.set i true).toArray:=by simp
/-- An operation that is quiet. -/
theorem RunM.q (i:Nat) (hq:(PB ops m i&&!FX ops T i)=true) (ho:ops[i]? = some o) (h:Op1 E ops T n0 i o s fun s'=>RunM E ops T n0 f (m.set i true) s' K):RunM E ops T n0 (f + 1) m s K:=by
 intro base Q w0 Z R0 h0 a w R hM hcl hsz hh0 hn0 sr hgr st hpre q
 unfold PB at hq
 simp only [Bool.and_eq_true,Bool.not_eq_true'] at hq
 obtain ⟨⟨hr,hf⟩,hl⟩:=hq
 have hr':i ∈ Region.ready .any ops m.toArray:=by simpa using hr
 have hst:=h base (fun a w=>wpM E.P ops (fun w'=>w0.grownBy w' none) (FX ops T) T Q f (m.set i true).toArray a w) w0 Z R0 h0 a w R hh0 hn0 sr hgr st hpre ho fun s' a' w' R' hk sr' hg' st' hp' =>
  hk base Q w0 Z R0 h0 a' w' R' hM (by rw [<-H0]; exact hcl.set hr') (by simpa using hsz) hh0 hn0 sr' hg' st' hp' q
 obtain ⟨v,hy,hK⟩:=Ed ho hl hst
 refine MU ho hl (Region.noSelect_spec hM.ns) f m.toArray a w (fun _=>hgr) hcl (by simpa using hsz) (Region.free_spec ho hf) hr' hy ?_
 rw [H0]
 exact hK
/-- The loud ones that may come up now: each of them. -/
theorem RunM.loud (L:List Nat) (hne:L≠[]) (hl:UW ops T m L=true) (h:∀ i ∈ L,∃ o,ops[i]? = some o/\Op1 E ops T n0 i o s fun s'=>RunM E ops T n0 f (m.set i true) s' K):RunM E ops T n0 (f + 1) m s K:=by
 intro base Q w0 Z R0 h0 a w R hM hcl hsz hh0 hn0 sr hgr st hpre q
 unfold UW at hl
 simp only [Bool.and_eq_true] at hl
 obtain ⟨h1,h2⟩:=hl
 have hr:∀ i ∈ L,i ∈ Region.ready .any ops m.toArray/\Region.free .any ops m.toArray i=true:=fun i hi=>by
  have:=List.all_eq_true.1 h1 i hi
  unfold PB at this
  simp only [Bool.and_eq_true] at this
  exact ⟨by simpa using this.1,this.2⟩
 refine TX (n:=ops.size) L hne hM.tl (fun i hi=>⟨_,(h i hi).choose_spec.1⟩) (Region.noSelect_spec hM.ns) f m.toArray a w (fun j hj hjL hlj hun=>?_) hcl (by simpa using hsz) (fun _=>hgr) (fun i hi oi hoi=>Region.free_spec hoi (hr i hi).2) (fun i hi=>(hr i hi).1) fun i hi=>?_
 ·have:=List.all_eq_true.1 h2 j (by simpa using hj)
  simp only [Bool.or_eq_true,Bool.not_eq_true',List.any_eq_true] at this
  rcases this with ((h3 | h3) | h3) | h3
  ·exact absurd (by simpa using h3) hjL
  ·rw [hlj] at h3; cases h3
  ·rw [hun] at h3; cases h3
  ·exact h3
 ·obtain ⟨o,ho,hop⟩:=h i hi
  rw [H0]
  exact hop base (fun a w=>wpM E.P ops (fun w'=>w0.grownBy w' none) (FX ops T) T Q f (m.set i true).toArray a w) w0 Z R0 h0 a w R hh0 hn0 sr hgr st hpre ho fun s' a' w' R' hk sr' hg' st' hp' =>
   hk base Q w0 Z R0 h0 a' w' R' hM (by rw [<-H0]; exact hcl.set (hr i hi).1) (by simpa using hsz) hh0 hn0 sr' hg' st' hp' q
/-- What is left stands in one order. -/
theorem RunM.tail (p:Nat) (hp:YE ops T p f m=true) (h:RunDX E ops T n0 p (ops.toList.drop p) s K):RunM E ops T n0 f m s K:=by
 intro base Q w0 Z R0 h0 a w R hM hcl hsz hh0 hn0 sr hgr st hpre q
 unfold YE at hp
 simp only [Bool.and_eq_true] at hp
 obtain ⟨⟨⟨h1,h2⟩,h3⟩,h4⟩:=hp
 have h1:=Nat.eq_of_beq_eq_true h1
 have hlen:(ops.toList.drop p).length=f:=by simp; omega
 have hops:∀ j,(ops.toList.drop p)[j]? = ops[p + j]?:=fun j=>by simp
 have:=SQ hM.ns (n:=ops.size) (k0:=p) (fun k j hk hks hj hlk hlj hkj=>?_) hM.tl hM.tT (ops.toList.drop p) p m.toArray a w (Nat.le_refl _) (by omega) hops (by rw [hlen]; exact h2) hcl (by simpa using hsz) (fun j hj=>List.all_eq_true.1 h3 j (by simpa using hj)) (h base Q w0 Z R0 h0 a w R hh0 hn0 sr hgr st hpre hops q)
 ·rwa [hlen] at this
 ·have a1:=List.all_eq_true.1 h4 k (by simpa using hks)
  simp only [hlk,Nat.ble_eq_true_of_le hk,Bool.and_self,Bool.not_true,Bool.false_or] at a1
  have a2:=List.all_eq_true.1 a1 j (by simpa using hj)
  have hb:Nat.blt k j=true:=Nat.ble_eq_true_of_le hkj
  simpa [hlj,hb] using a2
end
/-- As Op1, of an operation behind which nothing is read any more. -/
def OpZ (E:Env) (ops:Array Oper) (T k:Nat) (o:Oper) (s:St) (Ks:St->Prop):Prop :=
 ∀ (base:Bs) (K:Act->World->Prop) (w0:World) (Z:Nat->Prop) (a:Act) (w:World) (R:List RI),SR E base w Z R s a->w0.grownBy w none->ops[k]? = some o ->
  (∀ s' a' w' Z' R',Ks s'->SR E base w' Z' R' s' a'->w0.grownBy w' none->StepW w Z R s.hp w' Z' R' s'.hp->K a' w')->mOp E.P ops (fun w'=>w0.grownBy w' none) (FX ops T) k K a w
def RunZ (E:Env) (ops:Array Oper) (T f:Nat) (m:List Bool) (s:St) (K:St->Prop):Prop :=
 ∀ (base:Bs) (Q:Act->World->Prop) (w0:World) (Z:Nat->Prop) (a:Act) (w:World) (R:List RI),MOk ops T->Closed ops m.toArray->m.length=ops.size->SR E base w Z R s a->w0.grownBy w none ->
  (∀ s' a' w' Z' R',K s'->SR E base w' Z' R' s' a'->StepW w Z R s.hp w' Z' R' s'.hp->Q a' w')->wpM E.P ops (fun w'=>w0.grownBy w' none) (FX ops T) T Q f m.toArray a w
section
variable {E:Env}{cx:Cx}{ops:Array Oper}{s s1:St}{K Ks:St->Prop}{n n0 f T i j k:Nat}{m:List Bool}{o o2 o3:Oper}{l:List (Nat×AV)}{hp:Hp}{fid:FuncId}
theorem ADR (hE:EnvOk E) (hW:isW o.op=false) (hLd:Uz o.op=false) (hk:k < T) (e:opsD E (evC E 0) ⟨none,false⟩ ops n0 [o] s=some s1) (kk:Ks s1):OpZ E ops T k o s Ks:=by
 intro base K w0 Z a w R sr hgr hok q
 have hkT:¬ T<=k:=by omega
 unfold mOp
 rw [hok]
 dsimp only
 unfold opsD at e
 rw [if_neg (by rw [hW]; simp)] at e
 split at e
 ·cases e
 ·next hw =>
  rw [if_neg (by rw [wantedA_eq sr hw]; simp)]
  injection e with e
  subst e
  exact q _ _ w Z R kk (sr.put undef_vr) hgr (StepW.refl _ _ _ _)
 ·next hw =>
  rw [if_pos (wantedA_eq sr hw)]
  have hρ:∀ o x,opA E s.fr o=some x->VR w Z R x (a.eval o):=fun o x e=>opA_vr sr o x e
  split at e
  ·next x hx =>
   split at e
   ·injection e with e
    subst e
    have hq:=Sq hx
    rw [if_neg (by rw [OA hok hq hkT]; simp)]
    obtain ⟨u,hu,hrun⟩:=evOpQ_sound sr.hh hρ hx
    exact ⟨u,(fun w' _=>hrun w' fun h=>by rw [hLd] at h; cases h),q _ _ w Z R kk (sr.put hu) hgr (StepW.refl _ _ _ _)⟩
   ·cases e
  ·split at e
   ·next x h' hx =>
    injection e with e
    subst e
    have hq:=Lc hx
    rw [if_pos (Gy hok hq)]
    obtain ⟨u,w',R',h1,h2,h3,h4,h5⟩:=evOpN_sound hρ sr.hh hx
    exact O8 h1 (q _ _ w' Z R' kk ((sr.step h2 h4).put h3) (Fh hgr h5) h4.w)
   ·split at e
    ·next f args tys ho =>
     split at e
     ·next fv xs hf hxs =>
      split at e
      ·next r hr =>
       injection e with e
       subst e
       obtain ⟨x,h'⟩:=r
       have hq:isQ o.op=false:=by rw [ho]; rfl
       rw [if_pos (Gy hok hq)]
       obtain ⟨g,uf,uc,hva,hcl,hret⟩:=H3 hE (code_sound hE 0).1 (hρ _ _ hf) (opds_vr hρ hxs) sr.hh sr.gl hr
       unfold Lw
       rw [HB (uf:=uf) (uc:=uc) ho hva rfl hcl w]
       refine Ret.mono hret fun v w' hS=>?_
       obtain ⟨hg1,R',k1,k2,k3⟩:=hS
       exact q _ _ w' Z R' kk ((sr.step k1 k3).put k2) (Fh hgr hg1) k3.w
      ·cases e
     ·cases e
    ·cases e
theorem AE7 (hE:EnvOk E){s:St}(l:List (Nat×AV)) (hp:Hp) (hW:(!isW o.op&&!Uz o.op&&Nat.blt k T)=true) (h:VH (opsD E (evC E 0) ⟨none,false⟩ ops 0 [o] s) l=some (n,xs2 l,hp)) (kk:Ks ⟨Fr n l,hp⟩):OpZ E ops T k o s Ks:=by
 obtain ⟨fr,h1,h2,h3⟩:=JO h
 simp only [Bool.and_eq_true,Bool.not_eq_true'] at hW
 intro base K w0 Z a w R sr hgr hok q
 exact ADR (Ks:=fun s=>s=⟨fr,hp⟩) hE hW.1.1 hW.1.2 (Nat.le_of_ble_eq_true hW.2) h1 rfl base K w0 Z a w R sr hgr hok fun s' a' w' Z' R' hs sr' hg' st'=>by
  subst hs
  exact q _ a' w' Z' R' kk (sr'.forget h2 h3) hg' st'
theorem OpZ.one (hE:EnvOk E) (hW:(!isW o.op&&!Uz o.op&&Nat.blt k T)=true) (h:opsD E (evC E 0) ⟨none,false⟩ ops 0 [o] s=some s1) (kk:Ks s1):OpZ E ops T k o s Ks:=by
 simp only [Bool.and_eq_true,Bool.not_eq_true'] at hW
 exact ADR hE hW.1.1 hW.1.2 (Nat.le_of_ble_eq_true hW.2) h kk
theorem RunM.z (h:RunZ E ops T f m s K):RunM E ops T n0 f m s K:=fun base Q w0 Z _ _ a w R hM hcl hsz _ _ sr hgr st _ q=>h base Q w0 Z a w R hM hcl hsz sr hgr fun s' a' w' Z' R' hK sr' st'=>q s' a' w' Z' R' hK sr' (st.w.trans st')
theorem RunZ.q (i:Nat) (hq:(PB ops m i&&!FX ops T i)=true) (ho:ops[i]? = some o) (h:OpZ E ops T i o s fun s'=>RunZ E ops T f (m.set i true) s' K):RunZ E ops T (f + 1) m s K:=by
 intro base Q w0 Z a w R hM hcl hsz sr hgr q
 unfold PB at hq
 simp only [Bool.and_eq_true,Bool.not_eq_true'] at hq
 obtain ⟨⟨hr,hf⟩,hl⟩:=hq
 have hr':i ∈ Region.ready .any ops m.toArray:=by simpa using hr
 have hst:=h base (fun a w=>wpM E.P ops (fun w'=>w0.grownBy w' none) (FX ops T) T Q f (m.set i true).toArray a w) w0 Z a w R sr hgr ho fun s' a' w' Z' R' hk sr' hg' st' =>
  hk base Q w0 Z' a' w' R' hM (by rw [<-H0]; exact hcl.set hr') (by simpa using hsz) sr' hg' fun s2 a2 w2 Z2 R2 hK sr2 st2=>q s2 a2 w2 Z2 R2 hK sr2 (st'.trans st2)
 obtain ⟨v,hy,hK⟩:=Ed ho hl hst
 refine MU ho hl (Region.noSelect_spec hM.ns) f m.toArray a w (fun _=>hgr) hcl (by simpa using hsz) (Region.free_spec ho hf) hr' hy ?_
 rw [H0]
 exact hK
theorem ADW (L:List Nat) (hne:L≠[]) (hl:UW ops T m L=true) (h:∀ i ∈ L,∃ o,ops[i]? = some o/\OpZ E ops T i o s fun s'=>RunZ E ops T f (m.set i true) s' K):RunZ E ops T (f + 1) m s K:=by
 intro base Q w0 Z a w R hM hcl hsz sr hgr q
 unfold UW at hl
 simp only [Bool.and_eq_true] at hl
 obtain ⟨h1,h2⟩:=hl
 have hr:∀ i ∈ L,i ∈ Region.ready .any ops m.toArray/\Region.free .any ops m.toArray i=true:=fun i hi=>by
  have:=List.all_eq_true.1 h1 i hi
  unfold PB at this
  simp only [Bool.and_eq_true] at this
  exact ⟨by simpa using this.1,this.2⟩
 refine TX (n:=ops.size) L hne hM.tl (fun i hi=>⟨_,(h i hi).choose_spec.1⟩) (Region.noSelect_spec hM.ns) f m.toArray a w (fun j hj hjL hlj hun=>?_) hcl (by simpa using hsz) (fun _=>hgr) (fun i hi oi hoi=>Region.free_spec hoi (hr i hi).2) (fun i hi=>(hr i hi).1) fun i hi=>?_
 ·have:=List.all_eq_true.1 h2 j (by simpa using hj)
  simp only [Bool.or_eq_true,Bool.not_eq_true',List.any_eq_true] at this
  rcases this with ((h3 | h3) | h3) | h3
  ·exact absurd (by simpa using h3) hjL
  ·rw [hlj] at h3; cases h3
  ·rw [hun] at h3; cases h3
  ·exact h3
 ·obtain ⟨o,ho,hop⟩:=h i hi
  rw [H0]
  exact hop base (fun a w=>wpM E.P ops (fun w'=>w0.grownBy w' none) (FX ops T) T Q f (m.set i true).toArray a w) w0 Z a w R sr hgr ho fun s' a' w' Z' R' hk sr' hg' st' =>
   hk base Q w0 Z' a' w' R' hM (by rw [<-H0]; exact hcl.set (hr i hi).1) (by simpa using hsz) sr' hg' fun s2 a2 w2 Z2 R2 hK sr2 st2=>q s2 a2 w2 Z2 R2 hK sr2 (st'.trans st2)
/-- The stores. -/
theorem RunZ.tail (hp:YE ops T T f m=true) (h:RunS E ops (ops.toList.drop T) s K):RunZ E ops T f m s K:=by
 intro base Q w0 Z a w R hM hcl hsz sr hgr q
 unfold YE at hp
 simp only [Bool.and_eq_true] at hp
 obtain ⟨⟨⟨h1,h2⟩,h3⟩,h4⟩:=hp
 have h1:=Nat.eq_of_beq_eq_true h1
 have hlen:(ops.toList.drop T).length=f:=by simp; omega
 have hops:∀ j,(ops.toList.drop T)[j]? = ops[T + j]?:=fun j=>by simp
 have:=SQ (C:=fun w'=>w0.grownBy w' none) hM.ns (n:=ops.size) (k0:=T) (fun k j hk hks hj hlk hlj hkj=>?_) hM.tl hM.tT (ops.toList.drop T) T m.toArray a w (Nat.le_refl _) (by omega) hops (by rw [hlen]; exact h2) hcl (by simpa using hsz) (fun j hj=>List.all_eq_true.1 h3 j (by simpa using hj))
  (OC (h base Q a w Z R sr q) (Nat.le_refl _) (fun _=>hgr) (fun j hj=>OW (by omega)) hops)
 ·rwa [hlen] at this
 ·have a1:=List.all_eq_true.1 h4 k (by simpa using hks)
  simp only [hlk,Nat.ble_eq_true_of_le hk,Bool.and_self,Bool.not_true,Bool.false_or] at a1
  have a2:=List.all_eq_true.1 a1 j (by simpa using hj)
  have hb:Nat.blt k j=true:=Nat.ble_eq_true_of_le hkj
  simpa [hlj,hb] using a2
end
/-- Every order of what is not free is gone through, in the world as it is. -/
def RunA (E:Env) (ops:Array Oper) (f:Nat) (m:List Bool) (s:St) (K:St->Prop):Prop :=
 ∀ (base:Bs) (Q:Act->World->Prop) (a:Act) (w:World) (Z:Nat->Prop) (R:List RI),Region.noSelect ops=true->Closed ops m.toArray->m.length=ops.size->SR E base w Z R s a ->
  (∀ s' a' w' Z' R',K s'->SR E base w' Z' R' s' a'->StepW w Z R s.hp w' Z' R' s'.hp->Q a' w')->wpM E.P ops (fun _=>True) (FX ops 0) 0 Q f m.toArray a w
section
variable {E:Env}{cx:Cx}{ops:Array Oper}{s s1:St}{K:St->Prop}{f i j:Nat}{m:List Bool}{Q:Ex->St->Prop}{id k:Nat}{o o2 o3:Oper}
theorem ACf {i:Nat}(h:FX ops 0 i=false):Hq ops i=true:=by
 unfold FX at h
 simp only [Bool.or_eq_false_iff,Bool.and_eq_false_iff,Bool.not_eq_false'] at h
 rcases h.2 with h1 | h1
 ·cases h1
 ·exact h1
theorem AFj (n:Nat):NB ops (FX ops 0) 0 n:=fun j _ _ _ i _ hl hf=>by rw [ACf hl] at hf; cases hf
theorem RunA.q (i:Nat) (hq:(PB ops m i&&!FX ops 0 i)=true) (ho:ops[i]? = some o) (h:RunS E ops [o] s fun s'=>RunA E ops f (m.set i true) s' K):RunA E ops (f + 1) m s K:=by
 intro base Q a w Z R hns hcl hsz sr q
 unfold PB at hq
 simp only [Bool.and_eq_true,Bool.not_eq_true'] at hq
 obtain ⟨⟨hr,hf⟩,hl⟩:=hq
 have hr':i ∈ Region.ready .any ops m.toArray:=by simpa using hr
 have hst:=h base (fun a w=>wpM E.P ops (fun _=>True) (FX ops 0) 0 Q f (m.set i true).toArray a w) a w Z R sr fun s' a' w' Z' R' hk sr' st' =>
  hk base Q a' w' Z' R' hns (by rw [<-H0]; exact hcl.set hr') (by simpa using hsz) sr' fun s2 a2 w2 Z2 R2 hK sr2 st2=>q s2 a2 w2 Z2 R2 hK sr2 (st'.trans st2)
 have hfr:Lb o=true:=by have:=ACf hl; simpa [Hq,ho] using this
 have hy:∃ v,YieldsM E.P ops (fun _=>True) o v a/\wpM E.P ops (fun _=>True) (FX ops 0) 0 Q f (m.set i true).toArray (a.put o.dst v) w:=by
  unfold LwL at hst
  split at hst
  ·next hw =>
   obtain ⟨u,h1,h2⟩:=hst
   exact ⟨u,.inl ⟨hw,fun w' _=>h1 w'⟩,h2⟩
  ·next hw=>exact ⟨undef,.inr ⟨by simpa using hw,rfl⟩,hst⟩
 obtain ⟨v,hy,hK⟩:=hy
 refine MU ho hl (Region.noSelect_spec hns) f m.toArray a w (fun _=>trivial) hcl (by simpa using hsz) (Region.free_spec ho hf) hr' hy ?_
 rw [H0]
 exact hK
theorem ADT (L:List Nat) (hne:L≠[]) (hl:(UW ops 0 m L&&L.all fun i=>!Hq ops i)=true) (h:∀ i ∈ L,∃ o,ops[i]? = some o/\RunS E ops [o] s fun s'=>RunA E ops f (m.set i true) s' K):RunA E ops (f + 1) m s K:=by
 intro base Q a w Z R hns hcl hsz sr q
 simp only [Bool.and_eq_true] at hl
 obtain ⟨hl,hfr⟩:=hl
 unfold UW at hl
 simp only [Bool.and_eq_true] at hl
 obtain ⟨h1,h2⟩:=hl
 have hr:∀ i ∈ L,i ∈ Region.ready .any ops m.toArray/\Region.free .any ops m.toArray i=true:=fun i hi=>by
  have:=List.all_eq_true.1 h1 i hi
  unfold PB at this
  simp only [Bool.and_eq_true] at this
  exact ⟨by simpa using this.1,this.2⟩
 refine TX (n:=ops.size) L hne (AFj _) (fun i hi=>⟨_,(h i hi).choose_spec.1⟩) (Region.noSelect_spec hns) f m.toArray a w (fun j hj hjL hlj hun=>?_) hcl (by simpa using hsz) (fun _=>trivial) (fun i hi oi hoi=>Region.free_spec hoi (hr i hi).2) (fun i hi=>(hr i hi).1) fun i hi=>?_
 ·have:=List.all_eq_true.1 h2 j (by simpa using hj)
  simp only [Bool.or_eq_true,Bool.not_eq_true',List.any_eq_true] at this
  rcases this with ((h3 | h3) | h3) | h3
  ·exact absurd (by simpa using h3) hjL
  ·rw [hlj] at h3; cases h3
  ·rw [hun] at h3; cases h3
  ·exact h3
 ·obtain ⟨o,ho,hop⟩:=h i hi
  have hfi:Hq ops i=false:=by simpa using List.all_eq_true.1 hfr i hi
  have hli:FX ops 0 i=true:=by
   cases hh:FX ops 0 i with
   | true=>rfl
   | false=>rw [ACf hh] at hfi; cases hfi
  have hfo:Lb o=false:=by simpa [Hq,ho] using hfi
  rw [H0]
  have hst:=hop base (fun a w=>wpM E.P ops (fun _=>True) (FX ops 0) 0 Q f (m.set i true).toArray a w) a w Z R sr fun s' a' w' Z' R' hk sr' st' =>
   hk base Q a' w' Z' R' hns (by rw [<-H0]; exact hcl.set (hr i hi).1) (by simpa using hsz) sr' fun s2 a2 w2 Z2 R2 hK sr2 st2=>q s2 a2 w2 Z2 R2 hK sr2 (st'.trans st2)
  unfold mOp
  rw [ho]
  dsimp only
  unfold LwL at hst
  split at hst
  ·next hw =>
   rw [if_pos hw,if_pos hli]
   rw [hfo] at hst
   exact hst
  ·next hw=>rw [if_neg hw]; exact hst
theorem ADU {n:Nat}(hE:EnvOk E){s:St}(l:List (Nat×AV)) (hp:Hp) (h:VH (JT E (evC E 0) ⟨none,false⟩ ops [o] s) l=some (n,xs2 l,hp)) (k:K ⟨Fr n l,hp⟩):RunS E ops [o] s K :=
 AD (rest:=[o]) hE 1 l hp h (AI rfl k)
theorem RunA.done (h:(Region.ready .any ops m.toArray).isEmpty=true) (kk:K s):RunA E ops 0 m s K:=fun base Q a w Z R _ _ _ sr q =>
 ⟨fun _=>trivial,by simpa using h,q s a w Z R kk sr (StepW.refl _ _ _ _)⟩
end
/- trestle/trestlelaw03.Made -/
def u8 (n:Int):Prop:=0<=n/\n<=255
/-- Every clause is valid behind what stands before it. -/
def M0 (pre:List AH):List AH->Prop
 | []=>True
 | x::r=>chk pre x=0/\M0 (pre++[x]) r
theorem P0:∀ (a pre b:List AH),M0 pre (a++b)↔M0 pre a/\M0 (pre++a) b
 | [],pre,b=>by simp [M0]
 | x::a,pre,b=>by
  simp only [List.cons_append,M0,P0 a (pre++[x]) b,List.append_assoc,List.cons_append,List.nil_append,and_assoc]
/-- The decision of a merged text. -/
theorem QK (a b:Af) (i j:Int) (x:AH) (r:List AH) (k:Nat):rsn a b i j (x::r) k=if dir x a b i j=0 then rsn a b i j r (k + 1) else .inr ((k:Int),dir x a b i j):=rfl
theorem Zz (a b:Af) (i j:Int):∀ (c d:List AH) (k:Nat),rsn a b i j (c++d) k=match rsn a b i j c k with | .inl _=>rsn a b i j d (k + c.length) | .inr w=> .inr w
 | [],d,k=>rfl
 | x::c,d,k=>by
  rw [List.cons_append,QK,QK]
  by_cases h:dir x a b i j=0
  ·rw [if_pos h,if_pos h,Zz a b i j c d (k + 1),List.length_cons,show k + 1 + c.length=k + (c.length + 1) by omega]
  ·rw [if_neg h,if_neg h]
theorem X9 (a b:Af) (i j:Int):∀ (c:List AH) (k:Nat),(∃ u,rsn a b i j c k = .inl u)\/∃ w,rsn a b i j c k = .inr w/\w.2≠0
 | [],k=> .inl ⟨(),rfl⟩
 | x::c,k=>by
  unfold rsn
  by_cases h:dir x a b i j=0
  ·rw [if_pos h]; exact X9 a b i j c (k + 1)
  ·rw [if_neg h]; exact .inr ⟨_,rfl,h⟩
theorem AEU (a b:Af) (i j:Int):∀ (c:List AH) (k q:Nat),(match rsn a b i j c k with | .inl _=>(0:Int) | .inr w=>w.2)=(match rsn a b i j c q with | .inl _=>(0:Int) | .inr w=>w.2)
 | [],_,_=>rfl
 | x::c,k,q=>by
  unfold rsn
  by_cases h:dir x a b i j=0
  ·rw [if_pos h,if_pos h]; exact AEU a b i j c (k + 1) (q + 1)
  ·rw [if_neg h,if_neg h]
def Pc (c:List AH) (a b:Af) (i j:Int):Int:=(X8 c a b i j).2
theorem SW (c:List AH) (a b:Af) (i j:Int):Pc c a b i j=match rsn a b i j c 0 with | .inl _=>(0:Int) | .inr w=>w.2:=by
 unfold Pc X8
 cases rsn a b i j c 0 <;> rfl
theorem Wu (c d:List AH) (a b:Af) (i j:Int):Pc (c++d) a b i j=if Pc c a b i j=0 then Pc d a b i j else Pc c a b i j:=by
 rw [SW,SW,SW,Zz]
 rcases X9 a b i j c 0 with ⟨u,h⟩ | ⟨w,h,hw⟩
 ·rw [h]
  simp only [if_true]
  exact AEU a b i j d _ _
 ·rw [h]
  simp only [hw,if_false]
/-- -1, 0 or 1, turned round with its arguments, and a chain decides by its least. -/
structure Wk3 {α:Type} (f:α->α->Int):Prop where
 v:∀ a b,f a b = -1\/f a b=0\/f a b=1
 s:∀ a b,f a b = - f b a
 t:∀ a b c,f a b<=0->f b c<=0->f a c=min (f a b) (f b c)
theorem Vb {α:Type}(k:α->Int):Wk3 (fun a b=>NR (k a) (k b)):=by
 refine ⟨fun a b=>?_,fun a b=>?_,fun a b c h1 h2=>?_⟩
 ·unfold NR; split
  ·exact .inl rfl
  ·split
   ·exact .inr (.inr rfl)
   ·exact .inr (.inl rfl)
 ·unfold NR; split <;> split <;> first | rfl | omega | (split <;> first | rfl | omega)
 ·(try dsimp only at h1 h2 ⊢)
  unfold NR at *
  split at h1 <;> split at h2 <;> first | (split at h1 <;> first | omega | skip) | skip
  all_goals first | (split at h2 <;> first | omega | skip) | skip
  all_goals (split <;> first | omega | skip)
  all_goals first | rfl | omega | (split <;> first | rfl | omega)
theorem Xk:∀ (x:List UInt8),Go.Op.bytesLess x x=false
 | []=>rfl
 | a::x=>by
  show (decide (a < a)||(a==a&&Go.Op.bytesLess x x))=false
  rw [Xk x]; simp
theorem Uo:∀ (x y z:List UInt8),Go.Op.bytesLess x y=true->Go.Op.bytesLess y z=true->Go.Op.bytesLess x z=true
 | x,[],_,h,_=>by cases x <;> cases h
 | _,_::_,[],_,h=>by cases h
 | [],_::_,_::_,_,_=>rfl
 | a::x,b::y,c::z,h1,h2=>by
  have h1':(decide (a < b)||(a==b&&Go.Op.bytesLess x y))=true:=h1
  have h2':(decide (b < c)||(b==c&&Go.Op.bytesLess y z))=true:=h2
  show (decide (a < c)||(a==c&&Go.Op.bytesLess x z))=true
  simp only [Bool.or_eq_true,Bool.and_eq_true,decide_eq_true_eq,beq_iff_eq] at h1' h2' ⊢
  rcases h1' with q1 | ⟨rfl,q1⟩ <;> rcases h2' with q2 | ⟨rfl,q2⟩
  ·exact .inl (UInt8.lt_trans q1 q2)
  ·exact .inl q1
  ·exact .inl q2
  ·exact .inr ⟨rfl,Uo x y z q1 q2⟩
theorem ADD {α:Type}(k:α->List UInt8):Wk3 (fun a b=>Y2 (k a) (k b)):=by
 have val:∀ x y:List UInt8,(Go.Op.bytesLess x y=true/\Y2 x y = -1)\/(x=y/\Y2 x y=0)\/(Go.Op.bytesLess y x=true/\Y2 x y=1):=fun x y=>by
  unfold Y2
  cases h:Go.Op.bytesLess x y with
  | true=>exact .inl ⟨rfl,rfl⟩
  | false =>
   have:=Un x y h
   cases he:(x==y) with
   | true=>exact .inr (.inl ⟨by simpa using he,rfl⟩)
   | false=>exact .inr (.inr ⟨by rw [this,he]; rfl,rfl⟩)
 have asy:∀ x y:List UInt8,Go.Op.bytesLess x y=true->Go.Op.bytesLess y x=true->False:=fun x y h1 h2=>by
  have:=Uo x y x h1 h2
  rw [Xk] at this
  cases this
 refine ⟨fun a b=>?_,fun a b=>?_,fun a b c h1 h2=>?_⟩
 ·rcases val (k a) (k b) with ⟨_,h⟩ | ⟨_,h⟩ | ⟨_,h⟩
  ·exact .inl h
  ·exact .inr (.inl h)
  ·exact .inr (.inr h)
 ·(try dsimp only)
  rcases val (k a) (k b) with ⟨p,h⟩ | ⟨p,h⟩ | ⟨p,h⟩ <;> rcases val (k b) (k a) with ⟨q,g⟩ | ⟨q,g⟩ | ⟨q,g⟩ <;> rw [h,g] <;> first | rfl | (exfalso; first | exact asy _ _ p q | (rw [q,Xk] at p; cases p) | (rw [p,Xk] at q; cases q))
 ·(try dsimp only at h1 h2 ⊢)
  rcases val (k a) (k b) with ⟨p,h⟩ | ⟨p,h⟩ | ⟨p,h⟩ <;> rcases val (k b) (k c) with ⟨q,g⟩ | ⟨q,g⟩ | ⟨q,g⟩ <;> first | (rw [h] at h1; exact absurd h1 (by decide)) | (rw [g] at h2; exact absurd h2 (by decide)) | skip
  ·rw [h,g]
   have:=Uo _ _ _ p q
   unfold Y2
   rw [if_pos this]; rfl
  ·rw [h,g,<-q,h]; rfl
  ·rw [h,g,p,g]; rfl
  ·rw [h,g,p,g]; rfl
theorem ABr {α:Type}(y:Bool) (k:α->Int):Wk3 (fun a b=>snc y (k a) (k b)):=by
 have val:∀ s t:Int,snc y s t=if s=0 then (if t=0 then 0 else 1) else if t=0 then -1 else if y=true then NR t s else NR s t:=fun s t=>by
  rw [Z6]
  unfold NR
  by_cases hs:s=0 <;> by_cases ht:t=0
  ·simp [hs,ht]
  ·simp [hs,ht]
  ·simp [hs,ht]
  ·cases y <;> simp [hs,ht]
 refine ⟨fun a b=>?_,fun a b=>?_,fun a b c h1 h2=>?_⟩
 ·(try dsimp only)
  rw [val]
  unfold NR
  split
  ·split
   ·exact .inr (.inl rfl)
   ·exact .inr (.inr rfl)
  ·split
   ·exact .inl rfl
   ·split <;> (split; · exact .inl rfl) <;> (split; · exact .inr (.inr rfl)) <;> exact .inr (.inl rfl)
 ·(try dsimp only)
  rw [val,val]
  unfold NR
  cases y <;> simp only [if_true,if_false,Bool.false_eq_true] <;> (repeat' split) <;> first | rfl | omega
 ·(try dsimp only at h1 h2 ⊢)
  rw [val] at h1 h2
  rw [val,val,val]
  unfold NR at *
  cases y <;> simp only [if_true,if_false,Bool.false_eq_true] at h1 h2 ⊢ <;> (repeat' split at h1) <;> (repeat' split at h2) <;> first | omega | ((repeat' split) <;> first | rfl | omega)
/-- A second order where a first one ties. -/
theorem AEj {α:Type}{f g:α->α->Int}(hf:Wk3 f) (gv:∀ a b,g a b = -1\/g a b=0\/g a b=1) (gs:∀ a b,g a b = - g b a)
  (gt:∀ a b c,f a b=0->f b c=0->g a b<=0->g b c<=0->g a c=min (g a b) (g b c)):Wk3 (fun a b=>if f a b=0 then g a b else f a b):=by
 refine ⟨fun a b=>?_,fun a b=>?_,fun a b c h1 h2=>?_⟩
 ·show (if f a b=0 then g a b else f a b) = -1\/_
  split
  ·exact gv a b
  ·exact hf.v a b
 ·show (if f a b=0 then g a b else f a b) = - (if f b a=0 then g b a else f b a)
  have:=hf.s a b
  by_cases h:f b a=0
  ·rw [if_pos h,if_pos (by omega)]; exact gs a b
  ·rw [if_neg h,if_neg (by omega)]; exact this
 ·have h1':(if f a b=0 then g a b else f a b)<=0:=h1
  have h2':(if f b c=0 then g b c else f b c)<=0:=h2
  show (if f a c=0 then g a c else f a c)=min (if f a b=0 then g a b else f a b) (if f b c=0 then g b c else f b c)
  have ab:=hf.v a b
  have bc:=hf.v b c
  have gab:=gv a b
  have gbc:=gv b c
  by_cases x:f a b=0 <;> by_cases y:f b c=0
  ·have:=hf.t a b c (by omega) (by omega)
   rw [if_pos x] at h1' ⊢
   rw [if_pos y] at h2' ⊢
   rw [if_pos (by omega)]
   exact gt a b c x y h1' h2'
  ·rw [if_pos x] at h1' ⊢
   rw [if_neg y] at h2' ⊢
   have:=hf.t a b c (by omega) (by omega)
   rw [if_neg (by omega)]
   omega
  ·rw [if_neg x] at h1' ⊢
   rw [if_pos y] at h2' ⊢
   have:=hf.t a b c (by omega) (by omega)
   rw [if_neg (by omega)]
   omega
  ·rw [if_neg x] at h1' ⊢
   rw [if_neg y] at h2' ⊢
   have:=hf.t a b c (by omega) (by omega)
   rw [if_neg (by omega)]
   omega
/-- A guest at a place of the row. -/
abbrev At:={ p:Af×Int // PS p.2=true }
theorem AEk (x:AH):Wk3 (fun a b:At=>SK x a.1.1 b.1.1 a.1.2 b.1.2):=by
 have e:(fun a b:At=>SK x a.1.1 b.1.1 a.1.2 b.1.2)=fun a b:At =>
   if (x.1==1)=true then NR (rk x.2.2.2.1 a.1.1.2.1) (rk x.2.2.2.1 b.1.1.2.1) else
   if (x.1==2)=true then snc false a.1.1.2.2.2.1 b.1.1.2.2.2.1 else
   if (x.1==3)=true then snc true a.1.1.2.2.2.1 b.1.1.2.2.2.1 else
   if (x.1==8)=true then Y2 a.1.1.1 b.1.1.1 else
   if (x.1==9)=true then NR a.1.2 b.1.2 else
   if (x.1==10)=true then NR (kyI a.1.2 x.2.2.2.2) (kyI b.1.2 x.2.2.2.2) else
   NR (nv x a.1.1) (nv x b.1.1):=by
  funext a b
  unfold SK
  rw [a.2,b.2]
  simp only [Bool.not_true,Bool.or_self,Bool.false_eq_true,if_false]
 rw [e]
 by_cases h1:(x.1==1)=true
 ·simp only [h1,if_true]; exact Vb (fun a:At=>rk x.2.2.2.1 a.1.1.2.1)
 by_cases h2:(x.1==2)=true
 ·simp only [h1,h2,if_true,if_false,Bool.false_eq_true]; exact ABr false (fun a:At=>a.1.1.2.2.2.1)
 by_cases h3:(x.1==3)=true
 ·simp only [h1,h2,h3,if_true,if_false,Bool.false_eq_true]; exact ABr true (fun a:At=>a.1.1.2.2.2.1)
 by_cases h8:(x.1==8)=true
 ·simp only [h1,h2,h3,h8,if_true,if_false,Bool.false_eq_true]; exact ADD (fun a:At=>a.1.1.1)
 by_cases h9:(x.1==9)=true
 ·simp only [h1,h2,h3,h8,h9,if_true,if_false,Bool.false_eq_true]; exact Vb (fun a:At=>a.1.2)
 by_cases h10:(x.1==10)=true
 ·simp only [h1,h2,h3,h8,h9,h10,if_true,if_false,Bool.false_eq_true]; exact Vb (fun a:At=>kyI a.1.2 x.2.2.2.2)
 ·simp only [h1,h2,h3,h8,h9,h10,if_false,Bool.false_eq_true]; exact Vb (fun a:At=>nv x a.1.1)
theorem Zx (s:List UInt8):∀ (l:List (List UInt8)) (i:Nat),i<=rkN s l i
 | [],i=>Nat.le_refl i
 | v::r,i=>by
  unfold rkN
  split
  ·exact Nat.le_refl i
  ·have:=Zx s r (i + 1); omega
theorem XO (s t:List UInt8):∀ (l:List (List UInt8)) (i:Nat),NW l s=true->rkN s l i=rkN t l i->t=s
 | [],_,h,_=>by cases h
 | v::r,i,h,e=>by
  have h':((s==v)||NW r s)=true:=h
  unfold rkN at e
  by_cases hs:(s==v)=true
  ·rw [if_pos hs] at e
   by_cases ht:(t==v)=true
   ·rw [beq_iff_eq] at hs ht; rw [hs,ht]
   ·rw [if_neg ht] at e
    have:=Zx t r (i + 1)
    omega
  ·rw [if_neg hs] at e
   by_cases ht:(t==v)=true
   ·rw [if_pos ht] at e
    have:=Zx s r (i + 1)
    omega
   ·rw [if_neg ht] at e
    have h2:NW r s=true:=by
     cases hq:(s==v) with
     | true=>exact absurd hq hs
     | false=>rwa [hq,Bool.false_or] at h'
    exact XO s t r (i + 1) h2 e
theorem AFR {x:AH}(h:fm x=true) (hk:(x.1==1)=true):x.2.1=[]:=by
 unfold fm BH at h
 rw [if_pos hk] at h
 cases hb:BT (x.2.2.2.1.length:Int) 1 16 with
 | none=>rw [hb] at h; cases h
 | some v =>
  rw [hb,OS] at h
  cases v with
  | false=>cases h
  | true =>
   by_cases h2:(x.2.2.2.2==0)=true
   ·by_cases h3:(!x.2.2.1)=true
    ·rw [if_pos rfl,if_pos h2,if_pos h3] at h
     simpa using h
    ·rw [if_pos rfl,if_pos h2,if_neg h3] at h; cases h
   ·rw [if_pos rfl,if_neg h2] at h; cases h
theorem ADi {pre:List AH}{x:AH}(h:chk pre x=0):fm x=true:=by
 unfold chk at h
 split at h
 ·cases h
 ·next h1=>simpa using h1
theorem ADh {pre:List AH}{x:AH}(h:chk pre x=0):x.2.1=[]\/Na pre x.2.1=true:=by
 unfold chk at h
 split at h
 ·cases h
 split at h
 ·cases h
 split at h
 ·cases h
 split at h
 ·next h4=>exact h4
 ·cases h
theorem V7:∀ (c pre:List AH),M0 pre c->∀ x ∈ c,fm x=true
 | y::r,pre,h,x,hx=>by
  rcases List.mem_cons.1 hx with e | e
  ·rw [e]; exact ADi h.1
  ·exact V7 r _ h.2 x e
/-- Ties of a text tie every clause of it. -/
theorem ZJ (a b:Af) (i j:Int):∀ (c:List AH) (k:Nat),rsn a b i j c k = .inl ()->∀ x ∈ c,dir x a b i j=0
 | y::r,k,h,x,hx=>by
  rw [QK] at h
  by_cases q:dir y a b i j=0
  ·rw [if_pos q] at h
   rcases List.mem_cons.1 hx with e | e
   ·rw [e]; exact q
   ·exact ZJ a b i j r (k + 1) h x e
  ·rw [if_neg q] at h; cases h
theorem AAb {c:List AH}{a b:Af}{i j:Int}(h:Pc c a b i j=0):∀ x ∈ c,dir x a b i j=0:=by
 rw [SW] at h
 rcases X9 a b i j c 0 with ⟨u,e⟩ | ⟨w,e,hw⟩
 ·exact ZJ a b i j c 0 e
 ·rw [e] at h; exact absurd h hw
theorem ADk {x y:Int}(h:NR x y=0):x=y:=by
 unfold NR at h
 split at h
 ·cases h
 split at h
 ·cases h
 ·omega
/-- A text that ranks a rank ties nobody of it with anybody of another rank. -/
theorem YF {c:List AH}{s:List UInt8}(hc:∀ x ∈ c,fm x=true) (hr:Na c s=true){a b:Af}{i j:Int}(h:Pc c a b i j=0):(a.2.1==s)=(b.2.1==s):=by
 unfold Na at hr
 obtain ⟨y,hy,e⟩:=List.any_eq_true.1 hr
 rw [Bool.and_eq_true] at e
 have hd:=AAb h y hy
 have ham:=AFR (hc y hy) e.1
 unfold dir amB at hd
 rw [ham,if_neg (by simp)] at hd
 unfold SK at hd
 rw [if_pos e.1] at hd
 have hk:=ADk hd
 unfold rk at hk
 have hn:rkN a.2.1 y.2.2.2.1 0=rkN b.2.1 y.2.2.2.1 0:=by omega
 by_cases ha:a.2.1=s
 ·have hb:=XO a.2.1 b.2.1 _ 0 (by rw [ha]; exact e.2) hn
  rw [hb]
 ·by_cases hb:b.2.1=s
  ·have:=XO b.2.1 a.2.1 _ 0 (by rw [hb]; exact e.2) hn.symm
   exact absurd (this.trans hb) ha
  ·rw [beq_eq_false_iff_ne.2 ha,beq_eq_false_iff_ne.2 hb]
theorem ADd (x:AH) (a b:Af):amB x a b=amB x b a:=by
 unfold amB
 cases (x.2.1==[]) <;> cases (a.2.1==x.2.1) <;> cases (b.2.1==x.2.1) <;> rfl
theorem Wv (x:AH) (a b:Af) (i j:Int):Pc [x] a b i j=dir x a b i j:=by
 rw [SW,QK]
 by_cases h:dir x a b i j=0
 ·rw [if_pos h,h]; rfl
 ·rw [if_neg h]
theorem AAD:∀ (c pre:List AH),M0 [] (pre++c)->Wk3 (fun a b:At=>Pc pre a.1.1 b.1.1 a.1.2 b.1.2)->Wk3 (fun a b:At=>Pc (pre++c) a.1.1 b.1.1 a.1.2 b.1.2)
 | [],pre,_,h=>by rw [List.append_nil]; exact h
 | x::r,pre,hg,h=>by
  have e:pre++x::r=(pre++[x])++r:=by simp
  rw [e] at hg ⊢
  refine AAD r (pre++[x]) hg ?_
  have hgx:=(P0 (pre++[x]) [] r).1 hg
  have hp:=(P0 pre [] [x]).1 hgx.1
  have hchk:chk pre x=0:=by simpa using hp.2.1
  have hfm:=V7 pre [] hp.1
  have ho:=AEk x
  have hx:(fun a b:At=>Pc (pre++[x]) a.1.1 b.1.1 a.1.2 b.1.2)=fun a b:At=>if Pc pre a.1.1 b.1.1 a.1.2 b.1.2=0 then dir x a.1.1 b.1.1 a.1.2 b.1.2 else Pc pre a.1.1 b.1.1 a.1.2 b.1.2:=by
   funext a b
   rw [Wu,Wv]
  rw [hx]
  refine AEj h (fun a b=>?_) (fun a b=>?_) (fun a b c h1 h2=>?_)
  ·unfold dir
   split
   ·exact .inr (.inl rfl)
   ·exact ho.v a b
  ·unfold dir
   rw [ADd x b.1.1 a.1.1]
   split
   ·rfl
   ·exact ho.s a b
  ·unfold dir
   rcases ADh hchk with ha | ha
   ·have q:∀ u v:Af,amB x u v=false:=fun u v=>by unfold amB; rw [ha]; rfl
    rw [q,q,q,if_neg (by decide),if_neg (by decide),if_neg (by decide)]
    exact ho.t a b c
   ·have t1:=YF hfm ha h1
    have t2:=YF hfm ha h2
    unfold amB
    rw [<-t2,<-t1]
    cases (!(x.2.1==[]))
    ·exact ho.t a b c
    ·cases (a.1.1.2.1==x.2.1)
     ·intro _ _; rfl
     ·exact ho.t a b c
theorem ABN (c:List AH) (hg:M0 [] c):Wk3 (fun a b:At=>Pc c a.1.1 b.1.1 a.1.2 b.1.2) :=
 AAD c [] hg ⟨fun _ _=> .inr (.inl rfl),fun _ _=>rfl,fun _ _ _ _ _=>rfl⟩
/-- Where a text decides: what stands before it ties, and it decides alike with what stands up to it. -/
theorem ABo (a b:Af) (i j:Int):∀ (c:List AH) (k:Nat) (w:Int×Int),rsn a b i j c k = .inr w->∃ m:Nat,w.1=((k + m:Nat):Int)/\m < c.length/\Pc (c.take m) a b i j=0/\Pc (c.take (m + 1)) a b i j=w.2/\w.2≠0
 | [],k,w,h=>by cases h
 | x::r,k,w,h=>by
  rw [QK] at h
  by_cases q:dir x a b i j=0
  ·rw [if_pos q] at h
   obtain ⟨m,h1,h2,h3,h4,h5⟩:=ABo a b i j r (k + 1) w h
   have e:∀ n:Nat,Pc (x::r.take n) a b i j=Pc (r.take n) a b i j:=fun n=>by
    rw [show x::r.take n=[x]++r.take n from rfl,Wu,Wv,if_pos q]
   refine ⟨m + 1,by rw [h1]; congr 1; omega,by simp; omega,?_,?_,h5⟩
   ·rw [List.take_succ_cons,e]; exact h3
   ·rw [List.take_succ_cons,e]; exact h4
  ·rw [if_neg q] at h
   have hw:=Sum.inr.inj h
   subst hw
   refine ⟨0,by simp,by simp,rfl,?_,q⟩
   show Pc [x] a b i j=dir x a b i j
   exact Wv x a b i j
theorem AC2 (c:List AH) (a b:Af) (i j:Int):(X8 c a b i j=(-1,0))\/∃ m:Nat,X8 c a b i j=((m:Int),Pc c a b i j)/\m < c.length/\Pc (c.take m) a b i j=0/\Pc (c.take (m + 1)) a b i j=Pc c a b i j/\Pc c a b i j≠0:=by
 unfold X8 Pc
 rcases X9 a b i j c 0 with ⟨u,e⟩ | ⟨w,e,hw⟩
 ·refine .inl ?_
  rw [e]
 ·refine .inr ?_
  obtain ⟨m,h1,h2,h3,h4,h5⟩:=ABo a b i j c 0 w e
  have e2:X8 c a b i j=w:=by unfold X8; rw [e]
  rw [e]
  refine ⟨m,?_,h2,h3,?_,by rw [e2]; exact h5⟩
  ·show w=((m:Int),(X8 c a b i j).2)
   rw [e2,Prod.ext_iff]
   exact ⟨by rw [h1]; simp,rfl⟩
  ·show Pc (c.take (m + 1)) a b i j=(X8 c a b i j).2
   rw [e2]; exact h4
theorem Yi (c:List AH) (m:Nat) (h:M0 [] c):M0 [] (c.take m):=by
 have:M0 [] (c.take m++c.drop m):=by rw [List.take_append_drop]; exact h
 exact ((P0 _ _ _).1 this).1
/- trestle/court.table -/
/- trestle/trestleref03.votes -/
/- trestle/trestleref03.Votes -/
/- trestle/trestleref03.AllValid -/
/-- A loop whose states are known. -/
theorem AFp {σ ρ:Type}(n:Nat) (S:Nat->σ) (R:Option ρ) (L:Nat->Int->σ->Option ρ) (hn:n<=1000000) (hs:∀ i,i < n->∀ f,L (f + 1) (i:Int) (S i)=L f (wr .i64 ((i:Int) + 1)) (S (i + 1))) (he:∀ f,L (f + 1) (n:Int) (S n)=R):∀ (d i f:Nat),i + d=n->d < f->L f (i:Int) (S i)=R
 | 0,i,f + 1,e,_=>by
  rw [show i=n by omega]
  exact he f
 | d + 1,i,f + 1,e,hf=>by
  rw [hs i (by omega) f,YK (by omega) (by omega),show ((i:Int) + 1)=((i + 1:Nat):Int) by omega]
  exact AFp n S R L hn hs he d (i + 1) f (by omega) (by omega)
theorem PJ {σ ρ:Type}(n:Nat) (S:Nat->σ) (R:Option ρ) (L:Nat->Int->σ->Option ρ) (hn:n<=99999) (hs:∀ i,i < n->∀ f,L (f + 1) (i:Int) (S i)=L f (wr .i64 ((i:Int) + 1)) (S (i + 1))) (he:∀ f,L (f + 1) (n:Int) (S n)=R):L 100000 0 (S 0)=R :=
 AFp n S R L (by omega) hs he n 0 100000 (by omega) (by omega)
theorem ADl {σ ρ:Type}(n lo:Nat) (S:Nat->σ) (R:Option ρ) (L:Nat->Int->σ->Option ρ) (hn:n<=1000000) (hs:∀ i,lo<=i->i < n->∀ f,L (f + 1) (i:Int) (S i)=L f (wr .i64 ((i:Int) + 1)) (S (i + 1))) (he:∀ f,L (f + 1) (n:Int) (S n)=R):∀ (d i f:Nat),lo<=i->i + d=n->d < f->L f (i:Int) (S i)=R
 | 0,i,f + 1,_,e,_=>by
  rw [show i=n by omega]
  exact he f
 | d + 1,i,f + 1,hi,e,hf=>by
  rw [hs i hi (by omega) f,YK (by omega) (by omega),show ((i:Int) + 1)=((i + 1:Nat):Int) by omega]
  exact ADl n lo S R L hn hs he d (i + 1) f (by omega) (by omega) (by omega)
/-- A valid text, as it is checked. -/
theorem Vq (c:List AH):∀ (r pre:List AH),c=pre++r->(∃ u,YU c r pre.length = .inl u)->M0 pre r
 | [],_,_,_=>trivial
 | x::r,pre,e,⟨u,h⟩=>by
  unfold YU at h
  rw [show c.take pre.length=pre by rw [e]; simp] at h
  by_cases hx:chk pre x=0
  ·rw [if_neg (by simpa using hx)] at h
   exact ⟨hx,Vq c r (pre++[x]) (by rw [e]; simp) ⟨u,by simpa using h⟩⟩
  ·rw [if_pos hx] at h; cases h
theorem Kn {c:List AH}(h:(Ts c).2=0):c.length<=32/\M0 [] c:=by
 unfold Ts at h
 split at h
 ·cases h
 ·next hl =>
  refine ⟨by omega,Vq c c [] rfl ?_⟩
  rcases Ut c c 0 with ⟨u,h1,_⟩ | ⟨w,h1,h2⟩
  ·exact ⟨u,h1⟩
  ·rw [h1] at h; exact absurd h h2
theorem OY (c:List AH) (h:few c):Gi c=some (if (Ts c).2=0 then (c,true) else ([],false)):=by
 unfold Gi
 rw [Ur c h,OS]
 by_cases hv:(Ts c).2=0
 ·have e0:Ee c 100000 [] 0=some c:=WF c h (PZ hv) c [] 100000 rfl (by have:=h.1; omega)
  rw [if_neg (by simpa using hv),if_pos hv,e0]; rfl
 ·rw [if_pos (by simpa using hv),if_neg hv]
/-- Guests at their places. -/
def FG:List Af->Nat->List Ae
 | [],_=>[]
 | g::r,i=>(g,(i:Int))::FG r (i + 1)
theorem OZ:∀ (g:List Af) (i:Nat),(FG g i).length=g.length
 | [],_=>rfl
 | _::r,i=>by simp [FG,OZ r (i + 1)]
theorem UY:∀ (g:List Af) (i k:Nat),(FG g i)[k]? = (g[k]?).map fun x=>(x,((i + k:Nat):Int))
 | [],_,_=>by simp [FG]
 | x::r,i,0=>by simp [FG]
 | x::r,i,k + 1=>by
  simp only [FG,List.getElem?_cons_succ]
  rw [UY r (i + 1) k,show i + 1 + k=i + (k + 1) by omega]
theorem Sz:∀ (g:List Af) (x:Af) (i:Nat),FG (g++[x]) i=FG g i++[(x,((i + g.length:Nat):Int))]
 | [],x,i=>by simp [FG]
 | y::r,x,i=>by
  simp only [List.cons_append,FG,Sz r x (i + 1),List.length_cons]
  rw [show i + 1 + r.length=i + (r.length + 1) by omega]
theorem ABf (g:List Af) (h:g.length<=99999):ID g=some (FG g 0):=by
 unfold ID
 have:D3 g 100000 [] 0=some (FG g 0):=by
  have:=PJ (σ:=List Ae) g.length (fun i=>FG (g.take i) 0) (some (FG g 0)) (fun f c s=>D3 g f s c) h (fun i hi f=>by
   show D3 g (f + 1) (FG (g.take i) 0) (i:Int)=_
   conv=>lhs; unfold D3
   rw [if_pos (by simp; omega),O6 hi,OS,if_pos (FI (by omega) (by rw [OZ]; simp; omega))]
   have e:FG (g.take (i + 1)) 0=FG (g.take i) 0++[(g[i],(i:Int))]:=by
    rw [List.take_succ_eq_append_getElem hi,Sz]; simp; omega
   show _=D3 g f (FG (g.take (i + 1)) 0) _
   rw [e]) (fun f=>by
   show D3 g (f + 1) (FG (g.take g.length) 0) (g.length:Int)=_
   conv=>lhs; unfold D3
   rw [if_neg (by simp),List.take_length])
  exact this
 rw [this]; rfl
/-- What a text says of the guests at two places. -/
def dG:Af:=([],[],[],0,0,[],false,false,[])
def gAt (g:List Af) (x:Nat):Af:=g.getD x dG
def cm (c:List AH) (g:List Af) (x y:Nat):Int:=Pc c (gAt g x) (gAt g y) (x:Int) (y:Int)
theorem AD7 {x:Nat}(h:x < 64):PS (x:Int)=true:=by simp [PS]; omega
/-- Who sits in a row of at most 64. -/
abbrev Pl:={ x:Nat // x < 64 }
theorem ABM {c:List AH}(g:List Af) (hg:M0 [] c):Wk3 (fun a b:Pl=>cm c g a.1 b.1) :=
 let h:=ABN c hg
 let k:Pl->At:=fun a=>⟨(gAt g a.1,(a.1:Int)),AD7 a.2⟩
 ⟨fun a b=>h.v (k a) (k b),fun a b=>h.s (k a) (k b),fun a b d=>h.t (k a) (k b) (k d)⟩
theorem AFo {c:List AH}{g:List Af}(hg:M0 [] c){x y:Nat}(hx:x < 64) (hy:y < 64):cm c g x y = -1\/cm c g x y=0\/cm c g x y=1:=(ABM g hg).v ⟨x,hx⟩ ⟨y,hy⟩
theorem AEq {c:List AH}{g:List Af}(hg:M0 [] c){x y:Nat}(hx:x < 64) (hy:y < 64):cm c g x y = - cm c g y x:=(ABM g hg).s ⟨x,hx⟩ ⟨y,hy⟩
theorem AFx {c:List AH}{g:List Af}(hg:M0 [] c){x:Nat}(hx:x < 64):cm c g x x=0:=by have:=AEq (g:=g) hg hx hx; omega
/-- Few guests, their places. -/
structure FewR (g:List Af):Prop where
 n:g.length<=64
 f:∀ x ∈ g,Xs x
theorem FewR.at_ {g:List Af}(h:FewR g){x:Nat}(hx:x < g.length):Xs (gAt g x):=h.f _ (by unfold gAt; rw [List.getD_eq_getElem?_getD,List.getElem?_eq_getElem hx]; exact List.getElem_mem hx)
theorem WG (g:List Af){x:Nat}(hx:x < g.length):idx (FG g 0) (x:Int)=some (gAt g x,(x:Int)):=by
 unfold idx
 rw [if_pos (by omega),Int.toNat_natCast,UY,List.getElem?_eq_getElem hx]
 simp [gAt,hx]
theorem AAr (g:List Af){x:Nat}(hx:x < g.length):idx g (x:Int)=some (gAt g x):=by
 rw [O6 hx]; simp [gAt,hx]
theorem ACi {α:Type}(n:Nat) (f h:Nat->α) (x:Nat) (v:α) (hx:h x=v) (hn:∀ y,y≠x->h y=f y):((List.range n).map f).set x v=(List.range n).map h:=by
 apply List.ext_getElem?
 intro i
 rw [List.getElem?_set]
 simp only [List.getElem?_map,List.length_map,List.length_range]
 by_cases e:x=i
 ·subst e
  rw [if_pos rfl]
  split
  ·next h1=>rw [List.getElem?_range h1]; simp [hx]
  ·next h1=>rw [List.getElem?_eq_none (by simp; omega)]; rfl
 ·rw [if_neg e]
  by_cases hi:i < n
  ·rw [List.getElem?_range hi]; simp [hn i (Ne.symm e)]
  ·rw [List.getElem?_eq_none (by simp; omega)]; rfl
section
variable {c:List AH}{g:List Af}(hc:few c) (hv:(Ts c).2=0) (hg:FewR g)
include hc hv hg
theorem AAm {x y:Nat}(hx:x < g.length) (hy:y < g.length):∃ k,As c (gAt g x,(x:Int)) (gAt g y,(y:Int))=some (k,cm c g x y) :=
 ⟨_,ZV c (gAt g x) (gAt g y) x y hc (PZ hv) (hg.at_ hx) (hg.at_ hy)⟩
/-- What a text adds to the table. -/
def dl (c:List AH) (g:List Af) (x y:Nat):Int:=if cm c g x y = -1 then 1 else 0
def AF0 (M:Nat->Nat->Int) (c:List AH) (g:List Af) (i k:Nat):Nat->Nat->Int:=fun x y=>M x y + if (x=i/\y < k)\/(y=i/\x < k) then dl c g x y else 0
end
section
variable {l:List (List AH)}{g:List Af}(hl:∀ c ∈ l,few c) (hg:FewR g)
include hl hg
end
end Go.Proofs.YtlalcoehgkmhlaaGreatDoor
namespace Go.Proofs.YtlalcoehgkmhlaaGreatDoor
section
variable {α:Type}
theorem Uf {lt:α->α->Prop}(irr:∀ a,¬ lt a a) (tr:∀ a b c,lt a b->lt b c->lt a c):∀ (l1 l2:List α),l1.Pairwise lt->l2.Pairwise lt->(∀ x,x ∈ l1↔x ∈ l2)->l1=l2
 | [],[],_,_,_=>rfl
 | [],b::l,_,_,h=>by have:=(h b).2 (by simp); cases this
 | a::l,[],_,_,h=>by have:=(h a).1 (by simp); cases this
 | a::l1,b::l2,h1,h2,h=>by
  obtain ⟨a1,a2⟩:=List.pairwise_cons.1 h1
  obtain ⟨b1,b2⟩:=List.pairwise_cons.1 h2
  have hab:a=b:=by
   rcases List.mem_cons.1 ((h a).1 (by simp)) with e | e
   ·exact e
   ·rcases List.mem_cons.1 ((h b).2 (by simp)) with e' | e'
    ·exact e'.symm
    ·exact (irr a (tr a b a (a1 b e') (b1 a e))).elim
  subst hab
  congr 1
  refine Uf irr tr l1 l2 a2 b2 fun x=>⟨fun hx=>?_,fun hx=>?_⟩
  ·rcases List.mem_cons.1 ((h x).1 (List.mem_cons_of_mem _ hx)) with e | e
   ·subst e; exact (irr x (a1 x hx)).elim
   ·exact e
  ·rcases List.mem_cons.1 ((h x).2 (List.mem_cons_of_mem _ hx)) with e | e
   ·subst e; exact (irr x (b1 x hx)).elim
   ·exact e
/-- Groups of things that tie, each in the order of their places, each ahead of the later ones. -/
structure GL (f:α->α->Int) (p:α->Int) (L:List (List α)):Prop where
 ne:∀ g ∈ L,g≠[]
 tie:∀ g ∈ L,g.Pairwise fun a b=>p a < p b
 eq:∀ g ∈ L,∀ a ∈ g,∀ b ∈ g,f a b=0
 lt:L.Pairwise fun g h=>∀ a ∈ g,∀ b ∈ h,f a b = -1
theorem GL.tail {f:α->α->Int}{p:α->Int}{g:List α}{L:List (List α)}(h:GL f p (g::L)):GL f p L :=
 ⟨fun x hx=>h.ne x (List.mem_cons_of_mem _ hx),fun x hx=>h.tie x (List.mem_cons_of_mem _ hx),fun x hx=>h.eq x (List.mem_cons_of_mem _ hx),(List.pairwise_cons.1 h.lt).2⟩
theorem Vi {f:α->α->Int}{p:α->Int}(hs:∀ a b,f a b = - f b a):∀ (L M:List (List α)),GL f p L->GL f p M->(∀ x,x ∈ L.flatten↔x ∈ M.flatten)->L=M
 | [],[],_,_,_=>rfl
 | [],g::M,_,h2,h=>by
  obtain ⟨x,hx⟩:=List.exists_mem_of_ne_nil g (h2.ne g (by simp))
  have:=(h x).2 (by simp [hx])
  simp at this
 | g::L,[],h1,_,h=>by
  obtain ⟨x,hx⟩:=List.exists_mem_of_ne_nil g (h1.ne g (by simp))
  have:=(h x).1 (by simp [hx])
  simp at this
 | g::L,k::M,h1,h2,h=>by
  have key:∀ (g k:List α) (L M:List (List α)),GL f p (g::L)->GL f p (k::M)->(∀ x,x ∈ (g::L).flatten↔x ∈ (k::M).flatten)->∀ x ∈ g,x ∈ k:=by
   intro g k L M h1 h2 h x hx
   have hx':=(h x).1 (by simp [hx])
   rw [List.flatten_cons,List.mem_append] at hx'
   rcases hx' with hx' | hx'
   ·exact hx'
   ·obtain ⟨k',hk',hxk⟩:=List.mem_flatten.1 hx'
    obtain ⟨y,hy⟩:=List.exists_mem_of_ne_nil k (h2.ne k (by simp))
    have e1:f y x = -1:=(List.pairwise_cons.1 h2.lt).1 k' hk' y hy x hxk
    have hy':=(h y).2 (by simp [hy])
    rw [List.flatten_cons,List.mem_append] at hy'
    rcases hy' with hy' | hy'
    ·have:=h1.eq g (by simp) y hy' x hx; omega
    ·obtain ⟨g',hg',hyg⟩:=List.mem_flatten.1 hy'
     have:=(List.pairwise_cons.1 h1.lt).1 g' hg' x hx y hyg
     have:=hs x y
     omega
  have hgk:g=k:=Uf (lt:=fun a b=>p a < p b) (fun a h=>by omega) (fun a b c h k=>by omega) g k (h1.tie g (by simp)) (h2.tie k (by simp)) fun x=>⟨key g k L M h1 h2 h x,key k g M L h2 h1 (fun x=>(h x).symm) x⟩
  subst hgk
  congr 1
  have dis:∀ (L:List (List α)),GL f p (g::L)->∀ x ∈ L.flatten,x ∉ g:=fun L hL x hx hg=>by
   obtain ⟨g',hg',hxg⟩:=List.mem_flatten.1 hx
   have e1:=(List.pairwise_cons.1 hL.lt).1 g' hg' x hg x hxg
   have:=hs x x
   omega
  refine Vi hs L M h1.tail h2.tail fun x=>⟨fun hx=>?_,fun hx=>?_⟩
  ·have:=(h x).1 (by rw [List.flatten_cons]; exact List.mem_append_right _ hx)
   rw [List.flatten_cons,List.mem_append] at this
   exact this.resolve_left (dis L h1 x hx)
  ·have:=(h x).2 (by rw [List.flatten_cons]; exact List.mem_append_right _ hx)
   rw [List.flatten_cons,List.mem_append] at this
   exact this.resolve_left (dis M h2 x hx)
end
/-- What a text says of two places, as a weak order of all numbers. -/
def fN (c:List AH) (g:List Af) (x y:Nat):Int:=if x < 64 then (if y < 64 then cm c g x y else -1) else if y < 64 then 1 else 0
theorem ADu {c:List AH}{g:List Af}{x y:Nat}(hx:x < 64) (hy:y < 64):fN c g x y=cm c g x y:=by unfold fN; rw [if_pos hx,if_pos hy]
theorem AEi {c:List AH}(g:List Af) (hg:M0 [] c):Wk3 (fN c g):=by
 refine ⟨fun a b=>?_,fun a b=>?_,fun a b d h1 h2=>?_⟩
 ·unfold fN
  split <;> split <;> first | exact AFo hg ‹_› ‹_› | omega
 ·unfold fN
  by_cases ha:a < 64 <;> by_cases hb:b < 64 <;> simp only [ha,hb,if_true,if_false] <;> first | exact AEq hg ha hb | rfl
 ·have:=(ABM g hg).t
  by_cases ha:a < 64 <;> by_cases hb:b < 64 <;> by_cases hd:d < 64 <;> simp only [fN,ha,hb,hd,if_true,if_false] at h1 h2 ⊢ <;> first | exact (ABM g hg).t ⟨a,ha⟩ ⟨b,hb⟩ ⟨d,hd⟩ h1 h2 | omega | (have:=AFo (g:=g) hg ha hb; omega)
/-- Before, or tied and at an earlier place. -/
def ltN (f:Nat->Nat->Int) (x y:Nat):Prop:=f x y = -1\/(f x y=0/\x < y)
/-- One more is laid into its place, from the end on. -/
def Xv (f:Nat->Nat->Int) (x:Nat):List Nat->List Nat->List Nat
 | [],b=>x::b
 | y::a,b=>if f x y < 0 then Xv f x a (y::b) else (y::a).reverse++x::b
theorem Xx {f:Nat->Nat->Int}(x z:Nat):∀ (a b:List Nat),z ∈ Xv f x a b↔z=x\/z ∈ a\/z ∈ b
 | [],b=>by simp [Xv]
 | y::a,b=>by
  unfold Xv
  split
  ·rw [Xx x z a (y::b)]
   simp only [List.mem_cons]
   constructor
   ·rintro (h | h | h | h)
    ·exact .inl h
    ·exact .inr (.inl (.inr h))
    ·exact .inr (.inl (.inl h))
    ·exact .inr (.inr h)
   ·rintro (h | (h | h) | h)
    ·exact .inl h
    ·exact .inr (.inr (.inl h))
    ·exact .inr (.inl h)
    ·exact .inr (.inr (.inr h))
  ·simp only [List.mem_append,List.mem_reverse,List.mem_cons]
   constructor
   ·rintro (h | h | h)
    ·exact .inr (.inl h)
    ·exact .inl h
    ·exact .inr (.inr h)
   ·rintro (h | h | h)
    ·exact .inr (.inl h)
    ·exact .inl h
    ·exact .inr (.inr h)
theorem Xw {f:Nat->Nat->Int}(x:Nat):∀ (a b:List Nat),(Xv f x a b).length=a.length + b.length + 1
 | [],b=>by simp [Xv]
 | y::a,b=>by
  unfold Xv
  split
  ·rw [Xw x a (y::b)]; simp; omega
  ·simp; omega
/-- Insertion sort. -/
def P1 (f:Nat->Nat->Int) (l:List Nat):List Nat:=l.foldl (fun acc x=>Xv f x acc.reverse []) []
theorem P2 {f:Nat->Nat->Int}(l:List Nat) (x:Nat):P1 f (l++[x])=Xv f x (P1 f l).reverse []:=by
 unfold P1; rw [List.foldl_append]; rfl
theorem VL {α:Type}{P:List α->Prop}(h0:P []) (h1:∀ l x,P l->P (l++[x])) (l:List α):P l:=by
 have:∀ r:List α,P r.reverse:=by
  intro r
  induction r with
  | nil=>exact h0
  | cons x r ih=>rw [List.reverse_cons]; exact h1 _ _ ih
 simpa using this l.reverse
theorem SG {f:Nat->Nat->Int}(z:Nat) (l:List Nat):z ∈ P1 f l↔z ∈ l:=by
 refine VL (P:=fun l=>z ∈ P1 f l↔z ∈ l) (by simp [P1]) (fun l x ih=>?_) l
 rw [P2,Xx]
 simp [ih,or_comm]
theorem U1 {f:Nat->Nat->Int}(l:List Nat):(P1 f l).length=l.length:=by
 refine VL (P:=fun l=>(P1 f l).length=l.length) (by simp [P1]) (fun l x ih=>?_) l
 rw [P2,Xw]
 simp [ih]
section
variable {f:Nat->Nat->Int}(hf:Wk3 f)
include hf
theorem Zk {x y z:Nat}(h1:ltN f x y) (h2:ltN f y z):ltN f x z:=by
 have:=hf.t x y z (by rcases h1 with h | h <;> omega) (by rcases h2 with h | h <;> omega)
 unfold ltN
 rcases h1 with h1 | h1 <;> rcases h2 with h2 | h2 <;> omega
theorem So (x:Nat):∀ (a b:List Nat),(a.reverse++b).Pairwise (ltN f)->(∀ y ∈ b,f x y = -1)->(∀ y ∈ a,y < x)->(Xv f x a b).Pairwise (ltN f)
 | [],b,h,hb,_=>by
  unfold Xv
  exact List.pairwise_cons.2 ⟨fun y hy=> .inl (hb y hy),by simpa using h⟩
 | y::a,b,h,hb,ha=>by
  unfold Xv
  by_cases hxy:f x y < 0
  ·rw [if_pos hxy]
   have e:f x y = -1:=by have:=hf.v x y; omega
   refine So x a (y::b) (by simpa using h) (fun z hz=>?_) fun z hz=>ha z (List.mem_cons_of_mem _ hz)
   rcases List.mem_cons.1 hz with rfl | hz
   ·exact e
   ·exact hb z hz
  ·rw [if_neg hxy]
   have hyx:ltN f y x:=by
    have:=hf.s x y
    have:=hf.v x y
    have:=ha y (by simp)
    unfold ltN; omega
   rw [List.pairwise_append] at h ⊢
   obtain ⟨h1,h2,h3⟩:=h
   refine ⟨h1,List.pairwise_cons.2 ⟨fun z hz=> .inl (hb z hz),h2⟩,fun z hz w hw=>?_⟩
   rcases List.mem_cons.1 hw with rfl | hw
   ·rw [List.reverse_cons] at h1 hz
    rcases List.mem_append.1 hz with hz | hz
    ·exact Zk hf ((List.pairwise_append.1 h1).2.2 z hz y (by simp)) hyx
    ·simp at hz; subst hz; exact hyx
   ·exact h3 z hz w hw
theorem W9 (l:List Nat):l.Pairwise (fun a b=>a < b)->(P1 f l).Pairwise (ltN f):=by
 refine VL (P:=fun l=>l.Pairwise (fun a b=>a < b)->(P1 f l).Pairwise (ltN f)) (fun _=>by simp [P1]) (fun l x ih h=>?_) l
 obtain ⟨h1,_,h3⟩:=List.pairwise_append.1 h
 rw [P2]
 refine So hf x _ [] (by simpa using ih h1) (fun y hy=>by cases hy) fun y hy=>?_
 exact h3 y ((SG y l).1 (List.mem_reverse.1 hy)) x (by simp)
end
/-- Guests by their places. -/
def sd (g:List Af) (x:Nat):Ae:=(gAt g x,(x:Int))
def sdL (g:List Af) (l:List Nat):List Ae:=l.map (sd g)
theorem XP (g:List Af) (a b:List Nat):sdL g (a++b)=sdL g a++sdL g b:=List.map_append
theorem SN (g:List Af) (x:Nat) (b:List Nat):sdL g (x::b)=sd g x::sdL g b:=rfl
theorem MA (g:List Af) (a:List Nat):(sdL g a).length=a.length:=List.length_map _
theorem XS {α:Type}(p:List α) (v w:α) (r:List α):(p++v::r).set p.length w=p++w::r:=by simp
theorem WH (g:List Af):∀ (r:List Af) (p:List Af),g=p++r->FG r p.length=sdL g ((List.range' p.length r.length))
 | [],_,_=>rfl
 | x::r,p,e=>by
  have:=WH g r (p++[x]) (by rw [e]; simp)
  simp only [List.length_append,List.length_cons,List.length_nil,Nat.zero_add] at this
  simp only [FG,this,List.length_cons,List.range'_succ,SN]
  congr 1
  unfold sd gAt
  rw [e]; simp
theorem Yr (g:List Af):FG g 0=sdL g (List.range g.length):=by
 have:=WH g g [] rfl
 rw [List.range_eq_range']
 exact this
section
variable {c:List AH}{g:List Af}(hc:few c) (hv:(Ts c).2=0) (hg:FewR g)
include hc hv hg
theorem ABb {x y:Nat}(hx:x < g.length) (hy:y < g.length):D1 (sd g x) (sd g y) c=some (fN c g x y):=by
 have hn:=hg.n
 obtain ⟨k,h⟩:=AAm hc hv hg hx hy
 unfold D1
 rw [show sd g x=(gAt g x,(x:Int)) from rfl,show sd g y=(gAt g y,(y:Int)) from rfl,h,ADu (by omega) (by omega)]; rfl
theorem ABd (x:Nat) (hx:x < g.length) (rest:List Nat):∀ (a b:List Nat) (fu:Nat),(∀ y ∈ a,y < g.length)->a.length < fu->a.length<=1000->A6 0 c fu (a.length:Int) (sdL g (a.reverse++x::(b++rest)))=some (sdL g (Xv (fN c g) x a b++rest))
 | [],b,fu + 1,_,_,_=>by
  unfold A6
  rw [if_neg (by simp),OS,if_neg (by simp)]; rfl
 | y::a,b,fu + 1,ha,hf,hl=>by
  have hy:=ha y (by simp)
  simp only [List.length_cons] at hf hl
  have e1:sdL g ((y::a).reverse++x::(b++rest))=(sdL g a.reverse++[sd g y])++sd g x::sdL g (b++rest):=by
   simp [sdL]
  have e2:(sdL g a.reverse++[sd g y])++sd g x::sdL g (b++rest)=sdL g a.reverse++sd g y::sd g x::sdL g (b++rest):=by simp
  have l1:(((y::a).length:Nat):Int)=(((sdL g a.reverse++[sd g y]).length:Nat):Int):=by simp [MA]
  have l2:wr .i64 ((((y::a).length:Nat):Int) - 1)=(((sdL g a.reverse).length:Nat):Int):=by
   rw [YK (by simp <;> omega) (by simp <;> omega)]; simp [MA]
  have i1:idx (sdL g ((y::a).reverse++x::(b++rest))) (((y::a).length:Nat):Int)=some (sd g x):=by rw [e1,l1,Dy]
  have i2:idx (sdL g ((y::a).reverse++x::(b++rest))) (wr .i64 ((((y::a).length:Nat):Int) - 1))=some (sd g y):=by rw [e1,e2,l2,Dy]
  have s1:(sdL g ((y::a).reverse++x::(b++rest))).set (((y::a).length:Nat):Int).toNat (sd g y)=sdL g a.reverse++sd g y::sd g y::sdL g (b++rest):=by
   rw [e1,l1,Int.toNat_natCast,XS]; simp
  have i3:idx (sdL g a.reverse++sd g y::sd g y::sdL g (b++rest)) (wr .i64 ((((y::a).length:Nat):Int) - 1))=some (sd g y):=by rw [l2,Dy]
  have s2:(sdL g a.reverse++sd g y::sd g y::sdL g (b++rest)).set (wr .i64 ((((y::a).length:Nat):Int) - 1)).toNat (sd g x)=sdL g (a.reverse++x::((y::b)++rest)):=by
   rw [l2,Int.toNat_natCast,XS]; simp [XP,SN]
  unfold A6
  rw [if_pos (by simp <;> omega),i1,OS,i2,OS,ABb hc hv hg hx hy,OS,OS]
  unfold Xv
  by_cases h:fN c g x y < 0
  ·rw [if_pos (by simpa using h),if_pos h,OS,OS,OS,s1,i3,OS,s2,l2,MA,List.length_reverse]
   exact ABd x hx rest a (y::b) fu (fun z hz=>ha z (List.mem_cons_of_mem _ hz)) (by omega) (by omega)
  ·rw [if_neg (by simpa using h),if_neg h]
   congr 2
   simp
theorem AFW (ns:List Nat) (hns:∀ x ∈ ns,x < g.length) (hl:ns.length<=1000):Aw (sdL g ns) 0 (ns.length:Int) c=some (sdL g (P1 (fN c g) ns),c):=by
 have hin:AY 0 (ns.length:Int) c 100000 (wr .i64 (0 + 1)) (sdL g ns)=some (sdL g (P1 (fN c g) ns)):=by
  rw [show wr .i64 (0 + 1)=((1:Nat):Int) from rfl]
  cases hns0:ns with
  | nil =>
   unfold AY
   rw [if_neg (by simp)]; rfl
  | cons n0 nr =>
   rw [<-hns0]
   have hpos:1<=ns.length:=by rw [hns0]; simp
   have e0:sdL g (P1 (fN c g) (ns.take 1)++ns.drop 1)=sdL g ns:=by rw [hns0]; rfl
   have h:=ADl (σ:=List Ae) ns.length 1 (fun i=>sdL g (P1 (fN c g) (ns.take i)++ns.drop i)) (some (sdL g (P1 (fN c g) ns))) (fun f c1 s=>AY 0 (ns.length:Int) c f c1 s) (by omega) (fun i h1 hi f=>by
    show AY 0 (ns.length:Int) c (f + 1) (i:Int) (sdL g (P1 (fN c g) (ns.take i)++ns.drop i))=_
    conv=>lhs; unfold AY
    have hil:((P1 (fN c g) (ns.take i)).reverse.length:Int)=(i:Int):=by rw [List.length_reverse,U1]; simp; omega
    have:=ABd hc hv hg ns[i] (hns _ (List.getElem_mem hi)) (ns.drop (i + 1)) (P1 (fN c g) (ns.take i)).reverse [] 100000 (fun y hy=>hns y (List.mem_of_mem_take ((SG y _).1 (List.mem_reverse.1 hy)))) (by omega) (by omega)
    rw [hil,List.reverse_reverse,List.nil_append,<-P2,<-List.take_succ_eq_append_getElem hi,<-List.drop_eq_getElem_cons hi] at this
    rw [if_pos (by simp; omega),this,OS]) (fun f=>by
    show AY 0 (ns.length:Int) c (f + 1) (ns.length:Int) (sdL g (P1 (fN c g) (ns.take ns.length)++ns.drop ns.length))=_
    conv=>lhs; unfold AY
    rw [if_neg (by simp),List.take_length,List.drop_length,List.append_nil]) (ns.length - 1) 1 100000 (by omega) (by omega) (by omega)
   rw [<-e0]; exact h
 unfold Aw
 rw [hin]; rfl
theorem AEY (ns:List Nat) (hns:∀ x ∈ ns,x < g.length) (hl:ns.length<=20):BN (sdL g ns) c=some (sdL g (P1 (fN c g) ns),c):=by
 have hi:=AFW hc hv hg ns hns (by omega)
 have e:CK (sdL g ns) (ns.length:Int) c=some (sdL g (P1 (fN c g) ns),c):=by
  unfold CK
  have e2:Bz (ns.length:Int) 100000=some ():=by
   unfold Bz
   rw [if_neg (by simp; omega)]
  by_cases h20:ns.length=20
  ·have e1:Ay (ns.length:Int) 100000 0 20 (sdL g ns) c=some (20,sdL g (P1 (fN c g) ns),c):=by
    unfold Ay
    rw [h20] at hi
    rw [if_pos (by rw [h20]; rfl),show ((20:Int))=((20:Nat):Int) from rfl,hi,OS]
    unfold Ay
    rw [if_neg (by rw [h20]; show ¬ (false=true); decide)]
   have e3:Aw (sdL g (P1 (fN c g) ns)) 20 (ns.length:Int) c=some (sdL g (P1 (fN c g) ns),c):=by
    unfold Aw AY
    rw [if_neg (by rw [h20]; show ¬ (false=true); decide)]; rfl
   rw [e1,OS,e3,OS,e2]; rfl
  ·have e1:Ay (ns.length:Int) 100000 0 20 (sdL g ns) c=some (0,sdL g ns,c):=by
    unfold Ay
    rw [if_neg (by simp; omega)]
   rw [e1,OS,hi,OS,e2]; rfl
 unfold BN
 rw [MA,e]; rfl
end
theorem WO {α:Type}(l:List α):l=[]\/∃ a x,l=a++[x]:=by
 refine VL (P:=fun l=>l=[]\/∃ a x,l=a++[x]) (.inl rfl) (fun l x _=> .inr ⟨l,x,rfl⟩) l
def pI (x:Nat):Int:=(x:Int)
def toG (l:List Nat):List Int:=l.map pI
def toI (L:List (List Nat)):List (List Int):=L.map toG
theorem VZ (L M:List (List Nat)):toI (L++M)=toI L++toI M:=List.map_append
theorem IA (L:List (List Nat)):(toI L).length=L.length:=List.length_map _
theorem EF (L:List Nat):(toG L).length=L.length:=List.length_map _
section
variable {f:Nat->Nat->Int}{L:List (List Nat)}{gr:List Nat}{x:Nat}
theorem GL.snocNew (h:GL f pI L) (hx:f x x=0) (hn:∀ z ∈ L.flatten,f z x = -1):GL f pI (L++[[x]]):=by
 refine ⟨fun q hq=>?_,fun q hq=>?_,fun q hq=>?_,?_⟩
 ·rcases List.mem_append.1 hq with hq | hq
  ·exact h.ne q hq
  ·simp at hq; subst hq; simp
 ·rcases List.mem_append.1 hq with hq | hq
  ·exact h.tie q hq
  ·simp at hq; subst hq; simp
 ·rcases List.mem_append.1 hq with hq | hq
  ·exact h.eq q hq
  ·simp at hq; subst hq
   intro a ha b hb
   simp at ha hb; subst ha hb; exact hx
 ·refine List.pairwise_append.2 ⟨h.lt,by simp,fun q hq k hk a ha b hb=>?_⟩
  simp at hk; subst hk
  simp at hb; subst hb
  exact hn a (List.mem_flatten.2 ⟨q,hq,ha⟩)
theorem GL.snocIn (h:GL f pI (L++[gr])) (hx:f x x=0) (hg:∀ z ∈ gr,f z x=0/\f x z=0/\z < x) (hn:∀ q ∈ L,∀ z ∈ q,f z x = -1):GL f pI (L++[gr++[x]]):=by
 refine ⟨fun q hq=>?_,fun q hq=>?_,fun q hq=>?_,?_⟩
 ·rcases List.mem_append.1 hq with hq | hq
  ·exact h.ne q (List.mem_append_left _ hq)
  ·simp at hq; subst hq; simp
 ·rcases List.mem_append.1 hq with hq | hq
  ·exact h.tie q (List.mem_append_left _ hq)
  ·simp at hq; subst hq
   refine List.pairwise_append.2 ⟨h.tie gr (by simp),by simp,fun a ha b hb=>?_⟩
   simp at hb; subst hb
   have:=(hg a ha).2.2
   unfold pI; omega
 ·rcases List.mem_append.1 hq with hq | hq
  ·exact h.eq q (List.mem_append_left _ hq)
  ·simp at hq; subst hq
   intro a ha b hb
   have e:=h.eq gr (by simp)
   rcases List.mem_append.1 ha with h5 | h5 <;> rcases List.mem_append.1 hb with h6 | h6
   ·exact e a h5 b h6
   ·rw [show b=x by simpa using h6]; exact (hg a h5).1
   ·rw [show a=x by simpa using h5]; exact (hg b h6).2.1
   ·rw [show a=x by simpa using h5,show b=x by simpa using h6]; exact hx
 ·obtain ⟨h1,_,h3⟩:=List.pairwise_append.1 h.lt
  refine List.pairwise_append.2 ⟨h1,by simp,fun q hq k hk a ha b hb=>?_⟩
  simp at hk; subst hk
  rcases List.mem_append.1 hb with hb | hb
  ·exact h3 q hq gr (by simp) a ha b hb
  ·simp at hb; subst hb; exact hn q hq a ha
end
theorem V8 {α:Type}(p:List α) (v:α) (h:p.length<=1000000):idx (p++[v]) (wr .i64 (((p++[v]).length:Int) - 1))=some v:=by
 rw [YK (by simp <;> omega) (by simp <;> omega),show (((p++[v]).length:Int) - 1)=(p.length:Int) by simp,Dy]
theorem WN {α:Type}(p:List α) (v w:α) (h:p.length<=1000000):(p++[v]).set (wr .i64 (((p++[v]).length:Int) - 1)).toNat w=p++[w]:=by
 rw [YK (by simp <;> omega) (by simp <;> omega),show (((p++[v]).length:Int) - 1)=(p.length:Int) by simp,Int.toNat_natCast,XS]
section
variable {c:List AH}{g:List Af}(hc:few c) (hv:(Ts c).2=0) (hg:FewR g)
include hc hv hg
theorem ABc (ms:List Nat) (hs:ms.Pairwise (ltN (fN c g))) (hb:∀ x ∈ ms,x < g.length) (hl:ms.length<=1000):∀ (r pre:List Nat) (fu:Nat) (L:List (List Nat)),ms=pre++r->r.length < fu->L.flatten=pre->GL (fN c g) pI L->L.length<=pre.length->∃ L',DM (sdL g ms,c) fu (pre.length:Int) (toI L)=some (toI L')/\L'.flatten=ms/\GL (fN c g) pI L'
 | [],pre,fu + 1,L,e,_,hf,hL,_=>by
  refine ⟨L,?_,by rw [hf,e]; simp,hL⟩
  unfold DM
  rw [if_neg (by rw [e]; simp [MA])]
 | x::r,pre,fu + 1,L,e,hfu,hf,hL,hLl=>by
  have hw:=AEi g (Kn hv).2
  have hxx:fN c g x x=0:=by have:=hw.s x x; omega
  have hlen:ms.length=pre.length + r.length + 1:=by rw [e]; simp; omega
  simp only [List.length_cons] at hfu
  have hx:=hb x (by rw [e]; simp)
  have hlt:∀ z ∈ pre,ltN (fN c g) z x:=fun z hz=>by
   rw [e] at hs
   exact (List.pairwise_append.1 hs).2.2 z hz x (by simp)
  have hi:idx (sdL g ms) (pre.length:Int)=some (sd g x):=by
   rw [e,XP,SN,<-MA g pre,Dy]
  have hwr:wr .i64 ((pre.length:Int) + 1)=(((pre++[x]).length:Nat):Int):=Gf pre x r (by rw [<-e]; omega)
  have next:∀ L2:List (List Nat),L2.flatten=pre++[x]->GL (fN c g) pI L2->L2.length<=(pre++[x]).length->∃ L',DM (sdL g ms,c) fu (wr .i64 ((pre.length:Int) + 1)) (toI L2)=some (toI L')/\L'.flatten=ms/\GL (fN c g) pI L':=fun L2 h1 h2 h3=>by
   rw [hwr]
   exact ABc ms hs hb hl r (pre++[x]) fu L2 (by rw [e]; simp) (by omega) h1 h2 h3
  have new:(∀ z ∈ pre,fN c g z x = -1)->∀ j,(if (pre.length:Int)==0 then some true else (idx (sdL g ms) (wr .i64 ((pre.length:Int) - 1))).bind fun v25=>(D1 v25 (sd g x) c).bind fun v28=>some (v28 != 0))=some j->j=true->∃ L',DM (sdL g ms,c) (fu + 1) (pre.length:Int) (toI L)=some (toI L')/\L'.flatten=ms/\GL (fN c g) pI L':=fun hn j hj hjt=>by
   subst hjt
   obtain ⟨L',h1,h2⟩:=next (L++[[x]]) (by rw [List.flatten_append,hf]; simp) (hL.snocNew hxx (by rw [hf]; exact hn)) (by simp; omega)
   refine ⟨L',?_,h2⟩
   rw [<-h1]
   conv=>lhs; unfold DM
   rw [if_pos (by simp [MA]; omega),hi,OS,hj,OS]
   unfold HL
   rw [if_pos rfl,if_pos (FI (by omega) (by rw [IA]; simp; omega)),OS,V8 _ _ (by rw [IA]; omega),OS,if_pos (FI (by omega) (by simp)),OS,WN _ _ _ (by rw [IA]; omega),VZ]
   rfl
  rcases WO L with h0 | ⟨L0,gr,h0⟩
  ·subst h0
   have hp:pre=[]:=by rw [<-hf]; rfl
   subst hp
   exact new (fun z hz=>by cases hz) true (by simp) rfl
  ·subst h0
   rcases WO gr with h1 | ⟨gr0,y,h1⟩
   ·exact absurd h1 (hL.ne gr (by simp))
   ·subst h1
    have hpre:pre=(L0.flatten++gr0)++[y]:=by rw [<-hf]; simp
    have hyp:y ∈ pre:=by rw [hpre]; simp
    have hy:=hb y (by rw [e]; exact List.mem_append_left _ hyp)
    have hprev:(if (pre.length:Int)==0 then some true else (idx (sdL g ms) (wr .i64 ((pre.length:Int) - 1))).bind fun v25=>(D1 v25 (sd g x) c).bind fun v28=>some (v28 != 0))=some (fN c g y x != 0):=by
     have hpl:(pre.length:Int)=(((L0.flatten++gr0).length:Nat):Int) + 1:=by rw [hpre]; simp; omega
     have hp0:¬ (((pre.length:Int)==0)=true):=by simp; intro h; rw [h] at hyp; cases hyp
     have hii:idx (sdL g ms) (wr .i64 ((pre.length:Int) - 1))=some (sd g y):=by
      have q1:wr .i64 ((pre.length:Int) - 1)=((L0.flatten++gr0).length:Int):=by rw [YK (by omega) (by omega)]; omega
      have q2:ms=(L0.flatten++gr0)++y::(x::r):=by rw [e,hpre]; simp
      rw [q1,q2,XP,SN,<-MA g (L0.flatten++gr0),Dy]
     rw [if_neg hp0,hii,OS,ABb hc hv hg hy hx,OS]
    have hlyx:=hlt y hyp
    by_cases h0:fN c g y x=0
    ·have hLlen:(L0++[gr0++[y]++[x]]).length<=(pre++[x]).length:=by simp at hLl ⊢; omega
     have tie:∀ z ∈ gr0++[y],fN c g z x=0:=fun z hz=>by
      have e1:=hL.eq (gr0++[y]) (by simp) z hz y (by simp)
      have:=hw.t z y x (by omega) (by omega)
      omega
     obtain ⟨L',h1,h2⟩:=next (L0++[gr0++[y]++[x]]) (by rw [hpre]; simp) (hL.snocIn hxx (fun z hz=>by
      have e1:=tie z hz
      have:=hw.s z x
      refine ⟨e1,by omega,?_⟩
      have hzp:z ∈ pre:=by rw [hpre,List.append_assoc]; exact List.mem_append_right _ hz
      rcases hlt z hzp with h | h
      ·omega
      ·exact h.2) (fun q hq z hz=>by
      have e1:=(List.pairwise_append.1 hL.lt).2.2 q hq (gr0++[y]) (by simp) z hz y (by simp)
      have:=hw.t z y x (by omega) (by omega)
      omega)) hLlen
     refine ⟨L',?_,h2⟩
     rw [<-h1]
     conv=>lhs; unfold DM
     rw [if_pos (by simp [MA]; omega),hi,OS,hprev,OS]
     unfold HL
     have hLle:L0.length<=1000:=by simp at hLl; omega
     have hgl:(gr0++[y]).length<=1000:=by
      have:pre.length=(L0.flatten).length + (gr0++[y]).length:=by rw [hpre]; simp
      omega
     have e3:toI (L0++[gr0++[y]])=toI L0++[toG (gr0++[y])]:=by rw [VZ]; rfl
     rw [if_neg (by simp [h0]),OS,e3,V8 _ _ (by rw [IA]; omega),OS,if_pos (FI (by omega) (by rw [EF]; simp at hgl ⊢; omega)),OS,WN _ _ _ (by rw [IA]; omega)]
     have e4:toI L0++[toG (gr0++[y])++[(sd g x).2]]=toI (L0++[gr0++[y]++[x]]):=by
      rw [VZ]
      show _=toI L0++[toG (gr0++[y]++[x])]
      unfold toG
      rw [List.map_append (l₂:=[x])]
      rfl
     rw [e4]
    ·have hm1:fN c g y x = -1:=by rcases hlyx with h | h <;> omega
     refine new (fun z hz=>?_) (fN c g y x != 0) hprev (by simp [h0])
     have hzy:z=y\/ltN (fN c g) z y:=by
      rw [hpre] at hz
      rcases List.mem_append.1 hz with hz | hz
      ·right
       rw [e,hpre] at hs
       have:=(List.pairwise_append.1 (List.pairwise_append.1 hs).1).2.2 z hz y (by simp)
       exact this
      ·left; simpa using hz
     rcases hzy with rfl | hzy
     ·exact hm1
     ·have:=hw.t z y x (by rcases hzy with h | h <;> omega) (by omega)
      rcases hzy with h | h <;> omega
theorem AAp (ns:List Nat) (ha:ns.Pairwise fun a b=>a < b) (hns:∀ x ∈ ns,x < g.length) (hl:ns.length<=20):∃ L,HK c (sdL g ns)=some (toI L)/\GL (fN c g) pI L/\∀ x,x ∈ L.flatten↔x ∈ ns:=by
 have hw:=AEi g (Kn hv).2
 obtain ⟨L,h1,h2,h3⟩:=ABc hc hv hg (P1 (fN c g) ns) (W9 hw ns ha) (fun x hx=>hns x ((SG x ns).1 hx)) (by rw [U1]; omega) (P1 (fN c g) ns) [] 100000 [] rfl (by rw [U1]; omega) rfl ⟨fun _ h=>(by cases h),fun _ h=>(by cases h),fun _ h=>(by cases h),List.Pairwise.nil⟩ (Nat.le_refl _)
 refine ⟨L,?_,h3,fun x=>by rw [h2,SG]⟩
 unfold HK
 rw [if_pos (FI (by omega) (by rw [MA]; omega)),AEY hc hv hg ns hns hl,OS]
 have h1':DM (sdL g (P1 (fN c g) ns),c) 100000 0 []=some (toI L):=h1
 rw [h1']; rfl
theorem ACx (hn:g.length<=20):∃ L,Dc c g=some (toI L)/\GL (fN c g) pI L/\∀ x,x ∈ L.flatten↔x < g.length:=by
 obtain ⟨L,h1,h2,h3⟩:=AAp hc hv hg (List.range g.length) List.pairwise_lt_range (fun x hx=>List.mem_range.1 hx) (by simpa using hn)
 refine ⟨L,?_,h2,fun x=>by rw [h3,List.mem_range]⟩
 unfold Dc
 rw [OY c hc,if_pos hv,OS,if_neg (by simp),OS,if_neg (by simp; omega),ABf g (by omega),OS,Yr,h1]; rfl
end
theorem Uh (l:List Nat) (i:Nat) (h:i < l.length):idx (toG l) (i:Int)=some (pI l[i]):=by
 unfold toG
 rw [O6 (by simpa using h)]; simp
theorem OK (a b:List Nat):toG (a++b)=toG a++toG b:=List.map_append
section
variable {c:List AH}{g:List Af}(hc:few c) (hv:(Ts c).2=0) (hg:FewR g)
include hc hv hg
/-- Nobody of some goes before x. -/
def frB (f:Nat->Nat->Int) (ns:List Nat) (x:Nat):Bool:=ns.all fun k=>!decide (f k x < 0)
theorem AD1 {x y:Nat}(hx:x < g.length) (hy:y < g.length):IG c g (pI x) (pI y)=some (decide (fN c g x y < 0)):=by
 have _:=hv
 have hn:=hg.n
 unfold IG pI
 rw [AAr g hx,OS,AAr g hy,OS,X7 c _ _ _ _ hc (hg.at_ hx) (hg.at_ hy),OS,ADu (by omega) (by omega)]
 rfl
theorem AD4 (ns:List Nat) (hns:∀ x ∈ ns,x < g.length) (hl:ns.length<=1000) (i:Nat) (hi:i < ns.length):Dl c g (toG ns) (i:Int) 100000 true 0=some (frB (fN c g) ns ns[i]):=by
 have h:=PJ (σ:=Bool) ns.length (fun k=>frB (fN c g) (ns.take k) ns[i]) (some (frB (fN c g) ns ns[i])) (fun f c' s=>Dl c g (toG ns) (i:Int) f s c') (by omega) (fun k hk f=>by
  show Dl c g (toG ns) (i:Int) (f + 1) (frB (fN c g) (ns.take k) ns[i]) (k:Int)=_
  conv=>lhs; unfold Dl
  have e:frB (fN c g) (ns.take (k + 1)) ns[i]=(frB (fN c g) (ns.take k) ns[i]&&!decide (fN c g ns[k] ns[i] < 0)):=by
   unfold frB
   rw [List.take_succ_eq_append_getElem hk,List.all_append]; simp
  have q:(if frB (fN c g) (ns.take k) ns[i]=true then (idx (toG ns) (k:Int)).bind fun v17=>(idx (toG ns) (i:Int)).bind fun v18=>(IG c g v17 v18).bind fun v19=>some (!v19) else some false)=some (frB (fN c g) (ns.take (k + 1)) ns[i]):=by
   rw [e]
   cases frB (fN c g) (ns.take k) ns[i] with
   | false=>rfl
   | true =>
    rw [if_pos rfl,Uh ns k hk,OS,Uh ns i hi,OS,AD1 hc hv hg (hns _ (List.getElem_mem hk)) (hns _ (List.getElem_mem hi))]
    rfl
  rw [if_pos (by rw [EF]; simp; omega),q,OS]) (fun f=>by
  show Dl c g (toG ns) (i:Int) (f + 1) (frB (fN c g) (ns.take ns.length) ns[i]) (ns.length:Int)=_
  conv=>lhs; unfold Dl
  rw [if_neg (by rw [EF]; simp),List.take_length])
 exact h
theorem AD3 (ns:List Nat) (hns:∀ x ∈ ns,x < g.length) (hl:ns.length<=1000):Dk c g (toG ns) 100000 0 [] []=some (toG (ns.filter (frB (fN c g) ns)),toG (ns.filter fun x=>!frB (fN c g) ns x)):=by
 have h:=PJ (σ:=List Int×List Int) ns.length (fun k=>(toG ((ns.take k).filter (frB (fN c g) ns)),toG ((ns.take k).filter fun x=>!frB (fN c g) ns x))) (some (toG (ns.filter (frB (fN c g) ns)),toG (ns.filter fun x=>!frB (fN c g) ns x))) (fun f c' s=>Dk c g (toG ns) f c' s.1 s.2) (by omega) (fun k hk f=>by
  show Dk c g (toG ns) (f + 1) (k:Int) (toG ((ns.take k).filter (frB (fN c g) ns))) (toG ((ns.take k).filter fun x=>!frB (fN c g) ns x))=_
  conv=>lhs; unfold Dk
  have b1:((ns.take k).filter (frB (fN c g) ns)).length<=1000:=Nat.le_trans (List.length_filter_le _ _) (by simp; omega)
  have b2:((ns.take k).filter fun x=>!frB (fN c g) ns x).length<=1000:=Nat.le_trans (List.length_filter_le _ _) (by simp; omega)
  have q:Hf (toG ns) (k:Int) (toG ((ns.take k).filter (frB (fN c g) ns))) (toG ((ns.take k).filter fun x=>!frB (fN c g) ns x)) (frB (fN c g) ns ns[k])=some (toG ((ns.take (k + 1)).filter (frB (fN c g) ns)),toG ((ns.take (k + 1)).filter fun x=>!frB (fN c g) ns x)):=by
   unfold Hf
   rw [List.take_succ_eq_append_getElem hk,List.filter_append,List.filter_append,OK,OK]
   cases hb:frB (fN c g) ns ns[k] with
   | true =>
    rw [if_pos rfl,Uh ns k hk,OS,if_pos (FI (by omega) (by rw [EF]; simp; omega))]
    simp [hb,toG]
   | false =>
    rw [if_neg (by simp),Uh ns k hk,OS,if_pos (FI (by omega) (by rw [EF]; simp; omega))]
    simp [hb,toG]
  rw [if_pos (by rw [EF]; simp; omega),AD4 hc hv hg ns hns hl k hk,OS,q]
  rfl) (fun f=>by
  show Dk c g (toG ns) (f + 1) (ns.length:Int) (toG ((ns.take ns.length).filter (frB (fN c g) ns))) (toG ((ns.take ns.length).filter fun x=>!frB (fN c g) ns x))=_
  conv=>lhs; unfold Dk
  rw [if_neg (by rw [EF]; simp),List.take_length])
 exact h
end
theorem ABg {f:Nat->Nat->Int}(hw:Wk3 f):∀ (l:List Nat),l≠[]->∃ m ∈ l,∀ k ∈ l,¬ f k m < 0
 | [],h=>absurd rfl h
 | [x],_=>⟨x,by simp,fun k hk=>by
  have e:k=x:=by simpa using hk
  rw [e]; have:=hw.s x x; omega⟩
 | x::y::l,_=>by
  obtain ⟨m,h1,h2⟩:=ABg hw (y::l) (by simp)
  by_cases hx:f x m < 0
  ·refine ⟨x,by simp,fun k hk=>?_⟩
   rcases List.mem_cons.1 hk with rfl | hk
   ·have:=hw.s k k; omega
   ·have a1:=h2 k hk
    have a2:=hw.s k m
    have a3:=hw.v x m
    have:=hw.t x m k (by omega) (by omega)
    have:=hw.s x k
    omega
  ·refine ⟨m,List.mem_cons_of_mem _ h1,fun k hk=>?_⟩
   rcases List.mem_cons.1 hk with rfl | hk
   ·exact hx
   ·exact h2 k hk
section
variable {c:List AH}{g:List Af}(hc:few c) (hv:(Ts c).2=0) (hg:FewR g)
include hc hv hg
theorem AD5:∀ (m:Nat) (ns:List Nat) (fu:Nat) (out:List (List Nat)),ns.length<=m->m < fu->ns.length<=1000->out.length + m<=2000->(∀ x ∈ ns,x < g.length)->ns.Pairwise (fun a b=>a < b)->∃ L,D6 c g fu (toG ns) (toI out)=some (.inl (toI (out++L)))/\GL (fN c g) pI L/\∀ x,x ∈ L.flatten↔x ∈ ns
 | 0,ns,fu + 1,out,hm,_,_,_,_,_=>by
  have h0:ns=[]:=List.eq_nil_of_length_eq_zero (by omega)
  subst h0
  refine ⟨[],?_,⟨fun _ h=>(by cases h),fun _ h=>(by cases h),fun _ h=>(by cases h),List.Pairwise.nil⟩,by simp⟩
  unfold D6
  rw [if_neg (by simp [toG]),List.append_nil]
 | m + 1,ns,fu + 1,out,hm,hfu,hl,hol,hns,hp=>by
  have hw:=AEi g (Kn hv).2
  by_cases h0:ns=[]
  ·subst h0
   refine ⟨[],?_,⟨fun _ h=>(by cases h),fun _ h=>(by cases h),fun _ h=>(by cases h),List.Pairwise.nil⟩,by simp⟩
   unfold D6
   rw [if_neg (by simp [toG]),List.append_nil]
  ·obtain ⟨mn,h1,h2⟩:=ABg hw ns h0
   have hfree:∀ x,frB (fN c g) ns x=true↔∀ k ∈ ns,¬ fN c g k x < 0:=fun x=>by
    unfold frB
    rw [List.all_eq_true]
    constructor
    ·intro h k hk
     simpa using h k hk
    ·intro h k hk
     simpa using h k hk
   have hgr:ns.filter (frB (fN c g) ns)≠[]:=fun h=>by
    have:mn ∈ ns.filter (frB (fN c g) ns):=List.mem_filter.2 ⟨h1,(hfree mn).2 h2⟩
    rw [h] at this; cases this
   have hlen:(ns.filter fun x=>!frB (fN c g) ns x).length<=m:=by
    have a1:(ns.filter fun x=>!frB (fN c g) ns x).length < ns.length:=by
     rw [List.length_filter_lt_length_iff_exists]
     exact ⟨mn,h1,by simp [(hfree mn).2 h2]⟩
    omega
   obtain ⟨L,q1,q2,q3⟩:=AD5 m (ns.filter fun x=>!frB (fN c g) ns x) fu (out++[ns.filter (frB (fN c g) ns)]) hlen (by omega) (Nat.le_trans (List.length_filter_le _ _) hl) (by simp; omega) (fun x hx=>hns x (List.mem_filter.1 hx).1) (hp.sublist List.filter_sublist)
   refine ⟨ns.filter (frB (fN c g) ns)::L,?_,⟨fun k hk=>?_,fun k hk=>?_,fun k hk=>?_,?_⟩,fun x=>?_⟩
   ·unfold D6
    rw [if_pos (by rw [EF]; have:=List.length_pos_iff.2 h0; simp; omega),AD3 hc hv hg ns hns hl,OS,if_neg (by rw [EF]; have:=List.length_pos_iff.2 hgr; simp only [beq_iff_eq]; omega),if_pos (FI (by omega) (by rw [IA]; simp; omega))]
    have e:toI out++[toG (ns.filter (frB (fN c g) ns))]=toI (out++[ns.filter (frB (fN c g) ns)]):=by rw [VZ]; rfl
    rw [e,q1]
    simp
   ·rcases List.mem_cons.1 hk with rfl | hk
    ·exact hgr
    ·exact q2.ne k hk
   ·rcases List.mem_cons.1 hk with rfl | hk
    ·refine (hp.sublist List.filter_sublist).imp fun h=>?_
     unfold pI; omega
    ·exact q2.tie k hk
   ·rcases List.mem_cons.1 hk with rfl | hk
    ·intro a ha b hb
     obtain ⟨a1,a2⟩:=List.mem_filter.1 ha
     obtain ⟨b1,b2⟩:=List.mem_filter.1 hb
     have:=(hfree a).1 a2 b b1
     have:=(hfree b).1 b2 a a1
     have:=hw.s a b
     omega
    ·exact q2.eq k hk
   ·refine List.pairwise_cons.2 ⟨fun k hk a ha b hb=>?_,q2.lt⟩
    obtain ⟨a1,a2⟩:=List.mem_filter.1 ha
    have hb':b ∈ ns.filter fun x=>!frB (fN c g) ns x:=(q3 b).1 (List.mem_flatten.2 ⟨k,hk,hb⟩)
    obtain ⟨b1,b2⟩:=List.mem_filter.1 hb'
    have hnf:¬ (∀ k ∈ ns,¬ fN c g k b < 0):=fun h=>by
     rw [(hfree b).2 h] at b2; cases b2
    obtain ⟨k2,hk2⟩:=Classical.not_forall.1 hnf
    obtain ⟨hk3,hk4⟩:=Classical.not_imp.1 hk2
    have hk5:fN c g k2 b < 0:=Classical.not_not.1 hk4
    have e1:=(hfree a).1 a2 k2 hk3
    have e2:=hw.s a k2
    have e3:=hw.v k2 b
    have e4:=hw.v a k2
    have:=hw.t a k2 b (by omega) (by omega)
    omega
   ·rw [List.flatten_cons,List.mem_append,q3,List.mem_filter,List.mem_filter]
    cases frB (fN c g) ns x <;> simp
theorem AAq (ns:List Nat) (ha:ns.Pairwise fun a b=>a < b) (hns:∀ x ∈ ns,x < g.length) (hl:ns.length<=1000):∃ L,He c g (toG ns)=some (toI L)/\GL (fN c g) pI L/\∀ x,x ∈ L.flatten↔x ∈ ns:=by
 obtain ⟨L,h1,h2,h3⟩:=AD5 hc hv hg ns.length ns 100000 [] (Nat.le_refl _) (by omega) hl (by simp; omega) hns ha
 refine ⟨L,?_,h2,h3⟩
 unfold He
 have h1':D6 c g 100000 (toG ns) []=some (.inl (toI L)):=by simpa [toI] using h1
 rw [h1']; rfl
end
theorem AFF (n:Nat) (hn:n<=1000):LI (n:Int)=some (toG (List.range n)):=by
 have h:=PJ (σ:=List Int) n (fun k=>toG (List.range k)) (some (toG (List.range n))) (fun f c' s=>Eg (n:Int) f s c') (by omega) (fun k hk f=>by
  show Eg (n:Int) (f + 1) (toG (List.range k)) (k:Int)=_
  conv=>lhs; unfold Eg
  rw [if_pos (by simp; omega),if_pos (FI (by omega) (by rw [EF]; simp; omega))]
  show _=Eg (n:Int) f (toG (List.range (k + 1))) _
  rw [List.range_succ,OK]; rfl) (fun f=>by
  show Eg (n:Int) (f + 1) (toG (List.range n)) (n:Int)=_
  conv=>lhs; unfold Eg
  rw [if_neg (by simp)])
 unfold LI
 have h':Eg (n:Int) 100000 [] 0=some (toG (List.range n)):=h
 rw [h']; rfl
section
variable {c:List AH}{g:List Af}(hc:few c) (hv:(Ts c).2=0) (hg:FewR g)
include hc hv hg
/-- The groups of both sides are the same. -/
theorem Yo (hn:g.length<=20):∃ L,Dc c g=some (toI L)/\Gz c g=some (toI L)/\GL (fN c g) pI L/\∀ x,x ∈ L.flatten↔x < g.length:=by
 obtain ⟨L,h1,h2,h3⟩:=ACx hc hv hg hn
 obtain ⟨M,k1,k2,k3⟩:=AAq hc hv hg (List.range g.length) List.pairwise_lt_range (fun x hx=>List.mem_range.1 hx) (by simp; omega)
 have hLM:L=M:=Vi (AEi g (Kn hv).2).s L M h2 k2 fun x=>by rw [h3,k3,List.mem_range]
 refine ⟨L,h1,?_,h2,h3⟩
 unfold Gz
 rw [AFF g.length (by omega),OS,k1,hLM]; rfl
end
/-- All of a group get a number. -/
def Pd (j:Int) (gr:List Nat) (s:List Int):List Int:=gr.foldl (fun s x=>s.set x j) s
theorem SO (j:Int):∀ (gr:List Nat) (s:List Int),(Pd j gr s).length=s.length
 | [],_=>rfl
 | x::gr,s=>by
  show (Pd j gr (s.set x j)).length=_
  rw [SO j gr]; simp
theorem XR (j:Int){y:Nat}:∀ (gr:List Nat) (s:List Int),y ∉ gr->(Pd j gr s)[y]? = s[y]?
 | [],_,_=>rfl
 | x::gr,s,h=>by
  show (Pd j gr (s.set x j))[y]? = _
  have h1:¬ x=y:=fun e=>h (by rw [e]; simp)
  rw [XR j gr _ (fun hm=>h (List.mem_cons_of_mem _ hm)),List.getElem?_set,if_neg h1]
theorem YA (j:Int){y:Nat}:∀ (gr:List Nat) (s:List Int),y ∈ gr->y < s.length->(Pd j gr s)[y]? = some j
 | x::gr,s,h,hy=>by
  show (Pd j gr (s.set x j))[y]? = _
  by_cases hm:y ∈ gr
  ·exact YA j gr _ hm (by simpa using hy)
  ·rw [XR j gr _ hm]
   have e:y=x:=by rcases List.mem_cons.1 h with e | e; exact e; exact absurd e hm
   subst e
   rw [List.getElem?_set,if_pos rfl,if_pos hy]
/-- A list tells each one's group. -/
def Sp (L:List (List Nat)) (n k:Nat) (s:List Int):Prop:=s.length=n/\∀ j,j < k->∀ (gr:List Nat),L[j]? = some gr->∀ x ∈ gr,s[x]? = some (j:Int)
section
variable {f:Nat->Nat->Int}(hs:∀ a b,f a b = - f b a){L:List (List Nat)}(hL:GL f pI L)
include hs hL
theorem GL.disj {i j:Nat}{a b:List Nat}(hi:L[i]? = some a) (hj:L[j]? = some b){x:Nat}(ha:x ∈ a) (hb:x ∈ b):i=j:=by
 have key:∀ {i j:Nat} {a b:List Nat},i < j->L[i]? = some a->L[j]? = some b->x ∈ a->x ∈ b->False:=fun {i j a b} hij hi hj ha hb=>by
  obtain ⟨i1,i2⟩:=List.getElem?_eq_some_iff.1 hi
  obtain ⟨j1,j2⟩:=List.getElem?_eq_some_iff.1 hj
  have:=List.pairwise_iff_getElem.1 hL.lt i j i1 j1 hij x (i2 ▸ ha) x (j2 ▸ hb)
  have:=hs x x
  omega
 rcases Nat.lt_trichotomy i j with h | h | h
 ·exact (key h hi hj ha hb).elim
 ·exact h
 ·exact (key h hj hi hb ha).elim
theorem Xm {n k:Nat}{s:List Int}{gr:List Nat}(h:Sp L n k s) (hk:L[k]? = some gr) (hb:∀ x ∈ gr,x < n):Sp L n (k + 1) (Pd (k:Int) gr s):=by
 refine ⟨by rw [SO]; exact h.1,fun j hj g2 hg2 x hx=>?_⟩
 by_cases e:j=k
 ·subst e
  rw [hk] at hg2
  have:=OI hg2
  subst this
  exact YA _ _ _ hx (by rw [h.1]; exact hb x hx)
 ·have hn:x ∉ gr:=fun hm=>e (hL.disj hs hg2 hk hx hm)
  rw [XR _ _ _ hn]
  exact h.2 j (by omega) g2 hg2 x hx
theorem YX {n:Nat}{s t:List Int}(hall:∀ x,x ∈ L.flatten↔x < n) (h1:Sp L n L.length s) (h2:Sp L n L.length t):s=t:=by
 have _:=hs; have _:=hL
 apply List.ext_getElem?
 intro x
 by_cases hx:x < n
 ·obtain ⟨gr,hg,hxg⟩:=List.mem_flatten.1 ((hall x).2 hx)
  obtain ⟨j,hj,e⟩:=List.getElem_of_mem hg
  have hj':L[j]? = some gr:=by rw [List.getElem?_eq_getElem hj,e]
  rw [h1.2 j hj gr hj' x hxg,h2.2 j hj gr hj' x hxg]
 ·rw [List.getElem?_eq_none (by rw [h1.1]; omega),List.getElem?_eq_none (by rw [h2.1]; omega)]
end
theorem Wb (L:List (List Nat)) (i:Nat) (h:i < L.length):idx (toI L) (i:Int)=some (toG L[i]):=by
 unfold toI
 rw [O6 (by simpa using h)]; simp
theorem Xt {s:List Int}{x:Nat}(h:x < s.length):∃ v,idx s (pI x)=some v:=⟨s[x],O6 h⟩
/-- The inner loops that give a group its number. -/
theorem ADj (gr:List Nat) (j:Int) (s:List Int) (hb:∀ x ∈ gr,x < s.length) (hl:gr.length<=1000):DS j (toG gr) 100000 0 s=some (Pd j gr s):=by
 have h:=PJ (σ:=List Int) gr.length (fun k=>Pd j (gr.take k) s) (some (Pd j gr s)) (fun f c' s=>DS j (toG gr) f c' s) (by omega) (fun k hk f=>by
  show DS j (toG gr) (f + 1) (k:Int) (Pd j (gr.take k) s)=_
  conv=>lhs; unfold DS
  obtain ⟨v,hv⟩:=Xt (s:=Pd j (gr.take k) s) (x:=gr[k]) (by rw [SO]; exact hb _ (List.getElem_mem hk))
  rw [if_pos (by rw [EF]; simp; omega),Uh gr k hk,OS,hv,OS]
  have e:Pd j (gr.take (k + 1)) s=(Pd j (gr.take k) s).set gr[k] j:=by
   unfold Pd
   rw [List.take_succ_eq_append_getElem hk,List.foldl_append]; rfl
  show _=DS j (toG gr) f _ (Pd j (gr.take (k + 1)) s)
  rw [e,show (pI gr[k]).toNat=gr[k] from Int.toNat_natCast _]) (fun f=>by
  show DS j (toG gr) (f + 1) (gr.length:Int) (Pd j (gr.take gr.length) s)=_
  conv=>lhs; unfold DS
  rw [if_neg (by rw [EF]; simp),List.take_length])
 exact h
section
theorem P8:∀ {l m:List Nat},l.Nodup->(∀ x ∈ l,x ∈ m)->l.length<=m.length
 | [],_,_,_=>Nat.zero_le _
 | x::l,m,h,s=>by
  obtain ⟨h1,h2⟩:=List.nodup_cons.1 h
  have hx:=s x (by simp)
  have:=P8 (l:=l) (m:=m.erase x) h2 fun y hy=>(List.mem_erase_of_ne (fun e:y=x=>h1 (e ▸ hy))).2 (s y (List.mem_cons_of_mem _ hy))
  rw [List.length_erase_of_mem hx] at this
  have:0 < m.length:=List.length_pos_of_mem hx
  simp; omega
variable {c:List AH}{g:List Af}(hc:few c) (hv:(Ts c).2=0) (hg:FewR g) (hn:g.length<=20){L:List (List Nat)}(hL:GL (fN c g) pI L) (hall:∀ x,x ∈ L.flatten↔x < g.length)
include hL hall
theorem Sk {gr:List Nat}(h:gr ∈ L):∀ x ∈ gr,x < g.length:=have _:=hL; fun x hx=>(hall x).1 (List.mem_flatten.2 ⟨gr,h,hx⟩)
theorem W7 {gr:List Nat}(h:gr ∈ L):gr.length<=g.length:=by
 have hnd:gr.Nodup:=(hL.tie gr h).imp fun h e=>by subst e; exact absurd h (Int.lt_irrefl _)
 have:=P8 hnd (m:=List.range g.length) fun x hx=>List.mem_range.2 (Sk hL hall h x hx)
 simpa using this
theorem Yh (hs:∀ a b,fN c g a b = - fN c g b a):L.flatten.Nodup:=by
 have _:=hall
 refine List.pairwise_flatten.2 ⟨fun gr h=>(hL.tie gr h).imp fun h e=>by subst e; exact absurd h (Int.lt_irrefl _),hL.lt.imp fun h a ha b hb e=>?_⟩
 subst e
 have:=h a ha a hb
 have:=hs a a
 omega
theorem V0 (hs:∀ a b,fN c g a b = - fN c g b a):L.flatten.length=g.length:=by
 have h1:=P8 (Yh hL hall hs) (m:=List.range g.length) fun x hx=>List.mem_range.2 ((hall x).1 hx)
 have h2:=P8 (List.nodup_range (n:=g.length)) (m:=L.flatten) fun x hx=>(hall x).2 (List.mem_range.1 hx)
 simp at h1 h2 ⊢
 omega
theorem Zq (hs:∀ a b,fN c g a b = - fN c g b a):L.length<=g.length:=by
 have h1:=V0 hL hall hs
 have:∀ M:List (List Nat),(∀ gr ∈ M,gr≠[])->M.length<=M.flatten.length:=fun M hM=>by
  induction M with
  | nil=>simp
  | cons a M ih =>
   have:=ih fun gr h=>hM gr (List.mem_cons_of_mem _ h)
   have:=List.length_pos_iff.2 (hM a (by simp))
   simp only [List.flatten_cons,List.length_append,List.length_cons]
   omega
 have:=this L hL.ne
 omega
include hn
theorem AAY (hs:∀ a b,fN c g a b = - fN c g b a):∃ s,EW g (toI L) 100000 0 []=some s/\Sp L g.length L.length s:=by
 have hnl:=Zq hL hall hs
 by_cases h0:L.length=0
 ·have:L=[]:=List.eq_nil_of_length_eq_zero h0
  subst this
  have hg0:g.length=0:=by
   rcases Nat.eq_zero_or_pos g.length with h | h
   ·exact h
   ·have:=(hall 0).2 h; simp at this
  refine ⟨[],?_,by simp [hg0],fun j hj=>by simp at hj⟩
  unfold EW
  rw [if_neg (by simp [toI])]
 ·have go:∀ (d k fu:Nat) (s:List Int),k + d=L.length->d < fu->(if k=0 then s=[] else Sp L g.length k s)->∃ t,EW g (toI L) fu (k:Int) s=some t/\Sp L g.length L.length t:=by
   intro d
   induction d with
   | zero =>
    intro k fu s hk hf h
    obtain ⟨fu,rfl⟩:∃ q,fu=q + 1:=⟨fu - 1,by omega⟩
    rw [if_neg (by omega)] at h
    refine ⟨s,?_,by rw [show k=L.length by omega] at h; exact h⟩
    unfold EW
    rw [if_neg (by rw [IA]; simp; omega)]
   | succ d ih =>
    intro k fu s hk hf h
    obtain ⟨fu,rfl⟩:∃ q,fu=q + 1:=⟨fu - 1,by omega⟩
    have hkl:k < L.length:=by omega
    have hgm:L[k] ∈ L:=List.getElem_mem hkl
    have hgk:L[k]? = some L[k]:=List.getElem?_eq_getElem hkl
    obtain ⟨s',e1,e2⟩:∃ s',Hx g (k:Int) s=some s'/\Sp L g.length k s':=by
     unfold Hx
     by_cases hk0:k=0
     ·subst hk0
      refine ⟨_,by rw [if_pos (by rfl),if_pos (by simp [Y3]; omega)],by simp,fun j hj=>by omega⟩
     ·rw [if_neg hk0] at h
      exact ⟨s,by rw [if_neg (by simp; omega)],h⟩
    have e3:DS (k:Int) (toG L[k]) 100000 0 s'=some (Pd (k:Int) L[k] s'):=ADj L[k] (k:Int) s' (fun x hx=>by rw [e2.1]; exact Sk hL hall hgm x hx) (by have:=W7 hL hall hgm; omega)
    obtain ⟨t,t1,t2⟩:=ih (k + 1) fu (Pd (k:Int) L[k] s') (by omega) (by omega) (by rw [if_neg (by omega)]; exact Xm hs hL e2 hgk (Sk hL hall hgm))
    refine ⟨t,?_,t2⟩
    unfold EW
    rw [if_pos (by rw [IA]; simp; omega),Wb L k hkl,OS,e1,OS,e3,OS,YK (by omega) (by omega),show ((k:Int) + 1)=((k + 1:Nat):Int) by omega]
    exact t1
  exact go L.length 0 100000 [] (by omega) (by omega) rfl
end
/-- A line out of groups of one. -/
def lnE (L:List (List Nat)):Bool:=L.all fun gr=>gr.length==1
theorem AEH (L:List (List Nat)) (hne:∀ gr ∈ L,gr≠[]) (hl:L.length<=1000) (hf:L.flatten.length<=1000):I2 (toI L)=some (if lnE L=true then (toG L.flatten,0) else ([],32)):=by
 have go:∀ (r pre:List (List Nat)) (fu:Nat),L=pre++r->r.length < fu->Fz (toI L) fu (pre.length:Int) (toG pre.flatten)=some (if lnE r=true then .inl (toG L.flatten) else .inr ()):=by
  intro r
  induction r with
  | nil =>
   intro pre fu e hfu
   obtain ⟨fu,rfl⟩:∃ q,fu=q + 1:=⟨fu - 1,by simp at hfu; omega⟩
   unfold Fz
   rw [if_neg (by rw [e,IA]; simp),e]; simp [lnE]
  | cons gr r ih =>
   intro pre fu e hfu
   obtain ⟨fu,rfl⟩:∃ q,fu=q + 1:=⟨fu - 1,by simp at hfu; omega⟩
   simp only [List.length_cons] at hfu
   have hlen:L.length=pre.length + r.length + 1:=by rw [e]; simp; omega
   have hi:idx (toI L) (pre.length:Int)=some (toG gr):=by
    rw [Wb L pre.length (by omega)]
    have:L[pre.length]'(by omega)=gr:=by simp [e]
    rw [this]
   have hgr:=List.length_pos_iff.2 (hne gr (by rw [e]; simp))
   have hfl:L.flatten.length=pre.flatten.length + (gr.length + r.flatten.length):=by rw [e]; simp only [List.flatten_append,List.flatten_cons,List.length_append]
   unfold Fz
   rw [if_pos (by rw [IA]; simp; omega),hi,OS]
   by_cases h1:gr.length=1
   ·rw [if_neg (by rw [EF]; simp; omega),if_pos (FI (by omega) (by rw [EF,EF]; omega)),YK (by omega) (by omega),show ((pre.length:Int) + 1)=(((pre++[gr]).length:Nat):Int) by simp,<-OK]
    have e2:pre.flatten++gr=(pre++[gr]).flatten:=by simp
    rw [e2,ih (pre++[gr]) fu (by rw [e]; simp) (by omega)]
    have:lnE (gr::r)=lnE r:=by simp [lnE,h1]
    rw [this]
   ·rw [if_pos (by rw [EF]; simp; omega)]
    have:lnE (gr::r)=false:=by simp [lnE,h1]
    rw [this]; rfl
 have h:=go L [] 100000 rfl (by omega)
 have h':Fz (toI L) 100000 0 []=some (if lnE L=true then .inl (toG L.flatten) else .inr ()):=h
 unfold I2
 rw [h']
 cases lnE L <;> rfl
/-- The clause that decides between two places. -/
def ri (c:List AH) (g:List Af) (x y:Nat):Int:=(X8 c (gAt g x) (gAt g y) (x:Int) (y:Int)).1
section
variable {c:List AH}{g:List Af}(hc:few c) (hv:(Ts c).2=0) (hg:FewR g)
include hc hv hg
theorem SL {x y:Nat}(_hx:x < 64) (_hy:y < 64):(ri c g x y = -1/\cm c g x y=0)\/∃ m:Nat,ri c g x y=(m:Int)/\m < c.length/\cm (c.take m) g x y=0/\cm (c.take (m + 1)) g x y≠0:=by
 have _ := hc; have _ := hv; have _ := hg
 rcases AC2 c (gAt g x) (gAt g y) (x:Int) (y:Int) with h | ⟨m,h1,h2,h3,h4,h5⟩
 ·left
  unfold ri cm Pc
  rw [h]; exact ⟨rfl,rfl⟩
 ·right
  refine ⟨m,by unfold ri; rw [h1],h2,h3,?_⟩
  show Pc (c.take (m + 1)) _ _ _ _≠0
  rw [h4]; exact h5
theorem JS {m q:Nat}(h:m<=q){x y:Nat}(h0:cm (c.take m) g x y≠0):cm (c.take q) g x y≠0:=by
 have _ := hc; have _ := hv; have _ := hg
 have e:c.take q=c.take m++(c.take q).drop m:=by
  have:(c.take q).take m=c.take m:=by rw [List.take_take,Nat.min_eq_left h]
  rw [<-this,List.take_append_drop]
 rw [e]
 unfold cm at h0 ⊢
 rw [Wu,if_neg h0]
 exact h0
theorem AET {x y:Nat}(hx:x < 64) (hy:y < 64):ri c g x y=ri c g y x:=by
 have hgd:=(Kn hv).2
 have anti:∀ m,cm (c.take m) g x y = - cm (c.take m) g y x:=fun m=>AEq (Yi c m hgd) hx hy
 have anti0:=AEq (g:=g) hgd hx hy
 rcases SL hc hv hg hx hy with ⟨a1,a2⟩ | ⟨m,a1,a2,a3,a4⟩ <;> rcases SL hc hv hg hy hx with ⟨b1,b2⟩ | ⟨q,b1,b2,b3,b4⟩
 ·rw [a1,b1]
 ·exfalso
  have h1:=JS hc hv hg (show q + 1<=c.length by omega) b4
  rw [List.take_length] at h1
  omega
 ·exfalso
  have h1:=JS hc hv hg (show m + 1<=c.length by omega) a4
  rw [List.take_length] at h1
  omega
 ·rw [a1,b1]
  rcases Nat.lt_trichotomy m q with h | h | h
  ·exfalso
   have h1:=JS hc hv hg (show m + 1<=q by omega) a4
   have:=anti q
   omega
  ·rw [h]
  ·exfalso
   have h1:=JS hc hv hg (show q + 1<=m by omega) b4
   have:=anti m
   omega
theorem AC1 {x:Nat}(hx:x < 64):ri c g x x = -1:=by
 have h0:=AFx (g:=g) (Kn hv).2 hx
 rcases SL hc hv hg hx hx with ⟨a1,_⟩ | ⟨m,a1,a2,a3,a4⟩
 ·exact a1
 ·exfalso
  have h1:=JS hc hv hg (show m + 1<=c.length by omega) a4
  rw [List.take_length] at h1
  exact h1 h0
theorem AES {x y:Nat}(hx:x < 64) (hy:y < 64):ri c g x y = -1\/∃ m:Nat,ri c g x y=(m:Int)/\m < c.length:=by
 rcases SL hc hv hg hx hy with ⟨a1,_⟩ | ⟨m,a1,a2,_⟩
 ·exact .inl a1
 ·exact .inr ⟨m,a1,a2⟩
theorem AAn {x y:Nat}(hx:x < g.length) (hy:y < g.length):As c (gAt g x,(x:Int)) (gAt g y,(y:Int))=some (ri c g x y,cm c g x y) :=
 ZV c (gAt g x) (gAt g y) x y hc (PZ hv) (hg.at_ hx) (hg.at_ hy)
open Classical in
/-- Marks of those of which something holds. -/
noncomputable def mkL (n:Nat) (P:Nat->Prop):List Bool:=(List.range n).map fun k=>decide (P k)
end
theorem XH (n:Nat) (P:Nat->Prop):(mkL n P).length=n:=by simp [mkL]
section
variable {c:List AH}{g:List Af}(hc:few c) (hv:(Ts c).2=0) (hg:FewR g)
include hc hv hg
end
theorem ABh {n k:Nat}{P:Nat->Prop}(h:k < n):∃ b,idx (mkL n P) (k:Int)=some b/\(b=true↔P k):=by
 classical
 refine ⟨decide (P k),?_,by simp⟩
 rw [O6 (by rw [XH]; exact h)]; simp [mkL]
section
variable {c:List AH}{g:List Af}(hc:few c) (hv:(Ts c).2=0) (hg:FewR g)
include hc hv hg
end
theorem ACk {n k:Nat}{P Q:Nat->Prop}(hk:Q k) (hn:∀ z,z≠k->(Q z↔P z)):(mkL n P).set k true=mkL n Q:=by
 classical
 exact ACi n _ _ k true (by simp [hk]) fun z hz=>by simp [hn z hz]
section
variable {c:List AH}{g:List Af}(hc:few c) (hv:(Ts c).2=0) (hg:FewR g)
include hc hv hg
end
theorem Sw {n:Nat}{P Q:Nat->Prop}(h:∀ z,z < n->(P z↔Q z)):mkL n P=mkL n Q:=by
 classical
 unfold mkL
 refine List.map_congr_left fun z hz=>?_
 simp [h z (List.mem_range.1 hz)]
section
variable {c:List AH}{g:List Af}(hc:few c) (hv:(Ts c).2=0) (hg:FewR g)
include hc hv hg
def dIn (c:List AH) (g:List Af) (i j:Nat) (k:Nat):Prop:=(∃ x y,y < x/\x < i/\ri c g x y=(k:Int))\/∃ y,y < j/\ri c g i y=(k:Int)
theorem ADo (i:Nat) (hi:i < g.length):C4 (c,true) (FG g 0) (i:Int) 100000 (mkL c.length (dIn c g i 0)) 0=some (mkL c.length (dIn c g i i)):=by
 have hn:=hg.n
 refine PJ (σ:=List Bool) i (fun j=>mkL c.length (dIn c g i j)) (some (mkL c.length (dIn c g i i))) (fun f c' s=>C4 (c,true) (FG g 0) (i:Int) f s c') (by omega) (fun j hj f=>?_) (fun f=>?_)
 ·show C4 (c,true) (FG g 0) (i:Int) (f + 1) (mkL c.length (dIn c g i j)) (j:Int)=_
  conv=>lhs; unfold C4
  have key:Gb (c,true) (FG g 0) (i:Int) (mkL c.length (dIn c g i j)) (j:Int) (ri c g i j,cm c g i j)=some (mkL c.length (dIn c g i (j + 1))):=by
   unfold Gb
   rcases AES hc hv hg (show i < 64 by omega) (show j < 64 by omega) with h | ⟨m,h,hm⟩
   ·rw [h,if_neg (by simp)]
    refine congrArg some (Sw fun z _=>?_)
    unfold dIn
    refine or_congr Iff.rfl ⟨fun ⟨y,h1,h2⟩=>⟨y,by omega,h2⟩,fun ⟨y,h1,h2⟩=>⟨y,?_,h2⟩⟩
    by_cases e:y=j
    ·subst e; rw [h] at h2; omega
    ·omega
   ·obtain ⟨b,hb,_⟩:=ABh (P:=dIn c g i j) hm
    rw [h,if_pos (by simp <;> omega),hb,OS,Int.toNat_natCast]
    refine congrArg some (ACk (.inr ⟨j,by omega,h⟩) fun z hz=>?_)
    unfold dIn
    refine or_congr Iff.rfl ⟨fun ⟨y,h1,h2⟩=>⟨y,?_,h2⟩,fun ⟨y,h1,h2⟩=>⟨y,by omega,h2⟩⟩
    by_cases e:y=j
    ·subst e; rw [h] at h2; omega
    ·omega
  rw [if_pos (by simp; omega),WG g hi,OS,WG g (by omega),OS,AAn hc hv hg hi (by omega),OS,key,OS]
 ·show C4 (c,true) (FG g 0) (i:Int) (f + 1) (mkL c.length (dIn c g i i)) (i:Int)=_
  conv=>lhs; unfold C4
  rw [if_neg (by simp)]
def YZ (c:List AH) (g:List Af) (i:Nat) (k:Nat):Prop:=∃ x y,y < x/\x < i/\ri c g x y=(k:Int)
theorem AB9:C3 (c,true) (FG g 0) 100000 (mkL c.length (YZ c g 0)) 0=some (mkL c.length (YZ c g g.length)):=by
 have hn:=hg.n
 refine PJ (σ:=List Bool) g.length (fun i=>mkL c.length (YZ c g i)) (some (mkL c.length (YZ c g g.length))) (fun f c' s=>C3 (c,true) (FG g 0) f s c') (by omega) (fun i hi f=>?_) (fun f=>?_)
 ·show C3 (c,true) (FG g 0) (f + 1) (mkL c.length (YZ c g i)) (i:Int)=_
  conv=>lhs; unfold C3
  have e0:mkL c.length (YZ c g i)=mkL c.length (dIn c g i 0):=Sw fun z _=>by
   unfold YZ dIn
   constructor
   ·exact .inl
   ·rintro (h | ⟨y,h1,_⟩)
    ·exact h
    ·omega
  have e1:mkL c.length (dIn c g i i)=mkL c.length (YZ c g (i + 1)):=Sw fun z _=>by
   unfold YZ dIn
   constructor
   ·rintro (⟨x,y,h1,h2,h3⟩ | ⟨y,h1,h2⟩)
    ·exact ⟨x,y,h1,by omega,h3⟩
    ·exact ⟨i,y,h1,by omega,h2⟩
   ·rintro ⟨x,y,h1,h2,h3⟩
    by_cases e:x=i
    ·subst e; exact .inr ⟨y,h1,h3⟩
    ·exact .inl ⟨x,y,h1,by omega,h3⟩
  rw [if_pos (by rw [OZ]; simp; omega),e0,ADo hc hv hg i hi,OS,e1]
 ·show C3 (c,true) (FG g 0) (f + 1) (mkL c.length (YZ c g g.length)) (g.length:Int)=_
  conv=>lhs; unfold C3
  rw [if_neg (by rw [OZ]; simp)]
open Classical in
noncomputable def Q8 (n:Nat) (P:Nat->Prop):List Nat:=(List.range n).filter fun k=>decide (P k)
end
theorem QL (n:Nat) (P:Nat->Prop):(P n->Q8 (n + 1) P=Q8 n P++[n])/\(¬ P n->Q8 (n + 1) P=Q8 n P):=by
 classical
 unfold Q8
 rw [List.range_succ,List.filter_append]
 exact ⟨fun h=>by simp [h],fun h=>by simp [h]⟩
section
variable {c:List AH}{g:List Af}(hc:few c) (hv:(Ts c).2=0) (hg:FewR g)
include hc hv hg
end
theorem XQ (n:Nat) (P:Nat->Prop):(Q8 n P).length<=n:=by
 have:=List.length_filter_le (fun k=>@decide (P k) (Classical.propDecidable _)) (List.range n)
 simpa [Q8] using this
section
variable {c:List AH}{g:List Af}(hc:few c) (hv:(Ts c).2=0) (hg:FewR g)
include hc hv hg
end
theorem Yw {n:Nat}{P Q:Nat->Prop}(h:∀ z,z < n->(P z↔Q z)):Q8 n P=Q8 n Q:=by
 classical
 unfold Q8
 exact List.filter_congr fun z hz=>by simp [h z (List.mem_range.1 hz)]
section
variable {c:List AH}{g:List Af}(hc:few c) (hv:(Ts c).2=0) (hg:FewR g)
include hc hv hg
end
theorem ACA (n:Nat) (hn:n<=1000) (P:Nat->Prop):C5 (mkL n P) 100000 [] 0=some (toG (Q8 n P)):=by
 have h:=PJ (σ:=List Int) n (fun k=>toG (Q8 k P)) (some (toG (Q8 n P))) (fun f c' s=>C5 (mkL n P) f s c') (by omega) (fun k hk f=>by
  show C5 (mkL n P) (f + 1) (toG (Q8 k P)) (k:Int)=_
  conv=>lhs; unfold C5
  obtain ⟨b,hb,hP⟩:=ABh (P:=P) hk
  have hle:=XQ k P
  have e:Gc (mkL n P) (toG (Q8 k P)) (k:Int) b=some (toG (Q8 (k + 1) P)):=by
   unfold Gc
   cases b with
   | true =>
    rw [if_pos rfl,if_pos (FI (by omega) (by rw [EF]; omega)),(QL k P).1 (hP.1 rfl),OK]; rfl
   | false =>
    rw [if_neg (by simp),(QL k P).2 (fun h=>by have:=hP.2 h; cases this)]
  rw [if_pos (by rw [XH]; simp; omega),hb,OS,e,OS]) (fun f=>by
  show C5 (mkL n P) (f + 1) (toG (Q8 n P)) (n:Int)=_
  conv=>lhs; unfold C5
  rw [if_neg (by rw [XH]; simp)])
 exact h
section
variable {c:List AH}{g:List Af}(hc:few c) (hv:(Ts c).2=0) (hg:FewR g)
include hc hv hg
theorem Ya:DT c g=some (toG (Q8 c.length (YZ c g g.length))):=by
 have hn:=hg.n
 have hcl:=hc.1
 have e0:List.replicate (c.length:Int).toNat false=mkL c.length (YZ c g 0):=by
  classical
  apply List.ext_getElem
  ·simp [mkL]
  ·intro i h1 h2
   simp [mkL,YZ]
 unfold DT
 rw [OY c hc,if_pos hv,OS,if_neg (by simp),OS,if_neg (by simp; omega),ABf g (by omega),OS,if_pos (by simp [Y3]; omega),e0,AB9 hc hv hg,OS,ACA c.length (by omega)]; rfl
/-- .. of the reference. -/
theorem Zv {x y:Nat}(hx:x < g.length) (hy:y < g.length):F5 c (gAt g x) (gAt g y) (x:Int) (y:Int)=some (ri c g x y,cm c g x y) :=
 have _:=hv; X7 c (gAt g x) (gAt g y) x y hc (hg.at_ hx) (hg.at_ hy)
open Classical in
/-- A statement as a bit. -/
noncomputable def dB (p:Prop):Bool:=decide p
end
theorem Vs {p:Prop}:dB p=true↔p:=by simp [dB]
section
variable {c:List AH}{g:List Af}(hc:few c) (hv:(Ts c).2=0) (hg:FewR g)
include hc hv hg
end
theorem ADn {p:Prop}{b:Bool}(h:b=true↔p):dB p=b:=by rw [Bool.eq_iff_iff,Vs,h]
section
variable {c:List AH}{g:List Af}(hc:few c) (hv:(Ts c).2=0) (hg:FewR g)
include hc hv hg
theorem ADs (k i:Nat) (hi:i < g.length) (b0:Bool):∃ b,Cp c g (k:Int) (i:Int) 100000 b0 0=some b/\(b=true↔b0=true\/∃ y,y < g.length/\ri c g i y=(k:Int)):=by
 have hn:=hg.n
 refine ⟨dB (b0=true\/∃ y,y < g.length/\ri c g i y=(k:Int)),?_,Vs⟩
 have h0:dB (b0=true\/∃ y,y < 0/\ri c g i y=(k:Int))=b0:=ADn (by simp)
 have h:=PJ (σ:=Bool) g.length (fun j=>dB (b0=true\/∃ y,y < j/\ri c g i y=(k:Int))) (some (dB (b0=true\/∃ y,y < g.length/\ri c g i y=(k:Int)))) (fun f c' s=>Cp c g (k:Int) (i:Int) f s c') (by omega) (fun j hj f=>by
  show Cp c g (k:Int) (i:Int) (f + 1) (dB (b0=true\/∃ y,y < j/\ri c g i y=(k:Int))) (j:Int)=_
  conv=>lhs; unfold Cp
  have e:(if dB (b0=true\/∃ y,y < j/\ri c g i y=(k:Int))=true then some true else some ((ri c g i j,cm c g i j).1==(k:Int)):Option Bool)=some (dB (b0=true\/∃ y,y < j + 1/\ri c g i y=(k:Int))):=by
   by_cases h1:b0=true\/∃ y,y < j/\ri c g i y=(k:Int)
   ·rw [if_pos (Vs.2 h1)]
    exact congrArg some (Vs.2 (h1.imp id fun ⟨y,a,b⟩=>⟨y,by omega,b⟩)).symm
   ·rw [if_neg fun h=>h1 (Vs.1 h)]
    refine congrArg some (ADn ?_).symm
    rw [beq_iff_eq]
    constructor
    ·intro h; exact .inr ⟨j,by omega,h⟩
    ·rintro (h | ⟨y,a,b⟩)
     ·exact absurd (.inl h) h1
     ·by_cases e:y=j
      ·subst e; exact b
      ·exact absurd (.inr ⟨y,by omega,b⟩) h1
  rw [if_pos (by simp; omega),AAr g hi,OS,AAr g hj,OS,Zv hc hv hg hi hj,OS,e,OS]) (fun f=>by
  show Cp c g (k:Int) (i:Int) (f + 1) (dB (b0=true\/∃ y,y < g.length/\ri c g i y=(k:Int))) (g.length:Int)=_
  conv=>lhs; unfold Cp
  rw [if_neg (by simp)])
 have h':Cp c g (k:Int) (i:Int) 100000 (dB (b0=true\/∃ y,y < 0/\ri c g i y=(k:Int))) 0=some (dB (b0=true\/∃ y,y < g.length/\ri c g i y=(k:Int))):=h
 rwa [h0] at h'
def YY (c:List AH) (g:List Af) (k:Nat):Prop:=∃ x y,x < g.length/\y < g.length/\ri c g x y=(k:Int)
theorem ADr (k:Nat):∃ b,DZ c g (k:Int) 100000 false 0=some b/\(b=true↔YY c g k):=by
 classical
 have hn:=hg.n
 have go:∀ (d i fu:Nat) (b0:Bool),i + d=g.length->d < fu->(b0=true↔∃ x y,x < i/\y < g.length/\ri c g x y=(k:Int))->∃ b,DZ c g (k:Int) fu b0 (i:Int)=some b/\(b=true↔YY c g k):=by
  intro d
  induction d with
  | zero =>
   intro i fu b0 hi hf hb
   obtain ⟨fu,rfl⟩:∃ q,fu=q + 1:=⟨fu - 1,by omega⟩
   refine ⟨b0,?_,?_⟩
   ·unfold DZ
    rw [if_neg (by simp; omega),OS,if_neg (by simp)]
   ·rw [hb,show i=g.length by omega]
    exact ⟨fun ⟨x,y,a,b,e⟩=>⟨x,y,a,b,e⟩,fun ⟨x,y,a,b,e⟩=>⟨x,y,a,b,e⟩⟩
  | succ d ih =>
   intro i fu b0 hi hf hb
   obtain ⟨fu,rfl⟩:∃ q,fu=q + 1:=⟨fu - 1,by omega⟩
   have hil:i < g.length:=by omega
   cases b0 with
   | true =>
    refine ⟨true,?_,?_⟩
    ·unfold DZ
     rw [if_pos (by simp; omega),OS,if_neg (by simp)]
    ·obtain ⟨x,y,a,b,e⟩:=hb.1 rfl
     exact ⟨fun _=>⟨x,y,by omega,b,e⟩,fun _=>rfl⟩
   | false =>
    obtain ⟨b1,e1,e2⟩:=ADs hc hv hg k i hil false
    obtain ⟨b2,q1,q2⟩:=ih (i + 1) fu b1 (by omega) (by omega) (by
     rw [e2]
     constructor
     ·rintro (h | ⟨y,a,b⟩)
      ·cases h
      ·exact ⟨i,y,by omega,a,b⟩
     ·rintro ⟨x,y,a,b,e⟩
      by_cases hx:x=i
      ·subst hx; exact .inr ⟨y,b,e⟩
      ·have:=hb.2 ⟨x,y,by omega,b,e⟩; cases this)
    refine ⟨b2,?_,q2⟩
    unfold DZ
    rw [if_pos (by simp; omega),OS,if_pos (by rfl),e1,OS,YK (by omega) (by omega),show ((i:Int) + 1)=((i + 1:Nat):Int) by omega]
    exact q1
 exact go g.length 0 100000 false (by omega) (by omega) ⟨fun h=>(by cases h),fun ⟨x,y,a,_⟩=>by omega⟩
theorem Yb:FU c g=some (toG (Q8 c.length (YY c g))):=by
 have hcl:=hc.1
 have h:=PJ (σ:=List Int) c.length (fun k=>toG (Q8 k (YY c g))) (some (toG (Q8 c.length (YY c g)))) (fun f c' s=>C8 c g f c' s) (by omega) (fun k hk f=>by
  show C8 c g (f + 1) (k:Int) (toG (Q8 k (YY c g)))=_
  conv=>lhs; unfold C8
  obtain ⟨b,hb,hP⟩:=ADr hc hv hg k
  have hle:=XQ k (YY c g)
  have e:Ge (k:Int) (toG (Q8 k (YY c g))) b=some (toG (Q8 (k + 1) (YY c g))):=by
   unfold Ge
   cases b with
   | true =>
    rw [if_pos rfl,if_pos (FI (by omega) (by rw [EF]; simp; omega)),(QL k _).1 (hP.1 rfl),OK]; rfl
   | false =>
    rw [if_neg (by simp),(QL k _).2 (fun h=>by have:=hP.2 h; cases this)]
  rw [if_pos (by simp; omega),hb,OS,e,OS]) (fun f=>by
  show C8 c g (f + 1) (c.length:Int) (toG (Q8 c.length (YY c g)))=_
  conv=>lhs; unfold C8
  rw [if_neg (by simp)])
 have h':C8 c g 100000 0 []=some (toG (Q8 c.length (YY c g))):=h
 unfold FU
 rw [h']; rfl
theorem Uv:DT c g=some (toG (Q8 c.length (YY c g))):=by
 have hn:=hg.n
 rw [Ya hc hv hg]
 refine congrArg (fun l=>some (toG l)) (Yw fun k _=>⟨fun ⟨x,y,a,b,e⟩=>⟨x,y,b,by omega,e⟩,fun ⟨x,y,a,b,e⟩=>?_⟩)
 rcases Nat.lt_trichotomy x y with h | h | h
 ·exact ⟨y,x,h,b,by rw [AET hc hv hg (by omega) (by omega)]; exact e⟩
 ·subst h
  have:=AC1 hc hv hg (show x < 64 by omega)
  omega
 ·exact ⟨x,y,h,a,e⟩
end
/- trestle/court.Inversions$1 -/
/- slices.IndexFunc[[]int,int] -/
/- slices.ContainsFunc[[]int,int] -/
/- trestle/court.Inversions -/
theorem Wz (xs ys:List Int) (h:xs.length<=99999):DE xs ys=some (decide (xs=ys)):=by
 unfold DE
 exact ADt xs ys h (Ei xs ys) (fun f c=>rfl)
/-- How many stand behind x and below it. -/
def ADf (x:Int) (r:List Int):Nat:=r.countP fun y=>decide (x > y)
section
variable (cl od:List Int)
end
theorem ADw (l:List (List UInt8)) (h:l.length<=99999):Am l=some (l.any fun s=>decide ((s.length:Int) > 40)):=by
 unfold Am A5
 obtain ⟨n,h1,h2⟩:=RN l h EU (fun s=>decide ((s.length:Int) > 40)) (fun x _=>rfl) (BG l) (fun f c=>rfl)
 rw [<-h2]
 exact (congrArg (fun o=>o.bind fun v1=>some (decide (v1≥0))) h1)
/-- Is a guest too long? -/
def WC (g:Af):Bool:=decide ((mxI (mxI (g.1.length:Int) (g.2.1.length:Int)) (g.2.2.1.length:Int)) > 40)||(decide ((g.2.2.2.2.2.2.2.2.length:Int) > 10)||g.2.2.2.2.2.2.2.2.any fun s=>decide ((s.length:Int) > 40))
theorem AFP (g:Af):Dt g=some (WC g):=by
 unfold Dt WC
 by_cases h1:(mxI (mxI (g.1.length:Int) (g.2.1.length:Int)) (g.2.2.1.length:Int)) > 40
 ·simp [h1]
 ·by_cases h2:(g.2.2.2.2.2.2.2.2.length:Int) > 10
  ·simp [h1,h2]
  ·rw [ADw _ (by omega)]
   simp [h1,h2]
theorem AAw {g:Af}(h:WC g=false):Xs g:=by
 unfold WC at h
 simp only [Bool.or_eq_false_iff,decide_eq_false_iff_not] at h
 unfold Xs
 have:=h.2.1
 omega
theorem AAi (g:List Af) (n:Int) (hn:n<=99999):Fe g n=some (decide ((g.length:Int)<=n)&&!g.any WC):=by
 unfold Fe
 by_cases h:(g.length:Int)<=n
 ·rw [if_pos (by simpa using h)]
  have e:Ai g=some (g.any WC):=by
   unfold Ai Ar
   obtain ⟨n,h1,h2⟩:=RN g (by omega) Dt WC (fun x _=>AFP x) (A7 g) (fun f c=>rfl)
   rw [<-h2]
   exact (congrArg (fun o=>o.bind fun v1=>some (decide (v1≥0))) h1)
  rw [e]
  simp [h]
 ·rw [if_neg (by simpa using h)]
  simp [h]
/-- A list that is copied element by element. -/
theorem AFi {α:Type}(xs:List α) (hx:xs.length<=99999) (L:Nat->List α->Int->Option (List α)) (hs:∀ (pre:List α) (v:α) (r:List α),xs=pre++v::r->∀ f,L (f + 1) pre (pre.length:Int)=L f (pre++[v]) (wr .i64 ((pre.length:Int) + 1))) (he:∀ f,L (f + 1) xs (xs.length:Int)=some xs):L 100000 [] 0=some xs:=by
 have go:∀ (r pre:List α) (f:Nat),xs=pre++r->r.length < f->L f pre (pre.length:Int)=some xs:=by
  intro r
  induction r with
  | nil =>
   intro pre f e hf
   obtain ⟨f,rfl⟩:∃ q,f=q + 1:=⟨f - 1,by simp at hf; omega⟩
   have e':xs=pre:=by rw [e]; simp
   subst e'; exact he f
  | cons v r ih =>
   intro pre f e hf
   obtain ⟨f,rfl⟩:∃ q,f=q + 1:=⟨f - 1,by simp at hf; omega⟩
   simp only [List.length_cons] at hf
   rw [hs pre v r e f,Gf pre v r (by rw [<-e]; omega)]
   exact ih (pre++[v]) f (by rw [e]; simp) (by omega)
 exact go xs [] 100000 rfl (by omega)
theorem ABs (c:List (List UInt8)) (h:c.length<=8796093022208):∀ (r pre:List (List UInt8)) (f:Nat),c=pre++r->r.length < f->D9 c f pre (pre.length:Int)=some c
 | [],pre,f + 1,e,_=>by
  unfold D9
  rw [if_neg (by rw [e]; simp),e,List.append_nil]
 | v::r,pre,f + 1,e,hf=>by
  have hl2:c.length=pre.length + r.length + 1:=by rw [e]; simp; omega
  simp only [List.length_cons] at hf
  have hc:EC 16 (pre.length + 1)=true:=by
   unfold EC
   rw [Bool.and_eq_true]
   exact ⟨Nat.ble_eq_true_of_le (by omega),Nat.ble_eq_true_of_le (by omega)⟩
  unfold D9
  rw [if_pos (by rw [e]; exact In pre v r),show idx c (pre.length:Int)=some v by rw [e,Dy],OS,if_pos hc,YK (by omega) (by omega),show ((pre.length:Int) + 1)=(((pre++[v]).length:Nat):Int) by simp]
  exact ABs c h r (pre++[v]) f (by rw [e]; simp) (by omega)
theorem ADm (g:Af) (h:g.2.2.2.2.2.2.2.2.length<=8796093022208):Gu g=some g:=by
 unfold Gu Hl
 have:D9 g.2.2.2.2.2.2.2.2 200000000000000 [] 0=some g.2.2.2.2.2.2.2.2:=ABs g.2.2.2.2.2.2.2.2 h g.2.2.2.2.2.2.2.2 [] _ rfl (by omega)
 rw [this]; rfl
theorem AEW (l:List (List UInt8)) (h:l.length<=8796093022208):Gx l l=some true:=by
 have go:∀ (d i f:Nat),i + d=l.length->d < f->EA l l f (i:Int)=some (.inl ()):=by
  intro d
  induction d with
  | zero =>
   intro i f e hf
   obtain ⟨f,rfl⟩:∃ q,f=q + 1:=⟨f - 1,by omega⟩
   unfold EA
   rw [if_neg (by simp; omega)]
  | succ d ih =>
   intro i f e hf
   obtain ⟨f,rfl⟩:∃ q,f=q + 1:=⟨f - 1,by omega⟩
   have hi:i < l.length:=by omega
   unfold EA
   rw [if_pos (by simp; omega),O6 hi,OS,OS,if_neg (by simp),YK (by omega) (by omega),show ((i:Int) + 1)=((i + 1:Nat):Int) by omega]
   exact ih (i + 1) f (by omega) (by omega)
 have h':EA l l 200000000000000 0=some (.inl ()):=go l.length 0 _ (by omega) (by omega)
 unfold Gx
 rw [if_neg (by simp),h']; rfl
theorem AEV (g:Af) (h:g.2.2.2.2.2.2.2.2.length<=8796093022208):Gv g g=some true:=by
 unfold Gv
 rw [AEW _ h]
 simp
theorem AB7 (g:List Af) (hn:g.length<=1000) (h:∀ x ∈ g,x.2.2.2.2.2.2.2.2.length<=8796093022208):GA g=some g:=by
 unfold GA
 have:C6 g 100000 [] 0=some g:=AFi g (by omega) (fun f s c=>C6 g f s c) (fun pre v r e f=>by
  have hl:g.length=pre.length + r.length + 1:=by rw [e]; simp; omega
  show C6 g (f + 1) pre (pre.length:Int)=_
  conv=>lhs; unfold C6
  rw [if_pos (by rw [e]; exact In pre v r),show idx g (pre.length:Int)=some v by rw [e,Dy],OS,ADm v (h v (by rw [e]; simp)),OS,if_pos (FI (by omega) (by omega))]) (fun f=>by
  show C6 g (f + 1) g (g.length:Int)=_
  conv=>lhs; unfold C6
  rw [if_neg (by simp)])
 rw [this]; rfl
theorem AC4 (g:List Af) (hn:g.length<=1000) (h:∀ x ∈ g,x.2.2.2.2.2.2.2.2.length<=8796093022208):GB g g=some true:=by
 unfold GB
 have:C7 g g 100000 0=some (.inl ()):=PJ (σ:=Unit) g.length (fun _=>()) (some (.inl ())) (fun f c _=>C7 g g f c) (by omega) (fun i hi f=>by
  show C7 g g (f + 1) (i:Int)=_
  conv=>lhs; unfold C7
  rw [if_pos (by simp; omega),O6 hi,OS,OS,AEV g[i] (h _ (List.getElem_mem hi)),OS,if_neg (by simp)]) (fun f=>by
  show C7 g g (f + 1) (g.length:Int)=_
  conv=>lhs; unfold C7
  rw [if_neg (by simp)])
 rw [this,if_neg (by simp)]; rfl
section
variable {g:List Af}(hg:FewR g)
include hg
end
theorem XZ (c:List AH) (h:few c):HZ c=some (decide ((Ts c).2=0)):=by
 unfold HZ
 rw [Us c h,OS]
 by_cases h:(Ts c).2=0 <;> simp [h]
/-- What a loop over places tells that finds nothing. -/
theorem WK (L:List (List Int)) (hn:L.length<=99999) (hl:∀ x ∈ L,x.length<=99999):Gw L L=some true:=by
 have one:∀ x:List Int,x.length<=99999->HV x x=some true:=fun x hx=>by
  have:Dh x x 100000 0=some (.inl ()):=PJ (σ:=Unit) x.length (fun _=>()) (some (.inl ())) (fun f c _=>Dh x x f c) hx (fun i hi f=>by
   show Dh x x (f + 1) (i:Int)=_
   conv=>lhs; unfold Dh
   rw [if_pos (by simp; omega),O6 hi,OS,OS,if_neg (by simp)]) (fun f=>by
   show Dh x x (f + 1) (x.length:Int)=_
   conv=>lhs; unfold Dh
   rw [if_neg (by simp)])
  unfold HV
  rw [this,if_neg (by simp)]; rfl
 have:DV L L 100000 0=some (.inl ()):=PJ (σ:=Unit) L.length (fun _=>()) (some (.inl ())) (fun f c _=>DV L L f c) hn (fun i hi f=>by
  show DV L L (f + 1) (i:Int)=_
  conv=>lhs; unfold DV
  rw [if_pos (by simp; omega),O6 hi,OS,OS,one _ (hl _ (List.getElem_mem hi)),OS,if_neg (by simp)]) (fun f=>by
  show DV L L (f + 1) (L.length:Int)=_
  conv=>lhs; unfold DV
  rw [if_neg (by simp)])
 unfold Gw
 rw [this,if_neg (by simp)]; rfl
theorem ABD (L:List (List Nat)) (hl:L.length<=1000):Hg (toI L)=some (if lnE L=true then (toG L.flatten,0) else ([],32)):=by
 have go:∀ (r pre:List (List Nat)) (fu:Nat),L=pre++r->(∀ gr ∈ pre,gr.length=1)->pre.flatten.length=pre.length->r.length < fu->Eh (toI L) fu (toG pre.flatten) (pre.length:Int)=some (if lnE r=true then .inl (toG L.flatten) else .inr 32):=by
  intro r
  induction r with
  | nil =>
   intro pre fu e h1 h2 hfu
   obtain ⟨fu,rfl⟩:∃ q,fu=q + 1:=⟨fu - 1,by simp at hfu; omega⟩
   unfold Eh
   rw [if_neg (by rw [e,IA]; simp),e]; simp [lnE]
  | cons gr r ih =>
   intro pre fu e h1 h2 hfu
   obtain ⟨fu,rfl⟩:∃ q,fu=q + 1:=⟨fu - 1,by simp at hfu; omega⟩
   simp only [List.length_cons] at hfu
   have hlen:L.length=pre.length + r.length + 1:=by rw [e]; simp; omega
   have hi:idx (toI L) (pre.length:Int)=some (toG gr):=by
    rw [Wb L pre.length (by omega)]
    have:L[pre.length]'(by omega)=gr:=by simp [e]
    rw [this]
   unfold Eh
   rw [if_pos (by rw [IA]; simp; omega),hi,OS]
   by_cases hq:gr.length=1
   ·obtain ⟨x,rfl⟩:=List.length_eq_one_iff.1 hq
    rw [if_neg (by rw [EF]; simp),OS,show idx (toG [x]) 0=some (pI x) from rfl,OS,if_pos (FI (by omega) (by rw [EF]; omega)),YK (by omega) (by omega),show ((pre.length:Int) + 1)=(((pre++[[x]]).length:Nat):Int) by simp,show toG pre.flatten++[pI x]=toG (pre.flatten++[x]) by rw [OK]; rfl]
    have e2:pre.flatten++[x]=(pre++[[x]]).flatten:=by simp
    rw [e2,ih (pre++[[x]]) fu (by rw [e]; simp) (fun g hg=>by
     rcases List.mem_append.1 hg with h | h
     ·exact h1 g h
     ·simp at h; subst h; rfl) (by simp [h2]) (by omega)]
    have:lnE ([x]::r)=lnE r:=by simp [lnE]
    rw [this]
   ·rw [if_pos (by rw [EF]; simp; omega)]
    have:lnE (gr::r)=false:=by simp [lnE,hq]
    rw [this]; rfl
 have h:=go L [] 100000 rfl (by simp) rfl (by omega)
 have h':Eh (toI L) 100000 [] 0=some (if lnE L=true then .inl (toG L.flatten) else .inr 32):=h
 unfold Hg
 rw [h',OS]
 by_cases hq:lnE L=true
 ·rw [if_pos hq,if_pos hq]
 ·rw [if_neg hq,if_neg hq]
theorem ADc (n:Nat) (hn:n<=1000):LJ (n:Int)=some (toG (List.range n)):=by
 have h:=PJ (σ:=List Int) n (fun k=>toG (List.range k)) (some (toG (List.range n))) (fun f c' s=>Dj (n:Int) f c' s) (by omega) (fun k hk f=>by
  show Dj (n:Int) (f + 1) (k:Int) (toG (List.range k))=_
  conv=>lhs; unfold Dj
  rw [if_pos (by simp; omega),if_pos (FI (by omega) (by rw [EF]; simp; omega))]
  show _=Dj (n:Int) f _ (toG (List.range (k + 1)))
  rw [List.range_succ,OK]; rfl) (fun f=>by
  show Dj (n:Int) (f + 1) (n:Int) (toG (List.range n))=_
  conv=>lhs; unfold Dj
  rw [if_neg (by simp)])
 unfold LJ
 have h':Dj (n:Int) 100000 0 []=some (toG (List.range n)):=h
 rw [h']; rfl
theorem AAZ (L:List (List Nat)) (i:Nat) (hi:i < L.length) (s:List Int) (hb:∀ x ∈ L[i],x < s.length) (hl:L[i].length<=1000):Di (toI L) (i:Int) 100000 0 s=some (Pd (i:Int) L[i] s):=by
 have h:=PJ (σ:=List Int) L[i].length (fun k=>Pd (i:Int) (L[i].take k) s) (some (Pd (i:Int) L[i] s)) (fun f c' s=>Di (toI L) (i:Int) f c' s) (by omega) (fun k hk f=>by
  show Di (toI L) (i:Int) (f + 1) (k:Int) (Pd (i:Int) (L[i].take k) s)=_
  conv=>lhs; unfold Di
  obtain ⟨v,hv⟩:=Xt (s:=Pd (i:Int) (L[i].take k) s) (x:=L[i][k]) (by rw [SO]; exact hb _ (List.getElem_mem hk))
  rw [Wb L i hi,OS,if_pos (by rw [EF]; simp; omega),OS,Uh L[i] k hk,OS,hv,OS]
  have e:Pd (i:Int) (L[i].take (k + 1)) s=(Pd (i:Int) (L[i].take k) s).set L[i][k] (i:Int):=by
   unfold Pd
   rw [List.take_succ_eq_append_getElem hk,List.foldl_append]; rfl
  show _=Di (toI L) (i:Int) f _ (Pd (i:Int) (L[i].take (k + 1)) s)
  rw [e,show (pI L[i][k]).toNat=L[i][k] from Int.toNat_natCast _]) (fun f=>by
  show Di (toI L) (i:Int) (f + 1) (L[i].length:Int) (Pd (i:Int) (L[i].take L[i].length) s)=_
  conv=>lhs; unfold Di
  rw [Wb L i hi,OS,if_neg (by rw [EF]; simp),List.take_length])
 exact h
section
variable {c:List AH}{g:List Af}(hc:few c) (hv:(Ts c).2=0) (hg:FewR g) (hn:g.length<=20)
include hc hv hg hn
theorem AB5 {L:List (List Nat)}(hL:GL (fN c g) pI L) (hall:∀ x,x ∈ L.flatten↔x < g.length) (hs:∀ a b,fN c g a b = - fN c g b a):∃ s,HY (toI L) (g.length:Int)=some s/\Sp L g.length L.length s:=by
 have _:=hc; have _:=hv; have _:=hg
 have hnl:=Zq hL hall hs
 have go:∀ (d k fu:Nat) (s:List Int),k + d=L.length->d < fu->Sp L g.length k s->∃ t,FT (toI L) fu (k:Int) s=some t/\Sp L g.length L.length t:=by
  intro d
  induction d with
  | zero =>
   intro k fu s hk hf h
   obtain ⟨fu,rfl⟩:∃ q,fu=q + 1:=⟨fu - 1,by omega⟩
   refine ⟨s,?_,by rw [show k=L.length by omega] at h; exact h⟩
   unfold FT
   rw [if_neg (by rw [IA]; simp; omega)]
  | succ d ih =>
   intro k fu s hk hf h
   obtain ⟨fu,rfl⟩:∃ q,fu=q + 1:=⟨fu - 1,by omega⟩
   have hkl:k < L.length:=by omega
   have hgm:L[k] ∈ L:=List.getElem_mem hkl
   have hgk:L[k]? = some L[k]:=List.getElem?_eq_getElem hkl
   have e3:=AAZ L k hkl s (fun x hx=>by rw [h.1]; exact Sk hL hall hgm x hx) (by have:=W7 hL hall hgm; omega)
   obtain ⟨t,t1,t2⟩:=ih (k + 1) fu (Pd (k:Int) L[k] s) (by omega) (by omega) (Xm hs hL h hgk (Sk hL hall hgm))
   refine ⟨t,?_,t2⟩
   unfold FT
   rw [if_pos (by rw [IA]; simp; omega),e3,OS,YK (by omega) (by omega),show ((k:Int) + 1)=((k + 1:Nat):Int) by omega]
   exact t1
 obtain ⟨t,t1,t2⟩:=go L.length 0 100000 (toG (List.range g.length)) (by omega) (by omega) ⟨by rw [EF,List.length_range],fun j hj=>by omega⟩
 refine ⟨t,?_,t2⟩
 unfold HY
 have t1':FT (toI L) 100000 0 (toG (List.range g.length))=some t:=t1
 rw [ADc g.length (by omega),OS,t1']; rfl
theorem Zt:∃ (P:List Int×Int) (L:List (List Int)) (s d:List Int),G5 c g=some P/\G6 c g=some P/\Dc c g=some L/\Gz c g=some L/\F9 c g=some s/\HY L (g.length:Int)=some s/\DT c g=some d/\FU c g=some d/\P.1.length<=99999/\L.length<=99999/\(∀ x ∈ L,x.length<=99999)/\s.length<=99999/\d.length<=99999:=by
 have hs:=(AEi g (Kn hv).2).s
 obtain ⟨L,o1,o2,hL,hall⟩:=Yo hc hv hg hn
 have hnl:=Zq hL hall hs
 have hfl:=V0 hL hall hs
 obtain ⟨s,s1,s2⟩:=AAY hn hL hall hs
 obtain ⟨t,t1,t2⟩:=AB5 hc hv hg hn hL hall hs
 have est:t=s:=YX hs hL hall t2 s2
 subst est
 have hlc:=AEH L hL.ne (by omega) (by omega)
 refine ⟨if lnE L=true then (toG L.flatten,0) else ([],32),toI L,t,_,?_,?_,o1,o2,?_,t1,Uv hc hv hg,Yb hc hv hg,?_,?_,?_,?_,?_⟩
 ·unfold G5
  rw [Ur c hc,OS,if_neg (by simp [hv]),if_neg (by simp; omega),o1,OS,hlc]; rfl
 ·unfold G6
  rw [Us c hc,OS,if_neg (by simp [hv]),if_neg (by simp; omega),o2,OS,ABD L (by omega)]; rfl
 ·unfold F9
  rw [o1,OS,s1]; rfl
 ·split
  ·show (toG L.flatten).length<=_
   rw [EF,hfl]; omega
  ·exact Nat.zero_le _
 ·rw [IA]; omega
 ·intro x hx
  obtain ⟨gr,hgr,rfl⟩:=List.mem_map.1 hx
  rw [EF]
  have:=W7 hL hall hgr
  omega
 ·rw [t2.1]; omega
 ·rw [EF]
  have:=XQ c.length (YY c g)
  have:=hc.1
  omega
end
theorem Sy {c:List AH}{g:List Af}(hc:few c) (hg:(FewR g/\g.length<=12)\/(64 < g.length/\g.length<=70)) (hT:∀ x ∈ g,x.2.2.2.2.2.2.2.2.length<=8796093022208):F4 c g=some true:=by
 have hn:g.length<=70:=by rcases hg with h | h <;> omega
 have fin:∀ (P:List Int×Int) (L:List (List Int)) (s d:List Int) (v:Bool),G5 c g=some P->G6 c g=some P->Dc c g=some L->F9 c g=some s->DT c g=some d->HZ c=some v->Ff c g c g P P (if v=true then decide ((g.length:Int)<=64) else false)=some (L,s,d)->P.1.length<=99999/\L.length<=99999/\(∀ x ∈ L,x.length<=99999)/\s.length<=99999/\d.length<=99999->F4 c g=some true:=by
  intro P L s d v h1 h2 h3 h4 h5 h6 h7 ⟨k1,k2,k3,k4,k5⟩
  have e:(if v=true then some (decide ((g.length:Int)<=64)) else some false)=some (if v=true then decide ((g.length:Int)<=64) else false):=by split <;> rfl
  unfold F4
  rw [AB8 c hc,OS,AB7 g (by omega) hT,OS,h1,OS,h2,OS,h6,OS,e,OS,h7,OS,Wz _ _ k1,decide_eq_true rfl,OS,if_pos rfl,if_pos (by simp),h3,OS,WK L k2 k3,OS,if_pos rfl,h4,OS,Wz _ _ k4,decide_eq_true rfl,OS,if_pos rfl,h5,OS,Wz _ _ k5,decide_eq_true rfl,OS,if_pos rfl,AC5 c c hc,decide_eq_true rfl,OS,if_pos rfl,AC4 g (by omega) hT]; rfl
 by_cases hv:(Ts c).2=0
 ·by_cases h64:g.length<=64
  ·have hR:FewR g:=by rcases hg with h | h; exact h.1; omega
   obtain ⟨P,L,s,d,q1,q2,q3,q4,q5,q6,q7,q8,k⟩:=Zt hc hv hR (by rcases hg with h | h <;> omega)
   refine fin P L s d true q1 q2 q3 q5 q7 (by rw [XZ c hc,decide_eq_true hv]) ?_ k
   rw [if_pos rfl]
   unfold Ff
   rw [if_pos (by simp; omega),q4,OS,q8,OS,q6]; rfl
  ·have o0:Dc c g=some []:=by
    unfold Dc
    rw [OY c hc,if_pos hv,OS,if_neg (by simp),OS,if_pos (by simp; omega)]
   refine fin ([],7) [] [] [] true ?_ ?_ o0 ?_ ?_ (by rw [XZ c hc,decide_eq_true hv]) ?_ ⟨Nat.zero_le _,Nat.zero_le _,fun _ h=>by simp at h,Nat.zero_le _,Nat.zero_le _⟩
   ·unfold G5
    rw [Ur c hc,OS,if_neg (by simp [hv]),if_pos (by simp; omega)]
   ·unfold G6
    rw [Us c hc,OS,if_neg (by simp [hv]),if_pos (by simp; omega)]
   ·unfold F9
    rw [o0]; rfl
   ·unfold DT
    rw [OY c hc,if_pos hv,OS,if_neg (by simp),OS,if_pos (by simp; omega)]
   ·rw [if_pos rfl]
    unfold Ff
    rw [if_neg (by simp; omega)]
 ·have o0:Dc c g=some []:=by
   unfold Dc
   rw [OY c hc,if_neg hv,OS,if_pos (by rfl),OS,if_pos rfl]
  refine fin ([],(Ts c).2) [] [] [] false ?_ ?_ o0 ?_ ?_ (by rw [XZ c hc,decide_eq_false hv]) ?_ ⟨Nat.zero_le _,Nat.zero_le _,fun _ h=>by simp at h,Nat.zero_le _,Nat.zero_le _⟩
  ·unfold G5
   rw [Ur c hc,OS,if_pos (by simp [hv])]
  ·unfold G6
   rw [Us c hc,OS,if_pos (by simp [hv])]
  ·unfold F9
   rw [o0]; rfl
  ·unfold DT
   rw [OY c hc,if_neg hv,OS,if_pos (by rfl),OS,if_pos rfl]
  ·rw [if_neg (by simp)]
   unfold Ff
   rw [if_neg (by simp)]
theorem Yp (c:List AH) (g:List Af) (hT:∀ x ∈ g,x.2.2.2.2.2.2.2.2.length<=8796093022208):ET c g=some true:=by
 obtain ⟨b,h1,h2⟩:=ADv c
 unfold ET
 rw [h1,OS]
 cases b with
 | false=>rfl
 | true =>
  have hc:few c:=h2.1 rfl
  rw [if_neg (by simp)]
  by_cases h64:g.length<=64
  ·rw [if_pos (by simp; omega),AAi g 12 (by omega),OS]
   cases hq:(decide ((g.length:Int)<=12)&&!g.any WC) with
   | false=>rfl
   | true =>
    simp only [Bool.and_eq_true,decide_eq_true_eq,Bool.not_eq_true'] at hq
    have hg:FewR g:=⟨by omega,fun x hx=>AAw (by
     have:=List.any_eq_false.1 hq.2 x hx
     simpa using this)⟩
    rw [if_neg (by simp),if_neg (by simp; omega),Sy hc (.inl ⟨hg,by omega⟩) hT]; rfl
  ·rw [if_neg (by simp; omega)]
   by_cases h70:g.length<=70
   ·rw [if_neg (by simp; omega),Sy hc (.inr ⟨by omega,h70⟩) hT]; rfl
   ·rw [if_pos (by simp; omega)]; rfl
end Go.Proofs.YtlalcoehgkmhlaaGreatDoor
namespace Go.Proofs.YtlalcoehgkmhlaaGreatDoor
open Go.Deep Go.RowKit
theorem QA {α:Type}{P:Program}{c:Cd α}{t e:TypeId}{good:α->Prop}{k:Nat}(ht:P.underlying t=some (.slice e)) (hct:P.cellsOf t=1) (hk:P.cellsOf e=k) (hk0:Nat.blt 0 k=true) (hb:Nat.blt 0 (P.bytesOf e)=true) (r:Rc P c e good):Rc P (cdL k c) t (fun xs=>(xs.length<=140737488355328/\xs.length * P.bytesOf e<=140737488355328)/\∀ a ∈ xs,good a):=⟨fun _=>rfl,fun _=>hct.symm,fun {H enc w base spare held fuel v x} h hw=>by
 rcases open_slice ht h with ⟨rfl,_⟩ | ⟨a,len,cap,m,n,D,Pl,rfl,h2,h3,h4,h5,hx,h6⟩
 ·exact ⟨[],.cons (.sl (us:=[]) rfl rfl (Nat.le_refl _) (by unfold maxLen; omega) (fun h=>by omega) (fun i x u hx=>by simp at hx)) .nil,rfl,by simp,fun a ha=>by cases ha⟩
 ·have hlm:len<=m:=by rw [h5]; split <;> omega
  rw [hx] at hw
  simp only [DataW.weights,ht,List.all_cons,List.all_append,Bool.and_eq_true,decide_eq_true_eq] at hw
  obtain ⟨hw1,hw2,_⟩:=hw
  have hb':0 < P.bytesOf e:=Nat.le_of_ble_eq_true hb
  have hk':0 < k:=Nat.le_of_ble_eq_true hk0
  have hlen:len<=140737488355328:=by
   have h7:(((List.range len).map D).length + ((List.range (m - len)).map fun j=>D (len + j)).length) * 1<=(((List.range len).map D).length + ((List.range (m - len)).map fun j=>D (len + j)).length) * P.bytesOf e:=Nat.mul_le_mul_left _ hb'
   have h8:reachBytes=140737488351232:=rfl
   simp only [List.length_map,List.length_range,Nat.mul_one] at h7 hw1
   omega
  have hlb:len * P.bytesOf e<=140737488355328:=by
   have h7:len * P.bytesOf e<=(len + (m - len)) * P.bytesOf e:=Nat.mul_le_mul_right _ (by omega)
   have h8:reachBytes=140737488351232:=rfl
   simp only [List.length_map,List.length_range] at hw1
   omega
  have hwi:∀ i,i < len->(DataW.weights P e (D i)).all (·<=reachBytes)=true:=fun i hi=>by
   rw [List.all_eq_true] at hw2 ⊢
   exact fun n hn=>hw2 n (TW (List.mem_map.2 ⟨i,by simpa using hi,rfl⟩) n hn)
  obtain ⟨A,hAl,hA⟩:=Zi (n:=len) (p:=fun i (q:α×Value)=>VR w (fun c=>c < w.heap.size) [] (c.enc q.1) q.2/\good q.1/\q.2.cells.size=k/\(∀ z ∈ q.2.cells,z.oneCell'=true)/\∀ (j:Nat) (z:Value),q.2.cells[j]? = some z->w.cell? (a.add (i * k + j))=some z) (fun i hi=>by
   obtain ⟨cs',k1,k2⟩:=h6 i (by omega)
   obtain ⟨_,hl2,hcell⟩:=World.cells?_some k1
   obtain ⟨b,q1,q2,q3⟩:=r.rd k2 (hwi i hi)
   obtain ⟨u,u1,u2,_⟩:=q1.elm q2
   rw [r.el] at u1
   refine ⟨(b,u),u1,q3,?_,fun z hz=>?_,fun j z hz=>?_⟩
   ·rw [u2]; simp [hl2,hk]
   ·rw [u2] at hz
    exact List.all_eq_true.1 q2 z (by simpa using hz)
   ·rw [u2] at hz
    simp only [List.getElem?_toArray] at hz
    have hj:j < P.cellsOf e:=by have:=(List.getElem?_eq_some_iff.1 hz).1; omega
    have:=hcell j hj
    rw [Go.Deep.add_add,hk,hz] at this
    exact this)
  refine ⟨A.map (·.1),.cons ?_ .nil,rfl,⟨by simp [hAl,hlen],by simpa [hAl] using hlb⟩,fun q hq=>?_⟩
  ·refine .sl (us:=A.map (·.2)) (by simp [hAl]) (by simp) h3 h4 (fun h0=>?_) (fun i x u hx hu=>?_)
   ·obtain ⟨g1,g2,g3,g4,g5⟩:=hA 0 (A[0]'(by omega)) (List.getElem?_eq_getElem (by omega))
    have g6:=g5 0 _ (Array.getElem?_eq_getElem (by omega))
    have hs:=Z7 (by simpa using g6)
    refine ⟨a,rfl,hs,?_,fun i u hu=>?_⟩
    ·have:=g6
     unfold World.cell? at this
     split at this
     ·next hb=>have:=(Array.getElem?_eq_some_iff.1 hb).1; rw [show (a.add (0 * k + 0)).block=a.block by unfold Addr.add; split <;> rfl] at this; exact this
     ·cases this
    ·rw [List.getElem?_map] at hu
     obtain ⟨p,hp,rfl⟩:=Option.map_eq_some_iff.1 hu
     obtain ⟨_,_,q1,q2,q3⟩:=hA i p hp
     refine ⟨q1,q2,fun j z hz=>?_⟩
     have:=q3 j z hz
     obtain ⟨ab,ao,asp⟩:=a
     simp only at hs
     subst hs
     rw [Gn] at this
     exact this
   ·rw [List.getElem?_map,List.getElem?_map] at hx
    rw [List.getElem?_map] at hu
    obtain ⟨p,hp,rfl⟩:=Option.map_eq_some_iff.1 hx
    obtain ⟨p1,hp1,rfl⟩:=Option.map_eq_some_iff.1 hp
    obtain ⟨p2,hp2,rfl⟩:=Option.map_eq_some_iff.1 hu
    rw [hp1] at hp2
    injection hp2 with hp2
    subst hp2
    exact (hA i p1 hp1).1
  ·obtain ⟨i,hi⟩:=List.getElem?_of_mem hq
   rw [List.getElem?_map] at hi
   obtain ⟨p,hp,rfl⟩:=Option.map_eq_some_iff.1 hi
   exact (hA i p hp).2.1⟩
end Go.Proofs.YtlalcoehgkmhlaaGreatDoor
