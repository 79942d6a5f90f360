/- Lemmas for the proof. -/
import Derived.Test.YtlalcoehgkmhlaaGreatDoorCourtPairsM1
import Derived.Test.YtlalcoehgkmhlaaGreatDoorCourtPairsM2
import Derived.Test.YtlalcoehgkmhlaaGreatDoorCourtPairsM3
import Derived.Test.YtlalcoehgkmhlaaGreatDoorCourtPairsM4
import Derived.Test.YtlalcoehgkmhlaaGreatDoorCourtPairsM5
import Derived.Test.YtlalcoehgkmhlaaGreatDoorCourtPairsM6
import Derived.Test.YtlalcoehgkmhlaaGreatDoorCourtPairsM7
namespace Go.Proofs.YtlalcoehgkmhlaaGreatDoor
open Go.RowKit
def fm (x:AF):Bool:=(BJ x).getD false
theorem AGU (x:AF):Cn x=some (fm x):=by
 obtain ⟨b,h1,h2⟩:=W4 x
 rw [h1]; unfold fm; rw [h2]; rfl
theorem AGV (x:AF):BJ x=some (fm x):=by
 obtain ⟨b,h1,h2⟩:=W4 x
 unfold fm; rw [h2]; rfl
/-- Is a name there twice? -/
def ACE (l:List (List UInt8)):List (List UInt8)->Nat->Bool
 | [],_=>false
 | v::r,i=>Oh (l.take i) v||ACE l r (i + 1)
def Om (before:List AF) (am:List UInt8):Bool:=before.any fun b=>(b.1==1)&&Oh b.2.2.2.1 am
def chk (before:List AF) (x:AF):Int :=
 if fm x=false then 30 else
 if ((!(x.2.1==[]))&&!HH x.2.1)=true\/(x.2.2.2.1.any fun s=>!HH s)=true then 4 else
 if ACE x.2.2.2.1 x.2.2.2.1 0=true then 5 else
 if x.2.1=[]\/Om before x.2.1=true then 0 else 31
theorem X1 (l:List (List UInt8)):∀ (r:List (List UInt8)) (i:Nat),goU (fun v i (k:Option (Unit ⊕ Int))=>if Oh (l.take i) v=true then some (.inr 5) else k) (some (.inl ())) r i=some (if ACE l r i=true then .inr 5 else .inl ())
 | [],_=>rfl
 | v::r,i=>by
  unfold goU ACE
  rw [X1 l r (i + 1)]
  cases Oh (l.take i) v <;> rfl
theorem AFp (b:List AF) (j:AF) (h:j.2.2.2.1.length<=99999):Fv b j 100000 0=some (if ACE j.2.2.2.1 j.2.2.2.1 0=true then .inr 5 else .inl ()):=by
 rw [<-X1]
 refine LZ j.2.2.2.1 (Fv b j) _ _ 100000 (by omega) (fun f pre v r e=>?_) (fun f=>?_)
 ·conv=>lhs; unfold Fv
  have hl:j.2.2.2.1.length=pre.length + r.length + 1:=by rw [e]; simp; omega
  rw [if_pos (by rw [e]; exact HI pre v r),show idx j.2.2.2.1 (pre.length:Int)=some v by rw [e,D8],OS,if_pos (by unfold MW; simp; omega),Int.toNat_natCast]
  rw [show ((j.2.2.2.1.take pre.length).drop (0:Int).toNat)=j.2.2.2.1.take pre.length from rfl,L6 _ _ (by simp; omega),OS,FJ pre v r (by rw [<-e]; omega)]
 ·conv=>lhs; unfold Fv
  rw [if_neg (by simp)]
theorem ABk (b:List AF) (x:AF) (h:b.length<=99999) (hb:∀ y ∈ b,y.2.2.2.1.length<=99999):Ak b x=some (Om b x.2.1):=by
 unfold Ak Ay
 obtain ⟨n,h1,h2⟩:=P7 b h (fun v=>HS v x) (fun y=>(y.1==1)&&Oh y.2.2.2.1 x.2.1) (fun y hy=>by
  unfold HS
  rw [L6 _ _ (hb y hy)]
  cases (y.1==1) <;> rfl) (A7 b x) (fun f c=>rfl)
 unfold Om
 rw [<-h2]
 exact (congrArg (fun o=>o.bind fun v1=>some (decide (v1≥0))) h1)
theorem AFi (b:List AF) (x:AF) (hb:few b) (hx:Zv x):Im b x=some (chk b x):=by
 have hn:∀ s ∈ x.2.2.2.1,s.length<=99999:=fun s hs=>by have:=hx.2.2 s hs; omega
 unfold Im chk
 rw [AGU,OS]
 cases hf:fm x with
 | false=>simp
 | true =>
  rw [if_neg (show ¬ ((!true)=true) by simp),if_neg (show ¬ (true=false) by simp),ADM _ (by have:=hx.2.1; omega) hn,AAH _ (by have:=hx.1; omega)]
  have e:((if (!(x.2.1==[]))=true then (some (HH x.2.1)).bind fun v3=>if (!v3)=true then some true else (some (x.2.2.2.1.any fun s=>!HH s)).bind fun v4=>some v4 else (some (x.2.2.2.1.any fun s=>!HH s)).bind fun v5=>some v5):Option Bool)=some (((!(x.2.1==[]))&&!HH x.2.1)||(x.2.2.2.1.any fun s=>!HH s)):=by
   cases (x.2.1==[]) <;> cases HH x.2.1 <;> rfl
  rw [e,OS]
  cases hq:(((!(x.2.1==[]))&&!HH x.2.1)||(x.2.2.2.1.any fun s=>!HH s)) with
  | true=>rw [if_pos rfl,if_pos (by simpa using hq)]
  | false =>
   rw [if_neg (show ¬ (false=true) by simp),if_neg (show ¬ (((!(x.2.1==[]))&&!HH x.2.1)=true\/(x.2.2.2.1.any fun s=>!HH s)=true) by simpa using hq),AFp _ _ (by have:=hx.2.1; omega),OS]
   try dsimp only
   cases hd:ACE x.2.2.2.1 x.2.2.2.1 0 with
   | true=>rfl
   | false =>
    rw [if_neg (show ¬ (false=true) by simp)]
    dsimp only
    have hr:=ABk b x (by have:=hb.1; omega) (fun y hy=>by have:=(hb.2 y hy).2.1; omega)
    rw [hr]
    by_cases ha:x.2.1=[]
    ·simp [ha]
    ·simp only [ha,false_or]
     cases Om b x.2.1 <;> simp [ha]
/-- .. of the reference. -/
theorem ACG:∀ (l:List (List UInt8)) (i:Nat),goU (fun v _ (k:Option (Unit ⊕ Int))=>if (!HH v)=true then some (.inr 4) else k) (some (.inl ())) l i=some (if (l.any fun s=>!HH s)=true then .inr 4 else .inl ())
 | [],_=>rfl
 | v::r,i=>by
  unfold goU
  rw [ACG r (i + 1),List.any_cons]
  cases HH v <;> rfl
theorem ACH (am:List UInt8):∀ (l:List AF) (i:Nat),goU (fun (v:AF) _ (k:Option (Unit ⊕ Int))=>if ((v.1==1)&&Oh v.2.2.2.1 am)=true then some (.inr 0) else k) (some (.inl ())) l i=some (if Om l am=true then .inr 0 else .inl ())
 | [],_=>rfl
 | v::r,i=>by
  unfold goU
  have:Om (v::r) am=(((v.1==1)&&Oh v.2.2.2.1 am)||Om r am):=rfl
  rw [ACH am r (i + 1),this]
  cases ((v.1==1)&&Oh v.2.2.2.1 am) <;> rfl
section
variable (c pre r:List AF) (x:AF) (e:c=pre++x::r) (h:few c)
include e h
theorem AAV:EC c (pre.length:Int) 100000 0=some (if (x.2.2.2.1.any fun s=>!HH s)=true then .inr 4 else .inl ()):=by
 have hx:Zv x:=h.2 x (by rw [e]; simp)
 have hi:idx c (pre.length:Int)=some x:=by rw [e,D8]
 rw [<-ACG _ 0]
 refine LZ x.2.2.2.1 (EC c (pre.length:Int)) _ _ 100000 (by have:=hx.2.1; omega) (fun f p v q e'=>?_) (fun f=>?_)
 ·conv=>lhs; unfold EC
  have hv:=hx.2.2 v (by rw [e']; simp)
  rw [hi,OS,if_pos (by rw [e']; exact HI p v q),OS,show idx x.2.2.2.1 (p.length:Int)=some v by rw [e',D8],OS,Yi v (by omega),OS,FJ p v q (by have:=hx.2.1; rw [<-e']; omega)]
 ·conv=>lhs; unfold EC
  rw [hi,OS,if_neg (by simp)]
theorem ADY:ED c (pre.length:Int) 100000 0=some (if ACE x.2.2.2.1 x.2.2.2.1 0=true then .inr 5 else .inl ()):=by
 have hx:Zv x:=h.2 x (by rw [e]; simp)
 have hi:idx c (pre.length:Int)=some x:=by rw [e,D8]
 rw [<-X1]
 refine LZ x.2.2.2.1 (ED c (pre.length:Int)) _ _ 100000 (by have:=hx.2.1; omega) (fun f p v q e'=>?_) (fun f=>?_)
 ·conv=>lhs; unfold ED
  have hl:x.2.2.2.1.length=p.length + q.length + 1:=by rw [e']; simp; omega
  have:=hx.2.1
  rw [hi,OS,if_pos (by rw [e']; exact HI p v q),OS,if_pos (by unfold MW; simp; omega),OS,show idx x.2.2.2.1 (p.length:Int)=some v by rw [e',D8],OS,Int.toNat_natCast,
   show ((x.2.2.2.1.take p.length).drop (0:Int).toNat)=x.2.2.2.1.take p.length from rfl,Ye _ _ (by simp; omega),OS,FJ p v q (by rw [<-e']; omega)]
 ·conv=>lhs; unfold ED
  rw [hi,OS,if_neg (by simp)]
theorem ZM:EE c (pre.length:Int) 100000 0=some (if Om pre x.2.1=true then .inr 0 else .inl ()):=by
 have hi:idx c (pre.length:Int)=some x:=by rw [e,D8]
 have hl:c.length=pre.length + r.length + 1:=by rw [e]; simp; omega
 have hc:=h.1
 rw [<-ACH _ _ 0]
 refine LZ pre (EE c (pre.length:Int)) _ _ 100000 (by omega) (fun f p v q e'=>?_) (fun f=>?_)
 ·conv=>lhs; unfold EE
  have hv:Zv v:=h.2 v (by rw [e,e']; simp)
  have hl2:pre.length=p.length + q.length + 1:=by rw [e']; simp; omega
  rw [if_pos (by simp; omega),show idx c (p.length:Int)=some v by rw [e,e',List.append_assoc,List.cons_append,D8],OS,hi,OS,OS,Ye _ _ (by have:=hv.2.1; omega),FJ p v q (by rw [<-e']; omega)]
  cases (v.1==1) <;> rfl
 ·conv=>lhs; unfold EE
  rw [if_neg (by simp)]
theorem AFj:Gn c (pre.length:Int)=some (chk pre x):=by
 have hx:Zv x:=h.2 x (by rw [e]; simp)
 have hi:idx c (pre.length:Int)=some x:=by rw [e,D8]
 unfold Gn chk
 rw [hi,OS,AGV,OS,OS,OS,AAV c pre r x e h,ADY c pre r x e h,ZM c pre r x e h,Yi _ (by have:=hx.1; omega)]
 cases hf:fm x with
 | false=>simp
 | true =>
  rw [if_neg (show ¬ ((!true)=true) by simp),if_neg (show ¬ (true=false) by simp)]
  have e2:((if (!(x.2.1==[]))=true then (some (HH x.2.1)).bind fun v6=>some (!v6) else some false):Option Bool)=some ((!(x.2.1==[]))&&!HH x.2.1):=by
   cases (x.2.1==[]) <;> rfl
  rw [e2,OS,OS]
  cases hq:((!(x.2.1==[]))&&!HH x.2.1) <;> cases hn:(x.2.2.2.1.any fun s=>!HH s) <;> cases hd:ACE x.2.2.2.1 x.2.2.2.1 0 <;> cases hr:Om pre x.2.1 <;> by_cases ha:x.2.1=[] <;> simp [ha]
end
/-- The first error of a text: its place, and which. -/
def ZA (c:List AF):List AF->Nat->Unit ⊕ (Int×Int)
 | [],_=> .inl ()
 | x::r,i=>if chk (c.take i) x≠0 then .inr ((i:Int),chk (c.take i) x) else ZA c r (i + 1)
def Wv (c:List AF):Int×Int:=if c.length > 32 then (0,7) else match ZA c c 0 with
 | .inl _=>(0,0)
 | .inr w=>w
theorem X0 (c:List AF):∀ (r:List AF) (i:Nat),goU (fun x i (k:Option (Unit ⊕ (Int×Int)))=>if (chk (c.take i) x != 0)=true then some (.inr ((i:Int),chk (c.take i) x)) else k) (some (.inl ())) r i=some (ZA c r i)
 | [],_=>rfl
 | x::r,i=>by
  unfold goU ZA
  rw [X0 c r (i + 1)]
  by_cases h:chk (c.take i) x=0 <;> simp [h]
theorem ABM {c:List AF}(h:few c) (n:Nat):few (c.take n):=⟨by have:=h.1; simp; omega,fun x hx=>h.2 x (List.mem_of_mem_take hx)⟩
theorem ACh (c:List AF) (h:few c):Il c=some (Wv c):=by
 have hl:=h.1
 have e1:Fu c 100000 0=some (ZA c c 0):=by
  rw [<-X0]
  refine LZ c (Fu c) _ _ 100000 (by omega) (fun f pre v r e=>?_) (fun f=>?_)
  ·conv=>lhs; unfold Fu
   have hl2:c.length=pre.length + r.length + 1:=by rw [e]; simp; omega
   rw [if_pos (by rw [e]; exact HI pre v r),show idx c (pre.length:Int)=some v by rw [e,D8],OS,if_pos (by unfold MW; simp; omega),Int.toNat_natCast,
    show ((c.take pre.length).drop (0:Int).toNat)=c.take pre.length from rfl,AFi _ v (ABM h _) (h.2 v (by rw [e]; simp)),OS,FJ pre v r (by rw [<-e]; omega)]
  ·conv=>lhs; unfold Fu
   rw [if_neg (by simp)]
 unfold Il Wv
 by_cases h32:c.length > 32
 ·rw [if_pos (by simp; omega),if_pos h32]
 ·rw [if_neg (by simp; omega),if_neg h32,e1,OS]
  cases ZA c c 0 <;> rfl
theorem ACi (c:List AF) (h:few c):It c=some (Wv c):=by
 have hl:=h.1
 have e1:F3 c 100000 0=some (ZA c c 0):=by
  rw [<-X0]
  refine LZ c (F3 c) _ _ 100000 (by omega) (fun f pre v r e=>?_) (fun f=>?_)
  ·conv=>lhs; unfold F3
   rw [if_pos (by rw [e]; exact HI pre v r),AFj c pre r v e h,OS,FJ pre v r (by rw [<-e]; omega),show c.take pre.length=pre by rw [e]; simp]
  ·conv=>lhs; unfold F3
   rw [if_neg (by simp)]
 unfold It Wv
 by_cases h32:c.length > 32
 ·rw [if_pos (by simp; omega),if_pos h32]
 ·rw [if_neg (by simp; omega),if_neg h32,e1,OS]
  cases ZA c c 0 <;> rfl
/- trestle/court.Reason -/
/- trestle/court.Compare -/
/-- The first of a word in a list, from a number on. -/
def rkN (s:List UInt8):List (List UInt8)->Nat->Nat
 | [],i=>i
 | v::r,i=>if (s==v)=true then i else rkN s r (i + 1)
theorem AAY (s:List UInt8):∀ (l:List (List UInt8)) (i:Nat),Oh l s=false->rkN s l i=i + l.length
 | [],i,_=>rfl
 | v::r,i,h=>by
  have h':((s==v)||Oh r s)=false:=h
  simp only [Bool.or_eq_false_iff] at h'
  unfold rkN
  rw [if_neg (show ¬ (s==v)=true by rw [h'.1]; decide),AAY s r (i + 1) h'.2]
  simp; omega
theorem Z7 (s:List UInt8):∀ (l:List (List UInt8)) (i:Nat),goU (fun v i (k:Option (Unit ⊕ Int))=>if (s==v)=true then some (.inr (i:Int)) else k) (some (.inl ())) l i=some (if Oh l s=true then .inr (rkN s l i:Int) else .inl ())
 | [],_=>rfl
 | v::r,i=>by
  unfold goU rkN
  rw [Z7 s r (i + 1)]
  have:Oh (v::r) s=((s==v)||Oh r s):=rfl
  rw [this]
  cases (s==v) <;> rfl
theorem AC7 (s:List UInt8) (l:List (List UInt8)) (i:Nat):goU (fun v i (k:Option (Unit ⊕ Int))=>if (v==s)=true then some (.inr (i:Int)) else k) (some (.inl ())) l i=some (if Oh l s=true then .inr (rkN s l i:Int) else .inl ()):=by
 rw [<-Z7]
 congr 1
 funext v i k
 rw [Bool.beq_comm]
def rk (l:List (List UInt8)) (s:List UInt8):Int:=(rkN s l 0:Nat)
theorem ACK (x:A6) (c:AF) (h:c.2.2.2.1.length<=99999):Ev x c=some (rk c.2.2.2.1 x.1.2.1):=by
 unfold Ev CH
 have e:Bc c.2.2.2.1 x.1.2.1 100000 0=some (if Oh c.2.2.2.1 x.1.2.1=true then .inr (rkN x.1.2.1 c.2.2.2.1 0:Int) else .inl ()):=by
  rw [<-Z7]
  refine LZ c.2.2.2.1 (Bc c.2.2.2.1 x.1.2.1) _ _ 100000 (by omega) (fun f pre v r e=>?_) (fun f=>?_)
  ·conv=>lhs; unfold Bc
   rw [if_pos (by rw [e]; exact HI pre v r),show idx c.2.2.2.1 (pre.length:Int)=some v by rw [e,D8],OS,FJ pre v r (by rw [<-e]; omega)]
  ·conv=>lhs; unfold Bc
   rw [if_neg (by simp)]
 rw [e]
 cases hh:Oh c.2.2.2.1 x.1.2.1 with
 | true=>simp [rk]
 | false=>simp [rk,AAY _ _ _ hh]
theorem ACL (l:List (List UInt8)) (s:List UInt8) (h:l.length<=99999):I1 l s=some (rk l s):=by
 unfold I1
 have e:Gi l s 100000 0=some (if Oh l s=true then .inr (rkN s l 0:Int) else .inl ()):=by
  rw [<-AC7]
  refine LZ l (Gi l s) _ _ 100000 (by omega) (fun f pre v r e=>?_) (fun f=>?_)
  ·conv=>lhs; unfold Gi
   rw [if_pos (by rw [e]; exact HI pre v r),show idx l (pre.length:Int)=some v by rw [e,D8],OS,FJ pre v r (by rw [<-e]; omega)]
  ·conv=>lhs; unfold Gi
   rw [if_neg (by simp)]
 rw [e]
 cases hh:Oh l s with
 | true=>simp [rk]
 | false=>simp [rk,AAY _ _ _ hh]
/-- -1, 0 or 1. -/
def Od (x y:Int):Int:=if x < y then -1 else if y < x then 1 else 0
theorem ABC (x y:Int):C6 x y=some (Od x y):=by
 unfold C6 HN Od
 simp only [bne_self_eq_false,OS,Bool.false_eq_true,if_false,decide_eq_true_eq,gt_iff_lt]
 split
 ·rfl
 ·split <;> rfl
def ZW (x y:List UInt8):Int:=if Go.Op.bytesLess x y=true then -1 else if (!(Go.Op.bytesLess x y||x==y))=true then 1 else 0
theorem AFk (x y:List UInt8):EK x y=some (ZW x y):=by
 unfold EK FV ZW
 simp only [beq_self_eq_true,Bool.not_true,OS,Bool.false_eq_true,if_false]
 split
 ·rfl
 ·split <;> rfl
/-- Does a clause name a guest? -/
def nmB (c:AF) (g:Ai):Bool :=
 if (c.1==4)=true then g.2.2.2.2.1==c.2.2.2.2 else
 if (c.1==5)=true then g.2.2.2.2.2.2.1 else
 if (c.1==7)=true then Oh c.2.2.2.1 g.2.2.1 else g.2.2.2.2.2.2.2.2.any fun s=>Oh c.2.2.2.1 s
theorem ACI (l:List (List UInt8)):∀ (t:List (List UInt8)) (i:Nat),goU (fun v _ (k:Option (Unit ⊕ Bool))=>if Oh l v=true then some (.inr true) else k) (some (.inl ())) t i=some (if (t.any fun s=>Oh l s)=true then .inr true else .inl ())
 | [],_=>rfl
 | v::r,i=>by
  unfold goU
  rw [ACI l r (i + 1),List.any_cons]
  cases Oh l v <;> rfl
theorem AAI (c:AF) (g:Ai) (h:c.2.2.2.1.length<=99999) (ht:g.2.2.2.2.2.2.2.2.length<=99999):Gp c g=some (nmB c g):=by
 unfold Gp nmB
 split
 ·rfl
 split
 ·rfl
 split
 ·rw [Ye _ _ h]; rfl
 have e:F4 c g 100000 0=some (if (g.2.2.2.2.2.2.2.2.any fun s=>Oh c.2.2.2.1 s)=true then .inr true else .inl ()):=by
  rw [<-ACI _ _ 0]
  refine LZ g.2.2.2.2.2.2.2.2 (F4 c g) _ _ 100000 (by omega) (fun f pre v r e=>?_) (fun f=>?_)
  ·conv=>lhs; unfold F4
   rw [if_pos (by rw [e]; exact HI pre v r),show idx g.2.2.2.2.2.2.2.2 (pre.length:Int)=some v by rw [e,D8],OS,Ye _ _ h,OS,FJ pre v r (by rw [<-e]; omega)]
  ·conv=>lhs; unfold F4
   rw [if_neg (by simp)]
 rw [e]
 cases (g.2.2.2.2.2.2.2.2.any fun s=>Oh c.2.2.2.1 s) <;> rfl
theorem XW (t:List (List UInt8)) (c:AF) (ht:t.length<=99999) (h:c.2.2.2.1.length<=99999):Aq t c=some (t.any fun s=>Oh c.2.2.2.1 s):=by
 unfold Aq BC
 obtain ⟨n,h1,h2⟩:=P7 t ht (fun v=>GD v c) (fun s=>Oh c.2.2.2.1 s) (fun v _=>by unfold GD; rw [L6 _ _ h]; rfl) (BT t c) (fun f c=>rfl)
 rw [<-h2]
 exact (congrArg (fun o=>o.bind fun v1=>some (decide (v1≥0))) h1)
def nv (c:AF) (g:Ai):Int:=if (!(nmB c g==c.2.2.1))=true then 0 else 1
def QY (i:Int):Bool:=decide (i≥0)&&decide (i<=63)
theorem AFz (i:Int):Dm i=some (QY i):=by
 unfold Dm QY
 by_cases h:i≥0 <;> simp [h]
theorem AEb (i:Int):Bb i 0 63=some (QY i):=by
 unfold Bb QY
 by_cases h:i≥0 <;> simp [h]
def kyI (i n:Int):Int:=(wr .i64 ((wr .i64 (i * (wr .i64 ((wr .i64 (n + n)) + 1)))) + n)).tmod 64
theorem AF1 (i:Int) (c:AF):Fk i c=some (kyI i c.2.2.2.2):=by
 unfold Fk kyI
 rw [Int.two_mul]
theorem AEg (i n:Int):MS i n=some (kyI i n):=rfl
def b2 (b:Bool):Int:=if b=true then 1 else 0
theorem AGR (b:Bool):L7 b=some (b2 b):=by cases b <;> rfl
def snc (y:Bool) (s t:Int):Int:=if (!((s==0)==(t==0)))=true then Od (b2 (s==0)) (b2 (t==0)) else if y=true then wr .i64 (0 - Od s t) else Od s t
/-- What a clause says of two guests at their places, without regard to Among. -/
def TP (c:AF) (a b:Ai) (i j:Int):Int :=
 if (c.1==1)=true then Od (rk c.2.2.2.1 a.2.1) (rk c.2.2.2.1 b.2.1) else
 if (c.1==2)=true then snc false a.2.2.2.1 b.2.2.2.1 else
 if (c.1==3)=true then snc true a.2.2.2.1 b.2.2.2.1 else
 if (c.1==8)=true then ZW a.1 b.1 else
 if (c.1==9)=true then if (!QY i||!QY j)=true then 0 else Od i j else
 if (c.1==10)=true then if (!QY i||!QY j)=true then 0 else Od (kyI i c.2.2.2.2) (kyI j c.2.2.2.2) else
 Od (nv c a) (nv c b)
def amB (c:AF) (a b:Ai):Bool:=(!(c.2.1==[]))&&((!(a.2.1==c.2.1))||(!(b.2.1==c.2.1)))
def dir (c:AF) (a b:Ai) (i j:Int):Int:=if amB c a b=true then 0 else TP c a b i j
theorem AGG (c:AF) (a b:Ai):((if (!(c.2.1==[]))=true then if (!(a.2.1==c.2.1))=true then some true else some (!(b.2.1==c.2.1)) else some false):Option Bool)=some (amB c a b):=by
 unfold amB
 cases (c.2.1==[]) <;> cases (a.2.1==c.2.1) <;> rfl
theorem Yp (a b:Ai) (i j:Int) (c:AF):D5 (a,i) (b,j) c=some (snc (c.1==3) a.2.2.2.1 b.2.2.2.1):=by
 unfold D5 snc Ih
 simp only [AGR,ABC,OS]
 split
 ·rfl
 ·split <;> rfl
theorem AFm (c:AF) (a b:Ai) (i j:Int) (h:c.2.2.2.1.length<=99999) (ha:a.2.2.2.2.2.2.2.2.length<=99999) (hb:b.2.2.2.2.2.2.2.2.length<=99999) (hk:1<=c.1/\c.1<=10):GC (a,i) (b,j) c=some (dir c a b i j):=by
 have cl:∀ (o:Option Int) (x:Int),o=some x->((((if (!(c.2.1==[]))=true then if (!(a.2.1==c.2.1))=true then some true else some (!(b.2.1==c.2.1)) else some false):Option Bool).bind fun j2=>if j2=true then some 0 else o.bind fun v4=>some v4):Option Int)=some (if amB c a b=true then 0 else x):=fun o x e=>by
  rw [AGG,OS,e]
  cases amB c a b <;> rfl
 have nm:∀ (p q:Bool),((if (!(p==c.2.2.1))=true then some 0 else some 1:Option Int).bind fun v1=>(if (!(q==c.2.2.1))=true then some 0 else some 1:Option Int).bind fun v2=>(C6 v1 v2).bind fun v3=>some v3)=some (Od (if (!(p==c.2.2.1))=true then 0 else 1) (if (!(q==c.2.2.1))=true then 0 else 1)):=fun p q=>by
  simp only [ABC]
  cases (p==c.2.2.1) <;> cases (q==c.2.2.1) <;> rfl
 have pl:∀ (o:Int->Option Int) (k:Int->Int),(∀ i,o i=some (k i))->(((Dm i).bind fun v1=>((if (!v1)=true then some true else (Dm j).bind fun v2=>some (!v2)):Option Bool).bind fun j4=>if j4=true then some 0 else (o i).bind fun v6=>(o j).bind fun v7=>(C6 v6 v7).bind fun v8=>some v8):Option Int)=some (if (!QY i||!QY j)=true then 0 else Od (k i) (k j)):=fun o k e=>by
  simp only [AFz,OS,e,ABC]
  cases QY i <;> cases QY j <;> rfl
 unfold GC dir
 by_cases h1:c.1=1
 ·have e1:(c.1==1)=true:=by simp [h1]
  rw [if_pos e1]
  refine cl (DE (fun x (v:AF×Unit)=>Ev x v.1) (a,i) (b,j) (c,())) _ ?_
  unfold DE TP
  dsimp only
  rw [if_pos e1,ACK _ c h,OS,ACK _ c h,OS,ABC]; rfl
 rw [if_neg (show ¬ (c.1==1)=true by simpa using h1)]
 by_cases h2:c.1=2
 ·have e2:(c.1==2)=true:=by simp [h2]
  rw [if_pos e2]
  refine cl (D5 (a,i) (b,j) c) _ ?_
  unfold TP
  rw [if_neg (show ¬ (c.1==1)=true by simpa using h1),if_pos e2,Yp,h2]; rfl
 rw [if_neg (show ¬ (c.1==2)=true by simpa using h2)]
 by_cases h3:c.1=3
 ·have e3:(c.1==3)=true:=by simp [h3]
  rw [if_pos e3]
  refine cl (D5 (a,i) (b,j) c) _ ?_
  unfold TP
  rw [if_neg (show ¬ (c.1==1)=true by simpa using h1),if_neg (show ¬ (c.1==2)=true by simpa using h2),if_pos e3,Yp,h3]; rfl
 rw [if_neg (show ¬ (c.1==3)=true by simpa using h3)]
 by_cases h4:c.1=4
 ·have e4:(c.1==4)=true:=by simp [h4]
  rw [if_pos e4]
  refine cl (DE (fun x (v:AF×AF×Unit)=>Bu x v.1 v.2.1) (a,i) (b,j) (c,c,())) _ ?_
  have:TP c a b i j=Od (nv c a) (nv c b):=by unfold TP; simp [h4]
  rw [this]
  unfold nv nmB
  rw [if_pos e4,if_pos e4]
  exact nm _ _
 rw [if_neg (show ¬ (c.1==4)=true by simpa using h4)]
 by_cases h5:c.1=5
 ·have e5:(c.1==5)=true:=by simp [h5]
  rw [if_pos e5]
  refine cl (DE (fun x (v:Unit×AF×Unit)=>Bv x v.2.1) (a,i) (b,j) ((),c,())) _ ?_
  have:TP c a b i j=Od (nv c a) (nv c b):=by unfold TP; simp [h5]
  rw [this]
  unfold nv nmB
  simp only [h5]
  exact nm _ _
 rw [if_neg (show ¬ (c.1==5)=true by simpa using h5)]
 by_cases h6:c.1=6
 ·have e6:(c.1==6)=true:=by simp [h6]
  rw [if_pos e6]
  refine cl (DE (fun x (v:AF×AF×Unit)=>Be x v.1 v.2.1) (a,i) (b,j) (c,c,())) _ ?_
  have:TP c a b i j=Od (nv c a) (nv c b):=by unfold TP; simp [h6]
  rw [this]
  unfold DE Be IC
  dsimp only
  rw [XW _ _ ha h,XW _ _ hb h]
  unfold nv nmB
  simp only [h6]
  exact nm _ _
 rw [if_neg (show ¬ (c.1==6)=true by simpa using h6)]
 by_cases h7:c.1=7
 ·have e7:(c.1==7)=true:=by simp [h7]
  rw [if_pos e7]
  refine cl (DE (fun x (v:AF×AF×Unit)=>Bf x v.1 v.2.1) (a,i) (b,j) (c,c,())) _ ?_
  have:TP c a b i j=Od (nv c a) (nv c b):=by unfold TP; simp [h7]
  rw [this]
  unfold DE Bf ID
  dsimp only
  rw [L6 _ _ h,L6 _ _ h]
  unfold nv nmB
  simp only [h7]
  exact nm _ _
 rw [if_neg (show ¬ (c.1==7)=true by simpa using h7)]
 by_cases h8:c.1=8
 ·have e8:(c.1==8)=true:=by simp [h8]
  rw [if_pos e8]
  refine cl (Gg (a,i) (b,j)) _ ?_
  have:TP c a b i j=ZW a.1 b.1:=by unfold TP; simp [h8]
  rw [this]
  unfold Gg
  rw [AFk]; rfl
 rw [if_neg (show ¬ (c.1==8)=true by simpa using h8)]
 by_cases h10:c.1=10
 ·have e10:(c.1==10)=true:=by simp [h10]
  rw [if_pos e10]
  refine cl (Az (a,i) (b,j) c) _ ?_
  have:TP c a b i j=if (!QY i||!QY j)=true then 0 else Od (kyI i c.2.2.2.2) (kyI j c.2.2.2.2):=by unfold TP; simp [h10]
  rw [this]
  exact pl (fun i=>Fk i c) (fun i=>kyI i c.2.2.2.2) (fun i=>AF1 i c)
 rw [if_neg (show ¬ (c.1==10)=true by simpa using h10)]
 have h9:c.1=9:=by omega
 refine cl (A0 (a,i) (b,j)) _ ?_
 have:TP c a b i j=if (!QY i||!QY j)=true then 0 else Od i j:=by unfold TP; simp [h9]
 rw [this]
 exact pl (fun i=>HU i) (fun i=>i) (fun i=>rfl)
/-- Does a guest go before another by a clause? -/
def bf (c:AF) (a b:Ai) (i j:Int):Bool :=
 if (c.1==1)=true then decide (rk c.2.2.2.1 a.2.1 < rk c.2.2.2.1 b.2.1) else
 if (c.1==2)=true then (a.2.2.2.1 != 0)&&((b.2.2.2.1==0)||decide (a.2.2.2.1 < b.2.2.2.1)) else
 if (c.1==3)=true then (a.2.2.2.1 != 0)&&((b.2.2.2.1==0)||decide (a.2.2.2.1 > b.2.2.2.1)) else
 if (c.1==8)=true then Go.Op.bytesLess a.1 b.1 else
 if (c.1==9)=true then QY i&&(QY j&&decide (i < j)) else
 if (c.1==10)=true then QY i&&(QY j&&decide (kyI i c.2.2.2.2 < kyI j c.2.2.2.2)) else
 if c.2.2.1=true then (!nmB c a)&&nmB c b else nmB c a&&!nmB c b
theorem YU (c:AF) (a b:Ai) (i j:Int) (h:c.2.2.2.1.length<=99999) (ha:a.2.2.2.2.2.2.2.2.length<=99999) (hb:b.2.2.2.2.2.2.2.2.length<=99999):HJ c a b i j=some (bf c a b i j):=by
 unfold HJ bf
 rw [ACL _ _ h,ACL _ _ h,AAI c a h ha,AAI c b h hb,AEb,AEb,AEg,AEg]
 simp only [OS]
 split
 ·rfl
 split
 ·cases (a.2.2.2.1 != 0) <;> cases (b.2.2.2.1==0) <;> rfl
 split
 ·cases (a.2.2.2.1 != 0) <;> cases (b.2.2.2.1==0) <;> rfl
 split
 ·rfl
 split
 ·cases QY i <;> cases QY j <;> rfl
 split
 ·cases QY i <;> cases QY j <;> rfl
 split
 ·cases nmB c a <;> cases nmB c b <;> rfl
 ·cases nmB c a <;> cases nmB c b <;> rfl
theorem Vm:∀ (x y:List UInt8),Go.Op.bytesLess x y=false->Go.Op.bytesLess y x=!(x==y)
 | [],[],_=>rfl
 | a::x,[],_=>rfl
 | [],b::y,h=>by cases h
 | a::x,b::y,h=>by
  have h':(decide (a < b)||(a==b&&Go.Op.bytesLess x y))=false:=h
  simp only [Bool.or_eq_false_iff,decide_eq_false_iff_not] at h'
  show (decide (b < a)||(b==a&&Go.Op.bytesLess y x))=!(a::x==b::y)
  by_cases e:a=b
  ·subst e
   have h2:Go.Op.bytesLess x y=false:=by simpa using h'.2
   have:=Vm x y h2
   simp [this]
  ·have hlt:b < a:=by
    rcases Nat.lt_trichotomy a.toNat b.toNat with q | q | q
    ·exact absurd (UInt8.lt_iff_toNat_lt.2 q) h'.1
    ·exact absurd (UInt8.toNat_inj.1 q) e
    ·exact UInt8.lt_iff_toNat_lt.2 q
   simp [hlt,e]
theorem AAg (y:Bool) (s t:Int):snc y s t=if ((s != 0)&&((t==0)||(if y=true then decide (s > t) else decide (s < t))))=true then -1 else if ((t != 0)&&((s==0)||(if y=true then decide (t > s) else decide (t < s))))=true then 1 else 0:=by
 have w1:wr .i64 1=1:=by decide
 have w2:wr .i64 (-1) = -1:=by decide
 have w3:wr .i64 0=0:=by decide
 unfold snc Od b2
 by_cases hs:s=0 <;> by_cases ht:t=0
 ·subst hs ht; cases y <;> simp [w3]
 ·subst hs; simp [ht]
 ·subst ht; simp [hs]
 ·have e1:(s==0)=false:=by simpa using hs
  have e2:(t==0)=false:=by simpa using ht
  have e3:(s != 0)=true:=by simpa using hs
  have e4:(t != 0)=true:=by simpa using ht
  rw [e1,e2,e3,e4]
  rcases Int.lt_trichotomy s t with q | q | q
  ·have q2:¬ t < s:=by omega
   cases y <;> simp [q,q2,w1]
  ·subst q; cases y <;> simp [w3]
  ·have q2:¬ s < t:=by omega
   cases y <;> simp [q,q2,w2]
theorem AEs (c:AF) (a b:Ai) (i j:Int):TP c a b i j=if bf c a b i j=true then -1 else if bf c b a j i=true then 1 else 0:=by
 unfold TP bf
 split
 ·unfold Od; simp
 split
 ·rw [AAg]; simp
 split
 ·rw [AAg]; simp
 split
 ·unfold ZW
  cases h:Go.Op.bytesLess a.1 b.1 with
  | true=>rfl
  | false=>rw [Vm _ _ h]; simp
 split
 ·unfold Od
  cases QY i <;> cases QY j <;> simp
 split
 ·unfold Od
  cases QY i <;> cases QY j <;> simp
 ·unfold nv Od
  cases nmB c a <;> cases nmB c b <;> cases c.2.2.1 <;> decide
/-- The first clause that separates two guests. -/
def rsn (a b:Ai) (i j:Int):List AF->Nat->Unit ⊕ (Int×Int)
 | [],_=> .inl ()
 | x::r,k=>if dir x a b i j=0 then rsn a b i j r (k + 1) else .inr ((k:Int),dir x a b i j)
def ADw (c:List AF) (a b:Ai) (i j:Int):Int×Int:=match rsn a b i j c 0 with
 | .inl _=>(-1,0)
 | .inr w=>w
theorem AEV (a b:Ai) (i j:Int):∀ (r:List AF) (k:Nat),goU (fun x k (n:Option (Unit ⊕ (Int×Int)))=>if (dir x a b i j != 0)=true then some (.inr ((k:Int),dir x a b i j)) else n) (some (.inl ())) r k=some (rsn a b i j r k)
 | [],_=>rfl
 | x::r,k=>by
  unfold goU rsn
  rw [AEV a b i j r (k + 1)]
  by_cases h:dir x a b i j=0 <;> simp [h]
theorem AEW (a b:Ai) (i j:Int):∀ (r:List AF) (k:Nat),goU (fun x k (n:Option (Unit ⊕ (Int×Int)))=>if amB x a b=true then n else if bf x a b i j=true then some (.inr ((k:Int),-1)) else if bf x b a j i=true then some (.inr ((k:Int),1)) else n) (some (.inl ())) r k=some (rsn a b i j r k)
 | [],_=>rfl
 | x::r,k=>by
  unfold goU rsn
  rw [AEW a b i j r (k + 1)]
  unfold dir
  rw [AEs]
  cases amB x a b <;> cases bf x a b i j <;> cases bf x b a j i <;> simp
def Wn (g:Ai):Prop:=g.2.2.2.2.2.2.2.2.length<=10
def ADB (c:List AF):Prop:=∀ x ∈ c,1<=x.1/\x.1<=10
theorem ACz (c:List AF) (a b:Ai) (i j:Int) (h:few c) (hk:ADB c) (ha:Wn a) (hb:Wn b):BI c (a,i) (b,j)=some (ADw c a b i j):=by
 have hl:=h.1
 have e:Au c 100000 a.1 a.2.1 a.2.2.1 a.2.2.2.1 a.2.2.2.2.1 a.2.2.2.2.2.1 a.2.2.2.2.2.2.1 a.2.2.2.2.2.2.2.1 a.2.2.2.2.2.2.2.2 i b.1 b.2.1 b.2.2.1 b.2.2.2.1 b.2.2.2.2.1 b.2.2.2.2.2.1 b.2.2.2.2.2.2.1 b.2.2.2.2.2.2.2.1 b.2.2.2.2.2.2.2.2 j 0=some (rsn a b i j c 0):=by
  rw [<-AEV]
  refine LZ c (fun f n=>Au c f a.1 a.2.1 a.2.2.1 a.2.2.2.1 a.2.2.2.2.1 a.2.2.2.2.2.1 a.2.2.2.2.2.2.1 a.2.2.2.2.2.2.2.1 a.2.2.2.2.2.2.2.2 i b.1 b.2.1 b.2.2.1 b.2.2.2.1 b.2.2.2.2.1 b.2.2.2.2.2.1 b.2.2.2.2.2.2.1 b.2.2.2.2.2.2.2.1 b.2.2.2.2.2.2.2.2 j n) _ _ 100000 (by omega) (fun f pre v r e=>?_) (fun f=>?_)
  ·conv=>lhs; unfold Au
   have hv:Zv v:=h.2 v (by rw [e]; simp)
   have hd:=AFm v a b i j (by have:=hv.2.1; omega) (by unfold Wn at ha; omega) (by unfold Wn at hb; omega) (hk v (by rw [e]; simp))
   rw [if_pos (by rw [e]; exact HI pre v r),show idx c (pre.length:Int)=some v by rw [e,D8],OS]
   rw [show GC ((a.1,a.2.1,a.2.2.1,a.2.2.2.1,a.2.2.2.2.1,a.2.2.2.2.2.1,a.2.2.2.2.2.2.1,a.2.2.2.2.2.2.2.1,a.2.2.2.2.2.2.2.2),i) ((b.1,b.2.1,b.2.2.1,b.2.2.2.1,b.2.2.2.2.1,b.2.2.2.2.2.1,b.2.2.2.2.2.2.1,b.2.2.2.2.2.2.2.1,b.2.2.2.2.2.2.2.2),j) v=some (dir v a b i j) from hd,OS,FJ pre v r (by rw [<-e]; omega)]
  ·show Au c (f + 1) a.1 a.2.1 a.2.2.1 a.2.2.2.1 a.2.2.2.2.1 a.2.2.2.2.2.1 a.2.2.2.2.2.2.1 a.2.2.2.2.2.2.2.1 a.2.2.2.2.2.2.2.2 i b.1 b.2.1 b.2.2.1 b.2.2.2.1 b.2.2.2.2.1 b.2.2.2.2.2.1 b.2.2.2.2.2.2.1 b.2.2.2.2.2.2.2.1 b.2.2.2.2.2.2.2.2 j (c.length:Int)=_
   conv=>lhs; unfold Au
   rw [if_neg (by simp)]
 unfold BI ADw
 dsimp only
 rw [e,OS]
 cases rsn a b i j c 0 <;> rfl
theorem ABl (c:List AF) (a b:Ai) (i j:Int) (h:few c) (ha:Wn a) (hb:Wn b):H6 c a b i j=some (ADw c a b i j):=by
 have hl:=h.1
 have e:EO c a b i j 100000 0=some (rsn a b i j c 0):=by
  rw [<-AEW]
  refine LZ c (EO c a b i j) _ _ 100000 (by omega) (fun f pre v r e=>?_) (fun f=>?_)
  ·conv=>lhs; unfold EO
   have hv:Zv v:=h.2 v (by rw [e]; simp)
   have hb1:=YU v a b i j (by have:=hv.2.1; omega) (by unfold Wn at ha; omega) (by unfold Wn at hb; omega)
   have hb2:=YU v b a j i (by have:=hv.2.1; omega) (by unfold Wn at hb; omega) (by unfold Wn at ha; omega)
   have hi:idx c (pre.length:Int)=some v:=by rw [e,D8]
   rw [if_pos (by rw [e]; exact HI pre v r),hi,OS,OS,OS,AGG,OS,OS,OS,hb1,OS,hb2,OS,FJ pre v r (by rw [<-e]; omega)]
  ·conv=>lhs; unfold EO
   rw [if_neg (by simp)]
 unfold H6 ADw
 rw [e,OS]
 cases rsn a b i j c 0 <;> rfl
theorem XH (c:List AF) (h:few c) (hk:ADB c):∀ (r pre:List AF) (f:Nat),c=pre++r->r.length < f->FF c f pre (pre.length:Int)=some c
 | [],pre,f + 1,e,_=>by
  unfold FF
  rw [if_neg (by rw [e]; simp),e,List.append_nil]
 | v::r,pre,f + 1,e,hf=>by
  have hl:=h.1
  have hl2:c.length=pre.length + r.length + 1:=by rw [e]; simp; omega
  simp only [List.length_cons] at hf
  have hkv:=hk v (by rw [e]; simp)
  unfold FF
  rw [if_pos (by rw [e]; exact HI pre v r),show idx c (pre.length:Int)=some v by rw [e,D8],OS,show HT v=some v by unfold HT; rw [if_pos hkv],OS,if_pos (HM (by omega) (by omega)),show wr .i64 ((pre.length:Int) + 1)=((pre++[v]).length:Int) from FJ pre v r (by rw [<-e]; omega)]
  exact XH c h hk r (pre++[v]) f (by rw [e]; simp) (by omega)
theorem AC0 {x:AF}(h:fm x=true):1<=x.1/\x.1<=10:=by
 by_cases hk:1<=x.1/\x.1<=10
 ·exact hk
 ·exfalso
  have n:∀ q:Int,1<=q->q<=10->¬ (x.1==q)=true:=fun q h1 h2 e=>hk (by have:x.1=q:=(by simpa using e); omega)
  have e:BJ x=some false:=by
   unfold BJ H7 H8 H9 IA
   have n9:(x.1==9)=false:=by simpa using n 9 (by omega) (by omega)
   have n7:(x.1==7)=false:=by simpa using n 7 (by omega) (by omega)
   rw [if_neg (n 1 (by omega) (by omega)),if_neg (n 2 (by omega) (by omega)),if_neg (n 3 (by omega) (by omega)),if_neg (n 8 (by omega) (by omega)),if_neg (n 4 (by omega) (by omega)),if_neg (n 5 (by omega) (by omega)),if_neg (n 6 (by omega) (by omega)),if_neg (n 10 (by omega) (by omega)),n9,n7]
   rfl
  unfold fm at h
  rw [e] at h
  cases h
theorem Vq (c:List AF):∀ (r:List AF) (i:Nat),(∃ u,ZA c r i = .inl u/\∀ x ∈ r,fm x=true)\/∃ w,ZA c r i = .inr w/\w.2≠0
 | [],i=> .inl ⟨(),rfl,fun x hx=>by cases hx⟩
 | x::r,i=>by
  unfold ZA
  by_cases h:chk (c.take i) x=0
  ·rw [if_neg (by simpa using h)]
   rcases Vq c r (i + 1) with ⟨u,h1,h2⟩ | h1
   ·refine .inl ⟨u,h1,fun y hy=>?_⟩
    rcases List.mem_cons.1 hy with rfl | hy
    ·cases hf:fm y with
     | true=>rfl
     | false=>unfold chk at h; rw [if_pos hf] at h; cases h
    ·exact h2 y hy
   ·exact .inr h1
  ·rw [if_pos h]
   exact .inr ⟨_,rfl,h⟩
theorem UZ {c:List AF}(h:(Wv c).2=0):ADB c:=by
 unfold Wv at h
 split at h
 ·cases h
 ·rcases Vq c c 0 with ⟨u,h1,h2⟩ | ⟨w,h1,h2⟩
  ·exact fun x hx=>AC0 (h2 x hx)
  ·rw [h1] at h; exact absurd h h2
section
variable {P:Program}{ops:Array Oper}{C:World->Prop}{Q:Act->World->Prop}{loud:Nat->Bool}{T:Nat}
/-- Loud operations that may come up now: one of them is the first loud one, if every other stands behind one of them. -/
theorem Uc {n:Nat}(L:List Nat) (hL:L≠[]) (ht:OJ ops loud T n) (hin:∀ i ∈ L,∃ o,ops[i]? = some o) (hsel:∀ (j:Nat) (o:Oper) cs b,ops[j]? = some o->o.op≠ .select cs b) :
  ∀ (fuel:Nat) (listed:Array Bool) (a:Act) (w:World),(∀ j,j < ops.size->j ∉ L->loud j=true->listed.getD j true=false->∃ i ∈ L,I4 ops n j i=true)->Closed ops listed->listed.size=ops.size->(Wo ops loud T listed->C w) ->
   (∀ i ∈ L,∀ oi,ops[i]? = some oi->∀ j oj,ops[j]? = some oj->j≠i->listed.getD j true=false->(∀ e ∈ oj.after,Region.binds .any e=true->e.on≠i)->oi.apart ops oj=true) ->
   (∀ i ∈ L,i ∈ Region.ready .any ops listed) ->
   (∀ i ∈ L,mOp P ops C loud i (wpM P ops C loud T Q fuel (listed.setIfInBounds i true)) a w)->wpM P ops C loud T Q (fuel + 1) listed a w:=by
 intro fuel
 obtain ⟨i0,hi0⟩:=List.exists_mem_of_ne_nil L hL
 obtain ⟨o0,ho0⟩:=hin i0 hi0
 induction fuel with
 | zero =>
  intro listed a w _ _ _ hC _ hr H
  refine ⟨hC,fun h=>(by have:=hr i0 hi0; rw [h] at this; cases this),fun j hj=>?_⟩
  by_cases hji:j ∈ L
  ·exact H j hji
  ·obtain ⟨u,w',h1⟩:=MO ho0 (H i0 hi0)
   have:=ready_mono hj (fun e=>hji (e ▸ hi0))
   rw [h1.2.1] at this
   cases this
 | succ fuel ih =>
  intro listed a w hT hcl hsz hC hfree hr H
  refine ⟨hC,fun h=>(by have:=hr i0 hi0; rw [h] at this; cases this),fun j hj=>?_⟩
  by_cases hji:j ∈ L
  ·exact H j hji
  obtain ⟨hjun,oj,hoj,hall⟩:=mem_ready.1 hj
  have hnl:∀ i ∈ L,¬ listed.getD i false=true:=fun i hi h1=>by
   obtain ⟨ox,hx⟩:=hin i hi
   have hun:=(mem_ready.1 (hr i hi)).1
   have hlt:i < ops.size:=(Array.getElem?_eq_some_iff.1 hx).1
   have h':i < listed.size:=by omega
   simp [h'] at hun h1; rw [hun] at h1; cases h1
  have hne:∀ i ∈ L,j≠i:=fun i hi e=>hji (e ▸ hi)
  have hnot:∀ i ∈ L,∀ e ∈ oj.after,Region.binds .any e=true->e.on≠i:=fun i hi e he hb heq=>hnl i hi (by rw [<-heq]; exact hall e he hb)
  have hjlt:j < ops.size:=(Array.getElem?_eq_some_iff.1 hoj).1
  have hlj:loud j=false:=by
   cases hlj:loud j with
   | false=>rfl
   | true =>
    obtain ⟨i,hi,hw⟩:=hT j hjlt hji hlj hjun
    exact absurd (MU hcl n j i hw fun o ho e he hb=>by rw [hoj] at ho; injection ho with ho; subst ho; exact hall e he hb) (hnl i hi)
  have ap:∀ i ∈ L,∀ oi,ops[i]? = some oi->oi.apart ops oj=true:=fun i hi oi hoi=>hfree i hi oi hoi j oj hoj (hne i hi) hjun (hnot i hi)
  have hun':∀ k,(listed.setIfInBounds j true).getD k true=false->listed.getD k true=false:=fun k hun=>by
   by_cases hjk:j=k
   ·subst hjk; exact hjun
   ·rw [getD_set_ne true hjk] at hun; exact hun
  have hCw:Wo ops loud T (listed.setIfInBounds j true)->C w:=fun hn=>hC fun k hTk hk hlk=>hun' k (hn k hTk hk hlk)
  obtain ⟨ap1,ap2,ap3⟩:=Oper.apart_spec (ap i0 hi0 o0 ho0)
  obtain ⟨u,w',h1⟩:=MO ho0 (H i0 hi0)
  obtain ⟨v,hy,_⟩:=FE hoj hlj (h1.2.2 j (ready_mono hj (hne i0 hi0)))
  have hya:YieldsM P ops C oj v a:=hy.same (execOp_put oj (fun cs b=>hsel j oj cs b hoj) _ o0.dst u ap1).symm (wanted_put oj _ o0.dst u ap1).symm
  refine hya.mOp hoj hlj ?_
  exact ih (listed.setIfInBounds j true) (a.put oj.dst v) w (fun k hk h1 h2 h3=>hT k hk h1 h2 (hun' k h3)) (hcl.set hj) (by simpa using hsz) hCw (fun i hi oi hoi k ok hk h1 h2 h3=>hfree i hi oi hoi k ok hk h1 (hun' k h2) h3) (fun i hi=>ready_mono (hr i hi) (Ne.symm (hne i hi)))
   (fun i hi=>by
    obtain ⟨oi,hoi⟩:=hin i hi
    obtain ⟨bp1,bp2,bp3⟩:=Oper.apart_spec (ap i hi oi hoi)
    exact Tx ht hoi hoj hsel hcl hsz bp1 bp2 bp3 (hr i hi) hj (hne i hi) hlj hya (H i hi))
/-- What holds of the region throughout. -/
structure MOk (ops:Array Oper) (T:Nat):Prop where
 ns:Region.noSelect ops=true
 tl:OJ ops (GP ops T) T ops.size
 tT:T < ops.size->GP ops T T=true
/-- What is checked of an operation that may come up now. -/
def QI (ops:Array Oper) (m:List Bool) (i:Nat):Bool:=(Region.ready .any ops m.toArray).contains i&&Region.free .any ops m.toArray i
def VZ (ops:Array Oper) (T:Nat) (m:List Bool) (L:List Nat):Bool :=
 (L.all fun i=>QI ops m i)&&(List.range ops.size).all fun j=>L.contains j||!GP ops T j||m.toArray.getD j true||L.any fun i=>I4 ops ops.size j i
def Yw (ops:Array Oper) (T p f:Nat) (m:List Bool):Bool :=
 Nat.beq (p + f) ops.size&&Region.lexFrom .any ops f p m.toArray&&((List.range p).all fun j=>m.toArray.getD j true)&&(List.range ops.size).all fun k=>!(Nat.ble p k&&GP ops T k)||(List.range ops.size).all fun j=>!(Nat.blt k j&&GP ops T j)||I4 ops ops.size j k
end
def RunM (E:Env) (ops:Array Oper) (T n0 f:Nat) (m:List Bool) (s:St) (K:St->Prop):Prop :=
 ∀ (base:Bs) (Q:Act->World->Prop) (w0:World) (Z:Nat->Prop) (R0:List RI) (h0:Hp) (a:Act) (w:World) (R:List RI),MOk ops T->Closed ops m.toArray->m.length=ops.size->HR w0 Z R0 h0->n0=h0.length->SR E base w Z R s a->w0.grownBy w none->Step w0 Z R0 h0 w Z R s.hp->(∀ (b:Nat) (B:Option Blk),h0[b]? = some B->s.hp[b]? = some B) ->
  (∀ s' a' w' Z' R',K s'->SR E base w' Z' R' s' a'->StepW w0 Z R0 h0 w' Z' R' s'.hp->Q a' w')->wpM E.P ops (fun w'=>w0.grownBy w' none) (GP ops T) T Q f m.toArray a w
section
variable {E:Env}{cx:Cx}{ops:Array Oper}{s s1:St}{K:St->Prop}{n0 f T i j k:Nat}{m:List Bool}{Q:Ex->St->Prop}{id:Nat}{o o2 o3:Oper}
theorem Ii (m:List Bool) (i:Nat):m.toArray.setIfInBounds i true=(m.set i true).toArray:=by simp
/-- An operation that is quiet. -/
theorem RunM.q (i:Nat) (hq:(QI ops m i&&!GP ops T i)=true) (ho:ops[i]? = some o) (h:Op1 E ops T n0 i o s fun s'=>RunM E ops T n0 f (m.set i true) s' K):RunM E ops T n0 (f + 1) m s K:=by
 intro base Q w0 Z R0 h0 a w R hM hcl hsz hh0 hn0 sr hgr st hpre q
 unfold QI at hq
 simp only [Bool.and_eq_true,Bool.not_eq_true'] at hq
 obtain ⟨⟨hr,hf⟩,hl⟩:=hq
 have hr':i ∈ Region.ready .any ops m.toArray:=by simpa using hr
 have hst:=h base (fun a w=>wpM E.P ops (fun w'=>w0.grownBy w' none) (GP ops T) T Q f (m.set i true).toArray a w) w0 Z R0 h0 a w R hh0 hn0 sr hgr st hpre ho fun s' a' w' R' hk sr' hg' st' hp' =>
  hk base Q w0 Z R0 h0 a' w' R' hM (by rw [<-Ii]; exact hcl.set hr') (by simpa using hsz) hh0 hn0 sr' hg' st' hp' q
 obtain ⟨v,hy,hK⟩:=FE ho hl hst
 refine Ng ho hl (Region.noSelect_spec hM.ns) f m.toArray a w (fun _=>hgr) hcl (by simpa using hsz) (Region.free_spec ho hf) hr' hy ?_
 rw [Ii]
 exact hK
/-- The loud ones that may come up now: each of them. -/
theorem RunM.loud (L:List Nat) (hne:L≠[]) (hl:VZ ops T m L=true) (h:∀ i ∈ L,∃ o,ops[i]? = some o/\Op1 E ops T n0 i o s fun s'=>RunM E ops T n0 f (m.set i true) s' K):RunM E ops T n0 (f + 1) m s K:=by
 intro base Q w0 Z R0 h0 a w R hM hcl hsz hh0 hn0 sr hgr st hpre q
 unfold VZ at hl
 simp only [Bool.and_eq_true] at hl
 obtain ⟨h1,h2⟩:=hl
 have hr:∀ i ∈ L,i ∈ Region.ready .any ops m.toArray/\Region.free .any ops m.toArray i=true:=fun i hi=>by
  have:=List.all_eq_true.1 h1 i hi
  unfold QI at this
  simp only [Bool.and_eq_true] at this
  exact ⟨by simpa using this.1,this.2⟩
 refine Uc (n:=ops.size) L hne hM.tl (fun i hi=>⟨_,(h i hi).choose_spec.1⟩) (Region.noSelect_spec hM.ns) f m.toArray a w (fun j hj hjL hlj hun=>?_) hcl (by simpa using hsz) (fun _=>hgr) (fun i hi oi hoi=>Region.free_spec hoi (hr i hi).2) (fun i hi=>(hr i hi).1) fun i hi=>?_
 ·have:=List.all_eq_true.1 h2 j (by simpa using hj)
  simp only [Bool.or_eq_true,Bool.not_eq_true',List.any_eq_true] at this
  rcases this with ((h3 | h3) | h3) | h3
  ·exact absurd (by simpa using h3) hjL
  ·rw [hlj] at h3; cases h3
  ·rw [hun] at h3; cases h3
  ·exact h3
 ·obtain ⟨o,ho,hop⟩:=h i hi
  rw [Ii]
  exact hop base (fun a w=>wpM E.P ops (fun w'=>w0.grownBy w' none) (GP ops T) T Q f (m.set i true).toArray a w) w0 Z R0 h0 a w R hh0 hn0 sr hgr st hpre ho fun s' a' w' R' hk sr' hg' st' hp' =>
   hk base Q w0 Z R0 h0 a' w' R' hM (by rw [<-Ii]; exact hcl.set (hr i hi).1) (by simpa using hsz) hh0 hn0 sr' hg' st' hp' q
/-- What is left stands in one order. -/
theorem AD5 (p:Nat) (hp:Yw ops T p f m=true) (h:RunDX E ops T n0 p (ops.toList.drop p) s K):RunM E ops T n0 f m s K:=by
 intro base Q w0 Z R0 h0 a w R hM hcl hsz hh0 hn0 sr hgr st hpre q
 unfold Yw at hp
 simp only [Bool.and_eq_true] at hp
 obtain ⟨⟨⟨h1,h2⟩,h3⟩,h4⟩:=hp
 have h1:=Nat.eq_of_beq_eq_true h1
 have hlen:(ops.toList.drop p).length=f:=by simp; omega
 have hops:∀ j,(ops.toList.drop p)[j]? = ops[p + j]?:=fun j=>by simp
 have:=TW hM.ns (n:=ops.size) (k0:=p) (fun k j hk hks hj hlk hlj hkj=>?_) hM.tl hM.tT (ops.toList.drop p) p m.toArray a w (Nat.le_refl _) (by omega) hops (by rw [hlen]; exact h2) hcl (by simpa using hsz) (fun j hj=>List.all_eq_true.1 h3 j (by simpa using hj)) (h base Q w0 Z R0 h0 a w R hh0 hn0 sr hgr st hpre hops q)
 ·rwa [hlen] at this
 ·have a1:=List.all_eq_true.1 h4 k (by simpa using hks)
  simp only [hlk,Nat.ble_eq_true_of_le hk,Bool.and_self,Bool.not_true,Bool.false_or] at a1
  have a2:=List.all_eq_true.1 a1 j (by simpa using hj)
  have hb:Nat.blt k j=true:=Nat.ble_eq_true_of_le hkj
  simpa [hlj,hb] using a2
end
/-- As Op1, of an operation behind which nothing is read any more. -/
def OpZ (E:Env) (ops:Array Oper) (T k:Nat) (o:Oper) (s:St) (Ks:St->Prop):Prop :=
 ∀ (base:Bs) (K:Act->World->Prop) (w0:World) (Z:Nat->Prop) (a:Act) (w:World) (R:List RI),SR E base w Z R s a->w0.grownBy w none->ops[k]? = some o ->
  (∀ s' a' w' Z' R',Ks s'->SR E base w' Z' R' s' a'->w0.grownBy w' none->StepW w Z R s.hp w' Z' R' s'.hp->K a' w')->mOp E.P ops (fun w'=>w0.grownBy w' none) (GP ops T) k K a w
def RunZ (E:Env) (ops:Array Oper) (T f:Nat) (m:List Bool) (s:St) (K:St->Prop):Prop :=
 ∀ (base:Bs) (Q:Act->World->Prop) (w0:World) (Z:Nat->Prop) (a:Act) (w:World) (R:List RI),MOk ops T->Closed ops m.toArray->m.length=ops.size->SR E base w Z R s a->w0.grownBy w none ->
  (∀ s' a' w' Z' R',K s'->SR E base w' Z' R' s' a'->StepW w Z R s.hp w' Z' R' s'.hp->Q a' w')->wpM E.P ops (fun w'=>w0.grownBy w' none) (GP ops T) T Q f m.toArray a w
section
variable {E:Env}{cx:Cx}{ops:Array Oper}{s s1:St}{K Ks:St->Prop}{n n0 f T i j k:Nat}{m:List Bool}{o o2 o3:Oper}{l:List (Nat×AV)}{hp:Hp}{fid:FuncId}
theorem AD2 (hE:EnvOk E) (hW:isW o.op=false) (hLd:Vv o.op=false) (hk:k < T) (e:opsD E (evC E 0) ⟨none,false⟩ ops n0 [o] s=some s1) (kk:Ks s1):OpZ E ops T k o s Ks:=by
 intro base K w0 Z a w R sr hgr hok q
 have hkT:¬ T<=k:=by omega
 unfold mOp
 rw [hok]
 dsimp only
 unfold opsD at e
 rw [if_neg (by rw [hW]; simp)] at e
 split at e
 ·cases e
 ·next hw =>
  rw [if_neg (by rw [wantedA_eq sr hw]; simp)]
  injection e with e
  subst e
  exact q _ _ w Z R kk (sr.put undef_vr) hgr (StepW.refl _ _ _ _)
 ·next hw =>
  rw [if_pos (wantedA_eq sr hw)]
  have hρ:∀ o x,opA E s.fr o=some x->VR w Z R x (a.eval o):=fun o x e=>opA_vr sr o x e
  split at e
  ·next x hx =>
   split at e
   ·injection e with e
    subst e
    have hq:=Tr hx
    rw [if_neg (by rw [PL hok hq hkT]; simp)]
    obtain ⟨u,hu,hrun⟩:=evOpQ_sound sr.hh hρ hx
    exact ⟨u,(fun w' _=>hrun w' fun h=>by rw [hLd] at h; cases h),q _ _ w Z R kk (sr.put hu) hgr (StepW.refl _ _ _ _)⟩
   ·cases e
  ·split at e
   ·next x h' hx =>
    injection e with e
    subst e
    have hq:=N6 hx
    rw [if_pos (Hc hok hq)]
    obtain ⟨u,w',R',h1,h2,h3,h4,h5⟩:=evOpN_sound hρ sr.hh hx
    exact RA h1 (q _ _ w' Z R' kk ((sr.step h2 h4).put h3) (GO hgr h5) h4.w)
   ·split at e
    ·next f args tys ho =>
     split at e
     ·next fv xs hf hxs =>
      split at e
      ·next r hr =>
       injection e with e
       subst e
       obtain ⟨x,h'⟩:=r
       have hq:isQ o.op=false:=by rw [ho]; rfl
       rw [if_pos (Hc hok hq)]
       obtain ⟨g,uf,uc,hva,hcl,hret⟩:=Ik hE (code_sound hE 0).1 (hρ _ _ hf) (opds_vr hρ hxs) sr.hh sr.gl hr
       unfold Lw
       rw [IG (uf:=uf) (uc:=uc) ho hva rfl hcl w]
       refine Ret.mono hret fun v w' hS=>?_
       obtain ⟨hg1,R',k1,k2,k3⟩:=hS
       exact q _ _ w' Z R' kk ((sr.step k1 k3).put k2) (GO hgr hg1) k3.w
      ·cases e
     ·cases e
    ·cases e
theorem AFa (hE:EnvOk E){s:St}(l:List (Nat×AV)) (hp:Hp) (hW:(!isW o.op&&!Vv o.op&&Nat.blt k T)=true) (h:WF (opsD E (evC E 0) ⟨none,false⟩ ops 0 [o] s) l=some (n,xs2 l,hp)) (kk:Ks ⟨Fr n l,hp⟩):OpZ E ops T k o s Ks:=by
 obtain ⟨fr,h1,h2,h3⟩:=KJ h
 simp only [Bool.and_eq_true,Bool.not_eq_true'] at hW
 intro base K w0 Z a w R sr hgr hok q
 exact AD2 (Ks:=fun s=>s=⟨fr,hp⟩) hE hW.1.1 hW.1.2 (Nat.le_of_ble_eq_true hW.2) h1 rfl base K w0 Z a w R sr hgr hok fun s' a' w' Z' R' hs sr' hg' st'=>by
  subst hs
  exact q _ a' w' Z' R' kk (sr'.forget h2 h3) hg' st'
theorem OpZ.one (hE:EnvOk E) (hW:(!isW o.op&&!Vv o.op&&Nat.blt k T)=true) (h:opsD E (evC E 0) ⟨none,false⟩ ops 0 [o] s=some s1) (kk:Ks s1):OpZ E ops T k o s Ks:=by
 simp only [Bool.and_eq_true,Bool.not_eq_true'] at hW
 exact AD2 hE hW.1.1 hW.1.2 (Nat.le_of_ble_eq_true hW.2) h kk
theorem RunM.z (h:RunZ E ops T f m s K):RunM E ops T n0 f m s K:=fun base Q w0 Z _ _ a w R hM hcl hsz _ _ sr hgr st _ q=>h base Q w0 Z a w R hM hcl hsz sr hgr fun s' a' w' Z' R' hK sr' st'=>q s' a' w' Z' R' hK sr' (st.w.trans st')
theorem RunZ.q (i:Nat) (hq:(QI ops m i&&!GP ops T i)=true) (ho:ops[i]? = some o) (h:OpZ E ops T i o s fun s'=>RunZ E ops T f (m.set i true) s' K):RunZ E ops T (f + 1) m s K:=by
 intro base Q w0 Z a w R hM hcl hsz sr hgr q
 unfold QI at hq
 simp only [Bool.and_eq_true,Bool.not_eq_true'] at hq
 obtain ⟨⟨hr,hf⟩,hl⟩:=hq
 have hr':i ∈ Region.ready .any ops m.toArray:=by simpa using hr
 have hst:=h base (fun a w=>wpM E.P ops (fun w'=>w0.grownBy w' none) (GP ops T) T Q f (m.set i true).toArray a w) w0 Z a w R sr hgr ho fun s' a' w' Z' R' hk sr' hg' st' =>
  hk base Q w0 Z' a' w' R' hM (by rw [<-Ii]; exact hcl.set hr') (by simpa using hsz) sr' hg' fun s2 a2 w2 Z2 R2 hK sr2 st2=>q s2 a2 w2 Z2 R2 hK sr2 (st'.trans st2)
 obtain ⟨v,hy,hK⟩:=FE ho hl hst
 refine Ng ho hl (Region.noSelect_spec hM.ns) f m.toArray a w (fun _=>hgr) hcl (by simpa using hsz) (Region.free_spec ho hf) hr' hy ?_
 rw [Ii]
 exact hK
theorem AD8 (L:List Nat) (hne:L≠[]) (hl:VZ ops T m L=true) (h:∀ i ∈ L,∃ o,ops[i]? = some o/\OpZ E ops T i o s fun s'=>RunZ E ops T f (m.set i true) s' K):RunZ E ops T (f + 1) m s K:=by
 intro base Q w0 Z a w R hM hcl hsz sr hgr q
 unfold VZ at hl
 simp only [Bool.and_eq_true] at hl
 obtain ⟨h1,h2⟩:=hl
 have hr:∀ i ∈ L,i ∈ Region.ready .any ops m.toArray/\Region.free .any ops m.toArray i=true:=fun i hi=>by
  have:=List.all_eq_true.1 h1 i hi
  unfold QI at this
  simp only [Bool.and_eq_true] at this
  exact ⟨by simpa using this.1,this.2⟩
 refine Uc (n:=ops.size) L hne hM.tl (fun i hi=>⟨_,(h i hi).choose_spec.1⟩) (Region.noSelect_spec hM.ns) f m.toArray a w (fun j hj hjL hlj hun=>?_) hcl (by simpa using hsz) (fun _=>hgr) (fun i hi oi hoi=>Region.free_spec hoi (hr i hi).2) (fun i hi=>(hr i hi).1) fun i hi=>?_
 ·have:=List.all_eq_true.1 h2 j (by simpa using hj)
  simp only [Bool.or_eq_true,Bool.not_eq_true',List.any_eq_true] at this
  rcases this with ((h3 | h3) | h3) | h3
  ·exact absurd (by simpa using h3) hjL
  ·rw [hlj] at h3; cases h3
  ·rw [hun] at h3; cases h3
  ·exact h3
 ·obtain ⟨o,ho,hop⟩:=h i hi
  rw [Ii]
  exact hop base (fun a w=>wpM E.P ops (fun w'=>w0.grownBy w' none) (GP ops T) T Q f (m.set i true).toArray a w) w0 Z a w R sr hgr ho fun s' a' w' Z' R' hk sr' hg' st' =>
   hk base Q w0 Z' a' w' R' hM (by rw [<-Ii]; exact hcl.set (hr i hi).1) (by simpa using hsz) sr' hg' fun s2 a2 w2 Z2 R2 hK sr2 st2=>q s2 a2 w2 Z2 R2 hK sr2 (st'.trans st2)
/-- The stores. -/
theorem AD9 (hp:Yw ops T T f m=true) (h:RunS E ops (ops.toList.drop T) s K):RunZ E ops T f m s K:=by
 intro base Q w0 Z a w R hM hcl hsz sr hgr q
 unfold Yw at hp
 simp only [Bool.and_eq_true] at hp
 obtain ⟨⟨⟨h1,h2⟩,h3⟩,h4⟩:=hp
 have h1:=Nat.eq_of_beq_eq_true h1
 have hlen:(ops.toList.drop T).length=f:=by simp; omega
 have hops:∀ j,(ops.toList.drop T)[j]? = ops[T + j]?:=fun j=>by simp
 have:=TW (C:=fun w'=>w0.grownBy w' none) hM.ns (n:=ops.size) (k0:=T) (fun k j hk hks hj hlk hlj hkj=>?_) hM.tl hM.tT (ops.toList.drop T) T m.toArray a w (Nat.le_refl _) (by omega) hops (by rw [hlen]; exact h2) hcl (by simpa using hsz) (fun j hj=>List.all_eq_true.1 h3 j (by simpa using hj))
  (PM (h base Q a w Z R sr q) (Nat.le_refl _) (fun _=>hgr) (fun j hj=>Pm (by omega)) hops)
 ·rwa [hlen] at this
 ·have a1:=List.all_eq_true.1 h4 k (by simpa using hks)
  simp only [hlk,Nat.ble_eq_true_of_le hk,Bool.and_self,Bool.not_true,Bool.false_or] at a1
  have a2:=List.all_eq_true.1 a1 j (by simpa using hj)
  have hb:Nat.blt k j=true:=Nat.ble_eq_true_of_le hkj
  simpa [hlj,hb] using a2
end
/-- Every order of what is not free is gone through, in the world as it is. -/
def RunA (E:Env) (ops:Array Oper) (f:Nat) (m:List Bool) (s:St) (K:St->Prop):Prop :=
 ∀ (base:Bs) (Q:Act->World->Prop) (a:Act) (w:World) (Z:Nat->Prop) (R:List RI),Region.noSelect ops=true->Closed ops m.toArray->m.length=ops.size->SR E base w Z R s a ->
  (∀ s' a' w' Z' R',K s'->SR E base w' Z' R' s' a'->StepW w Z R s.hp w' Z' R' s'.hp->Q a' w')->wpM E.P ops (fun _=>True) (GP ops 0) 0 Q f m.toArray a w
section
variable {E:Env}{cx:Cx}{ops:Array Oper}{s s1:St}{K:St->Prop}{f i j:Nat}{m:List Bool}{Q:Ex->St->Prop}{id k:Nat}{o o2 o3:Oper}
theorem ADJ {i:Nat}(h:GP ops 0 i=false):IK ops i=true:=by
 unfold GP at h
 simp only [Bool.or_eq_false_iff,Bool.and_eq_false_iff,Bool.not_eq_false'] at h
 rcases h.2 with h1 | h1
 ·cases h1
 ·exact h1
theorem AGC (n:Nat):OJ ops (GP ops 0) 0 n:=fun j _ _ _ i _ hl hf=>by rw [ADJ hl] at hf; cases hf
theorem RunA.q (i:Nat) (hq:(QI ops m i&&!GP ops 0 i)=true) (ho:ops[i]? = some o) (h:RunS E ops [o] s fun s'=>RunA E ops f (m.set i true) s' K):RunA E ops (f + 1) m s K:=by
 intro base Q a w Z R hns hcl hsz sr q
 unfold QI at hq
 simp only [Bool.and_eq_true,Bool.not_eq_true'] at hq
 obtain ⟨⟨hr,hf⟩,hl⟩:=hq
 have hr':i ∈ Region.ready .any ops m.toArray:=by simpa using hr
 have hst:=h base (fun a w=>wpM E.P ops (fun _=>True) (GP ops 0) 0 Q f (m.set i true).toArray a w) a w Z R sr fun s' a' w' Z' R' hk sr' st' =>
  hk base Q a' w' Z' R' hns (by rw [<-Ii]; exact hcl.set hr') (by simpa using hsz) sr' fun s2 a2 w2 Z2 R2 hK sr2 st2=>q s2 a2 w2 Z2 R2 hK sr2 (st'.trans st2)
 have hfr:Mr o=true:=by have:=ADJ hl; simpa [IK,ho] using this
 have hy:∃ v,YieldsM E.P ops (fun _=>True) o v a/\wpM E.P ops (fun _=>True) (GP ops 0) 0 Q f (m.set i true).toArray (a.put o.dst v) w:=by
  unfold LwL at hst
  split at hst
  ·next hw =>
   obtain ⟨u,h1,h2⟩:=hst
   exact ⟨u,.inl ⟨hw,fun w' _=>h1 w'⟩,h2⟩
  ·next hw=>exact ⟨undef,.inr ⟨by simpa using hw,rfl⟩,hst⟩
 obtain ⟨v,hy,hK⟩:=hy
 refine Ng ho hl (Region.noSelect_spec hns) f m.toArray a w (fun _=>trivial) hcl (by simpa using hsz) (Region.free_spec ho hf) hr' hy ?_
 rw [Ii]
 exact hK
theorem AD4 (L:List Nat) (hne:L≠[]) (hl:(VZ ops 0 m L&&L.all fun i=>!IK ops i)=true) (h:∀ i ∈ L,∃ o,ops[i]? = some o/\RunS E ops [o] s fun s'=>RunA E ops f (m.set i true) s' K):RunA E ops (f + 1) m s K:=by
 intro base Q a w Z R hns hcl hsz sr q
 simp only [Bool.and_eq_true] at hl
 obtain ⟨hl,hfr⟩:=hl
 unfold VZ at hl
 simp only [Bool.and_eq_true] at hl
 obtain ⟨h1,h2⟩:=hl
 have hr:∀ i ∈ L,i ∈ Region.ready .any ops m.toArray/\Region.free .any ops m.toArray i=true:=fun i hi=>by
  have:=List.all_eq_true.1 h1 i hi
  unfold QI at this
  simp only [Bool.and_eq_true] at this
  exact ⟨by simpa using this.1,this.2⟩
 refine Uc (n:=ops.size) L hne (AGC _) (fun i hi=>⟨_,(h i hi).choose_spec.1⟩) (Region.noSelect_spec hns) f m.toArray a w (fun j hj hjL hlj hun=>?_) hcl (by simpa using hsz) (fun _=>trivial) (fun i hi oi hoi=>Region.free_spec hoi (hr i hi).2) (fun i hi=>(hr i hi).1) fun i hi=>?_
 ·have:=List.all_eq_true.1 h2 j (by simpa using hj)
  simp only [Bool.or_eq_true,Bool.not_eq_true',List.any_eq_true] at this
  rcases this with ((h3 | h3) | h3) | h3
  ·exact absurd (by simpa using h3) hjL
  ·rw [hlj] at h3; cases h3
  ·rw [hun] at h3; cases h3
  ·exact h3
 ·obtain ⟨o,ho,hop⟩:=h i hi
  have hfi:IK ops i=false:=by simpa using List.all_eq_true.1 hfr i hi
  have hli:GP ops 0 i=true:=by
   cases hh:GP ops 0 i with
   | true=>rfl
   | false=>rw [ADJ hh] at hfi; cases hfi
  have hfo:Mr o=false:=by simpa [IK,ho] using hfi
  rw [Ii]
  have hst:=hop base (fun a w=>wpM E.P ops (fun _=>True) (GP ops 0) 0 Q f (m.set i true).toArray a w) a w Z R sr fun s' a' w' Z' R' hk sr' st' =>
   hk base Q a' w' Z' R' hns (by rw [<-Ii]; exact hcl.set (hr i hi).1) (by simpa using hsz) sr' fun s2 a2 w2 Z2 R2 hK sr2 st2=>q s2 a2 w2 Z2 R2 hK sr2 (st'.trans st2)
  unfold mOp
  rw [ho]
  dsimp only
  unfold LwL at hst
  split at hst
  ·next hw =>
   rw [if_pos hw,if_pos hli]
   rw [hfo] at hst
   exact hst
  ·next hw=>rw [if_neg hw]; exact hst
theorem AD6 {n:Nat}(hE:EnvOk E){s:St}(l:List (Nat×AV)) (hp:Hp) (h:WF (KQ E (evC E 0) ⟨none,false⟩ ops [o] s) l=some (n,xs2 l,hp)) (k:K ⟨Fr n l,hp⟩):RunS E ops [o] s K :=
 AD (rest:=[o]) hE 1 l hp h (AI rfl k)
theorem RunA.done (h:(Region.ready .any ops m.toArray).isEmpty=true) (kk:K s):RunA E ops 0 m s K:=fun base Q a w Z R _ _ _ sr q =>
 ⟨fun _=>trivial,by simpa using h,q s a w Z R kk sr (StepW.refl _ _ _ _)⟩
end
/- trestle/trestlelaw03.Made -/
def u8 (n:Int):Prop:=0<=n/\n<=255
/-- Every clause is valid behind what stands before it. -/
def QX (pre:List AF):List AF->Prop
 | []=>True
 | x::r=>chk pre x=0/\QX (pre++[x]) r
theorem Tp:∀ (a pre b:List AF),QX pre (a++b)↔QX pre a/\QX (pre++a) b
 | [],pre,b=>by simp [QX]
 | x::a,pre,b=>by
  simp only [List.cons_append,QX,Tp a (pre++[x]) b,List.append_assoc,List.cons_append,List.nil_append,and_assoc]
/-- The decision of a merged text. -/
theorem TR (a b:Ai) (i j:Int) (x:AF) (r:List AF) (k:Nat):rsn a b i j (x::r) k=if dir x a b i j=0 then rsn a b i j r (k + 1) else .inr ((k:Int),dir x a b i j):=rfl
theorem AAc (a b:Ai) (i j:Int):∀ (c d:List AF) (k:Nat),rsn a b i j (c++d) k=match rsn a b i j c k with | .inl _=>rsn a b i j d (k + c.length) | .inr w=> .inr w
 | [],d,k=>rfl
 | x::c,d,k=>by
  rw [List.cons_append,TR,TR]
  by_cases h:dir x a b i j=0
  ·rw [if_pos h,if_pos h,AAc a b i j c d (k + 1),List.length_cons,show k + 1 + c.length=k + (c.length + 1) by omega]
  ·rw [if_neg h,if_neg h]
theorem AAd (a b:Ai) (i j:Int):∀ (c:List AF) (k:Nat),(∃ u,rsn a b i j c k = .inl u)\/∃ w,rsn a b i j c k = .inr w/\w.2≠0
 | [],k=> .inl ⟨(),rfl⟩
 | x::c,k=>by
  unfold rsn
  by_cases h:dir x a b i j=0
  ·rw [if_pos h]; exact AAd a b i j c (k + 1)
  ·rw [if_neg h]; exact .inr ⟨_,rfl,h⟩
theorem AEz (a b:Ai) (i j:Int):∀ (c:List AF) (k q:Nat),(match rsn a b i j c k with | .inl _=>(0:Int) | .inr w=>w.2)=(match rsn a b i j c q with | .inl _=>(0:Int) | .inr w=>w.2)
 | [],_,_=>rfl
 | x::c,k,q=>by
  unfold rsn
  by_cases h:dir x a b i j=0
  ·rw [if_pos h,if_pos h]; exact AEz a b i j c (k + 1) (q + 1)
  ·rw [if_neg h,if_neg h]
def Xf (c:List AF) (a b:Ai) (i j:Int):Int:=(ADw c a b i j).2
theorem Tb (c:List AF) (a b:Ai) (i j:Int):Xf c a b i j=match rsn a b i j c 0 with | .inl _=>(0:Int) | .inr w=>w.2:=by
 unfold Xf ADw
 cases rsn a b i j c 0 <;> rfl
theorem ACj (c d:List AF) (a b:Ai) (i j:Int):Xf (c++d) a b i j=if Xf c a b i j=0 then Xf d a b i j else Xf c a b i j:=by
 rw [Tb,Tb,Tb,AAc]
 rcases AAd a b i j c 0 with ⟨u,h⟩ | ⟨w,h,hw⟩
 ·rw [h]
  simp only [if_true]
  exact AEz a b i j d _ _
 ·rw [h]
  simp only [hw,if_false]
/-- -1, 0 or 1, turned round with its arguments, and a chain decides by its least. -/
structure Wk3 {α:Type} (f:α->α->Int):Prop where
 v:∀ a b,f a b = -1\/f a b=0\/f a b=1
 s:∀ a b,f a b = - f b a
 t:∀ a b c,f a b<=0->f b c<=0->f a c=min (f a b) (f b c)
theorem Wc {α:Type}(k:α->Int):Wk3 (fun a b=>Od (k a) (k b)):=by
 refine ⟨fun a b=>?_,fun a b=>?_,fun a b c h1 h2=>?_⟩
 ·unfold Od; split
  ·exact .inl rfl
  ·split
   ·exact .inr (.inr rfl)
   ·exact .inr (.inl rfl)
 ·unfold Od; split <;> split <;> first | rfl | omega | (split <;> first | rfl | omega)
 ·(try dsimp only at h1 h2 ⊢)
  unfold Od at *
  split at h1 <;> split at h2 <;> first | (split at h1 <;> first | omega | skip) | skip
  all_goals first | (split at h2 <;> first | omega | skip) | skip
  all_goals (split <;> first | omega | skip)
  all_goals first | rfl | omega | (split <;> first | rfl | omega)
theorem YV:∀ (x:List UInt8),Go.Op.bytesLess x x=false
 | []=>rfl
 | a::x=>by
  show (decide (a < a)||(a==a&&Go.Op.bytesLess x x))=false
  rw [YV x]; simp
theorem Vn:∀ (x y z:List UInt8),Go.Op.bytesLess x y=true->Go.Op.bytesLess y z=true->Go.Op.bytesLess x z=true
 | x,[],_,h,_=>by cases x <;> cases h
 | _,_::_,[],_,h=>by cases h
 | [],_::_,_::_,_,_=>rfl
 | a::x,b::y,c::z,h1,h2=>by
  have h1':(decide (a < b)||(a==b&&Go.Op.bytesLess x y))=true:=h1
  have h2':(decide (b < c)||(b==c&&Go.Op.bytesLess y z))=true:=h2
  show (decide (a < c)||(a==c&&Go.Op.bytesLess x z))=true
  simp only [Bool.or_eq_true,Bool.and_eq_true,decide_eq_true_eq,beq_iff_eq] at h1' h2' ⊢
  rcases h1' with q1 | ⟨rfl,q1⟩ <;> rcases h2' with q2 | ⟨rfl,q2⟩
  ·exact .inl (UInt8.lt_trans q1 q2)
  ·exact .inl q1
  ·exact .inl q2
  ·exact .inr ⟨rfl,Vn x y z q1 q2⟩
theorem ADj {α:Type}(k:α->List UInt8):Wk3 (fun a b=>ZW (k a) (k b)):=by
 have val:∀ x y:List UInt8,(Go.Op.bytesLess x y=true/\ZW x y = -1)\/(x=y/\ZW x y=0)\/(Go.Op.bytesLess y x=true/\ZW x y=1):=fun x y=>by
  unfold ZW
  cases h:Go.Op.bytesLess x y with
  | true=>exact .inl ⟨rfl,rfl⟩
  | false =>
   have:=Vm x y h
   cases he:(x==y) with
   | true=>exact .inr (.inl ⟨by simpa using he,rfl⟩)
   | false=>exact .inr (.inr ⟨by rw [this,he]; rfl,rfl⟩)
 have asy:∀ x y:List UInt8,Go.Op.bytesLess x y=true->Go.Op.bytesLess y x=true->False:=fun x y h1 h2=>by
  have:=Vn x y x h1 h2
  rw [YV] at this
  cases this
 refine ⟨fun a b=>?_,fun a b=>?_,fun a b c h1 h2=>?_⟩
 ·rcases val (k a) (k b) with ⟨_,h⟩ | ⟨_,h⟩ | ⟨_,h⟩
  ·exact .inl h
  ·exact .inr (.inl h)
  ·exact .inr (.inr h)
 ·(try dsimp only)
  rcases val (k a) (k b) with ⟨p,h⟩ | ⟨p,h⟩ | ⟨p,h⟩ <;> rcases val (k b) (k a) with ⟨q,g⟩ | ⟨q,g⟩ | ⟨q,g⟩ <;> rw [h,g] <;> first | rfl | (exfalso; first | exact asy _ _ p q | (rw [q,YV] at p; cases p) | (rw [p,YV] at q; cases q))
 ·(try dsimp only at h1 h2 ⊢)
  rcases val (k a) (k b) with ⟨p,h⟩ | ⟨p,h⟩ | ⟨p,h⟩ <;> rcases val (k b) (k c) with ⟨q,g⟩ | ⟨q,g⟩ | ⟨q,g⟩ <;> first | (rw [h] at h1; exact absurd h1 (by decide)) | (rw [g] at h2; exact absurd h2 (by decide)) | skip
  ·rw [h,g]
   have:=Vn _ _ _ p q
   unfold ZW
   rw [if_pos this]; rfl
  ·rw [h,g,<-q,h]; rfl
  ·rw [h,g,p,g]; rfl
  ·rw [h,g,p,g]; rfl
theorem ACR {α:Type}(y:Bool) (k:α->Int):Wk3 (fun a b=>snc y (k a) (k b)):=by
 have val:∀ s t:Int,snc y s t=if s=0 then (if t=0 then 0 else 1) else if t=0 then -1 else if y=true then Od t s else Od s t:=fun s t=>by
  rw [AAg]
  unfold Od
  by_cases hs:s=0 <;> by_cases ht:t=0
  ·simp [hs,ht]
  ·simp [hs,ht]
  ·simp [hs,ht]
  ·cases y <;> simp [hs,ht]
 refine ⟨fun a b=>?_,fun a b=>?_,fun a b c h1 h2=>?_⟩
 ·(try dsimp only)
  rw [val]
  unfold Od
  split
  ·split
   ·exact .inr (.inl rfl)
   ·exact .inr (.inr rfl)
  ·split
   ·exact .inl rfl
   ·split <;> (split; · exact .inl rfl) <;> (split; · exact .inr (.inr rfl)) <;> exact .inr (.inl rfl)
 ·(try dsimp only)
  rw [val,val]
  unfold Od
  cases y <;> simp only [if_true,if_false,Bool.false_eq_true] <;> (repeat' split) <;> first | rfl | omega
 ·(try dsimp only at h1 h2 ⊢)
  rw [val] at h1 h2
  rw [val,val,val]
  unfold Od at *
  cases y <;> simp only [if_true,if_false,Bool.false_eq_true] at h1 h2 ⊢ <;> (repeat' split at h1) <;> (repeat' split at h2) <;> first | omega | ((repeat' split) <;> first | rfl | omega)
/-- A second order where a first one ties. -/
theorem AFB {α:Type}{f g:α->α->Int}(hf:Wk3 f) (gv:∀ a b,g a b = -1\/g a b=0\/g a b=1) (gs:∀ a b,g a b = - g b a)
  (gt:∀ a b c,f a b=0->f b c=0->g a b<=0->g b c<=0->g a c=min (g a b) (g b c)):Wk3 (fun a b=>if f a b=0 then g a b else f a b):=by
 refine ⟨fun a b=>?_,fun a b=>?_,fun a b c h1 h2=>?_⟩
 ·show (if f a b=0 then g a b else f a b) = -1\/_
  split
  ·exact gv a b
  ·exact hf.v a b
 ·show (if f a b=0 then g a b else f a b) = - (if f b a=0 then g b a else f b a)
  have:=hf.s a b
  by_cases h:f b a=0
  ·rw [if_pos h,if_pos (by omega)]; exact gs a b
  ·rw [if_neg h,if_neg (by omega)]; exact this
 ·have h1':(if f a b=0 then g a b else f a b)<=0:=h1
  have h2':(if f b c=0 then g b c else f b c)<=0:=h2
  show (if f a c=0 then g a c else f a c)=min (if f a b=0 then g a b else f a b) (if f b c=0 then g b c else f b c)
  have ab:=hf.v a b
  have bc:=hf.v b c
  have gab:=gv a b
  have gbc:=gv b c
  by_cases x:f a b=0 <;> by_cases y:f b c=0
  ·have:=hf.t a b c (by omega) (by omega)
   rw [if_pos x] at h1' ⊢
   rw [if_pos y] at h2' ⊢
   rw [if_pos (by omega)]
   exact gt a b c x y h1' h2'
  ·rw [if_pos x] at h1' ⊢
   rw [if_neg y] at h2' ⊢
   have:=hf.t a b c (by omega) (by omega)
   rw [if_neg (by omega)]
   omega
  ·rw [if_neg x] at h1' ⊢
   rw [if_pos y] at h2' ⊢
   have:=hf.t a b c (by omega) (by omega)
   rw [if_neg (by omega)]
   omega
  ·rw [if_neg x] at h1' ⊢
   rw [if_neg y] at h2' ⊢
   have:=hf.t a b c (by omega) (by omega)
   rw [if_neg (by omega)]
   omega
/-- A guest at a place of the row. -/
abbrev At:={ p:Ai×Int // QY p.2=true }
theorem AFC (x:AF):Wk3 (fun a b:At=>TP x a.1.1 b.1.1 a.1.2 b.1.2):=by
 have e:(fun a b:At=>TP x a.1.1 b.1.1 a.1.2 b.1.2)=fun a b:At =>
   if (x.1==1)=true then Od (rk x.2.2.2.1 a.1.1.2.1) (rk x.2.2.2.1 b.1.1.2.1) else
   if (x.1==2)=true then snc false a.1.1.2.2.2.1 b.1.1.2.2.2.1 else
   if (x.1==3)=true then snc true a.1.1.2.2.2.1 b.1.1.2.2.2.1 else
   if (x.1==8)=true then ZW a.1.1.1 b.1.1.1 else
   if (x.1==9)=true then Od a.1.2 b.1.2 else
   if (x.1==10)=true then Od (kyI a.1.2 x.2.2.2.2) (kyI b.1.2 x.2.2.2.2) else
   Od (nv x a.1.1) (nv x b.1.1):=by
  funext a b
  unfold TP
  rw [a.2,b.2]
  simp only [Bool.not_true,Bool.or_self,Bool.false_eq_true,if_false]
 rw [e]
 by_cases h1:(x.1==1)=true
 ·simp only [h1,if_true]; exact Wc (fun a:At=>rk x.2.2.2.1 a.1.1.2.1)
 by_cases h2:(x.1==2)=true
 ·simp only [h1,h2,if_true,if_false,Bool.false_eq_true]; exact ACR false (fun a:At=>a.1.1.2.2.2.1)
 by_cases h3:(x.1==3)=true
 ·simp only [h1,h2,h3,if_true,if_false,Bool.false_eq_true]; exact ACR true (fun a:At=>a.1.1.2.2.2.1)
 by_cases h8:(x.1==8)=true
 ·simp only [h1,h2,h3,h8,if_true,if_false,Bool.false_eq_true]; exact ADj (fun a:At=>a.1.1.1)
 by_cases h9:(x.1==9)=true
 ·simp only [h1,h2,h3,h8,h9,if_true,if_false,Bool.false_eq_true]; exact Wc (fun a:At=>a.1.2)
 by_cases h10:(x.1==10)=true
 ·simp only [h1,h2,h3,h8,h9,h10,if_true,if_false,Bool.false_eq_true]; exact Wc (fun a:At=>kyI a.1.2 x.2.2.2.2)
 ·simp only [h1,h2,h3,h8,h9,h10,if_false,Bool.false_eq_true]; exact Wc (fun a:At=>nv x a.1.1)
theorem AAX (s:List UInt8):∀ (l:List (List UInt8)) (i:Nat),i<=rkN s l i
 | [],i=>Nat.le_refl i
 | v::r,i=>by
  unfold rkN
  split
  ·exact Nat.le_refl i
  ·have:=AAX s r (i + 1); omega
theorem YF (s t:List UInt8):∀ (l:List (List UInt8)) (i:Nat),Oh l s=true->rkN s l i=rkN t l i->t=s
 | [],_,h,_=>by cases h
 | v::r,i,h,e=>by
  have h':((s==v)||Oh r s)=true:=h
  unfold rkN at e
  by_cases hs:(s==v)=true
  ·rw [if_pos hs] at e
   by_cases ht:(t==v)=true
   ·rw [beq_iff_eq] at hs ht; rw [hs,ht]
   ·rw [if_neg ht] at e
    have:=AAX t r (i + 1)
    omega
  ·rw [if_neg hs] at e
   by_cases ht:(t==v)=true
   ·rw [if_pos ht] at e
    have:=AAX s r (i + 1)
    omega
   ·rw [if_neg ht] at e
    have h2:Oh r s=true:=by
     cases hq:(s==v) with
     | true=>exact absurd hq hs
     | false=>rwa [hq,Bool.false_or] at h'
    exact YF s t r (i + 1) h2 e
theorem AFu {x:AF}(h:fm x=true) (hk:(x.1==1)=true):x.2.1=[]:=by
 unfold fm BJ at h
 rw [if_pos hk] at h
 cases hb:Bb (x.2.2.2.1.length:Int) 1 16 with
 | none=>rw [hb] at h; cases h
 | some v =>
  rw [hb,OS] at h
  cases v with
  | false=>cases h
  | true =>
   by_cases h2:(x.2.2.2.2==0)=true
   ·by_cases h3:(!x.2.2.1)=true
    ·rw [if_pos rfl,if_pos h2,if_pos h3] at h
     simpa using h
    ·rw [if_pos rfl,if_pos h2,if_neg h3] at h; cases h
   ·rw [if_pos rfl,if_neg h2] at h; cases h
theorem AEJ {pre:List AF}{x:AF}(h:chk pre x=0):fm x=true:=by
 unfold chk at h
 split at h
 ·cases h
 ·next h1=>simpa using h1
theorem AEI {pre:List AF}{x:AF}(h:chk pre x=0):x.2.1=[]\/Om pre x.2.1=true:=by
 unfold chk at h
 split at h
 ·cases h
 split at h
 ·cases h
 split at h
 ·cases h
 split at h
 ·next h4=>exact h4
 ·cases h
theorem W9:∀ (c pre:List AF),QX pre c->∀ x ∈ c,fm x=true
 | y::r,pre,h,x,hx=>by
  rcases List.mem_cons.1 hx with e | e
  ·rw [e]; exact AEJ h.1
  ·exact W9 r _ h.2 x e
/-- Ties of a text tie every clause of it. -/
theorem Zk (a b:Ai) (i j:Int):∀ (c:List AF) (k:Nat),rsn a b i j c k = .inl ()->∀ x ∈ c,dir x a b i j=0
 | y::r,k,h,x,hx=>by
  rw [TR] at h
  by_cases q:dir y a b i j=0
  ·rw [if_pos q] at h
   rcases List.mem_cons.1 hx with e | e
   ·rw [e]; exact q
   ·exact Zk a b i j r (k + 1) h x e
  ·rw [if_neg q] at h; cases h
theorem ABD {c:List AF}{a b:Ai}{i j:Int}(h:Xf c a b i j=0):∀ x ∈ c,dir x a b i j=0:=by
 rw [Tb] at h
 rcases AAd a b i j c 0 with ⟨u,e⟩ | ⟨w,e,hw⟩
 ·exact Zk a b i j c 0 e
 ·rw [e] at h; exact absurd h hw
theorem AEK {x y:Int}(h:Od x y=0):x=y:=by
 unfold Od at h
 split at h
 ·cases h
 split at h
 ·cases h
 ·omega
/-- A text that ranks a rank ties nobody of it with anybody of another rank. -/
theorem Yx {c:List AF}{s:List UInt8}(hc:∀ x ∈ c,fm x=true) (hr:Om c s=true){a b:Ai}{i j:Int}(h:Xf c a b i j=0):(a.2.1==s)=(b.2.1==s):=by
 unfold Om at hr
 obtain ⟨y,hy,e⟩:=List.any_eq_true.1 hr
 rw [Bool.and_eq_true] at e
 have hd:=ABD h y hy
 have ham:=AFu (hc y hy) e.1
 unfold dir amB at hd
 rw [ham,if_neg (by simp)] at hd
 unfold TP at hd
 rw [if_pos e.1] at hd
 have hk:=AEK hd
 unfold rk at hk
 have hn:rkN a.2.1 y.2.2.2.1 0=rkN b.2.1 y.2.2.2.1 0:=by omega
 by_cases ha:a.2.1=s
 ·have hb:=YF a.2.1 b.2.1 _ 0 (by rw [ha]; exact e.2) hn
  rw [hb]
 ·by_cases hb:b.2.1=s
  ·have:=YF b.2.1 a.2.1 _ 0 (by rw [hb]; exact e.2) hn.symm
   exact absurd (this.trans hb) ha
  ·rw [beq_eq_false_iff_ne.2 ha,beq_eq_false_iff_ne.2 hb]
theorem AEF (x:AF) (a b:Ai):amB x a b=amB x b a:=by
 unfold amB
 cases (x.2.1==[]) <;> cases (a.2.1==x.2.1) <;> cases (b.2.1==x.2.1) <;> rfl
theorem ACk (x:AF) (a b:Ai) (i j:Int):Xf [x] a b i j=dir x a b i j:=by
 rw [Tb,TR]
 by_cases h:dir x a b i j=0
 ·rw [if_pos h,h]; rfl
 ·rw [if_neg h]
theorem AAr:∀ (c pre:List AF),QX [] (pre++c)->Wk3 (fun a b:At=>Xf pre a.1.1 b.1.1 a.1.2 b.1.2)->Wk3 (fun a b:At=>Xf (pre++c) a.1.1 b.1.1 a.1.2 b.1.2)
 | [],pre,_,h=>by rw [List.append_nil]; exact h
 | x::r,pre,hg,h=>by
  have e:pre++x::r=(pre++[x])++r:=by simp
  rw [e] at hg ⊢
  refine AAr r (pre++[x]) hg ?_
  have hgx:=(Tp (pre++[x]) [] r).1 hg
  have hp:=(Tp pre [] [x]).1 hgx.1
  have hchk:chk pre x=0:=by simpa using hp.2.1
  have hfm:=W9 pre [] hp.1
  have ho:=AFC x
  have hx:(fun a b:At=>Xf (pre++[x]) a.1.1 b.1.1 a.1.2 b.1.2)=fun a b:At=>if Xf pre a.1.1 b.1.1 a.1.2 b.1.2=0 then dir x a.1.1 b.1.1 a.1.2 b.1.2 else Xf pre a.1.1 b.1.1 a.1.2 b.1.2:=by
   funext a b
   rw [ACj,ACk]
  rw [hx]
  refine AFB h (fun a b=>?_) (fun a b=>?_) (fun a b c h1 h2=>?_)
  ·unfold dir
   split
   ·exact .inr (.inl rfl)
   ·exact ho.v a b
  ·unfold dir
   rw [AEF x b.1.1 a.1.1]
   split
   ·rfl
   ·exact ho.s a b
  ·unfold dir
   rcases AEI hchk with ha | ha
   ·have q:∀ u v:Ai,amB x u v=false:=fun u v=>by unfold amB; rw [ha]; rfl
    rw [q,q,q,if_neg (by decide),if_neg (by decide),if_neg (by decide)]
    exact ho.t a b c
   ·have t1:=Yx hfm ha h1
    have t2:=Yx hfm ha h2
    unfold amB
    rw [<-t2,<-t1]
    cases (!(x.2.1==[]))
    ·exact ho.t a b c
    ·cases (a.1.1.2.1==x.2.1)
     ·intro _ _; rfl
     ·exact ho.t a b c
theorem AB5 (c:List AF) (hg:QX [] c):Wk3 (fun a b:At=>Xf c a.1.1 b.1.1 a.1.2 b.1.2) :=
 AAr c [] hg ⟨fun _ _=> .inr (.inl rfl),fun _ _=>rfl,fun _ _ _ _ _=>rfl⟩
/-- A loop whose states are known. -/
theorem AGK {σ ρ:Type}(n:Nat) (S:Nat->σ) (R:Option ρ) (L:Nat->Int->σ->Option ρ) (hn:n<=1000000) (hs:∀ i,i < n->∀ f,L (f + 1) (i:Int) (S i)=L f (wr .i64 ((i:Int) + 1)) (S (i + 1))) (he:∀ f,L (f + 1) (n:Int) (S n)=R):∀ (d i f:Nat),i + d=n->d < f->L f (i:Int) (S i)=R
 | 0,i,f + 1,e,_=>by
  rw [show i=n by omega]
  exact he f
 | d + 1,i,f + 1,e,hf=>by
  rw [hs i (by omega) f,AAv (by omega) (by omega),show ((i:Int) + 1)=((i + 1:Nat):Int) by omega]
  exact AGK n S R L hn hs he d (i + 1) f (by omega) (by omega)
theorem Sj {σ ρ:Type}(n:Nat) (S:Nat->σ) (R:Option ρ) (L:Nat->Int->σ->Option ρ) (hn:n<=99999) (hs:∀ i,i < n->∀ f,L (f + 1) (i:Int) (S i)=L f (wr .i64 ((i:Int) + 1)) (S (i + 1))) (he:∀ f,L (f + 1) (n:Int) (S n)=R):L 100000 0 (S 0)=R :=
 AGK n S R L (by omega) hs he n 0 100000 (by omega) (by omega)
/-- A valid text, as it is checked. -/
theorem Wu (c:List AF):∀ (r pre:List AF),c=pre++r->(∃ u,ZA c r pre.length = .inl u)->QX pre r
 | [],_,_,_=>trivial
 | x::r,pre,e,⟨u,h⟩=>by
  unfold ZA at h
  rw [show c.take pre.length=pre by rw [e]; simp] at h
  by_cases hx:chk pre x=0
  ·rw [if_neg (by simpa using hx)] at h
   exact ⟨hx,Wu c r (pre++[x]) (by rw [e]; simp) ⟨u,by simpa using h⟩⟩
  ·rw [if_pos hx] at h; cases h
theorem Ta {c:List AF}(h:(Wv c).2=0):c.length<=32/\QX [] c:=by
 unfold Wv at h
 split at h
 ·cases h
 ·next hl =>
  refine ⟨by omega,Wu c c [] rfl ?_⟩
  rcases Vq c c 0 with ⟨u,h1,_⟩ | ⟨w,h1,h2⟩
  ·exact ⟨u,h1⟩
  ·rw [h1] at h; exact absurd h h2
theorem ABe (c:List AF) (h:few c):Hv c=some (if (Wv c).2=0 then (c,true) else ([],false)):=by
 unfold Hv
 rw [ACh c h,OS]
 by_cases hv:(Wv c).2=0
 ·have e0:FF c 100000 [] 0=some c:=XH c h (UZ hv) c [] 100000 rfl (by have:=h.1; omega)
  rw [if_neg (by simpa using hv),if_pos hv,e0]; rfl
 ·rw [if_pos (by simpa using hv),if_neg hv]
/-- Guests at their places. -/
def Fz:List Ai->Nat->List A6
 | [],_=>[]
 | g::r,i=>(g,(i:Int))::Fz r (i + 1)
theorem Po:∀ (g:List Ai) (i:Nat),(Fz g i).length=g.length
 | [],_=>rfl
 | _::r,i=>by simp [Fz,Po r (i + 1)]
theorem Va:∀ (g:List Ai) (i k:Nat),(Fz g i)[k]? = (g[k]?).map fun x=>(x,((i + k:Nat):Int))
 | [],_,_=>by simp [Fz]
 | x::r,i,0=>by simp [Fz]
 | x::r,i,k + 1=>by
  simp only [Fz,List.getElem?_cons_succ]
  rw [Va r (i + 1) k,show i + 1 + k=i + (k + 1) by omega]
theorem T1:∀ (g:List Ai) (x:Ai) (i:Nat),Fz (g++[x]) i=Fz g i++[(x,((i + g.length:Nat):Int))]
 | [],x,i=>by simp [Fz]
 | y::r,x,i=>by
  simp only [List.cons_append,Fz,T1 r x (i + 1),List.length_cons]
  rw [show i + 1 + r.length=i + (r.length + 1) by omega]
theorem AEl (g:List Ai) (h:g.length<=99999):Jt g=some (Fz g 0):=by
 unfold Jt
 have:EM g 100000 [] 0=some (Fz g 0):=by
  have:=Sj (σ:=List A6) g.length (fun i=>Fz (g.take i) 0) (some (Fz g 0)) (fun f c s=>EM g f s c) h (fun i hi f=>by
   show EM g (f + 1) (Fz (g.take i) 0) (i:Int)=_
   conv=>lhs; unfold EM
   rw [if_pos (by simp; omega),PH hi,OS,if_pos (HM (by omega) (by rw [Po]; simp; omega))]
   have e:Fz (g.take (i + 1)) 0=Fz (g.take i) 0++[(g[i],(i:Int))]:=by
    rw [List.take_succ_eq_append_getElem hi,T1]; simp; omega
   show _=EM g f (Fz (g.take (i + 1)) 0) _
   rw [e]) (fun f=>by
   show EM g (f + 1) (Fz (g.take g.length) 0) (g.length:Int)=_
   conv=>lhs; unfold EM
   rw [if_neg (by simp),List.take_length])
  exact this
 rw [this]; rfl
/-- What a text says of the guests at two places. -/
def dG:Ai:=([],[],[],0,0,[],false,false,[])
def gAt (g:List Ai) (x:Nat):Ai:=g.getD x dG
def cm (c:List AF) (g:List Ai) (x y:Nat):Int:=Xf c (gAt g x) (gAt g y) (x:Int) (y:Int)
theorem AEa {x:Nat}(h:x < 64):QY (x:Int)=true:=by simp [QY]; omega
/-- Who sits in a row of at most 64. -/
abbrev Pl:={ x:Nat // x < 64 }
theorem AFD {c:List AF}(g:List Ai) (hg:QX [] c):Wk3 (fun a b:Pl=>cm c g a.1 b.1) :=
 let h:=AB5 c hg
 let k:Pl->At:=fun a=>⟨(gAt g a.1,(a.1:Int)),AEa a.2⟩
 ⟨fun a b=>h.v (k a) (k b),fun a b=>h.s (k a) (k b),fun a b d=>h.t (k a) (k b) (k d)⟩
theorem AGI {c:List AF}{g:List Ai}(hg:QX [] c){x y:Nat}(hx:x < 64) (hy:y < 64):cm c g x y = -1\/cm c g x y=0\/cm c g x y=1:=(AFD g hg).v ⟨x,hx⟩ ⟨y,hy⟩
theorem AGH {c:List AF}{g:List Ai}(hg:QX [] c){x y:Nat}(hx:x < 64) (hy:y < 64):cm c g x y = - cm c g y x:=(AFD g hg).s ⟨x,hx⟩ ⟨y,hy⟩
theorem AGT {c:List AF}{g:List Ai}(hg:QX [] c){x:Nat}(hx:x < 64):cm c g x x=0:=by have:=AGH (g:=g) hg hx hx; omega
/-- Few guests, their places. -/
structure FewR (g:List Ai):Prop where
 n:g.length<=64
 f:∀ x ∈ g,Wn x
theorem FewR.at_ {g:List Ai}(h:FewR g){x:Nat}(hx:x < g.length):Wn (gAt g x):=h.f _ (by unfold gAt; rw [List.getD_eq_getElem?_getD,List.getElem?_eq_getElem hx]; exact List.getElem_mem hx)
theorem XI (g:List Ai){x:Nat}(hx:x < g.length):idx (Fz g 0) (x:Int)=some (gAt g x,(x:Int)):=by
 unfold idx
 rw [if_pos (by omega),Int.toNat_natCast,Va,List.getElem?_eq_getElem hx]
 simp [gAt,hx]
theorem AEZ (g:List Ai){x:Nat}(hx:x < g.length):idx g (x:Int)=some (gAt g x):=by
 rw [PH hx]; simp [gAt,hx]
/-- Tables of numbers. -/
def SI (n:Nat) (f:Nat->Int):List Int:=(List.range n).map f
def Je (n:Nat) (M:Nat->Nat->Int):List (List Int):=(List.range n).map fun x=>SI n (M x)
theorem ABp (n:Nat) (f:Nat->Int):(SI n f).length=n:=by simp [SI]
theorem ABX (n:Nat) (M:Nat->Nat->Int):(Je n M).length=n:=by simp [Je]
theorem SJ {n:Nat}{f:Nat->Int}{x:Nat}(h:x < n):idx (SI n f) (x:Int)=some (f x):=by
 rw [PH (by rw [ABp]; exact h)]; simp [SI]
theorem R4 {n:Nat}{M:Nat->Nat->Int}{x:Nat}(h:x < n):idx (Je n M) (x:Int)=some (SI n (M x)):=by
 rw [PH (by rw [ABX]; exact h)]; simp [Je]
theorem Vz {α:Type}(n:Nat) (f h:Nat->α) (x:Nat) (v:α) (hx:h x=v) (hn:∀ y,y≠x->h y=f y):((List.range n).map f).set x v=(List.range n).map h:=by
 apply List.ext_getElem?
 intro i
 rw [List.getElem?_set]
 simp only [List.getElem?_map,List.length_map,List.length_range]
 by_cases e:x=i
 ·subst e
  rw [if_pos rfl]
  split
  ·next h1=>rw [List.getElem?_range h1]; simp [hx]
  ·next h1=>rw [List.getElem?_eq_none (by simp; omega)]; rfl
 ·rw [if_neg e]
  by_cases hi:i < n
  ·rw [List.getElem?_range hi]; simp [hn i (Ne.symm e)]
  ·rw [List.getElem?_eq_none (by simp; omega)]; rfl
theorem ABq {n x:Nat}{f h:Nat->Int}{v:Int}(hx:h x=v) (hn:∀ y,y≠x->h y=f y):(SI n f).set x v=SI n h:=Vz n f h x v hx hn
theorem ABY {n x:Nat}{M K:Nat->Nat->Int}{r:List Int}(hx:SI n (K x)=r) (hn:∀ z,z≠x->K z=M z):(Je n M).set x r=Je n K :=
 Vz n _ _ x r hx fun z hz=>by rw [hn z hz]
/-- One more in a table. -/
def ACa (M:Nat->Nat->Int) (x y:Nat):Nat->Nat->Int:=fun a b=>if a=x/\b=y then M a b + 1 else M a b
theorem XE {n x y:Nat}{M:Nat->Nat->Int}:(Je n M).set x ((SI n (M x)).set y (M x y + 1))=Je n (ACa M x y):=by
 refine ABY ?_ fun z hz=>?_
 ·rw [ABq (h:=fun b=>ACa M x y x b) (by simp [ACa]) (fun b hb=>by simp [ACa,hb])]
 ·funext b; simp [ACa,hz]
section
variable {c:List AF}{g:List Ai}(hc:few c) (hv:(Wv c).2=0) (hg:FewR g)
include hc hv hg
theorem ABP {x y:Nat}(hx:x < g.length) (hy:y < g.length):∃ k,BI c (gAt g x,(x:Int)) (gAt g y,(y:Int))=some (k,cm c g x y) :=
 ⟨_,ACz c (gAt g x) (gAt g y) x y hc (UZ hv) (hg.at_ hx) (hg.at_ hy)⟩
/-- What a text adds to the table. -/
def dl (c:List AF) (g:List Ai) (x y:Nat):Int:=if cm c g x y = -1 then 1 else 0
def Lh (M:Nat->Nat->Int) (c:List AF) (g:List Ai) (i k:Nat):Nat->Nat->Int:=fun x y=>M x y + if (x=i/\y < k)\/(y=i/\x < k) then dl c g x y else 0
theorem ABv (M:Nat->Nat->Int) (B:Int) (hB:B<=1000000) (hM:∀ x y,0<=M x y/\M x y<=B) (i:Nat) (hi:i < g.length):D2 (Fz g 0) (c,true) (i:Int) 100000 0 (Je g.length M)=some (Je g.length (Lh M c g i i)):=by
 have hgd:=(Ta hv).2
 have hn:=hg.n
 have h0:Lh M c g i 0=M:=by funext x y; simp [Lh]
 suffices h1:D2 (Fz g 0) (c,true) (i:Int) 100000 0 (Je g.length (Lh M c g i 0))=some (Je g.length (Lh M c g i i)) by rwa [h0] at h1
 refine Sj (σ:=List (List Int)) i (fun k=>Je g.length (Lh M c g i k)) (some (Je g.length (Lh M c g i i))) (fun f c' s=>D2 (Fz g 0) (c,true) (i:Int) f c' s) (by omega) (fun k hk f=>?_) (fun f=>?_)
 ·show D2 (Fz g 0) (c,true) (i:Int) (f + 1) (k:Int) (Je g.length (Lh M c g i k))=_
  conv=>lhs; unfold D2
  obtain ⟨q,hq⟩:=ABP hc hv hg hi (show k < g.length by omega)
  have s1:Lh M c g i k i k=M i k:=by unfold Lh; rw [if_neg (by omega)]; omega
  have s2:Lh M c g i k k i=M k i:=by unfold Lh; rw [if_neg (by omega)]; omega
  have b1:=hM i k
  have b2:=hM k i
  have anti:=AGH (g:=g) hgd (show i < 64 by omega) (show k < 64 by omega)
  have key:Ic (i:Int) (k:Int) (Je g.length (Lh M c g i k)) (q,cm c g i k)=some (Je g.length (Lh M c g i (k + 1))):=by
   have other:∀ x y,¬ (x=i/\y=k)->¬ (x=k/\y=i)->Lh M c g i (k + 1) x y=Lh M c g i k x y:=fun x y h1 h2=>by
    unfold Lh
    by_cases e:(x=i/\y < k)\/(y=i/\x < k)
    ·rw [if_pos e,if_pos (by omega)]
    ·rw [if_neg e,if_neg (by omega)]
   have t1:Lh M c g i (k + 1) i k=M i k + dl c g i k:=by unfold Lh; rw [if_pos (by omega)]
   have t2:Lh M c g i (k + 1) k i=M k i + dl c g k i:=by unfold Lh; rw [if_pos (by omega)]
   unfold Ic KF
   rcases AGI (g:=g) hgd (show i < 64 by omega) (show k < 64 by omega) with e | e | e
   ·rw [e,if_pos (by rfl),R4 hi,OS,SJ (by omega),OS,OS,s1,AAv (by omega) (by omega),Int.toNat_natCast,Int.toNat_natCast,<-s1,XE]
    congr 2
    funext x y
    unfold ACa
    by_cases h1:x=i/\y=k
    ·rw [if_pos h1,h1.1,h1.2,s1,t1]; unfold dl; rw [if_pos e]
    ·rw [if_neg h1]
     by_cases h2:x=k/\y=i
     ·rw [h2.1,h2.2,s2,t2]; unfold dl; rw [if_neg (by omega)]; omega
     ·exact (other x y h1 h2).symm
   ·rw [e,if_neg (by simp),if_neg (by simp),OS]
    congr 2
    funext x y
    by_cases h1:x=i/\y=k
    ·rw [h1.1,h1.2,s1,t1]; unfold dl; rw [if_neg (by omega)]; omega
    ·by_cases h2:x=k/\y=i
     ·rw [h2.1,h2.2,s2,t2]; unfold dl; rw [if_neg (by omega)]; omega
     ·exact (other x y h1 h2).symm
   ·rw [e,if_neg (by simp),if_pos (by rfl),R4 (show k < g.length by omega),OS,SJ hi,OS,OS,s2,AAv (by omega) (by omega),Int.toNat_natCast,Int.toNat_natCast,<-s2,XE,OS]
    congr 2
    funext x y
    unfold ACa
    by_cases h1:x=k/\y=i
    ·rw [if_pos h1,h1.1,h1.2,s2,t2]; unfold dl; rw [if_pos (by omega)]
    ·rw [if_neg h1]
     by_cases h2:x=i/\y=k
     ·rw [h2.1,h2.2,s1,t1]; unfold dl; rw [if_neg (by omega)]; omega
     ·exact (other x y h2 h1).symm
  rw [if_pos (by simp; omega),XI g hi,OS,XI g (by omega),OS,hq,OS,key,OS]
 ·show D2 (Fz g 0) (c,true) (i:Int) (f + 1) (i:Int) (Je g.length (Lh M c g i i))=_
  conv=>lhs; unfold D2
  rw [if_neg (by simp)]
def Pw (M:Nat->Nat->Int) (c:List AF) (g:List Ai) (m:Nat):Nat->Nat->Int:=fun x y=>M x y + if x < m/\y < m then dl c g x y else 0
theorem AAl (M:Nat->Nat->Int) (B:Int) (hB:B<=10000) (hM:∀ x y,0<=M x y/\M x y<=B):D1 (Fz g 0) (c,true) 100000 0 (Je g.length M)=some (Je g.length (Pw M c g g.length)):=by
 have hgd:=(Ta hv).2
 have hn:=hg.n
 have h0:Pw M c g 0=M:=by funext x y; simp [Pw]
 have hd:∀ x y,0<=dl c g x y/\dl c g x y<=1:=fun x y=>by unfold dl; split <;> omega
 have h1:D1 (Fz g 0) (c,true) 100000 0 (Je g.length (Pw M c g 0))=some (Je g.length (Pw M c g g.length)):=by
  refine Sj (σ:=List (List Int)) g.length (fun k=>Je g.length (Pw M c g k)) (some (Je g.length (Pw M c g g.length))) (fun f c' s=>D1 (Fz g 0) (c,true) f c' s) (by omega) (fun i hi f=>?_) (fun f=>?_)
  ·show D1 (Fz g 0) (c,true) (f + 1) (i:Int) (Je g.length (Pw M c g i))=_
   conv=>lhs; unfold D1
   have e:Lh (Pw M c g i) c g i i=Pw M c g (i + 1):=by
    funext x y
    unfold Lh Pw
    by_cases h1:x < i/\y < i
    ·rw [if_pos h1,if_neg (by omega),if_pos (by omega)]; omega
    ·rw [if_neg h1]
     by_cases h2:(x=i/\y < i)\/(y=i/\x < i)
     ·rw [if_pos h2,if_pos (by omega)]; omega
     ·rw [if_neg h2]
      by_cases h3:x < i + 1/\y < i + 1
      ·rw [if_pos h3]
       have:x=i/\y=i:=by omega
       rw [this.1,this.2]
       have:=AGT (g:=g) hgd (show i < 64 by omega)
       unfold dl; rw [if_neg (by omega)]; omega
      ·rw [if_neg h3]; omega
   rw [if_pos (by rw [Po]; simp; omega),ABv hc hv hg (Pw M c g i) (B + 1) (by omega) (fun x y=>by
    have:=hM x y; have:=hd x y
    unfold Pw; split <;> omega) i hi,OS,e]
  ·show D1 (Fz g 0) (c,true) (f + 1) (g.length:Int) (Je g.length (Pw M c g g.length))=_
   conv=>lhs; unfold D1
   rw [if_neg (by rw [Po]; simp)]
 rwa [h0] at h1
end
/-- How many texts put x before y. -/
def vt (l:List (List AF)) (g:List Ai) (x y:Nat):Int:=((l.countP fun c=>cm c g x y == -1:Nat):Int)
theorem AAq (l:List (List AF)) (c:List AF) (g:List Ai) (x y:Nat):vt (l++[c]) g x y=vt l g x y + dl c g x y:=by
 unfold vt dl
 rw [List.countP_append]
 by_cases h:cm c g x y = -1 <;> simp [h]
theorem ADi (l:List (List AF)) (g:List Ai) (x y:Nat):0<=vt l g x y/\vt l g x y<=l.length:=by
 unfold vt
 have:=List.countP_le_length (p:=fun c=>cm c g x y == -1) (l:=l)
 omega
theorem ZH {n:Nat}{M K:Nat->Nat->Int}(h:∀ x y,x < n->y < n->M x y=K x y):Je n M=Je n K:=by
 unfold Je
 refine List.map_congr_left fun x hx=>?_
 unfold SI
 exact List.map_congr_left fun y hy=>h x y (List.mem_range.1 hx) (List.mem_range.1 hy)
def okT (l:List (List AF)):Bool:=l.all fun c=>decide ((Wv c).2=0)
section
variable {l:List (List AF)}{g:List Ai}(hl:∀ c ∈ l,few c) (hg:FewR g)
include hl hg
theorem Yv (h16:l.length<=16):∀ (r pre:List (List AF)) (f:Nat),l=pre++r->r.length < f->okT pre=true->Gj l (Fz g 0) f (pre.length:Int) (Je g.length (vt pre g))=some (if okT l=true then .inl (Je g.length (vt l g)) else .inr ())
 | [],pre,f + 1,e,_,hv=>by
  have e':l=pre:=by rw [e]; simp
  unfold Gj
  rw [if_neg (by rw [e']; simp),e',if_pos hv]
 | c::r,pre,f + 1,e,hf,hv=>by
  have hcf:few c:=hl c (by rw [e]; simp)
  have hll:l.length=pre.length + r.length + 1:=by rw [e]; simp; omega
  unfold Gj
  rw [if_pos (by rw [e]; exact HI pre c r),show idx l (pre.length:Int)=some c by rw [e,D8],OS,ABe c hcf,OS]
  by_cases h0:(Wv c).2=0
  ·rw [if_pos h0]
   have hM:=AAl hcf h0 hg (vt pre g) pre.length (by omega) (fun x y=>ADi pre g x y)
   have e2:Je g.length (Pw (vt pre g) c g g.length)=Je g.length (vt (pre++[c]) g):=ZH fun x y hx hy=>by
    rw [AAq]; unfold Pw; rw [if_pos ⟨hx,hy⟩]
   rw [if_neg (by simp),hM,OS,e2,show wr .i64 ((pre.length:Int) + 1)=((pre++[c]).length:Int) from FJ pre c r (by rw [<-e]; omega)]
   exact Yv h16 r (pre++[c]) f (by rw [e]; simp) (by simp at hf; omega) (by unfold okT at hv ⊢; rw [List.all_append,hv]; simp [h0])
  ·rw [if_neg h0,if_pos (by rfl),if_neg]
   unfold okT
   rw [e,List.all_append]
   simp [h0]
/-- The table of the program. -/
theorem WZ:HV l g=some (if l.length<=16/\okT l=true then (Je g.length (vt l g),true) else ([],false)):=by
 have hn:=hg.n
 unfold HV
 by_cases h16:l.length<=16
 ·have j:(if (decide ((l.length:Int) > 16))=true then some true else some (decide ((g.length:Int) > 64)))=some false:=by
   rw [if_neg (by simp; omega)]; simp; omega
  rw [j,OS,if_neg (by simp),if_pos (by simp [YA]; omega)]
  have z:EG g 100000 0 (List.replicate (g.length:Int).toNat ([]:List Int))=some (Je g.length (vt [] g)):=by
   have:=Sj (σ:=List (List Int)) g.length (fun i=>(List.range g.length).map fun x=>if x < i then SI g.length (vt [] g x) else []) (some (Je g.length (vt [] g))) (fun f c' s=>EG g f c' s) (by omega) (fun i hi f=>by
    show EG g (f + 1) (i:Int) ((List.range g.length).map fun x=>if x < i then SI g.length (vt [] g x) else [])=_
    conv=>lhs; unfold EG
    rw [if_pos (by simp; omega),if_pos (by simp [YA]; omega),PH (by simpa using hi),OS,Int.toNat_natCast,Int.toNat_natCast]
    rw [Vz g.length _ (fun x=>if x < i + 1 then SI g.length (vt [] g x) else []) i _ (by
     rw [if_pos (by omega)]
     unfold SI
     apply List.ext_getElem <;> simp [vt]) (fun y hy=>by
     by_cases h1:y < i
     ·rw [if_pos (by omega),if_pos h1]
     ·rw [if_neg (by omega),if_neg h1])]) (fun f=>by
    show EG g (f + 1) (g.length:Int) ((List.range g.length).map fun x=>if x < g.length then SI g.length (vt [] g x) else [])=_
    conv=>lhs; unfold EG
    rw [if_neg (by simp)]
    congr 1
    unfold Je
    exact List.map_congr_left fun x hx=>by rw [if_pos (List.mem_range.1 hx)])
   rw [<-this]
   congr 1
   apply List.ext_getElem <;> simp
  have t:=Yv hl hg h16 l [] 100000 rfl (by omega) rfl
  rw [z,OS,AEl g (by omega),OS]
  rw [show ((([]:List (List AF)).length:Nat):Int)=0 from rfl] at t
  rw [t,OS]
  by_cases hv:okT l=true
  ·rw [if_pos hv,if_pos ⟨h16,hv⟩]
  ·rw [if_neg hv,if_neg (fun h=>hv h.2)]
 ·have j:(if (decide ((l.length:Int) > 16))=true then some true else some (decide ((g.length:Int) > 64)))=some true:=by
   rw [if_pos (by simp; omega)]
  rw [j,OS,if_pos rfl,if_neg (fun h=>h16 h.1)]
end
theorem V5:∀ {l m:List Int},l.Nodup->(∀ x ∈ l,x ∈ m)->l.length<=m.length
 | [],_,_,_=>Nat.zero_le _
 | x::l,m,h,s=>by
  obtain ⟨h1,h2⟩:=List.nodup_cons.1 h
  have hx:=s x (by simp)
  have:=V5 (l:=l) (m:=m.erase x) h2 fun y hy=>(List.mem_erase_of_ne (fun e:y=x=>h1 (e ▸ hy))).2 (s y (List.mem_cons_of_mem _ hy))
  rw [List.length_erase_of_mem hx] at this
  have:0 < m.length:=List.length_pos_of_mem hx
  simp; omega
/-- The numbers below n. -/
def ACQ (n:Nat):List Int:=(List.range n).map fun (i:Nat)=>(i:Int)
theorem Yy (n:Nat):(ACQ n).length=n:=by simp [ACQ]
theorem V0 {n:Nat}{v:Int}:v ∈ ACQ n↔0<=v/\v < n:=by
 unfold ACQ
 rw [List.mem_map]
 constructor
 ·rintro ⟨i,hi,rfl⟩
  have:=List.mem_range.1 hi
  omega
 ·rintro ⟨h1,h2⟩
  exact ⟨v.toNat,List.mem_range.2 (by omega),by omega⟩
theorem ZT (n:Nat):(ACQ n).Nodup:=by
 unfold ACQ
 refine List.Pairwise.map (fun (i:Nat)=>(i:Int)) (fun a b (h:a≠b)=>?_) (List.nodup_range (n:=n))
 simp only [ne_eq]; omega
/-- In the range, none twice. -/
def pmB (n:Nat):List Int->List Int->Bool
 | _,[]=>true
 | pre,v::r=>!(decide (v < 0)||decide (v≥(n:Int))||decide (v ∈ pre))&&pmB n (pre++[v]) r
theorem WA {n:Nat}:∀ {r pre:List Int},pmB n pre r=true->pre.Nodup->(∀ v ∈ pre,0<=v/\v < n)->(pre++r).Nodup/\∀ v ∈ pre++r,0<=v/\v < n
 | [],pre,_,hn,hp=>by simpa using ⟨hn,hp⟩
 | v::r,pre,h,hn,hp=>by
  unfold pmB at h
  simp only [Bool.and_eq_true,Bool.not_eq_true',Bool.or_eq_false_iff,decide_eq_false_iff_not] at h
  obtain ⟨⟨⟨h1,h2⟩,h3⟩,h4⟩:=h
  have:=WA (r:=r) (pre:=pre++[v]) h4 (List.nodup_append.2 ⟨hn,by simp,fun a ha b hb e=>by
   simp at hb; subst hb e; exact h3 ha⟩) (fun w hw=>by
   rcases List.mem_append.1 hw with hw | hw
   ·exact hp w hw
   ·simp at hw; subst hw; omega)
  simpa using this
theorem XJ {n:Nat}:∀ {r pre:List Int},pmB n pre r=false->∃ (p:List Int) (v:Int) (q:List Int),pre++r=p++v::q/\(¬ (0<=v/\v < n)\/v ∈ p)
 | [],pre,h=>by cases h
 | v::r,pre,h=>by
  unfold pmB at h
  by_cases hb:¬ (0<=v/\v < n)\/v ∈ pre
  ·exact ⟨pre,v,r,rfl,hb⟩
  ·have hb':(decide (v < 0)||decide (v≥(n:Int))||decide (v ∈ pre))=false:=by
    simp only [Bool.or_eq_false_iff,decide_eq_false_iff_not]
    refine ⟨⟨?_,?_⟩,fun h=>hb (.inr h)⟩
    ·intro h; exact hb (.inl (by omega))
    ·intro h; exact hb (.inl (by omega))
   rw [hb'] at h
   obtain ⟨p,w,q,h1,h2⟩:=XJ (r:=r) (pre:=pre++[v]) (by simpa using h)
   exact ⟨p,w,q,by rw [<-h1]; simp,h2⟩
/-- Both tests of a permutation say the same. -/
theorem AEy (n:Nat) (o:List Int):(pmB n [] o=true/\o.length=n)↔(o.length=n/\∀ w:Nat,w < n->(w:Int) ∈ o):=by
 constructor
 ·rintro ⟨h,hl⟩
  obtain ⟨h1,h2⟩:=WA h List.nodup_nil (fun v hv=>by cases hv)
  simp only [List.nil_append] at h1 h2
  refine ⟨hl,fun w hw=>?_⟩
  by_cases hin:(w:Int) ∈ o
  ·exact hin
  ·have:=V5 (l:=(w:Int)::o) (m:=ACQ n) (List.nodup_cons.2 ⟨hin,h1⟩) (fun x hx=>by
    rcases List.mem_cons.1 hx with rfl | hx
    ·exact V0.2 (by omega)
    ·exact V0.2 (h2 x hx))
   rw [Yy] at this
   simp at this
   omega
 ·rintro ⟨hl,hw⟩
  refine ⟨?_,hl⟩
  cases h:pmB n [] o with
  | true=>rfl
  | false =>
   obtain ⟨p,v,q,h1,h2⟩:=XJ h
   simp only [List.nil_append] at h1
   have:=V5 (l:=ACQ n) (m:=p++q) (ZT n) (fun x hx=>by
    have hr:=V0.1 hx
    have:=hw x.toNat (by omega)
    rw [show ((x.toNat:Nat):Int)=x by omega,h1] at this
    rcases List.mem_append.1 this with h3 | h3
    ·exact List.mem_append_left _ h3
    ·rcases List.mem_cons.1 h3 with e | h3
     ·subst e
      rcases h2 with h2 | h2
      ·exact absurd hr h2
      ·exact List.mem_append_left _ h2
     ·exact List.mem_append_right _ h3)
   rw [Yy] at this
   have hl2:=congrArg List.length h1
   simp at hl2 this
   omega
def AAA (n:Nat) (o:List Int):Bool:=pmB n [] o&&decide (o.length=n)
theorem Yf {n:Nat}{o:List Int}(h:AAA n o=true):∀ v ∈ o,0<=v/\v < n:=by
 unfold AAA at h
 simp only [Bool.and_eq_true] at h
 exact (WA h.1 List.nodup_nil (fun v hv=>by cases hv)).2
/-- Sums. -/
def NO {α:Type}(f:α->Int):List α->Int
 | []=>0
 | x::r=>f x + NO f r
theorem TU {α:Type}(f:α->Int):∀ a b:List α,NO f (a++b)=NO f a + NO f b
 | [],b=>by simp [NO]
 | x::a,b=>by simp only [List.cons_append,NO,TU f a b]; omega
theorem UB {α:Type}{f:α->Int}{B:Int}:∀ {l:List α},(∀ x ∈ l,0<=f x/\f x<=B)->0<=NO f l/\NO f l<=l.length * B
 | [],_=>by simp [NO]
 | x::l,h=>by
  have h1:=h x (by simp)
  have h2:=UB (l:=l) fun y hy=>h y (List.mem_cons_of_mem _ hy)
  simp only [NO,List.length_cons]
  have:((l.length + 1:Nat):Int) * B=l.length * B + B:=by rw [Int.natCast_add,Int.add_mul]; simp
  rw [this]
  omega
/-- The sum over the pairs of an order: W of the later and the earlier one. -/
def prS (W:Int->Int->Int):List Int->Int
 | []=>0
 | x::r=>NO (fun y=>W y x) r + prS W r
theorem Yq (W:Int->Int->Int) (y:Int):∀ r:List Int,prS W (r++[y])=prS W r + NO (fun x=>W y x) r
 | []=>by simp [prS,NO]
 | x::r=>by
  simp only [List.cons_append,prS,Yq W y r,TU,NO]
  omega
theorem AAT {W:Int->Int->Int}{B:Int}(hB:0<=B):∀ {l:List Int},(∀ x ∈ l,∀ y ∈ l,0<=W x y/\W x y<=B)->0<=prS W l/\prS W l<=l.length * (l.length * B)
 | [],_=>by simp [prS]
 | x::l,h=>by
  have h1:=UB (f:=fun y=>W y x) (l:=l) (B:=B) fun y hy=>h y (List.mem_cons_of_mem _ hy) x (by simp)
  have h2:=AAT hB (l:=l) fun a ha b hb=>h a (List.mem_cons_of_mem _ ha) b (List.mem_cons_of_mem _ hb)
  simp only [prS,List.length_cons]
  have e:((l.length + 1:Nat):Int) * (((l.length + 1:Nat):Int) * B)=l.length * (l.length * B) + l.length * B + (l.length * B + B):=by
   rw [Int.natCast_add]
   simp only [Int.add_mul,Int.mul_add,Int.one_mul,Int.natCast_one]
  rw [e]
  have:0<=(l.length:Int) * B:=Int.mul_nonneg (by omega) hB
  omega
section
variable {g:List Ai}(hg:FewR g)
include hg
theorem AEX {c:List AF}(hc:few c){x y:Nat}(hx:x < g.length) (hy:y < g.length):KA c g (x:Int) (y:Int)=some (decide (cm c g x y < 0)):=by
 unfold KA
 rw [AEZ g hx,OS,AEZ g hy,OS,ABl c _ _ _ _ hc (hg.at_ hx) (hg.at_ hy),OS]
 rfl
theorem Wb {l:List (List AF)}(hl:∀ c ∈ l,few c) (hv:okT l=true) (h20:l.length<=1000){x y:Nat}(hx:x < g.length) (hy:y < g.length):Fd l g (x:Int) (y:Int)=some (vt l g x y):=by
 have hn:=hg.n
 unfold Fd
 have:EJ l g (x:Int) (y:Int) 100000 0 0=some (vt l g x y):=Sj (σ:=Int) l.length (fun i=>vt (l.take i) g x y) (some (vt l g x y)) (fun f c s=>EJ l g (x:Int) (y:Int) f s c) (by omega) (fun i hi f=>by
  show EJ l g (x:Int) (y:Int) (f + 1) (vt (l.take i) g x y) (i:Int)=_
  conv=>lhs; unfold EJ
  have hc:=hl _ (List.getElem_mem hi)
  have hvc:(Wv l[i]).2=0:=by
   have:=(List.all_eq_true.1 hv) _ (List.getElem_mem hi)
   simpa using this
  have hb:=ADi (l.take i) g x y
  have hlen:(l.take i).length<=1000:=by simp; omega
  have hs:vt (l.take (i + 1)) g x y=vt (l.take i) g x y + dl l[i] g x y:=by rw [List.take_succ_eq_append_getElem hi,AAq]
  have hcv:=AGI (g:=g) (Ta hvc).2 (show x < 64 by omega) (show y < 64 by omega)
  rw [if_pos (by simp; omega),PH hi,OS,AEX hg hc hx hy,OS]
  have e:If l g (x:Int) (y:Int) (vt (l.take i) g x y) (i:Int) (decide (cm l[i] g x y < 0))=some (vt (l.take (i + 1)) g x y):=by
   unfold If
   rw [hs]
   unfold dl
   by_cases h:cm l[i] g x y = -1
   ·rw [if_pos (by simp; omega),if_pos h,AAv (by omega) (by omega)]
   ·rw [if_neg (by simp; omega),if_neg h]; simp
  rw [e,OS]) (fun f=>by
  show EJ l g (x:Int) (y:Int) (f + 1) (vt (l.take l.length) g x y) (l.length:Int)=_
  conv=>lhs; unfold EJ
  rw [if_neg (by simp),List.take_length])
 rw [this]; rfl
theorem AB3 {l:List (List AF)}(hl:∀ c ∈ l,few c) (hv:okT l=true) (h20:l.length<=1000):Iw l g=some (Je g.length (vt l g)):=by
 have hn:=hg.n
 have rt:∀ (f:Nat->Int) (m:Nat),(List.range (m + 1)).map f=(List.range m).map f++[f m]:=fun f m=>by rw [List.range_succ,List.map_append]; rfl
 unfold Iw
 have:Do l g 100000 [] 0=some (Je g.length (vt l g)):=Sj (σ:=List (List Int)) g.length (fun i=>(List.range i).map fun x=>SI g.length (vt l g x)) (some (Je g.length (vt l g))) (fun f c s=>Do l g f s c) (by omega) (fun i hi f=>by
  show Do l g (f + 1) ((List.range i).map fun x=>SI g.length (vt l g x)) (i:Int)=_
  conv=>lhs; unfold Do
  have hin:EI l g ((List.range i).map fun x=>SI g.length (vt l g x)) (i:Int) 100000 [] 0=some (SI g.length (vt l g i)):=Sj (σ:=List Int) g.length (fun k=>(List.range k).map (vt l g i)) (some (SI g.length (vt l g i))) (fun f c s=>EI l g ((List.range i).map fun x=>SI g.length (vt l g x)) (i:Int) f s c) (by omega) (fun k hk f=>by
   show EI l g _ (i:Int) (f + 1) ((List.range k).map (vt l g i)) (k:Int)=_
   conv=>lhs; unfold EI
   rw [if_pos (by simp; omega),Wb hg hl hv h20 hi hk,OS,if_pos (HM (by omega) (by simp; omega)),<-rt]) (fun f=>by
   show EI l g _ (i:Int) (f + 1) ((List.range g.length).map (vt l g i)) (g.length:Int)=_
   conv=>lhs; unfold EI
   rw [if_neg (by simp)]; rfl)
  rw [if_pos (by simp; omega),hin,OS,if_pos (HM (by omega) (by simp; omega))]
  show Do l g f (((List.range i).map fun x=>SI g.length (vt l g x))++[SI g.length (vt l g i)]) _=Do l g f ((List.range (i + 1)).map fun x=>SI g.length (vt l g x)) _
  rw [List.range_succ,List.map_append]; rfl) (fun f=>by
  show Do l g (f + 1) ((List.range g.length).map fun x=>SI g.length (vt l g x)) (g.length:Int)=_
  conv=>lhs; unfold Do
  rw [if_neg (by simp)]; rfl)
 rw [this]; rfl
end
theorem ADg (c:List AF) (h:few c):Iu c=some (decide ((Wv c).2=0)):=by
 unfold Iu
 rw [ACi c h,OS]
 by_cases h:(Wv c).2=0 <;> simp [h]
theorem VQ {l:List (List AF)}(hl:∀ c ∈ l,few c) (hn:l.length<=99999):F0 l=some (okT l):=by
 have go:∀ (r pre:List (List AF)) (f:Nat),l=pre++r->r.length < f->Er l f (pre.length:Int)=some (if okT r=true then .inl () else .inr false):=by
  intro r
  induction r with
  | nil =>
   intro pre f e hf
   obtain ⟨f,rfl⟩:∃ q,f=q + 1:=⟨f - 1,by simp at hf; omega⟩
   unfold Er
   rw [if_neg (by rw [e]; simp)]; rfl
  | cons v r ih =>
   intro pre f e hf
   obtain ⟨f,rfl⟩:∃ q,f=q + 1:=⟨f - 1,by simp at hf; omega⟩
   simp only [List.length_cons] at hf
   have hl2:l.length=pre.length + r.length + 1:=by rw [e]; simp; omega
   unfold Er
   rw [if_pos (by rw [e]; exact HI pre v r),show idx l (pre.length:Int)=some v by rw [e,D8],OS,ADg v (hl v (by rw [e]; simp)),OS]
   by_cases h0:(Wv v).2=0
   ·rw [if_neg (by simp [h0]),FJ pre v r (by rw [<-e]; omega),ih (pre++[v]) f (by rw [e]; simp) (by omega)]
    have:okT (v::r)=okT r:=by unfold okT; simp [h0]
    rw [this]
   ·rw [if_pos (by simp [h0])]
    have:okT (v::r)=false:=by unfold okT; simp [h0]
    rw [this]; rfl
 have:=go l [] 100000 rfl (by omega)
 unfold F0
 rw [show ((([]:List (List AF)).length:Nat):Int)=0 from rfl] at this
 rw [this]
 cases okT l <;> rfl
theorem AER (l:List (List UInt8)) (h:l.length<=99999):Am l=some (l.any fun s=>decide ((s.length:Int) > 40)):=by
 unfold Am A2
 obtain ⟨n,h1,h2⟩:=P7 l h Ep (fun s=>decide ((s.length:Int) > 40)) (fun x _=>rfl) (BF l) (fun f c=>rfl)
 rw [<-h2]
 exact (congrArg (fun o=>o.bind fun v1=>some (decide (v1≥0))) h1)
/-- Is a guest too long? -/
def XC (g:Ai):Bool:=decide ((mxI (mxI (g.1.length:Int) (g.2.1.length:Int)) (g.2.2.1.length:Int)) > 40)||(decide ((g.2.2.2.2.2.2.2.2.length:Int) > 10)||g.2.2.2.2.2.2.2.2.any fun s=>decide ((s.length:Int) > 40))
theorem AFt (g:Ai):EB g=some (XC g):=by
 unfold EB XC
 by_cases h1:(mxI (mxI (g.1.length:Int) (g.2.1.length:Int)) (g.2.2.1.length:Int)) > 40
 ·simp [h1]
 ·by_cases h2:(g.2.2.2.2.2.2.2.2.length:Int) > 10
  ·simp [h1,h2]
  ·rw [AER _ (by omega)]
   simp [h1,h2]
theorem ABU {g:Ai}(h:XC g=false):Wn g:=by
 unfold XC at h
 simp only [Bool.or_eq_false_iff,decide_eq_false_iff_not] at h
 unfold Wn
 have:=h.2.1
 omega
theorem ABL (g:List Ai) (n:Int) (hn:n<=99999):GH g n=some (decide ((g.length:Int)<=n)&&!g.any XC):=by
 unfold GH
 by_cases h:(g.length:Int)<=n
 ·rw [if_pos (by simpa using h)]
  have e:Ah g=some (g.any XC):=by
   unfold Ah Ar
   obtain ⟨n,h1,h2⟩:=P7 g (by omega) EB XC (fun x _=>AFt x) (A4 g) (fun f c=>rfl)
   rw [<-h2]
   exact (congrArg (fun o=>o.bind fun v1=>some (decide (v1≥0))) h1)
  rw [e]
  simp [h]
 ·rw [if_neg (by simpa using h)]
  simp [h]
theorem Y0 (c:List (List UInt8)) (h:c.length<=99999):∀ (r pre:List (List UInt8)) (f:Nat),c=pre++r->r.length < f->EV c f pre (pre.length:Int)=some c
 | [],pre,f + 1,e,_=>by
  unfold EV
  rw [if_neg (by rw [e]; simp),e,List.append_nil]
 | v::r,pre,f + 1,e,hf=>by
  have hl2:c.length=pre.length + r.length + 1:=by rw [e]; simp; omega
  simp only [List.length_cons] at hf
  unfold EV
  rw [if_pos (by rw [e]; exact HI pre v r),show idx c (pre.length:Int)=some v by rw [e,D8],OS,if_pos (HM (by omega) (by omega)),show wr .i64 ((pre.length:Int) + 1)=((pre++[v]).length:Int) from FJ pre v r (by rw [<-e]; omega)]
  exact Y0 c h r (pre++[v]) f (by rw [e]; simp) (by omega)
theorem ABG (g:Ai) (h:Wn g):HX g=some g:=by
 unfold Wn at h
 unfold HX IE
 have:EV g.2.2.2.2.2.2.2.2 100000 [] 0=some g.2.2.2.2.2.2.2.2:=Y0 g.2.2.2.2.2.2.2.2 (by omega) g.2.2.2.2.2.2.2.2 [] 100000 rfl (by omega)
 rw [this]; rfl
theorem AGA (l:List (List UInt8)) (h:l.length<=99999):HZ l l=some true:=by
 unfold HZ
 have e:EW l l 100000 0=goU (fun (_:List UInt8) _ (k:Option (Unit ⊕ Bool))=>k) (some (.inl ())) l 0:=by
  refine LZ l (EW l l) _ _ 100000 (by omega) (fun f pre v r e=>?_) (fun f=>?_)
  ·conv=>lhs; unfold EW
   have hi:idx l (pre.length:Int)=some v:=by rw [e,D8]
   rw [if_pos (by rw [e]; exact HI pre v r),hi,OS,OS,if_neg (by simp),FJ pre v r (by rw [<-e]; omega)]
  ·conv=>lhs; unfold EW
   rw [if_neg (by simp)]
 have g:∀ (r:List (List UInt8)) (i:Nat),goU (fun (_:List UInt8) _ (k:Option (Unit ⊕ Bool))=>k) (some (.inl ())) r i=some (.inl ()):=fun r=>by
  induction r with
  | nil=>intro i; rfl
  | cons v r ih=>intro i; unfold goU; exact ih (i + 1)
 rw [if_neg (by simp),e,g]; rfl
theorem ABr (g:Ai) (h:Wn g):HY g g=some true:=by
 unfold Wn at h
 unfold HY
 rw [AGA _ (by omega)]
 simp
/-- A list that is copied element by element. -/
theorem AE1 {α:Type}(xs:List α) (hx:xs.length<=99999) (L:Nat->List α->Int->Option (List α)) (hs:∀ (pre:List α) (v:α) (r:List α),xs=pre++v::r->∀ f,L (f + 1) pre (pre.length:Int)=L f (pre++[v]) (wr .i64 ((pre.length:Int) + 1))) (he:∀ f,L (f + 1) xs (xs.length:Int)=some xs):L 100000 [] 0=some xs:=by
 have go:∀ (r pre:List α) (f:Nat),xs=pre++r->r.length < f->L f pre (pre.length:Int)=some xs:=by
  intro r
  induction r with
  | nil =>
   intro pre f e hf
   obtain ⟨f,rfl⟩:∃ q,f=q + 1:=⟨f - 1,by simp at hf; omega⟩
   have e':xs=pre:=by rw [e]; simp
   subst e'; exact he f
  | cons v r ih =>
   intro pre f e hf
   obtain ⟨f,rfl⟩:∃ q,f=q + 1:=⟨f - 1,by simp at hf; omega⟩
   simp only [List.length_cons] at hf
   rw [hs pre v r e f,FJ pre v r (by rw [<-e]; omega)]
   exact ih (pre++[v]) f (by rw [e]; simp) (by omega)
 exact go xs [] 100000 rfl (by omega)
theorem Zm (g:List Ai) (hg:FewR g):Gk g=some g:=by
 have hn:=hg.n
 unfold Gk
 have:DN g 100000 [] 0=some g:=AE1 g (by omega) (fun f s c=>DN g f s c) (fun pre v r e f=>by
  have hl:g.length=pre.length + r.length + 1:=by rw [e]; simp; omega
  show DN g (f + 1) pre (pre.length:Int)=_
  conv=>lhs; unfold DN
  rw [if_pos (by rw [e]; exact HI pre v r),show idx g (pre.length:Int)=some v by rw [e,D8],OS,ABG v (hg.f v (by rw [e]; simp)),OS,if_pos (HM (by omega) (by omega))]) (fun f=>by
  show DN g (f + 1) g (g.length:Int)=_
  conv=>lhs; unfold DN
  rw [if_neg (by simp)])
 rw [this]; rfl
theorem XM (g:List Ai) (hg:FewR g):Gl g g=some true:=by
 have hn:=hg.n
 unfold Gl
 have:DO g g 100000 0=some (.inl ()):=Sj (σ:=Unit) g.length (fun _=>()) (some (.inl ())) (fun f c _=>DO g g f c) (by omega) (fun i hi f=>by
  show DO g g (f + 1) (i:Int)=_
  conv=>lhs; unfold DO
  rw [if_pos (by simp; omega),PH hi,OS,OS,ABr g[i] (hg.f _ (List.getElem_mem hi)),OS,if_neg (by simp)]) (fun f=>by
  show DO g g (f + 1) (g.length:Int)=_
  conv=>lhs; unfold DO
  rw [if_neg (by simp)])
 rw [this,if_neg (by simp)]; rfl
theorem ABF (l:List (List AF)) (h:∀ c ∈ l,few c) (hn:l.length<=99999):Ha l=some l:=by
 unfold Ha
 have:Dn l 100000 [] 0=some l:=AE1 l hn (fun f s c=>Dn l f s c) (fun pre v r e f=>by
  have hl:l.length=pre.length + r.length + 1:=by rw [e]; simp; omega
  show Dn l (f + 1) pre (pre.length:Int)=_
  conv=>lhs; unfold Dn
  rw [if_pos (by rw [e]; exact HI pre v r),show idx l (pre.length:Int)=some v by rw [e,D8],OS,ACo v (h v (by rw [e]; simp)),OS,if_pos (HM (by omega) (by omega))]) (fun f=>by
  show Dn l (f + 1) l (l.length:Int)=_
  conv=>lhs; unfold Dn
  rw [if_neg (by simp)])
 rw [this]; rfl
theorem Ys (l:List (List AF)) (h:∀ c ∈ l,few c) (hn:l.length<=99999):Hb l l=some true:=by
 unfold Hb Ac
 have:AO l l 100000 0=some (.inl ()):=Sj (σ:=Unit) l.length (fun _=>()) (some (.inl ())) (fun f c _=>AO l l f c) hn (fun i hi f=>by
  show AO l l (f + 1) (i:Int)=_
  conv=>lhs; unfold AO
  rw [if_pos (by simp; omega),PH hi,OS,OS,ADa _ _ (h _ (List.getElem_mem hi)),OS,if_neg (by simp)]) (fun f=>by
  show AO l l (f + 1) (l.length:Int)=_
  conv=>lhs; unfold AO
  rw [if_neg (by simp)])
 rw [this,if_neg (by simp)]; rfl
theorem ACx (l:List (List AF)) (n:Int) (hn:n<=99999):∃ b,H4 l n=some b/\(b=true->(l.length:Int)<=n/\∀ c ∈ l,few c):=by
 have hB:∀ c:List AF,∃ b,Ew c=some b/\(b=false↔few c):=fun c=>by
  obtain ⟨b,h1,h2⟩:=AEQ c
  refine ⟨!b,by unfold Ew; rw [h1]; rfl,?_⟩
  rw [<-h2]; cases b <;> simp
 unfold H4
 by_cases h:(l.length:Int)<=n
 ·rw [if_pos (by simpa using h)]
  unfold Ap Ax
  obtain ⟨k,h1,h2⟩:=P7 l (by omega) Ew (fun c=>(Ew c).getD false) (fun c _=>by
   obtain ⟨b,h1,_⟩:=hB c
   rw [h1]; rfl) (A5 l) (fun f c=>rfl)
  have e:=congrArg (fun o:Option Int=>o.bind fun v1=>some (decide (v1≥0))) h1
  refine ⟨!decide (k≥0),?_,fun hb=>⟨h,fun c hc=>?_⟩⟩
  ·have:=congrArg (fun o:Option Bool=>(o.bind fun v1=>some (!v1)).bind fun j3=>some j3) e
   exact this
  ·have hk:decide (k≥0)=false:=by simpa using hb
   rw [hk] at h2
   have:=(List.any_eq_false.1 h2.symm) c hc
   obtain ⟨b,q1,q2⟩:=hB c
   rw [q1] at this
   exact q2.1 (by simpa using this)
 ·rw [if_neg (by simpa using h)]
  exact ⟨false,rfl,fun h=>by cases h⟩
/-- The pairs of numbers below n that meet a test. -/
def ZN (p:Nat->Nat->Bool) (x k:Nat):List (Int×Int):=((List.range k).filter (p x)).map fun (y:Nat)=>((x:Int),(y:Int))
def Li (p:Nat->Nat->Bool) (n k:Nat):List (Int×Int):=(List.range k).flatMap fun x=>ZN p x n
theorem AAb (p:Nat->Nat->Bool) (x k:Nat):ZN p x (k + 1)=ZN p x k++if p x k=true then [((x:Int),(k:Int))] else []:=by
 unfold ZN
 rw [List.range_succ,List.filter_append,List.map_append]
 congr 1
 by_cases h:p x k=true <;> simp [h]
theorem AAZ (p:Nat->Nat->Bool) (x k:Nat):(ZN p x k).length<=k:=by
 unfold ZN
 have:=List.length_filter_le (p x) (List.range k)
 simpa using this
theorem AAa (p:Nat->Nat->Bool) (x k:Nat) (h:∀ y,y < k->p x y=false):ZN p x k=[]:=by
 unfold ZN
 rw [List.filter_eq_nil_iff.2 (fun y hy=>by simp [h y (List.mem_range.1 hy)])]; rfl
theorem R6 (p:Nat->Nat->Bool) (n k:Nat):Li p n (k + 1)=Li p n k++ZN p k n:=by
 unfold Li
 rw [List.range_succ,List.flatMap_append]; simp
theorem V9 (p:Nat->Nat->Bool) (n:Nat):∀ k,(Li p n k).length<=k * n
 | 0=>by simp [Li]
 | k + 1=>by
  rw [R6,List.length_append,Nat.add_mul]
  have:=V9 p n k
  have:=AAZ p k n
  omega
theorem AGJ {σ ρ:Type}(n lo:Nat) (S:Nat->σ) (R:Option ρ) (L:Nat->Int->σ->Option ρ) (hn:n<=1000000) (hs:∀ i,lo<=i->i < n->∀ f,L (f + 1) (i:Int) (S i)=L f (wr .i64 ((i:Int) + 1)) (S (i + 1))) (he:∀ f,L (f + 1) (n:Int) (S n)=R):∀ (d i f:Nat),lo<=i->i + d=n->d < f->L f (i:Int) (S i)=R
 | 0,i,f + 1,_,e,_=>by
  rw [show i=n by omega]
  exact he f
 | d + 1,i,f + 1,hi,e,hf=>by
  rw [hs i hi (by omega) f,AAv (by omega) (by omega),show ((i:Int) + 1)=((i + 1:Nat):Int) by omega]
  exact AGJ n lo S R L hn hs he d (i + 1) f (by omega) (by omega) (by omega)
/-- Two loops that gather pairs. -/
theorem ABi (n:Nat) (hn:n<=64) (p:Nat->Nat->Bool) (st:Nat->Nat) (hst:∀ x,x < n->st x<=n/\∀ y,y < st x->p x y=false) (L1:Nat->Int->List (Int×Int)->Option (List (Int×Int))) (L2:Nat->Nat->Int->List (Int×Int)->Option (List (Int×Int)))
  (h1:∀ x,x < n->∀ f s,L1 (f + 1) (x:Int) s=(L2 x 100000 ((st x:Nat):Int) s).bind fun r=>L1 f (wr .i64 ((x:Int) + 1)) r) (h1e:∀ f s,L1 (f + 1) (n:Int) s=some s)
  (h2:∀ x y,x < n->y < n->st x<=y->∀ f s,s.length<=100000->L2 x (f + 1) (y:Int) s=L2 x f (wr .i64 ((y:Int) + 1)) (s++if p x y=true then [((x:Int),(y:Int))] else [])) (h2e:∀ x,x < n->∀ f s,L2 x (f + 1) (n:Int) s=some s):L1 100000 0 []=some (Li p n n):=by
 have hsq:n * n<=4096:=Nat.mul_le_mul hn hn
 refine Sj (σ:=List (Int×Int)) n (fun k=>Li p n k) (some (Li p n n)) L1 (by omega) (fun x hx f=>?_) (fun f=>h1e f _)
 have hl:=V9 p n x
 have hxn:x * n<=n * n:=Nat.mul_le_mul_right n (by omega)
 have hin:L2 x 100000 ((st x:Nat):Int) (Li p n x++ZN p x (st x))=some (Li p n x++ZN p x n) :=
  AGJ (σ:=List (Int×Int)) n (st x) (fun k=>Li p n x++ZN p x k) (some (Li p n x++ZN p x n)) (L2 x) (by omega) (fun k hlo hk f=>by
   have:=AAZ p x k
   rw [h2 x k hx hk hlo f _ (by simp; omega),AAb,List.append_assoc]) (fun f=>h2e x hx f _) (n - st x) (st x) 100000 (by omega) (by have:=(hst x hx).1; omega) (by omega)
 rw [AAa p x (st x) (hst x hx).2,List.append_nil] at hin
 rw [h1 x hx f,hin,OS,R6]
section
variable {l:List (List AF)}{g:List Ai}(hl:∀ c ∈ l,few c) (hg:FewR g) (h16:l.length<=16) (hv:okT l=true)
include hl hg h16 hv
def agP (l:List (List AF)) (g:List Ai) (x y:Nat):Bool:=vt l g x y==(l.length:Int)
def cfP (l:List (List AF)) (g:List Ai) (x y:Nat):Bool:=decide (x < y)&&(decide (vt l g x y > 0)&&decide (vt l g y x > 0))
theorem ACW:HO l g=some (if l=[] then [] else Li (agP l g) g.length g.length):=by
 have hn:=hg.n
 have e:Ce (g.length:Int) (Je g.length (vt l g),l)=some (Li (agP l g) g.length g.length):=by
  unfold Ce
  rw [ABi g.length hn (agP l g) (fun _=>0) (fun x hx=>⟨by omega,fun y hy=>by omega⟩) (fun f c s=>BZ (g.length:Int) (Je g.length (vt l g),l) f c s) (fun x f c s=>Ba (g.length:Int) (Je g.length (vt l g),l) (x:Int) f c s) (fun x hx f s=>by
   show BZ _ _ (f + 1) (x:Int) s=_
   conv=>lhs; unfold BZ
   rw [if_pos (by simp; omega)]; rfl) (fun f s=>by
   show BZ _ _ (f + 1) (g.length:Int) s=_
   conv=>lhs; unfold BZ
   rw [if_neg (by simp)]) (fun x y hx hy _ f s hs=>by
   show Ba _ _ (x:Int) (f + 1) (y:Int) s=_
   conv=>lhs; unfold Ba
   have q:HP (x:Int) (y:Int) (Je g.length (vt l g)) l=some (agP l g x y):=by
    unfold HP
    rw [R4 hx,OS,SJ hy]; rfl
   rw [if_pos (by simp; omega),q,OS]
   unfold D4
   by_cases h:agP l g x y=true
   ·rw [if_pos h,if_pos h,if_pos (HM (by omega) (by simp; omega)),OS]
   ·rw [if_neg h,if_neg h,OS,List.append_nil]) (fun x hx f s=>by
   show Ba _ _ (x:Int) (f + 1) (g.length:Int) s=_
   conv=>lhs; unfold Ba
   rw [if_neg (by simp)])]
  rfl
 unfold HO
 rw [WZ hl hg,if_pos ⟨h16,hv⟩,OS,if_neg (by simp),OS]
 by_cases h0:l=[]
 ·rw [if_pos h0,if_pos (by rw [h0]; rfl)]
 ·rw [if_neg h0,if_neg (by simp; exact h0),e]; rfl
theorem ACX:Is l g=some (if l=[] then [] else Li (agP l g) g.length g.length):=by
 have hn:=hg.n
 have e:EH l g 100000 0 []=some (Li (fun x y=>decide (l.length > 0)&&agP l g x y) g.length g.length):=by
  refine ABi g.length hn _ (fun _=>0) (fun x hx=>⟨by omega,fun y hy=>by omega⟩) (fun f c s=>EH l g f c s) (fun x f c s=>Ey l g (x:Int) f c s) (fun x hx f s=>by
   show EH _ _ (f + 1) (x:Int) s=_
   conv=>lhs; unfold EH
   rw [if_pos (by simp; omega)]; rfl) (fun f s=>by
   show EH _ _ (f + 1) (g.length:Int) s=_
   conv=>lhs; unfold EH
   rw [if_neg (by simp)]) (fun x y hx hy _ f s hs=>by
   show Ey _ _ (x:Int) (f + 1) (y:Int) s=_
   conv=>lhs; unfold Ey
   have q:(if (decide ((l.length:Int) > 0))=true then (Fd l g (x:Int) (y:Int)).bind fun v10=>some (v10==(l.length:Int)) else some false)=some (decide (l.length > 0)&&agP l g x y):=by
    by_cases h0:l.length > 0
    ·rw [if_pos (by simpa using h0),Wb hg hl hv (by omega) hx hy]
     simp [h0,agP]
    ·rw [if_neg (by simpa using h0)]
     simp [h0]
   rw [if_pos (by simp; omega),q,OS]
   unfold KI
   by_cases h:(decide (l.length > 0)&&agP l g x y)=true
   ·rw [if_pos h,if_pos h,if_pos (HM (by omega) (by simp; omega)),OS]
   ·rw [if_neg h,if_neg h,OS,List.append_nil]) (fun x hx f s=>by
   show Ey _ _ (x:Int) (f + 1) (g.length:Int) s=_
   conv=>lhs; unfold Ey
   rw [if_neg (by simp)])
 unfold Is
 rw [e,OS]
 by_cases h0:l=[]
 ·rw [if_pos h0]
  have:∀ k,Li (fun x y=>decide (l.length > 0)&&agP l g x y) g.length k=[]:=fun k=>by
   induction k with
   | zero=>rfl
   | succ k ih=>rw [R6,ih,AAa _ _ _ (fun y _=>by simp [h0])]; rfl
  rw [this]
 ·rw [if_neg h0]
  have:decide (l.length > 0)=true:=by simp; exact List.length_pos_iff.2 h0
  simp only [this,Bool.true_and]
theorem ACm:EL l g=some (Li (cfP l g) g.length g.length):=by
 have hn:=hg.n
 have e:B6 (g.length:Int) (Je g.length (vt l g))=some (Li (cfP l g) g.length g.length):=by
  unfold B6
  rw [ABi g.length hn (cfP l g) (fun _=>0) (fun x hx=>⟨by omega,fun y hy=>by omega⟩) (fun f c s=>BG (g.length:Int) (Je g.length (vt l g)) f c s) (fun x f c s=>BH (g.length:Int) (Je g.length (vt l g)) (x:Int) f c s) (fun x hx f s=>by
   show BG _ _ (f + 1) (x:Int) s=_
   conv=>lhs; unfold BG
   rw [if_pos (by simp; omega)]; rfl) (fun f s=>by
   show BG _ _ (f + 1) (g.length:Int) s=_
   conv=>lhs; unfold BG
   rw [if_neg (by simp)]) (fun x y hx hy _ f s hs=>by
   show BH _ _ (x:Int) (f + 1) (y:Int) s=_
   conv=>lhs; unfold BH
   have q:Ef (x:Int) (y:Int) (Je g.length (vt l g))=some (cfP l g x y):=by
    unfold Ef cfP
    by_cases h0:x < y
    ·rw [if_pos (by simp; omega),R4 hx,OS,SJ hy,OS]
     by_cases h1:vt l g x y > 0
     ·rw [if_pos (by simpa using h1),R4 hy,OS,SJ hx,OS]
      simp [h0,h1]
     ·rw [if_neg (by simpa using h1)]
      simp [h1]
    ·rw [if_neg (by simp; omega)]
     simp [h0]
   rw [if_pos (by simp; omega),q,OS]
   unfold DV
   by_cases h:cfP l g x y=true
   ·rw [if_pos h,if_pos h,if_pos (HM (by omega) (by simp; omega)),OS]
   ·rw [if_neg h,if_neg h,OS,List.append_nil]) (fun x hx f s=>by
   show BH _ _ (x:Int) (f + 1) (g.length:Int) s=_
   conv=>lhs; unfold BH
   rw [if_neg (by simp)])]
  rfl
 unfold EL
 rw [WZ hl hg,if_pos ⟨h16,hv⟩,OS,if_neg (by simp),e]; rfl
theorem ACn:GJ l g=some (Li (cfP l g) g.length g.length):=by
 have hn:=hg.n
 have e:C9 l g 100000 0 []=some (Li (cfP l g) g.length g.length):=by
  refine ABi g.length hn (cfP l g) (fun x=>x + 1) (fun x hx=>⟨by omega,fun y hy=>by unfold cfP; simp; omega⟩) (fun f c s=>C9 l g f c s) (fun x f c s=>DW l g (x:Int) f c s) (fun x hx f s=>by
   show C9 _ _ (f + 1) (x:Int) s=_
   conv=>lhs; unfold C9
   rw [if_pos (by simp; omega),show wr .i64 ((x:Int) + 1)=((x + 1:Nat):Int) by rw [AAv (by omega) (by omega)]; omega]) (fun f s=>by
   show C9 _ _ (f + 1) (g.length:Int) s=_
   conv=>lhs; unfold C9
   rw [if_neg (by simp)]) (fun x y hx hy hlo f s hs=>?_) (fun x hx f s=>by
   show DW _ _ (x:Int) (f + 1) (g.length:Int) s=_
   conv=>lhs; unfold DW
   rw [if_neg (by simp)])
  show DW _ _ (x:Int) (f + 1) (y:Int) s=_
  conv=>lhs; unfold DW
  have q:(if (decide (vt l g x y > 0))=true then (Fd l g (y:Int) (x:Int)).bind fun v11=>some (decide (v11 > 0)) else some false)=some (cfP l g x y):=by
   unfold cfP
   by_cases h1:vt l g x y > 0
   ·rw [if_pos (by simpa using h1),Wb hg hl hv (by omega) hy hx]
    simp [h1,show x < y by omega]
   ·rw [if_neg (by simpa using h1)]
    simp [h1]
  rw [if_pos (by simp; omega),Wb hg hl hv (by omega) hx hy,OS,q,OS]
  unfold Ho
  by_cases h:cfP l g x y=true
  ·rw [if_pos h,if_pos h,if_pos (HM (by omega) (by simp; omega)),OS]
  ·rw [if_neg h,if_neg h,OS,List.append_nil]
 unfold GJ
 rw [e]; rfl
end
/-- The disagreements of an order. -/
def WI (l:List (List AF)) (g:List Ai) (a b:Int):Int:=vt l g a.toNat b.toNat
theorem Xl {l:List (List AF)}(g:List Ai) (h16:l.length<=16) (a b:Int):0<=WI l g a b/\WI l g a b<=16:=by
 have:=ADi l g a.toNat b.toNat
 unfold WI; omega
theorem ACJ {l:List (List AF)}{g:List Ai}{a b:Int}(ha:0<=a/\a < g.length) (hb:0<=b/\b < g.length):∃ r,idx (Je g.length (vt l g)) a=some r/\idx r b=some (WI l g a b):=by
 have e1:((a.toNat:Nat):Int)=a:=by omega
 have e2:((b.toNat:Nat):Int)=b:=by omega
 refine ⟨SI g.length (vt l g a.toNat),?_,?_⟩
 ·have:=R4 (n:=g.length) (M:=vt l g) (x:=a.toNat) (by omega)
  rwa [e1] at this
 ·have:=SJ (n:=g.length) (f:=vt l g a.toNat) (x:=b.toNat) (by omega)
  rwa [e2] at this
theorem AAe {n:Nat}{pre:List Int}{v:Int}(hv:0<=v/\v < n):idx ((List.range n).map fun (k:Nat)=>decide ((k:Int) ∈ pre)) v=some (decide (v ∈ pre)):=by
 have e:((v.toNat:Nat):Int)=v:=by omega
 have:idx ((List.range n).map fun (k:Nat)=>decide ((k:Int) ∈ pre)) ((v.toNat:Nat):Int)=some (decide (((v.toNat:Nat):Int) ∈ pre)):=by
  rw [PH (by simp; omega)]; simp
 rwa [e] at this
theorem AAQ (n:Nat) (o:List Int) (ho:o.length<=1000):∀ (r pre:List Int) (f:Nat),o=pre++r->r.length < f->Dw o (n:Int) f ((List.range n).map fun (k:Nat)=>decide ((k:Int) ∈ pre)) (pre.length:Int)=some (if pmB n pre r=true then .inl () else .inr false)
 | [],pre,f + 1,e,_=>by
  unfold Dw
  rw [if_neg (by rw [e]; simp)]; rfl
 | v::r,pre,f + 1,e,hf=>by
  simp only [List.length_cons] at hf
  have hl:o.length=pre.length + r.length + 1:=by rw [e]; simp; omega
  unfold Dw
  rw [if_pos (by rw [e]; exact HI pre v r),show idx o (pre.length:Int)=some v by rw [e,D8],OS]
  by_cases h0:v < 0
  ·rw [if_pos (by simpa using h0),OS,if_pos rfl,if_neg]
   unfold pmB; simp [h0]
  ·rw [if_neg (by simpa using h0)]
   by_cases h1:v≥(n:Int)
   ·rw [if_pos (by simpa using h1),OS,if_pos rfl,if_neg]
    unfold pmB; simp [h1]
   ·rw [if_neg (by simpa using h1),AAe ⟨by omega,by omega⟩,OS,OS]
    by_cases h2:v ∈ pre
    ·rw [if_pos (by simpa using h2),if_neg]
     unfold pmB; simp [h2]
    ·rw [if_neg (by simpa using h2),AAe ⟨by omega,by omega⟩,OS]
     have e2:((List.range n).map fun (k:Nat)=>decide ((k:Int) ∈ pre)).set v.toNat true=(List.range n).map fun (k:Nat)=>decide ((k:Int) ∈ pre++[v]) :=
      Vz n _ _ v.toNat true (by simp; omega) (fun y hy=>by
       have:¬ ((y:Int)=v):=by omega
       simp [this])
     have e3:pmB n pre (v::r)=pmB n (pre++[v]) r:=by
      conv=>lhs; unfold pmB
      simp [h0,h1,h2]
     rw [e2,FJ pre v r (by rw [<-e]; omega),e3]
     exact AAQ n o ho r (pre++[v]) f (by rw [e]; simp) (by omega)
theorem AEw (n:Nat) (o:List Int) (hn:n<=64) (ho:o.length<=1000):Eg o (n:Int)=some (AAA n o):=by
 have h:=AAQ n o ho o [] 100000 rfl (by omega)
 have e:(List.replicate (n:Int).toNat false)=(List.range n).map fun (k:Nat)=>decide ((k:Int) ∈ ([]:List Int)):=by
  apply List.ext_getElem <;> simp
 unfold Eg
 rw [if_pos (by simp [YA]; omega),e]
 rw [show ((([]:List Int).length:Nat):Int)=0 from rfl] at h
 rw [h,OS]
 unfold AAA
 cases pmB n [] o with
 | false=>rfl
 | true =>
  show some ((o.length:Int)==(n:Int))=_
  by_cases hq:o.length=n
  ·simp [hq]
  ·have:¬ ((o.length:Int)=(n:Int)):=by omega
   simp [hq,this]
theorem AC8 (o:List Int) (v:Int) (ho:o.length<=99999):Dg o v=some (decide (v ∈ o)):=by
 unfold Dg FS
 obtain ⟨n,h1,h2⟩:=P7 o ho (fun x=>some (v==x)) (fun x=>v==x) (fun _ _=>rfl) (EF o v) (fun f c=>by
  conv=>lhs; unfold EF
  rfl)
 have e:decide (v ∈ o)=decide (n≥0):=by
  rw [h2]
  by_cases hm:v ∈ o
  ·simp [hm]
  ·simp only [hm,decide_false]
   symm
   rw [List.any_eq_false]
   intro x hx hq
   exact hm ((by simpa using hq:v=x) ▸ hx)
 rw [e]
 exact congrArg (fun q:Option Int=>q.bind fun v1=>some (decide (v1≥0))) h1
theorem AEx (n:Nat) (o:List Int) (hn:n<=64) (_ho:o.length<=1000):Eq o (n:Int)=some (AAA n o):=by
 classical
 have key:AAA n o=decide (o.length=n/\∀ w:Nat,w < n->(w:Int) ∈ o):=by
  rw [Bool.eq_iff_iff]
  have:=AEy n o
  unfold AAA
  simp only [Bool.and_eq_true,decide_eq_true_eq]
  exact this
 unfold Eq
 by_cases hl:o.length=n
 ·rw [if_neg (by simp [hl])]
  have go:∀ (d i f:Nat),i + d=n->d < f->Dx o (n:Int) f (i:Int)=some (if (∀ w:Nat,i<=w->w < n->(w:Int) ∈ o) then .inl () else .inr false):=by
   intro d
   induction d with
   | zero =>
    intro i f e hf
    obtain ⟨f,rfl⟩:∃ q,f=q + 1:=⟨f - 1,by omega⟩
    unfold Dx
    rw [if_neg (by simp; omega),if_pos (fun w h1 h2=>by omega)]
   | succ d ih =>
    intro i f e hf
    obtain ⟨f,rfl⟩:∃ q,f=q + 1:=⟨f - 1,by omega⟩
    unfold Dx
    rw [if_pos (by simp; omega),AC8 o _ (by omega),OS]
    by_cases hi:(i:Int) ∈ o
    ·rw [if_neg (by simp [hi]),AAv (by omega) (by omega),show ((i:Int) + 1)=((i + 1:Nat):Int) by omega,ih (i + 1) f (by omega) (by omega)]
     by_cases hr:∀ w:Nat,i + 1<=w->w < n->(w:Int) ∈ o
     ·rw [if_pos hr,if_pos (fun w h1 h2=>by
       by_cases e:w=i
       ·subst e; exact hi
       ·exact hr w (by omega) h2)]
     ·rw [if_neg hr,if_neg (fun h=>hr fun w h1 h2=>h w (by omega) h2)]
    ·rw [if_pos (by simp [hi]),if_neg (fun h=>hi (h i (Nat.le_refl _) (by omega)))]
  have:=go n 0 100000 (by omega) (by omega)
  rw [show ((0:Nat):Int)=0 from rfl] at this
  rw [this,key]
  by_cases hr:∀ w:Nat,w < n->(w:Int) ∈ o
  ·rw [if_pos (fun w _ h2=>hr w h2)]
   simp only [OS]
   rw [decide_eq_true ⟨hl,hr⟩]
  ·rw [if_neg (fun h=>hr fun w h2=>h w (Nat.zero_le _) h2)]
   simp only [OS]
   rw [decide_eq_false (fun h=>hr h.2)]
 ·rw [if_pos (by simp; omega),key]
  congr 1
  exact (decide_eq_false (fun h=>hl h.1)).symm
section
variable {l:List (List AF)}{g:List Ai}{o:List Int}(hg:FewR g) (h16:l.length<=16) (ho:o.length<=64) (hm:∀ v ∈ o,0<=v/\v < (g.length:Int))
include hg h16 ho hm
theorem AEO (c7:Int) (x:Int) (hx:0<=x/\x < (g.length:Int)) (ys:List Int) (hys:((o.take (o.length:Int).toNat).drop (wr .i64 (c7 + 1)).toNat)=ys) (hyo:∀ v ∈ ys,v ∈ o) (a:Int) (ha:0<=a/\a<=1000000) (hyl:ys.length<=64):BW o (Je g.length (vt l g),true) c7 x 100000 a 0=some (a + NO (fun y=>WI l g y x) ys):=by
 have _:=hg; have _:=ho
 have bnd:∀ k,0<=NO (fun y=>WI l g y x) (ys.take k)/\NO (fun y=>WI l g y x) (ys.take k)<=1024:=fun k=>by
  have:=UB (f:=fun y=>WI l g y x) (B:=16) (l:=ys.take k) (fun y _=>Xl g h16 y x)
  have hk:(ys.take k).length<=64:=by simp; omega
  omega
 have h0:a + NO (fun y=>WI l g y x) (ys.take 0)=a:=by simp [NO]
 have h1:BW o (Je g.length (vt l g),true) c7 x 100000 (a + NO (fun y=>WI l g y x) (ys.take 0)) 0=some (a + NO (fun y=>WI l g y x) ys):=by
  refine Sj (σ:=Int) ys.length (fun k=>a + NO (fun y=>WI l g y x) (ys.take k)) _ (fun f c s=>BW o (Je g.length (vt l g),true) c7 x f s c) (by omega) (fun k hk f=>?_) (fun f=>?_)
  ·show BW _ _ c7 x (f + 1) (a + NO (fun y=>WI l g y x) (ys.take k)) (k:Int)=_
   conv=>lhs; unfold BW
   have hb:=bnd k
   have hw:=Xl g h16 ys[k] x
   obtain ⟨r,r1,r2⟩:=ACJ (l:=l) (hm ys[k] (hyo _ (List.getElem_mem hk))) hx
   rw [hys,if_pos (by simp; omega),PH hk,OS,r1,OS,r2,OS,AAv (by omega) (by omega)]
   have e:NO (fun y=>WI l g y x) (ys.take (k + 1))=NO (fun y=>WI l g y x) (ys.take k) + WI l g ys[k] x:=by
    rw [List.take_succ_eq_append_getElem hk,TU]; simp [NO]
   show BW _ _ c7 x f _ _=BW _ _ c7 x f _ _
   rw [e,Int.add_assoc]
  ·show BW _ _ c7 x (f + 1) (a + NO (fun y=>WI l g y x) (ys.take ys.length)) (ys.length:Int)=_
   conv=>lhs; unfold BW
   rw [hys,if_neg (by simp),List.take_length]
 rwa [h0] at h1
theorem AAS:0<=prS (WI l g) o/\prS (WI l g) o<=100000:=by
 have _:=hg; have _:=hm
 have:=AAT (W:=WI l g) (B:=16) (by omega) (l:=o) (fun x _ y _=>Xl g h16 x y)
 have h1:(o.length:Int) * ((o.length:Int) * 16)<=64 * (64 * 16):=by
  have:o.length * (o.length * 16)<=64 * (64 * 16):=Nat.mul_le_mul ho (Nat.mul_le_mul ho (Nat.le_refl _))
  exact_mod_cast this
 omega
theorem ACq (r:List Int):∀ (pre:List Int) (f:Nat) (a:Int),o=pre++r->r.length < f->0<=a->a + prS (WI l g) r<=100000->DS o (Je g.length (vt l g),true) f a (pre.length:Int)=some (a + prS (WI l g) r):=by
 induction r with
 | nil =>
  intro pre f a e hf _ _
  obtain ⟨f,rfl⟩:∃ q,f=q + 1:=⟨f - 1,by simp at hf; omega⟩
  unfold DS
  rw [if_neg (by rw [e]; simp)]
  simp [prS]
 | cons x r ih =>
  intro pre f a e hf ha hb
  obtain ⟨f,rfl⟩:∃ q,f=q + 1:=⟨f - 1,by simp at hf; omega⟩
  simp only [List.length_cons] at hf
  have hl:o.length=pre.length + r.length + 1:=by rw [e]; simp; omega
  have hx:=hm x (by rw [e]; simp)
  have hsub:∀ v ∈ r,v ∈ o:=fun v hv=>by rw [e]; simp [hv]
  have hps:0<=prS (WI l g) r:=(AAT (W:=WI l g) (B:=16) (by omega) (l:=r) (fun x _ y _=>Xl g h16 x y)).1
  have hs:=UB (f:=fun y=>WI l g y x) (B:=16) (l:=r) (fun y _=>Xl g h16 y x)
  simp only [prS] at hb ⊢
  unfold DS
  have k1:0<=a/\a<=1000000:=by omega
  have k2:r.length<=64:=by omega
  have k3:0<=a + NO (fun y=>WI l g y x) r:=by omega
  have k4:a + NO (fun y=>WI l g y x) r + prS (WI l g) r<=100000:=by omega
  have k5:r.length < f:=by omega
  have k6:MW ((pre.length + 1:Nat):Int) (o.length:Int) o.length=true:=by simp [MW]; omega
  have k7:(pre++x::r).length<=1000000000:=by rw [<-e]; omega
  have hw:wr .i64 ((pre.length:Int) + 1)=((pre.length + 1:Nat):Int):=by rw [AAv (by omega) (by omega)]; omega
  have hys:((o.take (o.length:Int).toNat).drop (wr .i64 ((pre.length:Int) + 1)).toNat)=r:=by
   rw [hw,Int.toNat_natCast,Int.toNat_natCast,List.take_length,e]
   rw [show pre++x::r=(pre++[x])++r by simp,show pre.length + 1=(pre++[x]).length by simp,List.drop_left]
  rw [if_pos (by rw [e]; exact HI pre x r),show idx o (pre.length:Int)=some x by rw [e,D8],OS,if_pos (by rw [hw]; exact k6),AEO hg h16 ho hm (pre.length:Int) x hx r hys hsub a k1 k2,OS,FJ pre x r k7,ih (pre++[x]) f _ (by rw [e]; simp) k5 k3 k4,Int.add_assoc]
theorem ACr (x:Int) (k:Nat) (hk:idx o (k:Int)=some x) (hko:k < o.length) (a:Int) (ha:0<=a/\a<=1000000):BX (Je g.length (vt l g)) o (k:Int) 100000 a 0=some (a + NO (fun y=>WI l g x y) (o.take k)):=by
 have _:=hg
 have hxo:=hm x (ABS hk)
 have bnd:∀ q,0<=NO (fun y=>WI l g x y) (o.take q)/\NO (fun y=>WI l g x y) (o.take q)<=1024:=fun q=>by
  have:=UB (f:=fun y=>WI l g x y) (B:=16) (l:=o.take q) (fun y _=>Xl g h16 x y)
  have hk:(o.take q).length<=64:=by simp; omega
  omega
 have h0:a + NO (fun y=>WI l g x y) (o.take 0)=a:=by simp [NO]
 have h1:BX (Je g.length (vt l g)) o (k:Int) 100000 (a + NO (fun y=>WI l g x y) (o.take 0)) 0=some (a + NO (fun y=>WI l g x y) (o.take k)):=by
  refine Sj (σ:=Int) k (fun q=>a + NO (fun y=>WI l g x y) (o.take q)) _ (fun f c s=>BX (Je g.length (vt l g)) o (k:Int) f s c) (by omega) (fun q hq f=>?_) (fun f=>?_)
  ·show BX _ _ _ (f + 1) (a + NO (fun y=>WI l g x y) (o.take q)) (q:Int)=_
   conv=>lhs; unfold BX
   have hb:=bnd q
   have hqo:q < o.length:=by omega
   have hw:=Xl g h16 x o[q]
   obtain ⟨r,r1,r2⟩:=ACJ (l:=l) hxo (hm o[q] (List.getElem_mem hqo))
   rw [if_pos (by simp; omega),hk,OS,r1,OS,PH hqo,OS,r2,OS,AAv (by omega) (by omega)]
   have e:NO (fun y=>WI l g x y) (o.take (q + 1))=NO (fun y=>WI l g x y) (o.take q) + WI l g x o[q]:=by
    rw [List.take_succ_eq_append_getElem hqo,TU]; simp [NO]
   show BX _ _ _ f _ _=BX _ _ _ f _ _
   rw [e,Int.add_assoc]
  ·show BX _ _ _ (f + 1) (a + NO (fun y=>WI l g x y) (o.take k)) (k:Int)=_
   conv=>lhs; unfold BX
   rw [if_neg (by simp)]
 rwa [h0] at h1
theorem AFo:D9 (Je g.length (vt l g)) o=some (prS (WI l g) o):=by
 have go:∀ (r pre:List Int) (f:Nat),o=pre++r->r.length < f->DT (Je g.length (vt l g)) o f (prS (WI l g) pre) (pre.length:Int)=some (prS (WI l g) o):=by
  intro r
  induction r with
  | nil =>
   intro pre f e hf
   obtain ⟨f,rfl⟩:∃ q,f=q + 1:=⟨f - 1,by simp at hf; omega⟩
   have e':o=pre:=by rw [e]; simp
   unfold DT
   rw [if_neg (by rw [e]; simp),e']
  | cons x r ih =>
   intro pre f e hf
   obtain ⟨f,rfl⟩:∃ q,f=q + 1:=⟨f - 1,by simp at hf; omega⟩
   simp only [List.length_cons] at hf
   have hl:o.length=pre.length + r.length + 1:=by rw [e]; simp; omega
   have hp:=AAS hg h16 (o:=pre) (by omega) (fun v hv=>hm v (by rw [e]; simp [hv]))
   have hi:idx o (pre.length:Int)=some x:=by rw [e,D8]
   unfold DT
   rw [if_pos (by rw [e]; exact HI pre x r),ACr hg h16 ho hm x pre.length hi (by omega) _ ⟨hp.1,by omega⟩,OS,FJ pre x r (by rw [<-e]; omega),show o.take pre.length=pre by rw [e]; simp,<-Yq]
   exact ih (pre++[x]) f (by rw [e]; simp) (by omega)
 unfold D9
 have:=go o [] 100000 rfl (by omega)
 rw [show ((([]:List Int).length:Nat):Int)=0 from rfl] at this
 have e0:prS (WI l g) []=0:=rfl
 rw [e0] at this
 rw [this]; rfl
end
theorem AFn {l:List (List AF)}{g:List Ai}(hl:∀ c ∈ l,few c) (hg:FewR g) (h16:l.length<=16) (hv:okT l=true) (o:List Int) (ho:o.length<=64):DF l g o=some (if AAA g.length o=true then prS (WI l g) o else 0):=by
 unfold DF
 rw [WZ hl hg,if_pos ⟨h16,hv⟩,OS,if_neg (by simp),AEw g.length o hg.n (by omega),OS,OS]
 by_cases hp:AAA g.length o=true
 ·have hm:=Yf hp
  have hb:=AAS hg h16 ho hm
  have:=ACq hg h16 ho hm o [] 100000 0 rfl (by omega) (by omega) (by omega)
  rw [show ((([]:List Int).length:Nat):Int)=0 from rfl] at this
  rw [if_neg (by simp [hp]),if_pos hp,this]
  simp
 ·rw [if_pos (by simpa using hp),if_neg hp]
theorem Xw (xs ys:List (Int×Int)) (h:xs.length<=99999):CG xs ys=some (decide (xs=ys)):=by
 unfold CG
 have hq:∀ a b:Int×Int,(a.1==b.1&&a.2==b.2)=decide (a=b):=fun a b=>by
  obtain ⟨a1,a2⟩:=a
  obtain ⟨b1,b2⟩:=b
  by_cases h1:a1=b1 <;> by_cases h2:a2=b2 <;> simp [h1,h2]
 rw [<-Pr (p:=fun v u=>(v.1==u.1&&v.2==u.2)) hq xs ys]
 exact Xm xs ys h (fun v u=>some (v.1==u.1&&v.2==u.2)) (fun v u=>(v.1==u.1&&v.2==u.2)) (fun _ _ _ _=>rfl) (Dh xs ys) (fun f c=>rfl)
theorem ZJ {l:List (List AF)}{g:List Ai}(hl:∀ c ∈ l,few c) (h20:l.length<=20) (hg:FewR g) (o:List Int) (ho:o.length<=12):Ir l g o=some true:=by
 have hn:=hg.n
 have e1:EP o=some o:=by
  unfold EP
  rw [if_pos (HM (by omega) (by omega))]
 have e2:EQ o o=some true:=by
  unfold EQ
  have:=AEP o o (by omega) (FG o o) (fun f c=>rfl)
  rw [decide_eq_true rfl] at this
  exact this
 have lp:∀ p:Nat->Nat->Bool,(Li p g.length g.length).length<=99999:=fun p=>by
  have:=V9 p g.length g.length
  have:g.length * g.length<=64 * 64:=Nat.mul_le_mul hn hn
  omega
 unfold Ir
 rw [ABF l hl (by omega),OS,Zm g hg,OS,e1,OS]
 by_cases h16:l.length<=16/\okT l=true
 ·obtain ⟨h16,hv⟩:=h16
  have e3:Gm l g o l g o true=some ((if l=[] then [] else Li (agP l g) g.length g.length),Li (cfP l g) g.length g.length,if AAA g.length o=true then prS (WI l g) o else 0):=by
   unfold Gm
   rw [if_pos rfl,ACX hl hg h16 hv,OS,ACn hl hg h16 hv,OS,AEx g.length o hn (by omega),OS]
   unfold KH
   by_cases hp:AAA g.length o=true
   ·rw [if_pos hp,if_pos hp,AB3 hg hl hv (by omega),OS,AFo hg h16 (by omega) (Yf hp)]; rfl
   ·rw [if_neg hp,if_neg hp]; rfl
  rw [if_pos (by simp; omega),VQ hl (by omega),OS,OS,hv,e3,OS,ACW hl hg h16 hv,OS,Xw _ _ (by split; exact Nat.zero_le _; exact lp _),OS,if_pos (decide_eq_true rfl),ACm hl hg h16 hv,OS,Xw _ _ (lp _),OS,if_pos (decide_eq_true rfl),AFn hl hg h16 hv o (by omega),OS,if_pos (by simp),Ys l hl (by omega),OS,if_pos rfl,XM g hg,OS,if_pos rfl,e2]
  rfl
 ·have e4:(if (decide ((l.length:Int)<=16))=true then (F0 l).bind fun v4=>some v4 else some false)=some false:=by
   by_cases h:l.length<=16
   ·rw [if_pos (by simp; omega),VQ hl (by omega)]
    have:okT l=false:=by
     cases hq:okT l with
     | false=>rfl
     | true=>exact absurd ⟨h,hq⟩ h16
    rw [this]; rfl
   ·rw [if_neg (by simp; omega)]
  have ht:=WZ hl hg
  rw [if_neg h16] at ht
  have a1:HO l g=some []:=by
   unfold HO
   rw [ht]; rfl
  have a2:EL l g=some []:=by
   unfold EL
   rw [ht]; rfl
  have a3:DF l g o=some 0:=by
   unfold DF
   rw [ht]; rfl
  have e5:CG [] []=some true:=Xw [] [] (by simp)
  rw [e4,OS]
  have e3:Gm l g o l g o false=some ([],[],0):=by
   unfold Gm
   rw [if_neg (by simp)]
  rw [e3,OS,a1,OS,e5,OS,if_pos rfl,a2,OS,e5,OS,if_pos rfl,a3,OS,if_pos (by simp),Ys l hl (by omega),OS,if_pos rfl,XM g hg,OS,if_pos rfl,e2]
  rfl
theorem AAP (l:List (List AF)) (g:List Ai) (o:List Int):Fc l g o=some true:=by
 obtain ⟨b,h1,h2⟩:=ACx l 20 (by omega)
 unfold Fc
 rw [h1,OS,ABL g 8 (by omega)]
 cases b with
 | false=>rfl
 | true =>
  obtain ⟨hn,hl⟩:=h2 rfl
  rw [if_neg (by simp),OS]
  cases hq:(decide ((g.length:Int)<=8)&&!g.any XC) with
  | false=>rfl
  | true =>
   simp only [Bool.and_eq_true,decide_eq_true_eq,Bool.not_eq_true'] at hq
   have hg:FewR g:=⟨by omega,fun x hx=>ABU (by
    have:=List.any_eq_false.1 hq.2 x hx
    simpa using this)⟩
   rw [if_neg (by simp)]
   by_cases h12:(o.length:Int) > 12
   ·rw [if_pos (by simpa using h12)]; rfl
   ·rw [if_neg (by simpa using h12),ZJ hl (by omega) hg o (by omega)]; rfl
end Go.Proofs.YtlalcoehgkmhlaaGreatDoor
