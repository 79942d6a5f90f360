/- Lemmas for the proof. -/
import Derived.Test.YtlalcoehgkmhlaaGreatDoorCourtTurnsM1
import Derived.Test.YtlalcoehgkmhlaaGreatDoorCourtTurnsM2
import Derived.Test.YtlalcoehgkmhlaaGreatDoorCourtTurnsM3
import Derived.Test.YtlalcoehgkmhlaaGreatDoorCourtTurnsM4
import Derived.Test.YtlalcoehgkmhlaaGreatDoorCourtTurnsM5
import Derived.Test.YtlalcoehgkmhlaaGreatDoorCourtTurnsM6
import Derived.Test.YtlalcoehgkmhlaaGreatDoorCourtTurnsM7
namespace Go.Proofs.YtlalcoehgkmhlaaGreatDoor
open Go.RowKit
def fm (x:AF):Bool:=(BX x).getD false
theorem AFq (x:AF):DH x=some (fm x):=by
 obtain ⟨b,h1,h2⟩:=WV x
 rw [h1]; unfold fm; rw [h2]; rfl
theorem AFr (x:AF):BX x=some (fm x):=by
 obtain ⟨b,h1,h2⟩:=WV x
 unfold fm; rw [h2]; rfl
/-- Is a name there twice? -/
def ABX (l:List (List UInt8)):List (List UInt8)->Nat->Bool
 | [],_=>false
 | v::r,i=>JM (l.take i) v||ABX l r (i + 1)
def OW (before:List AF) (am:List UInt8):Bool:=before.any fun b=>(b.1==1)&&JM b.2.2.2.1 am
def chk (before:List AF) (x:AF):Int :=
 if fm x=false then 30 else
 if ((!(x.2.1==[]))&&!Hf x.2.1)=true\/(x.2.2.2.1.any fun s=>!Hf s)=true then 4 else
 if ABX x.2.2.2.1 x.2.2.2.1 0=true then 5 else
 if x.2.1=[]\/OW before x.2.1=true then 0 else 31
theorem XN (l:List (List UInt8)):∀ (r:List (List UInt8)) (i:Nat),goU (fun v i (k:Option (Unit ⊕ Int))=>if JM (l.take i) v=true then some (.inr 5) else k) (some (.inl ())) r i=some (if ABX l r i=true then .inr 5 else .inl ())
 | [],_=>rfl
 | v::r,i=>by
  unfold goU ABX
  rw [XN l r (i + 1)]
  cases JM (l.take i) v <;> rfl
theorem AFB (b:List AF) (j:AF) (h:j.2.2.2.1.length<=99999):GM b j 100000 0=some (if ABX j.2.2.2.1 j.2.2.2.1 0=true then .inr 5 else .inl ()):=by
 rw [<-XN]
 refine MP j.2.2.2.1 (GM b j) _ _ 100000 (by omega) (fun f pre v r e=>?_) (fun f=>?_)
 ·conv=>lhs; unfold GM
  have hl:j.2.2.2.1.length=pre.length + r.length + 1:=by rw [e]; simp; omega
  rw [if_pos (by rw [e]; exact Iu pre v r),show idx j.2.2.2.1 (pre.length:Int)=some v by rw [e,EM],OS,if_pos (by unfold KA; simp; omega),Int.toNat_natCast]
  rw [show ((j.2.2.2.1.take pre.length).drop (0:Int).toNat)=j.2.2.2.1.take pre.length from rfl,I5 _ _ (by simp; omega),OS,Gt pre v r (by rw [<-e]; omega)]
 ·conv=>lhs; unfold GM
  rw [if_neg (by simp)]
theorem AA4 (b:List AF) (x:AF) (h:b.length<=99999) (hb:∀ y ∈ b,y.2.2.2.1.length<=99999):Ap b x=some (OW b x.2.1):=by
 unfold Ap A8
 obtain ⟨n,h1,h2⟩:=Pu b h (fun v=>Hq v x) (fun y=>(y.1==1)&&JM y.2.2.2.1 x.2.1) (fun y hy=>by
  unfold Hq
  rw [I5 _ _ (hb y hy)]
  cases (y.1==1) <;> rfl) (BN b x) (fun f c=>rfl)
 unfold OW
 rw [<-h2]
 exact (congrArg (fun o=>o.bind fun v1=>some (decide (v1≥0))) h1)
theorem AE5 (b:List AF) (x:AF) (hb:few b) (hx:ZU x):I6 b x=some (chk b x):=by
 have hn:∀ s ∈ x.2.2.2.1,s.length<=99999:=fun s hs=>by have:=hx.2.2 s hs; omega
 unfold I6 chk
 rw [AFq,OS]
 cases hf:fm x with
 | false=>simp
 | true =>
  rw [if_neg (show ¬ ((!true)=true) by simp),if_neg (show ¬ (true=false) by simp),ACj _ (by have:=hx.2.1; omega) hn,XY _ (by have:=hx.1; omega)]
  have e:((if (!(x.2.1==[]))=true then (some (Hf x.2.1)).bind fun v3=>if (!v3)=true then some true else (some (x.2.2.2.1.any fun s=>!Hf s)).bind fun v4=>some v4 else (some (x.2.2.2.1.any fun s=>!Hf s)).bind fun v5=>some v5):Option Bool)=some (((!(x.2.1==[]))&&!Hf x.2.1)||(x.2.2.2.1.any fun s=>!Hf s)):=by
   cases (x.2.1==[]) <;> cases Hf x.2.1 <;> rfl
  rw [e,OS]
  cases hq:(((!(x.2.1==[]))&&!Hf x.2.1)||(x.2.2.2.1.any fun s=>!Hf s)) with
  | true=>rw [if_pos rfl,if_pos (by simpa using hq)]
  | false =>
   rw [if_neg (show ¬ (false=true) by simp),if_neg (show ¬ (((!(x.2.1==[]))&&!Hf x.2.1)=true\/(x.2.2.2.1.any fun s=>!Hf s)=true) by simpa using hq),AFB _ _ (by have:=hx.2.1; omega),OS]
   try dsimp only
   cases hd:ABX x.2.2.2.1 x.2.2.2.1 0 with
   | true=>rfl
   | false =>
    rw [if_neg (show ¬ (false=true) by simp)]
    dsimp only
    have hr:=AA4 b x (by have:=hb.1; omega) (fun y hy=>by have:=(hb.2 y hy).2.1; omega)
    rw [hr]
    by_cases ha:x.2.1=[]
    ·simp [ha]
    ·simp only [ha,false_or]
     cases OW b x.2.1 <;> simp [ha]
/-- .. of the reference. -/
theorem ABa:∀ (l:List (List UInt8)) (i:Nat),goU (fun v _ (k:Option (Unit ⊕ Int))=>if (!Hf v)=true then some (.inr 4) else k) (some (.inl ())) l i=some (if (l.any fun s=>!Hf s)=true then .inr 4 else .inl ())
 | [],_=>rfl
 | v::r,i=>by
  unfold goU
  rw [ABa r (i + 1),List.any_cons]
  cases Hf v <;> rfl
theorem ABb (am:List UInt8):∀ (l:List AF) (i:Nat),goU (fun (v:AF) _ (k:Option (Unit ⊕ Int))=>if ((v.1==1)&&JM v.2.2.2.1 am)=true then some (.inr 0) else k) (some (.inl ())) l i=some (if OW l am=true then .inr 0 else .inl ())
 | [],_=>rfl
 | v::r,i=>by
  unfold goU
  have:OW (v::r) am=(((v.1==1)&&JM v.2.2.2.1 am)||OW r am):=rfl
  rw [ABb am r (i + 1),this]
  cases ((v.1==1)&&JM v.2.2.2.1 am) <;> rfl
section
variable (c pre r:List AF) (x:AF) (e:c=pre++x::r) (h:few c)
include e h
theorem Zs:Eb c (pre.length:Int) 100000 0=some (if (x.2.2.2.1.any fun s=>!Hf s)=true then .inr 4 else .inl ()):=by
 have hx:ZU x:=h.2 x (by rw [e]; simp)
 have hi:idx c (pre.length:Int)=some x:=by rw [e,EM]
 rw [<-ABa _ 0]
 refine MP x.2.2.2.1 (Eb c (pre.length:Int)) _ _ 100000 (by have:=hx.2.1; omega) (fun f p v q e'=>?_) (fun f=>?_)
 ·conv=>lhs; unfold Eb
  have hv:=hx.2.2 v (by rw [e']; simp)
  rw [hi,OS,if_pos (by rw [e']; exact Iu p v q),OS,show idx x.2.2.2.1 (p.length:Int)=some v by rw [e',EM],OS,Va v (by omega),OS,Gt p v q (by have:=hx.2.1; rw [<-e']; omega)]
 ·conv=>lhs; unfold Eb
  rw [hi,OS,if_neg (by simp)]
theorem ACw:Ec c (pre.length:Int) 100000 0=some (if ABX x.2.2.2.1 x.2.2.2.1 0=true then .inr 5 else .inl ()):=by
 have hx:ZU x:=h.2 x (by rw [e]; simp)
 have hi:idx c (pre.length:Int)=some x:=by rw [e,EM]
 rw [<-XN]
 refine MP x.2.2.2.1 (Ec c (pre.length:Int)) _ _ 100000 (by have:=hx.2.1; omega) (fun f p v q e'=>?_) (fun f=>?_)
 ·conv=>lhs; unfold Ec
  have hl:x.2.2.2.1.length=p.length + q.length + 1:=by rw [e']; simp; omega
  have:=hx.2.1
  rw [hi,OS,if_pos (by rw [e']; exact Iu p v q),OS,if_pos (by unfold KA; simp; omega),OS,show idx x.2.2.2.1 (p.length:Int)=some v by rw [e',EM],OS,Int.toNat_natCast,
   show ((x.2.2.2.1.take p.length).drop (0:Int).toNat)=x.2.2.2.1.take p.length from rfl,U1 _ _ (by simp; omega),OS,Gt p v q (by rw [<-e']; omega)]
 ·conv=>lhs; unfold Ec
  rw [hi,OS,if_neg (by simp)]
theorem Yr:Ed c (pre.length:Int) 100000 0=some (if OW pre x.2.1=true then .inr 0 else .inl ()):=by
 have hi:idx c (pre.length:Int)=some x:=by rw [e,EM]
 have hl:c.length=pre.length + r.length + 1:=by rw [e]; simp; omega
 have hc:=h.1
 rw [<-ABb _ _ 0]
 refine MP pre (Ed c (pre.length:Int)) _ _ 100000 (by omega) (fun f p v q e'=>?_) (fun f=>?_)
 ·conv=>lhs; unfold Ed
  have hv:ZU v:=h.2 v (by rw [e,e']; simp)
  have hl2:pre.length=p.length + q.length + 1:=by rw [e']; simp; omega
  rw [if_pos (by simp; omega),show idx c (p.length:Int)=some v by rw [e,e',List.append_assoc,List.cons_append,EM],OS,hi,OS,OS,U1 _ _ (by have:=hv.2.1; omega),Gt p v q (by rw [<-e']; omega)]
  cases (v.1==1) <;> rfl
 ·conv=>lhs; unfold Ed
  rw [if_neg (by simp)]
theorem AE6:HG c (pre.length:Int)=some (chk pre x):=by
 have hx:ZU x:=h.2 x (by rw [e]; simp)
 have hi:idx c (pre.length:Int)=some x:=by rw [e,EM]
 unfold HG chk
 rw [hi,OS,AFr,OS,OS,OS,Zs c pre r x e h,ACw c pre r x e h,Yr c pre r x e h,Va _ (by have:=hx.1; omega)]
 cases hf:fm x with
 | false=>simp
 | true =>
  rw [if_neg (show ¬ ((!true)=true) by simp),if_neg (show ¬ (true=false) by simp)]
  have e2:((if (!(x.2.1==[]))=true then (some (Hf x.2.1)).bind fun v6=>some (!v6) else some false):Option Bool)=some ((!(x.2.1==[]))&&!Hf x.2.1):=by
   cases (x.2.1==[]) <;> rfl
  rw [e2,OS,OS]
  cases hq:((!(x.2.1==[]))&&!Hf x.2.1) <;> cases hn:(x.2.2.2.1.any fun s=>!Hf s) <;> cases hd:ABX x.2.2.2.1 x.2.2.2.1 0 <;> cases hr:OW pre x.2.1 <;> by_cases ha:x.2.1=[] <;> simp [ha]
end
/-- The first error of a text: its place, and which. -/
def Ya (c:List AF):List AF->Nat->Unit ⊕ (Int×Int)
 | [],_=> .inl ()
 | x::r,i=>if chk (c.take i) x≠0 then .inr ((i:Int),chk (c.take i) x) else Ya c r (i + 1)
def SJ (c:List AF):Int×Int:=if c.length > 32 then (0,7) else match Ya c c 0 with
 | .inl _=>(0,0)
 | .inr w=>w
theorem XM (c:List AF):∀ (r:List AF) (i:Nat),goU (fun x i (k:Option (Unit ⊕ (Int×Int)))=>if (chk (c.take i) x != 0)=true then some (.inr ((i:Int),chk (c.take i) x)) else k) (some (.inl ())) r i=some (Ya c r i)
 | [],_=>rfl
 | x::r,i=>by
  unfold goU Ya
  rw [XM c r (i + 1)]
  by_cases h:chk (c.take i) x=0 <;> simp [h]
theorem AAi {c:List AF}(h:few c) (n:Nat):few (c.take n):=⟨by have:=h.1; simp; omega,fun x hx=>h.2 x (List.mem_of_mem_take hx)⟩
theorem ZF (c:List AF) (h:few c):IN c=some (SJ c):=by
 have hl:=h.1
 have e1:GK c 100000 0=some (Ya c c 0):=by
  rw [<-XM]
  refine MP c (GK c) _ _ 100000 (by omega) (fun f pre v r e=>?_) (fun f=>?_)
  ·conv=>lhs; unfold GK
   have hl2:c.length=pre.length + r.length + 1:=by rw [e]; simp; omega
   rw [if_pos (by rw [e]; exact Iu pre v r),show idx c (pre.length:Int)=some v by rw [e,EM],OS,if_pos (by unfold KA; simp; omega),Int.toNat_natCast,
    show ((c.take pre.length).drop (0:Int).toNat)=c.take pre.length from rfl,AE5 _ v (AAi h _) (h.2 v (by rw [e]; simp)),OS,Gt pre v r (by rw [<-e]; omega)]
  ·conv=>lhs; unfold GK
   rw [if_neg (by simp)]
 unfold IN SJ
 by_cases h32:c.length > 32
 ·rw [if_pos (by simp; omega),if_pos h32]
 ·rw [if_neg (by simp; omega),if_neg h32,e1,OS]
  cases Ya c c 0 <;> rfl
theorem AB2 (c:List AF) (h:few c):JC c=some (SJ c):=by
 have hl:=h.1
 have e1:GN c 100000 0=some (Ya c c 0):=by
  rw [<-XM]
  refine MP c (GN c) _ _ 100000 (by omega) (fun f pre v r e=>?_) (fun f=>?_)
  ·conv=>lhs; unfold GN
   rw [if_pos (by rw [e]; exact Iu pre v r),AE6 c pre r v e h,OS,Gt pre v r (by rw [<-e]; omega),show c.take pre.length=pre by rw [e]; simp]
  ·conv=>lhs; unfold GN
   rw [if_neg (by simp)]
 unfold JC SJ
 by_cases h32:c.length > 32
 ·rw [if_pos (by simp; omega),if_pos h32]
 ·rw [if_neg (by simp; omega),if_neg h32,e1,OS]
  cases Ya c c 0 <;> rfl
/- trestle/court.Reason -/
/- trestle/court.Compare -/
/-- The first of a word in a list, from a number on. -/
def rkN (s:List UInt8):List (List UInt8)->Nat->Nat
 | [],i=>i
 | v::r,i=>if (s==v)=true then i else rkN s r (i + 1)
theorem Zv (s:List UInt8):∀ (l:List (List UInt8)) (i:Nat),JM l s=false->rkN s l i=i + l.length
 | [],i,_=>rfl
 | v::r,i,h=>by
  have h':((s==v)||JM r s)=false:=h
  simp only [Bool.or_eq_false_iff] at h'
  unfold rkN
  rw [if_neg (show ¬ (s==v)=true by rw [h'.1]; decide),Zv s r (i + 1) h'.2]
  simp; omega
theorem Zb (s:List UInt8):∀ (l:List (List UInt8)) (i:Nat),goU (fun v i (k:Option (Unit ⊕ Int))=>if (s==v)=true then some (.inr (i:Int)) else k) (some (.inl ())) l i=some (if JM l s=true then .inr (rkN s l i:Int) else .inl ())
 | [],_=>rfl
 | v::r,i=>by
  unfold goU rkN
  rw [Zb s r (i + 1)]
  have:JM (v::r) s=((s==v)||JM r s):=rfl
  rw [this]
  cases (s==v) <;> rfl
theorem ACT (s:List UInt8) (l:List (List UInt8)) (i:Nat):goU (fun v i (k:Option (Unit ⊕ Int))=>if (v==s)=true then some (.inr (i:Int)) else k) (some (.inl ())) l i=some (if JM l s=true then .inr (rkN s l i:Int) else .inl ()):=by
 rw [<-Zb]
 congr 1
 funext v i k
 rw [Bool.beq_comm]
def rk (l:List (List UInt8)) (s:List UInt8):Int:=(rkN s l 0:Nat)
theorem ABh (x:Ab) (c:AF) (h:c.2.2.2.1.length<=99999):FO x c=some (rk c.2.2.2.1 x.1.2.1):=by
 unfold FO Cc
 have e:Bq c.2.2.2.1 x.1.2.1 100000 0=some (if JM c.2.2.2.1 x.1.2.1=true then .inr (rkN x.1.2.1 c.2.2.2.1 0:Int) else .inl ()):=by
  rw [<-Zb]
  refine MP c.2.2.2.1 (Bq c.2.2.2.1 x.1.2.1) _ _ 100000 (by omega) (fun f pre v r e=>?_) (fun f=>?_)
  ·conv=>lhs; unfold Bq
   rw [if_pos (by rw [e]; exact Iu pre v r),show idx c.2.2.2.1 (pre.length:Int)=some v by rw [e,EM],OS,Gt pre v r (by rw [<-e]; omega)]
  ·conv=>lhs; unfold Bq
   rw [if_neg (by simp)]
 rw [e]
 cases hh:JM c.2.2.2.1 x.1.2.1 with
 | true=>simp [rk]
 | false=>simp [rk,Zv _ _ _ hh]
theorem ABi (l:List (List UInt8)) (s:List UInt8) (h:l.length<=99999):JI l s=some (rk l s):=by
 unfold JI
 have e:HA l s 100000 0=some (if JM l s=true then .inr (rkN s l 0:Int) else .inl ()):=by
  rw [<-ACT]
  refine MP l (HA l s) _ _ 100000 (by omega) (fun f pre v r e=>?_) (fun f=>?_)
  ·conv=>lhs; unfold HA
   rw [if_pos (by rw [e]; exact Iu pre v r),show idx l (pre.length:Int)=some v by rw [e,EM],OS,Gt pre v r (by rw [<-e]; omega)]
  ·conv=>lhs; unfold HA
   rw [if_neg (by simp)]
 rw [e]
 cases hh:JM l s with
 | true=>simp [rk]
 | false=>simp [rk,Zv _ _ _ hh]
/-- -1, 0 or 1. -/
def OQ (x y:Int):Int:=if x < y then -1 else if y < x then 1 else 0
theorem AAY (x y:Int):Dc x y=some (OQ x y):=by
 unfold Dc Hn OQ
 simp only [bne_self_eq_false,OS,Bool.false_eq_true,if_false,decide_eq_true_eq,gt_iff_lt]
 split
 ·rfl
 ·split <;> rfl
def Yy (x y:List UInt8):Int:=if Go.Op.bytesLess x y=true then -1 else if (!(Go.Op.bytesLess x y||x==y))=true then 1 else 0
theorem AE7 (x y:List UInt8):Ei x y=some (Yy x y):=by
 unfold Ei Fs Yy
 simp only [beq_self_eq_true,Bool.not_true,OS,Bool.false_eq_true,if_false]
 split
 ·rfl
 ·split <;> rfl
/-- Does a clause name a guest? -/
def nmB (c:AF) (g:An):Bool :=
 if (c.1==4)=true then g.2.2.2.2.1==c.2.2.2.2 else
 if (c.1==5)=true then g.2.2.2.2.2.2.1 else
 if (c.1==7)=true then JM c.2.2.2.1 g.2.2.1 else g.2.2.2.2.2.2.2.2.any fun s=>JM c.2.2.2.1 s
theorem ABc (l:List (List UInt8)):∀ (t:List (List UInt8)) (i:Nat),goU (fun v _ (k:Option (Unit ⊕ Bool))=>if JM l v=true then some (.inr true) else k) (some (.inl ())) t i=some (if (t.any fun s=>JM l s)=true then .inr true else .inl ())
 | [],_=>rfl
 | v::r,i=>by
  unfold goU
  rw [ABc l r (i + 1),List.any_cons]
  cases JM l v <;> rfl
theorem Zk (c:AF) (g:An) (h:c.2.2.2.1.length<=99999) (ht:g.2.2.2.2.2.2.2.2.length<=99999):HH c g=some (nmB c g):=by
 unfold HH nmB
 split
 ·rfl
 split
 ·rfl
 split
 ·rw [U1 _ _ h]; rfl
 have e:GO c g 100000 0=some (if (g.2.2.2.2.2.2.2.2.any fun s=>JM c.2.2.2.1 s)=true then .inr true else .inl ()):=by
  rw [<-ABc _ _ 0]
  refine MP g.2.2.2.2.2.2.2.2 (GO c g) _ _ 100000 (by omega) (fun f pre v r e=>?_) (fun f=>?_)
  ·conv=>lhs; unfold GO
   rw [if_pos (by rw [e]; exact Iu pre v r),show idx g.2.2.2.2.2.2.2.2 (pre.length:Int)=some v by rw [e,EM],OS,U1 _ _ h,OS,Gt pre v r (by rw [<-e]; omega)]
  ·conv=>lhs; unfold GO
   rw [if_neg (by simp)]
 rw [e]
 cases (g.2.2.2.2.2.2.2.2.any fun s=>JM c.2.2.2.1 s) <;> rfl
theorem Wy (t:List (List UInt8)) (c:AF) (ht:t.length<=99999) (h:c.2.2.2.1.length<=99999):A0 t c=some (t.any fun s=>JM c.2.2.2.1 s):=by
 unfold A0 BR
 obtain ⟨n,h1,h2⟩:=Pu t ht (fun v=>GZ v c) (fun s=>JM c.2.2.2.1 s) (fun v _=>by unfold GZ; rw [I5 _ _ h]; rfl) (Bg t c) (fun f c=>rfl)
 rw [<-h2]
 exact (congrArg (fun o=>o.bind fun v1=>some (decide (v1≥0))) h1)
def nv (c:AF) (g:An):Int:=if (!(nmB c g==c.2.2.1))=true then 0 else 1
def QK (i:Int):Bool:=decide (i≥0)&&decide (i<=63)
theorem AFM (i:Int):EF i=some (QK i):=by
 unfold EF QK
 by_cases h:i≥0 <;> simp [h]
theorem AD0 (i:Int):Bp i 0 63=some (QK i):=by
 unfold Bp QK
 by_cases h:i≥0 <;> simp [h]
def kyI (i n:Int):Int:=(wr .i64 ((wr .i64 (i * (wr .i64 ((wr .i64 (n + n)) + 1)))) + n)).tmod 64
theorem AFQ (i:Int) (c:AF):GC i c=some (kyI i c.2.2.2.2):=by
 unfold GC kyI
 rw [Int.two_mul]
theorem AD4 (i n:Int):MT i n=some (kyI i n):=rfl
def b2 (b:Bool):Int:=if b=true then 1 else 0
theorem AFn (b:Bool):L5 b=some (b2 b):=by cases b <;> rfl
def snc (y:Bool) (s t:Int):Int:=if (!((s==0)==(t==0)))=true then OQ (b2 (s==0)) (b2 (t==0)) else if y=true then wr .i64 (0 - OQ s t) else OQ s t
/-- What a clause says of two guests at their places, without regard to Among. -/
def S5 (c:AF) (a b:An) (i j:Int):Int :=
 if (c.1==1)=true then OQ (rk c.2.2.2.1 a.2.1) (rk c.2.2.2.1 b.2.1) else
 if (c.1==2)=true then snc false a.2.2.2.1 b.2.2.2.1 else
 if (c.1==3)=true then snc true a.2.2.2.1 b.2.2.2.1 else
 if (c.1==8)=true then Yy a.1 b.1 else
 if (c.1==9)=true then if (!QK i||!QK j)=true then 0 else OQ i j else
 if (c.1==10)=true then if (!QK i||!QK j)=true then 0 else OQ (kyI i c.2.2.2.2) (kyI j c.2.2.2.2) else
 OQ (nv c a) (nv c b)
def amB (c:AF) (a b:An):Bool:=(!(c.2.1==[]))&&((!(a.2.1==c.2.1))||(!(b.2.1==c.2.1)))
def dir (c:AF) (a b:An) (i j:Int):Int:=if amB c a b=true then 0 else S5 c a b i j
theorem AFf (c:AF) (a b:An):((if (!(c.2.1==[]))=true then if (!(a.2.1==c.2.1))=true then some true else some (!(b.2.1==c.2.1)) else some false):Option Bool)=some (amB c a b):=by
 unfold amB
 cases (c.2.1==[]) <;> cases (a.2.1==c.2.1) <;> rfl
theorem YH (a b:An) (i j:Int) (c:AF):EW (a,i) (b,j) c=some (snc (c.1==3) a.2.2.2.1 b.2.2.2.1):=by
 unfold EW snc I1
 simp only [AFn,AAY,OS]
 split
 ·rfl
 ·split <;> rfl
theorem AFA (c:AF) (a b:An) (i j:Int) (h:c.2.2.2.1.length<=99999) (ha:a.2.2.2.2.2.2.2.2.length<=99999) (hb:b.2.2.2.2.2.2.2.2.length<=99999) (hk:1<=c.1/\c.1<=10):GY (a,i) (b,j) c=some (dir c a b i j):=by
 have cl:∀ (o:Option Int) (x:Int),o=some x->((((if (!(c.2.1==[]))=true then if (!(a.2.1==c.2.1))=true then some true else some (!(b.2.1==c.2.1)) else some false):Option Bool).bind fun j2=>if j2=true then some 0 else o.bind fun v4=>some v4):Option Int)=some (if amB c a b=true then 0 else x):=fun o x e=>by
  rw [AFf,OS,e]
  cases amB c a b <;> rfl
 have nm:∀ (p q:Bool),((if (!(p==c.2.2.1))=true then some 0 else some 1:Option Int).bind fun v1=>(if (!(q==c.2.2.1))=true then some 0 else some 1:Option Int).bind fun v2=>(Dc v1 v2).bind fun v3=>some v3)=some (OQ (if (!(p==c.2.2.1))=true then 0 else 1) (if (!(q==c.2.2.1))=true then 0 else 1)):=fun p q=>by
  simp only [AAY]
  cases (p==c.2.2.1) <;> cases (q==c.2.2.1) <;> rfl
 have pl:∀ (o:Int->Option Int) (k:Int->Int),(∀ i,o i=some (k i))->(((EF i).bind fun v1=>((if (!v1)=true then some true else (EF j).bind fun v2=>some (!v2)):Option Bool).bind fun j4=>if j4=true then some 0 else (o i).bind fun v6=>(o j).bind fun v7=>(Dc v6 v7).bind fun v8=>some v8):Option Int)=some (if (!QK i||!QK j)=true then 0 else OQ (k i) (k j)):=fun o k e=>by
  simp only [AFM,OS,e,AAY]
  cases QK i <;> cases QK j <;> rfl
 unfold GY dir
 by_cases h1:c.1=1
 ·have e1:(c.1==1)=true:=by simp [h1]
  rw [if_pos e1]
  refine cl (Dl (fun x (v:AF×Unit)=>FO x v.1) (a,i) (b,j) (c,())) _ ?_
  unfold Dl S5
  dsimp only
  rw [if_pos e1,ABh _ c h,OS,ABh _ c h,OS,AAY]; rfl
 rw [if_neg (show ¬ (c.1==1)=true by simpa using h1)]
 by_cases h2:c.1=2
 ·have e2:(c.1==2)=true:=by simp [h2]
  rw [if_pos e2]
  refine cl (EW (a,i) (b,j) c) _ ?_
  unfold S5
  rw [if_neg (show ¬ (c.1==1)=true by simpa using h1),if_pos e2,YH,h2]; rfl
 rw [if_neg (show ¬ (c.1==2)=true by simpa using h2)]
 by_cases h3:c.1=3
 ·have e3:(c.1==3)=true:=by simp [h3]
  rw [if_pos e3]
  refine cl (EW (a,i) (b,j) c) _ ?_
  unfold S5
  rw [if_neg (show ¬ (c.1==1)=true by simpa using h1),if_neg (show ¬ (c.1==2)=true by simpa using h2),if_pos e3,YH,h3]; rfl
 rw [if_neg (show ¬ (c.1==3)=true by simpa using h3)]
 by_cases h4:c.1=4
 ·have e4:(c.1==4)=true:=by simp [h4]
  rw [if_pos e4]
  refine cl (Dl (fun x (v:AF×AF×Unit)=>CD x v.1 v.2.1) (a,i) (b,j) (c,c,())) _ ?_
  have:S5 c a b i j=OQ (nv c a) (nv c b):=by unfold S5; simp [h4]
  rw [this]
  unfold nv nmB
  rw [if_pos e4,if_pos e4]
  exact nm _ _
 rw [if_neg (show ¬ (c.1==4)=true by simpa using h4)]
 by_cases h5:c.1=5
 ·have e5:(c.1==5)=true:=by simp [h5]
  rw [if_pos e5]
  refine cl (Dl (fun x (v:Unit×AF×Unit)=>CE x v.2.1) (a,i) (b,j) ((),c,())) _ ?_
  have:S5 c a b i j=OQ (nv c a) (nv c b):=by unfold S5; simp [h5]
  rw [this]
  unfold nv nmB
  simp only [h5]
  exact nm _ _
 rw [if_neg (show ¬ (c.1==5)=true by simpa using h5)]
 by_cases h6:c.1=6
 ·have e6:(c.1==6)=true:=by simp [h6]
  rw [if_pos e6]
  refine cl (Dl (fun x (v:AF×AF×Unit)=>Bv x v.1 v.2.1) (a,i) (b,j) (c,c,())) _ ?_
  have:S5 c a b i j=OQ (nv c a) (nv c b):=by unfold S5; simp [h6]
  rw [this]
  unfold Dl Bv Im
  dsimp only
  rw [Wy _ _ ha h,Wy _ _ hb h]
  unfold nv nmB
  simp only [h6]
  exact nm _ _
 rw [if_neg (show ¬ (c.1==6)=true by simpa using h6)]
 by_cases h7:c.1=7
 ·have e7:(c.1==7)=true:=by simp [h7]
  rw [if_pos e7]
  refine cl (Dl (fun x (v:AF×AF×Unit)=>Bw x v.1 v.2.1) (a,i) (b,j) (c,c,())) _ ?_
  have:S5 c a b i j=OQ (nv c a) (nv c b):=by unfold S5; simp [h7]
  rw [this]
  unfold Dl Bw In
  dsimp only
  rw [I5 _ _ h,I5 _ _ h]
  unfold nv nmB
  simp only [h7]
  exact nm _ _
 rw [if_neg (show ¬ (c.1==7)=true by simpa using h7)]
 by_cases h8:c.1=8
 ·have e8:(c.1==8)=true:=by simp [h8]
  rw [if_pos e8]
  refine cl (G4 (a,i) (b,j)) _ ?_
  have:S5 c a b i j=Yy a.1 b.1:=by unfold S5; simp [h8]
  rw [this]
  unfold G4
  rw [AE7]; rfl
 rw [if_neg (show ¬ (c.1==8)=true by simpa using h8)]
 by_cases h10:c.1=10
 ·have e10:(c.1==10)=true:=by simp [h10]
  rw [if_pos e10]
  refine cl (BD (a,i) (b,j) c) _ ?_
  have:S5 c a b i j=if (!QK i||!QK j)=true then 0 else OQ (kyI i c.2.2.2.2) (kyI j c.2.2.2.2):=by unfold S5; simp [h10]
  rw [this]
  exact pl (fun i=>GC i c) (fun i=>kyI i c.2.2.2.2) (fun i=>AFQ i c)
 rw [if_neg (show ¬ (c.1==10)=true by simpa using h10)]
 have h9:c.1=9:=by omega
 refine cl (BF (a,i) (b,j)) _ ?_
 have:S5 c a b i j=if (!QK i||!QK j)=true then 0 else OQ i j:=by unfold S5; simp [h9]
 rw [this]
 exact pl (fun i=>Hs i) (fun i=>i) (fun i=>rfl)
/-- Does a guest go before another by a clause? -/
def bf (c:AF) (a b:An) (i j:Int):Bool :=
 if (c.1==1)=true then decide (rk c.2.2.2.1 a.2.1 < rk c.2.2.2.1 b.2.1) else
 if (c.1==2)=true then (a.2.2.2.1 != 0)&&((b.2.2.2.1==0)||decide (a.2.2.2.1 < b.2.2.2.1)) else
 if (c.1==3)=true then (a.2.2.2.1 != 0)&&((b.2.2.2.1==0)||decide (a.2.2.2.1 > b.2.2.2.1)) else
 if (c.1==8)=true then Go.Op.bytesLess a.1 b.1 else
 if (c.1==9)=true then QK i&&(QK j&&decide (i < j)) else
 if (c.1==10)=true then QK i&&(QK j&&decide (kyI i c.2.2.2.2 < kyI j c.2.2.2.2)) else
 if c.2.2.1=true then (!nmB c a)&&nmB c b else nmB c a&&!nmB c b
theorem Xu (c:AF) (a b:An) (i j:Int) (h:c.2.2.2.1.length<=99999) (ha:a.2.2.2.2.2.2.2.2.length<=99999) (hb:b.2.2.2.2.2.2.2.2.length<=99999):Hi c a b i j=some (bf c a b i j):=by
 unfold Hi bf
 rw [ABi _ _ h,ABi _ _ h,Zk c a h ha,Zk c b h hb,AD0,AD0,AD4,AD4]
 simp only [OS]
 split
 ·rfl
 split
 ·cases (a.2.2.2.1 != 0) <;> cases (b.2.2.2.1==0) <;> rfl
 split
 ·cases (a.2.2.2.1 != 0) <;> cases (b.2.2.2.1==0) <;> rfl
 split
 ·rfl
 split
 ·cases QK i <;> cases QK j <;> rfl
 split
 ·cases QK i <;> cases QK j <;> rfl
 split
 ·cases nmB c a <;> cases nmB c b <;> rfl
 ·cases nmB c a <;> cases nmB c b <;> rfl
theorem VL:∀ (x y:List UInt8),Go.Op.bytesLess x y=false->Go.Op.bytesLess y x=!(x==y)
 | [],[],_=>rfl
 | a::x,[],_=>rfl
 | [],b::y,h=>by cases h
 | a::x,b::y,h=>by
  have h':(decide (a < b)||(a==b&&Go.Op.bytesLess x y))=false:=h
  simp only [Bool.or_eq_false_iff,decide_eq_false_iff_not] at h'
  show (decide (b < a)||(b==a&&Go.Op.bytesLess y x))=!(a::x==b::y)
  by_cases e:a=b
  ·subst e
   have h2:Go.Op.bytesLess x y=false:=by simpa using h'.2
   have:=VL x y h2
   simp [this]
  ·have hlt:b < a:=by
    rcases Nat.lt_trichotomy a.toNat b.toNat with q | q | q
    ·exact absurd (UInt8.lt_iff_toNat_lt.2 q) h'.1
    ·exact absurd (UInt8.toNat_inj.1 q) e
    ·exact UInt8.lt_iff_toNat_lt.2 q
   simp [hlt,e]
theorem Zz (y:Bool) (s t:Int):snc y s t=if ((s != 0)&&((t==0)||(if y=true then decide (s > t) else decide (s < t))))=true then -1 else if ((t != 0)&&((s==0)||(if y=true then decide (t > s) else decide (t < s))))=true then 1 else 0:=by
 have w1:wr .i64 1=1:=by decide
 have w2:wr .i64 (-1) = -1:=by decide
 have w3:wr .i64 0=0:=by decide
 unfold snc OQ b2
 by_cases hs:s=0 <;> by_cases ht:t=0
 ·subst hs ht; cases y <;> simp [w3]
 ·subst hs; simp [ht]
 ·subst ht; simp [hs]
 ·have e1:(s==0)=false:=by simpa using hs
  have e2:(t==0)=false:=by simpa using ht
  have e3:(s != 0)=true:=by simpa using hs
  have e4:(t != 0)=true:=by simpa using ht
  rw [e1,e2,e3,e4]
  rcases Int.lt_trichotomy s t with q | q | q
  ·have q2:¬ t < s:=by omega
   cases y <;> simp [q,q2,w1]
  ·subst q; cases y <;> simp [w3]
  ·have q2:¬ s < t:=by omega
   cases y <;> simp [q,q2,w2]
theorem AEE (c:AF) (a b:An) (i j:Int):S5 c a b i j=if bf c a b i j=true then -1 else if bf c b a j i=true then 1 else 0:=by
 unfold S5 bf
 split
 ·unfold OQ; simp
 split
 ·rw [Zz]; simp
 split
 ·rw [Zz]; simp
 split
 ·unfold Yy
  cases h:Go.Op.bytesLess a.1 b.1 with
  | true=>rfl
  | false=>rw [VL _ _ h]; simp
 split
 ·unfold OQ
  cases QK i <;> cases QK j <;> simp
 split
 ·unfold OQ
  cases QK i <;> cases QK j <;> simp
 ·unfold nv OQ
  cases nmB c a <;> cases nmB c b <;> cases c.2.2.1 <;> decide
/-- The first clause that separates two guests. -/
def rsn (a b:An) (i j:Int):List AF->Nat->Unit ⊕ (Int×Int)
 | [],_=> .inl ()
 | x::r,k=>if dir x a b i j=0 then rsn a b i j r (k + 1) else .inr ((k:Int),dir x a b i j)
def ADH (c:List AF) (a b:An) (i j:Int):Int×Int:=match rsn a b i j c 0 with
 | .inl _=>(-1,0)
 | .inr w=>w
theorem ADr (a b:An) (i j:Int):∀ (r:List AF) (k:Nat),goU (fun x k (n:Option (Unit ⊕ (Int×Int)))=>if (dir x a b i j != 0)=true then some (.inr ((k:Int),dir x a b i j)) else n) (some (.inl ())) r k=some (rsn a b i j r k)
 | [],_=>rfl
 | x::r,k=>by
  unfold goU rsn
  rw [ADr a b i j r (k + 1)]
  by_cases h:dir x a b i j=0 <;> simp [h]
theorem ADs (a b:An) (i j:Int):∀ (r:List AF) (k:Nat),goU (fun x k (n:Option (Unit ⊕ (Int×Int)))=>if amB x a b=true then n else if bf x a b i j=true then some (.inr ((k:Int),-1)) else if bf x b a j i=true then some (.inr ((k:Int),1)) else n) (some (.inl ())) r k=some (rsn a b i j r k)
 | [],_=>rfl
 | x::r,k=>by
  unfold goU rsn
  rw [ADs a b i j r (k + 1)]
  unfold dir
  rw [AEE]
  cases amB x a b <;> cases bf x a b i j <;> cases bf x b a j i <;> simp
def X5 (g:An):Prop:=g.2.2.2.2.2.2.2.2.length<=10
def ACW (c:List AF):Prop:=∀ x ∈ c,1<=x.1/\x.1<=10
theorem ACI (c:List AF) (a b:An) (i j:Int) (h:few c) (hk:ACW c) (ha:X5 a) (hb:X5 b):BW c (a,i) (b,j)=some (ADH c a b i j):=by
 have hl:=h.1
 have e:A2 c 100000 a.1 a.2.1 a.2.2.1 a.2.2.2.1 a.2.2.2.2.1 a.2.2.2.2.2.1 a.2.2.2.2.2.2.1 a.2.2.2.2.2.2.2.1 a.2.2.2.2.2.2.2.2 i b.1 b.2.1 b.2.2.1 b.2.2.2.1 b.2.2.2.2.1 b.2.2.2.2.2.1 b.2.2.2.2.2.2.1 b.2.2.2.2.2.2.2.1 b.2.2.2.2.2.2.2.2 j 0=some (rsn a b i j c 0):=by
  rw [<-ADr]
  refine MP c (fun f n=>A2 c f a.1 a.2.1 a.2.2.1 a.2.2.2.1 a.2.2.2.2.1 a.2.2.2.2.2.1 a.2.2.2.2.2.2.1 a.2.2.2.2.2.2.2.1 a.2.2.2.2.2.2.2.2 i b.1 b.2.1 b.2.2.1 b.2.2.2.1 b.2.2.2.2.1 b.2.2.2.2.2.1 b.2.2.2.2.2.2.1 b.2.2.2.2.2.2.2.1 b.2.2.2.2.2.2.2.2 j n) _ _ 100000 (by omega) (fun f pre v r e=>?_) (fun f=>?_)
  ·conv=>lhs; unfold A2
   have hv:ZU v:=h.2 v (by rw [e]; simp)
   have hd:=AFA v a b i j (by have:=hv.2.1; omega) (by unfold X5 at ha; omega) (by unfold X5 at hb; omega) (hk v (by rw [e]; simp))
   rw [if_pos (by rw [e]; exact Iu pre v r),show idx c (pre.length:Int)=some v by rw [e,EM],OS]
   rw [show GY ((a.1,a.2.1,a.2.2.1,a.2.2.2.1,a.2.2.2.2.1,a.2.2.2.2.2.1,a.2.2.2.2.2.2.1,a.2.2.2.2.2.2.2.1,a.2.2.2.2.2.2.2.2),i) ((b.1,b.2.1,b.2.2.1,b.2.2.2.1,b.2.2.2.2.1,b.2.2.2.2.2.1,b.2.2.2.2.2.2.1,b.2.2.2.2.2.2.2.1,b.2.2.2.2.2.2.2.2),j) v=some (dir v a b i j) from hd,OS,Gt pre v r (by rw [<-e]; omega)]
  ·show A2 c (f + 1) a.1 a.2.1 a.2.2.1 a.2.2.2.1 a.2.2.2.2.1 a.2.2.2.2.2.1 a.2.2.2.2.2.2.1 a.2.2.2.2.2.2.2.1 a.2.2.2.2.2.2.2.2 i b.1 b.2.1 b.2.2.1 b.2.2.2.1 b.2.2.2.2.1 b.2.2.2.2.2.1 b.2.2.2.2.2.2.1 b.2.2.2.2.2.2.2.1 b.2.2.2.2.2.2.2.2 j (c.length:Int)=_
   conv=>lhs; unfold A2
   rw [if_neg (by simp)]
 unfold BW ADH
 dsimp only
 rw [e,OS]
 cases rsn a b i j c 0 <;> rfl
theorem AA5 (c:List AF) (a b:An) (i j:Int) (h:few c) (ha:X5 a) (hb:X5 b):Ic c a b i j=some (ADH c a b i j):=by
 have hl:=h.1
 have e:Ej c a b i j 100000 0=some (rsn a b i j c 0):=by
  rw [<-ADs]
  refine MP c (Ej c a b i j) _ _ 100000 (by omega) (fun f pre v r e=>?_) (fun f=>?_)
  ·conv=>lhs; unfold Ej
   have hv:ZU v:=h.2 v (by rw [e]; simp)
   have hb1:=Xu v a b i j (by have:=hv.2.1; omega) (by unfold X5 at ha; omega) (by unfold X5 at hb; omega)
   have hb2:=Xu v b a j i (by have:=hv.2.1; omega) (by unfold X5 at hb; omega) (by unfold X5 at ha; omega)
   have hi:idx c (pre.length:Int)=some v:=by rw [e,EM]
   rw [if_pos (by rw [e]; exact Iu pre v r),hi,OS,OS,OS,AFf,OS,OS,OS,hb1,OS,hb2,OS,Gt pre v r (by rw [<-e]; omega)]
  ·conv=>lhs; unfold Ej
   rw [if_neg (by simp)]
 unfold Ic ADH
 rw [e,OS]
 cases rsn a b i j c 0 <;> rfl
theorem Wi (c:List AF) (h:few c) (hk:ACW c):∀ (r pre:List AF) (f:Nat),c=pre++r->r.length < f->FX c f pre (pre.length:Int)=some c
 | [],pre,f + 1,e,_=>by
  unfold FX
  rw [if_neg (by rw [e]; simp),e,List.append_nil]
 | v::r,pre,f + 1,e,hf=>by
  have hl:=h.1
  have hl2:c.length=pre.length + r.length + 1:=by rw [e]; simp; omega
  simp only [List.length_cons] at hf
  have hkv:=hk v (by rw [e]; simp)
  unfold FX
  rw [if_pos (by rw [e]; exact Iu pre v r),show idx c (pre.length:Int)=some v by rw [e,EM],OS,show Hr v=some v by unfold Hr; rw [if_pos hkv],OS,if_pos (Eh (by omega) (by omega)),show wr .i64 ((pre.length:Int) + 1)=((pre++[v]).length:Int) from Gt pre v r (by rw [<-e]; omega)]
  exact Wi c h hk r (pre++[v]) f (by rw [e]; simp) (by omega)
theorem ACL {x:AF}(h:fm x=true):1<=x.1/\x.1<=10:=by
 by_cases hk:1<=x.1/\x.1<=10
 ·exact hk
 ·exfalso
  have n:∀ q:Int,1<=q->q<=10->¬ (x.1==q)=true:=fun q h1 h2 e=>hk (by have:x.1=q:=(by simpa using e); omega)
  have e:BX x=some false:=by
   unfold BX Id Ie If Ig
   have n9:(x.1==9)=false:=by simpa using n 9 (by omega) (by omega)
   have n7:(x.1==7)=false:=by simpa using n 7 (by omega) (by omega)
   rw [if_neg (n 1 (by omega) (by omega)),if_neg (n 2 (by omega) (by omega)),if_neg (n 3 (by omega) (by omega)),if_neg (n 8 (by omega) (by omega)),if_neg (n 4 (by omega) (by omega)),if_neg (n 5 (by omega) (by omega)),if_neg (n 6 (by omega) (by omega)),if_neg (n 10 (by omega) (by omega)),n9,n7]
   rfl
  unfold fm at h
  rw [e] at h
  cases h
theorem VP (c:List AF):∀ (r:List AF) (i:Nat),(∃ u,Ya c r i = .inl u/\∀ x ∈ r,fm x=true)\/∃ w,Ya c r i = .inr w/\w.2≠0
 | [],i=> .inl ⟨(),rfl,fun x hx=>by cases hx⟩
 | x::r,i=>by
  unfold Ya
  by_cases h:chk (c.take i) x=0
  ·rw [if_neg (by simpa using h)]
   rcases VP c r (i + 1) with ⟨u,h1,h2⟩ | h1
   ·refine .inl ⟨u,h1,fun y hy=>?_⟩
    rcases List.mem_cons.1 hy with rfl | hy
    ·cases hf:fm y with
     | true=>rfl
     | false=>unfold chk at h; rw [if_pos hf] at h; cases h
    ·exact h2 y hy
   ·exact .inr h1
  ·rw [if_pos h]
   exact .inr ⟨_,rfl,h⟩
theorem T6 {c:List AF}(h:(SJ c).2=0):ACW c:=by
 unfold SJ at h
 split at h
 ·cases h
 ·rcases VP c c 0 with ⟨u,h1,h2⟩ | ⟨w,h1,h2⟩
  ·exact fun x hx=>ACL (h2 x hx)
  ·rw [h1] at h; exact absurd h h2
section
variable {P:Program}{ops:Array Oper}{C:World->Prop}{Q:Act->World->Prop}{loud:Nat->Bool}{T:Nat}
/-- Loud operations that may come up now: one of them is the first loud one, if every other stands behind one of them. -/
theorem T8 {n:Nat}(L:List Nat) (hL:L≠[]) (ht:N7 ops loud T n) (hin:∀ i ∈ L,∃ o,ops[i]? = some o) (hsel:∀ (j:Nat) (o:Oper) cs b,ops[j]? = some o->o.op≠ .select cs b) :
  ∀ (fuel:Nat) (listed:Array Bool) (a:Act) (w:World),(∀ j,j < ops.size->j ∉ L->loud j=true->listed.getD j true=false->∃ i ∈ L,JL ops n j i=true)->Closed ops listed->listed.size=ops.size->(WB ops loud T listed->C w) ->
   (∀ i ∈ L,∀ oi,ops[i]? = some oi->∀ j oj,ops[j]? = some oj->j≠i->listed.getD j true=false->(∀ e ∈ oj.after,Region.binds .any e=true->e.on≠i)->oi.apart ops oj=true) ->
   (∀ i ∈ L,i ∈ Region.ready .any ops listed) ->
   (∀ i ∈ L,mOp P ops C loud i (wpM P ops C loud T Q fuel (listed.setIfInBounds i true)) a w)->wpM P ops C loud T Q (fuel + 1) listed a w:=by
 intro fuel
 obtain ⟨i0,hi0⟩:=List.exists_mem_of_ne_nil L hL
 obtain ⟨o0,ho0⟩:=hin i0 hi0
 induction fuel with
 | zero =>
  intro listed a w _ _ _ hC _ hr H
  refine ⟨hC,fun h=>(by have:=hr i0 hi0; rw [h] at this; cases this),fun j hj=>?_⟩
  by_cases hji:j ∈ L
  ·exact H j hji
  ·obtain ⟨u,w',h1⟩:=MQ ho0 (H i0 hi0)
   have:=ready_mono hj (fun e=>hji (e ▸ hi0))
   rw [h1.2.1] at this
   cases this
 | succ fuel ih =>
  intro listed a w hT hcl hsz hC hfree hr H
  refine ⟨hC,fun h=>(by have:=hr i0 hi0; rw [h] at this; cases this),fun j hj=>?_⟩
  by_cases hji:j ∈ L
  ·exact H j hji
  obtain ⟨hjun,oj,hoj,hall⟩:=mem_ready.1 hj
  have hnl:∀ i ∈ L,¬ listed.getD i false=true:=fun i hi h1=>by
   obtain ⟨ox,hx⟩:=hin i hi
   have hun:=(mem_ready.1 (hr i hi)).1
   have hlt:i < ops.size:=(Array.getElem?_eq_some_iff.1 hx).1
   have h':i < listed.size:=by omega
   simp [h'] at hun h1; rw [hun] at h1; cases h1
  have hne:∀ i ∈ L,j≠i:=fun i hi e=>hji (e ▸ hi)
  have hnot:∀ i ∈ L,∀ e ∈ oj.after,Region.binds .any e=true->e.on≠i:=fun i hi e he hb heq=>hnl i hi (by rw [<-heq]; exact hall e he hb)
  have hjlt:j < ops.size:=(Array.getElem?_eq_some_iff.1 hoj).1
  have hlj:loud j=false:=by
   cases hlj:loud j with
   | false=>rfl
   | true =>
    obtain ⟨i,hi,hw⟩:=hT j hjlt hji hlj hjun
    exact absurd (MW hcl n j i hw fun o ho e he hb=>by rw [hoj] at ho; injection ho with ho; subst ho; exact hall e he hb) (hnl i hi)
  have ap:∀ i ∈ L,∀ oi,ops[i]? = some oi->oi.apart ops oj=true:=fun i hi oi hoi=>hfree i hi oi hoi j oj hoj (hne i hi) hjun (hnot i hi)
  have hun':∀ k,(listed.setIfInBounds j true).getD k true=false->listed.getD k true=false:=fun k hun=>by
   by_cases hjk:j=k
   ·subst hjk; exact hjun
   ·rw [getD_set_ne true hjk] at hun; exact hun
  have hCw:WB ops loud T (listed.setIfInBounds j true)->C w:=fun hn=>hC fun k hTk hk hlk=>hun' k (hn k hTk hk hlk)
  obtain ⟨ap1,ap2,ap3⟩:=Oper.apart_spec (ap i0 hi0 o0 ho0)
  obtain ⟨u,w',h1⟩:=MQ ho0 (H i0 hi0)
  obtain ⟨v,hy,_⟩:=FW hoj hlj (h1.2.2 j (ready_mono hj (hne i0 hi0)))
  have hya:YieldsM P ops C oj v a:=hy.same (execOp_put oj (fun cs b=>hsel j oj cs b hoj) _ o0.dst u ap1).symm (wanted_put oj _ o0.dst u ap1).symm
  refine hya.mOp hoj hlj ?_
  exact ih (listed.setIfInBounds j true) (a.put oj.dst v) w (fun k hk h1 h2 h3=>hT k hk h1 h2 (hun' k h3)) (hcl.set hj) (by simpa using hsz) hCw (fun i hi oi hoi k ok hk h1 h2 h3=>hfree i hi oi hoi k ok hk h1 (hun' k h2) h3) (fun i hi=>ready_mono (hr i hi) (Ne.symm (hne i hi)))
   (fun i hi=>by
    obtain ⟨oi,hoi⟩:=hin i hi
    obtain ⟨bp1,bp2,bp3⟩:=Oper.apart_spec (ap i hi oi hoi)
    exact TZ ht hoi hoj hsel hcl hsz bp1 bp2 bp3 (hr i hi) hj (hne i hi) hlj hya (H i hi))
/-- What holds of the region throughout. -/
structure MOk (ops:Array Oper) (T:Nat):Prop where
 ns:Region.noSelect ops=true
 tl:N7 ops (GQ ops T) T ops.size
 tT:T < ops.size->GQ ops T T=true
/-- What is checked of an operation that may come up now. -/
def P2 (ops:Array Oper) (m:List Bool) (i:Nat):Bool:=(Region.ready .any ops m.toArray).contains i&&Region.free .any ops m.toArray i
def U6 (ops:Array Oper) (T:Nat) (m:List Bool) (L:List Nat):Bool :=
 (L.all fun i=>P2 ops m i)&&(List.range ops.size).all fun j=>L.contains j||!GQ ops T j||m.toArray.getD j true||L.any fun i=>JL ops ops.size j i
def YL (ops:Array Oper) (T p f:Nat) (m:List Bool):Bool :=
 Nat.beq (p + f) ops.size&&Region.lexFrom .any ops f p m.toArray&&((List.range p).all fun j=>m.toArray.getD j true)&&(List.range ops.size).all fun k=>!(Nat.ble p k&&GQ ops T k)||(List.range ops.size).all fun j=>!(Nat.blt k j&&GQ ops T j)||JL ops ops.size j k
end
def RunM (E:Env) (ops:Array Oper) (T n0 f:Nat) (m:List Bool) (s:St) (K:St->Prop):Prop :=
 ∀ (base:Bs) (Q:Act->World->Prop) (w0:World) (Z:Nat->Prop) (R0:List RI) (h0:Hp) (a:Act) (w:World) (R:List RI),MOk ops T->Closed ops m.toArray->m.length=ops.size->HR w0 Z R0 h0->n0=h0.length->SR E base w Z R s a->w0.grownBy w none->Step w0 Z R0 h0 w Z R s.hp->(∀ (b:Nat) (B:Option Blk),h0[b]? = some B->s.hp[b]? = some B) ->
  (∀ s' a' w' Z' R',K s'->SR E base w' Z' R' s' a'->StepW w0 Z R0 h0 w' Z' R' s'.hp->Q a' w')->wpM E.P ops (fun w'=>w0.grownBy w' none) (GQ ops T) T Q f m.toArray a w
section
variable {E:Env}{cx:Cx}{ops:Array Oper}{s s1:St}{K:St->Prop}{n0 f T i j k:Nat}{m:List Bool}{Q:Ex->St->Prop}{id:Nat}{o o2 o3:Oper}
theorem I2 (m:List Bool) (i:Nat):m.toArray.setIfInBounds i true=(m.set i true).toArray:=by simp
/-- An operation that is quiet. -/
theorem RunM.q (i:Nat) (hq:(P2 ops m i&&!GQ ops T i)=true) (ho:ops[i]? = some o) (h:Op1 E ops T n0 i o s fun s'=>RunM E ops T n0 f (m.set i true) s' K):RunM E ops T n0 (f + 1) m s K:=by
 intro base Q w0 Z R0 h0 a w R hM hcl hsz hh0 hn0 sr hgr st hpre q
 unfold P2 at hq
 simp only [Bool.and_eq_true,Bool.not_eq_true'] at hq
 obtain ⟨⟨hr,hf⟩,hl⟩:=hq
 have hr':i ∈ Region.ready .any ops m.toArray:=by simpa using hr
 have hst:=h base (fun a w=>wpM E.P ops (fun w'=>w0.grownBy w' none) (GQ ops T) T Q f (m.set i true).toArray a w) w0 Z R0 h0 a w R hh0 hn0 sr hgr st hpre ho fun s' a' w' R' hk sr' hg' st' hp' =>
  hk base Q w0 Z R0 h0 a' w' R' hM (by rw [<-I2]; exact hcl.set hr') (by simpa using hsz) hh0 hn0 sr' hg' st' hp' q
 obtain ⟨v,hy,hK⟩:=FW ho hl hst
 refine Nd ho hl (Region.noSelect_spec hM.ns) f m.toArray a w (fun _=>hgr) hcl (by simpa using hsz) (Region.free_spec ho hf) hr' hy ?_
 rw [I2]
 exact hK
/-- The loud ones that may come up now: each of them. -/
theorem RunM.loud (L:List Nat) (hne:L≠[]) (hl:U6 ops T m L=true) (h:∀ i ∈ L,∃ o,ops[i]? = some o/\Op1 E ops T n0 i o s fun s'=>RunM E ops T n0 f (m.set i true) s' K):RunM E ops T n0 (f + 1) m s K:=by
 intro base Q w0 Z R0 h0 a w R hM hcl hsz hh0 hn0 sr hgr st hpre q
 unfold U6 at hl
 simp only [Bool.and_eq_true] at hl
 obtain ⟨h1,h2⟩:=hl
 have hr:∀ i ∈ L,i ∈ Region.ready .any ops m.toArray/\Region.free .any ops m.toArray i=true:=fun i hi=>by
  have:=List.all_eq_true.1 h1 i hi
  unfold P2 at this
  simp only [Bool.and_eq_true] at this
  exact ⟨by simpa using this.1,this.2⟩
 refine T8 (n:=ops.size) L hne hM.tl (fun i hi=>⟨_,(h i hi).choose_spec.1⟩) (Region.noSelect_spec hM.ns) f m.toArray a w (fun j hj hjL hlj hun=>?_) hcl (by simpa using hsz) (fun _=>hgr) (fun i hi oi hoi=>Region.free_spec hoi (hr i hi).2) (fun i hi=>(hr i hi).1) fun i hi=>?_
 ·have:=List.all_eq_true.1 h2 j (by simpa using hj)
  simp only [Bool.or_eq_true,Bool.not_eq_true',List.any_eq_true] at this
  rcases this with ((h3 | h3) | h3) | h3
  ·exact absurd (by simpa using h3) hjL
  ·rw [hlj] at h3; cases h3
  ·rw [hun] at h3; cases h3
  ·exact h3
 ·obtain ⟨o,ho,hop⟩:=h i hi
  rw [I2]
  exact hop base (fun a w=>wpM E.P ops (fun w'=>w0.grownBy w' none) (GQ ops T) T Q f (m.set i true).toArray a w) w0 Z R0 h0 a w R hh0 hn0 sr hgr st hpre ho fun s' a' w' R' hk sr' hg' st' hp' =>
   hk base Q w0 Z R0 h0 a' w' R' hM (by rw [<-I2]; exact hcl.set (hr i hi).1) (by simpa using hsz) hh0 hn0 sr' hg' st' hp' q
/-- What is left stands in one order. -/
theorem RunM.tail (p:Nat) (hp:YL ops T p f m=true) (h:RunDX E ops T n0 p (ops.toList.drop p) s K):RunM E ops T n0 f m s K:=by
 intro base Q w0 Z R0 h0 a w R hM hcl hsz hh0 hn0 sr hgr st hpre q
 unfold YL at hp
 simp only [Bool.and_eq_true] at hp
 obtain ⟨⟨⟨h1,h2⟩,h3⟩,h4⟩:=hp
 have h1:=Nat.eq_of_beq_eq_true h1
 have hlen:(ops.toList.drop p).length=f:=by simp; omega
 have hops:∀ j,(ops.toList.drop p)[j]? = ops[p + j]?:=fun j=>by simp
 have:=TA hM.ns (n:=ops.size) (k0:=p) (fun k j hk hks hj hlk hlj hkj=>?_) hM.tl hM.tT (ops.toList.drop p) p m.toArray a w (Nat.le_refl _) (by omega) hops (by rw [hlen]; exact h2) hcl (by simpa using hsz) (fun j hj=>List.all_eq_true.1 h3 j (by simpa using hj)) (h base Q w0 Z R0 h0 a w R hh0 hn0 sr hgr st hpre hops q)
 ·rwa [hlen] at this
 ·have a1:=List.all_eq_true.1 h4 k (by simpa using hks)
  simp only [hlk,Nat.ble_eq_true_of_le hk,Bool.and_self,Bool.not_true,Bool.false_or] at a1
  have a2:=List.all_eq_true.1 a1 j (by simpa using hj)
  have hb:Nat.blt k j=true:=Nat.ble_eq_true_of_le hkj
  simpa [hlj,hb] using a2
end
/-- As Op1, of an operation behind which nothing is read any more. -/
def OpZ (E:Env) (ops:Array Oper) (T k:Nat) (o:Oper) (s:St) (Ks:St->Prop):Prop :=
 ∀ (base:Bs) (K:Act->World->Prop) (w0:World) (Z:Nat->Prop) (a:Act) (w:World) (R:List RI),SR E base w Z R s a->w0.grownBy w none->ops[k]? = some o ->
  (∀ s' a' w' Z' R',Ks s'->SR E base w' Z' R' s' a'->w0.grownBy w' none->StepW w Z R s.hp w' Z' R' s'.hp->K a' w')->mOp E.P ops (fun w'=>w0.grownBy w' none) (GQ ops T) k K a w
def RunZ (E:Env) (ops:Array Oper) (T f:Nat) (m:List Bool) (s:St) (K:St->Prop):Prop :=
 ∀ (base:Bs) (Q:Act->World->Prop) (w0:World) (Z:Nat->Prop) (a:Act) (w:World) (R:List RI),MOk ops T->Closed ops m.toArray->m.length=ops.size->SR E base w Z R s a->w0.grownBy w none ->
  (∀ s' a' w' Z' R',K s'->SR E base w' Z' R' s' a'->StepW w Z R s.hp w' Z' R' s'.hp->Q a' w')->wpM E.P ops (fun w'=>w0.grownBy w' none) (GQ ops T) T Q f m.toArray a w
section
variable {E:Env}{cx:Cx}{ops:Array Oper}{s s1:St}{K Ks:St->Prop}{n n0 f T i j k:Nat}{m:List Bool}{o o2 o3:Oper}{l:List (Nat×AV)}{hp:Hp}{fid:FuncId}
theorem ADN (hE:EnvOk E) (hW:isW o.op=false) (hLd:VX o.op=false) (hk:k < T) (e:opsD E (evC E 0) ⟨none,false⟩ ops n0 [o] s=some s1) (kk:Ks s1):OpZ E ops T k o s Ks:=by
 intro base K w0 Z a w R sr hgr hok q
 have hkT:¬ T<=k:=by omega
 unfold mOp
 rw [hok]
 dsimp only
 unfold opsD at e
 rw [if_neg (by rw [hW]; simp)] at e
 split at e
 ·cases e
 ·next hw =>
  rw [if_neg (by rw [wantedA_eq sr hw]; simp)]
  injection e with e
  subst e
  exact q _ _ w Z R kk (sr.put undef_vr) hgr (StepW.refl _ _ _ _)
 ·next hw =>
  rw [if_pos (wantedA_eq sr hw)]
  have hρ:∀ o x,opA E s.fr o=some x->VR w Z R x (a.eval o):=fun o x e=>opA_vr sr o x e
  split at e
  ·next x hx =>
   split at e
   ·injection e with e
    subst e
    have hq:=TU hx
    rw [if_neg (by rw [PB hok hq hkT]; simp)]
    obtain ⟨u,hu,hrun⟩:=evOpQ_sound sr.hh hρ hx
    exact ⟨u,(fun w' _=>hrun w' fun h=>by rw [hLd] at h; cases h),q _ _ w Z R kk (sr.put hu) hgr (StepW.refl _ _ _ _)⟩
   ·cases e
  ·split at e
   ·next x h' hx =>
    injection e with e
    subst e
    have hq:=Mu hx
    rw [if_pos (H0 hok hq)]
    obtain ⟨u,w',R',h1,h2,h3,h4,h5⟩:=evOpN_sound hρ sr.hh hx
    exact P0 h1 (q _ _ w' Z R' kk ((sr.step h2 h4).put h3) (Gg hgr h5) h4.w)
   ·split at e
    ·next f args tys ho =>
     split at e
     ·next fv xs hf hxs =>
      split at e
      ·next r hr =>
       injection e with e
       subst e
       obtain ⟨x,h'⟩:=r
       have hq:isQ o.op=false:=by rw [ho]; rfl
       rw [if_pos (H0 hok hq)]
       obtain ⟨g,uf,uc,hva,hcl,hret⟩:=I4 hE (code_sound hE 0).1 (hρ _ _ hf) (opds_vr hρ hxs) sr.hh sr.gl hr
       unfold Lw
       rw [IF (uf:=uf) (uc:=uc) ho hva rfl hcl w]
       refine Ret.mono hret fun v w' hS=>?_
       obtain ⟨hg1,R',k1,k2,k3⟩:=hS
       exact q _ _ w' Z R' kk ((sr.step k1 k3).put k2) (Gg hgr hg1) k3.w
      ·cases e
     ·cases e
    ·cases e
theorem AEx (hE:EnvOk E){s:St}(l:List (Nat×AV)) (hp:Hp) (hW:(!isW o.op&&!VX o.op&&Nat.blt k T)=true) (h:Vr (opsD E (evC E 0) ⟨none,false⟩ ops 0 [o] s) l=some (n,xs2 l,hp)) (kk:Ks ⟨Fr n l,hp⟩):OpZ E ops T k o s Ks:=by
 obtain ⟨fr,h1,h2,h3⟩:=KP h
 simp only [Bool.and_eq_true,Bool.not_eq_true'] at hW
 intro base K w0 Z a w R sr hgr hok q
 exact ADN (Ks:=fun s=>s=⟨fr,hp⟩) hE hW.1.1 hW.1.2 (Nat.le_of_ble_eq_true hW.2) h1 rfl base K w0 Z a w R sr hgr hok fun s' a' w' Z' R' hs sr' hg' st'=>by
  subst hs
  exact q _ a' w' Z' R' kk (sr'.forget h2 h3) hg' st'
theorem OpZ.one (hE:EnvOk E) (hW:(!isW o.op&&!VX o.op&&Nat.blt k T)=true) (h:opsD E (evC E 0) ⟨none,false⟩ ops 0 [o] s=some s1) (kk:Ks s1):OpZ E ops T k o s Ks:=by
 simp only [Bool.and_eq_true,Bool.not_eq_true'] at hW
 exact ADN hE hW.1.1 hW.1.2 (Nat.le_of_ble_eq_true hW.2) h kk
theorem RunM.z (h:RunZ E ops T f m s K):RunM E ops T n0 f m s K:=fun base Q w0 Z _ _ a w R hM hcl hsz _ _ sr hgr st _ q=>h base Q w0 Z a w R hM hcl hsz sr hgr fun s' a' w' Z' R' hK sr' st'=>q s' a' w' Z' R' hK sr' (st.w.trans st')
theorem RunZ.q (i:Nat) (hq:(P2 ops m i&&!GQ ops T i)=true) (ho:ops[i]? = some o) (h:OpZ E ops T i o s fun s'=>RunZ E ops T f (m.set i true) s' K):RunZ E ops T (f + 1) m s K:=by
 intro base Q w0 Z a w R hM hcl hsz sr hgr q
 unfold P2 at hq
 simp only [Bool.and_eq_true,Bool.not_eq_true'] at hq
 obtain ⟨⟨hr,hf⟩,hl⟩:=hq
 have hr':i ∈ Region.ready .any ops m.toArray:=by simpa using hr
 have hst:=h base (fun a w=>wpM E.P ops (fun w'=>w0.grownBy w' none) (GQ ops T) T Q f (m.set i true).toArray a w) w0 Z a w R sr hgr ho fun s' a' w' Z' R' hk sr' hg' st' =>
  hk base Q w0 Z' a' w' R' hM (by rw [<-I2]; exact hcl.set hr') (by simpa using hsz) sr' hg' fun s2 a2 w2 Z2 R2 hK sr2 st2=>q s2 a2 w2 Z2 R2 hK sr2 (st'.trans st2)
 obtain ⟨v,hy,hK⟩:=FW ho hl hst
 refine Nd ho hl (Region.noSelect_spec hM.ns) f m.toArray a w (fun _=>hgr) hcl (by simpa using hsz) (Region.free_spec ho hf) hr' hy ?_
 rw [I2]
 exact hK
theorem ADS (L:List Nat) (hne:L≠[]) (hl:U6 ops T m L=true) (h:∀ i ∈ L,∃ o,ops[i]? = some o/\OpZ E ops T i o s fun s'=>RunZ E ops T f (m.set i true) s' K):RunZ E ops T (f + 1) m s K:=by
 intro base Q w0 Z a w R hM hcl hsz sr hgr q
 unfold U6 at hl
 simp only [Bool.and_eq_true] at hl
 obtain ⟨h1,h2⟩:=hl
 have hr:∀ i ∈ L,i ∈ Region.ready .any ops m.toArray/\Region.free .any ops m.toArray i=true:=fun i hi=>by
  have:=List.all_eq_true.1 h1 i hi
  unfold P2 at this
  simp only [Bool.and_eq_true] at this
  exact ⟨by simpa using this.1,this.2⟩
 refine T8 (n:=ops.size) L hne hM.tl (fun i hi=>⟨_,(h i hi).choose_spec.1⟩) (Region.noSelect_spec hM.ns) f m.toArray a w (fun j hj hjL hlj hun=>?_) hcl (by simpa using hsz) (fun _=>hgr) (fun i hi oi hoi=>Region.free_spec hoi (hr i hi).2) (fun i hi=>(hr i hi).1) fun i hi=>?_
 ·have:=List.all_eq_true.1 h2 j (by simpa using hj)
  simp only [Bool.or_eq_true,Bool.not_eq_true',List.any_eq_true] at this
  rcases this with ((h3 | h3) | h3) | h3
  ·exact absurd (by simpa using h3) hjL
  ·rw [hlj] at h3; cases h3
  ·rw [hun] at h3; cases h3
  ·exact h3
 ·obtain ⟨o,ho,hop⟩:=h i hi
  rw [I2]
  exact hop base (fun a w=>wpM E.P ops (fun w'=>w0.grownBy w' none) (GQ ops T) T Q f (m.set i true).toArray a w) w0 Z a w R sr hgr ho fun s' a' w' Z' R' hk sr' hg' st' =>
   hk base Q w0 Z' a' w' R' hM (by rw [<-I2]; exact hcl.set (hr i hi).1) (by simpa using hsz) sr' hg' fun s2 a2 w2 Z2 R2 hK sr2 st2=>q s2 a2 w2 Z2 R2 hK sr2 (st'.trans st2)
/-- The stores. -/
theorem RunZ.tail (hp:YL ops T T f m=true) (h:RunS E ops (ops.toList.drop T) s K):RunZ E ops T f m s K:=by
 intro base Q w0 Z a w R hM hcl hsz sr hgr q
 unfold YL at hp
 simp only [Bool.and_eq_true] at hp
 obtain ⟨⟨⟨h1,h2⟩,h3⟩,h4⟩:=hp
 have h1:=Nat.eq_of_beq_eq_true h1
 have hlen:(ops.toList.drop T).length=f:=by simp; omega
 have hops:∀ j,(ops.toList.drop T)[j]? = ops[T + j]?:=fun j=>by simp
 have:=TA (C:=fun w'=>w0.grownBy w' none) hM.ns (n:=ops.size) (k0:=T) (fun k j hk hks hj hlk hlj hkj=>?_) hM.tl hM.tT (ops.toList.drop T) T m.toArray a w (Nat.le_refl _) (by omega) hops (by rw [hlen]; exact h2) hcl (by simpa using hsz) (fun j hj=>List.all_eq_true.1 h3 j (by simpa using hj))
  (PC (h base Q a w Z R sr q) (Nat.le_refl _) (fun _=>hgr) (fun j hj=>Pb (by omega)) hops)
 ·rwa [hlen] at this
 ·have a1:=List.all_eq_true.1 h4 k (by simpa using hks)
  simp only [hlk,Nat.ble_eq_true_of_le hk,Bool.and_self,Bool.not_true,Bool.false_or] at a1
  have a2:=List.all_eq_true.1 a1 j (by simpa using hj)
  have hb:Nat.blt k j=true:=Nat.ble_eq_true_of_le hkj
  simpa [hlj,hb] using a2
end
/-- Every order of what is not free is gone through, in the world as it is. -/
def RunA (E:Env) (ops:Array Oper) (f:Nat) (m:List Bool) (s:St) (K:St->Prop):Prop :=
 ∀ (base:Bs) (Q:Act->World->Prop) (a:Act) (w:World) (Z:Nat->Prop) (R:List RI),Region.noSelect ops=true->Closed ops m.toArray->m.length=ops.size->SR E base w Z R s a ->
  (∀ s' a' w' Z' R',K s'->SR E base w' Z' R' s' a'->StepW w Z R s.hp w' Z' R' s'.hp->Q a' w')->wpM E.P ops (fun _=>True) (GQ ops 0) 0 Q f m.toArray a w
section
variable {E:Env}{cx:Cx}{ops:Array Oper}{s s1:St}{K:St->Prop}{f i j:Nat}{m:List Bool}{Q:Ex->St->Prop}{id k:Nat}{o o2 o3:Oper}
theorem ACf {i:Nat}(h:GQ ops 0 i=false):It ops i=true:=by
 unfold GQ at h
 simp only [Bool.or_eq_false_iff,Bool.and_eq_false_iff,Bool.not_eq_false'] at h
 rcases h.2 with h1 | h1
 ·cases h1
 ·exact h1
theorem AFZ (n:Nat):N7 ops (GQ ops 0) 0 n:=fun j _ _ _ i _ hl hf=>by rw [ACf hl] at hf; cases hf
theorem RunA.q (i:Nat) (hq:(P2 ops m i&&!GQ ops 0 i)=true) (ho:ops[i]? = some o) (h:RunS E ops [o] s fun s'=>RunA E ops f (m.set i true) s' K):RunA E ops (f + 1) m s K:=by
 intro base Q a w Z R hns hcl hsz sr q
 unfold P2 at hq
 simp only [Bool.and_eq_true,Bool.not_eq_true'] at hq
 obtain ⟨⟨hr,hf⟩,hl⟩:=hq
 have hr':i ∈ Region.ready .any ops m.toArray:=by simpa using hr
 have hst:=h base (fun a w=>wpM E.P ops (fun _=>True) (GQ ops 0) 0 Q f (m.set i true).toArray a w) a w Z R sr fun s' a' w' Z' R' hk sr' st' =>
  hk base Q a' w' Z' R' hns (by rw [<-I2]; exact hcl.set hr') (by simpa using hsz) sr' fun s2 a2 w2 Z2 R2 hK sr2 st2=>q s2 a2 w2 Z2 R2 hK sr2 (st'.trans st2)
 have hfr:Mt o=true:=by have:=ACf hl; simpa [It,ho] using this
 have hy:∃ v,YieldsM E.P ops (fun _=>True) o v a/\wpM E.P ops (fun _=>True) (GQ ops 0) 0 Q f (m.set i true).toArray (a.put o.dst v) w:=by
  unfold LwL at hst
  split at hst
  ·next hw =>
   obtain ⟨u,h1,h2⟩:=hst
   exact ⟨u,.inl ⟨hw,fun w' _=>h1 w'⟩,h2⟩
  ·next hw=>exact ⟨undef,.inr ⟨by simpa using hw,rfl⟩,hst⟩
 obtain ⟨v,hy,hK⟩:=hy
 refine Nd ho hl (Region.noSelect_spec hns) f m.toArray a w (fun _=>trivial) hcl (by simpa using hsz) (Region.free_spec ho hf) hr' hy ?_
 rw [I2]
 exact hK
theorem ADP (L:List Nat) (hne:L≠[]) (hl:(U6 ops 0 m L&&L.all fun i=>!It ops i)=true) (h:∀ i ∈ L,∃ o,ops[i]? = some o/\RunS E ops [o] s fun s'=>RunA E ops f (m.set i true) s' K):RunA E ops (f + 1) m s K:=by
 intro base Q a w Z R hns hcl hsz sr q
 simp only [Bool.and_eq_true] at hl
 obtain ⟨hl,hfr⟩:=hl
 unfold U6 at hl
 simp only [Bool.and_eq_true] at hl
 obtain ⟨h1,h2⟩:=hl
 have hr:∀ i ∈ L,i ∈ Region.ready .any ops m.toArray/\Region.free .any ops m.toArray i=true:=fun i hi=>by
  have:=List.all_eq_true.1 h1 i hi
  unfold P2 at this
  simp only [Bool.and_eq_true] at this
  exact ⟨by simpa using this.1,this.2⟩
 refine T8 (n:=ops.size) L hne (AFZ _) (fun i hi=>⟨_,(h i hi).choose_spec.1⟩) (Region.noSelect_spec hns) f m.toArray a w (fun j hj hjL hlj hun=>?_) hcl (by simpa using hsz) (fun _=>trivial) (fun i hi oi hoi=>Region.free_spec hoi (hr i hi).2) (fun i hi=>(hr i hi).1) fun i hi=>?_
 ·have:=List.all_eq_true.1 h2 j (by simpa using hj)
  simp only [Bool.or_eq_true,Bool.not_eq_true',List.any_eq_true] at this
  rcases this with ((h3 | h3) | h3) | h3
  ·exact absurd (by simpa using h3) hjL
  ·rw [hlj] at h3; cases h3
  ·rw [hun] at h3; cases h3
  ·exact h3
 ·obtain ⟨o,ho,hop⟩:=h i hi
  have hfi:It ops i=false:=by simpa using List.all_eq_true.1 hfr i hi
  have hli:GQ ops 0 i=true:=by
   cases hh:GQ ops 0 i with
   | true=>rfl
   | false=>rw [ACf hh] at hfi; cases hfi
  have hfo:Mt o=false:=by simpa [It,ho] using hfi
  rw [I2]
  have hst:=hop base (fun a w=>wpM E.P ops (fun _=>True) (GQ ops 0) 0 Q f (m.set i true).toArray a w) a w Z R sr fun s' a' w' Z' R' hk sr' st' =>
   hk base Q a' w' Z' R' hns (by rw [<-I2]; exact hcl.set (hr i hi).1) (by simpa using hsz) sr' fun s2 a2 w2 Z2 R2 hK sr2 st2=>q s2 a2 w2 Z2 R2 hK sr2 (st'.trans st2)
  unfold mOp
  rw [ho]
  dsimp only
  unfold LwL at hst
  split at hst
  ·next hw =>
   rw [if_pos hw,if_pos hli]
   rw [hfo] at hst
   exact hst
  ·next hw=>rw [if_neg hw]; exact hst
theorem ADQ {n:Nat}(hE:EnvOk E){s:St}(l:List (Nat×AV)) (hp:Hp) (h:Vr (KU E (evC E 0) ⟨none,false⟩ ops [o] s) l=some (n,xs2 l,hp)) (k:K ⟨Fr n l,hp⟩):RunS E ops [o] s K :=
 AD (rest:=[o]) hE 1 l hp h (AI rfl k)
theorem RunA.done (h:(Region.ready .any ops m.toArray).isEmpty=true) (kk:K s):RunA E ops 0 m s K:=fun base Q a w Z R _ _ _ sr q =>
 ⟨fun _=>trivial,by simpa using h,q s a w Z R kk sr (StepW.refl _ _ _ _)⟩
end
/- trestle/trestlelaw03.Made -/
def u8 (n:Int):Prop:=0<=n/\n<=255
/-- Every clause is valid behind what stands before it. -/
def QJ (pre:List AF):List AF->Prop
 | []=>True
 | x::r=>chk pre x=0/\QJ (pre++[x]) r
theorem TR:∀ (a pre b:List AF),QJ pre (a++b)↔QJ pre a/\QJ (pre++a) b
 | [],pre,b=>by simp [QJ]
 | x::a,pre,b=>by
  simp only [List.cons_append,QJ,TR a (pre++[x]) b,List.append_assoc,List.cons_append,List.nil_append,and_assoc]
/-- The decision of a merged text. -/
theorem S6 (a b:An) (i j:Int) (x:AF) (r:List AF) (k:Nat):rsn a b i j (x::r) k=if dir x a b i j=0 then rsn a b i j r (k + 1) else .inr ((k:Int),dir x a b i j):=rfl
theorem Zw (a b:An) (i j:Int):∀ (c d:List AF) (k:Nat),rsn a b i j (c++d) k=match rsn a b i j c k with | .inl _=>rsn a b i j d (k + c.length) | .inr w=> .inr w
 | [],d,k=>rfl
 | x::c,d,k=>by
  rw [List.cons_append,S6,S6]
  by_cases h:dir x a b i j=0
  ·rw [if_pos h,if_pos h,Zw a b i j c d (k + 1),List.length_cons,show k + 1 + c.length=k + (c.length + 1) by omega]
  ·rw [if_neg h,if_neg h]
theorem Zx (a b:An) (i j:Int):∀ (c:List AF) (k:Nat),(∃ u,rsn a b i j c k = .inl u)\/∃ w,rsn a b i j c k = .inr w/\w.2≠0
 | [],k=> .inl ⟨(),rfl⟩
 | x::c,k=>by
  unfold rsn
  by_cases h:dir x a b i j=0
  ·rw [if_pos h]; exact Zx a b i j c (k + 1)
  ·rw [if_neg h]; exact .inr ⟨_,rfl,h⟩
theorem AEL (a b:An) (i j:Int):∀ (c:List AF) (k q:Nat),(match rsn a b i j c k with | .inl _=>(0:Int) | .inr w=>w.2)=(match rsn a b i j c q with | .inl _=>(0:Int) | .inr w=>w.2)
 | [],_,_=>rfl
 | x::c,k,q=>by
  unfold rsn
  by_cases h:dir x a b i j=0
  ·rw [if_pos h,if_pos h]; exact AEL a b i j c (k + 1) (q + 1)
  ·rw [if_neg h,if_neg h]
def W7 (c:List AF) (a b:An) (i j:Int):Int:=(ADH c a b i j).2
theorem TE (c:List AF) (a b:An) (i j:Int):W7 c a b i j=match rsn a b i j c 0 with | .inl _=>(0:Int) | .inr w=>w.2:=by
 unfold W7 ADH
 cases rsn a b i j c 0 <;> rfl
theorem AB4 (c d:List AF) (a b:An) (i j:Int):W7 (c++d) a b i j=if W7 c a b i j=0 then W7 d a b i j else W7 c a b i j:=by
 rw [TE,TE,TE,Zw]
 rcases Zx a b i j c 0 with ⟨u,h⟩ | ⟨w,h,hw⟩
 ·rw [h]
  simp only [if_true]
  exact AEL a b i j d _ _
 ·rw [h]
  simp only [hw,if_false]
/-- -1, 0 or 1, turned round with its arguments, and a chain decides by its least. -/
structure Wk3 {α:Type} (f:α->α->Int):Prop where
 v:∀ a b,f a b = -1\/f a b=0\/f a b=1
 s:∀ a b,f a b = - f b a
 t:∀ a b c,f a b<=0->f b c<=0->f a c=min (f a b) (f b c)
theorem V6 {α:Type}(k:α->Int):Wk3 (fun a b=>OQ (k a) (k b)):=by
 refine ⟨fun a b=>?_,fun a b=>?_,fun a b c h1 h2=>?_⟩
 ·unfold OQ; split
  ·exact .inl rfl
  ·split
   ·exact .inr (.inr rfl)
   ·exact .inr (.inl rfl)
 ·unfold OQ; split <;> split <;> first | rfl | omega | (split <;> first | rfl | omega)
 ·(try dsimp only at h1 h2 ⊢)
  unfold OQ at *
  split at h1 <;> split at h2 <;> first | (split at h1 <;> first | omega | skip) | skip
  all_goals first | (split at h2 <;> first | omega | skip) | skip
  all_goals (split <;> first | omega | skip)
  all_goals first | rfl | omega | (split <;> first | rfl | omega)
theorem Xv:∀ (x:List UInt8),Go.Op.bytesLess x x=false
 | []=>rfl
 | a::x=>by
  show (decide (a < a)||(a==a&&Go.Op.bytesLess x x))=false
  rw [Xv x]; simp
theorem VM:∀ (x y z:List UInt8),Go.Op.bytesLess x y=true->Go.Op.bytesLess y z=true->Go.Op.bytesLess x z=true
 | x,[],_,h,_=>by cases x <;> cases h
 | _,_::_,[],_,h=>by cases h
 | [],_::_,_::_,_,_=>rfl
 | a::x,b::y,c::z,h1,h2=>by
  have h1':(decide (a < b)||(a==b&&Go.Op.bytesLess x y))=true:=h1
  have h2':(decide (b < c)||(b==c&&Go.Op.bytesLess y z))=true:=h2
  show (decide (a < c)||(a==c&&Go.Op.bytesLess x z))=true
  simp only [Bool.or_eq_true,Bool.and_eq_true,decide_eq_true_eq,beq_iff_eq] at h1' h2' ⊢
  rcases h1' with q1 | ⟨rfl,q1⟩ <;> rcases h2' with q2 | ⟨rfl,q2⟩
  ·exact .inl (UInt8.lt_trans q1 q2)
  ·exact .inl q1
  ·exact .inl q2
  ·exact .inr ⟨rfl,VM x y z q1 q2⟩
theorem AC6 {α:Type}(k:α->List UInt8):Wk3 (fun a b=>Yy (k a) (k b)):=by
 have val:∀ x y:List UInt8,(Go.Op.bytesLess x y=true/\Yy x y = -1)\/(x=y/\Yy x y=0)\/(Go.Op.bytesLess y x=true/\Yy x y=1):=fun x y=>by
  unfold Yy
  cases h:Go.Op.bytesLess x y with
  | true=>exact .inl ⟨rfl,rfl⟩
  | false =>
   have:=VL x y h
   cases he:(x==y) with
   | true=>exact .inr (.inl ⟨by simpa using he,rfl⟩)
   | false=>exact .inr (.inr ⟨by rw [this,he]; rfl,rfl⟩)
 have asy:∀ x y:List UInt8,Go.Op.bytesLess x y=true->Go.Op.bytesLess y x=true->False:=fun x y h1 h2=>by
  have:=VM x y x h1 h2
  rw [Xv] at this
  cases this
 refine ⟨fun a b=>?_,fun a b=>?_,fun a b c h1 h2=>?_⟩
 ·rcases val (k a) (k b) with ⟨_,h⟩ | ⟨_,h⟩ | ⟨_,h⟩
  ·exact .inl h
  ·exact .inr (.inl h)
  ·exact .inr (.inr h)
 ·(try dsimp only)
  rcases val (k a) (k b) with ⟨p,h⟩ | ⟨p,h⟩ | ⟨p,h⟩ <;> rcases val (k b) (k a) with ⟨q,g⟩ | ⟨q,g⟩ | ⟨q,g⟩ <;> rw [h,g] <;> first | rfl | (exfalso; first | exact asy _ _ p q | (rw [q,Xv] at p; cases p) | (rw [p,Xv] at q; cases q))
 ·(try dsimp only at h1 h2 ⊢)
  rcases val (k a) (k b) with ⟨p,h⟩ | ⟨p,h⟩ | ⟨p,h⟩ <;> rcases val (k b) (k c) with ⟨q,g⟩ | ⟨q,g⟩ | ⟨q,g⟩ <;> first | (rw [h] at h1; exact absurd h1 (by decide)) | (rw [g] at h2; exact absurd h2 (by decide)) | skip
  ·rw [h,g]
   have:=VM _ _ _ p q
   unfold Yy
   rw [if_pos this]; rfl
  ·rw [h,g,<-q,h]; rfl
  ·rw [h,g,p,g]; rfl
  ·rw [h,g,p,g]; rfl
theorem ABp {α:Type}(y:Bool) (k:α->Int):Wk3 (fun a b=>snc y (k a) (k b)):=by
 have val:∀ s t:Int,snc y s t=if s=0 then (if t=0 then 0 else 1) else if t=0 then -1 else if y=true then OQ t s else OQ s t:=fun s t=>by
  rw [Zz]
  unfold OQ
  by_cases hs:s=0 <;> by_cases ht:t=0
  ·simp [hs,ht]
  ·simp [hs,ht]
  ·simp [hs,ht]
  ·cases y <;> simp [hs,ht]
 refine ⟨fun a b=>?_,fun a b=>?_,fun a b c h1 h2=>?_⟩
 ·(try dsimp only)
  rw [val]
  unfold OQ
  split
  ·split
   ·exact .inr (.inl rfl)
   ·exact .inr (.inr rfl)
  ·split
   ·exact .inl rfl
   ·split <;> (split; · exact .inl rfl) <;> (split; · exact .inr (.inr rfl)) <;> exact .inr (.inl rfl)
 ·(try dsimp only)
  rw [val,val]
  unfold OQ
  cases y <;> simp only [if_true,if_false,Bool.false_eq_true] <;> (repeat' split) <;> first | rfl | omega
 ·(try dsimp only at h1 h2 ⊢)
  rw [val] at h1 h2
  rw [val,val,val]
  unfold OQ at *
  cases y <;> simp only [if_true,if_false,Bool.false_eq_true] at h1 h2 ⊢ <;> (repeat' split at h1) <;> (repeat' split at h2) <;> first | omega | ((repeat' split) <;> first | rfl | omega)
/-- A second order where a first one ties. -/
theorem AEa {α:Type}{f g:α->α->Int}(hf:Wk3 f) (gv:∀ a b,g a b = -1\/g a b=0\/g a b=1) (gs:∀ a b,g a b = - g b a)
  (gt:∀ a b c,f a b=0->f b c=0->g a b<=0->g b c<=0->g a c=min (g a b) (g b c)):Wk3 (fun a b=>if f a b=0 then g a b else f a b):=by
 refine ⟨fun a b=>?_,fun a b=>?_,fun a b c h1 h2=>?_⟩
 ·show (if f a b=0 then g a b else f a b) = -1\/_
  split
  ·exact gv a b
  ·exact hf.v a b
 ·show (if f a b=0 then g a b else f a b) = - (if f b a=0 then g b a else f b a)
  have:=hf.s a b
  by_cases h:f b a=0
  ·rw [if_pos h,if_pos (by omega)]; exact gs a b
  ·rw [if_neg h,if_neg (by omega)]; exact this
 ·have h1':(if f a b=0 then g a b else f a b)<=0:=h1
  have h2':(if f b c=0 then g b c else f b c)<=0:=h2
  show (if f a c=0 then g a c else f a c)=min (if f a b=0 then g a b else f a b) (if f b c=0 then g b c else f b c)
  have ab:=hf.v a b
  have bc:=hf.v b c
  have gab:=gv a b
  have gbc:=gv b c
  by_cases x:f a b=0 <;> by_cases y:f b c=0
  ·have:=hf.t a b c (by omega) (by omega)
   rw [if_pos x] at h1' ⊢
   rw [if_pos y] at h2' ⊢
   rw [if_pos (by omega)]
   exact gt a b c x y h1' h2'
  ·rw [if_pos x] at h1' ⊢
   rw [if_neg y] at h2' ⊢
   have:=hf.t a b c (by omega) (by omega)
   rw [if_neg (by omega)]
   omega
  ·rw [if_neg x] at h1' ⊢
   rw [if_pos y] at h2' ⊢
   have:=hf.t a b c (by omega) (by omega)
   rw [if_neg (by omega)]
   omega
  ·rw [if_neg x] at h1' ⊢
   rw [if_neg y] at h2' ⊢
   have:=hf.t a b c (by omega) (by omega)
   rw [if_neg (by omega)]
   omega
/-- A guest at a place of the row. -/
abbrev At:={ p:An×Int // QK p.2=true }
theorem AEb (x:AF):Wk3 (fun a b:At=>S5 x a.1.1 b.1.1 a.1.2 b.1.2):=by
 have e:(fun a b:At=>S5 x a.1.1 b.1.1 a.1.2 b.1.2)=fun a b:At =>
   if (x.1==1)=true then OQ (rk x.2.2.2.1 a.1.1.2.1) (rk x.2.2.2.1 b.1.1.2.1) else
   if (x.1==2)=true then snc false a.1.1.2.2.2.1 b.1.1.2.2.2.1 else
   if (x.1==3)=true then snc true a.1.1.2.2.2.1 b.1.1.2.2.2.1 else
   if (x.1==8)=true then Yy a.1.1.1 b.1.1.1 else
   if (x.1==9)=true then OQ a.1.2 b.1.2 else
   if (x.1==10)=true then OQ (kyI a.1.2 x.2.2.2.2) (kyI b.1.2 x.2.2.2.2) else
   OQ (nv x a.1.1) (nv x b.1.1):=by
  funext a b
  unfold S5
  rw [a.2,b.2]
  simp only [Bool.not_true,Bool.or_self,Bool.false_eq_true,if_false]
 rw [e]
 by_cases h1:(x.1==1)=true
 ·simp only [h1,if_true]; exact V6 (fun a:At=>rk x.2.2.2.1 a.1.1.2.1)
 by_cases h2:(x.1==2)=true
 ·simp only [h1,h2,if_true,if_false,Bool.false_eq_true]; exact ABp false (fun a:At=>a.1.1.2.2.2.1)
 by_cases h3:(x.1==3)=true
 ·simp only [h1,h2,h3,if_true,if_false,Bool.false_eq_true]; exact ABp true (fun a:At=>a.1.1.2.2.2.1)
 by_cases h8:(x.1==8)=true
 ·simp only [h1,h2,h3,h8,if_true,if_false,Bool.false_eq_true]; exact AC6 (fun a:At=>a.1.1.1)
 by_cases h9:(x.1==9)=true
 ·simp only [h1,h2,h3,h8,h9,if_true,if_false,Bool.false_eq_true]; exact V6 (fun a:At=>a.1.2)
 by_cases h10:(x.1==10)=true
 ·simp only [h1,h2,h3,h8,h9,h10,if_true,if_false,Bool.false_eq_true]; exact V6 (fun a:At=>kyI a.1.2 x.2.2.2.2)
 ·simp only [h1,h2,h3,h8,h9,h10,if_false,Bool.false_eq_true]; exact V6 (fun a:At=>nv x a.1.1)
theorem Zu (s:List UInt8):∀ (l:List (List UInt8)) (i:Nat),i<=rkN s l i
 | [],i=>Nat.le_refl i
 | v::r,i=>by
  unfold rkN
  split
  ·exact Nat.le_refl i
  ·have:=Zu s r (i + 1); omega
theorem Xd (s t:List UInt8):∀ (l:List (List UInt8)) (i:Nat),JM l s=true->rkN s l i=rkN t l i->t=s
 | [],_,h,_=>by cases h
 | v::r,i,h,e=>by
  have h':((s==v)||JM r s)=true:=h
  unfold rkN at e
  by_cases hs:(s==v)=true
  ·rw [if_pos hs] at e
   by_cases ht:(t==v)=true
   ·rw [beq_iff_eq] at hs ht; rw [hs,ht]
   ·rw [if_neg ht] at e
    have:=Zu t r (i + 1)
    omega
  ·rw [if_neg hs] at e
   by_cases ht:(t==v)=true
   ·rw [if_pos ht] at e
    have:=Zu s r (i + 1)
    omega
   ·rw [if_neg ht] at e
    have h2:JM r s=true:=by
     cases hq:(s==v) with
     | true=>exact absurd hq hs
     | false=>rwa [hq,Bool.false_or] at h'
    exact Xd s t r (i + 1) h2 e
theorem AFH {x:AF}(h:fm x=true) (hk:(x.1==1)=true):x.2.1=[]:=by
 unfold fm BX at h
 rw [if_pos hk] at h
 cases hb:Bp (x.2.2.2.1.length:Int) 1 16 with
 | none=>rw [hb] at h; cases h
 | some v =>
  rw [hb,OS] at h
  cases v with
  | false=>cases h
  | true =>
   by_cases h2:(x.2.2.2.2==0)=true
   ·by_cases h3:(!x.2.2.1)=true
    ·rw [if_pos rfl,if_pos h2,if_pos h3] at h
     simpa using h
    ·rw [if_pos rfl,if_pos h2,if_neg h3] at h; cases h
   ·rw [if_pos rfl,if_neg h2] at h; cases h
theorem ADd {pre:List AF}{x:AF}(h:chk pre x=0):fm x=true:=by
 unfold chk at h
 split at h
 ·cases h
 ·next h1=>simpa using h1
theorem ADc {pre:List AF}{x:AF}(h:chk pre x=0):x.2.1=[]\/OW pre x.2.1=true:=by
 unfold chk at h
 split at h
 ·cases h
 split at h
 ·cases h
 split at h
 ·cases h
 split at h
 ·next h4=>exact h4
 ·cases h
theorem WZ:∀ (c pre:List AF),QJ pre c->∀ x ∈ c,fm x=true
 | y::r,pre,h,x,hx=>by
  rcases List.mem_cons.1 hx with e | e
  ·rw [e]; exact ADd h.1
  ·exact WZ r _ h.2 x e
/-- Ties of a text tie every clause of it. -/
theorem ZH (a b:An) (i j:Int):∀ (c:List AF) (k:Nat),rsn a b i j c k = .inl ()->∀ x ∈ c,dir x a b i j=0
 | y::r,k,h,x,hx=>by
  rw [S6] at h
  by_cases q:dir y a b i j=0
  ·rw [if_pos q] at h
   rcases List.mem_cons.1 hx with e | e
   ·rw [e]; exact q
   ·exact ZH a b i j r (k + 1) h x e
  ·rw [if_neg q] at h; cases h
theorem AAZ {c:List AF}{a b:An}{i j:Int}(h:W7 c a b i j=0):∀ x ∈ c,dir x a b i j=0:=by
 rw [TE] at h
 rcases Zx a b i j c 0 with ⟨u,e⟩ | ⟨w,e,hw⟩
 ·exact ZH a b i j c 0 e
 ·rw [e] at h; exact absurd h hw
theorem ADe {x y:Int}(h:OQ x y=0):x=y:=by
 unfold OQ at h
 split at h
 ·cases h
 split at h
 ·cases h
 ·omega
/-- A text that ranks a rank ties nobody of it with anybody of another rank. -/
theorem YM {c:List AF}{s:List UInt8}(hc:∀ x ∈ c,fm x=true) (hr:OW c s=true){a b:An}{i j:Int}(h:W7 c a b i j=0):(a.2.1==s)=(b.2.1==s):=by
 unfold OW at hr
 obtain ⟨y,hy,e⟩:=List.any_eq_true.1 hr
 rw [Bool.and_eq_true] at e
 have hd:=AAZ h y hy
 have ham:=AFH (hc y hy) e.1
 unfold dir amB at hd
 rw [ham,if_neg (by simp)] at hd
 unfold S5 at hd
 rw [if_pos e.1] at hd
 have hk:=ADe hd
 unfold rk at hk
 have hn:rkN a.2.1 y.2.2.2.1 0=rkN b.2.1 y.2.2.2.1 0:=by omega
 by_cases ha:a.2.1=s
 ·have hb:=Xd a.2.1 b.2.1 _ 0 (by rw [ha]; exact e.2) hn
  rw [hb]
 ·by_cases hb:b.2.1=s
  ·have:=Xd b.2.1 a.2.1 _ 0 (by rw [hb]; exact e.2) hn.symm
   exact absurd (this.trans hb) ha
  ·rw [beq_eq_false_iff_ne.2 ha,beq_eq_false_iff_ne.2 hb]
theorem ADY (x:AF) (a b:An):amB x a b=amB x b a:=by
 unfold amB
 cases (x.2.1==[]) <;> cases (a.2.1==x.2.1) <;> cases (b.2.1==x.2.1) <;> rfl
theorem AB5 (x:AF) (a b:An) (i j:Int):W7 [x] a b i j=dir x a b i j:=by
 rw [TE,S6]
 by_cases h:dir x a b i j=0
 ·rw [if_pos h,h]; rfl
 ·rw [if_neg h]
theorem AAD:∀ (c pre:List AF),QJ [] (pre++c)->Wk3 (fun a b:At=>W7 pre a.1.1 b.1.1 a.1.2 b.1.2)->Wk3 (fun a b:At=>W7 (pre++c) a.1.1 b.1.1 a.1.2 b.1.2)
 | [],pre,_,h=>by rw [List.append_nil]; exact h
 | x::r,pre,hg,h=>by
  have e:pre++x::r=(pre++[x])++r:=by simp
  rw [e] at hg ⊢
  refine AAD r (pre++[x]) hg ?_
  have hgx:=(TR (pre++[x]) [] r).1 hg
  have hp:=(TR pre [] [x]).1 hgx.1
  have hchk:chk pre x=0:=by simpa using hp.2.1
  have hfm:=WZ pre [] hp.1
  have ho:=AEb x
  have hx:(fun a b:At=>W7 (pre++[x]) a.1.1 b.1.1 a.1.2 b.1.2)=fun a b:At=>if W7 pre a.1.1 b.1.1 a.1.2 b.1.2=0 then dir x a.1.1 b.1.1 a.1.2 b.1.2 else W7 pre a.1.1 b.1.1 a.1.2 b.1.2:=by
   funext a b
   rw [AB4,AB5]
  rw [hx]
  refine AEa h (fun a b=>?_) (fun a b=>?_) (fun a b c h1 h2=>?_)
  ·unfold dir
   split
   ·exact .inr (.inl rfl)
   ·exact ho.v a b
  ·unfold dir
   rw [ADY x b.1.1 a.1.1]
   split
   ·rfl
   ·exact ho.s a b
  ·unfold dir
   rcases ADc hchk with ha | ha
   ·have q:∀ u v:An,amB x u v=false:=fun u v=>by unfold amB; rw [ha]; rfl
    rw [q,q,q,if_neg (by decide),if_neg (by decide),if_neg (by decide)]
    exact ho.t a b c
   ·have t1:=YM hfm ha h1
    have t2:=YM hfm ha h2
    unfold amB
    rw [<-t2,<-t1]
    cases (!(x.2.1==[]))
    ·exact ho.t a b c
    ·cases (a.1.1.2.1==x.2.1)
     ·intro _ _; rfl
     ·exact ho.t a b c
theorem ABM (c:List AF) (hg:QJ [] c):Wk3 (fun a b:At=>W7 c a.1.1 b.1.1 a.1.2 b.1.2) :=
 AAD c [] hg ⟨fun _ _=> .inr (.inl rfl),fun _ _=>rfl,fun _ _ _ _ _=>rfl⟩
/- trestle/court.list -/
noncomputable def AAX:Code:=BL Tryz.f79
def Qi (x0:(List An)):Nat->(List Ab)->Int->Option (((List Ab)))
 | 0,_,_=>none
 | f + 1,c1,c2 =>
  if (decide (c2 < (x0.length:Int)))=true then
  (idx x0 c2).bind fun v4 =>
  if (EK 120 (c1.length + 1))=true then
  Qi x0 f (c1++[(v4,c2)]) (wr .i64 (c2 + 1))
  else none
  else
  some c1
def ADD (x0:(List An)):Option ((List Ab)) :=
 (Qi x0 100000 [] 0).bind fun r7 =>
 some r7
/- trestle/court.table -/
/- trestle/trestleref03.votes -/
/- trestle/trestleref03.Votes -/
/- trestle/trestleref03.Valid -/
/- trestle/trestleref03.AllValid -/
/-- A loop whose states are known. -/
theorem AFh {σ ρ:Type}(n:Nat) (S:Nat->σ) (R:Option ρ) (L:Nat->Int->σ->Option ρ) (hn:n<=1000000) (hs:∀ i,i < n->∀ f,L (f + 1) (i:Int) (S i)=L f (wr .i64 ((i:Int) + 1)) (S (i + 1))) (he:∀ f,L (f + 1) (n:Int) (S n)=R):∀ (d i f:Nat),i + d=n->d < f->L f (i:Int) (S i)=R
 | 0,i,f + 1,e,_=>by
  rw [show i=n by omega]
  exact he f
 | d + 1,i,f + 1,e,hf=>by
  rw [hs i (by omega) f,Xq (by omega) (by omega),show ((i:Int) + 1)=((i + 1:Nat):Int) by omega]
  exact AFh n S R L hn hs he d (i + 1) f (by omega) (by omega)
theorem TG {σ ρ:Type}(n:Nat) (S:Nat->σ) (R:Option ρ) (L:Nat->Int->σ->Option ρ) (hn:n<=99999) (hs:∀ i,i < n->∀ f,L (f + 1) (i:Int) (S i)=L f (wr .i64 ((i:Int) + 1)) (S (i + 1))) (he:∀ f,L (f + 1) (n:Int) (S n)=R):L 100000 0 (S 0)=R :=
 AFh n S R L (by omega) hs he n 0 100000 (by omega) (by omega)
theorem ADf {σ ρ:Type}(n lo:Nat) (S:Nat->σ) (R:Option ρ) (L:Nat->Int->σ->Option ρ) (hn:n<=1000000) (hs:∀ i,lo<=i->i < n->∀ f,L (f + 1) (i:Int) (S i)=L f (wr .i64 ((i:Int) + 1)) (S (i + 1))) (he:∀ f,L (f + 1) (n:Int) (S n)=R):∀ (d i f:Nat),lo<=i->i + d=n->d < f->L f (i:Int) (S i)=R
 | 0,i,f + 1,_,e,_=>by
  rw [show i=n by omega]
  exact he f
 | d + 1,i,f + 1,hi,e,hf=>by
  rw [hs i hi (by omega) f,Xq (by omega) (by omega),show ((i:Int) + 1)=((i + 1:Nat):Int) by omega]
  exact ADf n lo S R L hn hs he d (i + 1) f (by omega) (by omega) (by omega)
/-- A valid text, as it is checked. -/
theorem WH (c:List AF):∀ (r pre:List AF),c=pre++r->(∃ u,Ya c r pre.length = .inl u)->QJ pre r
 | [],_,_,_=>trivial
 | x::r,pre,e,⟨u,h⟩=>by
  unfold Ya at h
  rw [show c.take pre.length=pre by rw [e]; simp] at h
  by_cases hx:chk pre x=0
  ·rw [if_neg (by simpa using hx)] at h
   exact ⟨hx,WH c r (pre++[x]) (by rw [e]; simp) ⟨u,by simpa using h⟩⟩
  ·rw [if_pos hx] at h; cases h
theorem Oq {c:List AF}(h:(SJ c).2=0):c.length<=32/\QJ [] c:=by
 unfold SJ at h
 split at h
 ·cases h
 ·next hl =>
  refine ⟨by omega,WH c c [] rfl ?_⟩
  rcases VP c c 0 with ⟨u,h1,_⟩ | ⟨w,h1,h2⟩
  ·exact ⟨u,h1⟩
  ·rw [h1] at h; exact absurd h h2
theorem AA0 (c:List AF) (h:few c):IQ c=some (if (SJ c).2=0 then (c,true) else ([],false)):=by
 unfold IQ
 rw [ZF c h,OS]
 by_cases hv:(SJ c).2=0
 ·have e0:FX c 100000 [] 0=some c:=Wi c h (T6 hv) c [] 100000 rfl (by have:=h.1; omega)
  rw [if_neg (by simpa using hv),if_pos hv,e0]; rfl
 ·rw [if_pos (by simpa using hv),if_neg hv]
/-- Guests at their places. -/
def IE:List An->Nat->List Ab
 | [],_=>[]
 | g::r,i=>(g,(i:Int))::IE r (i + 1)
theorem Rm:∀ (g:List An) (i:Nat),(IE g i).length=g.length
 | [],_=>rfl
 | _::r,i=>by simp [IE,Rm r (i + 1)]
theorem Te:∀ (g:List An) (x:An) (i:Nat),IE (g++[x]) i=IE g i++[(x,((i + g.length:Nat):Int))]
 | [],x,i=>by simp [IE]
 | y::r,x,i=>by
  simp only [List.cons_append,IE,Te r x (i + 1),List.length_cons]
  rw [show i + 1 + r.length=i + (r.length + 1) by omega]
/-- What a text says of the guests at two places. -/
def dG:An:=([],[],[],0,0,[],false,false,[])
def gAt (g:List An) (x:Nat):An:=g.getD x dG
def cm (c:List AF) (g:List An) (x y:Nat):Int:=W7 c (gAt g x) (gAt g y) (x:Int) (y:Int)
theorem ADz {x:Nat}(h:x < 64):QK (x:Int)=true:=by simp [QK]; omega
/-- Who sits in a row of at most 64. -/
abbrev Pl:={ x:Nat // x < 64 }
theorem ABL {c:List AF}(g:List An) (hg:QJ [] c):Wk3 (fun a b:Pl=>cm c g a.1 b.1) :=
 let h:=ABM c hg
 let k:Pl->At:=fun a=>⟨(gAt g a.1,(a.1:Int)),ADz a.2⟩
 ⟨fun a b=>h.v (k a) (k b),fun a b=>h.s (k a) (k b),fun a b d=>h.t (k a) (k b) (k d)⟩
theorem AFg {c:List AF}{g:List An}(hg:QJ [] c){x y:Nat}(hx:x < 64) (hy:y < 64):cm c g x y = -1\/cm c g x y=0\/cm c g x y=1:=(ABL g hg).v ⟨x,hx⟩ ⟨y,hy⟩
theorem AFp {c:List AF}{g:List An}(hg:QJ [] c){x y:Nat}(hx:x < 64) (hy:y < 64):cm c g x y = - cm c g y x:=(ABL g hg).s ⟨x,hx⟩ ⟨y,hy⟩
/-- Few guests, their places. -/
structure FewR (g:List An):Prop where
 n:g.length<=64
 f:∀ x ∈ g,X5 x
theorem FewR.at_ {g:List An}(h:FewR g){x:Nat}(hx:x < g.length):X5 (gAt g x):=h.f _ (by unfold gAt; rw [List.getD_eq_getElem?_getD,List.getElem?_eq_getElem hx]; exact List.getElem_mem hx)
theorem Zc (g:List An){x:Nat}(hx:x < g.length):idx g (x:Int)=some (gAt g x):=by
 rw [Ms hx]; simp [gAt,hx]
section
variable {c:List AF}{g:List An}(hc:few c) (hv:(SJ c).2=0) (hg:FewR g)
include hc hv hg
theorem AAl {x y:Nat}(hx:x < g.length) (hy:y < g.length):∃ k,BW c (gAt g x,(x:Int)) (gAt g y,(y:Int))=some (k,cm c g x y) :=
 ⟨_,ACI c (gAt g x) (gAt g y) x y hc (T6 hv) (hg.at_ hx) (hg.at_ hy)⟩
end
section
variable {l:List (List AF)}{g:List An}(hl:∀ c ∈ l,few c) (hg:FewR g)
include hl hg
end
end Go.Proofs.YtlalcoehgkmhlaaGreatDoor
namespace Go.Proofs.YtlalcoehgkmhlaaGreatDoor
section
variable {α:Type}
theorem VD {lt:α->α->Prop}(irr:∀ a,¬ lt a a) (tr:∀ a b c,lt a b->lt b c->lt a c):∀ (l1 l2:List α),l1.Pairwise lt->l2.Pairwise lt->(∀ x,x ∈ l1↔x ∈ l2)->l1=l2
 | [],[],_,_,_=>rfl
 | [],b::l,_,_,h=>by have:=(h b).2 (by simp); cases this
 | a::l,[],_,_,h=>by have:=(h a).1 (by simp); cases this
 | a::l1,b::l2,h1,h2,h=>by
  obtain ⟨a1,a2⟩:=List.pairwise_cons.1 h1
  obtain ⟨b1,b2⟩:=List.pairwise_cons.1 h2
  have hab:a=b:=by
   rcases List.mem_cons.1 ((h a).1 (by simp)) with e | e
   ·exact e
   ·rcases List.mem_cons.1 ((h b).2 (by simp)) with e' | e'
    ·exact e'.symm
    ·exact (irr a (tr a b a (a1 b e') (b1 a e))).elim
  subst hab
  congr 1
  refine VD irr tr l1 l2 a2 b2 fun x=>⟨fun hx=>?_,fun hx=>?_⟩
  ·rcases List.mem_cons.1 ((h x).1 (List.mem_cons_of_mem _ hx)) with e | e
   ·subst e; exact (irr x (a1 x hx)).elim
   ·exact e
  ·rcases List.mem_cons.1 ((h x).2 (List.mem_cons_of_mem _ hx)) with e | e
   ·subst e; exact (irr x (b1 x hx)).elim
   ·exact e
/-- Groups of things that tie, each in the order of their places, each ahead of the later ones. -/
structure GL (f:α->α->Int) (p:α->Int) (L:List (List α)):Prop where
 ne:∀ g ∈ L,g≠[]
 tie:∀ g ∈ L,g.Pairwise fun a b=>p a < p b
 eq:∀ g ∈ L,∀ a ∈ g,∀ b ∈ g,f a b=0
 lt:L.Pairwise fun g h=>∀ a ∈ g,∀ b ∈ h,f a b = -1
theorem GL.tail {f:α->α->Int}{p:α->Int}{g:List α}{L:List (List α)}(h:GL f p (g::L)):GL f p L :=
 ⟨fun x hx=>h.ne x (List.mem_cons_of_mem _ hx),fun x hx=>h.tie x (List.mem_cons_of_mem _ hx),fun x hx=>h.eq x (List.mem_cons_of_mem _ hx),(List.pairwise_cons.1 h.lt).2⟩
theorem WA {f:α->α->Int}{p:α->Int}(hs:∀ a b,f a b = - f b a):∀ (L M:List (List α)),GL f p L->GL f p M->(∀ x,x ∈ L.flatten↔x ∈ M.flatten)->L=M
 | [],[],_,_,_=>rfl
 | [],g::M,_,h2,h=>by
  obtain ⟨x,hx⟩:=List.exists_mem_of_ne_nil g (h2.ne g (by simp))
  have:=(h x).2 (by simp [hx])
  simp at this
 | g::L,[],h1,_,h=>by
  obtain ⟨x,hx⟩:=List.exists_mem_of_ne_nil g (h1.ne g (by simp))
  have:=(h x).1 (by simp [hx])
  simp at this
 | g::L,k::M,h1,h2,h=>by
  have key:∀ (g k:List α) (L M:List (List α)),GL f p (g::L)->GL f p (k::M)->(∀ x,x ∈ (g::L).flatten↔x ∈ (k::M).flatten)->∀ x ∈ g,x ∈ k:=by
   intro g k L M h1 h2 h x hx
   have hx':=(h x).1 (by simp [hx])
   rw [List.flatten_cons,List.mem_append] at hx'
   rcases hx' with hx' | hx'
   ·exact hx'
   ·obtain ⟨k',hk',hxk⟩:=List.mem_flatten.1 hx'
    obtain ⟨y,hy⟩:=List.exists_mem_of_ne_nil k (h2.ne k (by simp))
    have e1:f y x = -1:=(List.pairwise_cons.1 h2.lt).1 k' hk' y hy x hxk
    have hy':=(h y).2 (by simp [hy])
    rw [List.flatten_cons,List.mem_append] at hy'
    rcases hy' with hy' | hy'
    ·have:=h1.eq g (by simp) y hy' x hx; omega
    ·obtain ⟨g',hg',hyg⟩:=List.mem_flatten.1 hy'
     have:=(List.pairwise_cons.1 h1.lt).1 g' hg' x hx y hyg
     have:=hs x y
     omega
  have hgk:g=k:=VD (lt:=fun a b=>p a < p b) (fun a h=>by omega) (fun a b c h k=>by omega) g k (h1.tie g (by simp)) (h2.tie k (by simp)) fun x=>⟨key g k L M h1 h2 h x,key k g M L h2 h1 (fun x=>(h x).symm) x⟩
  subst hgk
  congr 1
  have dis:∀ (L:List (List α)),GL f p (g::L)->∀ x ∈ L.flatten,x ∉ g:=fun L hL x hx hg=>by
   obtain ⟨g',hg',hxg⟩:=List.mem_flatten.1 hx
   have e1:=(List.pairwise_cons.1 hL.lt).1 g' hg' x hg x hxg
   have:=hs x x
   omega
  refine WA hs L M h1.tail h2.tail fun x=>⟨fun hx=>?_,fun hx=>?_⟩
  ·have:=(h x).1 (by rw [List.flatten_cons]; exact List.mem_append_right _ hx)
   rw [List.flatten_cons,List.mem_append] at this
   exact this.resolve_left (dis L h1 x hx)
  ·have:=(h x).2 (by rw [List.flatten_cons]; exact List.mem_append_right _ hx)
   rw [List.flatten_cons,List.mem_append] at this
   exact this.resolve_left (dis M h2 x hx)
end
/- trestle/court.Order -/
/-- What a text says of two places, as a weak order of all numbers. -/
def fN (c:List AF) (g:List An) (x y:Nat):Int:=if x < 64 then (if y < 64 then cm c g x y else -1) else if y < 64 then 1 else 0
theorem ADm {c:List AF}{g:List An}{x y:Nat}(hx:x < 64) (hy:y < 64):fN c g x y=cm c g x y:=by unfold fN; rw [if_pos hx,if_pos hy]
theorem AEZ {c:List AF}(g:List An) (hg:QJ [] c):Wk3 (fN c g):=by
 refine ⟨fun a b=>?_,fun a b=>?_,fun a b d h1 h2=>?_⟩
 ·unfold fN
  split <;> split <;> first | exact AFg hg ‹_› ‹_› | omega
 ·unfold fN
  by_cases ha:a < 64 <;> by_cases hb:b < 64 <;> simp only [ha,hb,if_true,if_false] <;> first | exact AFp hg ha hb | rfl
 ·have:=(ABL g hg).t
  by_cases ha:a < 64 <;> by_cases hb:b < 64 <;> by_cases hd:d < 64 <;> simp only [fN,ha,hb,hd,if_true,if_false] at h1 h2 ⊢ <;> first | exact (ABL g hg).t ⟨a,ha⟩ ⟨b,hb⟩ ⟨d,hd⟩ h1 h2 | omega | (have:=AFg (g:=g) hg ha hb; omega)
/-- Before, or tied and at an earlier place. -/
def ltN (f:Nat->Nat->Int) (x y:Nat):Prop:=f x y = -1\/(f x y=0/\x < y)
/-- One more is laid into its place, from the end on. -/
def X6 (f:Nat->Nat->Int) (x:Nat):List Nat->List Nat->List Nat
 | [],b=>x::b
 | y::a,b=>if f x y < 0 then X6 f x a (y::b) else (y::a).reverse++x::b
theorem X8 {f:Nat->Nat->Int}(x z:Nat):∀ (a b:List Nat),z ∈ X6 f x a b↔z=x\/z ∈ a\/z ∈ b
 | [],b=>by simp [X6]
 | y::a,b=>by
  unfold X6
  split
  ·rw [X8 x z a (y::b)]
   simp only [List.mem_cons]
   constructor
   ·rintro (h | h | h | h)
    ·exact .inl h
    ·exact .inr (.inl (.inr h))
    ·exact .inr (.inl (.inl h))
    ·exact .inr (.inr h)
   ·rintro (h | (h | h) | h)
    ·exact .inl h
    ·exact .inr (.inr (.inl h))
    ·exact .inr (.inl h)
    ·exact .inr (.inr (.inr h))
  ·simp only [List.mem_append,List.mem_reverse,List.mem_cons]
   constructor
   ·rintro (h | h | h)
    ·exact .inr (.inl h)
    ·exact .inl h
    ·exact .inr (.inr h)
   ·rintro (h | h | h)
    ·exact .inr (.inl h)
    ·exact .inl h
    ·exact .inr (.inr h)
theorem X7 {f:Nat->Nat->Int}(x:Nat):∀ (a b:List Nat),(X6 f x a b).length=a.length + b.length + 1
 | [],b=>by simp [X6]
 | y::a,b=>by
  unfold X6
  split
  ·rw [X7 x a (y::b)]; simp; omega
  ·simp; omega
/-- Insertion sort. -/
def Qq (f:Nat->Nat->Int) (l:List Nat):List Nat:=l.foldl (fun acc x=>X6 f x acc.reverse []) []
theorem Qr {f:Nat->Nat->Int}(l:List Nat) (x:Nat):Qq f (l++[x])=X6 f x (Qq f l).reverse []:=by
 unfold Qq; rw [List.foldl_append]; rfl
theorem Vu {α:Type}{P:List α->Prop}(h0:P []) (h1:∀ l x,P l->P (l++[x])) (l:List α):P l:=by
 have:∀ r:List α,P r.reverse:=by
  intro r
  induction r with
  | nil=>exact h0
  | cons x r ih=>rw [List.reverse_cons]; exact h1 _ _ ih
 simpa using this l.reverse
theorem Sz {f:Nat->Nat->Int}(z:Nat) (l:List Nat):z ∈ Qq f l↔z ∈ l:=by
 refine Vu (P:=fun l=>z ∈ Qq f l↔z ∈ l) (by simp [Qq]) (fun l x ih=>?_) l
 rw [Qr,X8]
 simp [ih,or_comm]
theorem VZ {f:Nat->Nat->Int}(l:List Nat):(Qq f l).length=l.length:=by
 refine Vu (P:=fun l=>(Qq f l).length=l.length) (by simp [Qq]) (fun l x ih=>?_) l
 rw [Qr,X7]
 simp [ih]
section
variable {f:Nat->Nat->Int}(hf:Wk3 f)
include hf
theorem Zj {x y z:Nat}(h1:ltN f x y) (h2:ltN f y z):ltN f x z:=by
 have:=hf.t x y z (by rcases h1 with h | h <;> omega) (by rcases h2 with h | h <;> omega)
 unfold ltN
 rcases h1 with h1 | h1 <;> rcases h2 with h2 | h2 <;> omega
theorem TT (x:Nat):∀ (a b:List Nat),(a.reverse++b).Pairwise (ltN f)->(∀ y ∈ b,f x y = -1)->(∀ y ∈ a,y < x)->(X6 f x a b).Pairwise (ltN f)
 | [],b,h,hb,_=>by
  unfold X6
  exact List.pairwise_cons.2 ⟨fun y hy=> .inl (hb y hy),by simpa using h⟩
 | y::a,b,h,hb,ha=>by
  unfold X6
  by_cases hxy:f x y < 0
  ·rw [if_pos hxy]
   have e:f x y = -1:=by have:=hf.v x y; omega
   refine TT x a (y::b) (by simpa using h) (fun z hz=>?_) fun z hz=>ha z (List.mem_cons_of_mem _ hz)
   rcases List.mem_cons.1 hz with rfl | hz
   ·exact e
   ·exact hb z hz
  ·rw [if_neg hxy]
   have hyx:ltN f y x:=by
    have:=hf.s x y
    have:=hf.v x y
    have:=ha y (by simp)
    unfold ltN; omega
   rw [List.pairwise_append] at h ⊢
   obtain ⟨h1,h2,h3⟩:=h
   refine ⟨h1,List.pairwise_cons.2 ⟨fun z hz=> .inl (hb z hz),h2⟩,fun z hz w hw=>?_⟩
   rcases List.mem_cons.1 hw with rfl | hw
   ·rw [List.reverse_cons] at h1 hz
    rcases List.mem_append.1 hz with hz | hz
    ·exact Zj hf ((List.pairwise_append.1 h1).2.2 z hz y (by simp)) hyx
    ·simp at hz; subst hz; exact hyx
   ·exact h3 z hz w hw
theorem XQ (l:List Nat):l.Pairwise (fun a b=>a < b)->(Qq f l).Pairwise (ltN f):=by
 refine Vu (P:=fun l=>l.Pairwise (fun a b=>a < b)->(Qq f l).Pairwise (ltN f)) (fun _=>by simp [Qq]) (fun l x ih h=>?_) l
 obtain ⟨h1,_,h3⟩:=List.pairwise_append.1 h
 rw [Qr]
 refine TT hf x _ [] (by simpa using ih h1) (fun y hy=>by cases hy) fun y hy=>?_
 exact h3 y ((Sz y l).1 (List.mem_reverse.1 hy)) x (by simp)
end
/-- Guests by their places. -/
def sd (g:List An) (x:Nat):Ab:=(gAt g x,(x:Int))
def sdL (g:List An) (l:List Nat):List Ab:=l.map (sd g)
theorem Xe (g:List An) (a b:List Nat):sdL g (a++b)=sdL g a++sdL g b:=List.map_append
theorem S8 (g:List An) (x:Nat) (b:List Nat):sdL g (x::b)=sd g x::sdL g b:=rfl
theorem NI (g:List An) (a:List Nat):(sdL g a).length=a.length:=List.length_map _
theorem Xf {α:Type}(p:List α) (v w:α) (r:List α):(p++v::r).set p.length w=p++w::r:=by simp
theorem Wj (g:List An):∀ (r:List An) (p:List An),g=p++r->IE r p.length=sdL g ((List.range' p.length r.length))
 | [],_,_=>rfl
 | x::r,p,e=>by
  have:=Wj g r (p++[x]) (by rw [e]; simp)
  simp only [List.length_append,List.length_cons,List.length_nil,Nat.zero_add] at this
  simp only [IE,this,List.length_cons,List.range'_succ,S8]
  congr 1
  unfold sd gAt
  rw [e]; simp
theorem Yo (g:List An):IE g 0=sdL g (List.range g.length):=by
 have:=Wj g g [] rfl
 rw [List.range_eq_range']
 exact this
section
variable {c:List AF}{g:List An}(hc:few c) (hv:(SJ c).2=0) (hg:FewR g)
include hc hv hg
theorem ABd {x y:Nat}(hx:x < g.length) (hy:y < g.length):Eg (sd g x) (sd g y) c=some (fN c g x y):=by
 have hn:=hg.n
 obtain ⟨k,h⟩:=AAl hc hv hg hx hy
 unfold Eg
 rw [show sd g x=(gAt g x,(x:Int)) from rfl,show sd g y=(gAt g y,(y:Int)) from rfl,h,ADm (by omega) (by omega)]; rfl
theorem ABf (x:Nat) (hx:x < g.length) (rest:List Nat):∀ (a b:List Nat) (fu:Nat),(∀ y ∈ a,y < g.length)->a.length < fu->a.length<=1000->BI 0 c fu (a.length:Int) (sdL g (a.reverse++x::(b++rest)))=some (sdL g (X6 (fN c g) x a b++rest))
 | [],b,fu + 1,_,_,_=>by
  unfold BI
  rw [if_neg (by simp),OS,if_neg (by simp)]; rfl
 | y::a,b,fu + 1,ha,hf,hl=>by
  have hy:=ha y (by simp)
  simp only [List.length_cons] at hf hl
  have e1:sdL g ((y::a).reverse++x::(b++rest))=(sdL g a.reverse++[sd g y])++sd g x::sdL g (b++rest):=by
   simp [sdL]
  have e2:(sdL g a.reverse++[sd g y])++sd g x::sdL g (b++rest)=sdL g a.reverse++sd g y::sd g x::sdL g (b++rest):=by simp
  have l1:(((y::a).length:Nat):Int)=(((sdL g a.reverse++[sd g y]).length:Nat):Int):=by simp [NI]
  have l2:wr .i64 ((((y::a).length:Nat):Int) - 1)=(((sdL g a.reverse).length:Nat):Int):=by
   rw [Xq (by simp <;> omega) (by simp <;> omega)]; simp [NI]
  have i1:idx (sdL g ((y::a).reverse++x::(b++rest))) (((y::a).length:Nat):Int)=some (sd g x):=by rw [e1,l1,EM]
  have i2:idx (sdL g ((y::a).reverse++x::(b++rest))) (wr .i64 ((((y::a).length:Nat):Int) - 1))=some (sd g y):=by rw [e1,e2,l2,EM]
  have s1:(sdL g ((y::a).reverse++x::(b++rest))).set (((y::a).length:Nat):Int).toNat (sd g y)=sdL g a.reverse++sd g y::sd g y::sdL g (b++rest):=by
   rw [e1,l1,Int.toNat_natCast,Xf]; simp
  have i3:idx (sdL g a.reverse++sd g y::sd g y::sdL g (b++rest)) (wr .i64 ((((y::a).length:Nat):Int) - 1))=some (sd g y):=by rw [l2,EM]
  have s2:(sdL g a.reverse++sd g y::sd g y::sdL g (b++rest)).set (wr .i64 ((((y::a).length:Nat):Int) - 1)).toNat (sd g x)=sdL g (a.reverse++x::((y::b)++rest)):=by
   rw [l2,Int.toNat_natCast,Xf]; simp [Xe,S8]
  unfold BI
  rw [if_pos (by simp <;> omega),i1,OS,i2,OS,ABd hc hv hg hx hy,OS,OS]
  unfold X6
  by_cases h:fN c g x y < 0
  ·rw [if_pos (by simpa using h),if_pos h,OS,OS,OS,s1,i3,OS,s2,l2,NI,List.length_reverse]
   exact ABf x hx rest a (y::b) fu (fun z hz=>ha z (List.mem_cons_of_mem _ hz)) (by omega) (by omega)
  ·rw [if_neg (by simpa using h),if_neg h]
   congr 2
   simp
theorem AFN (ns:List Nat) (hns:∀ x ∈ ns,x < g.length) (hl:ns.length<=1000):A7 (sdL g ns) 0 (ns.length:Int) c=some (sdL g (Qq (fN c g) ns),c):=by
 have hin:Ae 0 (ns.length:Int) c 100000 (wr .i64 (0 + 1)) (sdL g ns)=some (sdL g (Qq (fN c g) ns)):=by
  rw [show wr .i64 (0 + 1)=((1:Nat):Int) from rfl]
  cases hns0:ns with
  | nil =>
   unfold Ae
   rw [if_neg (by simp)]; rfl
  | cons n0 nr =>
   rw [<-hns0]
   have hpos:1<=ns.length:=by rw [hns0]; simp
   have e0:sdL g (Qq (fN c g) (ns.take 1)++ns.drop 1)=sdL g ns:=by rw [hns0]; rfl
   have h:=ADf (σ:=List Ab) ns.length 1 (fun i=>sdL g (Qq (fN c g) (ns.take i)++ns.drop i)) (some (sdL g (Qq (fN c g) ns))) (fun f c1 s=>Ae 0 (ns.length:Int) c f c1 s) (by omega) (fun i h1 hi f=>by
    show Ae 0 (ns.length:Int) c (f + 1) (i:Int) (sdL g (Qq (fN c g) (ns.take i)++ns.drop i))=_
    conv=>lhs; unfold Ae
    have hil:((Qq (fN c g) (ns.take i)).reverse.length:Int)=(i:Int):=by rw [List.length_reverse,VZ]; simp; omega
    have:=ABf hc hv hg ns[i] (hns _ (List.getElem_mem hi)) (ns.drop (i + 1)) (Qq (fN c g) (ns.take i)).reverse [] 100000 (fun y hy=>hns y (List.mem_of_mem_take ((Sz y _).1 (List.mem_reverse.1 hy)))) (by omega) (by omega)
    rw [hil,List.reverse_reverse,List.nil_append,<-Qr,<-List.take_succ_eq_append_getElem hi,<-List.drop_eq_getElem_cons hi] at this
    rw [if_pos (by simp; omega),this,OS]) (fun f=>by
    show Ae 0 (ns.length:Int) c (f + 1) (ns.length:Int) (sdL g (Qq (fN c g) (ns.take ns.length)++ns.drop ns.length))=_
    conv=>lhs; unfold Ae
    rw [if_neg (by simp),List.take_length,List.drop_length,List.append_nil]) (ns.length - 1) 1 100000 (by omega) (by omega) (by omega)
   rw [<-e0]; exact h
 unfold A7
 rw [hin]; rfl
theorem AEQ (ns:List Nat) (hns:∀ x ∈ ns,x < g.length) (hl:ns.length<=20):Bh (sdL g ns) c=some (sdL g (Qq (fN c g) ns),c):=by
 have hi:=AFN hc hv hg ns hns (by omega)
 have e:C5 (sdL g ns) (ns.length:Int) c=some (sdL g (Qq (fN c g) ns),c):=by
  unfold C5
  have e2:Ca (ns.length:Int) 100000=some ():=by
   unfold Ca
   rw [if_neg (by simp; omega)]
  by_cases h20:ns.length=20
  ·have e1:A9 (ns.length:Int) 100000 0 20 (sdL g ns) c=some (20,sdL g (Qq (fN c g) ns),c):=by
    unfold A9
    rw [h20] at hi
    rw [if_pos (by rw [h20]; rfl),show ((20:Int))=((20:Nat):Int) from rfl,hi,OS]
    unfold A9
    rw [if_neg (by rw [h20]; show ¬ (false=true); decide)]
   have e3:A7 (sdL g (Qq (fN c g) ns)) 20 (ns.length:Int) c=some (sdL g (Qq (fN c g) ns),c):=by
    unfold A7 Ae
    rw [if_neg (by rw [h20]; show ¬ (false=true); decide)]; rfl
   rw [e1,OS,e3,OS,e2]; rfl
  ·have e1:A9 (ns.length:Int) 100000 0 20 (sdL g ns) c=some (0,sdL g ns,c):=by
    unfold A9
    rw [if_neg (by simp; omega)]
   rw [e1,OS,hi,OS,e2]; rfl
 unfold Bh
 rw [NI,e]; rfl
end
theorem Wo {α:Type}(l:List α):l=[]\/∃ a x,l=a++[x]:=by
 refine Vu (P:=fun l=>l=[]\/∃ a x,l=a++[x]) (.inl rfl) (fun l x _=> .inr ⟨l,x,rfl⟩) l
def pI (x:Nat):Int:=(x:Int)
def toG (l:List Nat):List Int:=l.map pI
def toI (L:List (List Nat)):List (List Int):=L.map toG
theorem V3 (L M:List (List Nat)):toI (L++M)=toI L++toI M:=List.map_append
theorem NJ (L:List (List Nat)):(toI L).length=L.length:=List.length_map _
theorem HM (L:List Nat):(toG L).length=L.length:=List.length_map _
section
variable {f:Nat->Nat->Int}{L:List (List Nat)}{gr:List Nat}{x:Nat}
theorem GL.snocNew (h:GL f pI L) (hx:f x x=0) (hn:∀ z ∈ L.flatten,f z x = -1):GL f pI (L++[[x]]):=by
 refine ⟨fun q hq=>?_,fun q hq=>?_,fun q hq=>?_,?_⟩
 ·rcases List.mem_append.1 hq with hq | hq
  ·exact h.ne q hq
  ·simp at hq; subst hq; simp
 ·rcases List.mem_append.1 hq with hq | hq
  ·exact h.tie q hq
  ·simp at hq; subst hq; simp
 ·rcases List.mem_append.1 hq with hq | hq
  ·exact h.eq q hq
  ·simp at hq; subst hq
   intro a ha b hb
   simp at ha hb; subst ha hb; exact hx
 ·refine List.pairwise_append.2 ⟨h.lt,by simp,fun q hq k hk a ha b hb=>?_⟩
  simp at hk; subst hk
  simp at hb; subst hb
  exact hn a (List.mem_flatten.2 ⟨q,hq,ha⟩)
theorem GL.snocIn (h:GL f pI (L++[gr])) (hx:f x x=0) (hg:∀ z ∈ gr,f z x=0/\f x z=0/\z < x) (hn:∀ q ∈ L,∀ z ∈ q,f z x = -1):GL f pI (L++[gr++[x]]):=by
 refine ⟨fun q hq=>?_,fun q hq=>?_,fun q hq=>?_,?_⟩
 ·rcases List.mem_append.1 hq with hq | hq
  ·exact h.ne q (List.mem_append_left _ hq)
  ·simp at hq; subst hq; simp
 ·rcases List.mem_append.1 hq with hq | hq
  ·exact h.tie q (List.mem_append_left _ hq)
  ·simp at hq; subst hq
   refine List.pairwise_append.2 ⟨h.tie gr (by simp),by simp,fun a ha b hb=>?_⟩
   simp at hb; subst hb
   have:=(hg a ha).2.2
   unfold pI; omega
 ·rcases List.mem_append.1 hq with hq | hq
  ·exact h.eq q (List.mem_append_left _ hq)
  ·simp at hq; subst hq
   intro a ha b hb
   have e:=h.eq gr (by simp)
   rcases List.mem_append.1 ha with h5 | h5 <;> rcases List.mem_append.1 hb with h6 | h6
   ·exact e a h5 b h6
   ·rw [show b=x by simpa using h6]; exact (hg a h5).1
   ·rw [show a=x by simpa using h5]; exact (hg b h6).2.1
   ·rw [show a=x by simpa using h5,show b=x by simpa using h6]; exact hx
 ·obtain ⟨h1,_,h3⟩:=List.pairwise_append.1 h.lt
  refine List.pairwise_append.2 ⟨h1,by simp,fun q hq k hk a ha b hb=>?_⟩
  simp at hk; subst hk
  rcases List.mem_append.1 hb with hb | hb
  ·exact h3 q hq gr (by simp) a ha b hb
  ·simp at hb; subst hb; exact hn q hq a ha
end
theorem Wa {α:Type}(p:List α) (v:α) (h:p.length<=1000000):idx (p++[v]) (wr .i64 (((p++[v]).length:Int) - 1))=some v:=by
 rw [Xq (by simp <;> omega) (by simp <;> omega),show (((p++[v]).length:Int) - 1)=(p.length:Int) by simp,EM]
theorem Wn {α:Type}(p:List α) (v w:α) (h:p.length<=1000000):(p++[v]).set (wr .i64 (((p++[v]).length:Int) - 1)).toNat w=p++[w]:=by
 rw [Xq (by simp <;> omega) (by simp <;> omega),show (((p++[v]).length:Int) - 1)=(p.length:Int) by simp,Int.toNat_natCast,Xf]
section
variable {c:List AF}{g:List An}(hc:few c) (hv:(SJ c).2=0) (hg:FewR g)
include hc hv hg
theorem ABe (ms:List Nat) (hs:ms.Pairwise (ltN (fN c g))) (hb:∀ x ∈ ms,x < g.length) (hl:ms.length<=1000):∀ (r pre:List Nat) (fu:Nat) (L:List (List Nat)),ms=pre++r->r.length < fu->L.flatten=pre->GL (fN c g) pI L->L.length<=pre.length->∃ L',EA (sdL g ms,c) fu (pre.length:Int) (toI L)=some (toI L')/\L'.flatten=ms/\GL (fN c g) pI L'
 | [],pre,fu + 1,L,e,_,hf,hL,_=>by
  refine ⟨L,?_,by rw [hf,e]; simp,hL⟩
  unfold EA
  rw [if_neg (by rw [e]; simp [NI])]
 | x::r,pre,fu + 1,L,e,hfu,hf,hL,hLl=>by
  have hw:=AEZ g (Oq hv).2
  have hxx:fN c g x x=0:=by have:=hw.s x x; omega
  have hlen:ms.length=pre.length + r.length + 1:=by rw [e]; simp; omega
  simp only [List.length_cons] at hfu
  have hx:=hb x (by rw [e]; simp)
  have hlt:∀ z ∈ pre,ltN (fN c g) z x:=fun z hz=>by
   rw [e] at hs
   exact (List.pairwise_append.1 hs).2.2 z hz x (by simp)
  have hi:idx (sdL g ms) (pre.length:Int)=some (sd g x):=by
   rw [e,Xe,S8,<-NI g pre,EM]
  have hwr:wr .i64 ((pre.length:Int) + 1)=(((pre++[x]).length:Nat):Int):=Gt pre x r (by rw [<-e]; omega)
  have next:∀ L2:List (List Nat),L2.flatten=pre++[x]->GL (fN c g) pI L2->L2.length<=(pre++[x]).length->∃ L',EA (sdL g ms,c) fu (wr .i64 ((pre.length:Int) + 1)) (toI L2)=some (toI L')/\L'.flatten=ms/\GL (fN c g) pI L':=fun L2 h1 h2 h3=>by
   rw [hwr]
   exact ABe ms hs hb hl r (pre++[x]) fu L2 (by rw [e]; simp) (by omega) h1 h2 h3
  have new:(∀ z ∈ pre,fN c g z x = -1)->∀ j,(if (pre.length:Int)==0 then some true else (idx (sdL g ms) (wr .i64 ((pre.length:Int) - 1))).bind fun v25=>(Eg v25 (sd g x) c).bind fun v28=>some (v28 != 0))=some j->j=true->∃ L',EA (sdL g ms,c) (fu + 1) (pre.length:Int) (toI L)=some (toI L')/\L'.flatten=ms/\GL (fN c g) pI L':=fun hn j hj hjt=>by
   subst hjt
   obtain ⟨L',h1,h2⟩:=next (L++[[x]]) (by rw [List.flatten_append,hf]; simp) (hL.snocNew hxx (by rw [hf]; exact hn)) (by simp; omega)
   refine ⟨L',?_,h2⟩
   rw [<-h1]
   conv=>lhs; unfold EA
   rw [if_pos (by simp [NI]; omega),hi,OS,hj,OS]
   unfold IP
   rw [if_pos rfl,if_pos (Eh (by omega) (by rw [NJ]; simp; omega)),OS,Wa _ _ (by rw [NJ]; omega),OS,if_pos (Eh (by omega) (by simp)),OS,Wn _ _ _ (by rw [NJ]; omega),V3]
   rfl
  rcases Wo L with h0 | ⟨L0,gr,h0⟩
  ·subst h0
   have hp:pre=[]:=by rw [<-hf]; rfl
   subst hp
   exact new (fun z hz=>by cases hz) true (by simp) rfl
  ·subst h0
   rcases Wo gr with h1 | ⟨gr0,y,h1⟩
   ·exact absurd h1 (hL.ne gr (by simp))
   ·subst h1
    have hpre:pre=(L0.flatten++gr0)++[y]:=by rw [<-hf]; simp
    have hyp:y ∈ pre:=by rw [hpre]; simp
    have hy:=hb y (by rw [e]; exact List.mem_append_left _ hyp)
    have hprev:(if (pre.length:Int)==0 then some true else (idx (sdL g ms) (wr .i64 ((pre.length:Int) - 1))).bind fun v25=>(Eg v25 (sd g x) c).bind fun v28=>some (v28 != 0))=some (fN c g y x != 0):=by
     have hpl:(pre.length:Int)=(((L0.flatten++gr0).length:Nat):Int) + 1:=by rw [hpre]; simp; omega
     have hp0:¬ (((pre.length:Int)==0)=true):=by simp; intro h; rw [h] at hyp; cases hyp
     have hii:idx (sdL g ms) (wr .i64 ((pre.length:Int) - 1))=some (sd g y):=by
      have q1:wr .i64 ((pre.length:Int) - 1)=((L0.flatten++gr0).length:Int):=by rw [Xq (by omega) (by omega)]; omega
      have q2:ms=(L0.flatten++gr0)++y::(x::r):=by rw [e,hpre]; simp
      rw [q1,q2,Xe,S8,<-NI g (L0.flatten++gr0),EM]
     rw [if_neg hp0,hii,OS,ABd hc hv hg hy hx,OS]
    have hlyx:=hlt y hyp
    by_cases h0:fN c g y x=0
    ·have hLlen:(L0++[gr0++[y]++[x]]).length<=(pre++[x]).length:=by simp at hLl ⊢; omega
     have tie:∀ z ∈ gr0++[y],fN c g z x=0:=fun z hz=>by
      have e1:=hL.eq (gr0++[y]) (by simp) z hz y (by simp)
      have:=hw.t z y x (by omega) (by omega)
      omega
     obtain ⟨L',h1,h2⟩:=next (L0++[gr0++[y]++[x]]) (by rw [hpre]; simp) (hL.snocIn hxx (fun z hz=>by
      have e1:=tie z hz
      have:=hw.s z x
      refine ⟨e1,by omega,?_⟩
      have hzp:z ∈ pre:=by rw [hpre,List.append_assoc]; exact List.mem_append_right _ hz
      rcases hlt z hzp with h | h
      ·omega
      ·exact h.2) (fun q hq z hz=>by
      have e1:=(List.pairwise_append.1 hL.lt).2.2 q hq (gr0++[y]) (by simp) z hz y (by simp)
      have:=hw.t z y x (by omega) (by omega)
      omega)) hLlen
     refine ⟨L',?_,h2⟩
     rw [<-h1]
     conv=>lhs; unfold EA
     rw [if_pos (by simp [NI]; omega),hi,OS,hprev,OS]
     unfold IP
     have hLle:L0.length<=1000:=by simp at hLl; omega
     have hgl:(gr0++[y]).length<=1000:=by
      have:pre.length=(L0.flatten).length + (gr0++[y]).length:=by rw [hpre]; simp
      omega
     have e3:toI (L0++[gr0++[y]])=toI L0++[toG (gr0++[y])]:=by rw [V3]; rfl
     rw [if_neg (by simp [h0]),OS,e3,Wa _ _ (by rw [NJ]; omega),OS,if_pos (Eh (by omega) (by rw [HM]; simp at hgl ⊢; omega)),OS,Wn _ _ _ (by rw [NJ]; omega)]
     have e4:toI L0++[toG (gr0++[y])++[(sd g x).2]]=toI (L0++[gr0++[y]++[x]]):=by
      rw [V3]
      show _=toI L0++[toG (gr0++[y]++[x])]
      unfold toG
      rw [List.map_append (l₂:=[x])]
      rfl
     rw [e4]
    ·have hm1:fN c g y x = -1:=by rcases hlyx with h | h <;> omega
     refine new (fun z hz=>?_) (fN c g y x != 0) hprev (by simp [h0])
     have hzy:z=y\/ltN (fN c g) z y:=by
      rw [hpre] at hz
      rcases List.mem_append.1 hz with hz | hz
      ·right
       rw [e,hpre] at hs
       have:=(List.pairwise_append.1 (List.pairwise_append.1 hs).1).2.2 z hz y (by simp)
       exact this
      ·left; simpa using hz
     rcases hzy with rfl | hzy
     ·exact hm1
     ·have:=hw.t z y x (by rcases hzy with h | h <;> omega) (by omega)
      rcases hzy with h | h <;> omega
theorem AAo (ns:List Nat) (ha:ns.Pairwise fun a b=>a < b) (hns:∀ x ∈ ns,x < g.length) (hl:ns.length<=20):∃ L,Gz c (sdL g ns)=some (toI L)/\GL (fN c g) pI L/\∀ x,x ∈ L.flatten↔x ∈ ns:=by
 have hw:=AEZ g (Oq hv).2
 obtain ⟨L,h1,h2,h3⟩:=ABe hc hv hg (Qq (fN c g) ns) (XQ hw ns ha) (fun x hx=>hns x ((Sz x ns).1 hx)) (by rw [VZ]; omega) (Qq (fN c g) ns) [] 100000 [] rfl (by rw [VZ]; omega) rfl ⟨fun _ h=>(by cases h),fun _ h=>(by cases h),fun _ h=>(by cases h),List.Pairwise.nil⟩ (Nat.le_refl _)
 refine ⟨L,?_,h3,fun x=>by rw [h2,Sz]⟩
 unfold Gz
 rw [if_pos (Eh (by omega) (by rw [NI]; omega)),AEQ hc hv hg ns hns hl,OS]
 have h1':EA (sdL g (Qq (fN c g) ns),c) 100000 0 []=some (toI L):=h1
 rw [h1']; rfl
end
/- trestle/trestleref03.all -/
/- trestle/trestleref03.Order -/
/- trestle/court.Class -/
/- trestle/court.Line -/
/- trestle/trestleref03.Line -/
/- trestle/trestleref03.all -/
/- trestle/trestleref03.Class -/
theorem YN (l:List Nat) (i:Nat) (h:i < l.length):idx (toG l) (i:Int)=some (pI l[i]):=by
 unfold toG
 rw [Ms (by simpa using h)]; simp
theorem QT (a b:List Nat):toG (a++b)=toG a++toG b:=List.map_append
section
variable {c:List AF}{g:List An}(hc:few c) (hv:(SJ c).2=0) (hg:FewR g)
include hc hv hg
/-- Nobody of some goes before x. -/
def frB (f:Nat->Nat->Int) (ns:List Nat) (x:Nat):Bool:=ns.all fun k=>!decide (f k x < 0)
theorem ADt {x y:Nat}(hx:x < g.length) (hy:y < g.length):JH c g (pI x) (pI y)=some (decide (fN c g x y < 0)):=by
 have _:=hv
 have hn:=hg.n
 unfold JH pI
 rw [Zc g hx,OS,Zc g hy,OS,AA5 c _ _ _ _ hc (hg.at_ hx) (hg.at_ hy),OS,ADm (by omega) (by omega)]
 rfl
theorem ADw (ns:List Nat) (hns:∀ x ∈ ns,x < g.length) (hl:ns.length<=1000) (i:Nat) (hi:i < ns.length):EV c g (toG ns) (i:Int) 100000 true 0=some (frB (fN c g) ns ns[i]):=by
 have h:=TG (σ:=Bool) ns.length (fun k=>frB (fN c g) (ns.take k) ns[i]) (some (frB (fN c g) ns ns[i])) (fun f c' s=>EV c g (toG ns) (i:Int) f s c') (by omega) (fun k hk f=>by
  show EV c g (toG ns) (i:Int) (f + 1) (frB (fN c g) (ns.take k) ns[i]) (k:Int)=_
  conv=>lhs; unfold EV
  have e:frB (fN c g) (ns.take (k + 1)) ns[i]=(frB (fN c g) (ns.take k) ns[i]&&!decide (fN c g ns[k] ns[i] < 0)):=by
   unfold frB
   rw [List.take_succ_eq_append_getElem hk,List.all_append]; simp
  have q:(if frB (fN c g) (ns.take k) ns[i]=true then (idx (toG ns) (k:Int)).bind fun v17=>(idx (toG ns) (i:Int)).bind fun v18=>(JH c g v17 v18).bind fun v19=>some (!v19) else some false)=some (frB (fN c g) (ns.take (k + 1)) ns[i]):=by
   rw [e]
   cases frB (fN c g) (ns.take k) ns[i] with
   | false=>rfl
   | true =>
    rw [if_pos rfl,YN ns k hk,OS,YN ns i hi,OS,ADt hc hv hg (hns _ (List.getElem_mem hk)) (hns _ (List.getElem_mem hi))]
    rfl
  rw [if_pos (by rw [HM]; simp; omega),q,OS]) (fun f=>by
  show EV c g (toG ns) (i:Int) (f + 1) (frB (fN c g) (ns.take ns.length) ns[i]) (ns.length:Int)=_
  conv=>lhs; unfold EV
  rw [if_neg (by rw [HM]; simp),List.take_length])
 exact h
theorem ADv (ns:List Nat) (hns:∀ x ∈ ns,x < g.length) (hl:ns.length<=1000):EU c g (toG ns) 100000 0 [] []=some (toG (ns.filter (frB (fN c g) ns)),toG (ns.filter fun x=>!frB (fN c g) ns x)):=by
 have h:=TG (σ:=List Int×List Int) ns.length (fun k=>(toG ((ns.take k).filter (frB (fN c g) ns)),toG ((ns.take k).filter fun x=>!frB (fN c g) ns x))) (some (toG (ns.filter (frB (fN c g) ns)),toG (ns.filter fun x=>!frB (fN c g) ns x))) (fun f c' s=>EU c g (toG ns) f c' s.1 s.2) (by omega) (fun k hk f=>by
  show EU c g (toG ns) (f + 1) (k:Int) (toG ((ns.take k).filter (frB (fN c g) ns))) (toG ((ns.take k).filter fun x=>!frB (fN c g) ns x))=_
  conv=>lhs; unfold EU
  have b1:((ns.take k).filter (frB (fN c g) ns)).length<=1000:=Nat.le_trans (List.length_filter_le _ _) (by simp; omega)
  have b2:((ns.take k).filter fun x=>!frB (fN c g) ns x).length<=1000:=Nat.le_trans (List.length_filter_le _ _) (by simp; omega)
  have q:Ih (toG ns) (k:Int) (toG ((ns.take k).filter (frB (fN c g) ns))) (toG ((ns.take k).filter fun x=>!frB (fN c g) ns x)) (frB (fN c g) ns ns[k])=some (toG ((ns.take (k + 1)).filter (frB (fN c g) ns)),toG ((ns.take (k + 1)).filter fun x=>!frB (fN c g) ns x)):=by
   unfold Ih
   rw [List.take_succ_eq_append_getElem hk,List.filter_append,List.filter_append,QT,QT]
   cases hb:frB (fN c g) ns ns[k] with
   | true =>
    rw [if_pos rfl,YN ns k hk,OS,if_pos (Eh (by omega) (by rw [HM]; simp; omega))]
    simp [hb,toG]
   | false =>
    rw [if_neg (by simp),YN ns k hk,OS,if_pos (Eh (by omega) (by rw [HM]; simp; omega))]
    simp [hb,toG]
  rw [if_pos (by rw [HM]; simp; omega),ADw hc hv hg ns hns hl k hk,OS,q]
  rfl) (fun f=>by
  show EU c g (toG ns) (f + 1) (ns.length:Int) (toG ((ns.take ns.length).filter (frB (fN c g) ns))) (toG ((ns.take ns.length).filter fun x=>!frB (fN c g) ns x))=_
  conv=>lhs; unfold EU
  rw [if_neg (by rw [HM]; simp),List.take_length])
 exact h
omit hc hv hg in
theorem ABg {f:Nat->Nat->Int}(hw:Wk3 f):∀ (l:List Nat),l≠[]->∃ m ∈ l,∀ k ∈ l,¬ f k m < 0
 | [],h=>absurd rfl h
 | [x],_=>⟨x,by simp,fun k hk=>by
  have e:k=x:=by simpa using hk
  rw [e]; have:=hw.s x x; omega⟩
 | x::y::l,_=>by
  obtain ⟨m,h1,h2⟩:=ABg hw (y::l) (by simp)
  by_cases hx:f x m < 0
  ·refine ⟨x,by simp,fun k hk=>?_⟩
   rcases List.mem_cons.1 hk with rfl | hk
   ·have:=hw.s k k; omega
   ·have a1:=h2 k hk
    have a2:=hw.s k m
    have a3:=hw.v x m
    have:=hw.t x m k (by omega) (by omega)
    have:=hw.s x k
    omega
  ·refine ⟨m,List.mem_cons_of_mem _ h1,fun k hk=>?_⟩
   rcases List.mem_cons.1 hk with rfl | hk
   ·exact hx
   ·exact h2 k hk
theorem ADx:∀ (m:Nat) (ns:List Nat) (fu:Nat) (out:List (List Nat)),ns.length<=m->m < fu->ns.length<=1000->out.length + m<=2000->(∀ x ∈ ns,x < g.length)->ns.Pairwise (fun a b=>a < b)->∃ L,Ek c g fu (toG ns) (toI out)=some (.inl (toI (out++L)))/\GL (fN c g) pI L/\∀ x,x ∈ L.flatten↔x ∈ ns
 | 0,ns,fu + 1,out,hm,_,_,_,_,_=>by
  have h0:ns=[]:=List.eq_nil_of_length_eq_zero (by omega)
  subst h0
  refine ⟨[],?_,⟨fun _ h=>(by cases h),fun _ h=>(by cases h),fun _ h=>(by cases h),List.Pairwise.nil⟩,by simp⟩
  unfold Ek
  rw [if_neg (by simp [toG]),List.append_nil]
 | m + 1,ns,fu + 1,out,hm,hfu,hl,hol,hns,hp=>by
  have hw:=AEZ g (Oq hv).2
  by_cases h0:ns=[]
  ·subst h0
   refine ⟨[],?_,⟨fun _ h=>(by cases h),fun _ h=>(by cases h),fun _ h=>(by cases h),List.Pairwise.nil⟩,by simp⟩
   unfold Ek
   rw [if_neg (by simp [toG]),List.append_nil]
  ·obtain ⟨mn,h1,h2⟩:=ABg hw ns h0
   have hfree:∀ x,frB (fN c g) ns x=true↔∀ k ∈ ns,¬ fN c g k x < 0:=fun x=>by
    unfold frB
    rw [List.all_eq_true]
    constructor
    ·intro h k hk
     simpa using h k hk
    ·intro h k hk
     simpa using h k hk
   have hgr:ns.filter (frB (fN c g) ns)≠[]:=fun h=>by
    have:mn ∈ ns.filter (frB (fN c g) ns):=List.mem_filter.2 ⟨h1,(hfree mn).2 h2⟩
    rw [h] at this; cases this
   have hlen:(ns.filter fun x=>!frB (fN c g) ns x).length<=m:=by
    have a1:(ns.filter fun x=>!frB (fN c g) ns x).length < ns.length:=by
     rw [List.length_filter_lt_length_iff_exists]
     exact ⟨mn,h1,by simp [(hfree mn).2 h2]⟩
    omega
   obtain ⟨L,q1,q2,q3⟩:=ADx m (ns.filter fun x=>!frB (fN c g) ns x) fu (out++[ns.filter (frB (fN c g) ns)]) hlen (by omega) (Nat.le_trans (List.length_filter_le _ _) hl) (by simp; omega) (fun x hx=>hns x (List.mem_filter.1 hx).1) (hp.sublist List.filter_sublist)
   refine ⟨ns.filter (frB (fN c g) ns)::L,?_,⟨fun k hk=>?_,fun k hk=>?_,fun k hk=>?_,?_⟩,fun x=>?_⟩
   ·unfold Ek
    rw [if_pos (by rw [HM]; have:=List.length_pos_iff.2 h0; simp; omega),ADv hc hv hg ns hns hl,OS,if_neg (by rw [HM]; have:=List.length_pos_iff.2 hgr; simp only [beq_iff_eq]; omega),if_pos (Eh (by omega) (by rw [NJ]; simp; omega))]
    have e:toI out++[toG (ns.filter (frB (fN c g) ns))]=toI (out++[ns.filter (frB (fN c g) ns)]):=by rw [V3]; rfl
    rw [e,q1]
    simp
   ·rcases List.mem_cons.1 hk with rfl | hk
    ·exact hgr
    ·exact q2.ne k hk
   ·rcases List.mem_cons.1 hk with rfl | hk
    ·refine (hp.sublist List.filter_sublist).imp fun h=>?_
     unfold pI; omega
    ·exact q2.tie k hk
   ·rcases List.mem_cons.1 hk with rfl | hk
    ·intro a ha b hb
     obtain ⟨a1,a2⟩:=List.mem_filter.1 ha
     obtain ⟨b1,b2⟩:=List.mem_filter.1 hb
     have:=(hfree a).1 a2 b b1
     have:=(hfree b).1 b2 a a1
     have:=hw.s a b
     omega
    ·exact q2.eq k hk
   ·refine List.pairwise_cons.2 ⟨fun k hk a ha b hb=>?_,q2.lt⟩
    obtain ⟨a1,a2⟩:=List.mem_filter.1 ha
    have hb':b ∈ ns.filter fun x=>!frB (fN c g) ns x:=(q3 b).1 (List.mem_flatten.2 ⟨k,hk,hb⟩)
    obtain ⟨b1,b2⟩:=List.mem_filter.1 hb'
    have hnf:¬ (∀ k ∈ ns,¬ fN c g k b < 0):=fun h=>by
     rw [(hfree b).2 h] at b2; cases b2
    obtain ⟨k2,hk2⟩:=Classical.not_forall.1 hnf
    obtain ⟨hk3,hk4⟩:=Classical.not_imp.1 hk2
    have hk5:fN c g k2 b < 0:=Classical.not_not.1 hk4
    have e1:=(hfree a).1 a2 k2 hk3
    have e2:=hw.s a k2
    have e3:=hw.v k2 b
    have e4:=hw.v a k2
    have:=hw.t a k2 b (by omega) (by omega)
    omega
   ·rw [List.flatten_cons,List.mem_append,q3,List.mem_filter,List.mem_filter]
    cases frB (fN c g) ns x <;> simp
theorem AAp (ns:List Nat) (ha:ns.Pairwise fun a b=>a < b) (hns:∀ x ∈ ns,x < g.length) (hl:ns.length<=1000):∃ L,G9 c g (toG ns)=some (toI L)/\GL (fN c g) pI L/\∀ x,x ∈ L.flatten↔x ∈ ns:=by
 obtain ⟨L,h1,h2,h3⟩:=ADx hc hv hg ns.length ns 100000 [] (Nat.le_refl _) (by omega) hl (by simp; omega) hns ha
 refine ⟨L,?_,h2,h3⟩
 unfold G9
 have h1':Ek c g 100000 (toG ns) []=some (.inl (toI L)):=by simpa [toI] using h1
 rw [h1']; rfl
end
section
variable {f:Nat->Nat->Int}(hs:∀ a b,f a b = - f b a){L:List (List Nat)}(hL:GL f pI L)
include hs hL
end
theorem ABo (L:List (List Nat)) (i:Nat) (h:i < L.length):idx (toI L) (i:Int)=some (toG L[i]):=by
 unfold toI
 rw [Ms (by simpa using h)]; simp
section
theorem Wh:∀ {l m:List Nat},l.Nodup->(∀ x ∈ l,x ∈ m)->l.length<=m.length
 | [],_,_,_=>Nat.zero_le _
 | x::l,m,h,s=>by
  obtain ⟨h1,h2⟩:=List.nodup_cons.1 h
  have hx:=s x (by simp)
  have:=Wh (l:=l) (m:=m.erase x) h2 fun y hy=>(List.mem_erase_of_ne (fun e:y=x=>h1 (e ▸ hy))).2 (s y (List.mem_cons_of_mem _ hy))
  rw [List.length_erase_of_mem hx] at this
  have:0 < m.length:=List.length_pos_of_mem hx
  simp; omega
variable {c:List AF}{g:List An}(hc:few c) (hv:(SJ c).2=0) (hg:FewR g) (hn:g.length<=20){L:List (List Nat)}(hL:GL (fN c g) pI L) (hall:∀ x,x ∈ L.flatten↔x < g.length)
include hL hall
include hn
end
/-- A line out of groups of one. -/
def lnE (L:List (List Nat)):Bool:=L.all fun gr=>gr.length==1
theorem AD7 (L:List (List Nat)) (hne:∀ gr ∈ L,gr≠[]) (hl:L.length<=1000) (hf:L.flatten.length<=1000):JG (toI L)=some (if lnE L=true then (toG L.flatten,0) else ([],32)):=by
 have go:∀ (r pre:List (List Nat)) (fu:Nat),L=pre++r->r.length < fu->G0 (toI L) fu (pre.length:Int) (toG pre.flatten)=some (if lnE r=true then .inl (toG L.flatten) else .inr ()):=by
  intro r
  induction r with
  | nil =>
   intro pre fu e hfu
   obtain ⟨fu,rfl⟩:∃ q,fu=q + 1:=⟨fu - 1,by simp at hfu; omega⟩
   unfold G0
   rw [if_neg (by rw [e,NJ]; simp),e]; simp [lnE]
  | cons gr r ih =>
   intro pre fu e hfu
   obtain ⟨fu,rfl⟩:∃ q,fu=q + 1:=⟨fu - 1,by simp at hfu; omega⟩
   simp only [List.length_cons] at hfu
   have hlen:L.length=pre.length + r.length + 1:=by rw [e]; simp; omega
   have hi:idx (toI L) (pre.length:Int)=some (toG gr):=by
    rw [ABo L pre.length (by omega)]
    have:L[pre.length]'(by omega)=gr:=by simp [e]
    rw [this]
   have hgr:=List.length_pos_iff.2 (hne gr (by rw [e]; simp))
   have hfl:L.flatten.length=pre.flatten.length + (gr.length + r.flatten.length):=by rw [e]; simp only [List.flatten_append,List.flatten_cons,List.length_append]
   unfold G0
   rw [if_pos (by rw [NJ]; simp; omega),hi,OS]
   by_cases h1:gr.length=1
   ·rw [if_neg (by rw [HM]; simp; omega),if_pos (Eh (by omega) (by rw [HM,HM]; omega)),Xq (by omega) (by omega),show ((pre.length:Int) + 1)=(((pre++[gr]).length:Nat):Int) by simp,<-QT]
    have e2:pre.flatten++gr=(pre++[gr]).flatten:=by simp
    rw [e2,ih (pre++[gr]) fu (by rw [e]; simp) (by omega)]
    have:lnE (gr::r)=lnE r:=by simp [lnE,h1]
    rw [this]
   ·rw [if_pos (by rw [HM]; simp; omega)]
    have:lnE (gr::r)=false:=by simp [lnE,h1]
    rw [this]; rfl
 have h:=go L [] 100000 rfl (by omega)
 have h':G0 (toI L) 100000 0 []=some (if lnE L=true then .inl (toG L.flatten) else .inr ()):=h
 unfold JG
 rw [h']
 cases lnE L <;> rfl
/- trestle/court.Deciding -/
/- trestle/trestleref03.Deciding -/
section
variable {c:List AF}{g:List An}(hc:few c) (hv:(SJ c).2=0) (hg:FewR g)
include hc hv hg
open Classical in
end
section
variable {c:List AF}{g:List An}(hc:few c) (hv:(SJ c).2=0) (hg:FewR g)
include hc hv hg
open Classical in
end
section
variable {c:List AF}{g:List An}(hc:few c) (hv:(SJ c).2=0) (hg:FewR g)
include hc hv hg
open Classical in
end
section
variable {c:List AF}{g:List An}(hc:few c) (hv:(SJ c).2=0) (hg:FewR g)
include hc hv hg
end
/- trestle/court.Inversions$1 -/
/- slices.IndexFunc[[]int,int] -/
/- slices.ContainsFunc[[]int,int] -/
/- trestle/court.Inversions -/
theorem ACD (xs ys:List Int) (h:xs.length<=99999):El xs ys=some (decide (xs=ys)):=by
 unfold El
 exact ADl xs ys h (Fb xs ys) (fun f c=>rfl)
/-- How many stand behind x and below it. -/
def ADa (x:Int) (r:List Int):Nat:=r.countP fun y=>decide (x > y)
section
variable (cl od:List Int)
end
theorem ADo (l:List (List UInt8)) (h:l.length<=99999):Au l=some (l.any fun s=>decide ((s.length:Int) > 40)):=by
 unfold Au BH
 obtain ⟨n,h1,h2⟩:=Pu l h FK (fun s=>decide ((s.length:Int) > 40)) (fun x _=>rfl) (BT l) (fun f c=>rfl)
 rw [<-h2]
 exact (congrArg (fun o=>o.bind fun v1=>some (decide (v1≥0))) h1)
/-- Is a guest too long? -/
def Wf (g:An):Bool:=decide ((mxI (mxI (g.1.length:Int) (g.2.1.length:Int)) (g.2.2.1.length:Int)) > 40)||(decide ((g.2.2.2.2.2.2.2.2.length:Int) > 10)||g.2.2.2.2.2.2.2.2.any fun s=>decide ((s.length:Int) > 40))
theorem AFF (g:An):Ea g=some (Wf g):=by
 unfold Ea Wf
 by_cases h1:(mxI (mxI (g.1.length:Int) (g.2.1.length:Int)) (g.2.2.1.length:Int)) > 40
 ·simp [h1]
 ·by_cases h2:(g.2.2.2.2.2.2.2.2.length:Int) > 10
  ·simp [h1,h2]
  ·rw [ADo _ (by omega)]
   simp [h1,h2]
theorem AAu {g:An}(h:Wf g=false):X5 g:=by
 unfold Wf at h
 simp only [Bool.or_eq_false_iff,decide_eq_false_iff_not] at h
 unfold X5
 have:=h.2.1
 omega
theorem AAh (g:List An) (n:Int) (hn:n<=99999):Gb g n=some (decide ((g.length:Int)<=n)&&!g.any Wf):=by
 unfold Gb
 by_cases h:(g.length:Int)<=n
 ·rw [if_pos (by simpa using h)]
  have e:Am g=some (g.any Wf):=by
   unfold Am A1
   obtain ⟨n,h1,h2⟩:=Pu g (by omega) Ea Wf (fun x _=>AFF x) (BJ g) (fun f c=>rfl)
   rw [<-h2]
   exact (congrArg (fun o=>o.bind fun v1=>some (decide (v1≥0))) h1)
  rw [e]
  simp [h]
 ·rw [if_neg (by simpa using h)]
  simp [h]
/-- A list that is copied element by element. -/
theorem AEP {α:Type}(xs:List α) (hx:xs.length<=99999) (L:Nat->List α->Int->Option (List α)) (hs:∀ (pre:List α) (v:α) (r:List α),xs=pre++v::r->∀ f,L (f + 1) pre (pre.length:Int)=L f (pre++[v]) (wr .i64 ((pre.length:Int) + 1))) (he:∀ f,L (f + 1) xs (xs.length:Int)=some xs):L 100000 [] 0=some xs:=by
 have go:∀ (r pre:List α) (f:Nat),xs=pre++r->r.length < f->L f pre (pre.length:Int)=some xs:=by
  intro r
  induction r with
  | nil =>
   intro pre f e hf
   obtain ⟨f,rfl⟩:∃ q,f=q + 1:=⟨f - 1,by simp at hf; omega⟩
   have e':xs=pre:=by rw [e]; simp
   subst e'; exact he f
  | cons v r ih =>
   intro pre f e hf
   obtain ⟨f,rfl⟩:∃ q,f=q + 1:=⟨f - 1,by simp at hf; omega⟩
   simp only [List.length_cons] at hf
   rw [hs pre v r e f,Gt pre v r (by rw [<-e]; omega)]
   exact ih (pre++[v]) f (by rw [e]; simp) (by omega)
 exact go xs [] 100000 rfl (by omega)
theorem ABq (c:List (List UInt8)) (h:c.length<=8796093022208):∀ (r pre:List (List UInt8)) (f:Nat),c=pre++r->r.length < f->Eq c f pre (pre.length:Int)=some c
 | [],pre,f + 1,e,_=>by
  unfold Eq
  rw [if_neg (by rw [e]; simp),e,List.append_nil]
 | v::r,pre,f + 1,e,hf=>by
  have hl2:c.length=pre.length + r.length + 1:=by rw [e]; simp; omega
  simp only [List.length_cons] at hf
  have hc:EK 16 (pre.length + 1)=true:=by
   unfold EK
   rw [Bool.and_eq_true]
   exact ⟨Nat.ble_eq_true_of_le (by omega),Nat.ble_eq_true_of_le (by omega)⟩
  unfold Eq
  rw [if_pos (by rw [e]; exact Iu pre v r),show idx c (pre.length:Int)=some v by rw [e,EM],OS,if_pos hc,Xq (by omega) (by omega),show ((pre.length:Int) + 1)=(((pre++[v]).length:Nat):Int) by simp]
  exact ABq c h r (pre++[v]) f (by rw [e]; simp) (by omega)
theorem ADg (g:An) (h:g.2.2.2.2.2.2.2.2.length<=8796093022208):Hu g=some g:=by
 unfold Hu Io
 have:Eq g.2.2.2.2.2.2.2.2 200000000000000 [] 0=some g.2.2.2.2.2.2.2.2:=ABq g.2.2.2.2.2.2.2.2 h g.2.2.2.2.2.2.2.2 [] _ rfl (by omega)
 rw [this]; rfl
theorem AEN (l:List (List UInt8)) (h:l.length<=8796093022208):Hw l l=some true:=by
 have go:∀ (d i f:Nat),i + d=l.length->d < f->Er l l f (i:Int)=some (.inl ()):=by
  intro d
  induction d with
  | zero =>
   intro i f e hf
   obtain ⟨f,rfl⟩:∃ q,f=q + 1:=⟨f - 1,by omega⟩
   unfold Er
   rw [if_neg (by simp; omega)]
  | succ d ih =>
   intro i f e hf
   obtain ⟨f,rfl⟩:∃ q,f=q + 1:=⟨f - 1,by omega⟩
   have hi:i < l.length:=by omega
   unfold Er
   rw [if_pos (by simp; omega),Ms hi,OS,OS,if_neg (by simp),Xq (by omega) (by omega),show ((i:Int) + 1)=((i + 1:Nat):Int) by omega]
   exact ih (i + 1) f (by omega) (by omega)
 have h':Er l l 200000000000000 0=some (.inl ()):=go l.length 0 _ (by omega) (by omega)
 unfold Hw
 rw [if_neg (by simp),h']; rfl
theorem AEM (g:An) (h:g.2.2.2.2.2.2.2.2.length<=8796093022208):Hv g g=some true:=by
 unfold Hv
 rw [AEN _ h]
 simp
theorem AB7 (g:List An) (hn:g.length<=1000) (h:∀ x ∈ g,x.2.2.2.2.2.2.2.2.length<=8796093022208):HE g=some g:=by
 unfold HE
 have:Dr g 100000 [] 0=some g:=AEP g (by omega) (fun f s c=>Dr g f s c) (fun pre v r e f=>by
  have hl:g.length=pre.length + r.length + 1:=by rw [e]; simp; omega
  show Dr g (f + 1) pre (pre.length:Int)=_
  conv=>lhs; unfold Dr
  rw [if_pos (by rw [e]; exact Iu pre v r),show idx g (pre.length:Int)=some v by rw [e,EM],OS,ADg v (h v (by rw [e]; simp)),OS,if_pos (Eh (by omega) (by omega))]) (fun f=>by
  show Dr g (f + 1) g (g.length:Int)=_
  conv=>lhs; unfold Dr
  rw [if_neg (by simp)])
 rw [this]; rfl
theorem ACy (g:List An) (hn:g.length<=1000) (h:∀ x ∈ g,x.2.2.2.2.2.2.2.2.length<=8796093022208):HF g g=some true:=by
 unfold HF
 have:Dt g g 100000 0=some (.inl ()):=TG (σ:=Unit) g.length (fun _=>()) (some (.inl ())) (fun f c _=>Dt g g f c) (by omega) (fun i hi f=>by
  show Dt g g (f + 1) (i:Int)=_
  conv=>lhs; unfold Dt
  rw [if_pos (by simp; omega),Ms hi,OS,OS,AEM g[i] (h _ (List.getElem_mem hi)),OS,if_neg (by simp)]) (fun f=>by
  show Dt g g (f + 1) (g.length:Int)=_
  conv=>lhs; unfold Dt
  rw [if_neg (by simp)])
 rw [this,if_neg (by simp)]; rfl
section
variable {g:List An}(hg:FewR g)
include hg
end
/- trestle/trestlekit.SameInts -/
/- trestle/trestlekit.SameLists -/
/- trestle/trestlelaw03.orders -/
/- trestle/trestlelaw03.CourtOrders -/
theorem ABC (L:List (List Nat)) (hl:L.length<=1000):Hj (toI L)=some (if lnE L=true then (toG L.flatten,0) else ([],32)):=by
 have go:∀ (r pre:List (List Nat)) (fu:Nat),L=pre++r->(∀ gr ∈ pre,gr.length=1)->pre.flatten.length=pre.length->r.length < fu->FZ (toI L) fu (toG pre.flatten) (pre.length:Int)=some (if lnE r=true then .inl (toG L.flatten) else .inr 32):=by
  intro r
  induction r with
  | nil =>
   intro pre fu e h1 h2 hfu
   obtain ⟨fu,rfl⟩:∃ q,fu=q + 1:=⟨fu - 1,by simp at hfu; omega⟩
   unfold FZ
   rw [if_neg (by rw [e,NJ]; simp),e]; simp [lnE]
  | cons gr r ih =>
   intro pre fu e h1 h2 hfu
   obtain ⟨fu,rfl⟩:∃ q,fu=q + 1:=⟨fu - 1,by simp at hfu; omega⟩
   simp only [List.length_cons] at hfu
   have hlen:L.length=pre.length + r.length + 1:=by rw [e]; simp; omega
   have hi:idx (toI L) (pre.length:Int)=some (toG gr):=by
    rw [ABo L pre.length (by omega)]
    have:L[pre.length]'(by omega)=gr:=by simp [e]
    rw [this]
   unfold FZ
   rw [if_pos (by rw [NJ]; simp; omega),hi,OS]
   by_cases hq:gr.length=1
   ·obtain ⟨x,rfl⟩:=List.length_eq_one_iff.1 hq
    rw [if_neg (by rw [HM]; simp),OS,show idx (toG [x]) 0=some (pI x) from rfl,OS,if_pos (Eh (by omega) (by rw [HM]; omega)),Xq (by omega) (by omega),show ((pre.length:Int) + 1)=(((pre++[[x]]).length:Nat):Int) by simp,show toG pre.flatten++[pI x]=toG (pre.flatten++[x]) by rw [QT]; rfl]
    have e2:pre.flatten++[x]=(pre++[[x]]).flatten:=by simp
    rw [e2,ih (pre++[[x]]) fu (by rw [e]; simp) (fun g hg=>by
     rcases List.mem_append.1 hg with h | h
     ·exact h1 g h
     ·simp at h; subst h; rfl) (by simp [h2]) (by omega)]
    have:lnE ([x]::r)=lnE r:=by simp [lnE]
    rw [this]
   ·rw [if_pos (by rw [HM]; simp; omega)]
    have:lnE (gr::r)=false:=by simp [lnE,hq]
    rw [this]; rfl
 have h:=go L [] 100000 rfl (by simp) rfl (by omega)
 have h':FZ (toI L) 100000 [] 0=some (if lnE L=true then .inl (toG L.flatten) else .inr 32):=h
 unfold Hj
 rw [h',OS]
 by_cases hq:lnE L=true
 ·rw [if_pos hq,if_pos hq]
 ·rw [if_neg hq,if_neg hq]
section
variable {c:List AF}{g:List An}(hc:few c) (hv:(SJ c).2=0) (hg:FewR g) (hn:g.length<=20)
include hc hv hg hn
end
section
variable {c:List AF}{g:List An}(hc:few c) (hv:(SJ c).2=0) (hg:FewR g) (hn:g.length<=20)
include hc hv hg hn
theorem Z4 (q:Ab->Bool):∃ L,Gz c ((IE g 0).filter q)=some (toI L)/\G9 c g (toG ((List.range g.length).filter fun x=>q (sd g x)))=some (toI L)/\GL (fN c g) pI L/\(∀ x,x ∈ L.flatten↔x ∈ (List.range g.length).filter fun x=>q (sd g x)):=by
 have e:(IE g 0).filter q=sdL g ((List.range g.length).filter fun x=>q (sd g x)):=by
  rw [Yo]
  unfold sdL
  rw [List.filter_map]; rfl
 have ha:((List.range g.length).filter fun x=>q (sd g x)).Pairwise fun a b=>a < b:=List.Pairwise.filter _ List.pairwise_lt_range
 have hb:∀ x ∈ (List.range g.length).filter (fun x=>q (sd g x)),x < g.length:=fun x hx=>List.mem_range.1 (List.mem_filter.1 hx).1
 have hl:((List.range g.length).filter fun x=>q (sd g x)).length<=g.length:=by
  have:=List.length_filter_le (fun x=>q (sd g x)) (List.range g.length)
  simpa using this
 obtain ⟨L,h1,h2,h3⟩:=AAo hc hv hg _ ha hb (by omega)
 obtain ⟨M,k1,k2,k3⟩:=AAp hc hv hg _ ha hb (by omega)
 have hLM:L=M:=WA (AEZ g (Oq hv).2).s L M h2 k2 fun x=>by rw [h3,k3]
 exact ⟨L,by rw [e]; exact h1,by rw [k1,hLM],h2,h3⟩
/-- The row of a court, of both sides. -/
theorem AA9 (q:Ab->Bool):∃ (G:List (List Int)) (P:List Int×Int),Gz c ((IE g 0).filter q)=some G/\JG G=some P/\G9 c g (toG ((List.range g.length).filter fun x=>q (sd g x)))=some G/\Hj G=some P/\P.1.length<=g.length:=by
 obtain ⟨L,h1,h2,hL,hall⟩:=Z4 hc hv hg hn q
 have hs:=(AEZ g (Oq hv).2).s
 have hnd:L.flatten.Nodup:=by
  refine List.pairwise_flatten.2 ⟨fun gr h=>(hL.tie gr h).imp fun h e=>by subst e; exact absurd h (Int.lt_irrefl _),hL.lt.imp fun h a ha b hb e=>?_⟩
  subst e
  have:=h a ha a hb
  have:=hs a a
  omega
 have hf:L.flatten.length<=g.length:=by
  have:=Wh hnd (m:=List.range g.length) fun x hx=>List.mem_range.2 (List.mem_range.1 (List.mem_filter.1 ((hall x).1 hx)).1)
  simpa using this
 have hnum:∀ M:List (List Nat),(∀ gr ∈ M,gr≠[])->M.length<=M.flatten.length:=fun M hM=>by
  induction M with
  | nil=>simp
  | cons a M ih =>
   have:=ih fun gr h=>hM gr (List.mem_cons_of_mem _ h)
   have:=List.length_pos_iff.2 (hM a (by simp))
   simp only [List.flatten_cons,List.length_append,List.length_cons]
   omega
 have hl:=hnum L hL.ne
 refine ⟨toI L,_,h1,AD7 L hL.ne (by omega) (by omega),h2,ABC L (by omega),?_⟩
 split
 ·show (toG L.flatten).length<=_
  rw [HM]; exact hf
 ·exact Nat.zero_le _
end
/-- What a round gives. -/
def La (rows:List (List Int)) (r:Nat):List Int:=rows.filterMap fun l=>l[r]?
def U0 (rows:List (List Int)) (n:Nat):List Int:=(List.range n).flatMap (La rows)
theorem ZJ (rows:List (List Int)) (r:Nat):La (rows.map List.tail) r=La rows (r + 1):=by
 unfold La
 rw [List.filterMap_map]
 congr 1
 funext l
 cases l <;> simp
theorem ZK (rows:List (List Int)) (n:Nat):U0 rows (n + 1)=La rows 0++U0 (rows.map List.tail) n:=by
 unfold U0
 rw [List.range_succ_eq_map,List.flatMap_cons]
 congr 1
 rw [List.flatMap_map]
 congr 1
 funext r
 exact (ZJ rows r).symm
theorem TH (rows:List (List Int)) (n:Nat):U0 rows (n + 1)=U0 rows n++La rows n:=by
 unfold U0
 rw [List.range_succ,List.flatMap_append]; simp
theorem Xy {rows:List (List Int)}(h:∀ l ∈ rows,l=[]):∀ n,U0 rows n=[]
 | 0=>rfl
 | n + 1=>by
  rw [TH,Xy h n]
  unfold La
  rw [List.nil_append,List.filterMap_eq_nil_iff]
  intro l hl
  rw [h l hl]; rfl
/-- Rows that are all empty: nothing is left. -/
theorem ABW (rows:List (List Int)):La rows 0=[]↔∀ l ∈ rows,l=[]:=by
 unfold La
 rw [List.filterMap_eq_nil_iff]
 constructor
 ·intro h l hl
  have:=h l hl
  cases l with
  | nil=>rfl
  | cons a l=>simp at this
 ·intro h l hl
  rw [h l hl]; rfl
theorem Xx (a b:List (List Int)) (r:Nat):La (a++b) r=La a r++La b r:=List.filterMap_append
theorem Sv (a:List (List Int)) (r:Nat):(La a r).length<=a.length:=List.length_filterMap_le _ _
theorem VQ (a:List (List Int)):∀ n,(U0 a n).length<=n * a.length
 | 0=>by simp [U0]
 | n + 1=>by
  rw [TH,List.length_append,Nat.add_mul]
  have:=VQ a n
  have:=Sv a n
  omega
theorem AFb (w:List (List UInt8)) (rows:List (List Int)) (hr:rows.length<=1000) (r:Nat) (hrr:r<=1000) (acc:List Int) (ha:acc.length<=1000000):Cu (w,rows) (r:Int) 100000 0 acc=some (acc++La rows r):=by
 have h:=TG (σ:=List Int) rows.length (fun k=>acc++La (rows.take k) r) (some (acc++La rows r)) (fun f c s=>Cu (w,rows) (r:Int) f c s) (by omega) (fun k hk f=>by
  show Cu (w,rows) (r:Int) (f + 1) (k:Int) (acc++La (rows.take k) r)=Cu (w,rows) (r:Int) f _ (acc++La (rows.take (k + 1)) r)
  conv=>lhs; unfold Cu
  have hl:=Sv (rows.take k) r
  have hl2:(rows.take k).length<=1000:=by rw [List.length_take]; omega
  have e:Gx (r:Int) (acc++La (rows.take k) r) rows[k]=some (acc++La (rows.take (k + 1)) r):=by
   unfold Gx
   rw [List.take_succ_eq_append_getElem hk,Xx]
   by_cases hlt:r < rows[k].length
   ·rw [if_pos (by simp; omega),Ms hlt,OS,if_pos (Eh (by omega) (by rw [List.length_append]; simp; omega)),List.append_assoc]
    have:La [rows[k]] r=[rows[k][r]]:=by simp [La,hlt]
    rw [this]
   ·rw [if_neg (by simp; omega)]
    have:La [rows[k]] r=[]:=by
     unfold La
     rw [List.filterMap_eq_nil_iff]
     intro l hl
     rw [List.mem_singleton.1 hl]
     exact List.getElem?_eq_none (by omega)
    rw [this,List.append_nil]
  rw [if_pos (by simp; omega),Ms hk,OS,e,OS]) (fun f=>by
  show Cu (w,rows) (r:Int) (f + 1) (rows.length:Int) (acc++La (rows.take rows.length) r)=_
  conv=>lhs; unfold Cu
  rw [if_neg (by simp),List.take_length])
 have h':Cu (w,rows) (r:Int) 100000 0 (acc++La [] r)=some (acc++La rows r):=h
 rwa [show La [] r=[] from rfl,List.append_nil] at h'
theorem AFa (w:List (List UInt8)) (rows:List (List Int)) (hr:rows.length<=100) (g:List An) (hg:g.length<=100):Ct g (w,rows) 100000 0 []=some (U0 rows g.length):=by
 exact TG (σ:=List Int) g.length (fun k=>U0 rows k) (some (U0 rows g.length)) (fun f c s=>Ct g (w,rows) f c s) (by omega) (fun k hk f=>by
  show Ct g (w,rows) (f + 1) (k:Int) (U0 rows k)=Ct g (w,rows) f _ (U0 rows (k + 1))
  conv=>lhs; unfold Ct
  have hl:=VQ rows k
  have:k * rows.length<=100 * 100:=Nat.mul_le_mul (by omega) hr
  rw [if_pos (by simp; omega),AFb w rows (by omega) k (by omega) _ (by omega),OS,TH]) (fun f=>by
  show Ct g (w,rows) (f + 1) (g.length:Int) _=_
  conv=>lhs; unfold Ct
  rw [if_neg (by simp)])
/-- One round of the reference: the heads are taken off. -/
theorem AEK (rows:List (List Int)) (hr:rows.length<=1000) (hb:∀ l ∈ rows,l.length<=1000) (acc:List Int) (ha:acc.length<=1000000):Cw 100000 false 0 rows acc=some (!(La rows 0).isEmpty,rows.map List.tail,acc++La rows 0):=by
 have h:=TG (σ:=Bool×List (List Int)×List Int) rows.length (fun k=>(!(La (rows.take k) 0).isEmpty,(rows.take k).map List.tail++rows.drop k,acc++La (rows.take k) 0)) (some (!(La rows 0).isEmpty,rows.map List.tail,acc++La rows 0)) (fun f c s=>Cw f s.1 c s.2.1 s.2.2) (by omega) (fun k hk f=>by
  show Cw (f + 1) (!(La (rows.take k) 0).isEmpty) (k:Int) ((rows.take k).map List.tail++rows.drop k) (acc++La (rows.take k) 0)=Cw f (!(La (rows.take (k + 1)) 0).isEmpty) _ ((rows.take (k + 1)).map List.tail++rows.drop (k + 1)) (acc++La (rows.take (k + 1)) 0)
  conv=>lhs; unfold Cw
  have hl:=Sv (rows.take k) 0
  have hl2:(rows.take k).length=k:=by rw [List.length_take]; omega
  have hbk:=hb rows[k] (List.getElem_mem hk)
  have ed:rows.drop k=rows[k]::rows.drop (k + 1):=List.drop_eq_getElem_cons hk
  have hlm:((rows.take k).map List.tail).length=k:=by rw [List.length_map,hl2]
  have hi:idx ((rows.take k).map List.tail++rows.drop k) (k:Int)=some rows[k]:=by
   rw [ed]
   have:=EM ((rows.take k).map List.tail) rows[k] (rows.drop (k + 1))
   rwa [hlm] at this
  have e:G7 (!(La (rows.take k) 0).isEmpty) (k:Int) ((rows.take k).map List.tail++rows.drop k) (acc++La (rows.take k) 0) rows[k]=some (!(La (rows.take (k + 1)) 0).isEmpty,(rows.take (k + 1)).map List.tail++rows.drop (k + 1),acc++La (rows.take (k + 1)) 0):=by
   unfold G7
   rw [List.take_succ_eq_append_getElem hk,Xx,List.map_append]
   cases hrk:rows[k] with
   | nil =>
    rw [if_neg (by simp)]
    rw [ed,hrk]
    simp [La]
   | cons a s =>
    rw [hrk] at hi hbk
    rw [if_pos (by simp <;> omega),hi,OS,show idx (a::s) 0=some a from rfl,OS,if_pos (Eh (by omega) (by rw [List.length_append]; simp; omega)),OS,if_pos (by unfold KA; simp <;> omega),OS,Int.toNat_natCast,Int.toNat_natCast,List.take_length]
    have e1:((rows.take k).map List.tail++rows.drop k).set k (List.drop (Int.toNat 1) (a::s))=(rows.take k).map List.tail++[List.tail (a::s)]++rows.drop (k + 1):=by
     rw [ed,List.set_append_right _ _ (by omega),hlm,Nat.sub_self,List.set_cons_zero,List.append_assoc]; rfl
    rw [e1]
    simp [La]
  rw [if_pos (by simp; omega),hi,OS,e,OS]) (fun f=>by
  show Cw (f + 1) (!(La (rows.take rows.length) 0).isEmpty) (rows.length:Int) ((rows.take rows.length).map List.tail++rows.drop rows.length) (acc++La (rows.take rows.length) 0)=_
  conv=>lhs; unfold Cw
  rw [List.take_length,List.drop_length,List.append_nil,if_neg (by simp)])
 have h':Cw 100000 false 0 rows (acc++[])=_:=h
 rwa [List.append_nil] at h'
theorem AFX:∀ (m f:Nat) (rows:List (List Int)) (acc:List Int),rows.length<=100->(∀ l ∈ rows,l.length<=m)->m<=100->m + 1 < f->acc.length + m * 100<=100000->B5 f true rows acc=some (acc++U0 rows m):=by
 intro m
 induction m with
 | zero =>
  intro f rows acc hr hb hm hf ha
  obtain ⟨f,rfl⟩:∃ q,f=q + 1:=⟨f - 1,by omega⟩
  obtain ⟨f,rfl⟩:∃ q,f=q + 1:=⟨f - 1,by omega⟩
  have he:La rows 0=[]:=(ABW rows).2 fun l hl=>List.eq_nil_of_length_eq_zero (by have:=hb l hl; omega)
  unfold B5
  rw [if_pos rfl,AEK rows (by omega) (fun l hl=>by have:=hb l hl; omega) acc (by omega),OS,he]
  show B5 (f + 1) false (rows.map List.tail) (acc++[])=_
  unfold B5
  rw [if_neg (by simp)]; rfl
 | succ m ih =>
  intro f rows acc hr hb hm hf ha
  obtain ⟨f,rfl⟩:∃ q,f=q + 1:=⟨f - 1,by omega⟩
  have hl:=Sv rows 0
  unfold B5
  rw [if_pos rfl,AEK rows (by omega) (fun l hl=>by have:=hb l hl; omega) acc (by omega),OS,ZK]
  show B5 f (!(La rows 0).isEmpty) (rows.map List.tail) (acc++La rows 0)=_
  cases hc:La rows 0 with
  | nil =>
   obtain ⟨f,rfl⟩:∃ q,f=q + 1:=⟨f - 1,by omega⟩
   have hn:=(ABW rows).1 hc
   rw [Xy (fun l hl=>by
    obtain ⟨l',h1,rfl⟩:=List.mem_map.1 hl
    rw [hn l' h1]; rfl) m]
   show B5 (f + 1) false (rows.map List.tail) (acc++[])=_
   unfold B5
   rw [if_neg (by simp)]; rfl
  | cons a s =>
   rw [hc] at hl
   show B5 f true (rows.map List.tail) (acc++a::s)=_
   rw [ih f (rows.map List.tail) (acc++a::s) (by simpa using hr) (fun l hl=>by
    obtain ⟨l',h1,rfl⟩:=List.mem_map.1 hl
    have:=hb l' h1
    rw [List.length_tail]; omega) (by omega) (by omega) (by simp only [List.length_append]; omega),List.append_assoc]
section
variable {x0:List Ab}{x1:List (List UInt8)}{x2:Int}{p:Ab->Bool}(hp:∀ v ∈ x0,EL v x1 x2=some (p v)) (hn:x0.length<=1000)
include hp hn
theorem VT:∀ (d j i f:Nat) (c5:List Ab),i<=j->j + d=x0.length->d < f->c5.length=x0.length->c5.take i=(x0.take j).filter (fun v=>!p v)->c5.drop j=x0.drop j->∃ (i':Nat) (c':List Ab),Aw x1 x2 f (i:Int) (j:Int) c5=some ((i':Int),c')/\i'<=i + d/\c'.length=x0.length/\c'.take i'=x0.filter (fun v=>!p v)
 | 0,j,i,f + 1,c5,_,hj,_,hl,ht,_=>by
  refine ⟨i,c5,?_,by omega,hl,?_⟩
  ·unfold Aw
   rw [if_neg (by simp; omega)]
  ·rw [ht,List.take_of_length_le (by omega)]
 | d + 1,j,i,f + 1,c5,hij,hj,hf,hl,ht,hd=>by
  have hjl:j < x0.length:=by omega
  have hv:c5[j]? = x0[j]?:=by
   have:=congrArg (fun l:List Ab=>l[0]?) hd
   simpa using this
  have hc:c5[j]'(by omega)=x0[j]:=by
   rw [List.getElem?_eq_getElem (by omega),List.getElem?_eq_getElem hjl] at hv
   exact OI hv
  have hstep:(x0.take (j + 1)).filter (fun v=>!p v)=(x0.take j).filter (fun v=>!p v)++if p x0[j]=true then [] else [x0[j]]:=by
   rw [List.take_succ_eq_append_getElem hjl,List.filter_append]
   cases h:p x0[j] <;> simp [h]
  have hdr:∀ c:List Ab,c.drop j=x0.drop j->c.drop (j + 1)=x0.drop (j + 1):=fun c h=>by
   have:=congrArg (List.drop 1) h
   simpa [List.drop_drop,Nat.add_comm] using this
  cases hpj:p x0[j] with
  | true =>
   rw [hpj,if_pos rfl,List.append_nil] at hstep
   obtain ⟨i',c',e1,e2,e3,e4⟩:=VT d (j + 1) i f c5 (by omega) (by omega) (by omega) hl (by rw [hstep]; exact ht) (hdr c5 hd)
   refine ⟨i',c',?_,by omega,e3,e4⟩
   unfold Aw
   rw [if_pos (by simp; omega),Ms (by omega),OS,hc,hp _ (List.getElem_mem hjl),OS,hpj]
   show (A4 (i:Int) c5 x0[j] true).bind _=_
   unfold A4
   rw [if_neg (by simp),OS,Xq (by omega) (by omega),show ((j:Int) + 1)=((j + 1:Nat):Int) by omega]
   exact e1
  | false =>
   rw [hpj,if_neg (by simp)] at hstep
   have hil:i < c5.length:=by omega
   obtain ⟨i',c',e1,e2,e3,e4⟩:=VT d (j + 1) (i + 1) f (c5.set i x0[j]) (by omega) (by omega) (by omega) (by simp [hl]) (by
    rw [hstep,<-ht,List.take_succ_eq_append_getElem (by simp; omega),List.take_set_of_le (Nat.le_refl _)]
    simp) (by
    rw [List.drop_set_of_lt (by omega)]
    exact hdr c5 hd)
   refine ⟨i',c',?_,by omega,e3,e4⟩
   unfold Aw
   rw [if_pos (by simp; omega),Ms (by omega),OS,hc,hp _ (List.getElem_mem hjl),OS,hpj]
   show (A4 (i:Int) c5 x0[j] false).bind _=_
   unfold A4
   rw [if_pos (by rfl),Ms hil,OS,OS,Xq (n:=(i:Int) + 1) (by omega) (by omega),Xq (n:=(j:Int) + 1) (by omega) (by omega),show ((j:Int) + 1)=((j + 1:Nat):Int) by omega,show ((i:Int) + 1)=((i + 1:Nat):Int) by omega,Int.toNat_natCast]
   exact e1
theorem ZO:(Ah x0 (x1,x2)=some (-1)/\∀ v ∈ x0,p v=false)\/∃ i:Nat,Ah x0 (x1,x2)=some (i:Int)/\i < x0.length/\(x0.take (i + 1)).filter (fun v=>!p v)=x0.take i:=by
 have go:∀ (r pre:List Ab) (f:Nat),x0=pre++r->r.length < f->(∀ v ∈ pre,p v=false)->(AN x0 (x1,x2) f (pre.length:Int)=some (.inl ())/\∀ v ∈ x0,p v=false)\/∃ i:Nat,AN x0 (x1,x2) f (pre.length:Int)=some (.inr (i:Int))/\i < x0.length/\(x0.take (i + 1)).filter (fun v=>!p v)=x0.take i:=by
  intro r
  induction r with
  | nil =>
   intro pre f e hf hk
   obtain ⟨f,rfl⟩:∃ q,f=q + 1:=⟨f - 1,by simp at hf; omega⟩
   refine .inl ⟨?_,fun v hv=>hk v (by rw [e] at hv; simpa using hv)⟩
   unfold AN
   rw [if_neg (by rw [e]; simp)]
  | cons v r ih =>
   intro pre f e hf hk
   obtain ⟨f,rfl⟩:∃ q,f=q + 1:=⟨f - 1,by simp at hf; omega⟩
   simp only [List.length_cons] at hf
   have hl:x0.length=pre.length + r.length + 1:=by rw [e]; simp; omega
   have hv:=hp v (by rw [e]; simp)
   have hstep:AN x0 (x1,x2) (f + 1) (pre.length:Int)=if p v=true then some (.inr (pre.length:Int)) else AN x0 (x1,x2) f ((pre++[v]).length:Int):=by
    conv=>lhs; unfold AN
    rw [if_pos (by rw [e]; exact Iu pre v r),show idx x0 (pre.length:Int)=some v by rw [e,EM],OS,hv,OS,Gt pre v r (by rw [<-e]; omega)]
   rw [hstep]
   cases hpv:p v with
   | true =>
    refine .inr ⟨pre.length,by rw [if_pos rfl],by omega,?_⟩
    have e1:x0.take (pre.length + 1)=pre++[v]:=by
     rw [e,show pre++v::r=(pre++[v])++r by simp]
     exact List.take_left' (by simp)
    have e2:x0.take pre.length=pre:=by rw [e]; exact List.take_left' rfl
    rw [e1,e2,List.filter_append,List.filter_eq_self.2 (fun w hw=>by simp [hk w hw])]
    simp [hpv]
   | false =>
    rw [if_neg (by simp)]
    exact ih (pre++[v]) f (by rw [e]; simp) (by omega) fun w hw=>by
     rcases List.mem_append.1 hw with h | h
     ·exact hk w h
     ·rw [List.mem_singleton.1 h]; exact hpv
 unfold Ah
 rcases go x0 [] 100000 rfl (by omega) (fun v hv=>by cases hv) with ⟨h,k⟩ | ⟨i,h,k⟩
 ·have h':AN x0 (x1,x2) 100000 0=some (.inl ()):=h
  exact .inl ⟨by rw [h']; rfl,k⟩
 ·have h':AN x0 (x1,x2) 100000 0=some (.inr (i:Int)):=h
  exact .inr ⟨i,by rw [h']; rfl,k⟩
theorem AE9:Bu x0 x1 x2=some (x1,x2,x0.filter fun v=>!p v):=by
 unfold Bu
 rcases ZO hp hn with ⟨h,k⟩ | ⟨i,h,k1,k2⟩
 ·rw [h,OS,if_pos (by rfl),List.filter_eq_self.2 (fun v hv=>by simp [k v hv])]
 ·obtain ⟨i',c',e1,e2,e3,e4⟩:=VT hp hn (x0.length - (i + 1)) (i + 1) i 100000 x0 (by omega) (by omega) (by omega) rfl k2.symm rfl
  rw [h,OS,if_neg (by simp <;> omega),Xq (by omega) (by omega),show ((i:Int) + 1)=((i + 1:Nat):Int) by omega,e1,OS]
  have hi':i' < c'.length:=by omega
  show (if (ADC (i':Int) c'.length)=true then _ else none)=_
  rw [if_pos (by unfold ADC; simp <;> omega),Int.toNat_natCast,if_pos (by unfold ADh; simp <;> omega),List.take_append_of_le_length (by simp; omega),List.take_take,Nat.min_self,e4]
end
theorem AAb (l:List (List AF)) (h:∀ c ∈ l,few c) (hn:l.length<=99999):Hx l=some l:=by
 unfold Hx
 have:EG l 100000 [] 0=some l:=AEP l hn (fun f s c=>EG l f s c) (fun pre v r e f=>by
  have hl:l.length=pre.length + r.length + 1:=by rw [e]; simp; omega
  show EG l (f + 1) pre (pre.length:Int)=_
  conv=>lhs; unfold EG
  rw [if_pos (by rw [e]; exact Iu pre v r),show idx l (pre.length:Int)=some v by rw [e,EM],OS,AB8 v (h v (by rw [e]; simp)),OS,if_pos (Eh (by omega) (by omega))]) (fun f=>by
  show EG l (f + 1) l (l.length:Int)=_
  conv=>lhs; unfold EG
  rw [if_neg (by simp)])
 rw [this]; rfl
theorem ABA (l:List (List AF)) (h:∀ c ∈ l,few c) (hn:l.length<=99999):Hy l l=some true:=by
 unfold Hy Ai
 have:AO l l 100000 0=some (.inl ()):=TG (σ:=Unit) l.length (fun _=>()) (some (.inl ())) (fun f c _=>AO l l f c) hn (fun i hi f=>by
  show AO l l (f + 1) (i:Int)=_
  conv=>lhs; unfold AO
  rw [if_pos (by simp; omega),Ms hi,OS,OS,ACz _ _ (h _ (List.getElem_mem hi)),OS,if_neg (by simp)]) (fun f=>by
  show AO l l (f + 1) (l.length:Int)=_
  conv=>lhs; unfold AO
  rw [if_neg (by simp)])
 rw [this,if_neg (by simp)]; rfl
theorem ACG (l:List (List AF)) (n:Int) (hn:n<=99999):∃ b,IZ l n=some b/\(b=true->(l.length:Int)<=n/\∀ c ∈ l,few c):=by
 have hB:∀ c:List AF,∃ b,FQ c=some b/\(b=false↔few c):=fun c=>by
  obtain ⟨b,h1,h2⟩:=ADn c
  refine ⟨!b,by unfold FQ; rw [h1]; rfl,?_⟩
  rw [<-h2]; cases b <;> simp
 unfold IZ
 by_cases h:(l.length:Int)<=n
 ·rw [if_pos (by simpa using h)]
  unfold Az A5
  obtain ⟨k,h1,h2⟩:=Pu l (by omega) FQ (fun c=>(FQ c).getD false) (fun c _=>by
   obtain ⟨b,h1,_⟩:=hB c
   rw [h1]; rfl) (BM l) (fun f c=>rfl)
  have e:=congrArg (fun o:Option Int=>o.bind fun v1=>some (decide (v1≥0))) h1
  refine ⟨!decide (k≥0),?_,fun hb=>⟨h,fun c hc=>?_⟩⟩
  ·have:=congrArg (fun o:Option Bool=>(o.bind fun v1=>some (!v1)).bind fun j3=>some j3) e
   exact this
  ·have hk:decide (k≥0)=false:=by simpa using hb
   rw [hk] at h2
   have:=(List.any_eq_false.1 h2.symm) c hc
   obtain ⟨b,q1,q2⟩:=hB c
   rw [q1] at this
   exact q2.1 (by simpa using this)
 ·rw [if_neg (by simpa using h)]
  exact ⟨false,rfl,fun h=>by cases h⟩
theorem ACd (g:List An) (h:g.length<=99999):KT g=some (IE g 0):=by
 unfold KT
 have:ET g 100000 0 []=some (IE g 0):=by
  have:=TG (σ:=List Ab) g.length (fun i=>IE (g.take i) 0) (some (IE g 0)) (fun f c s=>ET g f c s) h (fun i hi f=>by
   show ET g (f + 1) (i:Int) (IE (g.take i) 0)=_
   conv=>lhs; unfold ET
   rw [if_pos (by simp; omega),Ms hi,OS,if_pos (Eh (by omega) (by rw [Rm]; simp; omega))]
   have e:IE (g.take (i + 1)) 0=IE (g.take i) 0++[(g[i],(i:Int))]:=by
    rw [List.take_succ_eq_append_getElem hi,Te]; simp; omega
   rw [e]) (fun f=>by
   show ET g (f + 1) (g.length:Int) (IE (g.take g.length) 0)=_
   conv=>lhs; unfold ET
   rw [if_neg (by simp),List.take_length])
  exact this
 rw [this]; rfl
theorem AB3 (xs:List (List UInt8)) (h:xs.length<=1000000):DC xs=some xs:=by
 unfold DC
 rw [if_pos (Eh (by omega) (by omega))]
/-- Is a guest of a court? -/
def ofC (s:List UInt8) (v:Ab):Bool:=v.1.2.2.1==s
theorem AFU (w:List (List UInt8)) (g:List An) (hn:g.length<=1000) (k:Nat) (hk:k < w.length):Df w g (k:Int) 100000 0 []=some (toG ((List.range g.length).filter fun x=>ofC w[k] (sd g x))):=by
 have h:=TG (σ:=List Int) g.length (fun i=>toG ((List.range i).filter fun x=>ofC w[k] (sd g x))) (some (toG ((List.range g.length).filter fun x=>ofC w[k] (sd g x)))) (fun f c s=>Df w g (k:Int) f c s) (by omega) (fun i hi f=>by
  show Df w g (k:Int) (f + 1) (i:Int) (toG ((List.range i).filter fun x=>ofC w[k] (sd g x)))=_
  conv=>lhs; unfold Df
  have hl:((List.range i).filter fun x=>ofC w[k] (sd g x)).length<=i:=by
   have:=List.length_filter_le (fun x=>ofC w[k] (sd g x)) (List.range i)
   simpa using this
  have e:G6 (i:Int) (toG ((List.range i).filter fun x=>ofC w[k] (sd g x))) (gAt g i) w[k]=some (toG ((List.range (i + 1)).filter fun x=>ofC w[k] (sd g x))):=by
   unfold G6
   rw [List.range_succ,List.filter_append,QT]
   by_cases hb:ofC w[k] (sd g i)=true
   ·have hb':((gAt g i).2.2.1==w[k])=true:=hb
    rw [if_pos hb',if_pos (Eh (by omega) (by rw [HM]; simp; omega))]
    simp [hb,toG,pI]
   ·have hb':¬ ((gAt g i).2.2.1==w[k])=true:=hb
    rw [if_neg hb']
    simp [hb,toG]
  rw [if_pos (by simp; omega),Zc g hi,OS,Ms hk,OS,e,OS]) (fun f=>by
  show Df w g (k:Int) (f + 1) (g.length:Int) _=_
  conv=>lhs; unfold Df
  rw [if_neg (by simp)])
 exact h
section
variable {l:List (List AF)}{w:List (List UInt8)}{g:List An}(hl:∀ c ∈ l,few c) (hlw:l.length=w.length) (h16:l.length<=16) (hw:∀ s ∈ w,s.length<=40) (hg:FewR g) (hn:g.length<=20)
include hl hlw h16 hw hg hn
theorem ABQ:∀ (r pre:List (List AF)) (f:Nat) (rows:List (List Int)),l=pre++r->r.length < f->rows.length=pre.length->(∀ x ∈ rows,x.length<=g.length) ->
  (∃ R,court_Alternate_l1 l g f (pre.length:Int) w rows=some (.inl (w,R))/\ref03_Alternate_l1 l w g f (pre.length:Int) rows=some (.inl R)/\R.length<=16/\∀ x ∈ R,x.length<=g.length)\/∃ e,court_Alternate_l1 l g f (pre.length:Int) w rows=some (.inr e)/\ref03_Alternate_l1 l w g f (pre.length:Int) rows=some (.inr e)
 | [],pre,f + 1,rows,e,_,hr,hx=>by
  refine .inl ⟨rows,?_,?_,?_,hx⟩
  ·unfold court_Alternate_l1
   rw [if_neg (by rw [e]; simp)]
  ·unfold ref03_Alternate_l1
   rw [if_neg (by rw [e]; simp)]
  ·have:l.length=pre.length:=by rw [e]; simp
   omega
 | c::r,pre,f + 1,rows,e,hf,hr,hx=>by
  simp only [List.length_cons] at hf
  have hll:l.length=pre.length + r.length + 1:=by rw [e]; simp; omega
  have hkw:pre.length < w.length:=by omega
  have hcf:few c:=hl c (by rw [e]; simp)
  have hic:idx l (pre.length:Int)=some c:=by rw [e,EM]
  have hiw:idx w (pre.length:Int)=some w[pre.length]:=Ms hkw
  have hwl:=hw _ (List.getElem_mem hkw)
  have hlt:(decide ((pre.length:Int) < (l.length:Int)))=true:=by rw [e]; exact Iu pre c r
  have hcut:KA 0 (pre.length:Int) w.length=true:=by unfold KA; simp; omega
  have htl:((w.take (pre.length:Int).toNat).drop (0:Int).toNat).length<=99999:=by rw [List.length_drop,List.length_take]; omega
  have ec:∀ (nm:Bool),(if (!(w[pre.length]==[]))=true then some nm else some false)=some ((!(w[pre.length]==[]))&&nm):=fun nm=>by cases (!(w[pre.length]==[])) <;> rfl
  conv=>rhs; rhs; intro e; lhs; lhs; unfold court_Alternate_l1
  conv=>rhs; rhs; intro e; rhs; lhs; unfold ref03_Alternate_l1
  conv=>lhs; rhs; intro R; lhs; lhs; unfold court_Alternate_l1
  conv=>lhs; rhs; intro R; rhs; lhs; lhs; unfold ref03_Alternate_l1
  simp only [if_pos hlt,hic,hiw,OS,XY _ (show w[pre.length].length<=99999 by omega),Va _ (show w[pre.length].length<=99999 by omega),ec,if_pos hcut,I5 _ _ htl,U1 _ _ htl,ZF c hcf,AB2 c hcf]
  by_cases h1:((!(w[pre.length]==[]))&&!Hf w[pre.length])=true
  ·simp only [if_pos h1]
   exact .inr ⟨4,rfl,rfl⟩
  simp only [if_neg h1]
  by_cases h2:JM ((w.take (pre.length:Int).toNat).drop (0:Int).toNat) w[pre.length]=true
  ·simp only [if_pos h2]
   exact .inr ⟨5,rfl,rfl⟩
  simp only [if_neg h2]
  by_cases h3:(SJ c).2=0
  ·have h3':¬ (((SJ c).2 != 0)=true):=by simpa using h3
   have hp:∀ v ∈ IE g 0,EL v w (pre.length:Int)=some (!ofC w[pre.length] v):=fun v _=>by
    unfold EL
    rw [hiw]; rfl
   have hd:=AE9 hp (by rw [Rm]; omega)
   have ef:(IE g 0).filter (fun v=>!(!ofC w[pre.length] v))=(IE g 0).filter (ofC w[pre.length]):=by
    congr 1
    funext v
    rw [Bool.not_not]
   rw [ef] at hd
   obtain ⟨G,P,q1,q2,q3,q4,q5⟩:=AA9 hcf h3 hg hn (ofC w[pre.length])
   simp only [if_neg h3',AA0 c hcf,if_pos h3,OS,ACd g (show g.length<=99999 by omega),hd,q1,q2,AFU w g (by omega) pre.length hkw,q3,q4]
   by_cases h4:(P.2 != 0)=true
   ·simp only [if_pos h4]
    exact .inr ⟨P.2,rfl,rfl⟩
   ·have hcap:EK 24 (rows.length + ([P.1]:List (List Int)).length)=true:=Eh (by omega) (by simp; omega)
    simp only [if_neg h4,if_pos hcap]
    rw [Gt pre c r (by rw [<-e]; omega)]
    exact ABQ r (pre++[c]) f (rows++[P.1]) (by rw [e]; simp) (by omega) (by simp [hr]) fun x hx'=>by
     rcases List.mem_append.1 hx' with h | h
     ·exact hx x h
     ·rw [List.mem_singleton.1 h]; exact q5
  ·have h3':((SJ c).2 != 0)=true:=by simpa using h3
   simp only [if_pos h3']
   exact .inr ⟨(SJ c).2,rfl,rfl⟩
omit hl hlw h16 hw hg in
theorem AEI (R:List (List Int)) (hwl:w.length<=1000) (acc:List Int) (ha:acc.length<=100000):Cv g (w,R) 100000 0 acc=some (acc++toG ((List.range g.length).filter fun x=>!JM w (gAt g x).2.2.1)):=by
 have h:=TG (σ:=List Int) g.length (fun i=>acc++toG ((List.range i).filter fun x=>!JM w (gAt g x).2.2.1)) (some (acc++toG ((List.range g.length).filter fun x=>!JM w (gAt g x).2.2.1))) (fun f c s=>Cv g (w,R) f c s) (by omega) (fun i hi f=>by
  show Cv g (w,R) (f + 1) (i:Int) (acc++toG ((List.range i).filter fun x=>!JM w (gAt g x).2.2.1))=_
  conv=>lhs; unfold Cv
  have hl:((List.range i).filter fun x=>!JM w (gAt g x).2.2.1).length<=i:=by
   have:=List.length_filter_le (fun x=>!JM w (gAt g x).2.2.1) (List.range i)
   simpa using this
  have e:Gy (i:Int) (acc++toG ((List.range i).filter fun x=>!JM w (gAt g x).2.2.1)) (JM w (gAt g i).2.2.1)=some (acc++toG ((List.range (i + 1)).filter fun x=>!JM w (gAt g x).2.2.1)):=by
   unfold Gy
   rw [List.range_succ,List.filter_append,QT]
   by_cases hb:(!JM w (gAt g i).2.2.1)=true
   ·rw [if_pos hb,if_pos (Eh (by omega) (by simp only [List.length_append,HM]; simp; omega))]
    simp [hb,toG,pI]
   ·rw [if_neg hb]
    simp [hb,toG]
  rw [if_pos (by simp; omega),Zc g hi,OS,I5 _ _ (show w.length<=99999 by omega),OS,e,OS]) (fun f=>by
  show Cv g (w,R) (f + 1) (g.length:Int) _=_
  conv=>lhs; unfold Cv
  rw [if_neg (by simp)])
 have h':Cv g (w,R) 100000 0 (acc++[])=_:=h
 rwa [List.append_nil] at h'
omit hl hlw h16 hw hg in
theorem AEJ (hwl:w.length<=1000) (acc:List Int) (ha:acc.length<=100000):Cy w g 100000 0 acc=some (acc++toG ((List.range g.length).filter fun x=>!JM w (gAt g x).2.2.1)):=by
 have h:=TG (σ:=List Int) g.length (fun i=>acc++toG ((List.range i).filter fun x=>!JM w (gAt g x).2.2.1)) (some (acc++toG ((List.range g.length).filter fun x=>!JM w (gAt g x).2.2.1))) (fun f c s=>Cy w g f c s) (by omega) (fun i hi f=>by
  show Cy w g (f + 1) (i:Int) (acc++toG ((List.range i).filter fun x=>!JM w (gAt g x).2.2.1))=_
  conv=>lhs; unfold Cy
  have hl:((List.range i).filter fun x=>!JM w (gAt g x).2.2.1).length<=i:=by
   have:=List.length_filter_le (fun x=>!JM w (gAt g x).2.2.1) (List.range i)
   simpa using this
  have e:G8 (i:Int) (acc++toG ((List.range i).filter fun x=>!JM w (gAt g x).2.2.1)) (JM w (gAt g i).2.2.1)=some (acc++toG ((List.range (i + 1)).filter fun x=>!JM w (gAt g x).2.2.1)):=by
   unfold G8
   rw [List.range_succ,List.filter_append,QT]
   by_cases hb:(!JM w (gAt g i).2.2.1)=true
   ·rw [if_pos hb,if_pos (Eh (by omega) (by simp only [List.length_append,HM]; simp; omega))]
    simp [hb,toG,pI]
   ·rw [if_neg hb]
    simp [hb,toG]
  rw [if_pos (by simp; omega),Zc g hi,OS,U1 _ _ (by omega),OS,e,OS]) (fun f=>by
  show Cy w g (f + 1) (g.length:Int) _=_
  conv=>lhs; unfold Cy
  rw [if_neg (by simp)])
 have h':Cy w g 100000 0 (acc++[])=_:=h
 rwa [List.append_nil] at h'
end
theorem AAO {l:List (List AF)}{w:List (List UInt8)}{g:List An}(hl:∀ c ∈ l,few c) (hw:∀ s ∈ w,s.length<=40) (hg:(FewR g/\g.length<=20)\/64 < g.length):∃ P:List Int×Int,GX l w g=some P/\Gc l w g=some P/\P.1.length<=99999:=by
 unfold GX Gc
 by_cases h0:l.length<=16/\g.length<=64
 ·obtain ⟨h16,h64⟩:=h0
  obtain ⟨hR,hn⟩:FewR g/\g.length<=20:=by rcases hg with h | h; exact h; omega
  have j:(if (decide ((l.length:Int) > 16))=true then some true else some (decide ((g.length:Int) > 64)))=some false:=by
   rw [if_neg (by simp; omega)]; simp; omega
  rw [j]
  simp only [OS,Bool.false_eq_true,if_false]
  by_cases hlw:l.length=w.length
  ·rw [if_neg (by simp; omega),if_neg (by simp; omega)]
   rcases ABQ hl hlw h16 hw hR hn l [] 100000 [] rfl (by omega) rfl (fun x hx=>by cases hx) with ⟨R,r1,r2,r3,r4⟩ | ⟨e,r1,r2⟩
   ·have r1':court_Alternate_l1 l g 100000 0 w []=some (.inl (w,R)):=r1
    have r2':ref03_Alternate_l1 l w g 100000 0 []=some (.inl R):=r2
    have hc:=VQ R g.length
    have hcm:g.length * R.length<=20 * 16:=Nat.mul_le_mul hn r3
    have e4:B5 100000 true R []=some (U0 R g.length):=by
     have:=AFX g.length 100000 R [] (by omega) r4 (by omega) (by omega) (by simp; omega)
     rwa [List.nil_append] at this
    have e2:=AFa w R (by omega) g (by omega)
    have k1:=AEI (w:=w) hn R (by omega) (U0 R g.length) (by omega)
    have k2:=AEJ (w:=w) hn (by omega) (U0 R g.length) (by omega)
    rw [r1',r2',OS,OS]
    refine ⟨(U0 R g.length++toG ((List.range g.length).filter fun x=>!JM w (gAt g x).2.2.1),0),?_,?_,?_⟩
    ·show ((Ct g (w,R) 100000 0 []).bind fun r154=>(Cv g (w,R) 100000 0 r154).bind fun r195=>some (r195,0))=_
     rw [e2,OS,k1]; rfl
    ·show ((B5 100000 true R []).bind fun r154=>(Cy w g 100000 0 r154).bind fun r183=>some (r183,0))=_
     rw [e4,OS,k2]; rfl
    ·show (U0 R g.length++toG _).length<=_
     have:=List.length_filter_le (fun x=>!JM w (gAt g x).2.2.1) (List.range g.length)
     rw [List.length_range] at this
     rw [List.length_append,HM]
     omega
   ·have r1':court_Alternate_l1 l g 100000 0 w []=some (.inr e):=r1
    have r2':ref03_Alternate_l1 l w g 100000 0 []=some (.inr e):=r2
    rw [r1',r2']
    exact ⟨([],e),rfl,rfl,Nat.zero_le _⟩
  ·rw [if_pos (by simp; omega),if_pos (by simp; omega)]
   exact ⟨_,rfl,rfl,Nat.zero_le _⟩
 ·have j:(if (decide ((l.length:Int) > 16))=true then some true else some (decide ((g.length:Int) > 64)))=some true:=by
   by_cases h:l.length<=16
   ·rw [if_neg (by simp; omega)]; simp; omega
   ·rw [if_pos (by simp; omega)]
  rw [j,OS,OS,if_pos rfl,if_pos rfl]
  exact ⟨_,rfl,rfl,Nat.zero_le _⟩
theorem VF {l:List (List AF)}{w:List (List UInt8)}{g:List An}(hl:∀ c ∈ l,few c) (h20:l.length<=20) (hwn:w.length<=20) (hw:∀ s ∈ w,s.length<=40) (hg:(FewR g/\g.length<=20)\/64 < g.length) (h70:g.length<=70) (hT:∀ x ∈ g,x.2.2.2.2.2.2.2.2.length<=8796093022208):Ib l w g=some true:=by
 obtain ⟨P,p1,p2,p3⟩:=AAO hl hw hg
 unfold Ib
 rw [AAb l hl (by omega),OS,AB3 w (by omega),OS,AB7 g (by omega) hT,OS,p1,OS,p2,OS,ACD _ _ p3,decide_eq_true rfl,OS,if_pos rfl,if_pos (by simp),ABA l hl (by omega),OS,if_pos rfl,ZP w w (by omega),decide_eq_true rfl,OS,if_pos rfl,ACy g (by omega) hT]; rfl
theorem AD8 (w:List (List UInt8)) (h:w.length<=99999):Ay w=some (w.any fun s=>decide ((s.length:Int) > 40)):=by
 unfold Ay BK
 obtain ⟨n,h1,h2⟩:=Pu w h Fn (fun s=>decide ((s.length:Int) > 40)) (fun x _=>rfl) (BV w) (fun f c=>rfl)
 rw [<-h2]
 exact (congrArg (fun o=>o.bind fun v1=>some (decide (v1≥0))) h1)
theorem AAA (l:List (List AF)) (w:List (List UInt8)) (g:List An) (hT:∀ x ∈ g,x.2.2.2.2.2.2.2.2.length<=8796093022208):F0 l w g=some true:=by
 obtain ⟨b,h1,h2⟩:=ACG l 20 (by omega)
 unfold F0
 rw [h1,OS]
 cases b with
 | false=>rfl
 | true =>
  obtain ⟨hn,hl⟩:=h2 rfl
  rw [if_neg (by simp)]
  by_cases hwn:w.length<=20
  ·rw [if_neg (by simp; omega),AD8 w (by omega),OS]
   cases hb:(w.any fun s=>decide ((s.length:Int) > 40)) with
   | true=>rfl
   | false =>
    have hw:∀ s ∈ w,s.length<=40:=fun s hs=>by
     have:=List.any_eq_false.1 hb s hs
     rw [decide_eq_true_eq] at this
     omega
    rw [if_neg (by simp)]
    by_cases h64:g.length<=64
    ·rw [if_pos (by simp; omega),AAh g 20 (by omega),OS]
     cases hq:(decide ((g.length:Int)<=20)&&!g.any Wf) with
     | false=>rfl
     | true =>
      simp only [Bool.and_eq_true,decide_eq_true_eq,Bool.not_eq_true'] at hq
      have hg:FewR g:=⟨by omega,fun x hx=>AAu (by
       have:=List.any_eq_false.1 hq.2 x hx
       simpa using this)⟩
      rw [if_neg (by simp),if_neg (by simp; omega),VF hl (by omega) hwn hw (.inl ⟨hg,by omega⟩) (by omega) hT]; rfl
    ·rw [if_neg (by simp; omega)]
     by_cases h70:g.length<=70
     ·rw [if_neg (by simp; omega),VF hl (by omega) hwn hw (.inr (by omega)) h70 hT]; rfl
     ·rw [if_pos (by simp; omega)]; rfl
  ·rw [if_pos (by simp; omega)]; rfl
end Go.Proofs.YtlalcoehgkmhlaaGreatDoor
namespace Go.Proofs.YtlalcoehgkmhlaaGreatDoor
open Go.Deep Go.RowKit
theorem Na {α:Type}{P:Program}{c:Cd α}{t e:TypeId}{good:α->Prop}{k:Nat}(ht:P.underlying t=some (.slice e)) (hct:P.cellsOf t=1) (hk:P.cellsOf e=k) (hk0:Nat.blt 0 k=true) (hb:Nat.blt 0 (P.bytesOf e)=true) (r:Rc P c e good):Rc P (cdL k c) t (fun xs=>(xs.length<=140737488355328/\xs.length * P.bytesOf e<=140737488355328)/\∀ a ∈ xs,good a):=⟨fun _=>rfl,fun _=>hct.symm,fun {H enc w base spare held fuel v x} h hw=>by
 rcases open_slice ht h with ⟨rfl,_⟩ | ⟨a,len,cap,m,n,D,Pl,rfl,h2,h3,h4,h5,hx,h6⟩
 ·exact ⟨[],.cons (.sl (us:=[]) rfl rfl (Nat.le_refl _) (by unfold maxLen; omega) (fun h=>by omega) (fun i x u hx=>by simp at hx)) .nil,rfl,by simp,fun a ha=>by cases ha⟩
 ·have hlm:len<=m:=by rw [h5]; split <;> omega
  rw [hx] at hw
  simp only [DataW.weights,ht,List.all_cons,List.all_append,Bool.and_eq_true,decide_eq_true_eq] at hw
  obtain ⟨hw1,hw2,_⟩:=hw
  have hb':0 < P.bytesOf e:=Nat.le_of_ble_eq_true hb
  have hk':0 < k:=Nat.le_of_ble_eq_true hk0
  have hlen:len<=140737488355328:=by
   have h7:(((List.range len).map D).length + ((List.range (m - len)).map fun j=>D (len + j)).length) * 1<=(((List.range len).map D).length + ((List.range (m - len)).map fun j=>D (len + j)).length) * P.bytesOf e:=Nat.mul_le_mul_left _ hb'
   have h8:reachBytes=140737488351232:=rfl
   simp only [List.length_map,List.length_range,Nat.mul_one] at h7 hw1
   omega
  have hlb:len * P.bytesOf e<=140737488355328:=by
   have h7:len * P.bytesOf e<=(len + (m - len)) * P.bytesOf e:=Nat.mul_le_mul_right _ (by omega)
   have h8:reachBytes=140737488351232:=rfl
   simp only [List.length_map,List.length_range] at hw1
   omega
  have hwi:∀ i,i < len->(DataW.weights P e (D i)).all (·<=reachBytes)=true:=fun i hi=>by
   rw [List.all_eq_true] at hw2 ⊢
   exact fun n hn=>hw2 n (T7 (List.mem_map.2 ⟨i,by simpa using hi,rfl⟩) n hn)
  obtain ⟨A,hAl,hA⟩:=Zh (n:=len) (p:=fun i (q:α×Value)=>VR w (fun c=>c < w.heap.size) [] (c.enc q.1) q.2/\good q.1/\q.2.cells.size=k/\(∀ z ∈ q.2.cells,z.oneCell'=true)/\∀ (j:Nat) (z:Value),q.2.cells[j]? = some z->w.cell? (a.add (i * k + j))=some z) (fun i hi=>by
   obtain ⟨cs',k1,k2⟩:=h6 i (by omega)
   obtain ⟨_,hl2,hcell⟩:=World.cells?_some k1
   obtain ⟨b,q1,q2,q3⟩:=r.rd k2 (hwi i hi)
   obtain ⟨u,u1,u2,_⟩:=q1.elm q2
   rw [r.el] at u1
   refine ⟨(b,u),u1,q3,?_,fun z hz=>?_,fun j z hz=>?_⟩
   ·rw [u2]; simp [hl2,hk]
   ·rw [u2] at hz
    exact List.all_eq_true.1 q2 z (by simpa using hz)
   ·rw [u2] at hz
    simp only [List.getElem?_toArray] at hz
    have hj:j < P.cellsOf e:=by have:=(List.getElem?_eq_some_iff.1 hz).1; omega
    have:=hcell j hj
    rw [Go.Deep.add_add,hk,hz] at this
    exact this)
  refine ⟨A.map (·.1),.cons ?_ .nil,rfl,⟨by simp [hAl,hlen],by simpa [hAl] using hlb⟩,fun q hq=>?_⟩
  ·refine .sl (us:=A.map (·.2)) (by simp [hAl]) (by simp) h3 h4 (fun h0=>?_) (fun i x u hx hu=>?_)
   ·obtain ⟨g1,g2,g3,g4,g5⟩:=hA 0 (A[0]'(by omega)) (List.getElem?_eq_getElem (by omega))
    have g6:=g5 0 _ (Array.getElem?_eq_getElem (by omega))
    have hs:=Z6 (by simpa using g6)
    refine ⟨a,rfl,hs,?_,fun i u hu=>?_⟩
    ·have:=g6
     unfold World.cell? at this
     split at this
     ·next hb=>have:=(Array.getElem?_eq_some_iff.1 hb).1; rw [show (a.add (0 * k + 0)).block=a.block by unfold Addr.add; split <;> rfl] at this; exact this
     ·cases this
    ·rw [List.getElem?_map] at hu
     obtain ⟨p,hp,rfl⟩:=Option.map_eq_some_iff.1 hu
     obtain ⟨_,_,q1,q2,q3⟩:=hA i p hp
     refine ⟨q1,q2,fun j z hz=>?_⟩
     have:=q3 j z hz
     obtain ⟨ab,ao,asp⟩:=a
     simp only at hs
     subst hs
     rw [Hm] at this
     exact this
   ·rw [List.getElem?_map,List.getElem?_map] at hx
    rw [List.getElem?_map] at hu
    obtain ⟨p,hp,rfl⟩:=Option.map_eq_some_iff.1 hx
    obtain ⟨p1,hp1,rfl⟩:=Option.map_eq_some_iff.1 hp
    obtain ⟨p2,hp2,rfl⟩:=Option.map_eq_some_iff.1 hu
    rw [hp1] at hp2
    injection hp2 with hp2
    subst hp2
    exact (hA i p1 hp1).1
  ·obtain ⟨i,hi⟩:=List.getElem?_of_mem hq
   rw [List.getElem?_map] at hi
   obtain ⟨p,hp,rfl⟩:=Option.map_eq_some_iff.1 hi
   exact (hA i p hp).2.1⟩
end Go.Proofs.YtlalcoehgkmhlaaGreatDoor
