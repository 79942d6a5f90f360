/- Lemmas for the proof. -/
import Derived.Test.YtlalcoehgkmhlaaGreatDoorCourtCompromisesM1
import Derived.Test.YtlalcoehgkmhlaaGreatDoorCourtCompromisesM2
import Derived.Test.YtlalcoehgkmhlaaGreatDoorCourtCompromisesM3
import Derived.Test.YtlalcoehgkmhlaaGreatDoorCourtCompromisesM4
import Derived.Test.YtlalcoehgkmhlaaGreatDoorCourtCompromisesM5
import Derived.Test.YtlalcoehgkmhlaaGreatDoorCourtCompromisesM6
import Derived.Test.YtlalcoehgkmhlaaGreatDoorCourtCompromisesM7
import Derived.Test.YtlalcoehgkmhlaaGreatDoorCourtCompromisesM8
import Derived.Test.YtlalcoehgkmhlaaGreatDoorCourtCompromisesM9
namespace Go.Proofs.YtlalcoehgkmhlaaGreatDoor
open Go.RowKit
/-- Two numbers with their orders: the first one, unless the second one is less. -/
def mrg:Option (Int×List Int)->Option (Int×List Int)->Option (Int×List Int)
 | none,b=>b
 | a,none=>a
 | some a,some b=>some (if b.1 < a.1 then b else a)
theorem mrg_none (a:Option (Int×List Int)):mrg a none=a:=by cases a <;> rfl
theorem W3 (a:Option (Int×List Int)):mrg none a=a:=rfl
theorem VN (a b c:Option (Int×List Int)):mrg (mrg a b) c=mrg a (mrg b c):=by
 cases a with
 | none=>rfl
 | some a =>
  cases b with
  | none=>rfl
  | some b =>
   cases c with
   | none=>rw [mrg_none,mrg_none]
   | some c =>
    simp only [mrg]
    by_cases h1:b.1 < a.1
    ·rw [if_pos h1]
     by_cases h2:c.1 < b.1
     ·rw [if_pos h2,if_pos (by omega)]
     ·rw [if_neg h2,if_pos h1]
    ·rw [if_neg h1]
     by_cases h2:c.1 < b.1
     ·rw [if_pos h2]
     ·rw [if_neg h2,if_neg h1,if_neg (by omega)]
def Ws (l:List (Int×List Int)):Option (Int×List Int):=l.foldl (fun s q=>mrg s (some q)) none
theorem YQ (l:List (Int×List Int)):∀ s,l.foldl (fun s q=>mrg s (some q)) s=mrg s (Ws l):=by
 induction l with
 | nil=>intro s; exact (mrg_none s).symm
 | cons q l ih =>
  intro s
  unfold Ws
  rw [List.foldl_cons,List.foldl_cons,ih,ih (mrg none (some q)),W3,VN]
theorem Zc (a b:List (Int×List Int)):Ws (a++b)=mrg (Ws a) (Ws b):=by
 unfold Ws
 rw [List.foldl_append,YQ]; rfl
theorem VC {α:Type}(f:α->List (Int×List Int)):∀ (l:List α) (s:Option (Int×List Int)),mrg s (Ws (l.flatMap f))=l.foldl (fun s x=>mrg s (Ws (f x))) s
 | [],s=>mrg_none s
 | x::l,s=>by rw [List.flatMap_cons,Zc,<-VN,List.foldl_cons,VC f l]
/-- All numbers grow by the same, all orders get the same head. -/
def shf (k x:Int) (q:Int×List Int):Int×List Int:=(q.1 + k,x::q.2)
theorem ABt (k x:Int) (a b:Option (Int×List Int)):mrg (a.map (shf k x)) (b.map (shf k x))=(mrg a b).map (shf k x):=by
 cases a with
 | none=>rfl
 | some a =>
  cases b with
  | none=>rfl
  | some b =>
   simp only [Option.map_some,mrg,shf]
   by_cases h:b.1 < a.1
   ·rw [if_pos h,if_pos (by omega)]
   ·rw [if_neg h,if_neg (by omega)]
theorem Zd (k x:Int) (l:List (Int×List Int)):Ws (l.map (shf k x))=(Ws l).map (shf k x):=by
 have:∀ (l:List (Int×List Int)) (s:Option (Int×List Int)),(l.map (shf k x)).foldl (fun s q=>mrg s (some q)) (s.map (shf k x))=(l.foldl (fun s q=>mrg s (some q)) s).map (shf k x):=by
  intro l
  induction l with
  | nil=>intro s; rfl
  | cons q l ih =>
   intro s
   rw [List.map_cons,List.foldl_cons,List.foldl_cons,<-ih]
   congr 1
   exact ABt k x s (some q)
 exact this l none
/-- Which one it is. -/
theorem ADW {a b:Option (Int×List Int)}{q:Int×List Int}(h:mrg a b=some q):a=some q\/b=some q:=by
 cases a with
 | none=>exact .inr h
 | some a =>
  cases b with
  | none=>exact .inl h
  | some b =>
   simp only [mrg,Option.some.injEq] at h
   by_cases hb:b.1 < a.1
   ·rw [if_pos hb] at h; exact .inr (by rw [h])
   ·rw [if_neg hb] at h; exact .inl (by rw [h])
theorem Ra {α:Type}{F:α->Option (Int×List Int)}{q:Int×List Int}:∀ {l:List α}{s:Option (Int×List Int)},l.foldl (fun s x=>mrg s (F x)) s=some q->s=some q\/∃ x ∈ l,F x=some q
 | [],s,h=> .inl h
 | x::l,s,h=>by
  rcases Ra (l:=l) h with h | ⟨y,hy,h⟩
  ·rcases ADW h with h | h
   ·exact .inl h
   ·exact .inr ⟨x,by simp,h⟩
  ·exact .inr ⟨y,by simp [hy],h⟩
theorem SJ:∀ (k:Nat) (l o:List Int),l.length=k->o ∈ G8 k l->o.Perm l
 | 0,l,o,h,ho=>by
  have:l=[]:=List.eq_nil_of_length_eq_zero h
  subst this
  simp only [G8,List.mem_singleton] at ho
  rw [ho]
 | k + 1,l,o,h,ho=>by
  simp only [G8,List.mem_flatMap,List.mem_map] at ho
  obtain ⟨x,hx,w,hw,rfl⟩:=ho
  have:=SJ k (l.erase x) w (by rw [List.length_erase_of_mem hx]; omega) hw
  exact (List.Perm.cons x this).trans (List.perm_cons_erase hx).symm
theorem SU {f:Int->Int}{a b:List Int}(h:a.Perm b):I3 f a=I3 f b:=by
 induction h with
 | nil=>rfl
 | cons x _ ih=>simp only [I3,ih]
 | swap x y l=>simp only [I3]; omega
 | trans _ _ h1 h2=>exact h1.trans h2
/-- The orders with their sums. -/
def ACx (W:Int->Int->Int) (k:Nat) (l:List Int):List (Int×List Int):=(G8 k l).map fun o=>(prS W o,o)
/-- The best, one by one from the front. -/
def BB (W:Int->Int->Int):Nat->List Int->Option (Int×List Int)
 | 0,_=>some (0,[])
 | k + 1,l=>l.foldl (fun s x=>mrg s ((BB W k (l.erase x)).map (shf (I3 (fun y=>W y x) (l.erase x)) x))) none
theorem Q0 {α β γ:Type}(f:α->List β) (g:β->γ):∀ l:List α,(l.flatMap f).map g=l.flatMap fun x=>(f x).map g
 | []=>rfl
 | x::l=>by rw [List.flatMap_cons,List.map_append,Q0 f g l,List.flatMap_cons]
theorem Q1 {α σ:Type}{f g:σ->α->σ}:∀ {l:List α}(s:σ),(∀ s,∀ x ∈ l,f s x=g s x)->l.foldl f s=l.foldl g s
 | [],_,_=>rfl
 | x::l,s,h=>by
  rw [List.foldl_cons,List.foldl_cons,h s x (by simp)]
  exact Q1 _ fun s y hy=>h s y (List.mem_cons_of_mem _ hy)
theorem X5 (W:Int->Int->Int):∀ (k:Nat) (l:List Int),l.length=k->Ws (ACx W k l)=BB W k l
 | 0,l,h=>by
  have:l=[]:=List.eq_nil_of_length_eq_zero h
  subst this
  rfl
 | k + 1,l,h=>by
  have e:ACx W (k + 1) l=l.flatMap fun x=>(ACx W k (l.erase x)).map (shf (I3 (fun y=>W y x) (l.erase x)) x):=by
   unfold ACx
   rw [G8,Q0]
   have:∀ x ∈ l,((G8 k (l.erase x)).map (x::·)).map (fun o=>(prS W o,o))=((G8 k (l.erase x)).map fun o=>(prS W o,o)).map (shf (I3 (fun y=>W y x) (l.erase x)) x):=fun x hx=>by
    rw [List.map_map,List.map_map]
    refine List.map_congr_left fun o ho=>?_
    have hp:=SJ k (l.erase x) o (by rw [List.length_erase_of_mem hx]; omega) ho
    simp only [Function.comp,shf,prS]
    rw [SU hp,Int.add_comm]
   have gen:∀ m:List Int,(∀ x ∈ m,x ∈ l)->(m.flatMap fun x=>((G8 k (l.erase x)).map (x::·)).map (fun o=>(prS W o,o)))=m.flatMap fun x=>((G8 k (l.erase x)).map fun o=>(prS W o,o)).map (shf (I3 (fun y=>W y x) (l.erase x)) x):=by
    intro m
    induction m with
    | nil=>intro _; rfl
    | cons x m ih =>
     intro hm
     rw [List.flatMap_cons,List.flatMap_cons,this x (hm x (by simp)),ih fun y hy=>hm y (List.mem_cons_of_mem _ hy)]
   exact gen l fun x hx=>hx
  rw [e,<-W3 (Ws _),VC]
  unfold BB
  refine Q1 none fun s x hx=>?_
  rw [Zd,X5 W k (l.erase x) (by rw [List.length_erase_of_mem hx]; omega)]
/-- The best is one of them. -/
theorem Uy {W:Int->Int->Int}:∀ (k:Nat){l:List Int}{q:Int×List Int},l.length=k->BB W k l=some q->q.2.Perm l/\q.1=prS W q.2
 | 0,l,q,h,e=>by
  have:l=[]:=List.eq_nil_of_length_eq_zero h
  subst this
  unfold BB at e
  obtain rfl:=OI e
  exact ⟨.nil,rfl⟩
 | k + 1,l,q,h,e=>by
  unfold BB at e
  rcases Ra e with e | ⟨x,hx,e⟩
  ·cases e
  ·obtain ⟨q',h1,rfl⟩:=Option.map_eq_some_iff.1 e
   obtain ⟨p1,p2⟩:=Uy k (by rw [List.length_erase_of_mem hx]; omega) h1
   refine ⟨(List.Perm.cons x p1).trans (List.perm_cons_erase hx).symm,?_⟩
   simp only [shf,prS]
   rw [SU p1,p2,Int.add_comm]
theorem Zq (a:Option (Int×List Int)) (b:Int×List Int):∃ q,mrg a (some b)=some q:=by
 cases a with
 | none=>exact ⟨b,rfl⟩
 | some a=>exact ⟨_,rfl⟩
theorem Tl {α:Type}{F:α->Option (Int×List Int)}:∀ (l:List α) (s:Option (Int×List Int)),(∀ x ∈ l,∃ q,F x=some q)->(l=[]->∃ q,s=some q)->∃ q,l.foldl (fun s x=>mrg s (F x)) s=some q
 | [],s,_,h=>h rfl
 | x::l,s,h,_=>by
  obtain ⟨q,hq⟩:=h x (by simp)
  rw [List.foldl_cons]
  refine Tl l _ (fun y hy=>h y (List.mem_cons_of_mem _ hy)) fun _=>?_
  rw [hq]; exact Zq s q
theorem X6 (W:Int->Int->Int):∀ (k:Nat) (l:List Int),l.length=k->∃ q,BB W k l=some q
 | 0,_,_=>⟨_,rfl⟩
 | k + 1,l,h=>by
  unfold BB
  refine Tl l none (fun x hx=>?_) fun e=>by rw [e] at h; simp at h
  obtain ⟨q,hq⟩:=X6 W k (l.erase x) (by rw [List.length_erase_of_mem hx]; omega)
  rw [hq]; exact ⟨_,rfl⟩
/-- The rest of the best is the best of the rest. -/
theorem AA1 {W:Int->Int->Int}{k:Nat}{l:List Int}{v x:Int}{o:List Int}(e:BB W (k + 1) l=some (v,x::o)):x ∈ l/\∃ u,BB W k (l.erase x)=some (u,o):=by
 unfold BB at e
 rcases Ra e with e | ⟨y,hy,e⟩
 ·cases e
 ·obtain ⟨q',h1,h2⟩:=Option.map_eq_some_iff.1 e
  simp only [shf,Prod.mk.injEq,List.cons.injEq] at h2
  obtain ⟨_,rfl,rfl⟩:=h2
  exact ⟨hy,_,h1⟩
/-- What a loop keeps that takes what is less. -/
def stp (D:List Int->Int) (s:Int×List Int) (q:List Int):Int×List Int:=if D q < s.1 then (D q,q) else s
theorem Yw (D:List Int->Int):∀ (l:List (List Int)) (s:Int×List Int),(l.map fun o=>(D o,o)).foldl (fun s q=>mrg s (some q)) (some s)=some (l.foldl (stp D) s)
 | [],_=>rfl
 | q::l,s=>by
  rw [List.map_cons,List.foldl_cons,List.foldl_cons,<-Yw D l]; rfl
theorem Ze (D:List Int->Int) (p:List Int) (l:List (List Int)):Ws ((p::l).map fun o=>(D o,o))=some (l.foldl (stp D) (D p,p)):=by
 unfold Ws
 rw [List.map_cons,List.foldl_cons]
 exact Yw D l (D p,p)
section
variable {g:List Ai}(hg:FewR g)
include hg
theorem ADG {c:List AG}(hc:few c){x y:Nat}(hx:x < g.length) (hy:y < g.length):JN c g (x:Int) (y:Int)=some (decide (cm c g x y < 0)):=by
 unfold JN
 rw [ADI g hx,OS,ADI g hy,OS,Z6 c _ _ _ _ hc (hg.at_ hx) (hg.at_ hy),OS]
 rfl
theorem ACM {l:List (List AG)}(hl:∀ c ∈ l,few c) (hv:okT l=true) (h20:l.length<=1000){x y:Nat}(hx:x < g.length) (hy:y < g.length):ID l g (x:Int) (y:Int)=some (vt l g x y):=by
 have hn:=hg.n
 unfold ID
 have:EA l g (x:Int) (y:Int) 100000 0 0=some (vt l g x y):=P6 (σ:=Int) l.length (fun i=>vt (l.take i) g x y) (some (vt l g x y)) (fun f c s=>EA l g (x:Int) (y:Int) f s c) (by omega) (fun i hi f=>by
  show EA l g (x:Int) (y:Int) (f + 1) (vt (l.take i) g x y) (i:Int)=_
  conv=>lhs; unfold EA
  have hc:=hl _ (List.getElem_mem hi)
  have hvc:(Tk l[i]).2=0:=by
   have:=(List.all_eq_true.1 hv) _ (List.getElem_mem hi)
   simpa using this
  have hb:=AAO (l.take i) g x y
  have hlen:(l.take i).length<=1000:=by simp; omega
  have hs:vt (l.take (i + 1)) g x y=vt (l.take i) g x y + dl l[i] g x y:=by rw [List.take_succ_eq_append_getElem hi,Y3]
  have hcv:=AEu (g:=g) (PS hvc).2 (show x < 64 by omega) (show y < 64 by omega)
  rw [if_pos (by simp; omega),Ke hi,OS,ADG hg hc hx hy,OS]
  have e:Hu l g (x:Int) (y:Int) (vt (l.take i) g x y) (i:Int) (decide (cm l[i] g x y < 0))=some (vt (l.take (i + 1)) g x y):=by
   unfold Hu
   rw [hs]
   unfold dl
   by_cases h:cm l[i] g x y = -1
   ·rw [if_pos (by simp; omega),if_pos h,Xr (by omega) (by omega)]
   ·rw [if_neg (by simp; omega),if_neg h]; simp
  rw [e,OS]) (fun f=>by
  show EA l g (x:Int) (y:Int) (f + 1) (vt (l.take l.length) g x y) (l.length:Int)=_
  conv=>lhs; unfold EA
  rw [if_neg (by simp),List.take_length])
 rw [this]; rfl
theorem AAN {l:List (List AG)}(hl:∀ c ∈ l,few c) (hv:okT l=true) (h20:l.length<=1000):IC l g=some (Kn g.length (vt l g)):=by
 have hn:=hg.n
 have rt:∀ (f:Nat->Int) (m:Nat),(List.range (m + 1)).map f=(List.range m).map f++[f m]:=fun f m=>by rw [List.range_succ,List.map_append]; rfl
 unfold IC
 have:Dd l g 100000 [] 0=some (Kn g.length (vt l g)):=P6 (σ:=List (List Int)) g.length (fun i=>(List.range i).map fun x=>Qe g.length (vt l g x)) (some (Kn g.length (vt l g))) (fun f c s=>Dd l g f s c) (by omega) (fun i hi f=>by
  show Dd l g (f + 1) ((List.range i).map fun x=>Qe g.length (vt l g x)) (i:Int)=_
  conv=>lhs; unfold Dd
  have hin:D8 l g ((List.range i).map fun x=>Qe g.length (vt l g x)) (i:Int) 100000 [] 0=some (Qe g.length (vt l g i)):=P6 (σ:=List Int) g.length (fun k=>(List.range k).map (vt l g i)) (some (Qe g.length (vt l g i))) (fun f c s=>D8 l g ((List.range i).map fun x=>Qe g.length (vt l g x)) (i:Int) f s c) (by omega) (fun k hk f=>by
   show D8 l g _ (i:Int) (f + 1) ((List.range k).map (vt l g i)) (k:Int)=_
   conv=>lhs; unfold D8
   rw [if_pos (by simp; omega),ACM hg hl hv h20 hi hk,OS,if_pos (Hv (by omega) (by simp; omega)),<-rt]) (fun f=>by
   show D8 l g _ (i:Int) (f + 1) ((List.range g.length).map (vt l g i)) (g.length:Int)=_
   conv=>lhs; unfold D8
   rw [if_neg (by simp)]; rfl)
  rw [if_pos (by simp; omega),hin,OS,if_pos (Hv (by omega) (by simp; omega))]
  show Dd l g f (((List.range i).map fun x=>Qe g.length (vt l g x))++[Qe g.length (vt l g i)]) _=Dd l g f ((List.range (i + 1)).map fun x=>Qe g.length (vt l g x)) _
  rw [List.range_succ,List.map_append]; rfl) (fun f=>by
  show Dd l g (f + 1) ((List.range g.length).map fun x=>Qe g.length (vt l g x)) (g.length:Int)=_
  conv=>lhs; unfold Dd
  rw [if_neg (by simp)]; rfl)
 rw [this]; rfl
end
theorem ADA (l:List (List UInt8)) (h:l.length<=99999):Al l=some (l.any fun s=>decide ((s.length:Int) > 40)):=by
 unfold Al A1
 obtain ⟨n,h1,h2⟩:=PL l h Ed (fun s=>decide ((s.length:Int) > 40)) (fun x _=>rfl) (BD l) (fun f c=>rfl)
 rw [<-h2]
 exact (congrArg (fun o=>o.bind fun v1=>some (decide (v1≥0))) h1)
/-- Is a guest too long? -/
def VK (g:Ai):Bool:=decide ((mxI (mxI (g.1.length:Int) (g.2.1.length:Int)) (g.2.2.1.length:Int)) > 40)||(decide ((g.2.2.2.2.2.2.2.2.length:Int) > 10)||g.2.2.2.2.2.2.2.2.any fun s=>decide ((s.length:Int) > 40))
theorem AEZ (g:Ai):D0 g=some (VK g):=by
 unfold D0 VK
 by_cases h1:(mxI (mxI (g.1.length:Int) (g.2.1.length:Int)) (g.2.2.1.length:Int)) > 40
 ·simp [h1]
 ·by_cases h2:(g.2.2.2.2.2.2.2.2.length:Int) > 10
  ·simp [h1,h2]
  ·rw [ADA _ (by omega)]
   simp [h1,h2]
theorem Zk {g:Ai}(h:VK g=false):Wr g:=by
 unfold VK at h
 simp only [Bool.or_eq_false_iff,decide_eq_false_iff_not] at h
 unfold Wr
 have:=h.2.1
 omega
theorem ZX (g:List Ai) (n:Int) (hn:n<=99999):Fq g n=some (decide ((g.length:Int)<=n)&&!g.any VK):=by
 unfold Fq
 by_cases h:(g.length:Int)<=n
 ·rw [if_pos (by simpa using h)]
  have e:Af g=some (g.any VK):=by
   unfold Af Ar
   obtain ⟨n,h1,h2⟩:=PL g (by omega) D0 VK (fun x _=>AEZ x) (A2 g) (fun f c=>rfl)
   rw [<-h2]
   exact (congrArg (fun o=>o.bind fun v1=>some (decide (v1≥0))) h1)
  rw [e]
  simp [h]
 ·rw [if_neg (by simpa using h)]
  simp [h]
/-- A list that is copied element by element. -/
theorem ACF {α:Type}(xs:List α) (hx:xs.length<=99999) (L:Nat->List α->Int->Option (List α)) (hs:∀ (pre:List α) (v:α) (r:List α),xs=pre++v::r->∀ f,L (f + 1) pre (pre.length:Int)=L f (pre++[v]) (wr .i64 ((pre.length:Int) + 1))) (he:∀ f,L (f + 1) xs (xs.length:Int)=some xs):L 100000 [] 0=some xs:=by
 have go:∀ (r pre:List α) (f:Nat),xs=pre++r->r.length < f->L f pre (pre.length:Int)=some xs:=by
  intro r
  induction r with
  | nil =>
   intro pre f e hf
   obtain ⟨f,rfl⟩:∃ q,f=q + 1:=⟨f - 1,by simp at hf; omega⟩
   have e':xs=pre:=by rw [e]; simp
   subst e'; exact he f
  | cons v r ih =>
   intro pre f e hf
   obtain ⟨f,rfl⟩:∃ q,f=q + 1:=⟨f - 1,by simp at hf; omega⟩
   simp only [List.length_cons] at hf
   rw [hs pre v r e f,Fv pre v r (by rw [<-e]; omega)]
   exact ih (pre++[v]) f (by rw [e]; simp) (by omega)
 exact go xs [] 100000 rfl (by omega)
theorem ZQ (l:List (List AG)) (h:∀ c ∈ l,few c) (hn:l.length<=99999):G3 l=some l:=by
 unfold G3
 have:Dc l 100000 [] 0=some l:=ACF l hn (fun f s c=>Dc l f s c) (fun pre v r e f=>by
  have hl:l.length=pre.length + r.length + 1:=by rw [e]; simp; omega
  show Dc l (f + 1) pre (pre.length:Int)=_
  conv=>lhs; unfold Dc
  rw [if_pos (by rw [e]; exact G7 pre v r),show idx l (pre.length:Int)=some v by rw [e,D5],OS,ABO v (h v (by rw [e]; simp)),OS,if_pos (Hv (by omega) (by omega))]) (fun f=>by
  show Dc l (f + 1) l (l.length:Int)=_
  conv=>lhs; unfold Dc
  rw [if_neg (by simp)])
 rw [this]; rfl
theorem AAC (l:List (List AG)) (h:∀ c ∈ l,few c) (hn:l.length<=99999):G4 l l=some true:=by
 unfold G4 Ab
 have:AN l l 100000 0=some (.inl ()):=P6 (σ:=Unit) l.length (fun _=>()) (some (.inl ())) (fun f c _=>AN l l f c) hn (fun i hi f=>by
  show AN l l (f + 1) (i:Int)=_
  conv=>lhs; unfold AN
  rw [if_pos (by simp; omega),Ke hi,OS,OS,ACD _ _ (h _ (List.getElem_mem hi)),OS,if_neg (by simp)]) (fun f=>by
  show AN l l (f + 1) (l.length:Int)=_
  conv=>lhs; unfold AN
  rw [if_neg (by simp)])
 rw [this,if_neg (by simp)]; rfl
theorem ABV (l:List (List AG)) (n:Int) (hn:n<=99999):∃ b,HV l n=some b/\(b=true->(l.length:Int)<=n/\∀ c ∈ l,few c):=by
 have hB:∀ c:List AG,∃ b,Ej c=some b/\(b=false↔few c):=fun c=>by
  obtain ⟨b,h1,h2⟩:=AC9 c
  refine ⟨!b,by unfold Ej; rw [h1]; rfl,?_⟩
  rw [<-h2]; cases b <;> simp
 unfold HV
 by_cases h:(l.length:Int)<=n
 ·rw [if_pos (by simpa using h)]
  unfold Ao Aw
  obtain ⟨k,h1,h2⟩:=PL l (by omega) Ej (fun c=>(Ej c).getD false) (fun c _=>by
   obtain ⟨b,h1,_⟩:=hB c
   rw [h1]; rfl) (A4 l) (fun f c=>rfl)
  have e:=congrArg (fun o:Option Int=>o.bind fun v1=>some (decide (v1≥0))) h1
  refine ⟨!decide (k≥0),?_,fun hb=>⟨h,fun c hc=>?_⟩⟩
  ·have:=congrArg (fun o:Option Bool=>(o.bind fun v1=>some (!v1)).bind fun j3=>some j3) e
   exact this
  ·have hk:decide (k≥0)=false:=by simpa using hb
   rw [hk] at h2
   have:=(List.any_eq_false.1 h2.symm) c hc
   obtain ⟨b,q1,q2⟩:=hB c
   rw [q1] at this
   exact q2.1 (by simpa using this)
 ·rw [if_neg (by simpa using h)]
  exact ⟨false,rfl,fun h=>by cases h⟩
/- trestle/trestleref03.Agree -/
/- trestle/trestleref03.Conflicts -/
/- slices.Index[[]int,int] -/
/- slices.Contains[[]int,int] -/
/- trestle/trestlelaw03.permutation -/
/- trestle/court.Agree$1 -/
/- trestle/court.pairs -/
/- trestle/court.Agree -/
/- slices.Equal[[][2]int,[2]int] -/
/- trestle/court.Conflicts$1 -/
/- trestle/court.pairs -/
/- trestle/court.Conflicts -/
/- trestle/court.permutation -/
/- trestle/court.Disagreements -/
/- trestle/trestlelaw03.pairs -/
/- trestle/trestlelaw03.CourtPairs -/
section
variable {l:List (List AG)}{g:List Ai}(hl:∀ c ∈ l,few c) (hg:FewR g) (h16:l.length<=16) (hv:okT l=true)
include hl hg h16 hv
end
/-- The disagreements of an order. -/
def WI (l:List (List AG)) (g:List Ai) (a b:Int):Int:=vt l g a.toNat b.toNat
theorem AAx {l:List (List AG)}(g:List Ai) (h16:l.length<=16) (a b:Int):0<=WI l g a b/\WI l g a b<=16:=by
 have:=AAO l g a.toNat b.toNat
 unfold WI; omega
theorem AAj {l:List (List AG)}{g:List Ai}{a b:Int}(ha:0<=a/\a < g.length) (hb:0<=b/\b < g.length):∃ r,idx (Kn g.length (vt l g)) a=some r/\idx r b=some (WI l g a b):=by
 have e1:((a.toNat:Nat):Int)=a:=by omega
 have e2:((b.toNat:Nat):Int)=b:=by omega
 refine ⟨Qe g.length (vt l g a.toNat),?_,?_⟩
 ·have:=WH (n:=g.length) (M:=vt l g) (x:=a.toNat) (by omega)
  rwa [e1] at this
 ·have:=WP (n:=g.length) (f:=vt l g a.toNat) (x:=b.toNat) (by omega)
  rwa [e2] at this
section
variable {l:List (List AG)}{g:List Ai}{o:List Int}(hg:FewR g) (h16:l.length<=16) (ho:o.length<=64) (hm:∀ v ∈ o,0<=v/\v < (g.length:Int))
include hg h16 ho hm
theorem AB7:0<=prS (WI l g) o/\prS (WI l g) o<=100000:=by
 have _:=hg; have _:=hm
 have:=W8 (W:=WI l g) (B:=16) (by omega) (l:=o) (fun x _ y _=>AAx g h16 x y)
 have h1:(o.length:Int) * ((o.length:Int) * 16)<=64 * (64 * 16):=by
  have:o.length * (o.length * 16)<=64 * (64 * 16):=Nat.mul_le_mul ho (Nat.mul_le_mul ho (Nat.le_refl _))
  exact_mod_cast this
 omega
theorem ABQ (x:Int) (k:Nat) (hk:idx o (k:Int)=some x) (hko:k < o.length) (a:Int) (ha:0<=a/\a<=1000000):BU (Kn g.length (vt l g)) o (k:Int) 100000 a 0=some (a + I3 (fun y=>WI l g x y) (o.take k)):=by
 have _:=hg
 have hxo:=hm x (Zg hk)
 have bnd:∀ q,0<=I3 (fun y=>WI l g x y) (o.take q)/\I3 (fun y=>WI l g x y) (o.take q)<=1024:=fun q=>by
  have:=Qi (f:=fun y=>WI l g x y) (B:=16) (l:=o.take q) (fun y _=>AAx g h16 x y)
  have hk:(o.take q).length<=64:=by simp; omega
  omega
 have h0:a + I3 (fun y=>WI l g x y) (o.take 0)=a:=by simp [I3]
 have h1:BU (Kn g.length (vt l g)) o (k:Int) 100000 (a + I3 (fun y=>WI l g x y) (o.take 0)) 0=some (a + I3 (fun y=>WI l g x y) (o.take k)):=by
  refine P6 (σ:=Int) k (fun q=>a + I3 (fun y=>WI l g x y) (o.take q)) _ (fun f c s=>BU (Kn g.length (vt l g)) o (k:Int) f s c) (by omega) (fun q hq f=>?_) (fun f=>?_)
  ·show BU _ _ _ (f + 1) (a + I3 (fun y=>WI l g x y) (o.take q)) (q:Int)=_
   conv=>lhs; unfold BU
   have hb:=bnd q
   have hqo:q < o.length:=by omega
   have hw:=AAx g h16 x o[q]
   obtain ⟨r,r1,r2⟩:=AAj (l:=l) hxo (hm o[q] (List.getElem_mem hqo))
   rw [if_pos (by simp; omega),hk,OS,r1,OS,Ke hqo,OS,r2,OS,Xr (by omega) (by omega)]
   have e:I3 (fun y=>WI l g x y) (o.take (q + 1))=I3 (fun y=>WI l g x y) (o.take q) + WI l g x o[q]:=by
    rw [List.take_succ_eq_append_getElem hqo,Rm]; simp [I3]
   show BU _ _ _ f _ _=BU _ _ _ f _ _
   rw [e,Int.add_assoc]
  ·show BU _ _ _ (f + 1) (a + I3 (fun y=>WI l g x y) (o.take k)) (k:Int)=_
   conv=>lhs; unfold BU
   rw [if_neg (by simp)]
 rwa [h0] at h1
theorem AEV:Cl (Kn g.length (vt l g)) o=some (prS (WI l g) o):=by
 have go:∀ (r pre:List Int) (f:Nat),o=pre++r->r.length < f->DK (Kn g.length (vt l g)) o f (prS (WI l g) pre) (pre.length:Int)=some (prS (WI l g) o):=by
  intro r
  induction r with
  | nil =>
   intro pre f e hf
   obtain ⟨f,rfl⟩:∃ q,f=q + 1:=⟨f - 1,by simp at hf; omega⟩
   have e':o=pre:=by rw [e]; simp
   unfold DK
   rw [if_neg (by rw [e]; simp),e']
  | cons x r ih =>
   intro pre f e hf
   obtain ⟨f,rfl⟩:∃ q,f=q + 1:=⟨f - 1,by simp at hf; omega⟩
   simp only [List.length_cons] at hf
   have hl:o.length=pre.length + r.length + 1:=by rw [e]; simp; omega
   have hp:=AB7 hg h16 (o:=pre) (by omega) (fun v hv=>hm v (by rw [e]; simp [hv]))
   have hi:idx o (pre.length:Int)=some x:=by rw [e,D5]
   unfold DK
   rw [if_pos (by rw [e]; exact G7 pre x r),ABQ hg h16 ho hm x pre.length hi (by omega) _ ⟨hp.1,by omega⟩,OS,Fv pre x r (by rw [<-e]; omega),show o.take pre.length=pre by rw [e]; simp,<-W9]
   exact ih (pre++[x]) f (by rw [e]; simp) (by omega)
 unfold Cl
 have:=go o [] 100000 rfl (by omega)
 rw [show ((([]:List Int).length:Nat):Int)=0 from rfl] at this
 have e0:prS (WI l g) []=0:=rfl
 rw [e0] at this
 rw [this]; rfl
end
theorem AAa (v:List Int) (h:v.length<=99999):G9 v=some v:=by
 have:DE v 100000 0 []=some v:=ACF v h (fun f s c=>DE v f c s) (fun pre x r e f=>by
  have hl:v.length=pre.length + r.length + 1:=by rw [e]; simp; omega
  show DE v (f + 1) (pre.length:Int) pre=_
  conv=>lhs; unfold DE
  rw [if_pos (by rw [e]; exact G7 pre x r),show idx v (pre.length:Int)=some x by rw [e,D5],OS,if_pos (Hv (by omega) (by simp; omega))]) (fun f=>by
  show DE v (f + 1) (v.length:Int) v=_
  conv=>lhs; unfold DE
  rw [if_neg (by simp)])
 unfold G9
 rw [this]; rfl
theorem ACt (n:Nat) (hn:n<=1000):LQ (n:Int)=some (Oh n):=by
 have h:=P6 (σ:=List Int) n (fun k=>Oh k) (some (Oh n)) (fun f c' s=>D9 (n:Int) f c' s) (by omega) (fun k hk f=>by
  show D9 (n:Int) (f + 1) (k:Int) (Oh k)=_
  conv=>lhs; unfold D9
  rw [if_pos (by simp; omega),if_pos (Hv (by omega) (by rw [JV]; simp; omega))]
  have e:Oh (k + 1)=Oh k++[(k:Int)]:=by unfold Oh; rw [List.range_succ,List.map_append]; rfl
  rw [e]) (fun f=>by
  show D9 (n:Int) (f + 1) (n:Int) (Oh n)=_
  conv=>lhs; unfold D9
  rw [if_neg (by simp)])
 have h':D9 (n:Int) 100000 0 []=some (Oh n):=h
 unfold LQ
 rw [h']; rfl
theorem ABF (n:Nat) (h:n<=7):MJ (G8 n (Oh n))=true:=by
 have:n=0\/n=1\/n=2\/n=3\/n=4\/n=5\/n=6\/n=7:=by omega
 rcases this with rfl | rfl | rfl | rfl | rfl | rfl | rfl | rfl
 ·exact AA7
 ·have e:Oh 1=[0]:=rfl
  rw [e]; exact AA8
 ·have e:Oh 2=[0,1]:=rfl
  rw [e]; exact AA9
 ·have e:Oh 3=[0,1,2]:=rfl
  rw [e]; exact ABA
 ·have e:Oh 4=[0,1,2,3]:=rfl
  rw [e]; exact ABB
 ·have e:Oh 5=[0,1,2,3,4]:=rfl
  rw [e]; exact ABC
 ·have e:Oh 6=[0,1,2,3,4,5]:=rfl
  rw [e]; exact ABD
 ·have e:Oh 7=[0,1,2,3,4,5,6]:=rfl
  rw [e]; exact ABE
theorem Tt:∀ (k:Nat) (l:List Int),l.length=k->∃ r,G8 k l=l::r
 | 0,l,h=>by
  have:l=[]:=List.eq_nil_of_length_eq_zero h
  subst this; exact ⟨[],rfl⟩
 | k + 1,x::l,h=>by
  obtain ⟨r,hr⟩:=Tt k l (by simpa using h)
  rw [G8,List.flatMap_cons,List.erase_cons_head,hr,List.map_cons]
  exact ⟨_,rfl⟩
def AD1:Nat->Nat
 | 0=>1
 | k + 1=>(k + 1) * AD1 k
theorem VS:∀ (k:Nat) (l:List Int),l.length=k->(G8 k l).length=AD1 k
 | 0,_,_=>rfl
 | k + 1,l,h=>by
  have gen:∀ m:List Int,(∀ x ∈ m,x ∈ l)->(m.flatMap fun x=>(G8 k (l.erase x)).map (x::·)).length=m.length * AD1 k:=by
   intro m
   induction m with
   | nil=>intro _; simp
   | cons x m ih =>
    intro hm
    rw [List.flatMap_cons,List.length_append,List.length_map,VS k (l.erase x) (by rw [List.length_erase_of_mem (hm x (by simp))]; omega),ih fun y hy=>hm y (List.mem_cons_of_mem _ hy),List.length_cons,Nat.add_mul,Nat.one_mul,Nat.add_comm]
  rw [G8,gen l fun x hx=>hx,h]; rfl
theorem AC8 {n:Nat}(h:n<=7):AD1 n<=5040:=by
 have:n=0\/n=1\/n=2\/n=3\/n=4\/n=5\/n=6\/n=7:=by omega
 rcases this with rfl | rfl | rfl | rfl | rfl | rfl | rfl | rfl <;> decide
theorem XA {V:List (List Int)}{D:List Int->Int}:∀ (rest:List (List Int)) (p:List Int) (f:Nat) (s:Int×List Int),MJ (p::rest)=true->rest.length < f->(∀ q ∈ rest,Cl V q=some (D q)/\q.length<=99999)->Dw V f s.1 p s.2=some (rest.foldl (stp D) s)
 | [],p,f + 1,s,hc,_,_=>by
  have h:II p=some (false,p):=by simpa [MJ] using hc
  unfold Dw
  rw [h,OS,if_neg (by simp)]; rfl
 | q::r,p,f + 1,s,hc,hf,hD=>by
  unfold MJ at hc
  simp only [Bool.and_eq_true,beq_iff_eq] at hc
  obtain ⟨h1,h2⟩:=hc
  obtain ⟨d1,d2⟩:=hD q (by simp)
  have e:Ft s.1 s.2 (true,q) (D q)=some (stp D s q):=by
   unfold Ft stp
   by_cases h:D q < s.1
   ·rw [if_pos (by simpa using h),if_pos h,AAa q d2]; rfl
   ·rw [if_neg (by simpa using h),if_neg h]
  unfold Dw
  rw [h1,OS,if_pos rfl,d1,OS,e,OS]
  exact XA r q f (stp D s q) h2 (by simp at hf; omega) fun z hz=>hD z (List.mem_cons_of_mem _ hz)
/-- The first error of texts. -/
def Vq:List (List AG)->Int
 | []=>0
 | c::r=>if (Tk c).2=0 then Vq r else (Tk c).2
theorem UC:∀ l:List (List AG),okT l=true↔Vq l=0
 | []=>by simp [okT,Vq]
 | c::r=>by
  have:=UC r
  unfold Vq
  by_cases h:(Tk c).2=0
  ·rw [if_pos h,<-this]; simp [okT,h]
  ·rw [if_neg h]; simp [okT,h]
theorem YB {l:List (List AG)}(hl:∀ c ∈ l,few c) (hn:l.length<=99999):DY l 100000 0=some (if Vq l=0 then .inl () else .inr (Vq l)):=by
 have go:∀ (r pre:List (List AG)) (f:Nat),l=pre++r->r.length < f->DY l f (pre.length:Int)=some (if Vq r=0 then .inl () else .inr (Vq r)):=by
  intro r
  induction r with
  | nil =>
   intro pre f e hf
   obtain ⟨f,rfl⟩:∃ q,f=q + 1:=⟨f - 1,by simp at hf; omega⟩
   unfold DY
   rw [if_neg (by rw [e]; simp)]; rfl
  | cons c r ih =>
   intro pre f e hf
   obtain ⟨f,rfl⟩:∃ q,f=q + 1:=⟨f - 1,by simp at hf; omega⟩
   have hl2:l.length=pre.length + r.length + 1:=by rw [e]; simp; omega
   simp only [List.length_cons] at hf
   unfold DY
   rw [if_pos (by rw [e]; exact G7 pre c r),show idx l (pre.length:Int)=some c by rw [e,D5],OS,ABJ c (hl c (by rw [e]; simp)),OS]
   unfold Vq
   by_cases h:(Tk c).2=0
   ·rw [if_neg (by simp [h]),if_pos h,Fv pre c r (by rw [<-e]; omega)]
    exact ih (pre++[c]) f (by rw [e]; simp) (by omega)
   ·rw [if_pos (by simp [h]),if_neg h,if_neg h]
 exact go l [] 100000 rfl (by omega)
theorem AC3 {l:List (List AG)}{g:List Ai}(hl:∀ c ∈ l,few c) (h16:l.length<=16) (hv:okT l=true) (hg:FewR g) (hn:g.length<=7):∃ q,BB (WI l g) g.length (Oh g.length)=some q/\DA l g=some (q.2,q.1,0):=by
 obtain ⟨rest,hr⟩:=Tt g.length (Oh g.length) (JV _)
 have hD:∀ o ∈ G8 g.length (Oh g.length),Cl (Kn g.length (vt l g)) o=some (prS (WI l g) o)/\o.length<=99999:=fun o ho=>by
  have hp:=SJ _ _ _ (JV _) ho
  have hle:o.length=g.length:=by rw [hp.length_eq,JV]
  exact ⟨AEV hg h16 (by omega) fun v hv=>Zp.1 (hp.mem_iff.1 hv),by omega⟩
 have hb:=X5 (WI l g) g.length (Oh g.length) (JV _)
 unfold ACx at hb
 rw [hr,Ze] at hb
 refine ⟨_,hb.symm,?_⟩
 have hnum:=VS g.length (Oh g.length) (JV _)
 have hf:=AC8 hn
 have hlp:=XA (V:=Kn g.length (vt l g)) (D:=fun o=>prS (WI l g) o) rest (Oh g.length) 100000 (prS (WI l g) (Oh g.length),Oh g.length) (by rw [<-hr]; exact ABF _ hn) (by rw [hr,List.length_cons] at hnum; omega) fun q hq=>hD q (by rw [hr]; exact List.mem_cons_of_mem _ hq)
 have he:=(UC l).1 hv
 unfold DA
 rw [if_neg (by simp; omega),YB hl (by omega),if_pos he,OS]
 simp only []
 rw [if_neg (by simp; omega),AAN hg hl hv (by omega),OS,ACt _ (by omega),OS,AAa _ (by rw [JV]; omega),OS,(hD (Oh g.length) (by rw [hr]; simp)).1,OS]
 simp only [] at hlp
 rw [hlp]; rfl
/-- Those below n that are not in the set. -/
def RN (n s:Nat):List Int:=((List.range n).filter fun x=>!s.testBit x).map fun (i:Nat)=>(i:Int)
theorem ACw:∀ s:Nat,s < 128->∀ x:Nat,x < 7->((AAU .i64 (s:Int) (wr .i64 (1 * 2 ^ min (x:Int).toNat 64)))==0)=!s.testBit x:=by decide +kernel
theorem AEz:∀ s:Nat,s < 128->∀ x:Nat,x < 7->orI .i64 (s:Int) (wr .i64 (1 * 2 ^ min (x:Int).toNat 64))=((s ||| 2 ^ x:Nat):Int):=by decide +kernel
def AE0 (n s x:Nat):Bool:=s.testBit x||(Nat.blt (s ||| 2 ^ x) (2 ^ n)&&Nat.blt s (s ||| 2 ^ x)&&RN n (s ||| 2 ^ x)==(RN n s).erase (x:Int)&&(RN n s).elem (x:Int))
theorem ADe:((List.range 8).all fun n=>(List.range (2 ^ n)).all fun s=>(List.range n).all fun x=>AE0 n s x)=true:=by kernel_rfl
theorem ACA (n:Nat) (h:n < 8) (s:Nat) (hs:s < 2 ^ n) (x:Nat) (hx:x < n) (ht:s.testBit x=false):s ||| 2 ^ x < 2 ^ n/\s < s ||| 2 ^ x/\RN n (s ||| 2 ^ x)=(RN n s).erase (x:Int)/\(x:Int) ∈ RN n s:=by
 have h1:=List.all_eq_true.1 (List.all_eq_true.1 (List.all_eq_true.1 ADe n (List.mem_range.2 h)) s (List.mem_range.2 hs)) x (List.mem_range.2 hx)
 unfold AE0 at h1
 rw [ht,Bool.false_or,Bool.and_eq_true,Bool.and_eq_true,Bool.and_eq_true,beq_iff_eq] at h1
 obtain ⟨⟨⟨h2,h3⟩,h4⟩,h5⟩:=h1
 exact ⟨Nat.le_of_ble_eq_true h2,Nat.le_of_ble_eq_true h3,h4,List.elem_iff.1 h5⟩
theorem XB:∀ n:Nat,n < 8->∀ s:Nat,s < 2 ^ n->(RN n s=[]↔s=2 ^ n - 1):=by decide +kernel
theorem AFD:∀ n:Nat,n < 8->RN n 0=Oh n:=by decide +kernel
theorem XO:∀ n:Nat,n < 8->wr .i64 ((wr .i64 (1 * 2 ^ min (n:Int).toNat 64)) - 1)=((2 ^ n - 1:Nat):Int)/\2 ^ n<=128/\0 < 2 ^ n:=by decide +kernel
theorem Yp (n s:Nat):RN (n + 1) s=if s.testBit n then RN n s else RN n s++[(n:Int)]:=by
 unfold RN
 rw [List.range_succ,List.filter_append,List.map_append]
 cases h:s.testBit n with
 | true=>simp [h]
 | false=>simp [h]
theorem AAq {n s:Nat}{x:Int}(h:x ∈ RN n s):∃ i:Nat,x=(i:Int)/\i < n/\s.testBit i=false:=by
 unfold RN at h
 obtain ⟨i,hi,rfl⟩:=List.mem_map.1 h
 have:=List.mem_filter.1 hi
 exact ⟨i,rfl,List.mem_range.1 this.1,by simpa using this.2⟩
theorem AAp (n s:Nat):(RN n s).length<=n:=by
 unfold RN
 rw [List.length_map]
 have:=List.length_filter_le (fun x=>!s.testBit x) (List.range n)
 simpa using this
section
variable {g:List Ai}(hn:g.length<=7){W:Int->Int->Int}(hW:∀ x y,0<=W x y/\W x y<=16) (h0:∀ x:Nat,x < g.length->W (x:Int) (x:Int)=0){T:List (List Int)}{b:Bool}(hT:∀ u v:Int,0<=u/\u < g.length->0<=v/\v < g.length->∃ r,idx T u=some r/\idx r v=some (W u v))
include hn hW hT in
theorem AFA (s:Nat) (hs:s < 128) (c21 c22:List Int) (x:Nat) (hx:x < g.length) (v:Int) (hv:0<=v/\v<=100000):B9 g (T,b) (s:Int) c21 c22 (x:Int) 100000 v 0=some (v + I3 (fun y=>W y (x:Int)) (RN g.length s)):=by
 have h:=P6 (σ:=Int) g.length (fun k=>v + I3 (fun y=>W y (x:Int)) (RN k s)) (some (v + I3 (fun y=>W y (x:Int)) (RN g.length s))) (fun f c st=>B9 g (T,b) (s:Int) c21 c22 (x:Int) f st c) (by omega) (fun k hk f=>by
  show B9 g (T,b) (s:Int) c21 c22 (x:Int) (f + 1) (v + I3 (fun y=>W y (x:Int)) (RN k s)) (k:Int)=B9 g (T,b) (s:Int) c21 c22 (x:Int) f (v + I3 (fun y=>W y (x:Int)) (RN (k + 1) s)) _
  conv=>lhs; unfold B9
  have e:Fn g (T,b) (s:Int) c21 c22 (x:Int) (v + I3 (fun y=>W y (x:Int)) (RN k s)) (k:Int)=some (v + I3 (fun y=>W y (x:Int)) (RN (k + 1) s)):=by
   unfold Fn
   rw [ACw s hs k (by omega),Yp]
   cases hb:s.testBit k with
   | true=>rw [if_neg (by simp),if_pos (by rfl)]
   | false =>
    obtain ⟨r,r1,r2⟩:=hT (k:Int) (x:Int) (by omega) (by omega)
    have h1:=Qi (f:=fun y=>W y (x:Int)) (l:=RN k s) (B:=16) fun y _=>hW y x
    have h2:=AAp k s
    have h3:=hW (k:Int) (x:Int)
    rw [if_pos (by rfl),if_neg (by simp)]
    show (idx T (k:Int)).bind _=_
    rw [r1,OS,r2,OS,Rm]
    simp only [I3]
    rw [Xr (by omega) (by omega)]
    congr 1
    omega
  rw [if_pos (by simp; omega),if_pos (by simp),e,OS]) (fun f=>by
  show B9 g (T,b) (s:Int) c21 c22 (x:Int) (f + 1) _ (g.length:Int)=_
  conv=>lhs; unfold B9
  rw [if_neg (by simp)])
 have h':B9 g (T,b) (s:Int) c21 c22 (x:Int) 100000 (v + 0) 0=_:=h
 rwa [Int.add_zero] at h'
/-- What is known of all sets from a set on. -/
def AAu (W:Int->Int->Int) (n m:Nat) (cs nx:List Int):Prop:=cs.length=2 ^ n/\nx.length=2 ^ n/\∀ s,m<=s->s < 2 ^ n->∃ q,BB W (RN n s).length (RN n s)=some q/\cs[s]? = some q.1/\(RN n s≠[]->nx[s]? = some (q.2.headD 0))
/-- Both lists at a set. -/
def upC (cs nx:List Int) (s:Nat):Option (Int×List Int)->List Int×List Int
 | none=>(cs.set s (-1),nx)
 | some q=>(cs.set s q.1,nx.set s (q.2.headD 0))
/-- One more in front. -/
def GC (W:Int->Int->Int) (k:Nat) (l:List Int) (x:Int):Option (Int×List Int):=(BB W k (l.erase x)).map (shf (I3 (fun y=>W y x) (l.erase x)) x)
def FC (W:Int->Int->Int) (k n s x:Nat):Option (Int×List Int):=(RN x s).foldl (fun a x=>mrg a (GC W k (RN n s) x)) none
include hn hW in
theorem AAd {k n s:Nat}{x:Int}(hk:(RN n s).length=k + 1) (hn':n<=7) (hx:x ∈ RN n s){q:Int×List Int}(h:GC W k (RN n s) x=some q):0<=q.1/\q.1<=10000:=by
 have _:=hn
 obtain ⟨p,h1,rfl⟩:=Option.map_eq_some_iff.1 h
 have hl:((RN n s).erase x).length=k:=by rw [List.length_erase_of_mem hx]; omega
 obtain ⟨p1,p2⟩:=Uy k hl h1
 have h2:=W8 (W:=W) (B:=16) (by omega) (l:=p.2) fun a _ c _=>hW a c
 have h3:=Qi (f:=fun y=>W y x) (l:=(RN n s).erase x) (B:=16) fun y _=>hW y x
 have h4:=AAp n s
 rw [hl] at h3
 rw [p1.length_eq,hl] at h2
 have h5:(k:Int) * ((k:Int) * 16)<=7 * (7 * 16):=Int.mul_le_mul (by omega) (by omega) (by omega) (by omega)
 simp only [shf]
 omega
include hn hW h0 hT in
theorem AE9 (s:Nat) (hs:s < 2 ^ g.length) (k:Nat) (hk:(RN g.length s).length=k + 1) (cs nx:List Int) (hI:AAu W g.length (s + 1) cs nx):B8 g (T,b) (s:Int) 100000 (cs.set s (-1)) nx 0=some (upC cs nx s (BB W (k + 1) (RN g.length s))):=by
 obtain ⟨i1,i2,i3⟩:=hI
 have hs128:s < 128:=by have:=(XO g.length (by omega)).2.1; omega
 have h:=P6 (σ:=List Int×List Int) g.length (fun x=>upC cs nx s (FC W k g.length s x)) (some (upC cs nx s (FC W k g.length s g.length))) (fun f c st=>B8 g (T,b) (s:Int) f st.1 st.2 c) (by omega) (fun x hx f=>by
  show B8 g (T,b) (s:Int) (f + 1) (upC cs nx s (FC W k g.length s x)).1 (upC cs nx s (FC W k g.length s x)).2 (x:Int)=B8 g (T,b) (s:Int) f (upC cs nx s (FC W k g.length s (x + 1))).1 (upC cs nx s (FC W k g.length s (x + 1))).2 _
  conv=>lhs; unfold B8
  have hb:=ACw s hs128 x (by omega)
  have eF:FC W k g.length s (x + 1)=if s.testBit x then FC W k g.length s x else mrg (FC W k g.length s x) (GC W k (RN g.length s) (x:Int)):=by
   unfold FC
   rw [Yp]
   cases s.testBit x with
   | true=>rfl
   | false=>rw [if_neg (by simp),if_neg (by simp),List.foldl_append]; rfl
  rw [if_pos (by simp; omega),if_pos (by simp)]
  cases ht:s.testBit x with
  | true =>
   rw [ht] at hb eF
   rw [if_pos (by simpa [bne] using hb),eF,if_pos rfl]
  | false =>
   rw [ht] at hb eF
   obtain ⟨o1,o2,o3,o4⟩:=ACA g.length (by omega) s hs x hx ht
   have hl:((RN g.length s).erase (x:Int)).length=k:=by rw [List.length_erase_of_mem o4]; omega
   obtain ⟨q,q1,q2,_⟩:=i3 (s ||| 2 ^ x) (by omega) o1
   rw [o3,hl] at q1
   have eG:GC W k (RN g.length s) (x:Int)=some (shf (I3 (fun y=>W y (x:Int)) ((RN g.length s).erase (x:Int))) (x:Int) q):=by unfold GC; rw [q1]; rfl
   have hpos:=AAd hn hW hk hn o4 eG
   have hs3:=Qi (f:=fun y=>W y (x:Int)) (l:=(RN g.length s).erase (x:Int)) (B:=16) fun y _=>hW y x
   have hq0:0<=q.1:=by
    obtain ⟨p1,p2⟩:=Uy k hl q1
    have:=W8 (W:=W) (B:=16) (by omega) (l:=q.2) fun a _ c _=>hW a c
    omega
   simp only [shf] at hpos
   have hsum:I3 (fun y=>W y (x:Int)) (RN g.length s)=I3 (fun y=>W y (x:Int)) ((RN g.length s).erase (x:Int)):=by
    rw [SU (List.perm_cons_erase o4)]
    simp only [I3]
    rw [h0 x hx]; omega
   have hlenU:∀ F,(upC cs nx s F).1.length=2 ^ g.length/\(upC cs nx s F).2.length=2 ^ g.length:=fun F=>by cases F <;> simp [upC,i1,i2]
   have hat:∀ F,idx (upC cs nx s F).1 ((s ||| 2 ^ x:Nat):Int)=some q.1:=fun F=>by
    have hne:¬ s=s ||| 2 ^ x:=by omega
    have e1:(upC cs nx s F).1[s ||| 2 ^ x]? = some q.1:=by cases F <;> simp only [upC] <;> rw [List.getElem?_set,if_neg hne] <;> exact q2
    obtain ⟨hlt,e2⟩:=List.getElem?_eq_some_iff.1 e1
    rw [Ke hlt,e2]
   have hself:∀ F,idx (upC cs nx s F).1 (s:Int)=some (match F with | none=> -1 | some q=>q.1):=fun F=>by
    have hlt:s < (upC cs nx s F).1.length:=by rw [(hlenU F).1]; exact hs
    rw [Ke hlt]
    cases F <;> simp [upC]
   have hnx:∀ F,∃ v,idx (upC cs nx s F).2 (s:Int)=some v:=fun F=>⟨_,Ke (by rw [(hlenU F).2]; exact hs)⟩
   have hFpos:∀ p,FC W k g.length s x=some p->0<=p.1:=fun p hp=>by
    rcases Ra hp with h | ⟨y,hy,h⟩
    ·cases h
    ·obtain ⟨i,rfl,hi,hti⟩:=AAq hy
     exact (AAd hn hW hk hn (ACA g.length (by omega) s hs i (by omega) hti).2.2.2 h).1
   rw [eF,if_neg (show ¬ (false=true) by simp),eG,if_neg (by simpa [bne] using hb),if_pos (by simp),AEz s hs128 x (by omega),hat,OS,AFA hn hW hT s hs128 _ _ x hx q.1 (by omega),OS,hself,OS,hsum]
   have key:∀ F:Option (Int×List Int),(∀ p,F=some p->0<=p.1)->((if (decide ((match F with | none=> -1 | some q=>q.1) < (0:Int)))=true then some ((upC cs nx s F).1,(upC cs nx s F).2,true) else (some (match F with | none=>(-1:Int) | some q=>q.1)).bind fun v41=>some ((upC cs nx s F).1,(upC cs nx s F).2,(decide (q.1 + I3 (fun y=>W y (x:Int)) ((RN g.length s).erase (x:Int)) < v41)))).bind fun j45=>(EU g (T,b) (s:Int) (x:Int) (q.1 + I3 (fun y=>W y (x:Int)) ((RN g.length s).erase (x:Int))) j45))=some (upC cs nx s (mrg F (some (shf (I3 (fun y=>W y (x:Int)) ((RN g.length s).erase (x:Int))) (x:Int) q)))):=by
    intro F hF
    obtain ⟨v,hv⟩:=hnx F
    cases F with
    | none =>
     rw [if_pos (by simp),OS]
     unfold EU
     rw [if_pos rfl]
     show (idx (upC cs nx s none).1 (s:Int)).bind _=_
     rw [hself,OS,hv,OS,Int.toNat_natCast]
     simp only [upC,mrg,shf,List.headD_cons,List.set_set]
    | some p =>
     have:=hF p rfl
     rw [if_neg (by simp; omega),OS,OS]
     unfold EU
     by_cases hlt:q.1 + I3 (fun y=>W y (x:Int)) ((RN g.length s).erase (x:Int)) < p.1
     ·rw [if_pos (by simpa using hlt)]
      show (idx (upC cs nx s (some p)).1 (s:Int)).bind _=_
      rw [hself,OS,hv,OS,Int.toNat_natCast]
      show _=some (upC cs nx s (some (if q.1 + I3 (fun y=>W y (x:Int)) ((RN g.length s).erase (x:Int)) < p.1 then shf (I3 (fun y=>W y (x:Int)) ((RN g.length s).erase (x:Int))) (x:Int) q else p)))
      rw [if_pos hlt]
      simp only [upC,shf,List.headD_cons,List.set_set]
     ·rw [if_neg (by simpa using hlt)]
      show _=some (upC cs nx s (some (if q.1 + I3 (fun y=>W y (x:Int)) ((RN g.length s).erase (x:Int)) < p.1 then shf (I3 (fun y=>W y (x:Int)) ((RN g.length s).erase (x:Int))) (x:Int) q else p)))
      rw [if_neg hlt]
   have k2:=key (FC W k g.length s x) hFpos
   rw [<-Option.bind_assoc]
   refine (congrArg (fun o=>Option.bind o _) k2).trans ?_
   rw [OS]) (fun f=>by
  show B8 g (T,b) (s:Int) (f + 1) _ _ (g.length:Int)=_
  conv=>lhs; unfold B8
  rw [if_neg (by simp)])
 exact h
theorem ADL {n m:Nat}{cs nx:List Int}(hI:AAu W n (m + 1) cs nx) (hm:m < 2 ^ n){k:Nat}(hk:(RN n m).length=k + 1):AAu W n m (upC cs nx m (BB W (k + 1) (RN n m))).1 (upC cs nx m (BB W (k + 1) (RN n m))).2:=by
 obtain ⟨i1,i2,i3⟩:=hI
 obtain ⟨q,hq⟩:=X6 W (k + 1) (RN n m) hk
 rw [hq]
 refine ⟨by simp [upC,i1],by simp [upC,i2],fun s h1 h2=>?_⟩
 by_cases e:s=m
 ·subst e
  exact ⟨q,by rw [hk]; exact hq,by simp only [upC]; rw [List.getElem?_set,if_pos rfl,if_pos (by omega)],fun _=>by simp only [upC]; rw [List.getElem?_set,if_pos rfl,if_pos (by omega)]⟩
 ·obtain ⟨p,p1,p2,p3⟩:=i3 s (by omega) h2
  exact ⟨p,p1,by simp only [upC]; rw [List.getElem?_set,if_neg (by omega)]; exact p2,fun h=>by simp only [upC]; rw [List.getElem?_set,if_neg (by omega)]; exact p3 h⟩
include hn hW h0 hT in
theorem AEx:∀ (m f:Nat) (cs nx:List Int),AAu W g.length m cs nx->m < 2 ^ g.length->m < f->∃ cs' nx',Dv g (T,b) f cs nx ((m:Int) - 1)=some (cs',nx')/\AAu W g.length 0 cs' nx'
 | 0,f + 1,cs,nx,hI,_,_=>by
  refine ⟨cs,nx,?_,hI⟩
  unfold Dv
  rw [if_neg (by simp)]
 | m + 1,f + 1,cs,nx,hI,hm,hf=>by
  have hm':m < 2 ^ g.length:=by omega
  have h128:=(XO g.length (by omega)).2.1
  obtain ⟨k,hk⟩:∃ k,(RN g.length m).length=k + 1:=by
   have:RN g.length m≠[]:=fun e=>by
    have:=(XB g.length (by omega) m hm').1 e
    omega
   have:=List.length_pos_iff.2 this
   exact ⟨(RN g.length m).length - 1,by omega⟩
  have h3:=AE9 (b:=b) hn hW h0 hT m hm' k hk cs nx hI
  obtain ⟨cs',nx',e1,e2⟩:=AEx m f _ _ (ADL hI hm' hk) hm' (by omega)
  refine ⟨cs',nx',?_,e2⟩
  have ec:((m + 1:Nat):Int) - 1=(m:Int):=by omega
  unfold Dv
  rw [ec,if_pos (by simp),Ke (by rw [hI.1]; exact hm'),OS,Int.toNat_natCast,h3,OS,Xr (by omega) (by omega)]
  exact e1
include hn in
theorem AEy (cs nx:List Int) (hI:AAu W g.length 0 cs nx):∀ (k s f:Nat) (out:List Int) (q:Int×List Int),(RN g.length s).length=k->s < 2 ^ g.length->BB W k (RN g.length s)=some q->k < f->out.length + k<=1000->DV g (cs,nx) f out (s:Int)=some (out++q.2)
 | 0,s,f + 1,out,q,hk,hs,hq,_,_=>by
  have he:RN g.length s=[]:=List.eq_nil_of_length_eq_zero hk
  have:=(XB g.length (by omega) s hs).1 he
  unfold BB at hq
  obtain rfl:=OI hq
  unfold DV
  rw [(XO g.length (by omega)).1,if_neg (by simp; omega),List.append_nil]
 | k + 1,s,f + 1,out,q,hk,hs,hq,hf,ho=>by
  have h128:=(XO g.length (by omega)).2.1
  have hne:RN g.length s≠[]:=fun e=>by rw [e] at hk; cases hk
  have hns:¬ s=2 ^ g.length - 1:=fun e=>hne ((XB g.length (by omega) s hs).2 e)
  obtain ⟨p1,p2⟩:=Uy (k + 1) hk hq
  obtain ⟨v,w⟩:=q
  cases w with
  | nil=>have:=p1.length_eq; rw [hk] at this; cases this
  | cons x o =>
   obtain ⟨hx,u,hu⟩:=AA1 hq
   obtain ⟨i,rfl,hi,hti⟩:=AAq hx
   obtain ⟨o1,o2,o3,o4⟩:=ACA g.length (by omega) s hs i hi hti
   obtain ⟨q',q1,_,q3⟩:=hI.2.2 s (by omega) hs
   rw [hk,hq] at q1
   obtain rfl:=OI q1
   have hnx:idx nx (s:Int)=some (i:Int):=by
    obtain ⟨hlt,e2⟩:=List.getElem?_eq_some_iff.1 (q3 hne)
    rw [Ke hlt,e2]; rfl
   have ih:=AEy cs nx hI k (s ||| 2 ^ i) f (out++[(i:Int)]) (u,o) (by rw [o3,List.length_erase_of_mem o4]; omega) o1 (by rw [o3]; exact hu) (by omega) (by simp; omega)
   unfold DV
   rw [(XO g.length (by omega)).1,if_pos (by simp; omega)]
   show (idx nx (s:Int)).bind _=_
   rw [hnx,OS,if_pos (Hv (by omega) (by omega)),OS,if_pos (by simp),AEz s (by omega) i (by omega),ih]
   simp
end
/- trestle/court.Inversions$1 -/
/- slices.IndexFunc[[]int,int] -/
/- slices.ContainsFunc[[]int,int] -/
/- trestle/court.Inversions -/
theorem ABT (xs ys:List Int) (h:xs.length<=99999):EF xs ys=some (decide (xs=ys)):=by
 unfold EF
 exact AC7 xs ys h (Er xs ys) (fun f c=>rfl)
/-- How many stand behind x and below it. -/
def AA2 (x:Int) (r:List Int):Nat:=r.countP fun y=>decide (x > y)
def inv:List Int->Nat
 | []=>0
 | x::r=>AA2 x r + inv r
section
variable (cl od:List Int)
end
theorem AAt (c:List (List UInt8)) (h:c.length<=8796093022208):∀ (r pre:List (List UInt8)) (f:Nat),c=pre++r->r.length < f->EK c f pre (pre.length:Int)=some c
 | [],pre,f + 1,e,_=>by
  unfold EK
  rw [if_neg (by rw [e]; simp),e,List.append_nil]
 | v::r,pre,f + 1,e,hf=>by
  have hl2:c.length=pre.length + r.length + 1:=by rw [e]; simp; omega
  simp only [List.length_cons] at hf
  have hc:Gf 16 (pre.length + 1)=true:=by
   unfold Gf
   rw [Bool.and_eq_true]
   exact ⟨Nat.ble_eq_true_of_le (by omega),Nat.ble_eq_true_of_le (by omega)⟩
  unfold EK
  rw [if_pos (by rw [e]; exact G7 pre v r),show idx c (pre.length:Int)=some v by rw [e,D5],OS,if_pos hc,Xr (by omega) (by omega),show ((pre.length:Int) + 1)=(((pre++[v]).length:Nat):Int) by simp]
  exact AAt c h r (pre++[v]) f (by rw [e]; simp) (by omega)
theorem AC4 (g:Ai) (h:g.2.2.2.2.2.2.2.2.length<=8796093022208):Gy g=some g:=by
 unfold Gy Hf
 have:EK g.2.2.2.2.2.2.2.2 200000000000000 [] 0=some g.2.2.2.2.2.2.2.2:=AAt g.2.2.2.2.2.2.2.2 h g.2.2.2.2.2.2.2.2 [] _ rfl (by omega)
 rw [this]; rfl
theorem ADh (l:List (List UInt8)) (h:l.length<=8796093022208):G0 l l=some true:=by
 have go:∀ (d i f:Nat),i + d=l.length->d < f->EL l l f (i:Int)=some (.inl ()):=by
  intro d
  induction d with
  | zero =>
   intro i f e hf
   obtain ⟨f,rfl⟩:∃ q,f=q + 1:=⟨f - 1,by omega⟩
   unfold EL
   rw [if_neg (by simp; omega)]
  | succ d ih =>
   intro i f e hf
   obtain ⟨f,rfl⟩:∃ q,f=q + 1:=⟨f - 1,by omega⟩
   have hi:i < l.length:=by omega
   unfold EL
   rw [if_pos (by simp; omega),Ke hi,OS,OS,if_neg (by simp),Xr (by omega) (by omega),show ((i:Int) + 1)=((i + 1:Nat):Int) by omega]
   exact ih (i + 1) f (by omega) (by omega)
 have h':EL l l 200000000000000 0=some (.inl ()):=go l.length 0 _ (by omega) (by omega)
 unfold G0
 rw [if_neg (by simp),h']; rfl
theorem ADg (g:Ai) (h:g.2.2.2.2.2.2.2.2.length<=8796093022208):Gz g g=some true:=by
 unfold Gz
 rw [ADh _ h]
 simp
theorem ABN (g:List Ai) (hn:g.length<=1000) (h:∀ x ∈ g,x.2.2.2.2.2.2.2.2.length<=8796093022208):GO g=some g:=by
 unfold GO
 have:DD g 100000 [] 0=some g:=ACF g (by omega) (fun f s c=>DD g f s c) (fun pre v r e f=>by
  have hl:g.length=pre.length + r.length + 1:=by rw [e]; simp; omega
  show DD g (f + 1) pre (pre.length:Int)=_
  conv=>lhs; unfold DD
  rw [if_pos (by rw [e]; exact G7 pre v r),show idx g (pre.length:Int)=some v by rw [e,D5],OS,AC4 v (h v (by rw [e]; simp)),OS,if_pos (Hv (by omega) (by omega))]) (fun f=>by
  show DD g (f + 1) g (g.length:Int)=_
  conv=>lhs; unfold DD
  rw [if_neg (by simp)])
 rw [this]; rfl
theorem ACC (g:List Ai) (hn:g.length<=1000) (h:∀ x ∈ g,x.2.2.2.2.2.2.2.2.length<=8796093022208):GP g g=some true:=by
 unfold GP
 have:DF g g 100000 0=some (.inl ()):=P6 (σ:=Unit) g.length (fun _=>()) (some (.inl ())) (fun f c _=>DF g g f c) (by omega) (fun i hi f=>by
  show DF g g (f + 1) (i:Int)=_
  conv=>lhs; unfold DF
  rw [if_pos (by simp; omega),Ke hi,OS,OS,ADg g[i] (h _ (List.getElem_mem hi)),OS,if_neg (by simp)]) (fun f=>by
  show DF g g (f + 1) (g.length:Int)=_
  conv=>lhs; unfold DF
  rw [if_neg (by simp)])
 rw [this,if_neg (by simp)]; rfl
theorem YA {l:List (List AG)}(g:List Ai) (hl:∀ c ∈ l,few c) (hn:l.length<=99999):DU l g 100000 0=some (if Vq l=0 then .inl () else .inr (0,Vq l)):=by
 have go:∀ (r pre:List (List AG)) (f:Nat),l=pre++r->r.length < f->DU l g f (pre.length:Int)=some (if Vq r=0 then .inl () else .inr (0,Vq r)):=by
  intro r
  induction r with
  | nil =>
   intro pre f e hf
   obtain ⟨f,rfl⟩:∃ q,f=q + 1:=⟨f - 1,by simp at hf; omega⟩
   unfold DU
   rw [if_neg (by rw [e]; simp)]; rfl
  | cons c r ih =>
   intro pre f e hf
   obtain ⟨f,rfl⟩:∃ q,f=q + 1:=⟨f - 1,by simp at hf; omega⟩
   have hl2:l.length=pre.length + r.length + 1:=by rw [e]; simp; omega
   simp only [List.length_cons] at hf
   unfold DU
   rw [if_pos (by rw [e]; exact G7 pre c r),show idx l (pre.length:Int)=some c by rw [e,D5],OS,X9 c (hl c (by rw [e]; simp)),OS]
   unfold Vq
   by_cases h:(Tk c).2=0
   ·rw [if_neg (by simp [h]),if_pos h,Fv pre c r (by rw [<-e]; omega)]
    exact ih (pre++[c]) f (by rw [e]; simp) (by omega)
   ·rw [if_pos (by simp [h]),if_neg h,if_neg h]
 exact go l [] 100000 rfl (by omega)
theorem AC2 {l:List (List AG)}{g:List Ai}(hl:∀ c ∈ l,few c) (h16:l.length<=16) (hv:okT l=true) (hg:FewR g) (hn:g.length<=7){q:Int×List Int}(hq:BB (WI l g) g.length (Oh g.length)=some q):C9 l g=some (q.2,q.1,0):=by
 obtain ⟨a1,a2,a3⟩:=XO g.length (by omega)
 have hW:∀ x y,0<=WI l g x y/\WI l g x y<=16:=fun x y=>by
  have:=AAO l g x.toNat y.toNat
  unfold WI
  omega
 have h0:∀ x:Nat,x < g.length->WI l g (x:Int) (x:Int)=0:=fun x hx=>by
  unfold WI vt
  rw [Int.toNat_natCast]
  have:(l.countP fun c=>cm c g x x == -1)=0:=by
   rw [List.countP_eq_zero]
   intro c hc
   have h1:(Tk c).2=0:=by simpa using List.all_eq_true.1 hv c hc
   rw [AEs (PS h1).2 (by omega)]
   simp
  rw [this]; rfl
 have hT:∀ u v:Int,0<=u/\u < g.length->0<=v/\v < g.length->∃ r,idx (Kn g.length (vt l g)) u=some r/\idx r v=some (WI l g u v):=fun u v hu hv=>AAj hu hv
 have hI:AAu (WI l g) g.length (2 ^ g.length - 1) (List.replicate (2 ^ g.length) 0) (List.replicate (2 ^ g.length) 0):=by
  refine ⟨List.length_replicate,List.length_replicate,fun s h1 h2=>?_⟩
  have he:=(XB g.length (by omega) s h2).2 (by omega)
  exact ⟨(0,[]),by rw [he]; rfl,by simp [h2],fun h=>absurd he h⟩
 obtain ⟨cs,nx,e1,e2⟩:=AEx (b:=true) hn hW h0 hT (2 ^ g.length - 1) 100000 _ _ hI (by omega) (by omega)
 have hr0:RN g.length 0=Oh g.length:=AFD g.length (by omega)
 have hl0:(RN g.length 0).length=g.length:=by rw [hr0,JV]
 have e3:=AEy hn cs nx e2 g.length 0 100000 [] q hl0 a3 (by rw [hr0]; exact hq) (by omega) (by simp; omega)
 obtain ⟨q',q1,q2,_⟩:=e2.2.2 0 (Nat.le_refl _) a3
 rw [hl0,hr0,hq] at q1
 obtain rfl:=OI q1
 have hc0:idx cs 0=some q.1:=by
  obtain ⟨hlt,e⟩:=List.getElem?_eq_some_iff.1 q2
  have:=Ke hlt
  rw [e] at this
  exact this
 have w1:wr .i64 (((2 ^ g.length - 1:Nat):Int) + 1)=((2 ^ g.length:Nat):Int):=by rw [Xr (by omega) (by omega)]; omega
 have w2:wr .i64 (((2 ^ g.length - 1:Nat):Int) - 1)=((2 ^ g.length - 1:Nat):Int) - 1:=Xr (by omega) (by omega)
 have he:=(UC l).1 hv
 have mk:Ur 8 ((2 ^ g.length:Nat):Int)=true:=by
  generalize 2 ^ g.length=z at a2 a3
  simp [Ur]; omega
 unfold C9
 rw [if_neg (by simp; omega),YA g hl (by omega),if_pos he,OS]
 simp only []
 rw [if_neg (by simp; omega),ACJ hl hg,if_pos ⟨h16,hv⟩,OS,if_pos (by simp),a1,w1,w2,if_pos mk,if_pos mk,Int.toNat_natCast,e1,OS]
 have e3':DV g (cs,nx) 100000 [] 0=some ([]++q.2):=e3
 rw [e3',OS]
 show (idx cs 0).bind _=_
 rw [hc0]; rfl
theorem U1 {l:List (List AG)}{g:List Ai}(hl:∀ c ∈ l,few c) (h20:l.length<=20) (hg:(FewR g/\g.length<=7)\/(7 < g.length/\g.length<=70)) (hT:∀ x ∈ g,x.2.2.2.2.2.2.2.2.length<=8796093022208):Dh l g=some true:=by
 have hn:g.length<=70:=by rcases hg with h | h <;> omega
 have fin:∀ P:List Int×Int×Int,C9 l g=some P->DA l g=some P->P.1.length<=99999->Dh l g=some true:=by
  intro P h1 h2 h3
  unfold Dh
  rw [ZQ l hl (by omega),OS,ABN g (by omega) hT,OS,h1,OS,h2,OS,ABT _ _ h3,decide_eq_true rfl,OS,if_pos rfl,if_pos (by simp),if_pos (by simp),AAC l hl (by omega),OS,if_pos rfl,ACC g (by omega) hT]; rfl
 by_cases h16:l.length<=16
 ·by_cases he:Vq l=0
  ·have hv:=(UC l).2 he
   by_cases h7:g.length<=7
   ·have hR:FewR g:=by rcases hg with h | h; exact h.1; omega
    obtain ⟨q,q1,q2⟩:=AC3 hl h16 hv hR h7
    refine fin _ (AC2 hl h16 hv hR h7 q1) q2 ?_
    have:=(Uy g.length (JV _) q1).1.length_eq
    rw [JV] at this
    show q.2.length<=_
    omega
   ·refine fin ([],0,8) ?_ ?_ (Nat.zero_le _)
    ·unfold C9
     rw [if_neg (by simp; omega),YA g hl (by omega),if_pos he,OS]
     simp only []
     rw [if_pos (by simp; omega)]
    ·unfold DA
     rw [if_neg (by simp; omega),YB hl (by omega),if_pos he,OS]
     simp only []
     rw [if_pos (by simp; omega)]
  ·refine fin ([],0,Vq l) ?_ ?_ (Nat.zero_le _)
   ·unfold C9
    rw [if_neg (by simp; omega),YA g hl (by omega),if_neg he]; rfl
   ·unfold DA
    rw [if_neg (by simp; omega),YB hl (by omega),if_neg he]; rfl
 ·refine fin ([],0,7) ?_ ?_ (Nat.zero_le _)
  ·unfold C9
   rw [if_pos (by simp; omega)]
  ·unfold DA
   rw [if_pos (by simp; omega)]
theorem ZO (l:List (List AG)) (g:List Ai) (hT:∀ x ∈ g,x.2.2.2.2.2.2.2.2.length<=8796093022208):DJ l g=some true:=by
 obtain ⟨b,h1,h2⟩:=ABV l 20 (by omega)
 unfold DJ
 rw [h1,OS]
 cases b with
 | false=>rfl
 | true =>
  obtain ⟨hn,hl⟩:=h2 rfl
  rw [if_neg (by simp)]
  by_cases h7:g.length<=7
  ·rw [if_pos (by simp; omega),ZX g 7 (by omega),OS]
   cases hq:(decide ((g.length:Int)<=7)&&!g.any VK) with
   | false=>rfl
   | true =>
    simp only [Bool.and_eq_true,decide_eq_true_eq,Bool.not_eq_true'] at hq
    have hg:FewR g:=⟨by omega,fun x hx=>Zk (by
     have:=List.any_eq_false.1 hq.2 x hx
     simpa using this)⟩
    rw [if_neg (by simp),if_neg (by simp; omega),U1 hl (by omega) (.inl ⟨hg,h7⟩) hT]; rfl
  ·rw [if_neg (by simp; omega)]
   by_cases h70:g.length<=70
   ·rw [if_neg (by simp; omega),U1 hl (by omega) (.inr ⟨by omega,h70⟩) hT]; rfl
   ·rw [if_pos (by simp; omega)]; rfl
end Go.Proofs.YtlalcoehgkmhlaaGreatDoor
namespace Go.Proofs.YtlalcoehgkmhlaaGreatDoor
open Go.Deep Go.RowKit
theorem N7 {α:Type}{P:Program}{c:Cd α}{t e:TypeId}{good:α->Prop}{k:Nat}(ht:P.underlying t=some (.slice e)) (hct:P.cellsOf t=1) (hk:P.cellsOf e=k) (hk0:Nat.blt 0 k=true) (hb:Nat.blt 0 (P.bytesOf e)=true) (r:Rc P c e good):Rc P (cdL k c) t (fun xs=>(xs.length<=140737488355328/\xs.length * P.bytesOf e<=140737488355328)/\∀ a ∈ xs,good a):=⟨fun _=>rfl,fun _=>hct.symm,fun {H enc w base spare held fuel v x} h hw=>by
 rcases open_slice ht h with ⟨rfl,_⟩ | ⟨a,len,cap,m,n,D,Pl,rfl,h2,h3,h4,h5,hx,h6⟩
 ·exact ⟨[],.cons (.sl (us:=[]) rfl rfl (Nat.le_refl _) (by unfold maxLen; omega) (fun h=>by omega) (fun i x u hx=>by simp at hx)) .nil,rfl,by simp,fun a ha=>by cases ha⟩
 ·have hlm:len<=m:=by rw [h5]; split <;> omega
  rw [hx] at hw
  simp only [DataW.weights,ht,List.all_cons,List.all_append,Bool.and_eq_true,decide_eq_true_eq] at hw
  obtain ⟨hw1,hw2,_⟩:=hw
  have hb':0 < P.bytesOf e:=Nat.le_of_ble_eq_true hb
  have hk':0 < k:=Nat.le_of_ble_eq_true hk0
  have hlen:len<=140737488355328:=by
   have h7:(((List.range len).map D).length + ((List.range (m - len)).map fun j=>D (len + j)).length) * 1<=(((List.range len).map D).length + ((List.range (m - len)).map fun j=>D (len + j)).length) * P.bytesOf e:=Nat.mul_le_mul_left _ hb'
   have h8:reachBytes=140737488351232:=rfl
   simp only [List.length_map,List.length_range,Nat.mul_one] at h7 hw1
   omega
  have hlb:len * P.bytesOf e<=140737488355328:=by
   have h7:len * P.bytesOf e<=(len + (m - len)) * P.bytesOf e:=Nat.mul_le_mul_right _ (by omega)
   have h8:reachBytes=140737488351232:=rfl
   simp only [List.length_map,List.length_range] at hw1
   omega
  have hwi:∀ i,i < len->(DataW.weights P e (D i)).all (·<=reachBytes)=true:=fun i hi=>by
   rw [List.all_eq_true] at hw2 ⊢
   exact fun n hn=>hw2 n (Sw (List.mem_map.2 ⟨i,by simpa using hi,rfl⟩) n hn)
  obtain ⟨A,hAl,hA⟩:=YZ (n:=len) (p:=fun i (q:α×Value)=>VR w (fun c=>c < w.heap.size) [] (c.enc q.1) q.2/\good q.1/\q.2.cells.size=k/\(∀ z ∈ q.2.cells,z.oneCell'=true)/\∀ (j:Nat) (z:Value),q.2.cells[j]? = some z->w.cell? (a.add (i * k + j))=some z) (fun i hi=>by
   obtain ⟨cs',k1,k2⟩:=h6 i (by omega)
   obtain ⟨_,hl2,hcell⟩:=World.cells?_some k1
   obtain ⟨b,q1,q2,q3⟩:=r.rd k2 (hwi i hi)
   obtain ⟨u,u1,u2,_⟩:=q1.elm q2
   rw [r.el] at u1
   refine ⟨(b,u),u1,q3,?_,fun z hz=>?_,fun j z hz=>?_⟩
   ·rw [u2]; simp [hl2,hk]
   ·rw [u2] at hz
    exact List.all_eq_true.1 q2 z (by simpa using hz)
   ·rw [u2] at hz
    simp only [List.getElem?_toArray] at hz
    have hj:j < P.cellsOf e:=by have:=(List.getElem?_eq_some_iff.1 hz).1; omega
    have:=hcell j hj
    rw [Go.Deep.add_add,hk,hz] at this
    exact this)
  refine ⟨A.map (·.1),.cons ?_ .nil,rfl,⟨by simp [hAl,hlen],by simpa [hAl] using hlb⟩,fun q hq=>?_⟩
  ·refine .sl (us:=A.map (·.2)) (by simp [hAl]) (by simp) h3 h4 (fun h0=>?_) (fun i x u hx hu=>?_)
   ·obtain ⟨g1,g2,g3,g4,g5⟩:=hA 0 (A[0]'(by omega)) (List.getElem?_eq_getElem (by omega))
    have g6:=g5 0 _ (Array.getElem?_eq_getElem (by omega))
    have hs:=Yu (by simpa using g6)
    refine ⟨a,rfl,hs,?_,fun i u hu=>?_⟩
    ·have:=g6
     unfold World.cell? at this
     split at this
     ·next hb=>have:=(Array.getElem?_eq_some_iff.1 hb).1; rw [show (a.add (0 * k + 0)).block=a.block by unfold Addr.add; split <;> rfl] at this; exact this
     ·cases this
    ·rw [List.getElem?_map] at hu
     obtain ⟨p,hp,rfl⟩:=Option.map_eq_some_iff.1 hu
     obtain ⟨_,_,q1,q2,q3⟩:=hA i p hp
     refine ⟨q1,q2,fun j z hz=>?_⟩
     have:=q3 j z hz
     obtain ⟨ab,ao,asp⟩:=a
     simp only at hs
     subst hs
     rw [Gs] at this
     exact this
   ·rw [List.getElem?_map,List.getElem?_map] at hx
    rw [List.getElem?_map] at hu
    obtain ⟨p,hp,rfl⟩:=Option.map_eq_some_iff.1 hx
    obtain ⟨p1,hp1,rfl⟩:=Option.map_eq_some_iff.1 hp
    obtain ⟨p2,hp2,rfl⟩:=Option.map_eq_some_iff.1 hu
    rw [hp1] at hp2
    injection hp2 with hp2
    subst hp2
    exact (hA i p1 hp1).1
  ·obtain ⟨i,hi⟩:=List.getElem?_of_mem hq
   rw [List.getElem?_map] at hi
   obtain ⟨p,hp,rfl⟩:=Option.map_eq_some_iff.1 hi
   exact (hA i p hp).2.1⟩
end Go.Proofs.YtlalcoehgkmhlaaGreatDoor
