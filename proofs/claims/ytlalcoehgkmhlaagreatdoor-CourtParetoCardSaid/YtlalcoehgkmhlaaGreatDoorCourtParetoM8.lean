/- Lemmas for the proof. -/
import Derived.Test.YtlalcoehgkmhlaaGreatDoorCourtParetoM1
import Derived.Test.YtlalcoehgkmhlaaGreatDoorCourtParetoM2
import Derived.Test.YtlalcoehgkmhlaaGreatDoorCourtParetoM3
import Derived.Test.YtlalcoehgkmhlaaGreatDoorCourtParetoM4
import Derived.Test.YtlalcoehgkmhlaaGreatDoorCourtParetoM5
import Derived.Test.YtlalcoehgkmhlaaGreatDoorCourtParetoM6
import Derived.Test.YtlalcoehgkmhlaaGreatDoorCourtParetoM7
namespace Go.Proofs.YtlalcoehgkmhlaaGreatDoor
open Go.RowKit
/- slices.SortStableFunc[[]trestle/court.seated,trestle/court.seated] -/
/- trestle/court.groups -/
/- trestle/court.Order -/
/-- What a text says of two places, as a weak order of all numbers. -/
def fN (c:List AE) (g:List Am) (x y:Nat):Int:=if x < 64 then (if y < 64 then cm c g x y else -1) else if y < 64 then 1 else 0
theorem Vr {c:List AE}{g:List Am}{x y:Nat}(hx:x < 64) (hy:y < 64):fN c g x y=cm c g x y:=by unfold fN; rw [if_pos hx,if_pos hy]
theorem Zf {c:List AE}(g:List Am) (hg:H6 [] c):Wk3 (fN c g):=by
 refine ⟨fun a b=>?_,fun a b=>?_,fun a b d h1 h2=>?_⟩
 ·unfold fN
  split <;> split <;> first | exact YJ hg ‹_› ‹_› | omega
 ·unfold fN
  by_cases ha:a < 64 <;> by_cases hb:b < 64 <;> simp only [ha,hb,if_true,if_false] <;> first | exact XM hg ha hb | rfl
 ·have:=(Ux g hg).t
  by_cases ha:a < 64 <;> by_cases hb:b < 64 <;> by_cases hd:d < 64 <;> simp only [fN,ha,hb,hd,if_true,if_false] at h1 h2 ⊢ <;> first | exact (Ux g hg).t ⟨a,ha⟩ ⟨b,hb⟩ ⟨d,hd⟩ h1 h2 | omega | (have:=YJ (g:=g) hg ha hb; omega)
section
variable {f:Nat->Nat->Int}(hf:Wk3 f)
include hf
end
section
variable {c:List AE}{g:List Am}(hc:few c) (hv:(MN c).2=0) (hg:FewR g)
include hc hv hg
end
theorem TI {p:Nat->Nat->Bool}{n k:Nat}{v:Int×Int}(h:v ∈ pairP p n k):∃ x y:Nat,x < k/\y < n/\p x y=true/\v=((x:Int),(y:Int)):=by
 unfold pairP Re at h
 obtain ⟨x,hx,h⟩:=List.mem_flatMap.1 h
 obtain ⟨y,hy,rfl⟩:=List.mem_map.1 h
 obtain ⟨h1,h2⟩:=List.mem_filter.1 hy
 exact ⟨x,y,List.mem_range.1 hx,List.mem_range.1 h1,h2,rfl⟩
section
variable {c:List (List AE)}{g:List Am}(hc:∀ x ∈ c,few x) (h16:c.length<=16) (hv:okT c=true) (hg:FewR g) (hn:g.length<=7){q:Int×List Int}(hq:BB (WI c g) g.length (QV g.length)=some q)
include hc h16 hv hg hn hq
theorem SV {o:List Int}(ho:o.Perm q.2):prS (WI c g) q.2<=prS (WI c g) o:=by
 have _:=hc; have _:=h16; have _:=hv; have _:=hg; have _:=hn
 obtain ⟨q1,q2⟩:=Ka g.length (Ej _) hq
 have:=(XD g.length (Ej _) (Q0 _) hq o (ho.trans q1)).1
 omega
theorem Xv {v:Int}(h:v ∈ q.2):∃ i:Nat,v=(i:Int)/\i < g.length:=by
 have _:=hc; have _:=h16; have _:=hv; have _:=hg; have _:=hn
 have:=KL.1 ((Ka g.length (Ej _) hq).1.mem_iff.1 h)
 exact ⟨v.toNat,by omega,by omega⟩
theorem WH {i:Nat}(h:i < g.length):(i:Int) ∈ q.2:=by
 have _:=hc; have _:=h16; have _:=hv; have _:=hg; have _:=hn
 exact (Ka g.length (Ej _) hq).1.mem_iff.2 (KL.2 ⟨by omega,by omega⟩)
theorem TN:q.2.Nodup:=by
 have _:=hc; have _:=h16; have _:=hv; have _:=hg; have _:=hn
 exact (Ka g.length (Ej _) hq).1.nodup_iff.2 (Ok _)
theorem XF:q.2.length=g.length:=by
 have _:=hc; have _:=h16; have _:=hv; have _:=hg; have _:=hn
 rw [(Ka g.length (Ej _) hq).1.length_eq,Ej]
theorem U0 (x y:Nat):WI c g (x:Int) (y:Int)=vt c g x y:=by
 have _:=hc; have _:=h16; have _:=hv; have _:=hg; have _:=hn; have _:=hq
 unfold WI
 rw [Int.toNat_natCast,Int.toNat_natCast]
theorem X5 {t:List AE}(ht:t ∈ c){b x y:Nat}(hb:b < g.length) (hx:x < g.length) (hy:y < g.length) (h1:cm t g b x = -1) (h2:cm t g x y = -1):cm t g b y = -1:=by
 have _:=hc; have _:=h16; have _:=hg; have _:=hq
 have hw:=(Zf g (Qk hv hn ht)).t b x y
 rw [Vr (by omega) (by omega),Vr (by omega) (by omega),Vr (by omega) (by omega),h1,h2] at hw
 exact hw (by decide) (by decide)
theorem Xs (hne:c≠[]){x y:Nat}(hx:x < g.length) (hy:y < g.length) (h:vt c g x y=(c.length:Int)):∃ i j:Nat,A4 q.2 (x:Int)=some (i:Int)/\A4 q.2 (y:Int)=some (j:Int)/\i < j:=by
 have hlen:=XF hc h16 hv hg hn hq
 have hnd:=TN hc h16 hv hg hn hq
 obtain ⟨h1,h2⟩:=Rr hv hn hx hy h
 have hcl:0 < c.length:=List.length_pos_iff.2 hne
 have hxy:(x:Int)≠(y:Int):=fun e=>by
  have e':x=y:=by omega
  subst e'
  rw [h2] at h
  omega
 rcases TX (WH hc h16 hv hg hn hq hx) (WH hc h16 hv hg hn hq hy) hxy with ⟨A,B,C,e⟩ | ⟨A,B,C,e⟩
 ·rw [e] at hnd hlen
  have n1:=List.nodup_append.1 hnd
  have n2:=List.nodup_cons.1 n1.2.1
  have n3:=List.nodup_append.1 n2.2
  have hx':(x:Int) ∉ A:=fun hm=>n1.2.2 _ hm _ (by simp) rfl
  have hy':(y:Int) ∉ A++(x:Int)::B:=fun hm=>by
   rcases List.mem_append.1 hm with hm | hm
   ·exact n1.2.2 _ hm _ (by simp) rfl
   ·rcases List.mem_cons.1 hm with hm | hm
    ·exact hxy hm.symm
    ·exact n3.2.2 _ hm _ (by simp) rfl
  refine ⟨A.length,(A++(x:Int)::B).length,?_,?_,by simp⟩
  ·rw [e]; exact RP A _ _ hx' (by omega)
  ·rw [e,show A++(x:Int)::(B++(y:Int)::C)=(A++(x:Int)::B)++(y:Int)::C by simp]
   exact RP _ C _ hy' (by simp at hlen ⊢; omega)
 ·exfalso
  have hb:=SV hc h16 hv hg hn hq (o:=A++(x:Int)::(B++(y:Int)::C)) (by
   rw [e]
   refine List.Perm.append_left A ?_
   have e1:((x:Int)::(B++(y:Int)::C)).Perm ((x:Int)::(y:Int)::(B++C)):=List.Perm.cons _ List.perm_middle
   have e2:((y:Int)::(B++(x:Int)::C)).Perm ((y:Int)::(x:Int)::(B++C)):=List.Perm.cons _ List.perm_middle
   exact e1.trans ((List.Perm.swap _ _ _).trans e2.symm))
  have hB:∀ b ∈ B,∃ i:Nat,b=(i:Int)/\i < g.length:=fun b hb'=>Xv hc h16 hv hg hn hq (by rw [e]; simp [hb'])
  have hs:=Uc (W:=WI c g) (A:=A) (B:=B) (C:=C) (x:=(x:Int)) (y:=(y:Int)) (fun b hb'=>by
   obtain ⟨i,rfl,hi⟩:=hB b hb'
   rw [U0 hc h16 hv hg hn hq,U0 hc h16 hv hg hn hq]
   exact VM hv hn fun t ht hp=>X5 hc h16 hv hg hn hq ht hi hx hy hp (h1 t ht)) (fun b hb'=>by
   obtain ⟨i,rfl,hi⟩:=hB b hb'
   rw [U0 hc h16 hv hg hn hq,U0 hc h16 hv hg hn hq]
   exact VM hv hn fun t ht hp=>X5 hc h16 hv hg hn hq ht hx hy hi (h1 t ht) hp) (by
   rw [U0 hc h16 hv hg hn hq,U0 hc h16 hv hg hn hq,h2,h]; omega)
  rw [e] at hb
  omega
/-- The one that beats each other one is the first. -/
theorem Th {x:Nat}(hx:x < g.length) (h:∀ y:Nat,y < g.length->x≠y->vt c g y x < vt c g x y):idx q.2 0=some (x:Int):=by
 obtain ⟨A,B,e⟩:=List.append_of_mem (WH hc h16 hv hg hn hq hx)
 have hnd:=TN hc h16 hv hg hn hq
 by_cases hA:A=[]
 ·rw [e,hA]; rfl
 ·exfalso
  have hb:=SV hc h16 hv hg hn hq (o:=(x:Int)::(A++B)) (by rw [e]; exact List.perm_middle.symm)
  have hs:=TL (W:=WI c g) (B:=B) (x:=(x:Int)) hA fun a ha=>by
   obtain ⟨i,rfl,hi⟩:=Xv hc h16 hv hg hn hq (v:=a) (by rw [e]; simp [ha])
   rw [U0 hc h16 hv hg hn hq,U0 hc h16 hv hg hn hq]
   refine h i hi fun e2=>?_
   subst e2
   rw [e] at hnd
   exact (List.nodup_append.1 hnd).2.2 _ ha _ (by simp) rfl
  rw [e] at hb
  omega
theorem ZA (c31:Bool){x y:Nat}(hx:x < g.length) (hy:y < g.length) (v11:List Int×Int×Int):BI g c v11 (x:Int) c31 (y:Int) 100000 0 0=some (vt c g x y - vt c g y x):=by
 have _:=hq
 have h:=MO (σ:=Int) c.length (fun k=>vt (c.take k) g x y - vt (c.take k) g y x) (some (vt c g x y - vt c g y x)) (fun f i st=>BI g c v11 (x:Int) c31 (y:Int) f st i) (by omega) (fun k hk f=>by
  show BI g c v11 (x:Int) c31 (y:Int) (f + 1) (vt (c.take k) g x y - vt (c.take k) g y x) (k:Int)=BI g c v11 (x:Int) c31 (y:Int) f (vt (c.take (k + 1)) g x y - vt (c.take (k + 1)) g y x) _
  conv=>lhs; unfold BI
  have hm:c[k] ∈ c:=List.getElem_mem hk
  have hgd:=Qk hv hn hm
  have h32:c[k].length<=32:=by
   have h1:(MN c[k]).2=0:=by simpa using List.all_eq_true.1 hv c[k] hm
   exact (Jt h1).1
  have e:DW c[k] (gAt g x) (gAt g y) (x:Int) (y:Int)=some (cm c[k] g x y):=Vl c[k] _ _ _ _ (hc _ hm) h32 hgd (hg.at_ hx) (hg.at_ hy)
  have hs:=XM (g:=g) hgd (x:=y) (y:=x) (by omega) (by omega)
  have hvv:=YJ (g:=g) hgd (x:=x) (y:=y) (by omega) (by omega)
  have ev:vt (c.take (k + 1)) g x y - vt (c.take (k + 1)) g y x=vt (c.take k) g x y - vt (c.take k) g y x - cm c[k] g x y:=by
   rw [List.take_succ_eq_append_getElem hk,Q3,Q3]
   unfold dl
   rcases hvv with h | h | h <;> rw [hs,h] <;> simp <;> omega
  have b1:=Tf (c.take k) g x y
  have b2:=Tf (c.take k) g y x
  have b3:(c.take k).length<=c.length:=by rw [List.length_take]; omega
  rw [if_pos (by simp; omega),H3 hk,OS,XW g hx,OS,XW g hy,OS,e,OS,ev,Q6 (n:=vt (c.take k) g x y - vt (c.take k) g y x - cm c[k] g x y) (by omega) (by omega)]) (fun f=>by
  show BI g c v11 (x:Int) c31 (y:Int) (f + 1) (vt (c.take c.length) g x y - vt (c.take c.length) g y x) (c.length:Int)=_
  conv=>lhs; unfold BI
  rw [if_neg (by simp),List.take_length])
 exact h
def PV (c:List (List AE)) (g:List Am) (x k:Nat):Bool:=decide ((g.length:Int) > 1)&&(List.range k).all fun y=>decide (x=y)||decide (vt c g y x < vt c g x y)
theorem Y9 {x:Nat}(hx:x < g.length) (v11:List Int×Int×Int):A7 g c v11 (x:Int) 100000 (decide ((g.length:Int) > 1)) 0=some (PV c g x g.length):=by
 have h:=MO (σ:=Bool) g.length (fun k=>PV c g x k) (some (PV c g x g.length)) (fun f i st=>A7 g c v11 (x:Int) f st i) (by omega) (fun y hy f=>by
  show A7 g c v11 (x:Int) (f + 1) (PV c g x y) (y:Int)=A7 g c v11 (x:Int) f (PV c g x (y + 1)) _
  conv=>lhs; unfold A7
  have e:(if PV c g x y=true then if ((x:Int)==(y:Int))=true then some true else some (decide (vt c g x y - vt c g y x > 0)) else some false:Option Bool)=some (PV c g x (y + 1)):=by
   have es:PV c g x (y + 1)=(PV c g x y&&(decide (x=y)||decide (vt c g y x < vt c g x y))):=by
    unfold PV
    rw [List.range_succ,List.all_append,Bool.and_assoc]; simp
   rw [es]
   cases hw:PV c g x y with
   | false=>rfl
   | true =>
    rw [if_pos rfl,Bool.true_and]
    by_cases hxy:x=y
    ·rw [if_pos (by simp [hxy]),decide_eq_true hxy]; rfl
    ·rw [if_neg (by simp; omega),decide_eq_false hxy,Bool.false_or]
     congr 1
     exact decide_eq_decide.2 (by omega)
  rw [if_pos (by simp; omega),ZA hc h16 hv hg hn hq _ hx hy v11,OS,e,OS]) (fun f=>by
  show A7 g c v11 (x:Int) (f + 1) _ (g.length:Int)=_
  conv=>lhs; unfold A7
  rw [if_neg (by simp)])
 have e0:PV c g x 0=decide ((g.length:Int) > 1):=by unfold PV; simp
 have h':A7 g c v11 (x:Int) 100000 (PV c g x 0) 0=some (PV c g x g.length):=h
 rwa [e0] at h'
theorem Y8 (n e:Int):BX g c (q.2,n,e) 100000 0=some (.inl ()):=by
 refine MO (σ:=Unit) g.length (fun _=>()) (some (.inl ())) (fun f i _=>BX g c (q.2,n,e) f i) (by omega) (fun x hx f=>?_) (fun f=>?_)
 ·show BX g c (q.2,n,e) (f + 1) (x:Int)=_
  conv=>lhs; unfold BX
  rw [if_pos (by simp; omega),Y9 hc h16 hv hg hn hq hx,OS]
  have e5:(if PV c g x g.length=true then (idx q.2 0).bind fun v49=>some (v49 != (x:Int)) else some false)=some false:=by
   cases hw:PV c g x g.length with
   | false=>rfl
   | true =>
    unfold PV at hw
    rw [Bool.and_eq_true,List.all_eq_true] at hw
    have h1:=Th hc h16 hv hg hn hq hx fun y hy hxy=>by
     have:=hw.2 y (List.mem_range.2 hy)
     simp only [Bool.or_eq_true,decide_eq_true_eq] at this
     rcases this with h | h
     ·exact absurd h hxy
     ·exact h
    rw [if_pos rfl,h1]; simp
  show ((if PV c g x g.length=true then (idx q.2 0).bind fun v49=>some (v49 != (x:Int)) else some false).bind _)=_
  rw [e5,OS,if_neg (by simp)]
 ·show BX g c (q.2,n,e) (f + 1) (g.length:Int)=_
  conv=>lhs; unfold BX
  rw [if_neg (by simp)]
theorem Y7 (n e:Int):BW g c (q.2,n,e) (if c=[] then [] else pairP (agP c g) g.length g.length) 100000 0=some (.inl ()):=by
 have hlen:(if c=[] then [] else pairP (agP c g) g.length g.length).length<=99999:=by
  split
  ·exact Nat.zero_le _
  ·have:=PH (agP c g) g.length g.length
   have:g.length * g.length<=7 * 7:=Nat.mul_le_mul hn hn
   omega
 have hall:∀ v ∈ (if c=[] then [] else pairP (agP c g) g.length g.length),c≠[]/\∃ i j:Nat,A4 q.2 v.1=some (i:Int)/\A4 q.2 v.2=some (j:Int)/\i < j:=fun v hv'=>by
  by_cases h0:c=[]
  ·rw [if_pos h0] at hv'; cases hv'
  ·rw [if_neg h0] at hv'
   obtain ⟨x,y,hx,hy,hp,rfl⟩:=TI hv'
   exact ⟨h0,Xs hc h16 hv hg hn hq h0 hx hy (by simpa [agP] using hp)⟩
 generalize (if c=[] then [] else pairP (agP c g) g.length g.length)=L at hlen hall
 refine MO (σ:=Unit) L.length (fun _=>()) (some (.inl ())) (fun f i _=>BW g c (q.2,n,e) L f i) hlen (fun k hk f=>?_) (fun f=>?_)
 ·show BW g c (q.2,n,e) L (f + 1) (k:Int)=_
  conv=>lhs; unfold BW
  obtain ⟨h0,i,j,i1,i2,i3⟩:=hall L[k] (List.getElem_mem hk)
  have hcl:0 < c.length:=List.length_pos_iff.2 h0
  rw [if_pos (by simp; omega),H3 hk,OS,if_neg (by simp; omega)]
  show ((((A4 q.2 L[k].1).bind fun v20=>(A4 q.2 L[k].2).bind fun v21=>some (decide (v20≥v21))).bind _):Option (Unit ⊕ Bool))=_
  rw [i1,OS,i2,OS,OS,if_neg (by simp; omega)]
 ·show BW g c (q.2,n,e) L (f + 1) (L.length:Int)=_
  conv=>lhs; unfold BW
  rw [if_neg (by simp)]
end
theorem SA (l:List (List (Int×Int×Int×Bool×Bool))) (p:List (Int×Int)) (hl:∀ x ∈ l,∀ v ∈ x,Pn v) (hp:∀ v ∈ p,u8 v.1/\u8 v.2):DA l p=some true:=by
 obtain ⟨g,g1,hg,hn⟩:=UG p 7 (by omega) hp
 have hm:0<=mnI (l.length:Int) 5/\mnI (l.length:Int) 5<=5/\mnI (l.length:Int) 5<=l.length:=by
  unfold mnI
  split <;> omega
 obtain ⟨c,c1,c2,c3,c4⟩:=Vm ((l.take (mnI (l.length:Int) 5).toNat).drop (0:Int).toNat) (by rw [List.length_drop,List.length_take]; omega) (fun x hx=>hl x (List.mem_of_mem_take (List.mem_of_mem_drop hx))) (fun f i st=>BV l g f st i) (fun pre v r e f st=>by
  show BV l g (f + 1) st (pre.length:Int)=_
  conv=>lhs; unfold BV
  rw [if_pos (by rw [e]; exact Hc pre v r)]
  rw [show idx ((l.take (mnI (l.length:Int) 5).toNat).drop (0:Int).toNat) (pre.length:Int)=some v by rw [e,FJ],OS] <;> rfl) (fun f st=>by
  show BV l g (f + 1) st _=_
  conv=>lhs; unfold BV
  rw [if_neg (by simp)])
 have c16:c.length<=16:=by rw [c4,List.length_drop,List.length_take]; omega
 obtain ⟨q,hq⟩:=Ow (WI c g) g.length (QV g.length) (Ej _)
 obtain ⟨q1,q2⟩:=Ka g.length (Ej _) hq
 have ql:q.2.length=g.length:=by rw [q1.length_eq,Ej]
 have d2:B4 c g q.2=some q.1:=by rw [Ys c2 hg c16 c3 q.2 (by omega),if_pos (S0 q1),q2]
 have c1':BV l g 100000 [] 0=some c:=c1
 have g1':ER p 7=some g:=g1
 unfold DA
 rw [g1',OS,if_pos (by unfold DN; simp; omega),c1',OS,XO c2 c16 c3 hg hn hq,OS]
 show ((if ((0:Int)!=0)=true then some true else if ((q.2.length:Int)!=(g.length:Int))=true then some true else (B4 c g q.2).bind fun v12=>some (q.1 != v12)).bind _)=_
 rw [if_neg (by simp),if_neg (by simp; omega),d2,OS,OS,if_neg (by simp),VT c2 hg c16 c3,OS,Y7 c2 c16 c3 hg hn hq,OS]
 simp only []
 rw [Y8 c2 c16 c3 hg hn hq]; rfl
end Go.Proofs.YtlalcoehgkmhlaaGreatDoor
