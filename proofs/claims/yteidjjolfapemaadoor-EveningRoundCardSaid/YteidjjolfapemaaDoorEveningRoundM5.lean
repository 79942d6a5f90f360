/- What is written is read again, and what is read is written again. -/
import Derived.Test.YteidjjolfapemaaDoorEveningRoundM1
import Derived.Test.YteidjjolfapemaaDoorEveningRoundM2
import Derived.Test.YteidjjolfapemaaDoorEveningRoundM3
import Derived.Test.YteidjjolfapemaaDoorEveningRoundM4
namespace Go.Proofs.YteidjjolfapemaaDoor
open Go.RowKit
theorem NU {p:Int->Bool}{k:Nat}(h:Kz p k 0=false) (x:Nat) (hx:x < k):p x=false:=by
 cases e:p x with
 | false=>rfl
 | true =>
  have:=(HU p k 0).2 ⟨(x:Int),by omega,by omega,e⟩
  rw [h] at this
  cases this
theorem Mn:∀ (r:List (List Int)) (i:Int),NK [] r i=false->∀ t ∈ r,t.length≠0
 | [],_,_,t,h=>by cases h
 | u::r,i,h,t,hm=>by
  unfold NK at h
  simp only [Bool.or_eq_false_iff] at h
  rcases List.mem_cons.1 hm with rfl | hm
  ·have:=h.1.1
   intro e
   rw [e] at this
   cases this
  ·exact Mn r (i + 1) h.2 t hm
theorem Pr {n:Nat}{ev:List (List Int)}(h:chk n [] ev=0):(∀ t ∈ ev,t.length≠0)/\(∀ v ∈ ev.flatten,0<=v/\v < n)/\∀ x:Nat,x < n->ev.flatten.count (x:Int)=1:=by
 unfold chk at h
 rw [if_neg (by simp)] at h
 cases hb:NK [] ev 0 with
 | true=>rw [hb,if_pos rfl] at h; cases h
 | false =>
  rw [hb,if_neg Bool.false_ne_true] at h
  cases hu:ev.flatten.any (NI n) with
  | true=>rw [hu,if_pos rfl] at h; cases h
  | false =>
   rw [hu,if_neg Bool.false_ne_true] at h
   cases h5:Kz (fun x=>decide ((ev.flatten.count x:Int) > 1)) (n:Int).toNat 0 with
   | true=>rw [h5,if_pos rfl] at h; cases h
   | false =>
    rw [h5,if_neg Bool.false_ne_true] at h
    cases h2:Kz (fun x=>((ev.flatten.count x:Int)==0)) (n:Int).toNat 0 with
    | true=>rw [h2,if_pos rfl] at h; cases h
    | false =>
     refine ⟨Mn ev 0 hb,fun v hv=>?_,fun x hx=>?_⟩
     ·have:=List.any_eq_false.1 hu v hv
      simp only [NI,decide_eq_true_eq] at this
      omega
     ·have a:=NU h5 x (by simpa using hx)
      have b:=NU h2 x (by simpa using hx)
      have a:¬ ((ev.flatten.count (x:Int):Nat):Int) > 1:=of_decide_eq_false a
      have b:¬ ((ev.flatten.count (x:Int):Nat):Int)=0:=by simpa using b
      omega
theorem KL {n:Nat}(h1:1<=n) (h64:n<=64){ev:List (List Int)}(h:chk n [] ev=0):ev≠[]/\(∀ t ∈ ev,t≠[])/\Mv ev:=by
 obtain ⟨a,b,c⟩:=Pr h
 refine ⟨fun e=>?_,fun t ht e=>a t ht (by rw [e]; rfl),fun v hv=>by have:=b v hv; omega⟩
 have:=c 0 (by omega)
 rw [e] at this
 simp at this
theorem RX {σ ρ:Type}(n:Nat) (S:Nat->σ) (R:Option ρ) (L:Nat->Int->σ->Option ρ) (hn:n<=99999) (hs:∀ i,i < n->∀ f,L (f + 1) (i:Int) (S i)=L f (wr .i64 ((i:Int) + 1)) (S (i + 1))) (he:∀ f,L (f + 1) (n:Int) (S n)=R):L 100000 0 (S 0)=R:=by
 have go:∀ (d i f:Nat),i + d=n->d < f->L f (i:Int) (S i)=R:=by
  intro d
  induction d with
  | zero =>
   intro i f e hf
   obtain ⟨f,rfl⟩:∃ q,f=q + 1:=⟨f - 1,by omega⟩
   rw [show i=n by omega]; exact he f
  | succ d ih =>
   intro i f e hf
   obtain ⟨f,rfl⟩:∃ q,f=q + 1:=⟨f - 1,by omega⟩
   rw [hs i (by omega) f,IT (by omega) (by omega),show ((i:Int) + 1)=((i + 1:Nat):Int) by omega]
   exact ih (i + 1) f (by omega) (by omega)
 exact go n 0 100000 (by omega) (by omega)
theorem Qz {s:List UInt8}(h:s.length<=10000000):okB s=true:=Nat.ble_eq_true_of_le (Nat.le_trans h (Nat.le_of_ble_eq_true (by kernel_rfl)))
theorem Iy {α:Type}{xs:List α}{i:Nat}(h:i < xs.length):xs.take (i + 1)=xs.take i++[xs[i]]:=List.take_succ_eq_append_getElem h
theorem Ix {α:Type}{xs:List α}{i:Nat}(h:i < xs.length):xs.take i=[]↔i=0:=by
 rw [List.take_eq_nil_iff]
 constructor
 ·rintro (h1 | h1)
  ·exact h1
  ·rw [h1] at h; simp at h
 ·exact .inl
theorem PK (a:List (List UInt8)) (w:List UInt8):unw (a++[w])=unw a++((if a=[] then [] else [32])++w):=by
 by_cases h:a=[]
 ·subst h; simp [unw]
 ·rw [IG h (by simp),if_neg h]; simp [unw]
theorem OW (a:List Int) (x:Int):Jp (a++[x])=Jp a++((if a=[] then [] else [32])++JP x):=by
 unfold Jp
 rw [List.map_append,List.map_singleton,PK]
 by_cases h:a=[]
 ·subst h; rfl
 ·rw [if_neg h,if_neg (by simpa using h)]
theorem MT:∀ (a:List (List Int)) (t:List Int),evF (a++[t])=evF a++((if a=[] then [] else [32,47,32])++Jp t)
 | [],t=>rfl
 | [u],t=>by simp [evF]
 | u::v::r,t=>by
  have ih:=MT (v::r) t
  show evF (u::v::(r++[t]))=_
  have e:evF (u::v::(r++[t]))=Jp u++[32,47,32]++evF ((v::r)++[t]):=rfl
  rw [e,ih]
  simp [evF]
theorem LM (m:List (List (List Int))) (ev:List (List Int)):Hk (m++[ev])=Hk m++(evF ev++[10]):=by
 unfold Hk
 rw [List.map_append,List.flatten_append]; simp
theorem OX:∀ (ws:List (List UInt8)),(∀ w ∈ ws,w.length<=2)->(unw ws).length<=3 * ws.length
 | [],_=>by simp [unw]
 | [w],h=>by have:=h w (by simp); simp [unw]; omega
 | w::v::r,h=>by
  have h1:=h w (by simp)
  have ih:=OX (v::r) fun x hx=>h x (List.mem_cons_of_mem _ hx)
  rw [Eb w (by simp)]
  simp only [List.length_append,List.length_cons] at ih ⊢
  omega
theorem Ko {t:List Int}(h:∀ x ∈ t,0<=x/\x < 64):(Jp t).length<=3 * t.length:=by
 have:=OX (t.map JP) fun w hw=>by
  obtain ⟨x,hx,rfl⟩:=List.mem_map.1 hw
  have:=h x hx
  exact (J6 (n:=x.toNat) (by omega)).le2
 rw [List.length_map] at this
 exact this
theorem Lq:∀ {ev:List (List Int)},Mv ev->(evF ev).length<=3 * ev.flatten.length + 3 * ev.length
 | [],_=>by simp [evF]
 | [t],h=>by
  have:=Ko (t:=t) fun x hx=>h x (by simp [hx])
  simp [evF]; omega
 | t::u::r,h=>by
  have h1:=Ko (t:=t) fun x hx=>h x (by simp [hx])
  have ih:=Lq (ev:=u::r) fun x hx=>h x (by rw [List.flatten_cons]; exact List.mem_append.2 (.inr hx))
  have e:evF (t::u::r)=Jp t++[32,47,32]++evF (u::r):=rfl
  rw [e]
  simp only [List.length_append,List.length_cons,List.length_nil,List.flatten_cons] at ih ⊢
  omega
structure QV (s:List (List (List Int))):Prop where
 evs:s.length<=64
 ev:∀ ev ∈ s,ev.length<=2002/\ev.flatten.length<=2001
 i64:∀ ev ∈ s,Mv ev
theorem Py (ev:List (List Int)) (k:Nat):(ev.take k).flatten.length<=ev.flatten.length:=by
 have:ev.flatten=(ev.take k).flatten++(ev.drop k).flatten:=by rw [<-List.flatten_append,List.take_append_drop]
 rw [this,List.length_append]; omega
theorem Nu {ev:List (List Int)}(h:Mv ev) (k:Nat):Mv (ev.take k):=fun v hv=>by
 obtain ⟨t,ht,hv⟩:=List.mem_flatten.1 hv
 exact h v (List.mem_flatten.2 ⟨t,List.mem_of_mem_take ht,hv⟩)
theorem Nk {ev:List (List Int)}(h:ev.length<=2002/\ev.flatten.length<=2001) (hi:Mv ev) (k:Nat):(evF (ev.take k)).length<=13000:=by
 have a:=Lq (Nu hi k)
 have b:=Py ev k
 have c:(ev.take k).length<=ev.length:=by rw [List.length_take]; omega
 omega
theorem L4 {s:List (List (List Int))}(h:QV s):∀ k,(Hk (s.take k)).length<=13100 * k
 | 0=>by simp [Hk]
 | k + 1=>by
  have ih:=L4 h k
  by_cases hk:k < s.length
  ·have hm:s[k] ∈ s:=List.getElem_mem hk
   have:=Nk (h.ev _ hm) (h.i64 _ hm) s[k].length
   rw [List.take_length] at this
   rw [Iy hk,LM]
   simp only [List.length_append,List.length_cons,List.length_nil]
   omega
  ·have e:s.take (k + 1)=s.take k:=by rw [List.take_of_length_le (by omega),List.take_of_length_le (by omega)]
   rw [e]; omega
theorem Rz {t:List Int}(hn:t.length<=2001) (h2:∀ x ∈ t,0<=x/\x < 64) (acc:List UInt8) (ha:acc.length<=7000000):Ai t 100000 0 acc=some (acc++Jp t):=by
 have hh:=RX (σ:=List UInt8) t.length (fun k=>acc++Jp (t.take k)) (some (acc++Jp t)) (fun f c q=>Ai t f c q) (by omega) (fun k hk f=>by
  show Ai t (f + 1) (k:Int) (acc++Jp (t.take k))=_
  conv=>lhs; unfold Ai
  have hx:=h2 _ (List.getElem_mem hk)
  have hk2:=J6 (n:=(t[k]).toNat) (by omega)
  have n1:Bf t[k]=some (JP t[k]):=by
   have:=hk2.it
   rw [Int.toNat_of_nonneg hx.1] at this
   exact this
  have n3:0 < (JP t[k]).length:=hk2.pos
  have n4:(JP t[k]).length<=2:=hk2.le2
  have hl:=Ko (t:=t.take k) fun x hx=>h2 x (List.mem_of_mem_take hx)
  have hl2:(t.take k).length<=2001:=by rw [List.length_take]; omega
  have ej:CL (k:Int) (acc++Jp (t.take k))=some (acc++Jp (t.take k)++if t.take k=[] then [] else [32]):=by
   unfold CL
   by_cases h0:k=0
   ·rw [if_neg (by simp [h0]),if_pos ((Ix hk).2 h0),List.append_nil]
   ·rw [if_pos (by simp; omega),if_pos (by simp),if_pos (C7 (by omega) (by simp; omega)),if_neg (fun e=>h0 ((Ix hk).1 e))]
  have ea:acc++Jp (t.take k)++(if t.take k=[] then [] else [32])++JP t[k]=acc++Jp (t.take (k + 1)):=by
   rw [Iy hk,OW]; simp only [List.append_assoc]
  have ho:((acc++Jp (t.take k)++(if t.take k=[] then [] else [32])).length + (JP t[k]).length)<=1000000000:=by
   have:(if t.take k=[] then [] else ([32]:List UInt8)).length<=1:=by split <;> simp
   simp only [List.length_append]; omega
  rw [if_pos (by simp; omega),Gz hk,OS,ej,OS,n1,OS,if_pos (by simpa using n3),if_pos (C7 (by omega) ho),ea]) (fun f=>by
  show Ai t (f + 1) (t.length:Int) (acc++Jp (t.take t.length))=_
  conv=>lhs; unfold Ai
  rw [if_neg (by simp),List.take_length])
 have hh':Ai t 100000 0 (acc++[])=some (acc++Jp t):=hh
 rwa [List.append_nil] at hh'
theorem Ry {ev:List (List Int)}(he:ev.length<=2002/\ev.flatten.length<=2001) (hi:Mv ev) (acc:List UInt8) (ha:acc.length<=6500000):Ah ev 100000 0 acc=some (acc++evF ev):=by
 have hh:=RX (σ:=List UInt8) ev.length (fun k=>acc++evF (ev.take k)) (some (acc++evF ev)) (fun f c q=>Ah ev f c q) (by omega) (fun k hk f=>by
  show Ah ev (f + 1) (k:Int) (acc++evF (ev.take k))=_
  conv=>lhs; unfold Ah
  have hl:=Nk he hi k
  have ej:CK (k:Int) (acc++evF (ev.take k))=some (acc++evF (ev.take k)++if ev.take k=[] then [] else [32,47,32]):=by
   unfold CK
   by_cases h0:k=0
   ·rw [if_neg (by simp [h0]),if_pos ((Ix hk).2 h0),List.append_nil]
   ·rw [if_pos (by simp; omega),if_pos (by simp),if_pos (C7 (by omega) (by simp; omega)),if_neg (fun e=>h0 ((Ix hk).1 e))]
  have hq:(acc++evF (ev.take k)++if ev.take k=[] then [] else [32,47,32]).length<=7000000:=by
   have:(if ev.take k=[] then [] else ([32,47,32]:List UInt8)).length<=3:=by split <;> simp
   simp only [List.length_append]; omega
  have htm:ev[k] ∈ ev:=List.getElem_mem hk
  have htl:(ev[k]).length<=2001:=by
   have:=(List.sublist_flatten_of_mem htm).length_le
   omega
  rw [if_pos (by simp; omega),Gz hk,OS,ej,OS,Rz htl (fun x hx=>hi x (List.mem_flatten.2 ⟨_,htm,hx⟩)) _ hq,OS,Iy hk,MT]
  simp only [List.append_assoc]) (fun f=>by
  show Ah ev (f + 1) (ev.length:Int) (acc++evF (ev.take ev.length))=_
  conv=>lhs; unfold Ah
  rw [if_neg (by simp),List.take_length])
 have hh':Ah ev 100000 0 (acc++[])=some (acc++evF ev):=hh
 rwa [List.append_nil] at hh'
theorem Rx {s:List (List (List Int))}(h:QV s):Aq s 100000 0 []=some (Hk s):=by
 have hn:=h.evs
 exact RX (σ:=List UInt8) s.length (fun k=>Hk (s.take k)) (some (Hk s)) (fun f c q=>Aq s f c q) (by omega) (fun k hk f=>by
  show Aq s (f + 1) (k:Int) (Hk (s.take k))=_
  conv=>lhs; unfold Aq
  have hl:=L4 h k
  have hem:s[k] ∈ s:=List.getElem_mem hk
  have hl2:=Nk (h.ev _ hem) (h.i64 _ hem) s[k].length
  rw [List.take_length] at hl2
  have ea:Hk (s.take k)++evF s[k]++[10]=Hk (s.take (k + 1)):=by
   rw [Iy hk,LM]; simp only [List.append_assoc]
  rw [if_pos (by simp; omega),Gz hk,OS,Ry (h.ev _ hem) (h.i64 _ hem) _ (by omega),OS,if_pos (by simp),if_pos (C7 (by omega) (by simp only [List.length_append,List.length_cons,List.length_nil]; omega)),ea]) (fun f=>by
  show Aq s (f + 1) (s.length:Int) (Hk (s.take s.length))=_
  conv=>lhs; unfold Aq
  rw [if_neg (by simp),List.take_length])
theorem PO (n:Int) (h1:1<=n) (h64:n<=64){s:List (List (List Int))}(h:QV s) (hc:∀ ev ∈ s,chk n [] ev=0):Bz n s=some true:=by
 have hn:=h.evs
 have hg:Aj n=some true:=by
  unfold Aj
  rw [if_pos (by simpa using h1)]; simp [h64]
 have hl:A8 n [] s 100000 0=some (.inl ()):=RF s.length _ (fun f i=>A8 n [] s f i) (by omega) (fun i hi f=>by
  have hm:s[i] ∈ s:=List.getElem_mem hi
  have hb:=h.ev _ hm
  conv=>lhs; unfold A8
  rw [if_pos (by simp; exact hi),Gz hi,OS,F0 n (by omega) h64 [] _ (by omega) (by omega),hc _ hm,OS,if_neg (by decide)]) (fun f=>by
  show A8 n [] s (f + 1) (s.length:Int)=_
  unfold A8
  rw [if_neg (by simp)])
 unfold Bz CW
 rw [hg,OS,if_neg (by decide),if_neg (by decide),OS,if_neg (by decide),if_neg (by rw [decide_eq_true_eq]; omega),hl]
 rfl
theorem LC (n:Int) (h1:1<=n) (h64:n<=64){s:List (List (List Int))}(h:QV s) (hc:∀ ev ∈ s,chk n [] ev=0):BL n s=some (Hk s):=by
 have hl:=L4 h s.length
 have hn:=h.evs
 rw [List.take_length] at hl
 unfold BL
 rw [PO n h1 h64 h hc,OS,if_neg (by decide),Rx h,OS,if_pos (Qz (by omega))]
/- Lines of a schedule's text, and back. -/
theorem Kf:∀ {s:List (List (List Int))},(∀ ev ∈ s,(10:UInt8) ∉ evF ev)->pcs 10 (Hk s)=s.map evF++[[]]
 | [],_=>rfl
 | ev::s,h=>by
  have e:Hk (ev::s)=evF ev++10::Hk s:=by unfold Hk; simp
  rw [e,Kc 10 _ (h ev (by simp)),Kf fun x hx=>h x (List.mem_cons_of_mem _ hx)]
  rfl
theorem LN (n:Int):∀ (s:List (List (List Int))) (line:Nat) (out:List (List (List Int))),(∀ ev ∈ s,evP (evF ev)=some ev/\chk n [] ev=0)->out.length + s.length<=64->Jh n (s.map evF++[[]]) line out = .inl (out++s)
 | [],line,out,_,_=>by
  show Jh n [[]] line out=_
  unfold Jh
  rw [if_pos rfl,List.append_nil]
 | ev::s,line,out,h,hl=>by
  obtain ⟨q,r,hq⟩:=List.exists_cons_of_ne_nil (show s.map evF++[[]]≠[] by simp)
  obtain ⟨h1,h2⟩:=h ev (by simp)
  have ih:=LN n s (line + 1) (out++[ev]) (fun x hx=>h x (List.mem_cons_of_mem _ hx)) (by simp at hl ⊢; omega)
  rw [hq] at ih
  show Jh n (evF ev::(s.map evF++[[]])) line out=_
  rw [hq]
  unfold Jh
  rw [h1]
  simp only []
  rw [if_neg (by rw [h2]; exact fun e=>e rfl),if_neg (by simp at hl; omega),ih]
  simp
theorem LO (n:Int):∀ (ps:List (List UInt8)) (line:Nat) (out s:List (List (List Int))),ps≠[]->Jh n ps line out = .inl s->(∀ p ∈ ps,∀ t,evP p=some t->chk n [] t=0->evF t=p)->∃ s',s=out++s'/\ps=s'.map evF++[[]]/\∀ ev ∈ s',chk n [] ev=0
 | [],_,_,_,h,_,_=>absurd rfl h
 | [p],line,out,s,_,h,_=>by
  unfold Jh at h
  split at h
  ·next hp =>
   have h:out=s:=Sum.inl.inj h
   subst h hp
   exact ⟨[],by simp,rfl,fun ev he=>by cases he⟩
  ·cases h
 | p::q::r,line,out,s,_,h,hp=>by
  unfold Jh at h
  cases he:evP p with
  | none=>rw [he] at h; cases h
  | some t =>
   rw [he] at h
   simp only [] at h
   split at h
   ·cases h
   ·next hc =>
    have hc:chk n [] t=0:=Decidable.byContradiction hc
    split at h
    ·cases h
    ·obtain ⟨s',e1,e2,e3⟩:=LO n (q::r) (line + 1) (out++[t]) s (by simp) h fun x hx=>hp x (List.mem_cons_of_mem _ hx)
     refine ⟨t::s',by rw [e1]; simp,by rw [e2,List.map_cons,hp p (by simp) t he hc]; rfl,fun ev hev=>?_⟩
     rcases List.mem_cons.1 hev with rfl | hev
     ·exact hc
     ·exact e3 ev hev
theorem Mq (n:Int):∀ (ps:List (List UInt8)) (line:Nat) (out:List (List (List Int))) (w:Int×Int),Jh n ps line out = .inr w->w.2≠0/\0<=w.1/\w.1 + 1<=(line:Int) + ps.length
 | [],_,_,_,h=>by cases h
 | [p],line,out,w,h=>by
  unfold Jh at h
  split at h
  ·cases h
  ·have h:((line:Int),(3:Int))=w:=Sum.inr.inj h
   subst h
   exact ⟨(show (3:Int)≠0 by decide),by simp,by simp⟩
 | p::q::r,line,out,w,h=>by
  unfold Jh at h
  cases he:evP p with
  | none =>
   rw [he] at h
   have h:((line:Int),(3:Int))=w:=Sum.inr.inj h
   subst h
   exact ⟨(show (3:Int)≠0 by decide),by simp,by simp; omega⟩
  | some t =>
   rw [he] at h
   simp only [] at h
   split at h
   ·next hc =>
    have h:((line:Int),chk n [] t)=w:=Sum.inr.inj h
    subst h
    exact ⟨hc,by simp,by simp; omega⟩
   ·split at h
    ·have h:((line:Int),(7:Int))=w:=Sum.inr.inj h
     subst h
     exact ⟨(show (7:Int)≠0 by decide),by simp,by simp; omega⟩
    ·obtain ⟨a1,a2,a3⟩:=Mq n (q::r) (line + 1) (out++[t]) w h
     refine ⟨a1,a2,?_⟩
     simp only [List.length_cons] at a3 ⊢
     omega
theorem QN:∀ (s:List (List (List Int))) (text:List UInt8),pcs 10 text=s.map evF++[[]]->(∀ ev ∈ s,True)->Hk s=text:=by
 -- a text is told by its pieces
 have key:∀ (a b:List UInt8),pcs 10 a=pcs 10 b->a=b:=by
  intro a
  induction a with
  | nil =>
   intro b h
   cases b with
   | nil=>rfl
   | cons x b =>
    exfalso
    obtain ⟨w,ws,e⟩:=E8 10 b
    have h:[[]]=pcs 10 (x::b):=h
    unfold pcs at h
    by_cases hx:x=10
    ·rw [if_pos hx,e] at h
     simp at h
    ·rw [if_neg hx,e] at h
     simp at h
  | cons y a ih =>
   intro b h
   obtain ⟨v,vs,e1⟩:=E8 10 a
   cases b with
   | nil =>
    exfalso
    have h:pcs 10 (y::a)=[[]]:=h
    unfold pcs at h
    by_cases hy:y=10
    ·rw [if_pos hy,e1] at h
     simp at h
    ·rw [if_neg hy,e1] at h
     simp at h
   | cons x b =>
    obtain ⟨w,ws,e2⟩:=E8 10 b
    unfold pcs at h
    by_cases hy:y=10 <;> by_cases hx:x=10
    ·rw [if_pos hy,if_pos hx] at h
     rw [hy,hx,ih b (List.cons.inj h).2]
    ·rw [if_pos hy,if_neg hx,e2] at h
     simp at h
    ·rw [if_neg hy,if_pos hx,e1] at h
     simp at h
    ·rw [if_neg hy,if_neg hx,e1,e2] at h
     simp only [List.cons.injEq] at h
     obtain ⟨⟨h1,h2⟩,h3⟩:=h
     rw [h1,ih b (by rw [e1,e2,h2,h3])]
 intro s
 induction s with
 | nil =>
  intro text h _
  exact key [] text (by rw [h]; rfl)
 | cons ev s _ =>
  intro text h _
  refine key _ text ?_
  rw [h]
  refine Kf fun x hx hm=>?_
  -- a piece holds no separator
  have none10:∀ (t:List UInt8),∀ p ∈ pcs 10 t,(10:UInt8) ∉ p:=by
   intro t
   induction t with
   | nil =>
    intro p hp
    have hp:p ∈ [[]]:=hp
    rw [List.mem_singleton.1 hp]; simp
   | cons z t ih =>
    intro p hp
    obtain ⟨w,ws,e⟩:=E8 10 t
    unfold pcs at hp
    by_cases hz:z=10
    ·rw [if_pos hz] at hp
     rcases List.mem_cons.1 hp with hp | hp
     ·rw [hp]; simp
     ·exact ih p hp
    ·rw [if_neg hz,e] at hp
     rw [e] at ih
     rcases List.mem_cons.1 hp with hp | hp
     ·rw [hp]
      simp only [List.mem_cons,not_or]
      exact ⟨fun e=>hz e.symm,ih w (by simp)⟩
     ·exact ih p (List.mem_cons_of_mem _ hp)
  exact none10 text (evF x) (by rw [h]; exact List.mem_append.2 (.inl (List.mem_map.2 ⟨x,hx,rfl⟩))) hm
theorem Mo (B:Nat):∀ (s:List (List (List Int))),(∀ ev ∈ s,(evF ev).length<=B)->(Hk s).length<=(B + 1) * s.length
 | [],_=>by simp [Hk]
 | ev::s,h=>by
  have e:Hk (ev::s)=evF ev++10::Hk s:=by unfold Hk; simp
  have ih:=Mo B s fun x hx=>h x (List.mem_cons_of_mem _ hx)
  have h1:=h ev (by simp)
  rw [e,List.length_append,List.length_cons,List.length_cons,Nat.mul_add]
  omega
theorem Mh (n:Int) (h1:1<=n) (h64:n<=64) (text:List UInt8) (h:text.length<=2000):BM n text=some (match Jh n (pcs 10 text) 0 [] with | .inl s=>(s,0,0) | .inr w=>([],w.1,w.2)):=by
 have hg:Aj n=some true:=by
  unfold Aj
  rw [if_pos (by simpa using h1)]; simp [h64]
 have q1:=J7 n (by omega) h64 100000 text [] 0 h (by omega) (by omega) (by simp)
 have q1:BZ n 100000 text [] 0=_:=q1
 unfold BM
 rw [hg,OS,if_neg (show ¬ (!true)=true by decide),if_neg (by rw [decide_eq_true_eq]; omega),q1,OS]
 cases Jh n (pcs 10 text) 0 [] <;> rfl
theorem MK (text:List UInt8):B6 text [10]=some (((pcs 10 text).length:Int) - 1):=by
 show some ((text.count 10:Nat):Int)=_
 rw [JQ]
 congr 1
 omega
theorem L5 (m:Nat) (h1:1<=m) (h64:m<=64) (text:List UInt8) (h:text.length<=2000):(BM (m:Int) text).bind (fun v11 =>
 if (v11.2.2 != 0)=true then
 (if ((v11.1.length:Int)==0)=true then if (decide (v11.2.1≥0))=true then (B6 text [10]).bind fun v13 =>
 if (decide (v11.2.1<=v13))=true then Ct.bind fun v14 =>
 some v14 else some false else some false else some false).bind fun j16 =>
 some j16
 else
 (BL (m:Int) v11.1).bind fun v20 =>
 (if (v20==text)=true then if (v11.2.1==0)=true then Ct.bind fun v21 =>
 some v21 else some false else some false).bind fun j23 =>
 some j23)=some true:=by
 have hw:Ct=some true:=rfl
 have hpm:=OE 10 text
 rw [Mh m (by omega) (by omega) text h,OS]
 cases hS:Jh m (pcs 10 text) 0 [] with
 | inl s =>
  obtain ⟨b1,b2⟩:=Mp m (pcs 10 text) 0 [] s (fun p hp=>by have:=hpm p hp; omega) (by simp) (fun ev he=>by cases he) hS
  obtain ⟨s',e1,e2,e3⟩:=LO m (pcs 10 text) 0 [] s (Mj 10 text) hS fun p _ t ht hc=>by
   obtain ⟨g1,g2,g3⟩:=KL h1 h64 hc
   exact Pw ht g3 g1 g2
  rw [List.nil_append] at e1
  subst e1
  have hF:QV s:=⟨b1,b2,fun ev he=>(KL h1 h64 (e3 ev he)).2.2⟩
  have ht:Hk s=text:=QN s text e2 fun _ _=>trivial
  simp only []
  rw [if_neg (by decide),LC m (by omega) (by omega) hF e3,OS,ht,if_pos (by simp),if_pos (by decide),hw]
  rfl
 | inr w =>
  obtain ⟨a1,a2,a3⟩:=Mq m (pcs 10 text) 0 [] w hS
  simp only []
  rw [if_pos (by simpa using a1),if_pos (by decide),if_pos (decide_eq_true a2),MK,OS,if_pos (decide_eq_true (by simp at a3; omega)),hw]
  rfl
theorem OM (codes:List Int) (hl:codes.length<=140737488355328) (hc:∀ c ∈ codes,0<=c/\c<=255) (swaps:List (List (Int×Int))) (hsl:swaps.length<=140737488355328) (hx1:∀ l ∈ swaps,l.length<=140737488355328/\∀ p ∈ l,(0<=p.1/\p.1<=255)/\0<=p.2/\p.2<=255) (text:List UInt8) (x3:Int) (b3:0<=x3/\x3<=255):BA codes swaps text x3=some true:=by
 obtain ⟨s,sz,n,hmade,⟨hsz,hev,hlen⟩⟩:=QG codes hl hc swaps hsl hx1
 obtain ⟨zsum,zpos,zlen,n1,n48⟩:=hsz
 have hw:Ct=some true:=rfl
 have hck:∀ ev ∈ Hv s,chk n [] ev=0:=fun ev he=>by
  obtain ⟨u,hu,rfl⟩:=List.mem_map.1 he
  exact Pq (hev u hu) [] (.inl rfl)
 have hb:∀ ev ∈ Hv s,ev.length<=8/\ev.flatten.length<=48:=fun ev he=>by
  obtain ⟨u,hu,rfl⟩:=List.mem_map.1 he
  have h:=hev u hu
  have e1:u.length=sz.length:=by rw [<-h.sz_,List.length_map]
  have e2:=h.len
  rw [Mt,Gf,EZ]
  omega
 have hg:∀ ev ∈ Hv s,ev≠[]/\(∀ t ∈ ev,t≠[])/\Mv ev:=fun ev he=>KL n1 (by omega) (hck ev he)
 have hF:QV (Hv s):=⟨by rw [Hn]; omega,fun ev he=>by have:=hb ev he; omega,fun ev he=>(hg ev he).2.2⟩
 have hlen2:(Hk (Hv s)).length<=2000:=by
  have:=Mo 168 (Hv s) fun ev he=>by
   have a:=Lq (hg ev he).2.2
   have b:=hb ev he
   omega
  rw [Hn] at this
  omega
 have hp:pcs 10 (Hk (Hv s))=(Hv s).map evF++[[]]:=Kf fun ev he=>Pu (hg ev he).1 (hg ev he).2.1 (hg ev he).2.2
 have hS:Jh n (pcs 10 (Hk (Hv s))) 0 [] = .inl (Hv s):=by
  rw [hp,LN n (Hv s) 0 [] (fun ev he=>⟨Pv (hg ev he).1 (hg ev he).2.1 (hg ev he).2.2,hck ev he⟩) (by rw [Hn]; simp; omega)]
  rfl
 have hP:BM n (Hk (Hv s))=some (Hv s,0,0):=by
  rw [Mh n (by omega) (by omega) _ hlen2,hS]
 have hC:B6 (Hk (Hv s)) [10]=some ((Hv s).length:Int):=by
  rw [MK,hp]
  simp
 have hSame:DL (Hv s) (Hv s)=some true:=NG _ (by rw [Hn]; omega) fun ev he=>by have:=hb ev he; omega
 unfold BA
 rw [hmade,OS]
 simp only []
 rw [LC n (by omega) (by omega) hF hck,OS,hP,OS]
 simp only []
 rw [if_neg (by decide),if_neg (by decide),hSame,OS,if_neg (by decide),hC,OS,OS,if_neg (by simp)]
 by_cases ht:text.length<=2000
 ·rw [if_neg (by rw [decide_eq_true_eq]; omega)]
  have em:wr .i64 (1 + wr .i64 (x3.tmod 64))=((1 + (x3 % 64).toNat:Nat):Int):=by
   have p1:=Int.emod_nonneg x3 (show (64:Int)≠0 by decide)
   have p2:=Int.emod_lt_of_pos x3 (show (0:Int) < 64 by decide)
   rw [Int.tmod_eq_emod_of_nonneg b3.1,IT (n:=x3 % 64) (by omega) (by omega),IT (by omega) (by omega)]
   omega
  have p2:=Int.emod_lt_of_pos x3 (show (0:Int) < 64 by decide)
  rw [em]
  exact L5 (1 + (x3 % 64).toNat) (by omega) (by omega) text ht
 ·rw [if_pos (by rw [decide_eq_true_eq]; omega),hw]
  rfl
end Go.Proofs.YteidjjolfapemaaDoor
namespace Go.Proofs.YteidjjolfapemaaDoor.eveningRound
open Go.ChangeShapes Go.WideShapes Go.ChangeAt Go.RowKit
theorem P6 (a0:(List Int)) (a1:(List (List (Int×Int)))) (a2:(List UInt8)) (a3:Int) (h:BA a0 a1 a2 a3=some true){w:World}{v0 v1 v2 v3:Value}(h0:VR w (fun c=>c < w.heap.size) [] ((cdL 1 (cdK .u8)).enc a0) v0) (h1:VR w (fun c=>c < w.heap.size) [] ((cdL 1 (cdL 2 (C8 (cdK .u8) (cdK .u8) (fun _=>rfl) (fun _=>rfl)))).enc a1) v1) (h2:VR w (fun c=>c < w.heap.size) [] (cdS.enc a2) v2) (h3:VR w (fun c=>c < w.heap.size) [] ((cdK .u8).enc a3) v3):Ret Tryd.prog 4 #[v0,v1,v2,v3] w fun v w'=>v = .bool true/\w.grownBy w' none :=
 Ret.mono (Gw.2 (BR.enc (a0,a1,a2,a3,())) (By true) (Kp (s:=BR) (a:=(a0,a1,a2,a3,())) h) w (fun c=>c < w.heap.size) [v0,v1,v2,v3] (fun c hc=>hc) (fun g x h=>by cases h) (.cons h0 (.cons h1 (.cons h2 (.cons h3 .nil))))) fun v w' h=>⟨h.2.v_inv,h.1⟩
set_option maxRecDepth 100000 in
theorem Ot (H:Type) (enc:TypeId×Value->H) (W:World) (base:Nat) (args:Array Value) (ds gs:List (DataW H)) (before:List MemPlace)
  (hval:∀ (j:Nat) t v,Tryd.f4.params[j]? = some t->args[j]? = some v->Value.okWide Tryd.prog W .any base t v)
  (hW:DataW.Whole enc Tryd.prog Tryd.f4.params.toList Rows.eveningRoundSpec.vars false W args.toList ds gs before)
  (hsz:(DataW.weightsEach Tryd.prog (Tryd.f4.params.toList++(OpenSpec.ofChange Rows.eveningRoundSpec).bare.plain.varTypes Tryd.prog) (ds++gs)).all (·<=reachBytes)=true) :
  Calls Tryd.prog 4 args W fun e W'=>∃ v,e = .returned v/\Rows.eveningRoundSpec.post enc Tryd.prog Tryd.f4 false true false false W args v W':=by
 have hW':=hW
 obtain ⟨p,q,hA0,hV,rfl,hfz,hnd⟩:=hW
 have hA:DataW.TrodAll enc Tryd.prog W 0 (fun _=>true) true Tryd.f4.params.toList args.toList ds p:=hA0
 have hpar:Tryd.f4.params=#[24,25,9,5]:=by kernel_rfl
 rw [hpar] at hA hval
 obtain ⟨v0,vs0,d0,ds0,p0,q0,hargs,rfl,rfl,h0,r0⟩:=trodAll_cons hA
 obtain ⟨v1,vs1,d1,ds1,p1,q1,rfl,rfl,rfl,h1,r1⟩:=trodAll_cons r0
 obtain ⟨v2,vs2,d2,ds2,p2,q2,rfl,rfl,rfl,h2,r2⟩:=trodAll_cons r1
 obtain ⟨v3,vs3,d3,ds3,p3,q3,rfl,rfl,rfl,h3,r3⟩:=trodAll_cons r2
 obtain ⟨rfl,rfl,rfl⟩:=trodAll_nil r3
 obtain rfl:args=#[v0,v1,v2,v3]:=by apply Array.ext'; simpa using hargs
 obtain ⟨a0,k0,g0⟩:=Ml (Mm (by kernel_rfl:Tryd.prog.underlying 24=some (.slice 5)) (by kernel_rfl) (by kernel_rfl) (Pg (by kernel_rfl:Tryd.prog.underlying 5=some (.int .u8)))) (LK (by kernel_rfl:Tryd.prog.underlying 24=some (.slice 5)) (hval 0 24 v0 rfl rfl)) h0 hsz (j:=0) (by kernel_rfl) rfl
 obtain ⟨a1,k1,g1⟩:=Ml (Mm (by kernel_rfl:Tryd.prog.underlying 25=some (.slice 48)) (by kernel_rfl) (by kernel_rfl) (PB (by kernel_rfl:Tryd.prog.underlying 48=some (.slice 49)) (by kernel_rfl:Tryd.prog.underlying 49=some (.array 2 5)) (by kernel_rfl:Tryd.prog.underlying 5=some (.int .u8)) (by kernel_rfl) (by kernel_rfl) (by kernel_rfl))) (LK (by kernel_rfl:Tryd.prog.underlying 25=some (.slice 48)) (hval 1 25 v1 rfl rfl)) h1 hsz (j:=1) (by kernel_rfl) rfl
 obtain ⟨a2,k2,g2⟩:=Ml (OK (by kernel_rfl:Tryd.prog.underlying 9=some .string)) (NB (by kernel_rfl:Tryd.prog.underlying 9=some .string) (hval 2 9 v2 rfl rfl)) h2 hsz (j:=2) (by kernel_rfl) rfl
 obtain ⟨a3,k3,g3⟩:=Ml (Pg (by kernel_rfl:Tryd.prog.underlying 5=some (.int .u8))) (QL (by kernel_rfl:Tryd.prog.underlying 5=some (.int .u8)) (hval 3 5 v3 rfl rfl)) h3 hsz (j:=3) (by kernel_rfl) rfl
 have hc:=P6 a0 a1 a2 a3 (OM a0 g0.1 (fun c hc=>bounds_u8 (g0.2 c hc)) a1 g1.1 (fun l hl=>⟨(g1.2 l hl).1,fun p hp=>⟨bounds_u8 ((g1.2 l hl).2 p hp).1,bounds_u8 ((g1.2 l hl).2 p hp).2⟩⟩) a2 a3 (bounds_u8 g3)) k0 k1 k2 k3
 unfold Ret at hc
 refine hc.mono fun e W' he=>?_
 cases e with
 | returned v =>
  obtain ⟨rfl,hg⟩:=he
  exact ⟨_,rfl,OH P5 (fun t ht=>⟨HI (fun t=>Tryd.prog.readableRec t) (by kernel_rfl) ht,of_decide_eq_true (HI (fun t=>decide (t < Tryd.prog.types.size)) (by kernel_rfl) ht)⟩) hW' rfl (by kernel_rfl) (by kernel_rfl:Tryd.prog.underlying 4=some .bool) rfl hg⟩
 | panicked c=>exact he.elim
 | outgrown=>exact he.elim
theorem O3 (os:Os):laidMet Tryd.prog Rows.eveningRoundRow.laid ((H3 os).forCall (fun _ _=>0) ⟨#[],#[Value.slice none 0 0,Value.slice none 0 0,Value.string ⟨#[]⟩,Value.int .u8 0],[]⟩).memory :=
 laidMet_of_run' 8 (by kernel_rfl) (by kernel_rfl)
theorem Rk (os:Os){H:Type}(enc:TypeId×Value->H):∃ places,DataW.whole enc Tryd.prog ((H3 os).forCall (fun _ _=>0) ⟨#[],#[Value.slice none 0 0,Value.slice none 0 0,Value.string ⟨#[]⟩,Value.int .u8 0],[]⟩).memory Tryd.f4.params.toList Rows.eveningRoundSpec.vars false #[Value.slice none 0 0,Value.slice none 0 0,Value.string ⟨#[]⟩,Value.int .u8 0].toList 8=some ([.nil,.nil,.lit (.string []),.lit (.int .u8 0)],[],places) :=
 ⟨[],by kernel_rfl⟩
set_option maxRecDepth 100000 in
theorem Qx (os:Os) (started:os.Started) (H:Type) (enc:TypeId×Value->H) (F:Stop.Interp) :
  ReturnsInHanded {} Tryd.checked os 4 .any ((OpenSpec.ofChange Rows.eveningRoundSpec).preRow enc Tryd.prog Tryd.f4 Rows.eveningRoundRow.domain false Rows.eveningRoundRow.laid) (((OpenSpec.ofChange Rows.eveningRoundSpec).at F).post enc Tryd.prog Tryd.f4 false true false false):=by
 obtain ⟨places,hx⟩:=Rk os enc
 refine returnsInHanded_of_row (C:=Tryd.checked) (s:=OpenSpec.ofChange Rows.eveningRoundSpec) O9 started (by kernel_rfl) Tryd.func4
  (witness_row_at (enc:=enc) (C:=Tryd.checked) false (H3 os) #[Value.slice none 0 0,Value.slice none 0 0,Value.string ⟨#[]⟩,Value.int .u8 0] rfl (by kernel_rfl) (by kernel_rfl) (by kernel_rfl)
   (OpenSpec.preRow_of_cond 8 hx (by kernel_rfl) (fun k hk=>by cases hk) (by kernel_rfl) (O3 os))) ?_
 intro W base args ds gs before hval hW _ _ hsz _ _ _
 exact Ot H enc W base args ds gs before hval hW hsz
theorem SB:Rows.EveningRoundSaid :=
 OpenClaim.holds_of_cond 4 Tryd.f4 rfl rfl rfl rfl rfl rfl rfl ⟨rfl,rfl,rfl,rfl,rfl⟩ rfl rfl rfl rfl rfl (by kernel_rfl) Tryd.func4 (by kernel_rfl)
  (of_decide_eq_true (by kernel_rfl)) (by unfold Func.isWrapper; first | (rw [if_pos (by decide +kernel)]; kernel_rfl) | (rw [if_neg (by decide +kernel)]; exact ⟨rfl,rfl⟩))
  (fun os started H enc _ F=>by rw [OpenClaim.pre_eq_preRow]; exact Qx os started H enc F)
theorem Rj (f : FuncId) (fn : Func) (hf : Tryd.pinned.checked.prog.funcNamed "trestle/trestlelaw09.EveningRound" = some f) (hfn : Tryd.pinned.checked.prog.funcs[f]? = some fn) :
  false=Tryd.pinned.checked.prog.looks []/\∀ (j:Nat) t,fn.params[j]? = some t->Tryd.pinned.checked.prog.wantsStandIn t=false:=by
 obtain rfl : f = 4 := OI ((show Tryd.prog.funcNamed "trestle/trestlelaw09.EveningRound" = some 4 by kernel_rfl).symm.trans hf) |>.symm
 obtain rfl:fn=Tryd.f4:=(OI (Tryd.func4.symm.trans hfn)).symm
 refine ⟨by kernel_rfl,fun j t ht=>?_⟩
 have hm:t ∈ Tryd.f4.params.toList:=by simpa using Array.mem_of_getElem? ht
 exact (show Tryd.prog.wantsStandIn t=false from Bool.not_eq_true' _ |>.mp (HI (fun t=>!Tryd.prog.wantsStandIn t) (by kernel_rfl) hm))
theorem card:Rows.EveningRoundCardSaid :=
 Claim7.holds_tied_plain_at .later [] _ _ _ _ SB (fun _ h=>by cases h) (by kernel_rfl) (fun _ h=>by cases h) eveningRound_row_tie rfl ⟨rfl,rfl⟩ (by kernel_rfl) rfl Rj (by kernel_rfl)
end Go.Proofs.YteidjjolfapemaaDoor.eveningRound
