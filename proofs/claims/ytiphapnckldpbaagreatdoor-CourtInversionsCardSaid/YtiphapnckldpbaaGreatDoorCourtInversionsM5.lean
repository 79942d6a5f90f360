/- trestlelaw03.CourtInversions returns true for every input, and its arguments read behind the call as before; conditions: those that the given row names. -/
import Derived.Test.YtiphapnckldpbaaGreatDoorCourtInversionsM1
import Derived.Test.YtiphapnckldpbaaGreatDoorCourtInversionsM2
import Derived.Test.YtiphapnckldpbaaGreatDoorCourtInversionsM3
import Derived.Test.YtiphapnckldpbaaGreatDoorCourtInversionsM4
namespace Go.Proofs.YtiphapnckldpbaaGreatDoor
open Go.RowKit
def isT (r : Option (AV × Hp)) : Bool := match r with
 | some (.v (.bool true), _) => true
 | _ => false
theorem isT_inv {r : Option (AV × Hp)} (h : isT r = true) : ∃ h', r = some (.v (.bool true), h') := by
 unfold isT at h
 split at h
 ·exact ⟨_, rfl⟩
 ·cases h
set_option maxRecDepth 1000000 in
theorem awakeT : isT (evCall E13 3000 17 [] []) = true := by kernel_rfl
theorem awake_ev : ∃ h, evCall E13 3000 17 [] [] = some (.v (.bool true), h) := isT_inv awakeT
theorem awake_ret (w : World) : Ret Tryz.prog 17 #[] w fun v w' => v = .bool true ∧ w.grownBy w' none := by
 obtain ⟨h, e⟩ := awake_ev
 exact ret_true (E := E13) (Z := fun _ => False) (us := []) E13_ok e (fun c hc => hc.elim) (fun g x h => by cases h) .nil
theorem vr_true {w : World} {Z : Nat → Prop} : VR w Z [] (.v (.bool true)) (.bool true) := .v rfl
def law03_awake : Option Bool := some true
def cs_law03_awake : Cs Unit := csN
def er_law03_awake (b : Bool) : AV := cdB.enc b
def t_law03_awake : List AV → Option AV := told cs_law03_awake (fun _ => law03_awake) er_law03_awake
theorem x_law03_awake : XOk 17 t_law03_awake := by
 refine ⟨⟨Tryz.call17⟩, fun xs x h w Z us _ _ hv => ?_⟩
 obtain ⟨a, ha, h⟩ := Option.bind_eq_some_iff.1 h
 obtain ⟨b, hb, rfl⟩ := Option.map_eq_some_iff.1 h
 have hb := Option.some.inj hb
 subst hb
 have : xs = [] := by
  cases xs with
  | nil => rfl
  | cons x xs => cases ha
 subst this
 have : us = [] := by have := hv.len; simpa using this
 subst this
 exact Ret.mono (awake_ret w) fun v w' h => ⟨h.2, by rw [h.1]; exact vr_true⟩
noncomputable def cb_slices_Clone_L_int : Code := codeOf Tryz.f20
def ob_slices_Clone_L_int (xs : List Int) : Option Blk := some ⟨1, 3, xs.map cdI.enc, false⟩
set_option maxRecDepth 100000 in
theorem cs_slices_Clone_L_int_sem (xs : List Int) (hc : capOk 8 xs.length = true) : Sem E0 ⟨none, false⟩ cb_slices_Clone_L_int ⟨Fr 8 [(0, .sl 1 (xs.map cdI.enc))], []⟩ fun e s' => (e = .normal ∨ e = .ret) ∧ ((xs = [] ∧ s' = ⟨Fr 8 [(2, .e0)], []⟩) ∨ s' = ⟨Fr 8 [(2, .rf 0 0 xs.length xs.length)], [ob_slices_Clone_L_int xs]⟩) := by
 refine Sem.seq ?_
 refine Sem.runS (s1 := ⟨Fr 8 [(0, .sl 1 (xs.map cdI.enc)), (2, .e0)], []⟩) ?_ ?_
 ·refine RunS.seg E0_ok 1 (s1 := ⟨Fr 8 [(0, .sl 1 (xs.map cdI.enc)), (2, .e0)], []⟩) (by kernel_rfl) ?_
  exact RunS.done rfl Wk.f1
 refine Sem.seq ?_
 refine Sem.seq (Sem.runQ ?_)
 refine RunS.seg E0_ok 1 (s1 := ⟨Fr 8 [(0, .sl 1 (xs.map cdI.enc)), (2, .e0), (3, .sl 1 (xs.map cdI.enc))], []⟩) (by kernel_rfl) ?_
 refine RunS.isnil (k := 1) (el := 3) (es := xs.map cdI.enc) rfl (wantedA_none rfl) (by kernel_rfl) (by kernel_rfl) fun b hb => RunS.done rfl ?_
 have hb : b = true → xs = [] := fun h => List.map_eq_nil_iff.1 (hb h)
 refine Sem.cond (b := b) (by kernel_rfl) (fun hb1 => ?_) (fun hb1 => ?_)
 ·have hx := hb hb1
  refine Sem.wkQ ?_
  refine Sem.seq (Sem.runS (s1 := ⟨Fr 8 [(2, .e0)], []⟩) ?_ (Sem.ret ?_))
  ·refine RunS.seg E0_ok 1 (s1 := ⟨Fr 8 [(0, .sl 1 (xs.map cdI.enc)), (2, .e0), (3, .sl 1 (xs.map cdI.enc)), (4, .v (.bool b))], []⟩) (by kernel_rfl) ?_
   exact RunS.done rfl Wk.f1
  ·exact ⟨_, Wk.refl, .inr rfl, .inl ⟨hx, rfl⟩⟩
 ·refine Sem.skip ?_
  refine Sem.wkQ (Sem.seq (Sem.runQ ?_))
  refine RunS.seg E0_ok 2 (s1 := ⟨Fr 8 [(0, .sl 1 (xs.map cdI.enc)), (2, .e0), (3, .sl 1 (xs.map cdI.enc)), (4, .v (.bool b)), (5, .rf 0 0 0 0), (6, .sl 1 (xs.map cdI.enc))], [ob_slices_Clone_L_int []]⟩) (by kernel_rfl) ?_
  cases xs with
  | nil =>
   refine RunS.one E0_ok 0 rfl (op_w (x := .rf 0 0 0 0) (hp' := [ob_slices_Clone_L_int []]) (wantedA_none rfl) rfl (by kernel_rfl) (by kernel_rfl) (by kernel_rfl)) ?_
   refine RunS.seg E0_ok 1 (s1 := ⟨Fr 8 [(0, .sl 1 []), (2, .rf 0 0 0 0), (3, .sl 1 []), (4, .v (.bool b)), (5, .rf 0 0 0 0), (6, .sl 1 []), (7, .rf 0 0 0 0)], [ob_slices_Clone_L_int []]⟩) (by kernel_rfl) (RunS.done rfl (Sem.ret ?_))
   exact ⟨⟨Fr 8 [(2, .rf 0 0 0 0)], [ob_slices_Clone_L_int []]⟩, Wk.f1, .inr rfl, .inr rfl⟩
  | cons y ys =>
   refine RunS.one E0_ok 0 rfl (op_w (wantedA_none rfl) rfl (by kernel_rfl) (by kernel_rfl) (w_append (a := .rf 0 0 0 0) (b := .sl 1 ((y :: ys).map cdI.enc)) (by kernel_rfl) (by kernel_rfl) (append_R (c := cdI) (xs := []) (vs := y :: ys) (k := 1) (bytes := 8) (el := 3) (by kernel_rfl) (by kernel_rfl) elems_sl (List.cons_ne_nil _ _) (by kernel_rfl) (by rw [List.length_nil, Nat.zero_add]; exact hc)))) ?_
   refine RunS.seg E0_ok 1 (s1 := ⟨Fr 8 [(0, .sl 1 ((y :: ys).map cdI.enc)), (2, .rf 1 0 (y :: ys).length (y :: ys).length), (3, .sl 1 ((y :: ys).map cdI.enc)), (4, .v (.bool b)), (5, .rf 0 0 0 0), (6, .sl 1 ((y :: ys).map cdI.enc)), (7, .rf 1 0 (y :: ys).length (y :: ys).length)], [none, ob_slices_Clone_L_int (y :: ys)]⟩) (by kernel_rfl) (RunS.done rfl (Sem.ret ?_))
   exact ⟨⟨Fr 8 [(2, .rf 0 0 (y :: ys).length (y :: ys).length)], [ob_slices_Clone_L_int (y :: ys)]⟩, Wk.s3 [1] ⟨⟨_, rfl, bu_own⟩, trivial⟩ ⟨lv, trivial⟩, .inr rfl, .inr rfl⟩
/-- .. as it is told to those who only read. -/
def slices_Clone_L_int (xs : List Int) : Option (List Int) := if capOk 8 xs.length = true then some xs else none
def cs_slices_Clone_L_int : Cs (List Int × Unit) := csC (cdL 1 cdI) csN
def er_slices_Clone_L_int (r : List Int) : AV := (cdL 1 cdI).enc r
def t_slices_Clone_L_int : List AV → Option AV := told cs_slices_Clone_L_int (fun a => slices_Clone_L_int a.1) er_slices_Clone_L_int
theorem x_slices_Clone_L_int : XOk 20 t_slices_Clone_L_int := by
 refine EnvOk.x (E := E0) (contract_ok E0_ok (fn := Tryz.f20) (c := cb_slices_Clone_L_int) ?h1 ?h2 ⟨Tryz.call20⟩ cs_slices_Clone_L_int (fun a => slices_Clone_L_int a.1) er_slices_Clone_L_int (fun a => (by show 1 ≤ 8; decide)) ?h3 ?h4) rfl rfl
 case h1 => kernel_rfl
 case h2 => kernel_rfl
 case h3 => intro b; kernel_rfl
 case h4 =>
  intro a r h
  have h : slices_Clone_L_int a.1 = some r := h
  unfold slices_Clone_L_int at h
  by_cases hc : capOk 8 a.1.length = true
  ·rw [if_pos hc] at h
   injection h with h
   subst h
   refine Sem.wkQ (Sem.mono (cs_slices_Clone_L_int_sem a.1 hc) ?_)
   rintro e s' ⟨he, ⟨hx, rfl⟩ | rfl⟩
   ·rw [hx]
    exact ⟨⟨Fr 8 [(2, .sl 1 [])], [none]⟩, Wk.trans (s1 := ⟨Fr 8 [(2, .e0)], [none]⟩) Wk.none (Wk.frzG 0 (.inl (by kernel_rfl)) ⟨.inl rfl, trivial⟩ ⟨⟨.e0, (by kernel_rfl), fz_e0⟩, trivial⟩), he, [.sl 1 []], by kernel_rfl, by kernel_rfl⟩
   ·exact ⟨⟨Fr 8 [(2, .sl 1 (a.1.map cdI.enc))], [none]⟩, Wk.frzG 0 (.inl (by kernel_rfl)) ⟨.inl rfl, trivial⟩ ⟨⟨.rf 0 0 a.1.length a.1.length, (by kernel_rfl), fz_rlT (c := cdI) (xs := a.1) (t := 3) (by kernel_rfl)⟩, trivial⟩, he, [.sl 1 (a.1.map cdI.enc)], by kernel_rfl, by kernel_rfl⟩
  ·rw [if_neg hc] at h; cases h
/-- How a Lean value is held by an abstract value and own blocks (the list tells which). -/
structure Oc (α : Type) where
 cd : Cd α
 at_ : Hp → AV → α → List Nat → Prop
 loc : ∀ {h h' : Hp} {e : AV} {x : α} {F : List Nat}, at_ h e x F → (∀ b ∈ F, h'[b]? = h[b]?) → at_ h' e x F
 own : ∀ {h : Hp} {e : AV} {x : α} {F : List Nat} {b : Nat}, at_ h e x F → b ∈ F → ∃ B, h[b]? = some (some B) ∧ B.fz = false
 vr : ∀ {w : World} {Z : Nat → Prop} {R : List RI} {h : Hp} {e : AV} {x : α} {F : List Nat} {u : Value}, HR w Z R h → at_ h e x F → VR w Z R e u → VR w (fun c => Z c ∨ ∃ b ∈ F, ∃ r, R[b]? = some r ∧ c = r.c) [] (cd.enc x) u
/-- A part of a heap. -/
structure Asn where
 at_ : Hp → List Nat → Prop
 loc : ∀ {h h' : Hp} {F : List Nat}, at_ h F → (∀ b ∈ F, h'[b]? = h[b]?) → at_ h' F
 own : ∀ {h : Hp} {F : List Nat} {b : Nat}, at_ h F → b ∈ F → ∃ B, h[b]? = some (some B) ∧ B.fz = false
def TF (h : Hp) : List Asn → List Nat → Prop
 | [], F => F = []
 | P :: L, F => ∃ F1 F2, F = F1 ++ F2 ∧ P.at_ h F1 ∧ TF h L F2
/-- The assertions hold of different blocks. -/
def T (h : Hp) (L : List Asn) : Prop := ∃ F, TF h L F ∧ F.Nodup
theorem get_lt {h : Hp} {b : Nat} {o : Option Blk} (e : h[b]? = some o) : b < h.length := (List.getElem?_eq_some_iff.1 e).1
theorem TF.loc {h h' : Hp} : ∀ {L : List Asn} {F : List Nat}, TF h L F → (∀ b ∈ F, h'[b]? = h[b]?) → TF h' L F
 | [], _, e, _ => e
 | _ :: _, _, ⟨F1, F2, e, p, q⟩, k => ⟨F1, F2, e, Asn.loc _ p (fun b hb => k b (by rw [e]; exact List.mem_append_left _ hb)), TF.loc q fun b hb => k b (by rw [e]; exact List.mem_append_right _ hb)⟩
theorem TF.own {h : Hp} : ∀ {L : List Asn} {F : List Nat} {b : Nat}, TF h L F → b ∈ F → ∃ B, h[b]? = some (some B) ∧ B.fz = false
 | [], _, _, e, hb => by rw [show _ = [] from e] at hb; cases hb
 | _ :: _, _, _, ⟨F1, F2, e, p, q⟩, hb => by
  rw [e] at hb
  rcases List.mem_append.1 hb with hb | hb
  ·exact Asn.own _ p hb
  ·exact TF.own q hb
theorem TF.lt {h : Hp} {L : List Asn} {F : List Nat} {b : Nat} (t : TF h L F) (hb : b ∈ F) : b < h.length := let ⟨_, e, _⟩ := t.own hb; get_lt e
theorem Asn.lt {P : Asn} {h : Hp} {F : List Nat} {b : Nat} (t : P.at_ h F) (hb : b ∈ F) : b < h.length := let ⟨_, e, _⟩ := P.own t hb; get_lt e
theorem TF.front {h : Hp} {P : Asn} : ∀ {i : Nat} {L : List Asn} {F : List Nat}, TF h L F → L[i]? = some P → ∃ F', TF h (P :: L.eraseIdx i) F' ∧ F'.Perm F
 | _, [], _, _, e => by simp at e
 | 0, Q :: L, F, t, e => by
  simp at e; subst e
  exact ⟨F, t, List.Perm.refl _⟩
 | i + 1, Q :: L, F, ⟨F1, F2, e0, p, q⟩, e => by
  obtain ⟨F', ⟨G1, G2, e1, p1, q1⟩, hp⟩ := TF.front q (by simpa using e)
  subst e0 e1
  refine ⟨G1 ++ (F1 ++ G2), ⟨G1, _, rfl, p1, F1, G2, rfl, p, q1⟩, ?_⟩
  have h1 : (G1 ++ (F1 ++ G2)).Perm (F1 ++ (G1 ++ G2)) := by
   rw [← List.append_assoc, ← List.append_assoc]
   exact List.Perm.append_right _ List.perm_append_comm
  exact h1.trans (List.Perm.append_left _ hp)
theorem T.front {h : Hp} {L : List Asn} {P : Asn} (i : Nat) (t : T h L) (e : L[i]? = some P) : T h (P :: L.eraseIdx i) :=
 let ⟨_, t1, hn⟩ := t; let ⟨F', t2, hp⟩ := t1.front e; ⟨F', t2, hp.nodup_iff.2 hn⟩
theorem nodup_app {F1 F2 : List Nat} : (F1 ++ F2).Nodup ↔ F1.Nodup ∧ F2.Nodup ∧ ∀ a ∈ F1, a ∉ F2 := by
 rw [List.nodup_append]
 constructor
 ·rintro ⟨h1, h2, h3⟩
  exact ⟨h1, h2, fun a ha hb => h3 a ha a hb rfl⟩
 ·rintro ⟨h1, h2, h3⟩
  exact ⟨h1, h2, fun a ha b hb e => h3 a ha (e ▸ hb)⟩
/-- The first assertion turns into another; the rest is as it was. -/
theorem T.act {h : Hp} {P : Asn} {L : List Asn} (t : T h (P :: L)) : ∃ F, P.at_ h F ∧ F.Nodup ∧ (∀ (h' : Hp) (P' : Asn) (F' : List Nat), P'.at_ h' F' → F'.Nodup → (∀ b, b ∉ F → b < h.length → h'[b]? = h[b]?) → (∀ b ∈ F', b ∈ F ∨ h.length ≤ b) → T h' (P' :: L)) ∧ ∀ h' : Hp, (∀ b, b ∉ F → b < h.length → h'[b]? = h[b]?) → T h' L := by
 obtain ⟨F, ⟨F1, F2, rfl, p, q⟩, hn⟩ := t
 obtain ⟨n1, n2, n3⟩ := nodup_app.1 hn
 have hq : ∀ h' : Hp, (∀ b, b ∉ F1 → b < h.length → h'[b]? = h[b]?) → TF h' L F2 := fun h' hs => q.loc fun b hb => hs b (fun hb1 => n3 b hb1 hb) (q.lt hb)
 refine ⟨F1, p, n1, fun h' P' F' p' hn' hs hb => ⟨F' ++ F2, ⟨F', F2, rfl, p', hq h' hs⟩, nodup_app.2 ⟨hn', n2, fun a ha ha2 => ?_⟩⟩, fun h' hs => ⟨F2, hq h' hs, n2⟩⟩
 rcases hb a ha with h1 | h1
 ·exact n3 a h1 ha2
 ·have := q.lt ha2; omega
/-- New blocks, a new assertion. -/
theorem T.add {h h' : Hp} {P : Asn} {L : List Asn} {F : List Nat} (t : T h L) (p : P.at_ h' F) (hn : F.Nodup) (hs : ∀ b, b < h.length → h'[b]? = h[b]?) (hb : ∀ b ∈ F, h.length ≤ b) : T h' (P :: L) := by
 obtain ⟨F2, q, n2⟩ := t
 exact ⟨F ++ F2, ⟨F, F2, rfl, p, q.loc fun b hb => hs b (q.lt hb)⟩, nodup_app.2 ⟨hn, n2, fun a ha ha2 => by have := hb a ha; have := q.lt ha2; omega⟩⟩
theorem T.nil {h : Hp} : T h [] := ⟨[], rfl, List.nodup_nil⟩
/-- An own value. -/
def own_ {α : Type} (o : Oc α) (e : AV) (x : α) : Asn := ⟨fun h F => o.at_ h e x F, o.loc, o.own⟩
/-- A cell of its own (a variable that closures hold, a struct with an address). -/
def cel (p : AV) (k : Nat) (t : TypeId) (a : AV) : Asn where
 at_ h F := ∃ b, p = .pt b 0 0 ∧ F = [b] ∧ h[b]? = some (some ⟨k, t, [a], false⟩)
 loc := fun ⟨b, e1, e2, e3⟩ k => ⟨b, e1, e2, (k b (by rw [e2]; simp)).trans e3⟩
 own := fun ⟨b, e1, e2, e3⟩ hb => by
  rw [e2] at hb
  simp at hb
  subst hb
  exact ⟨_, e3, rfl⟩
section
variable {α : Type} {p p' : AV → α → List Nat → Prop}
def All3 (p : AV → α → List Nat → Prop) : List AV → List α → List Nat → Prop
 | [], [], F => F = []
 | e :: es, x :: xs, F => ∃ F1 F2, F = F1 ++ F2 ∧ p e x F1 ∧ All3 p es xs F2
 | _, _, _ => False
def All3h (p : AV → α → List Nat → Prop) : Nat → AV → List AV → List α → List Nat → Prop
 | 0, e', e :: es, _ :: xs, F => e = e' ∧ All3 p es xs F
 | j + 1, e', e :: es, x :: xs, F => ∃ F1 F2, F = F1 ++ F2 ∧ p e x F1 ∧ All3h p j e' es xs F2
 | _, _, _, _, _ => False
theorem All3.len : ∀ {es : List AV} {xs : List α} {F : List Nat}, All3 p es xs F → es.length = xs.length
 | [], [], _, _ => rfl
 | _ :: _, _ :: _, _, ⟨_, _, _, _, h⟩ => by simp [All3.len h]
 | [], _ :: _, _, h => h.elim
 | _ :: _, [], _, h => h.elim
theorem All3.mono : ∀ {es : List AV} {xs : List α} {F : List Nat}, All3 p es xs F → (∀ e x F', (∀ b ∈ F', b ∈ F) → p e x F' → p' e x F') → All3 p' es xs F
 | [], [], _, h, _ => h
 | _ :: _, _ :: _, _, ⟨F1, F2, e, h1, h2⟩, k => ⟨F1, F2, e, k _ _ F1 (fun b hb => by rw [e]; exact List.mem_append_left _ hb) h1, h2.mono fun e' x F' hF => k e' x F' fun b hb => by rw [e]; exact List.mem_append_right _ (hF b hb)⟩
 | [], _ :: _, _, h, _ => h.elim
 | _ :: _, [], _, h, _ => h.elim
theorem All3h.mono : ∀ {j : Nat} {e' : AV} {es : List AV} {xs : List α} {F : List Nat}, All3h p j e' es xs F → (∀ e x F', (∀ b ∈ F', b ∈ F) → p e x F' → p' e x F') → All3h p' j e' es xs F
 | 0, _, _ :: _, _ :: _, _, ⟨h1, h2⟩, k => ⟨h1, h2.mono k⟩
 | _ + 1, _, _ :: _, _ :: _, _, ⟨F1, F2, e, h1, h2⟩, k => ⟨F1, F2, e, k _ _ F1 (fun b hb => by rw [e]; exact List.mem_append_left _ hb) h1, h2.mono fun e' x F' hF => k e' x F' fun b hb => by rw [e]; exact List.mem_append_right _ (hF b hb)⟩
 | 0, _, [], _, _, h, _ => by unfold All3h at h; exact h.elim
 | 0, _, _ :: _, [], _, h, _ => by unfold All3h at h; exact h.elim
 | _ + 1, _, [], _, _, h, _ => by unfold All3h at h; exact h.elim
 | _ + 1, _, _ :: _, [], _, h, _ => by unfold All3h at h; exact h.elim
theorem All3.get : ∀ {es : List AV} {xs : List α} {F : List Nat} {i : Nat} {x : α}, All3 p es xs F → xs[i]? = some x → ∃ e Fi, es[i]? = some e ∧ p e x Fi ∧ ∀ b ∈ Fi, b ∈ F
 | _ :: _, _ :: _, _, 0, _, ⟨F1, F2, e, h1, h2⟩, hx => by
  simp at hx; subst hx
  exact ⟨_, F1, rfl, h1, fun b hb => by rw [e]; exact List.mem_append_left _ hb⟩
 | _ :: _, _ :: _, _, i + 1, _, ⟨F1, F2, e, h1, h2⟩, hx => by
  obtain ⟨e', Fi, k1, k2, k3⟩ := h2.get (i := i) (by simpa using hx)
  exact ⟨e', Fi, by simpa using k1, k2, fun b hb => by rw [e]; exact List.mem_append_right _ (k3 b hb)⟩
 | [], [], _, _, _, _, hx => by simp at hx
 | [], _ :: _, _, _, _, h, _ => h.elim
 | _ :: _, [], _, _, _, h, _ => h.elim
theorem All3h.at_ : ∀ {j : Nat} {e' : AV} {es : List AV} {xs : List α} {F' : List Nat}, All3h p j e' es xs F' → es[j]? = some e' ∧ es.length = xs.length ∧ j < xs.length
 | 0, _, _ :: _, _ :: _, _, ⟨h1, h2⟩ => ⟨by simp [h1], by simp [h2.len], by simp⟩
 | _ + 1, _, _ :: _, _ :: _, _, ⟨_, _, _, _, h2⟩ => by
  obtain ⟨k1, k2, k3⟩ := h2.at_
  exact ⟨by simpa using k1, by simp [k2], by simp; omega⟩
 | 0, _, [], _, _, h => by unfold All3h at h; exact h.elim
 | 0, _, _ :: _, [], _, h => by unfold All3h at h; exact h.elim
 | _ + 1, _, [], _, _, h => by unfold All3h at h; exact h.elim
 | _ + 1, _, _ :: _, [], _, h => by unfold All3h at h; exact h.elim
theorem All3.append : ∀ {es : List AV} {xs : List α} {F : List Nat} {es' : List AV} {xs' : List α} {F' : List Nat}, All3 p es xs F → All3 p es' xs' F' → All3 p (es ++ es') (xs ++ xs') (F ++ F')
 | [], [], _, _, _, _, h, h' => by rw [show _ = [] from h]; exact h'
 | _ :: _, _ :: _, _, _, _, _, ⟨F1, F2, e, h1, h2⟩, h' => ⟨F1, _, by rw [e, List.append_assoc], h1, h2.append h'⟩
 | [], _ :: _, _, _, _, _, h, _ => h.elim
 | _ :: _, [], _, _, _, _, h, _ => h.elim
theorem All3.mem : ∀ {es : List AV} {xs : List α} {F : List Nat} {b : Nat}, All3 p es xs F → b ∈ F → ∃ e x F', p e x F' ∧ b ∈ F'
 | [], [], _, _, h, hb => by rw [show _ = [] from h] at hb; cases hb
 | _ :: _, _ :: _, _, _, ⟨F1, F2, e, h1, h2⟩, hb => by
  rw [e] at hb
  rcases List.mem_append.1 hb with hb | hb
  ·exact ⟨_, _, F1, h1, hb⟩
  ·exact h2.mem hb
 | [], _ :: _, _, _, h, _ => h.elim
 | _ :: _, [], _, _, h, _ => h.elim
theorem All3h.mem : ∀ {j : Nat} {e' : AV} {es : List AV} {xs : List α} {F : List Nat} {b : Nat}, All3h p j e' es xs F → b ∈ F → ∃ e x F', p e x F' ∧ b ∈ F'
 | 0, _, _ :: _, _ :: _, _, _, ⟨_, h2⟩, hb => h2.mem hb
 | _ + 1, _, _ :: _, _ :: _, _, _, ⟨F1, F2, e, h1, h2⟩, hb => by
  rw [e] at hb
  rcases List.mem_append.1 hb with hb | hb
  ·exact ⟨_, _, F1, h1, hb⟩
  ·exact h2.mem hb
 | 0, _, [], _, _, _, h, _ => by unfold All3h at h; exact h.elim
 | 0, _, _ :: _, [], _, _, h, _ => by unfold All3h at h; exact h.elim
 | _ + 1, _, [], _, _, _, h, _ => by unfold All3h at h; exact h.elim
 | _ + 1, _, _ :: _, [], _, _, h, _ => by unfold All3h at h; exact h.elim
end
/-- An own slice of own values. -/
def ocL {α : Type} (k : Nat) (t : TypeId) (o : Oc α) : Oc (List α) where
 cd := cdL k o.cd
 at_ h e xs F := (e = .e0 ∧ xs = [] ∧ F = []) ∨ ∃ b es F', e = .rf b 0 xs.length xs.length ∧ h[b]? = some (some ⟨k, t, es, false⟩) ∧ F = b :: F' ∧ All3 (o.at_ h) es xs F'
 loc := fun {h h' e x F} ha k => by
  rcases ha with h1 | ⟨b, es, F', h1, h2, h3, h4⟩
  ·exact .inl h1
  ·subst h3
   exact .inr ⟨b, es, F', h1, (k b (by simp)).trans h2, rfl, h4.mono fun e x G hG h5 => o.loc h5 fun c hc => k c (List.mem_cons_of_mem _ (hG c hc))⟩
 own := fun {h e x F b} ha hb => by
  rcases ha with ⟨_, _, h1⟩ | ⟨b', es, F', h1, h2, h3, h4⟩
  ·rw [h1] at hb; cases hb
  ·subst h3
   rcases List.mem_cons.1 hb with rfl | hb
   ·exact ⟨_, h2, rfl⟩
   ·obtain ⟨e, x, G, k1, k2⟩ := h4.mem hb
    exact o.own k1 k2
 vr := fun {w Z R h e xs F u} hh ha hv => by
  rcases ha with ⟨rfl, rfl, rfl⟩ | ⟨b, es, F', rfl, h2, rfl, h4⟩
  ·cases hv
   exact .sl (us := []) rfl rfl (Nat.le_refl _) (by unfold maxLen; omega) (fun h => by omega) (fun i x u hx => by simp at hx)
  ·obtain ⟨r, arr, us, g1, g2, g3, g4, g5, g6, g7, g8, g9, g10⟩ := hh.blk b _ h2
   have hl := h4.len
   cases hv with
   | rf hr' q0 q1 q2 q3 =>
    rename_i c r'
    rw [g1] at hr'
    injection hr' with hr'
    subst hr'
    have hul : us.length = es.length := g9.len
    refine .sl (us := us) (by simp) (by simp; omega) (by omega) (by omega) (fun _ => ⟨⟨r.c, 0 * r.k, none⟩, rfl, rfl, .inr ⟨b, by simp, r, g1, rfl⟩, fun i u hu => ?_⟩) (fun i x u hx hu => ?_)
    ·obtain ⟨k1, k2, k3⟩ := g10 i u hu
     refine ⟨k1, k2, fun j q hq => ?_⟩
     have := k3 j q hq
     rw [Nat.zero_mul, Nat.zero_add]
     simp only [World.cell?, g3]
     simpa using this
    ·rw [List.getElem?_map] at hx
     obtain ⟨y, hy, rfl⟩ := Option.map_eq_some_iff.1 hx
     obtain ⟨e, Fi, k1, k2, k3⟩ := h4.get hy
     have hvi := g9.at_ i e u k1 hu
     exact (o.vr hh k2 hvi).mono (fun _ _ => rfl) (fun c hc => hc.imp_right fun ⟨b', hb', hr⟩ => ⟨b', List.mem_cons_of_mem _ (k3 b' hb'), hr⟩) (fun _ _ h => h)
section
variable {α : Type} {o : Oc α} {k j : Nat} {t : TypeId} {e e' : AV} {xs : List α} {x y : α} {h : Hp} {L : List Asn} {c : Cd α}
theorem T.e0 {k : Nat} {ty : TypeId} (t : T h L) : T h (own_ (ocL k ty o) .e0 [] :: L) := t.add (F := []) (.inl ⟨rfl, rfl, rfl⟩) List.nodup_nil (fun _ _ => rfl) (fun _ h => by cases h)
end
section
variable {P : Program} {α : Type} {o : Oc α} {k j m off : Nat} {t ty ty2 el : TypeId} {e e' y : AV} {xs ys vs : List α} {x v v' : α} {h : Hp} {L : List Asn} {c : Cd α} {i : Int} {ki : IntKind} {g : Bool}
end
section
variable {E : Env} {n : Nat} {l l' : List (Nat × AV)} {hp : Hp} {α : Type} {o : Oc α} {e : AV} {x : α} {L : List Asn}
/-- Slots that stay, and slots that turn. -/
def LkT (l : List (Nat × AV)) (e y : AV) : List (Nat × AV) → Prop
 | [] => True
 | (t, z) :: r => (lk l t = some z ∨ (lk l t = some e ∧ z = y)) ∧ LkT l e y r
theorem LkT.at_ {e y : AV} : ∀ {l' : List (Nat × AV)}, LkT l e y l' → ∀ t z, lk l' t = some z → lk l t = some z ∨ (lk l t = some e ∧ z = y)
 | [], _, t, z, h => by cases h
 | (k, z0) :: r, ⟨h1, h2⟩, t, z, h => by
  rw [lk_put] at h
  split at h
  ·next hk => injection h with h; subst hk h; exact h1
  ·exact h2.at_ t z h
/-- Values as a call sees them. -/
def SeeV (hp : Hp) (x y : AV) : Prop := ∀ (w : World) (Z : Nat → Prop) (R : List RI) (u : Value), HR w Z R hp → VR w Z R x u → VR w (fun c => Z c ∨ own R hp c) [] y u
def Sees (hp : Hp) (xs ys : List AV) : Prop := ∀ (w : World) (Z : Nat → Prop) (R : List RI) (us : List Value), HR w Z R hp → VRs w Z R xs us → VRs w (fun c => Z c ∨ own R hp c) [] ys us
theorem Sees.nil : Sees hp [] [] := fun w Z R us _ h => by
 have : us = [] := by have := h.len; simpa using this
 subst this
 exact .nil
theorem Sees.cons {x y : AV} {xs ys : List AV} (h : SeeV hp x y) (hs : Sees hp xs ys) : Sees hp (x :: xs) (y :: ys) := fun w Z R us hh hv => by
 obtain ⟨u, us', rfl, hu, hn⟩ := hv.head
 exact .cons (h w Z R u hh hu) (hs w Z R us' hh hn)
theorem SeeV.id {x : AV} (hx : noRf2 x = true) : SeeV hp x x := fun _w _Z _R _u _ hv => (noRf2_vr hx hv).mono (fun _ _ => rfl) (fun _ h => .inl h) (fun _ _ h => h)
theorem SeeV.enc {c : Cd α} : SeeV hp (c.enc x) (c.enc x) := .id (c.nr x)
theorem SeeV.own {i : Nat} (ht : T hp L) (hi : L[i]? = some (own_ o e x)) : SeeV hp e (o.cd.enc x) := fun w Z R u hh hv => by
 obtain ⟨F, p, _⟩ := (ht.front i hi).act
 refine (o.vr hh p hv).mono (fun _ _ => rfl) (fun c hc => hc.imp_right fun ⟨b, hb, r, hr, hc⟩ => ?_) (fun _ _ h => h)
 obtain ⟨B, k1, k2⟩ := o.own p hb
 exact ⟨b, B, r, k1, k2, hr, hc.symm⟩
theorem SeeV.ag {cs cs' : List AV} (hs : Sees hp cs cs') : SeeV hp (.ag cs) (.ag cs') := fun w Z R u hh hv => by
 cases hv with
 | ag hl h1 hx =>
  have := hs w Z R _ hh ⟨hl, hx⟩
  exact .ag this.len h1 this.at_
end
/-- The operations that are left, one by one, in the caller's blocks. -/
def RunL (E : Env) (cx : Cx) (ops : Array Oper) (rest : List Oper) (s : St) (K : St → Prop) : Prop :=
 ∀ (ro : Option Nat) (base : Bs) (Q : Act → World → Prop) (a : Act) (w : World) (Z : Nat → Prop) (R : List RI), (cx.inR = false → ro = none) → SR E base w Z R s a → YI cx w Z R s.hp →
  (∀ s' a' w' Z' R', K s' → SR E base w' Z' R' s' a' → Step w Z R s.hp w' Z' R' s'.hp → Q a' w') → LwL E.P ops Q rest a w
section
variable {E : Env} {cx : Cx} {ops : Array Oper} {pre rest rest' : List Oper} {s s1 : St} {K : St → Prop} {n m : Nat} {l l' : List (Nat × AV)} {hp hp' : Hp} {Q : Ex → St → Prop} {id : Nat}
theorem RunL.done (hr : rest = []) (k : K s) : RunL E cx ops rest s K := by
 subst hr
 exact fun ro base Q a w Z R _ sr _ q => q s a w Z R k sr (Step.refl _ _ _ _)
theorem RunL.mono {K' : St → Prop} (h : RunL E cx ops rest s K) (k : ∀ s, K s → K' s) : RunL E cx ops rest s K' := fun ro base Q a w Z R h1 h2 h3 q => h ro base Q a w Z R h1 h2 h3 fun s' a' w' Z' R' hK => q s' a' w' Z' R' (k s' hK)
theorem RunL.app (hE : EnvOk E) (n : Nat) : ∀ {pre : List Oper} {s : St}, opsA E (evC E n) ⟨none, false⟩ ops pre s = some s1 → RunL E cx ops rest s1 K → RunL E cx ops (pre ++ rest) s K
 | [], s, e, k => by injection e with e; subst e; exact k
 | o :: pre, s, e, kk => by
  intro ro base Q a w Z R hro sr hy q
  unfold opsA at e
  split at e
  ·cases e
  ·next hw => exact lwl_no (wantedA_eq sr hw) (RunL.app hE n e kk ro base Q _ w Z R hro (sr.put undef_vr) hy q)
  ·next hw =>
   split at e
   ·next s2 hs2 => exact lwl_op1 hE (code_sound hE n).1 hs2 sr (wantedA_eq sr hw) fun a' w' Z' R' sr' st => RunL.app hE n e kk ro base Q a' w' Z' R' hro sr' (hy.step sr.hh st) fun s'' a'' w'' Z'' R'' hK sr'' st' => q s'' a'' w'' Z'' R'' hK sr'' (st.trans st')
   ·cases e
theorem RunL.one (hE : EnvOk E) (n : Nat) {o : Oper} (hr : rest = o :: rest') (h : opsA E (evC E n) ⟨none, false⟩ ops [o] s = some s1) (k : RunL E cx ops rest' s1 K) : RunL E cx ops rest s K := by
 subst hr
 exact RunL.app hE n (pre := [o]) h k
end
section
variable {E : Env} {cx : Cx} {ops : Array Oper} {rest rest' : List Oper} {K : St → Prop} {n : Nat} {l : List (Nat × AV)} {hp : Hp}
theorem RunL.wk {s s1 : St} (hw : WkY E s s1) (h : RunL E cx ops rest s1 K) : RunL E cx ops rest s K := fun ro base Q a w Z R hro sr hy q => by
 obtain ⟨Z', R', sr', st⟩ := hw base w Z R a sr
 exact h ro base Q a w Z' R' hro sr' (hy.step sr.hh st) fun s' a' w' Z2 R2 hK sr2 st2 => q s' a' w' Z2 R2 hK sr2 (st.trans st2)
end
def RunDT (E : Env) (cx : Cx) (ops : Array Oper) (T : Nat) (n0 k : Nat) (rest : List Oper) (s : St) (K : St → Prop) : Prop :=
 ∀ (ro : Option Nat) (base : Bs) (Q : Act → World → Prop) (w0 : World) (Z : Nat → Prop) (R0 : List RI) (h0 : Hp) (a : Act) (w : World) (R : List RI), (cx.inR = false → ro = none) → YI cx w0 Z R0 h0 → HR w0 Z R0 h0 → n0 = h0.length → SR E base w Z R s a → w0.grownBy w none → Step w0 Z R0 h0 w Z R s.hp → (∀ (b : Nat) (B : Option Blk), h0[b]? = some B → s.hp[b]? = some B) → (∀ j, rest[j]? = ops[k + j]?) →
  (∀ s' a' w' Z' R', K s' → SR E base w' Z' R' s' a' → Step w0 Z R0 h0 w' Z' R' s'.hp → Q a' w') → wpMix E.P ops (fun w' => w0.grownBy w' none) (loudT ops T) T Q k rest a w
section
variable {E : Env} {cx : Cx} {ops : Array Oper} {rest rest' : List Oper} {s s1 : St} {K : St → Prop} {n n0 k T : Nat} {l : List (Nat × AV)} {hp hp' : Hp} {Q : Ex → St → Prop} {id : Nat} {x : AV} {d : Nat}
theorem quiet_at {o : Oper} (hops : ∀ j, (o :: rest')[j]? = ops[k + j]?) (hk : Nat.blt k T = true) (hq : isQ o.op = true) : loudT ops T k = false := by
 have hok : ops[k]? = some o := by have := hops 0; simpa using this.symm
 have hlt : k < T := Nat.le_of_ble_eq_true hk
 exact loudT_q hok hq (by omega)
theorem loud_at {o : Oper} (hops : ∀ j, (o :: rest')[j]? = ops[k + j]?) (hq : isQ o.op = false) : loudT ops T k = true := by
 have hok : ops[k]? = some o := by have := hops 0; simpa using this.symm
 exact loudT_n hok hq
theorem next_at {o : Oper} (hops : ∀ j, (o :: rest')[j]? = ops[k + j]?) : ∀ j, rest'[j]? = ops[k + 1 + j]? := fun j => by have := hops (j + 1); simpa [Nat.add_assoc, Nat.add_comm 1 j] using this
theorem RunDT.done (hr : rest = []) (kk : K s) : RunDT E cx ops T n0 k rest s K := by
 subst hr
 exact fun ro base Q w0 Z R0 h0 a w R _ _ _ _ sr hgr st _ _ q => ⟨fun _ => hgr, q s a w Z R kk sr st⟩
theorem RunDT.mono {K' : St → Prop} (h : RunDT E cx ops T n0 k rest s K) (hk : ∀ s, K s → K' s) : RunDT E cx ops T n0 k rest s K' := fun ro base Q w0 Z R0 h0 a w R h1 h2 h3 h4 h5 h6 h7 h8 h9 q => h ro base Q w0 Z R0 h0 a w R h1 h2 h3 h4 h5 h6 h7 h8 h9 fun s' a' w' Z' R' hK => q s' a' w' Z' R' (hk s' hK)
/-- An operation that reads. -/
theorem RunDT.q {o : Oper} (hr : rest = o :: rest') (hk : Nat.blt k T = true) (hq : isQ o.op = true) (hw : wantedA ops (Fr n l) o = some true) (hd : o.dst = some d) (h : evOpQ E.P (opA E (Fr n l)) hp o.op = some x) (hl : ldOk n0 (opA E (Fr n l)) o.op = true) (kk : RunDT E cx ops T n0 (k + 1) rest' ⟨Fr n ((d, x) :: l), hp⟩ K) : RunDT E cx ops T n0 k rest ⟨Fr n l, hp⟩ K := by
 subst hr
 intro ro base Q w0 Z R0 h0 a w R hro hy hh0 hn0 sr hgr st hpre hops q
 refine ⟨fun _ => hgr, ?_⟩
 rw [if_pos (wantedA_eq sr hw), quiet_at hops hk hq, if_neg (by simp)]
 have hρ : ∀ o x, opA E (Fr n l) o = some x → VR w Z R x (a.eval o) := fun o x e => opA_vr sr o x e
 obtain ⟨u, hu, hrun⟩ := evOpQ_sound sr.hh hρ h
 have hquiet : ∃ u, VR w Z R x u ∧ QuietAt E.P (Cf (fun w' => w0.grownBy w' none) o) o u a := by
  cases hl' : isLd o.op with
  | false => exact ⟨u, hu, fun w' _ => hrun w' fun h => by rw [hl'] at h; cases h⟩
  | true =>
   obtain ⟨u1, hu1, hq1⟩ := load_quiet hh0 sr hgr st hpre hl' (by rw [← hn0]; exact hl) h
   exact ⟨u1, hu1, hq1.up (free_ld hl')⟩
 obtain ⟨u, hu, hquiet⟩ := hquiet
 refine ⟨u, hquiet, ?_⟩
 have sr' := sr.put (d := o.dst) hu
 rw [hd, show putA (⟨Fr n l, hp⟩ : St).fr (some d) x = Fr n ((d, x) :: l) from putA_Fr n l d _] at sr'
 rw [hd]
 exact kk ro base Q w0 Z R0 h0 _ w R hro hy hh0 hn0 sr' hgr st hpre (next_at hops) q
/-- One that is not wanted. -/
theorem RunDT.skip {o : Oper} (hr : rest = o :: rest') (hw : wantedA ops (Fr n l) o = some false) (hd : o.dst = some d) (kk : RunDT E cx ops T n0 (k + 1) rest' ⟨Fr n ((d, .tp []) :: l), hp⟩ K) : RunDT E cx ops T n0 k rest ⟨Fr n l, hp⟩ K := by
 subst hr
 intro ro base Q w0 Z R0 h0 a w R hro hy hh0 hn0 sr hgr st hpre hops q
 refine ⟨fun _ => hgr, ?_⟩
 rw [if_neg (by rw [wantedA_eq sr hw]; simp)]
 have sr' := sr.put (d := o.dst) (x := .tp []) undef_vr
 rw [hd, show putA (⟨Fr n l, hp⟩ : St).fr (some d) (.tp []) = Fr n ((d, .tp []) :: l) from putA_Fr n l d _] at sr'
 rw [hd]
 exact kk ro base Q w0 Z R0 h0 _ w R hro hy hh0 hn0 sr' hgr st hpre (next_at hops) q
/-- A new block. -/
theorem RunDT.new {o : Oper} (hr : rest = o :: rest') (hw : wantedA ops (Fr n l) o = some true) (hd : o.dst = some d) (h : evOpN E.P (opA E (Fr n l)) hp o.op = some (x, hp')) (kk : RunDT E cx ops T n0 (k + 1) rest' ⟨Fr n ((d, x) :: l), hp'⟩ K) : RunDT E cx ops T n0 k rest ⟨Fr n l, hp⟩ K := by
 subst hr
 intro ro base Q w0 Z R0 h0 a w R hro hy hh0 hn0 sr hgr st hpre hops q
 refine ⟨fun _ => hgr, ?_⟩
 have hq := isQ_of_N h
 rw [if_pos (wantedA_eq sr hw), loud_at hops hq, if_pos rfl]
 have hρ : ∀ o x, opA E (Fr n l) o = some x → VR w Z R x (a.eval o) := fun o x e => opA_vr sr o x e
 obtain ⟨u, w', R', h1, h2, h3, h4, h5⟩ := evOpN_sound hρ sr.hh h
 have sr' := (sr.step h2 h4).put (d := o.dst) h3
 rw [hd, show putA (⟨Fr n l, hp⟩ : St).fr (some d) x = Fr n ((d, x) :: l) from putA_Fr n l d _] at sr'
 refine lw_val h1 ?_
 rw [hd]
 exact kk ro base Q w0 Z R0 h0 _ w' R' hro hy hh0 hn0 sr' (pu_trans hgr h5) (st.trans h4) (fun b B hb => evOpN_pre h (hpre b B hb)) (next_at hops) q
theorem RunDT.tail (hT : T = k) (h : RunL E cx ops rest s K) : RunDT E cx ops T n0 k rest s K := by
 subst hT
 intro ro base Q w0 Z R0 h0 a w R hro hy hh0 hn0 sr hgr st hpre hops q
 exact lwl_mix (h ro base Q a w Z R hro sr (hy.step hh0 st) fun s' a' w' Z' R' hK sr' st' => q s' a' w' Z' R' hK sr' (st.trans st')) (Nat.le_refl _) (fun _ => hgr) (fun j hj => loudT_or hj) hops
end
section
variable {P : Program} {h : Hp} {ρ : Operand → Option AV} {α : Type} {o : Oc α} {k : Nat} {t : TypeId} {e : AV} {xs : List α} {L : List Asn}
end
section
variable {P : Program} {h : Hp} {α : Type} {o : Oc α} {c : Cd α} {k bytes n : Nat} {t ty ty2 : TypeId} {e y : AV} {xs ys : List α} {L : List Asn} {v : α}
end
/-- What a call is handed, own or not, as it is told. -/
def SeeD {α : Type} (hp : Hp) (c : Cd α) (x : AV) (v : α) : Prop := ∃ y, SeeV hp x y ∧ c.dec y = some v
def SeesD {α : Type} (hp : Hp) (s : Cs α) (xs : List AV) (a : α) : Prop := ∃ ys, Sees hp xs ys ∧ s.dec ys = some a
theorem SeesD.nil {hp : Hp} : SeesD hp csN [] () := ⟨[], .nil, rfl⟩
theorem SeesD.cons {α β : Type} {hp : Hp} {c : Cd α} {s : Cs β} {x : AV} {xs : List AV} {v : α} {a : β} (h1 : SeeD hp c x v) (h2 : SeesD hp s xs a) : SeesD hp (csC c s) (x :: xs) (v, a) := by
 obtain ⟨y, k1, k2⟩ := h1
 obtain ⟨ys, q1, q2⟩ := h2
 refine ⟨y :: ys, .cons k1 q1, ?_⟩
 show ((c.dec y).bind fun x => (s.dec ys).map fun y => (x, y)) = _
 rw [k2, q2]; rfl
theorem SeeD.enc {α : Type} {hp : Hp} {c : Cd α} {v : α} : SeeD hp c (c.enc v) v := ⟨_, .enc, c.de v⟩
theorem SeeD.e0 {α : Type} {hp : Hp} {c : Cd α} {k : Nat} : SeeD hp (cdL k c) .e0 [] := ⟨.e0, .id rfl, rfl⟩
theorem SeeD.own {α : Type} {hp : Hp} {o : Oc α} {e : AV} {x : α} {L : List Asn} {i : Nat} (ht : T hp L) (hi : L[i]? = some (own_ o e x)) : SeeD hp o.cd e x := ⟨_, .own ht hi, o.cd.de x⟩
section
variable {E : Env} {cx : Cx} {ops : Array Oper} {rest rest' : List Oper} {K : St → Prop} {n n0 k T : Nat} {l : List (Nat × AV)} {hp : Hp}
theorem RunL.call {α β : Type} {s : Cs α} {F : α → Option β} {er : β → AV} {a : α} {b : β} {xs : List AV} (hE : EnvOk E) {d : Nat} {f : Operand} {args : Array Operand} {tys : Array TypeId} {ty : TypeId} {pos : String} {af : Array Edge} {g : Option (Nat × Bool)} {fid : FuncId} (hr : rest = ⟨some d, .call ⟨.value f, args, tys⟩, ty, pos, af, g⟩ :: rest') (hw : wantedA ops (Fr n l) ⟨some d, .call ⟨.value f, args, tys⟩, ty, pos, af, g⟩ = some true)
  (hf : opA E (Fr n l) f = some (.fn fid [] [])) (hi : E.I fid = false) (hX : E.X fid = some (told s F er)) (ha : opds (opA E (Fr n l)) args.toList = some xs) (hv : Sns hp s xs a) (hok : xs.all noRf2 = true ∨ flatTp (er b) = true) (hF : F a = some b) (k : RunL E cx ops rest' ⟨Fr n ((d, er b) :: l), hp⟩ K) : RunL E cx ops rest ⟨Fr n l, hp⟩ K :=
 RunL.one hE 0 hr (op_call hw hf hi hX ha hv hok hF) k
end
section
variable {E : Env} {cx : Cx} {ops : Array Oper} {s : St} {Q : Ex → St → Prop} {id : Nat} {A : St → Prop} {c : Code}
theorem SemY.wkQ (h : SemY E cx c s fun e s' => ∃ s2, WkY E s' s2 ∧ Q e s2) : SemY E cx c s Q := by
 intro ro base Qm a w Z R h1 h2 h3 k
 refine h ro base Qm a w Z R h1 h2 h3 fun e s' a' w' Z' R' hQ sr st => ?_
 obtain ⟨s2, hw, hq⟩ := hQ
 obtain ⟨Z2, R2, sr2, st2⟩ := hw base w' Z' R' a' sr
 exact k e s2 a' w' Z2 R2 hq sr2 (st.trans st2)
end
theorem kr.{u} {α : Sort u} {a b : α} (h : a = b := by kernel_rfl) : a = b := h
section
variable {E : Env} {cx : Cx} {ops : Array Oper} {rest : List Oper} {K : St → Prop} {n n0 k0 m : Nat} {l l' : List (Nat × AV)} {hp hp' : Hp} {Q : Ex → St → Prop} {id : Nat} {c : Code}
theorem RunS.last (hE : EnvOk E) {s : St} (h : segB (opsA E (evC E 0) ⟨none, false⟩ ops rest s) l' = some (n, xs2 l', hp) := by kernel_rfl) : RunS E ops rest s fun s' => Wk E s' ⟨Fr n l', hp⟩ :=
 RunS.segF hE rest.length l' hp (by rw [List.take_length]; exact h) (RunS.done (by simp) Wk.refl)
theorem Sem.rg (hE : EnvOk E) (l' : List (Nat × AV)) (hp' : Hp) (k : Q .normal ⟨Fr n l', hp'⟩) (h : segB (opsA E (evC E 0) ⟨none, false⟩ ops ops.toList ⟨Fr n l, hp⟩) l' = some (n, xs2 l', hp') := by kernel_rfl) : Sem E cx (.region id ops false) ⟨Fr n l, hp⟩ Q :=
 Sem.runS (RunS.last hE h) k
theorem Sem.sq (hE : EnvOk E) (l' : List (Nat × AV)) (hp' : Hp) (k : Sem E cx c ⟨Fr n l', hp'⟩ Q) (h : segB (opsA E (evC E 0) ⟨none, false⟩ ops ops.toList ⟨Fr n l, hp⟩) l' = some (n, xs2 l', hp') := by kernel_rfl) : Sem E cx (.seq (.region id ops false) c) ⟨Fr n l, hp⟩ Q :=
 Sem.seq (Sem.rg hE l' hp' k h)
end
/- trestle/court.Inversions$1 -/
noncomputable def cb_court_Inversions_1 : Code := codeOf Tryz.f68
def court_Inversions_1 (x0 : Int) (x1 : (List Int)) : Option (Bool) :=
 (if (decide (x0 < 0)) = true then some true else some (decide (x0 ≥ (x1.length : Int)))).bind fun j2 =>
 some j2
def cs_court_Inversions_1 : Cs (Int × (List Int) × Unit) := (csC cdI (csC (cdP (cdL 1 cdI)) csN))
def er_court_Inversions_1 (r : Bool) : AV := cdB.enc r
set_option maxHeartbeats 4000000 in
set_option maxRecDepth 100000 in
theorem court_Inversions_1_sem (x0 : Int) (x1 : (List Int)) (r : Bool) (h : court_Inversions_1 x0 x1 = some r) : Sem E0 ⟨none, false⟩ cb_court_Inversions_1 ⟨Fr 12 (pairs0 0 (cs_court_Inversions_1.enc (x0, x1, ()))), []⟩ fun e s' => (e = .normal ∨ e = .ret) ∧ ∃ xs, resA E0.P s'.fr s'.hp Tryz.f68.results.toList = some xs ∧ retA xs = er_court_Inversions_1 r := by
 unfold court_Inversions_1 at h
 let p1 : Nat × AV := (1, .pe (.sl 1 (x1.map cdI.enc)) 0)
 let p2 : Nat × AV := (0, .v (.int .i64 x0))
 refine Sem.wkQ (Sem.wk (s1 := ⟨Fr 12 [p2, p1], []⟩) (Wk.fr kr) ?_)
 refine Sem.sq E0_ok [p2, p1] [] ?_
 refine Sem.seq ?_
 obtain ⟨j2, hj2, h⟩ := Option.bind_eq_some_iff.1 h
 refine Sem.runS (s1 := ⟨Fr 12 [(3, .v (.bool j2))], []⟩) ?_ ?_
 ·refine RunS.segF (n := 12) E0_ok 3 [p2, p1, (6, .v (.bool (decide (x0 < 0))))] [] kr ?_
  rcases Bool.eq_false_or_eq_true (decide (x0 < 0)) with hc3 | hc3
  ·rw [if_pos hc3] at hj2
   rw [hc3]
   refine RunS.segF (n := 12) E0_ok 6 [(3, .v (.bool true))] [] kr ?_
   have hq := Option.some.inj hj2; subst hq
   exact RunS.done rfl (Wk.fr kr)
  ·rw [if_f hc3] at hj2
   rw [hc3]
   refine RunS.segF (n := 12) E0_ok 2 [(6, .v (.bool false)), (7, .v (.int .i64 x0)), (8, .sl 1 (x1.map cdI.enc))] [] kr ?_
   refine RunS.one E0_ok 0 rfl (op_q kr rfl (q_len (a := .sl 1 (x1.map cdI.enc)) kr (len_sl (el := 3) kr))) ?_
   refine RunS.segF (n := 12) E0_ok 3 [(3, .v (.bool (decide (x0 ≥ (x1.length : Int)))))] [] kr ?_
   have hq := Option.some.inj hj2; subst hq
   exact RunS.done rfl (Wk.fr kr)
 refine Sem.ret ?_
 have hq := Option.some.inj h; subst hq
 exact ⟨⟨Fr 12 [(3, .v (.bool j2))], []⟩, (Wk.fr kr), .inr rfl, [.v (.bool j2)], kr, kr⟩
def t_court_Inversions_1 : List AV → Option AV := told cs_court_Inversions_1 (fun a => court_Inversions_1 a.1 a.2.1) er_court_Inversions_1
theorem x_court_Inversions_1 : XOk 68 t_court_Inversions_1 := by
 refine EnvOk.x (E := E0) (contract_ok E0_ok (fn := Tryz.f68) (c := cb_court_Inversions_1) ?h1 ?h2 ⟨Tryz.call68⟩ cs_court_Inversions_1 (fun a => court_Inversions_1 a.1 a.2.1) er_court_Inversions_1 (fun a => (by show 2 ≤ 12; decide)) ?h3 ?h4) rfl rfl
 case h1 => kernel_rfl
 case h2 => kernel_rfl
 case h3 => intro b; kernel_rfl
 case h4 => exact fun a b h => court_Inversions_1_sem a.1 a.2.1 b h
/- slices.IndexFunc[[]int,int] -/
noncomputable def cb_slices_IndexFunc_L_int__court_Inversions_1 : Code := codeOf Tryz.f106
def slices_IndexFunc_L_int__court_Inversions_1_l1 (x0 : (List Int)) (x1 : (List Int)) : Nat → Int → Option ((Unit) ⊕ (Int))
 | 0, _ => none
 | f + 1, c1 =>
  if (decide (c1 < (x0.length : Int))) = true then
  (idx x0 c1).bind fun v3 =>
  (court_Inversions_1 v3 x1).bind fun v4 =>
  if v4 = true then
  some (.inr c1)
  else
  slices_IndexFunc_L_int__court_Inversions_1_l1 x0 x1 f (wr .i64 (c1 + 1))
  else
  some (.inl ())
def slices_IndexFunc_L_int__court_Inversions_1 (x0 : (List Int)) (x1 : (List Int)) : Option (Int) :=
 (slices_IndexFunc_L_int__court_Inversions_1_l1 x0 x1 100000 0).bind fun r7 =>
 match r7 with
 | (.inl w8) =>
  some (-1)
 | (.inr w9) =>
  some w9
def cs_slices_IndexFunc_L_int__court_Inversions_1 : Cs ((List Int) × (List Int) × Unit) := (csC (cdL 1 cdI) (csC (cdF 68 (csE (cdP (cdL 1 cdI))) (fun _ => rfl)) csN))
def er_slices_IndexFunc_L_int__court_Inversions_1 (r : Int) : AV := cdI.enc r
set_option maxHeartbeats 4000000 in
set_option maxRecDepth 100000 in
theorem slices_IndexFunc_L_int__court_Inversions_1_l1_ok (x0 : (List Int)) (x1 : (List Int)) : ∀ (f : Nat) (c1 : Int) (r : (Unit) ⊕ (Int)), slices_IndexFunc_L_int__court_Inversions_1_l1 x0 x1 f c1 = some r → SemN E0 ⟨none, false⟩ (pc cb_slices_IndexFunc_L_int__court_Inversions_1 [1, 0, 1, 0, 0]) f ⟨Fr 19 [(0, .sl 1 (x0.map cdI.enc)), (1, .fn 68 [] [.pe (.sl 1 (x1.map cdI.enc)) 0]), (7, .v (.int .i64 (x0.length : Int))), (8, .v (.int .i64 c1))], []⟩ (fun e s => match r with
 | (.inl w) => e = (.exit 0) ∧ Wk E0 s ⟨Fr 19 [], []⟩
 | (.inr w) => e = .ret ∧ Wk E0 s ⟨Fr 19 [(4, .v (.int .i64 w))], []⟩) := by
 intro f
 induction f with
 | zero => intro c1 r h; cases h
 | succ f ih0 =>
  intro c1 r h
  have ih := fun (c1 : Int) => ih0 c1 r
  unfold slices_IndexFunc_L_int__court_Inversions_1_l1 at h
  refine SemN.succ ?_
  let p1 : Nat × AV := (8, .v (.int .i64 c1))
  let p2 : Nat × AV := (7, .v (.int .i64 (x0.length : Int)))
  let p3 : Nat × AV := (1, .fn 68 [] [.pe (.sl 1 (x1.map cdI.enc)) 0])
  let p4 : Nat × AV := (0, .sl 1 (x0.map cdI.enc))
  refine Sem.sq E0_ok [p4, p3, p2, p1, (9, .v (.bool (decide (c1 < (x0.length : Int)))))] [] ?_
  refine Sem.seq ?_
  refine Sem.cond (b := (decide (c1 < (x0.length : Int)))) kr (fun hb2 => ?_) (fun hb2 => ?_)
  ·rw [if_pos hb2] at h
   refine Sem.skip ?_
   refine Sem.seq ?_
   refine Sem.block ?_
   let p5 : Nat × AV := (5, .v (.int .i64 c1))
   refine Sem.sq E0_ok [p4, p3, p5, p2, p1] [] ?_
   refine Sem.seq ?_
   obtain ⟨v3, hv3, h⟩ := Option.bind_eq_some_iff.1 h
   obtain ⟨v4, hv4, h⟩ := Option.bind_eq_some_iff.1 h
   refine Sem.runS (s1 := ⟨Fr 19 [p4, p3, p5, p2, p1, (16, .v (.bool v4))], []⟩) ?_ ?_
   ·let p6 : Nat × AV := (11, .fn 68 [] [.pe (.sl 1 (x1.map cdI.enc)) 0])
    refine RunS.segF (n := 19) E0_ok 3 [p4, p3, p5, p2, p1, p6, (12, .sl 1 (x0.map cdI.enc)), (13, .v (.int .i64 c1))] [] kr ?_
    refine RunS.one E0_ok 0 rfl (op_q (wantedA_none rfl) rfl (q_indexAddr (a := .sl 1 (x0.map cdI.enc)) (b := .v (.int .i64 c1)) kr kr (ix_sl (e := cdI.enc) (el := 3) (k := 1) (ki := .i64) kr kr hv3))) ?_
    refine RunS.segF (n := 19) E0_ok 1 [p4, p3, p5, p2, p1, p6, (15, .v (.int .i64 v3))] [] kr ?_
    refine RunS.callV (caps := [.pe (.sl 1 (x1.map cdI.enc)) 0]) (xs := [.v (.int .i64 v3)]) (u := (v3, x1, ())) rfl rfl x_court_Inversions_1 rfl (wantedA_none rfl) kr kr (Sl.cons (Sm.enc (c := cdI) (v := v3)) (Sl.cons (Sm.enc (c := (cdP (cdL 1 cdI))) (v := x1)) Sl.nil)) (.inl kr) hv4 ?_
    exact RunS.done rfl (Wk.fr kr)
   refine Sem.cond (b := v4) kr (fun hb5 => ?_) (fun hb5 => ?_)
   ·rw [if_pos hb5] at h
    refine Sem.sq E0_ok [(4, .v (.int .i64 c1))] [] ?_
    refine Sem.ret ?_
    have hq := Option.some.inj h; subst hq
    exact ⟨rfl, (Wk.fr kr)⟩
   ·rw [if_f hb5] at h
    refine Sem.skip ?_
    let p7 : Nat × AV := (8, .v (.int .i64 (wr .i64 (c1 + 1))))
    refine Sem.rg E0_ok [p4, p3, p2, p7] [] ?_
    exact SemN.wk (s1 := ⟨Fr 19 [p4, p3, p2, p7], []⟩) (Wk.fr kr) (ih (wr .i64 (c1 + 1)) h)
  ·rw [if_f hb2] at h
   refine Sem.exit ?_
   have hq := Option.some.inj h; subst hq
   exact ⟨rfl, (Wk.fr kr)⟩
set_option maxHeartbeats 4000000 in
set_option maxRecDepth 100000 in
theorem slices_IndexFunc_L_int__court_Inversions_1_sem (x0 : (List Int)) (x1 : (List Int)) (r : Int) (h : slices_IndexFunc_L_int__court_Inversions_1 x0 x1 = some r) : Sem E0 ⟨none, false⟩ cb_slices_IndexFunc_L_int__court_Inversions_1 ⟨Fr 19 (pairs0 0 (cs_slices_IndexFunc_L_int__court_Inversions_1.enc (x0, x1, ()))), []⟩ fun e s' => (e = .normal ∨ e = .ret) ∧ ∃ xs, resA E0.P s'.fr s'.hp Tryz.f106.results.toList = some xs ∧ retA xs = er_slices_IndexFunc_L_int__court_Inversions_1 r := by
 unfold slices_IndexFunc_L_int__court_Inversions_1 at h
 let p1 : Nat × AV := (1, .fn 68 [] [.pe (.sl 1 (x1.map cdI.enc)) 0])
 let p2 : Nat × AV := (0, .sl 1 (x0.map cdI.enc))
 refine Sem.wkQ (Sem.wk (s1 := ⟨Fr 19 [p2, p1], []⟩) (Wk.fr kr) ?_)
 refine Sem.sq E0_ok [p2, p1] [] ?_
 refine Sem.seq ?_
 refine Sem.seq ?_
 let p3 : Nat × AV := (8, .v (.int .i64 0))
 let p4 : Nat × AV := (7, .v (.int .i64 (x0.length : Int)))
 refine Sem.runS (s1 := ⟨Fr 19 [p2, p1, p4, p3], []⟩) ?_ ?_
 ·refine RunS.segF (n := 19) E0_ok 1 [p2, p1, (6, .sl 1 (x0.map cdI.enc))] [] kr ?_
  refine RunS.one E0_ok 0 rfl (op_q (wantedA_none rfl) rfl (q_len (a := .sl 1 (x0.map cdI.enc)) kr (len_sl (el := 3) kr))) ?_
  exact RunS.last E0_ok
 refine Sem.block ?_
 obtain ⟨r7, hr7, h⟩ := Option.bind_eq_some_iff.1 h
 refine Sem.loop (n := 100000) ?_
 rcases r7 with w8 | w9
 ·try dsimp only at h
  refine Sem.cutN (SemN.wk (s1 := ⟨Fr 19 [p2, p1, p4, p3], []⟩) (Wk.fr kr) (slices_IndexFunc_L_int__court_Inversions_1_l1_ok x0 x1 _ 0 _ hr7)) ?_
  refine Sem.sq E0_ok [(4, .v (.int .i64 (-1)))] [] ?_
  refine Sem.ret ?_
  have hq := Option.some.inj h; subst hq
  exact ⟨⟨Fr 19 [(4, .v (.int .i64 (-1)))], []⟩, (Wk.fr kr), .inr rfl, [.v (.int .i64 (-1))], kr, kr⟩
 ·try dsimp only at h
  refine Sem.cutN (SemN.wk (s1 := ⟨Fr 19 [p2, p1, p4, p3], []⟩) (Wk.fr kr) (slices_IndexFunc_L_int__court_Inversions_1_l1_ok x0 x1 _ 0 _ hr7)) ?_
  have hq := Option.some.inj h; subst hq
  exact ⟨⟨Fr 19 [(4, .v (.int .i64 w9))], []⟩, (Wk.fr kr), .inr rfl, [.v (.int .i64 w9)], kr, kr⟩
def t_slices_IndexFunc_L_int__court_Inversions_1 : List AV → Option AV := told cs_slices_IndexFunc_L_int__court_Inversions_1 (fun a => slices_IndexFunc_L_int__court_Inversions_1 a.1 a.2.1) er_slices_IndexFunc_L_int__court_Inversions_1
theorem x_slices_IndexFunc_L_int__court_Inversions_1 : XOk 106 t_slices_IndexFunc_L_int__court_Inversions_1 := by
 refine EnvOk.x (E := E0) (contract_ok E0_ok (fn := Tryz.f106) (c := cb_slices_IndexFunc_L_int__court_Inversions_1) ?h1 ?h2 ⟨Tryz.call106⟩ cs_slices_IndexFunc_L_int__court_Inversions_1 (fun a => slices_IndexFunc_L_int__court_Inversions_1 a.1 a.2.1) er_slices_IndexFunc_L_int__court_Inversions_1 (fun a => (by show 2 ≤ 19; decide)) ?h3 ?h4) rfl rfl
 case h1 => kernel_rfl
 case h2 => kernel_rfl
 case h3 => intro b; kernel_rfl
 case h4 => exact fun a b h => slices_IndexFunc_L_int__court_Inversions_1_sem a.1 a.2.1 b h
/- slices.ContainsFunc[[]int,int] -/
noncomputable def cb_slices_ContainsFunc_L_int__court_Inversions_1 : Code := codeOf Tryz.f67
def slices_ContainsFunc_L_int__court_Inversions_1 (x0 : (List Int)) (x1 : (List Int)) : Option (Bool) :=
 (slices_IndexFunc_L_int__court_Inversions_1 x0 x1).bind fun v1 =>
 some (decide (v1 ≥ 0))
def cs_slices_ContainsFunc_L_int__court_Inversions_1 : Cs ((List Int) × (List Int) × Unit) := (csC (cdL 1 cdI) (csC (cdF 68 (csE (cdP (cdL 1 cdI))) (fun _ => rfl)) csN))
def er_slices_ContainsFunc_L_int__court_Inversions_1 (r : Bool) : AV := cdB.enc r
set_option maxHeartbeats 4000000 in
set_option maxRecDepth 100000 in
theorem slices_ContainsFunc_L_int__court_Inversions_1_sem (x0 : (List Int)) (x1 : (List Int)) (r : Bool) (h : slices_ContainsFunc_L_int__court_Inversions_1 x0 x1 = some r) : Sem E0 ⟨none, false⟩ cb_slices_ContainsFunc_L_int__court_Inversions_1 ⟨Fr 9 (pairs0 0 (cs_slices_ContainsFunc_L_int__court_Inversions_1.enc (x0, x1, ()))), []⟩ fun e s' => (e = .normal ∨ e = .ret) ∧ ∃ xs, resA E0.P s'.fr s'.hp Tryz.f67.results.toList = some xs ∧ retA xs = er_slices_ContainsFunc_L_int__court_Inversions_1 r := by
 unfold slices_ContainsFunc_L_int__court_Inversions_1 at h
 let p1 : Nat × AV := (1, .fn 68 [] [.pe (.sl 1 (x1.map cdI.enc)) 0])
 refine Sem.wkQ (Sem.wk (s1 := ⟨Fr 9 [(0, .sl 1 (x0.map cdI.enc)), p1], []⟩) (Wk.fr kr) ?_)
 refine Sem.sq E0_ok [(0, .sl 1 (x0.map cdI.enc)), p1] [] ?_
 refine Sem.seq ?_
 obtain ⟨v1, hv1, h⟩ := Option.bind_eq_some_iff.1 h
 let p2 : Nat × AV := (4, .v (.bool (decide (v1 ≥ 0))))
 refine Sem.runS (s1 := ⟨Fr 9 [p2], []⟩) ?_ ?_
 ·refine RunS.segF (n := 9) E0_ok 2 [(5, .sl 1 (x0.map cdI.enc)), (6, .fn 68 [] [.pe (.sl 1 (x1.map cdI.enc)) 0])] [] kr ?_
  refine RunS.callV (caps := []) (xs := [.sl 1 (x0.map cdI.enc), .fn 68 [] [.pe (.sl 1 (x1.map cdI.enc)) 0]]) (u := (x0, x1, ())) rfl rfl x_slices_IndexFunc_L_int__court_Inversions_1 rfl (wantedA_none rfl) kr kr (Sl.cons (Sm.enc (c := (cdL 1 cdI)) (v := x0)) (Sl.cons (Sm.fn (Sl.last (Sm.enc (c := (cdP (cdL 1 cdI))) (v := x1)))) Sl.nil)) (.inl kr) hv1 ?_
  exact RunS.last E0_ok
 refine Sem.ret ?_
 have hq := Option.some.inj h; subst hq
 exact ⟨⟨Fr 9 [p2], []⟩, (Wk.fr kr), .inr rfl, [.v (.bool (decide (v1 ≥ 0)))], kr, kr⟩
def t_slices_ContainsFunc_L_int__court_Inversions_1 : List AV → Option AV := told cs_slices_ContainsFunc_L_int__court_Inversions_1 (fun a => slices_ContainsFunc_L_int__court_Inversions_1 a.1 a.2.1) er_slices_ContainsFunc_L_int__court_Inversions_1
theorem x_slices_ContainsFunc_L_int__court_Inversions_1 : XOk 67 t_slices_ContainsFunc_L_int__court_Inversions_1 := by
 refine EnvOk.x (E := E0) (contract_ok E0_ok (fn := Tryz.f67) (c := cb_slices_ContainsFunc_L_int__court_Inversions_1) ?h1 ?h2 ⟨Tryz.call67⟩ cs_slices_ContainsFunc_L_int__court_Inversions_1 (fun a => slices_ContainsFunc_L_int__court_Inversions_1 a.1 a.2.1) er_slices_ContainsFunc_L_int__court_Inversions_1 (fun a => (by show 2 ≤ 9; decide)) ?h3 ?h4) rfl rfl
 case h1 => kernel_rfl
 case h2 => kernel_rfl
 case h3 => intro b; kernel_rfl
 case h4 => exact fun a b h => slices_ContainsFunc_L_int__court_Inversions_1_sem a.1 a.2.1 b h
/- trestle/court.Inversions -/
noncomputable def cb_court_Inversions : Code := codeOf Tryz.f21
def court_Inversions_j3 (x0 : (List Int)) (x1 : (List Int)) (c4 : Int) (v6 : Int) (c8 : Int) (c9 : Int) (v12 : Int) (v13 : Int) : Option ((Int)) :=
 if (decide (v12 > v13)) = true then
 some (wr .i64 (c8 + 1))
 else
 some c8
def court_Inversions_l2 (x0 : (List Int)) (x1 : (List Int)) (c4 : Int) (v6 : Int) : Nat → Int → Int → Option ((Int))
 | 0, _, _ => none
 | f + 1, c8, c9 =>
  if (decide (c9 < (((x1.take (x1.length : Int).toNat).drop (wr .i64 (c4 + 1)).toNat).length : Int))) = true then
  (idx ((x1.take (x1.length : Int).toNat).drop (wr .i64 (c4 + 1)).toNat) c9).bind fun v11 =>
  (idx x0 v6).bind fun v12 =>
  (idx x0 v11).bind fun v13 =>
  (court_Inversions_j3 x0 x1 c4 v6 c8 c9 v12 v13).bind fun r16 =>
  court_Inversions_l2 x0 x1 c4 v6 f r16 (wr .i64 (c9 + 1))
  else
  some c8
def court_Inversions_l1 (x0 : (List Int)) (x1 : (List Int)) : Nat → Int → Int → Option ((Int))
 | 0, _, _ => none
 | f + 1, c3, c4 =>
  if (decide (c4 < (x1.length : Int))) = true then
  (idx x1 c4).bind fun v6 =>
  if (cutOk (wr .i64 (c4 + 1)) (x1.length : Int) x1.length) = true then
  (court_Inversions_l2 x0 x1 c4 v6 100000 c3 0).bind fun r18 =>
  court_Inversions_l1 x0 x1 f r18 (wr .i64 (c4 + 1))
  else none
  else
  some c3
def court_Inversions (x0 : (List Int)) (x1 : (List Int)) : Option (Int) :=
 (slices_ContainsFunc_L_int__court_Inversions_1 x1 x0).bind fun v1 =>
 if v1 = true then
 some 0
 else
 (court_Inversions_l1 x0 x1 100000 0 0).bind fun r20 =>
 some r20
def cs_court_Inversions : Cs ((List Int) × (List Int) × Unit) := (csC (cdL 1 cdI) (csC (cdL 1 cdI) csN))
def er_court_Inversions (r : Int) : AV := cdI.enc r
set_option maxHeartbeats 4000000 in
set_option maxRecDepth 100000 in
theorem court_Inversions_j3_ok (x0 : (List Int)) (x1 : (List Int)) (c4 : Int) (v6 : Int) (c8 : Int) (c9 : Int) (v12 : Int) (v13 : Int) (r : (Int)) (h : court_Inversions_j3 x0 x1 c4 v6 c8 c9 v12 v13 = some r) : Sem E0 ⟨none, false⟩ (pc cb_court_Inversions [1, 1, 1, 0, 1, 0, 0, 1, 1, 0, 0, 1, 1, 0, 0, 1, 1, 0, 0, 1, 1]) ⟨Fr 43 [(1, .sl 1 (x1.map cdI.enc)), (2, .pt 0 0 0), (5, .v (.int .i64 c8)), (7, .v (.int .i64 v6)), (13, .sl 1 (x1.map cdI.enc)), (14, .v (.int .i64 (x1.length : Int))), (15, .v (.int .i64 c4)), (23, .sl 1 (((x1.take (x1.length : Int).toNat).drop (wr .i64 (c4 + 1)).toNat).map cdI.enc)), (24, .v (.int .i64 (((x1.take (x1.length : Int).toNat).drop (wr .i64 (c4 + 1)).toNat).length : Int))), (25, .v (.int .i64 c9)), (37, .v (.bool (decide (v12 > v13))))], [some ⟨1, 28, [.sl 1 (x0.map cdI.enc)], false⟩]⟩ (fun e s => e = .normal ∧ Wk E0 s ⟨Fr 43 [(1, .sl 1 (x1.map cdI.enc)), (2, .pt 0 0 0), (5, .v (.int .i64 r)), (7, .v (.int .i64 v6)), (13, .sl 1 (x1.map cdI.enc)), (14, .v (.int .i64 (x1.length : Int))), (15, .v (.int .i64 c4)), (23, .sl 1 (((x1.take (x1.length : Int).toNat).drop (wr .i64 (c4 + 1)).toNat).map cdI.enc)), (24, .v (.int .i64 (((x1.take (x1.length : Int).toNat).drop (wr .i64 (c4 + 1)).toNat).length : Int))), (25, .v (.int .i64 c9))], [some ⟨1, 28, [.sl 1 (x0.map cdI.enc)], false⟩]⟩) := by
 unfold court_Inversions_j3 at h
 refine Sem.cond (b := (decide (v12 > v13))) kr (fun hb14 => ?_) (fun hb14 => ?_)
 ·rw [if_pos hb14] at h
  refine Sem.rg E0_ok [(1, .sl 1 (x1.map cdI.enc)), (2, .pt 0 0 0), (5, .v (.int .i64 (wr .i64 (c8 + 1)))), (7, .v (.int .i64 v6)), (13, .sl 1 (x1.map cdI.enc)), (14, .v (.int .i64 (x1.length : Int))), (15, .v (.int .i64 c4)), (23, .sl 1 (((x1.take (x1.length : Int).toNat).drop (wr .i64 (c4 + 1)).toNat).map cdI.enc)), (24, .v (.int .i64 (((x1.take (x1.length : Int).toNat).drop (wr .i64 (c4 + 1)).toNat).length : Int))), (25, .v (.int .i64 c9))] [some ⟨1, 28, [.sl 1 (x0.map cdI.enc)], false⟩] ?_
  have hq := Option.some.inj h; subst hq
  exact ⟨rfl, (Wk.sel2 [0] kr kr kr ⟨⟨_, rfl, bu_c kr kr⟩, trivial⟩ ⟨lu kr kr, lu kr kr, lu kr kr, lu kr kr, lu kr kr, lu kr kr, lu kr kr, lu kr kr, lu kr kr, lu kr kr, trivial⟩)⟩
 ·rw [if_f hb14] at h
  refine Sem.skip ?_
  have hq := Option.some.inj h; subst hq
  exact ⟨rfl, (Wk.sel2 [0] kr kr kr ⟨⟨_, rfl, bu_c kr kr⟩, trivial⟩ ⟨lu kr kr, lu kr kr, lu kr kr, lu kr kr, lu kr kr, lu kr kr, lu kr kr, lu kr kr, lu kr kr, lu kr kr, trivial⟩)⟩
set_option maxHeartbeats 4000000 in
set_option maxRecDepth 100000 in
theorem court_Inversions_l2_ok (x0 : (List Int)) (x1 : (List Int)) (c4 : Int) (v6 : Int) : ∀ (f : Nat) (c8 : Int) (c9 : Int) (r : (Int)), court_Inversions_l2 x0 x1 c4 v6 f c8 c9 = some r → SemN E0 ⟨none, false⟩ (pc cb_court_Inversions [1, 1, 1, 0, 1, 0, 0, 1, 1, 0, 0, 1, 1, 0, 0]) f ⟨Fr 43 [(1, .sl 1 (x1.map cdI.enc)), (2, .pt 0 0 0), (5, .v (.int .i64 c8)), (7, .v (.int .i64 v6)), (13, .sl 1 (x1.map cdI.enc)), (14, .v (.int .i64 (x1.length : Int))), (15, .v (.int .i64 c4)), (23, .sl 1 (((x1.take (x1.length : Int).toNat).drop (wr .i64 (c4 + 1)).toNat).map cdI.enc)), (24, .v (.int .i64 (((x1.take (x1.length : Int).toNat).drop (wr .i64 (c4 + 1)).toNat).length : Int))), (25, .v (.int .i64 c9))], [some ⟨1, 28, [.sl 1 (x0.map cdI.enc)], false⟩]⟩ (fun e s => e = (.exit 2) ∧ Wk E0 s ⟨Fr 43 [(1, .sl 1 (x1.map cdI.enc)), (2, .pt 0 0 0), (5, .v (.int .i64 r)), (13, .sl 1 (x1.map cdI.enc)), (14, .v (.int .i64 (x1.length : Int))), (15, .v (.int .i64 c4))], [some ⟨1, 28, [.sl 1 (x0.map cdI.enc)], false⟩]⟩) := by
 intro f
 induction f with
 | zero => intro c8 c9 r h; cases h
 | succ f ih0 =>
  intro c8 c9 r h
  have ih := fun (c8 : Int) (c9 : Int) => ih0 c8 c9 r
  unfold court_Inversions_l2 at h
  refine SemN.succ ?_
  let p1 : Option Blk := some ⟨1, 28, [.sl 1 (x0.map cdI.enc)], false⟩
  let p2 : Nat × AV := (25, .v (.int .i64 c9))
  let p3 : Nat × AV := (24, .v (.int .i64 (((x1.take (x1.length : Int).toNat).drop (wr .i64 (c4 + 1)).toNat).length : Int)))
  let p4 : Nat × AV := (23, .sl 1 (((x1.take (x1.length : Int).toNat).drop (wr .i64 (c4 + 1)).toNat).map cdI.enc))
  let p5 : Nat × AV := (15, .v (.int .i64 c4))
  let p6 : Nat × AV := (14, .v (.int .i64 (x1.length : Int)))
  let p7 : Nat × AV := (13, .sl 1 (x1.map cdI.enc))
  let p8 : Nat × AV := (7, .v (.int .i64 v6))
  let p9 : Nat × AV := (5, .v (.int .i64 c8))
  let p10 : Nat × AV := (2, .pt 0 0 0)
  let p11 : Nat × AV := (1, .sl 1 (x1.map cdI.enc))
  refine Sem.sq E0_ok [p11, p10, p9, p8, p7, p6, p5, p4, p3, p2, (26, .v (.bool (decide (c9 < (((x1.take (x1.length : Int).toNat).drop (wr .i64 (c4 + 1)).toNat).length : Int)))))] [p1] ?_
  refine Sem.seq ?_
  refine Sem.cond (b := (decide (c9 < (((x1.take (x1.length : Int).toNat).drop (wr .i64 (c4 + 1)).toNat).length : Int)))) kr (fun hb10 => ?_) (fun hb10 => ?_)
  ·rw [if_pos hb10] at h
   refine Sem.skip ?_
   refine Sem.seq ?_
   refine Sem.block ?_
   refine Sem.seq ?_
   obtain ⟨v11, hv11, h⟩ := Option.bind_eq_some_iff.1 h
   refine Sem.runS (s1 := ⟨Fr 43 [p11, p10, p9, p8, (9, .v (.int .i64 v11)), p7, p6, p5, p4, p3, p2], [p1]⟩) ?_ ?_
   ·refine RunS.one E0_ok 0 rfl (op_q (wantedA_none rfl) rfl (q_indexAddr (a := .sl 1 (((x1.take (x1.length : Int).toNat).drop (wr .i64 (c4 + 1)).toNat).map cdI.enc)) (b := .v (.int .i64 c9)) kr kr (ix_sl (e := cdI.enc) (el := 3) (k := 1) (ki := .i64) kr kr hv11))) ?_
    exact RunS.last E0_ok
   refine Sem.seq ?_
   obtain ⟨v12, hv12, h⟩ := Option.bind_eq_some_iff.1 h
   obtain ⟨v13, hv13, h⟩ := Option.bind_eq_some_iff.1 h
   let p12 : Nat × AV := (37, .v (.bool (decide (v12 > v13))))
   refine Sem.runDS E0_ok (s1 := ⟨Fr 43 [p11, p10, p9, p8, p7, p6, p5, p4, p3, p2, p12], [p1]⟩) kr ?_ ?_
   ·refine RunDS.segF (n := 43) E0_ok 2 [p11, p10, p9, p8, (9, .v (.int .i64 v11)), p7, p6, p5, p4, p3, p2, (29, .sl 1 (x0.map cdI.enc)), (30, .v (.int .i64 v6))] [p1] kr kr ?_
    refine RunDS.one E0_ok rfl kr (opd_q kr (wantedA_none rfl) rfl (q_indexAddr (a := .sl 1 (x0.map cdI.enc)) (b := .v (.int .i64 v6)) kr kr (ix_sl (e := cdI.enc) (el := 3) (k := 1) (ki := .i64) kr kr hv12)) kr) ?_
    refine RunDS.segF (n := 43) E0_ok 3 [p11, p10, p9, p8, p7, p6, p5, p4, p3, p2, (32, .v (.int .i64 v12)), (33, .sl 1 (x0.map cdI.enc)), (34, .v (.int .i64 v11))] [p1] kr kr ?_
    refine RunDS.one E0_ok rfl kr (opd_q kr (wantedA_none rfl) rfl (q_indexAddr (a := .sl 1 (x0.map cdI.enc)) (b := .v (.int .i64 v11)) kr kr (ix_sl (e := cdI.enc) (el := 3) (k := 1) (ki := .i64) kr kr hv13)) kr) ?_
    refine RunDS.segF (n := 43) E0_ok 2 [p11, p10, p9, p8, p7, p6, p5, p4, p3, p2, p12] [p1] kr kr ?_
    exact RunDS.done rfl (Wk.sel2 [0] kr kr kr ⟨⟨_, rfl, bu_c kr kr⟩, trivial⟩ ⟨lu kr kr, lu kr kr, lu kr kr, lu kr kr, lu kr kr, lu kr kr, lu kr kr, lu kr kr, lu kr kr, lu kr kr, lu kr kr, trivial⟩)
   obtain ⟨r16, hr16, h⟩ := Option.bind_eq_some_iff.1 h
   refine Sem.cut (court_Inversions_j3_ok x0 x1 c4 v6 c8 c9 v12 v13 _ hr16) ?_
   let p13 : Nat × AV := (25, .v (.int .i64 (wr .i64 (c9 + 1))))
   refine Sem.rg E0_ok [p11, p10, (5, .v (.int .i64 r16)), p8, p7, p6, p5, p4, p3, p13] [p1] ?_
   exact SemN.wk (s1 := ⟨Fr 43 [p11, p10, (5, .v (.int .i64 r16)), p8, p7, p6, p5, p4, p3, p13], [p1]⟩) (Wk.sel2 [0] kr kr kr ⟨⟨_, rfl, bu_c kr kr⟩, trivial⟩ ⟨lu kr kr, lu kr kr, lu kr kr, lu kr kr, lu kr kr, lu kr kr, lu kr kr, lu kr kr, lu kr kr, lu kr kr, trivial⟩) (ih r16 (wr .i64 (c9 + 1)) h)
  ·rw [if_f hb10] at h
   refine Sem.exit ?_
   have hq := Option.some.inj h; subst hq
   exact ⟨rfl, (Wk.sel2 [0] kr kr kr ⟨⟨_, rfl, bu_c kr kr⟩, trivial⟩ ⟨lu kr kr, lu kr kr, lu kr kr, lu kr kr, lu kr kr, lu kr kr, trivial⟩)⟩
set_option maxHeartbeats 4000000 in
set_option maxRecDepth 100000 in
theorem court_Inversions_l1_ok (x0 : (List Int)) (x1 : (List Int)) : ∀ (f : Nat) (c3 : Int) (c4 : Int) (r : (Int)), court_Inversions_l1 x0 x1 f c3 c4 = some r → SemN E0 ⟨none, false⟩ (pc cb_court_Inversions [1, 1, 1, 0, 1, 0, 0]) f ⟨Fr 43 [(1, .sl 1 (x1.map cdI.enc)), (2, .pt 0 0 0), (5, .v (.int .i64 c3)), (13, .sl 1 (x1.map cdI.enc)), (14, .v (.int .i64 (x1.length : Int))), (15, .v (.int .i64 c4))], [some ⟨1, 28, [.sl 1 (x0.map cdI.enc)], false⟩]⟩ (fun e s => e = (.exit 0) ∧ Wk E0 s ⟨Fr 43 [(5, .v (.int .i64 r))], []⟩) := by
 intro f
 induction f with
 | zero => intro c3 c4 r h; cases h
 | succ f ih0 =>
  intro c3 c4 r h
  have ih := fun (c3 : Int) (c4 : Int) => ih0 c3 c4 r
  unfold court_Inversions_l1 at h
  refine SemN.succ ?_
  let p1 : Option Blk := some ⟨1, 28, [.sl 1 (x0.map cdI.enc)], false⟩
  let p2 : Nat × AV := (15, .v (.int .i64 c4))
  let p3 : Nat × AV := (14, .v (.int .i64 (x1.length : Int)))
  let p4 : Nat × AV := (13, .sl 1 (x1.map cdI.enc))
  let p5 : Nat × AV := (5, .v (.int .i64 c3))
  let p6 : Nat × AV := (2, .pt 0 0 0)
  let p7 : Nat × AV := (1, .sl 1 (x1.map cdI.enc))
  refine Sem.sq E0_ok [p7, p6, p5, p4, p3, p2, (16, .v (.bool (decide (c4 < (x1.length : Int)))))] [p1] ?_
  refine Sem.seq ?_
  refine Sem.cond (b := (decide (c4 < (x1.length : Int)))) kr (fun hb5 => ?_) (fun hb5 => ?_)
  ·rw [if_pos hb5] at h
   refine Sem.skip ?_
   refine Sem.seq ?_
   refine Sem.block ?_
   refine Sem.seq ?_
   obtain ⟨v6, hv6, h⟩ := Option.bind_eq_some_iff.1 h
   let p8 : Nat × AV := (7, .v (.int .i64 v6))
   refine Sem.runS (s1 := ⟨Fr 43 [p7, p6, p5, (6, .v (.int .i64 c4)), p8, p4, p3, p2], [p1]⟩) ?_ ?_
   ·refine RunS.segF (n := 43) E0_ok 1 [p7, p6, p5, p4, p3, p2, (17, .v (.int .i64 c4))] [p1] kr ?_
    refine RunS.one E0_ok 0 rfl (op_q (wantedA_none rfl) rfl (q_indexAddr (a := .sl 1 (x1.map cdI.enc)) (b := .v (.int .i64 c4)) kr kr (ix_sl (e := cdI.enc) (el := 3) (k := 1) (ki := .i64) kr kr hv6))) ?_
    exact RunS.last E0_ok
   refine Sem.seq ?_
   by_cases hk7 : (cutOk (wr .i64 (c4 + 1)) (x1.length : Int) x1.length) = true
   case neg => rw [if_neg hk7] at h; cases h
   rw [if_pos hk7] at h
   let p9 : Nat × AV := (24, .v (.int .i64 (((x1.take (x1.length : Int).toNat).drop (wr .i64 (c4 + 1)).toNat).length : Int)))
   let p10 : Nat × AV := (23, .sl 1 (((x1.take (x1.length : Int).toNat).drop (wr .i64 (c4 + 1)).toNat).map cdI.enc))
   refine Sem.runS (s1 := ⟨Fr 43 [p7, p6, p5, p8, p4, p3, p2, p10, p9, (25, .v (.int .i64 0))], [p1]⟩) ?_ ?_
   ·refine RunS.segF (n := 43) E0_ok 3 [p7, p6, p5, p8, p4, p3, p2, (20, .sl 1 (x1.map cdI.enc)), (22, .v (.int .i64 (wr .i64 (c4 + 1))))] [p1] kr ?_
    refine RunS.one E0_ok 0 rfl (op_q (wantedA_none rfl) rfl (q_slice (a := .sl 1 (x1.map cdI.enc)) (l := (some (.v (.int .i64 (wr .i64 (c4 + 1)))))) (u := none) (m := none) kr kr kr rfl (slice_sl (xs := x1) (e := cdI.enc) (k := 1) (el := 3) (lo := (wr .i64 (c4 + 1))) (hi := (x1.length : Int)) kr kr (natB_i (cut_lo hk7)) rfl hk7))) ?_
    refine RunS.one E0_ok 0 rfl (op_q (wantedA_none rfl) rfl (q_len (a := .sl 1 (((x1.take (x1.length : Int).toNat).drop (wr .i64 (c4 + 1)).toNat).map cdI.enc)) kr (len_sl (el := 3) kr))) ?_
    exact RunS.last E0_ok
   refine Sem.block ?_
   obtain ⟨r18, hr18, h⟩ := Option.bind_eq_some_iff.1 h
   refine Sem.loop (n := 100000) ?_
   refine Sem.cutN (SemN.wk (s1 := ⟨Fr 43 [p7, p6, p5, p8, p4, p3, p2, p10, p9, (25, .v (.int .i64 0))], [p1]⟩) (Wk.sel2 [0] kr kr kr ⟨⟨_, rfl, bu_c kr kr⟩, trivial⟩ ⟨lu kr kr, lu kr kr, lu kr kr, lu kr kr, lu kr kr, lu kr kr, lu kr kr, lu kr kr, lu kr kr, lu kr kr, trivial⟩) (court_Inversions_l2_ok x0 x1 c4 v6 _ c3 0 _ hr18)) ?_
   let p11 : Nat × AV := (15, .v (.int .i64 (wr .i64 (c4 + 1))))
   refine Sem.rg E0_ok [p7, p6, (5, .v (.int .i64 r18)), p4, p3, p11] [p1] ?_
   exact SemN.wk (s1 := ⟨Fr 43 [p7, p6, (5, .v (.int .i64 r18)), p4, p3, p11], [p1]⟩) (Wk.sel2 [0] kr kr kr ⟨⟨_, rfl, bu_c kr kr⟩, trivial⟩ ⟨lu kr kr, lu kr kr, lu kr kr, lu kr kr, lu kr kr, lu kr kr, trivial⟩) (ih r18 (wr .i64 (c4 + 1)) h)
  ·rw [if_f hb5] at h
   refine Sem.exit ?_
   have hq := Option.some.inj h; subst hq
   exact ⟨rfl, (Wk.sel2 [] kr kr kr trivial ⟨lu kr kr, trivial⟩)⟩
set_option maxHeartbeats 4000000 in
set_option maxRecDepth 100000 in
theorem court_Inversions_sem (x0 : (List Int)) (x1 : (List Int)) (r : Int) (h : court_Inversions x0 x1 = some r) : Sem E0 ⟨none, false⟩ cb_court_Inversions ⟨Fr 43 (pairs0 0 (cs_court_Inversions.enc (x0, x1, ()))), []⟩ fun e s' => (e = .normal ∨ e = .ret) ∧ ∃ xs, resA E0.P s'.fr s'.hp Tryz.f21.results.toList = some xs ∧ retA xs = er_court_Inversions r := by
 unfold court_Inversions at h
 let p1 : Nat × AV := (1, .sl 1 (x1.map cdI.enc))
 refine Sem.wkQ (Sem.wk (s1 := ⟨Fr 43 [(0, .sl 1 (x0.map cdI.enc)), p1], []⟩) (Wk.fr kr) ?_)
 let p2 : Option Blk := some ⟨1, 28, [.sl 1 (x0.map cdI.enc)], false⟩
 let p3 : Nat × AV := (2, .pt 0 0 0)
 refine Sem.sq E0_ok [p1, p3] [p2] ?_
 refine Sem.seq ?_
 refine Sem.seq ?_
 obtain ⟨v1, hv1, h⟩ := Option.bind_eq_some_iff.1 h
 refine Sem.runS (s1 := ⟨Fr 43 [p1, p3, (12, .v (.bool v1))], [p2]⟩) ?_ ?_
 ·refine RunS.segF (n := 43) E0_ok 2 [p1, p3, (10, .sl 1 (x1.map cdI.enc)), (11, .fn 68 [] [.pt 0 0 0])] [p2] kr ?_
  refine RunS.callV (caps := []) (xs := [.sl 1 (x1.map cdI.enc), .fn 68 [] [.pt 0 0 0]]) (u := (x1, x0, ())) rfl rfl x_slices_ContainsFunc_L_int__court_Inversions_1 rfl (wantedA_none rfl) kr kr (Sl.cons (Sm.enc (c := (cdL 1 cdI)) (v := x1)) (Sl.cons (Sm.fn (Sl.last (Sm.pt (k := 1) (t := 28) (fz := false) (y := .sl 1 (x0.map cdI.enc)) kr (Sm.enc (c := (cdL 1 cdI)) (v := x0))))) Sl.nil)) (.inl kr) hv1 ?_
  exact RunS.done rfl (Wk.sel2 [0] kr kr kr ⟨⟨_, rfl, bu_c kr kr⟩, trivial⟩ ⟨lu kr kr, lu kr kr, lu kr kr, trivial⟩)
 refine Sem.cond (b := v1) kr (fun hb2 => ?_) (fun hb2 => ?_)
 ·rw [if_pos hb2] at h
  refine Sem.seq ?_
  let p4 : Nat × AV := (4, .v (.int .i64 0))
  refine Sem.runS (s1 := ⟨Fr 43 [p4], []⟩) ?_ ?_
  ·refine RunS.segF (n := 43) E0_ok 1 [p4] [p2] kr ?_
   exact RunS.done rfl (Wk.sel2 [] kr kr kr trivial ⟨lu kr kr, trivial⟩)
  refine Sem.ret ?_
  have hq := Option.some.inj h; subst hq
  exact ⟨⟨Fr 43 [p4], []⟩, (Wk.fr kr), .inr rfl, [.v (.int .i64 0)], kr, kr⟩
 ·rw [if_f hb2] at h
  refine Sem.skip ?_
  let p5 : Nat × AV := (5, .v (.int .i64 0))
  refine Sem.sq E0_ok [p1, p3, p5] [p2] ?_
  refine Sem.seq ?_
  refine Sem.seq ?_
  let p6 : Nat × AV := (14, .v (.int .i64 (x1.length : Int)))
  let p7 : Nat × AV := (13, .sl 1 (x1.map cdI.enc))
  refine Sem.runS (s1 := ⟨Fr 43 [p1, p3, p5, p7, p6, (15, .v (.int .i64 0))], [p2]⟩) ?_ ?_
  ·refine RunS.segF (n := 43) E0_ok 1 [p1, p3, p5, p7] [p2] kr ?_
   refine RunS.one E0_ok 0 rfl (op_q (wantedA_none rfl) rfl (q_len (a := .sl 1 (x1.map cdI.enc)) kr (len_sl (el := 3) kr))) ?_
   exact RunS.last E0_ok
  refine Sem.block ?_
  obtain ⟨r20, hr20, h⟩ := Option.bind_eq_some_iff.1 h
  refine Sem.loop (n := 100000) ?_
  refine Sem.cutN (SemN.wk (s1 := ⟨Fr 43 [p1, p3, p5, p7, p6, (15, .v (.int .i64 0))], [p2]⟩) (Wk.sel2 [0] kr kr kr ⟨⟨_, rfl, bu_c kr kr⟩, trivial⟩ ⟨lu kr kr, lu kr kr, lu kr kr, lu kr kr, lu kr kr, lu kr kr, trivial⟩) (court_Inversions_l1_ok x0 x1 _ 0 0 _ hr20)) ?_
  refine Sem.sq E0_ok [(4, .v (.int .i64 r20))] [] ?_
  refine Sem.ret ?_
  have hq := Option.some.inj h; subst hq
  exact ⟨⟨Fr 43 [(4, .v (.int .i64 r20))], []⟩, (Wk.fr kr), .inr rfl, [.v (.int .i64 r20)], kr, kr⟩
def t_court_Inversions : List AV → Option AV := told cs_court_Inversions (fun a => court_Inversions a.1 a.2.1) er_court_Inversions
theorem x_court_Inversions : XOk 21 t_court_Inversions := by
 refine EnvOk.x (E := E0) (contract_ok E0_ok (fn := Tryz.f21) (c := cb_court_Inversions) ?h1 ?h2 ⟨Tryz.call21⟩ cs_court_Inversions (fun a => court_Inversions a.1 a.2.1) er_court_Inversions (fun a => (by show 2 ≤ 43; decide)) ?h3 ?h4) rfl rfl
 case h1 => kernel_rfl
 case h2 => kernel_rfl
 case h3 => intro b; kernel_rfl
 case h4 => exact fun a b h => court_Inversions_sem a.1 a.2.1 b h
/- trestle/trestleref03.Inversions -/
noncomputable def cb_ref03_Inversions : Code := codeOf Tryz.f22
def ref03_Inversions_l1 (x0 : (List Int)) (x1 : (List Int)) : Nat → Int → Option ((Unit) ⊕ (Int))
 | 0, _ => none
 | f + 1, c1 =>
  if (decide (c1 < (x1.length : Int))) = true then
  (idx x1 c1).bind fun v3 =>
  (if (decide (v3 < 0)) = true then some true else (idx x1 c1).bind fun v4 =>
  some (decide (v4 ≥ (x0.length : Int)))).bind fun j6 =>
  if j6 = true then
  some (.inr 0)
  else
  ref03_Inversions_l1 x0 x1 f (wr .i64 (c1 + 1))
  else
  some (.inl ())
def ref03_Inversions_j4 (x0 : (List Int)) (x1 : (List Int)) (c13 : Int) (c15 : Int) (c16 : Int) (v19 : Int) (v21 : Int) : Option ((Int)) :=
 if (decide (v19 > v21)) = true then
 some (wr .i64 (c15 + 1))
 else
 some c15
def ref03_Inversions_l3 (x0 : (List Int)) (x1 : (List Int)) (c13 : Int) : Nat → Int → Int → Option ((Int))
 | 0, _, _ => none
 | f + 1, c15, c16 =>
  if (decide (c16 < c13)) = true then
  (idx x1 c16).bind fun v18 =>
  (idx x0 v18).bind fun v19 =>
  (idx x1 c13).bind fun v20 =>
  (idx x0 v20).bind fun v21 =>
  (ref03_Inversions_j4 x0 x1 c13 c15 c16 v19 v21).bind fun r24 =>
  ref03_Inversions_l3 x0 x1 c13 f r24 (wr .i64 (c16 + 1))
  else
  some c15
def ref03_Inversions_l2 (x0 : (List Int)) (x1 : (List Int)) : Nat → Int → Int → Option ((Int))
 | 0, _, _ => none
 | f + 1, c12, c13 =>
  if (decide (c13 < (x1.length : Int))) = true then
  (ref03_Inversions_l3 x0 x1 c13 100000 c12 0).bind fun r26 =>
  ref03_Inversions_l2 x0 x1 f r26 (wr .i64 (c13 + 1))
  else
  some c12
def ref03_Inversions (x0 : (List Int)) (x1 : (List Int)) : Option (Int) :=
 (ref03_Inversions_l1 x0 x1 100000 0).bind fun r10 =>
 match r10 with
 | (.inl w11) =>
  (ref03_Inversions_l2 x0 x1 100000 0 0).bind fun r28 =>
  some r28
 | (.inr w29) =>
  some w29
def cs_ref03_Inversions : Cs ((List Int) × (List Int) × Unit) := (csC (cdL 1 cdI) (csC (cdL 1 cdI) csN))
def er_ref03_Inversions (r : Int) : AV := cdI.enc r
set_option maxHeartbeats 4000000 in
set_option maxRecDepth 100000 in
theorem ref03_Inversions_l1_ok (x0 : (List Int)) (x1 : (List Int)) : ∀ (f : Nat) (c1 : Int) (r : (Unit) ⊕ (Int)), ref03_Inversions_l1 x0 x1 f c1 = some r → SemN E0 ⟨none, false⟩ (pc cb_ref03_Inversions [1, 1, 0, 1, 0, 0]) f ⟨Fr 58 [(0, .sl 1 (x0.map cdI.enc)), (1, .sl 1 (x1.map cdI.enc)), (5, .v (.int .i64 0)), (6, .v (.int .i64 c1))], []⟩ (fun e s => match r with
 | (.inl w) => e = (.exit 0) ∧ Wk E0 s ⟨Fr 58 [(0, .sl 1 (x0.map cdI.enc)), (1, .sl 1 (x1.map cdI.enc)), (5, .v (.int .i64 0))], []⟩
 | (.inr w) => e = .ret ∧ Wk E0 s ⟨Fr 58 [(4, .v (.int .i64 w))], []⟩) := by
 intro f
 induction f with
 | zero => intro c1 r h; cases h
 | succ f ih0 =>
  intro c1 r h
  have ih := fun (c1 : Int) => ih0 c1 r
  unfold ref03_Inversions_l1 at h
  refine SemN.succ ?_
  refine Sem.seq ?_
  refine Sem.seq ?_
  let p1 : Nat × AV := (6, .v (.int .i64 c1))
  let p2 : Nat × AV := (5, .v (.int .i64 0))
  let p3 : Nat × AV := (1, .sl 1 (x1.map cdI.enc))
  let p4 : Nat × AV := (0, .sl 1 (x0.map cdI.enc))
  refine Sem.runS (s1 := ⟨Fr 58 [p4, p3, p2, p1, (12, .v (.bool (decide (c1 < (x1.length : Int)))))], []⟩) ?_ ?_
  ·refine RunS.segF (n := 58) E0_ok 2 [p4, p3, p2, p1, (9, .v (.int .i64 c1)), (10, .sl 1 (x1.map cdI.enc))] [] kr ?_
   refine RunS.one E0_ok 0 rfl (op_q (wantedA_none rfl) rfl (q_len (a := .sl 1 (x1.map cdI.enc)) kr (len_sl (el := 3) kr))) ?_
   exact RunS.last E0_ok
  refine Sem.cond (b := (decide (c1 < (x1.length : Int)))) kr (fun hb2 => ?_) (fun hb2 => ?_)
  ·rw [if_pos hb2] at h
   refine Sem.skip ?_
   refine Sem.seq ?_
   refine Sem.block ?_
   refine Sem.seq ?_
   obtain ⟨v3, hv3, h⟩ := Option.bind_eq_some_iff.1 h
   obtain ⟨j6, hj6, h⟩ := Option.bind_eq_some_iff.1 h
   refine Sem.runS (s1 := ⟨Fr 58 [p4, p3, p2, p1, (28, .v (.bool j6))], []⟩) ?_ ?_
   ·refine RunS.segF (n := 58) E0_ok 2 [p4, p3, p2, p1, (15, .sl 1 (x1.map cdI.enc)), (16, .v (.int .i64 c1))] [] kr ?_
    refine RunS.one E0_ok 0 rfl (op_q (wantedA_none rfl) rfl (q_indexAddr (a := .sl 1 (x1.map cdI.enc)) (b := .v (.int .i64 c1)) kr kr (ix_sl (e := cdI.enc) (el := 3) (k := 1) (ki := .i64) kr kr hv3))) ?_
    refine RunS.segF (n := 58) E0_ok 3 [p4, p3, p2, p1, (20, .v (.bool (decide (v3 < 0))))] [] kr ?_
    rcases Bool.eq_false_or_eq_true (decide (v3 < 0)) with hc9 | hc9
    ·rw [if_pos hc9] at hj6
     rw [hc9]
     refine RunS.segF (n := 58) E0_ok 8 [p4, p3, p2, p1, (21, .tp []), (22, .tp []), (23, .tp []), (24, .tp []), (25, .tp []), (26, .tp []), (27, .tp []), (28, .v (.bool true))] [] kr ?_
     have hq := Option.some.inj hj6; subst hq
     exact RunS.done rfl (Wk.fr kr)
    ·rw [if_f hc9] at hj6
     rw [hc9]
     let p5 : Nat × AV := (22, .v (.int .i64 c1))
     let p6 : Nat × AV := (21, .sl 1 (x1.map cdI.enc))
     refine RunS.segF (n := 58) E0_ok 2 [p4, p3, p2, p1, (20, .v (.bool false)), p6, p5] [] kr ?_
     obtain ⟨v4, hv4, hj6⟩ := Option.bind_eq_some_iff.1 hj6
     refine RunS.one E0_ok 0 rfl (op_q kr rfl (q_indexAddr (a := .sl 1 (x1.map cdI.enc)) (b := .v (.int .i64 c1)) kr kr (ix_sl (e := cdI.enc) (el := 3) (k := 1) (ki := .i64) kr kr hv4))) ?_
     refine RunS.segF (n := 58) E0_ok 2 [p4, p3, p2, p1, (20, .v (.bool false)), p6, p5, (23, .pe (.v (.int .i64 v4)) 0), (24, .v (.int .i64 v4)), (25, .sl 1 (x0.map cdI.enc))] [] kr ?_
     refine RunS.one E0_ok 0 rfl (op_q kr rfl (q_len (a := .sl 1 (x0.map cdI.enc)) kr (len_sl (el := 3) kr))) ?_
     refine RunS.segF (n := 58) E0_ok 2 [p4, p3, p2, p1, p6, p5, (23, .pe (.v (.int .i64 v4)) 0), (24, .v (.int .i64 v4)), (25, .sl 1 (x0.map cdI.enc)), (26, .v (.int .i64 (x0.length : Int))), (27, .v (.bool (decide (v4 ≥ (x0.length : Int))))), (28, .v (.bool (decide (v4 ≥ (x0.length : Int)))))] [] kr ?_
     have hq := Option.some.inj hj6; subst hq
     exact RunS.done rfl (Wk.fr kr)
   refine Sem.cond (b := j6) kr (fun hb7 => ?_) (fun hb7 => ?_)
   ·rw [if_pos hb7] at h
    refine Sem.sq E0_ok [(4, .v (.int .i64 0))] [] ?_
    refine Sem.ret ?_
    have hq := Option.some.inj h; subst hq
    exact ⟨rfl, (Wk.fr kr)⟩
   ·rw [if_f hb7] at h
    refine Sem.skip ?_
    let p7 : Nat × AV := (6, .v (.int .i64 (wr .i64 (c1 + 1))))
    refine Sem.rg E0_ok [p4, p3, p2, p7] [] ?_
    exact SemN.wk (s1 := ⟨Fr 58 [p4, p3, p2, p7], []⟩) (Wk.fr kr) (ih (wr .i64 (c1 + 1)) h)
  ·rw [if_f hb2] at h
   refine Sem.exit ?_
   have hq := Option.some.inj h; subst hq
   exact ⟨rfl, (Wk.fr kr)⟩
set_option maxHeartbeats 4000000 in
set_option maxRecDepth 100000 in
theorem ref03_Inversions_j4_ok (x0 : (List Int)) (x1 : (List Int)) (c13 : Int) (c15 : Int) (c16 : Int) (v19 : Int) (v21 : Int) (r : (Int)) (h : ref03_Inversions_j4 x0 x1 c13 c15 c16 v19 v21 = some r) : Sem E0 ⟨none, false⟩ (pc cb_ref03_Inversions [1, 1, 1, 0, 1, 0, 0, 1, 0, 0, 1, 0, 0, 1, 0, 0, 1]) ⟨Fr 58 [(0, .sl 1 (x0.map cdI.enc)), (1, .sl 1 (x1.map cdI.enc)), (5, .v (.int .i64 c15)), (7, .v (.int .i64 c13)), (8, .v (.int .i64 c16)), (54, .v (.bool (decide (v19 > v21))))], []⟩ (fun e s => e = .normal ∧ Wk E0 s ⟨Fr 58 [(0, .sl 1 (x0.map cdI.enc)), (1, .sl 1 (x1.map cdI.enc)), (5, .v (.int .i64 r)), (7, .v (.int .i64 c13)), (8, .v (.int .i64 c16))], []⟩) := by
 unfold ref03_Inversions_j4 at h
 refine Sem.cond (b := (decide (v19 > v21))) kr (fun hb22 => ?_) (fun hb22 => ?_)
 ·rw [if_pos hb22] at h
  refine Sem.rg E0_ok [(0, .sl 1 (x0.map cdI.enc)), (1, .sl 1 (x1.map cdI.enc)), (5, .v (.int .i64 (wr .i64 (c15 + 1)))), (7, .v (.int .i64 c13)), (8, .v (.int .i64 c16))] [] ?_
  have hq := Option.some.inj h; subst hq
  exact ⟨rfl, (Wk.fr kr)⟩
 ·rw [if_f hb22] at h
  refine Sem.skip ?_
  have hq := Option.some.inj h; subst hq
  exact ⟨rfl, (Wk.fr kr)⟩
set_option maxHeartbeats 4000000 in
set_option maxRecDepth 100000 in
theorem ref03_Inversions_l3_ok (x0 : (List Int)) (x1 : (List Int)) (c13 : Int) : ∀ (f : Nat) (c15 : Int) (c16 : Int) (r : (Int)), ref03_Inversions_l3 x0 x1 c13 f c15 c16 = some r → SemN E0 ⟨none, false⟩ (pc cb_ref03_Inversions [1, 1, 1, 0, 1, 0, 0, 1, 0, 0, 1, 0, 0]) f ⟨Fr 58 [(0, .sl 1 (x0.map cdI.enc)), (1, .sl 1 (x1.map cdI.enc)), (5, .v (.int .i64 c15)), (7, .v (.int .i64 c13)), (8, .v (.int .i64 c16))], []⟩ (fun e s => e = (.exit 4) ∧ Wk E0 s ⟨Fr 58 [(0, .sl 1 (x0.map cdI.enc)), (1, .sl 1 (x1.map cdI.enc)), (5, .v (.int .i64 r)), (7, .v (.int .i64 c13))], []⟩) := by
 intro f
 induction f with
 | zero => intro c15 c16 r h; cases h
 | succ f ih0 =>
  intro c15 c16 r h
  have ih := fun (c15 : Int) (c16 : Int) => ih0 c15 c16 r
  unfold ref03_Inversions_l3 at h
  refine SemN.succ ?_
  refine Sem.seq ?_
  let p1 : Nat × AV := (8, .v (.int .i64 c16))
  let p2 : Nat × AV := (7, .v (.int .i64 c13))
  let p3 : Nat × AV := (5, .v (.int .i64 c15))
  let p4 : Nat × AV := (1, .sl 1 (x1.map cdI.enc))
  let p5 : Nat × AV := (0, .sl 1 (x0.map cdI.enc))
  refine Sem.sq E0_ok [p5, p4, p3, p2, p1, (37, .v (.bool (decide (c16 < c13))))] [] ?_
  refine Sem.cond (b := (decide (c16 < c13))) kr (fun hb17 => ?_) (fun hb17 => ?_)
  ·rw [if_pos hb17] at h
   refine Sem.skip ?_
   refine Sem.seq ?_
   refine Sem.block ?_
   refine Sem.seq ?_
   obtain ⟨v18, hv18, h⟩ := Option.bind_eq_some_iff.1 h
   obtain ⟨v19, hv19, h⟩ := Option.bind_eq_some_iff.1 h
   obtain ⟨v20, hv20, h⟩ := Option.bind_eq_some_iff.1 h
   obtain ⟨v21, hv21, h⟩ := Option.bind_eq_some_iff.1 h
   let p6 : Nat × AV := (54, .v (.bool (decide (v19 > v21))))
   refine Sem.runDS E0_ok (s1 := ⟨Fr 58 [p5, p4, p3, p2, p1, p6], []⟩) kr ?_ ?_
   ·refine RunDS.segF (n := 58) E0_ok 3 [p5, p4, p3, p2, p1, (40, .sl 1 (x0.map cdI.enc)), (41, .sl 1 (x1.map cdI.enc)), (42, .v (.int .i64 c16))] [] kr kr ?_
    refine RunDS.one E0_ok rfl kr (opd_q kr (wantedA_none rfl) rfl (q_indexAddr (a := .sl 1 (x1.map cdI.enc)) (b := .v (.int .i64 c16)) kr kr (ix_sl (e := cdI.enc) (el := 3) (k := 1) (ki := .i64) kr kr hv18)) kr) ?_
    refine RunDS.segF (n := 58) E0_ok 1 [p5, p4, p3, p2, p1, (40, .sl 1 (x0.map cdI.enc)), (44, .v (.int .i64 v18))] [] kr kr ?_
    refine RunDS.one E0_ok rfl kr (opd_q kr (wantedA_none rfl) rfl (q_indexAddr (a := .sl 1 (x0.map cdI.enc)) (b := .v (.int .i64 v18)) kr kr (ix_sl (e := cdI.enc) (el := 3) (k := 1) (ki := .i64) kr kr hv19)) kr) ?_
    refine RunDS.segF (n := 58) E0_ok 4 [p5, p4, p3, p2, p1, (46, .v (.int .i64 v19)), (47, .sl 1 (x0.map cdI.enc)), (48, .sl 1 (x1.map cdI.enc)), (49, .v (.int .i64 c13))] [] kr kr ?_
    refine RunDS.one E0_ok rfl kr (opd_q kr (wantedA_none rfl) rfl (q_indexAddr (a := .sl 1 (x1.map cdI.enc)) (b := .v (.int .i64 c13)) kr kr (ix_sl (e := cdI.enc) (el := 3) (k := 1) (ki := .i64) kr kr hv20)) kr) ?_
    refine RunDS.segF (n := 58) E0_ok 1 [p5, p4, p3, p2, p1, (46, .v (.int .i64 v19)), (47, .sl 1 (x0.map cdI.enc)), (51, .v (.int .i64 v20))] [] kr kr ?_
    refine RunDS.one E0_ok rfl kr (opd_q kr (wantedA_none rfl) rfl (q_indexAddr (a := .sl 1 (x0.map cdI.enc)) (b := .v (.int .i64 v20)) kr kr (ix_sl (e := cdI.enc) (el := 3) (k := 1) (ki := .i64) kr kr hv21)) kr) ?_
    refine RunDS.segF (n := 58) E0_ok 2 [p5, p4, p3, p2, p1, p6] [] kr kr ?_
    exact RunDS.done rfl (Wk.fr kr)
   obtain ⟨r24, hr24, h⟩ := Option.bind_eq_some_iff.1 h
   refine Sem.cut (ref03_Inversions_j4_ok x0 x1 c13 c15 c16 v19 v21 _ hr24) ?_
   let p7 : Nat × AV := (8, .v (.int .i64 (wr .i64 (c16 + 1))))
   refine Sem.rg E0_ok [p5, p4, (5, .v (.int .i64 r24)), p2, p7] [] ?_
   exact SemN.wk (s1 := ⟨Fr 58 [p5, p4, (5, .v (.int .i64 r24)), p2, p7], []⟩) (Wk.fr kr) (ih r24 (wr .i64 (c16 + 1)) h)
  ·rw [if_f hb17] at h
   refine Sem.exit ?_
   have hq := Option.some.inj h; subst hq
   exact ⟨rfl, (Wk.fr kr)⟩
set_option maxHeartbeats 4000000 in
set_option maxRecDepth 100000 in
theorem ref03_Inversions_l2_ok (x0 : (List Int)) (x1 : (List Int)) : ∀ (f : Nat) (c12 : Int) (c13 : Int) (r : (Int)), ref03_Inversions_l2 x0 x1 f c12 c13 = some r → SemN E0 ⟨none, false⟩ (pc cb_ref03_Inversions [1, 1, 1, 0, 1, 0, 0]) f ⟨Fr 58 [(0, .sl 1 (x0.map cdI.enc)), (1, .sl 1 (x1.map cdI.enc)), (5, .v (.int .i64 c12)), (7, .v (.int .i64 c13))], []⟩ (fun e s => e = (.exit 2) ∧ Wk E0 s ⟨Fr 58 [(5, .v (.int .i64 r))], []⟩) := by
 intro f
 induction f with
 | zero => intro c12 c13 r h; cases h
 | succ f ih0 =>
  intro c12 c13 r h
  have ih := fun (c12 : Int) (c13 : Int) => ih0 c12 c13 r
  unfold ref03_Inversions_l2 at h
  refine SemN.succ ?_
  refine Sem.seq ?_
  refine Sem.seq ?_
  let p1 : Nat × AV := (7, .v (.int .i64 c13))
  let p2 : Nat × AV := (5, .v (.int .i64 c12))
  let p3 : Nat × AV := (1, .sl 1 (x1.map cdI.enc))
  let p4 : Nat × AV := (0, .sl 1 (x0.map cdI.enc))
  refine Sem.runS (s1 := ⟨Fr 58 [p4, p3, p2, p1, (32, .v (.bool (decide (c13 < (x1.length : Int)))))], []⟩) ?_ ?_
  ·refine RunS.segF (n := 58) E0_ok 2 [p4, p3, p2, p1, (29, .v (.int .i64 c13)), (30, .sl 1 (x1.map cdI.enc))] [] kr ?_
   refine RunS.one E0_ok 0 rfl (op_q (wantedA_none rfl) rfl (q_len (a := .sl 1 (x1.map cdI.enc)) kr (len_sl (el := 3) kr))) ?_
   exact RunS.last E0_ok
  refine Sem.cond (b := (decide (c13 < (x1.length : Int)))) kr (fun hb14 => ?_) (fun hb14 => ?_)
  ·rw [if_pos hb14] at h
   refine Sem.skip ?_
   refine Sem.seq ?_
   refine Sem.block ?_
   refine Sem.sq E0_ok [p4, p3, p2, p1, (8, .v (.int .i64 0))] [] ?_
   refine Sem.block ?_
   obtain ⟨r26, hr26, h⟩ := Option.bind_eq_some_iff.1 h
   refine Sem.loop (n := 100000) ?_
   refine Sem.cutN (SemN.wk (s1 := ⟨Fr 58 [p4, p3, p2, p1, (8, .v (.int .i64 0))], []⟩) (Wk.fr kr) (ref03_Inversions_l3_ok x0 x1 c13 _ c12 0 _ hr26)) ?_
   let p5 : Nat × AV := (7, .v (.int .i64 (wr .i64 (c13 + 1))))
   refine Sem.rg E0_ok [p4, p3, (5, .v (.int .i64 r26)), p5] [] ?_
   exact SemN.wk (s1 := ⟨Fr 58 [p4, p3, (5, .v (.int .i64 r26)), p5], []⟩) (Wk.fr kr) (ih r26 (wr .i64 (c13 + 1)) h)
  ·rw [if_f hb14] at h
   refine Sem.exit ?_
   have hq := Option.some.inj h; subst hq
   exact ⟨rfl, (Wk.fr kr)⟩
set_option maxHeartbeats 4000000 in
set_option maxRecDepth 100000 in
theorem ref03_Inversions_sem (x0 : (List Int)) (x1 : (List Int)) (r : Int) (h : ref03_Inversions x0 x1 = some r) : Sem E0 ⟨none, false⟩ cb_ref03_Inversions ⟨Fr 58 (pairs0 0 (cs_ref03_Inversions.enc (x0, x1, ()))), []⟩ fun e s' => (e = .normal ∨ e = .ret) ∧ ∃ xs, resA E0.P s'.fr s'.hp Tryz.f22.results.toList = some xs ∧ retA xs = er_ref03_Inversions r := by
 unfold ref03_Inversions at h
 let p1 : Nat × AV := (1, .sl 1 (x1.map cdI.enc))
 let p2 : Nat × AV := (0, .sl 1 (x0.map cdI.enc))
 refine Sem.wkQ (Sem.wk (s1 := ⟨Fr 58 [p2, p1], []⟩) (Wk.fr kr) ?_)
 refine Sem.sq E0_ok [p2, p1] [] ?_
 let p3 : Nat × AV := (5, .v (.int .i64 0))
 refine Sem.sq E0_ok [p2, p1, p3] [] ?_
 refine Sem.seq ?_
 let p4 : Nat × AV := (6, .v (.int .i64 0))
 refine Sem.sq E0_ok [p2, p1, p3, p4] [] ?_
 refine Sem.block ?_
 obtain ⟨r10, hr10, h⟩ := Option.bind_eq_some_iff.1 h
 refine Sem.loop (n := 100000) ?_
 rcases r10 with w11 | w29
 ·try dsimp only at h
  refine Sem.cutN (SemN.wk (s1 := ⟨Fr 58 [p2, p1, p3, p4], []⟩) (Wk.fr kr) (ref03_Inversions_l1_ok x0 x1 _ 0 _ hr10)) ?_
  refine Sem.seq ?_
  refine Sem.sq E0_ok [p2, p1, p3, (7, .v (.int .i64 0))] [] ?_
  refine Sem.block ?_
  obtain ⟨r28, hr28, h⟩ := Option.bind_eq_some_iff.1 h
  refine Sem.loop (n := 100000) ?_
  refine Sem.cutN (SemN.wk (s1 := ⟨Fr 58 [p2, p1, p3, (7, .v (.int .i64 0))], []⟩) (Wk.fr kr) (ref03_Inversions_l2_ok x0 x1 _ 0 0 _ hr28)) ?_
  refine Sem.sq E0_ok [(4, .v (.int .i64 r28))] [] ?_
  refine Sem.ret ?_
  have hq := Option.some.inj h; subst hq
  exact ⟨⟨Fr 58 [(4, .v (.int .i64 r28))], []⟩, (Wk.fr kr), .inr rfl, [.v (.int .i64 r28)], kr, kr⟩
 ·try dsimp only at h
  refine Sem.cutN (SemN.wk (s1 := ⟨Fr 58 [p2, p1, p3, p4], []⟩) (Wk.fr kr) (ref03_Inversions_l1_ok x0 x1 _ 0 _ hr10)) ?_
  have hq := Option.some.inj h; subst hq
  exact ⟨⟨Fr 58 [(4, .v (.int .i64 w29))], []⟩, (Wk.fr kr), .inr rfl, [.v (.int .i64 w29)], kr, kr⟩
def t_ref03_Inversions : List AV → Option AV := told cs_ref03_Inversions (fun a => ref03_Inversions a.1 a.2.1) er_ref03_Inversions
theorem x_ref03_Inversions : XOk 22 t_ref03_Inversions := by
 refine EnvOk.x (E := E0) (contract_ok E0_ok (fn := Tryz.f22) (c := cb_ref03_Inversions) ?h1 ?h2 ⟨Tryz.call22⟩ cs_ref03_Inversions (fun a => ref03_Inversions a.1 a.2.1) er_ref03_Inversions (fun a => (by show 2 ≤ 58; decide)) ?h3 ?h4) rfl rfl
 case h1 => kernel_rfl
 case h2 => kernel_rfl
 case h3 => intro b; kernel_rfl
 case h4 => exact fun a b h => ref03_Inversions_sem a.1 a.2.1 b h
/- slices.Equal[[]int,int] -/
noncomputable def cb_slices_Equal_L_int : Code := codeOf Tryz.f23
def slices_Equal_L_int_l1 (x0 : (List Int)) (x1 : (List Int)) : Nat → Int → Option ((Unit) ⊕ (Bool))
 | 0, _ => none
 | f + 1, c2 =>
  if (decide (c2 < (x0.length : Int))) = true then
  (idx x0 c2).bind fun v4 =>
  (idx x1 c2).bind fun v5 =>
  if (v4 != v5) = true then
  some (.inr false)
  else
  slices_Equal_L_int_l1 x0 x1 f (wr .i64 (c2 + 1))
  else
  some (.inl ())
def slices_Equal_L_int (x0 : (List Int)) (x1 : (List Int)) : Option (Bool) :=
 if ((x0.length : Int) != (x1.length : Int)) = true then
 some false
 else
 (slices_Equal_L_int_l1 x0 x1 100000 0).bind fun r8 =>
 match r8 with
 | (.inl w9) =>
  some true
 | (.inr w10) =>
  some w10
def cs_slices_Equal_L_int : Cs ((List Int) × (List Int) × Unit) := (csC (cdL 1 cdI) (csC (cdL 1 cdI) csN))
def er_slices_Equal_L_int (r : Bool) : AV := cdB.enc r
set_option maxHeartbeats 4000000 in
set_option maxRecDepth 100000 in
theorem slices_Equal_L_int_l1_ok (x0 : (List Int)) (x1 : (List Int)) : ∀ (f : Nat) (c2 : Int) (r : (Unit) ⊕ (Bool)), slices_Equal_L_int_l1 x0 x1 f c2 = some r → SemN E0 ⟨none, false⟩ (pc cb_slices_Equal_L_int [1, 1, 0, 1, 0, 0]) f ⟨Fr 26 [(0, .sl 1 (x0.map cdI.enc)), (1, .sl 1 (x1.map cdI.enc)), (12, .v (.int .i64 (x0.length : Int))), (13, .v (.int .i64 c2))], []⟩ (fun e s => match r with
 | (.inl w) => e = (.exit 0) ∧ Wk E0 s ⟨Fr 26 [], []⟩
 | (.inr w) => e = .ret ∧ Wk E0 s ⟨Fr 26 [(4, .v (.bool w))], []⟩) := by
 intro f
 induction f with
 | zero => intro c2 r h; cases h
 | succ f ih0 =>
  intro c2 r h
  have ih := fun (c2 : Int) => ih0 c2 r
  unfold slices_Equal_L_int_l1 at h
  refine SemN.succ ?_
  let p1 : Nat × AV := (13, .v (.int .i64 c2))
  let p2 : Nat × AV := (12, .v (.int .i64 (x0.length : Int)))
  let p3 : Nat × AV := (1, .sl 1 (x1.map cdI.enc))
  let p4 : Nat × AV := (0, .sl 1 (x0.map cdI.enc))
  refine Sem.sq E0_ok [p4, p3, p2, p1, (14, .v (.bool (decide (c2 < (x0.length : Int)))))] [] ?_
  refine Sem.seq ?_
  refine Sem.cond (b := (decide (c2 < (x0.length : Int)))) kr (fun hb3 => ?_) (fun hb3 => ?_)
  ·rw [if_pos hb3] at h
   refine Sem.skip ?_
   refine Sem.seq ?_
   refine Sem.block ?_
   refine Sem.sq E0_ok [p4, p3, (5, .v (.int .i64 c2)), p2, p1] [] ?_
   refine Sem.seq ?_
   obtain ⟨v4, hv4, h⟩ := Option.bind_eq_some_iff.1 h
   obtain ⟨v5, hv5, h⟩ := Option.bind_eq_some_iff.1 h
   refine Sem.runDS E0_ok (s1 := ⟨Fr 26 [p4, p3, p2, p1, (24, .v (.bool (v4 != v5)))], []⟩) kr ?_ ?_
   ·refine RunDS.segF (n := 26) E0_ok 2 [p4, p3, (5, .v (.int .i64 c2)), p2, p1, (16, .sl 1 (x0.map cdI.enc)), (17, .v (.int .i64 c2))] [] kr kr ?_
    refine RunDS.one E0_ok rfl kr (opd_q kr (wantedA_none rfl) rfl (q_indexAddr (a := .sl 1 (x0.map cdI.enc)) (b := .v (.int .i64 c2)) kr kr (ix_sl (e := cdI.enc) (el := 3) (k := 1) (ki := .i64) kr kr hv4)) kr) ?_
    refine RunDS.segF (n := 26) E0_ok 3 [p4, p3, p2, p1, (19, .v (.int .i64 v4)), (20, .sl 1 (x1.map cdI.enc)), (21, .v (.int .i64 c2))] [] kr kr ?_
    refine RunDS.one E0_ok rfl kr (opd_q kr (wantedA_none rfl) rfl (q_indexAddr (a := .sl 1 (x1.map cdI.enc)) (b := .v (.int .i64 c2)) kr kr (ix_sl (e := cdI.enc) (el := 3) (k := 1) (ki := .i64) kr kr hv5)) kr) ?_
    refine RunDS.segF (n := 26) E0_ok 2 [p4, p3, p2, p1, (24, .v (.bool (v4 != v5)))] [] kr kr ?_
    exact RunDS.done rfl (Wk.fr kr)
   refine Sem.cond (b := (v4 != v5)) kr (fun hb6 => ?_) (fun hb6 => ?_)
   ·rw [if_pos hb6] at h
    refine Sem.sq E0_ok [(4, .v (.bool false))] [] ?_
    refine Sem.ret ?_
    have hq := Option.some.inj h; subst hq
    exact ⟨rfl, (Wk.fr kr)⟩
   ·rw [if_f hb6] at h
    refine Sem.skip ?_
    let p5 : Nat × AV := (13, .v (.int .i64 (wr .i64 (c2 + 1))))
    refine Sem.rg E0_ok [p4, p3, p2, p5] [] ?_
    exact SemN.wk (s1 := ⟨Fr 26 [p4, p3, p2, p5], []⟩) (Wk.fr kr) (ih (wr .i64 (c2 + 1)) h)
  ·rw [if_f hb3] at h
   refine Sem.exit ?_
   have hq := Option.some.inj h; subst hq
   exact ⟨rfl, (Wk.fr kr)⟩
set_option maxHeartbeats 4000000 in
set_option maxRecDepth 100000 in
theorem slices_Equal_L_int_sem (x0 : (List Int)) (x1 : (List Int)) (r : Bool) (h : slices_Equal_L_int x0 x1 = some r) : Sem E0 ⟨none, false⟩ cb_slices_Equal_L_int ⟨Fr 26 (pairs0 0 (cs_slices_Equal_L_int.enc (x0, x1, ()))), []⟩ fun e s' => (e = .normal ∨ e = .ret) ∧ ∃ xs, resA E0.P s'.fr s'.hp Tryz.f23.results.toList = some xs ∧ retA xs = er_slices_Equal_L_int r := by
 unfold slices_Equal_L_int at h
 let p1 : Nat × AV := (1, .sl 1 (x1.map cdI.enc))
 let p2 : Nat × AV := (0, .sl 1 (x0.map cdI.enc))
 refine Sem.wkQ (Sem.wk (s1 := ⟨Fr 26 [p2, p1], []⟩) (Wk.fr kr) ?_)
 refine Sem.sq E0_ok [p2, p1] [] ?_
 refine Sem.seq ?_
 refine Sem.seq ?_
 refine Sem.runS (s1 := ⟨Fr 26 [p2, p1, (10, .v (.bool ((x0.length : Int) != (x1.length : Int))))], []⟩) ?_ ?_
 ·refine RunS.segF (n := 26) E0_ok 1 [p2, p1, (6, .sl 1 (x0.map cdI.enc))] [] kr ?_
  refine RunS.one E0_ok 0 rfl (op_q (wantedA_none rfl) rfl (q_len (a := .sl 1 (x0.map cdI.enc)) kr (len_sl (el := 3) kr))) ?_
  refine RunS.segF (n := 26) E0_ok 1 [p2, p1, (7, .v (.int .i64 (x0.length : Int))), (8, .sl 1 (x1.map cdI.enc))] [] kr ?_
  refine RunS.one E0_ok 0 rfl (op_q (wantedA_none rfl) rfl (q_len (a := .sl 1 (x1.map cdI.enc)) kr (len_sl (el := 3) kr))) ?_
  exact RunS.last E0_ok
 refine Sem.cond (b := ((x0.length : Int) != (x1.length : Int))) kr (fun hb1 => ?_) (fun hb1 => ?_)
 ·rw [if_pos hb1] at h
  refine Sem.sq E0_ok [(4, .v (.bool false))] [] ?_
  refine Sem.ret ?_
  have hq := Option.some.inj h; subst hq
  exact ⟨⟨Fr 26 [(4, .v (.bool false))], []⟩, (Wk.fr kr), .inr rfl, [.v (.bool false)], kr, kr⟩
 ·rw [if_f hb1] at h
  refine Sem.skip ?_
  refine Sem.seq ?_
  refine Sem.seq ?_
  let p3 : Nat × AV := (13, .v (.int .i64 0))
  let p4 : Nat × AV := (12, .v (.int .i64 (x0.length : Int)))
  refine Sem.runS (s1 := ⟨Fr 26 [p2, p1, p4, p3], []⟩) ?_ ?_
  ·refine RunS.segF (n := 26) E0_ok 1 [p2, p1, (11, .sl 1 (x0.map cdI.enc))] [] kr ?_
   refine RunS.one E0_ok 0 rfl (op_q (wantedA_none rfl) rfl (q_len (a := .sl 1 (x0.map cdI.enc)) kr (len_sl (el := 3) kr))) ?_
   exact RunS.last E0_ok
  refine Sem.block ?_
  obtain ⟨r8, hr8, h⟩ := Option.bind_eq_some_iff.1 h
  refine Sem.loop (n := 100000) ?_
  rcases r8 with w9 | w10
  ·try dsimp only at h
   refine Sem.cutN (SemN.wk (s1 := ⟨Fr 26 [p2, p1, p4, p3], []⟩) (Wk.fr kr) (slices_Equal_L_int_l1_ok x0 x1 _ 0 _ hr8)) ?_
   refine Sem.sq E0_ok [(4, .v (.bool true))] [] ?_
   refine Sem.ret ?_
   have hq := Option.some.inj h; subst hq
   exact ⟨⟨Fr 26 [(4, .v (.bool true))], []⟩, (Wk.fr kr), .inr rfl, [.v (.bool true)], kr, kr⟩
  ·try dsimp only at h
   refine Sem.cutN (SemN.wk (s1 := ⟨Fr 26 [p2, p1, p4, p3], []⟩) (Wk.fr kr) (slices_Equal_L_int_l1_ok x0 x1 _ 0 _ hr8)) ?_
   have hq := Option.some.inj h; subst hq
   exact ⟨⟨Fr 26 [(4, .v (.bool w10))], []⟩, (Wk.fr kr), .inr rfl, [.v (.bool w10)], kr, kr⟩
def t_slices_Equal_L_int : List AV → Option AV := told cs_slices_Equal_L_int (fun a => slices_Equal_L_int a.1 a.2.1) er_slices_Equal_L_int
theorem x_slices_Equal_L_int : XOk 23 t_slices_Equal_L_int := by
 refine EnvOk.x (E := E0) (contract_ok E0_ok (fn := Tryz.f23) (c := cb_slices_Equal_L_int) ?h1 ?h2 ⟨Tryz.call23⟩ cs_slices_Equal_L_int (fun a => slices_Equal_L_int a.1 a.2.1) er_slices_Equal_L_int (fun a => (by show 2 ≤ 26; decide)) ?h3 ?h4) rfl rfl
 case h1 => kernel_rfl
 case h2 => kernel_rfl
 case h3 => intro b; kernel_rfl
 case h4 => exact fun a b h => slices_Equal_L_int_sem a.1 a.2.1 b h
/- trestle/trestlelaw03.CourtInversions -/
noncomputable def cb_law03_CourtInversions : Code := codeOf Tryz.f5
def law03_CourtInversions (x0 : (List Int)) (x1 : (List Int)) : Option (Bool) :=
 (if (decide ((x0.length : Int) > 60)) = true then some true else some (decide ((x1.length : Int) > 60))).bind fun j2 =>
 if j2 = true then
 law03_awake.bind fun v4 =>
 some v4
 else
 (slices_Clone_L_int x0).bind fun v5 =>
 (slices_Clone_L_int x1).bind fun v6 =>
 (court_Inversions v5 v6).bind fun v7 =>
 (ref03_Inversions x0 x1).bind fun v8 =>
 (if (v7 == v8) = true then (slices_Equal_L_int v5 x0).bind fun v9 =>
 if v9 = true then (slices_Equal_L_int v6 x1).bind fun v10 =>
 if v10 = true then law03_awake.bind fun v11 =>
 some v11 else some false else some false else some false).bind fun j13 =>
 some j13
def cs_law03_CourtInversions : Cs ((List Int) × (List Int) × Unit) := (csC (cdL 1 cdI) (csC (cdL 1 cdI) csN))
def er_law03_CourtInversions (r : Bool) : AV := cdB.enc r
set_option maxHeartbeats 4000000 in
set_option maxRecDepth 100000 in
theorem law03_CourtInversions_sem (x0 : (List Int)) (x1 : (List Int)) (r : Bool) (h : law03_CourtInversions x0 x1 = some r) : Sem E0 ⟨none, false⟩ cb_law03_CourtInversions ⟨Fr 40 (pairs0 0 (cs_law03_CourtInversions.enc (x0, x1, ()))), []⟩ fun e s' => (e = .normal ∨ e = .ret) ∧ ∃ xs, resA E0.P s'.fr s'.hp Tryz.f5.results.toList = some xs ∧ retA xs = er_law03_CourtInversions r := by
 unfold law03_CourtInversions at h
 let p1 : Nat × AV := (1, .sl 1 (x1.map cdI.enc))
 let p2 : Nat × AV := (0, .sl 1 (x0.map cdI.enc))
 refine Sem.wkQ (Sem.wk (s1 := ⟨Fr 40 [p2, p1], []⟩) (Wk.fr kr) ?_)
 refine Sem.sq E0_ok [p2, p1] [] ?_
 refine Sem.seq ?_
 refine Sem.seq ?_
 obtain ⟨j2, hj2, h⟩ := Option.bind_eq_some_iff.1 h
 refine Sem.runS (s1 := ⟨Fr 40 [p2, p1, (14, .v (.bool j2))], []⟩) ?_ ?_
 ·refine RunS.segF (n := 40) E0_ok 1 [p2, p1, (7, .sl 1 (x0.map cdI.enc))] [] kr ?_
  refine RunS.one E0_ok 0 rfl (op_q (wantedA_none rfl) rfl (q_len (a := .sl 1 (x0.map cdI.enc)) kr (len_sl (el := 3) kr))) ?_
  refine RunS.segF (n := 40) E0_ok 2 [p2, p1, (10, .v (.bool (decide ((x0.length : Int) > 60))))] [] kr ?_
  rcases Bool.eq_false_or_eq_true (decide ((x0.length : Int) > 60)) with hc17 | hc17
  ·rw [if_pos hc17] at hj2
   rw [hc17]
   refine RunS.segF (n := 40) E0_ok 4 [p2, p1, (14, .v (.bool true))] [] kr ?_
   have hq := Option.some.inj hj2; subst hq
   exact RunS.done rfl (Wk.fr kr)
  ·rw [if_f hc17] at hj2
   rw [hc17]
   refine RunS.segF (n := 40) E0_ok 1 [p2, p1, (10, .v (.bool false)), (11, .sl 1 (x1.map cdI.enc))] [] kr ?_
   refine RunS.one E0_ok 0 rfl (op_q kr rfl (q_len (a := .sl 1 (x1.map cdI.enc)) kr (len_sl (el := 3) kr))) ?_
   refine RunS.segF (n := 40) E0_ok 2 [p2, p1, (14, .v (.bool (decide ((x1.length : Int) > 60))))] [] kr ?_
   have hq := Option.some.inj hj2; subst hq
   exact RunS.done rfl (Wk.fr kr)
 refine Sem.cond (b := j2) kr (fun hb3 => ?_) (fun hb3 => ?_)
 ·rw [if_pos hb3] at h
  refine Sem.seq ?_
  obtain ⟨v4, hv4, h⟩ := Option.bind_eq_some_iff.1 h
  refine Sem.runS (s1 := ⟨Fr 40 [(4, .v (.bool v4))], []⟩) ?_ ?_
  ·refine RunS.callV (caps := []) (xs := []) (u := (())) rfl rfl x_law03_awake rfl (wantedA_none rfl) kr kr Sl.nil (.inl kr) hv4 ?_
   exact RunS.last E0_ok
  refine Sem.ret ?_
  have hq := Option.some.inj h; subst hq
  exact ⟨⟨Fr 40 [(4, .v (.bool v4))], []⟩, (Wk.fr kr), .inr rfl, [.v (.bool v4)], kr, kr⟩
 ·rw [if_f hb3] at h
  refine Sem.skip ?_
  refine Sem.seq ?_
  obtain ⟨v5, hv5, h⟩ := Option.bind_eq_some_iff.1 h
  obtain ⟨v6, hv6, h⟩ := Option.bind_eq_some_iff.1 h
  let p3 : Nat × AV := (6, .sl 1 (v6.map cdI.enc))
  let p4 : Nat × AV := (5, .sl 1 (v5.map cdI.enc))
  refine Sem.runS (s1 := ⟨Fr 40 [p2, p1, p4, p3], []⟩) ?_ ?_
  ·refine RunS.segF (n := 40) E0_ok 1 [p2, p1, (16, .sl 1 (x0.map cdI.enc))] [] kr ?_
   refine RunS.callV (caps := []) (xs := [.sl 1 (x0.map cdI.enc)]) (u := (x0, ())) rfl rfl x_slices_Clone_L_int rfl (wantedA_none rfl) kr kr (Sl.cons (Sm.enc (c := (cdL 1 cdI)) (v := x0)) Sl.nil) (.inr kr) hv5 ?_
   refine RunS.segF (n := 40) E0_ok 1 [p2, p1, (17, .sl 1 (v5.map cdI.enc)), (18, .sl 1 (x1.map cdI.enc))] [] kr ?_
   refine RunS.callV (caps := []) (xs := [.sl 1 (x1.map cdI.enc)]) (u := (x1, ())) rfl rfl x_slices_Clone_L_int rfl (wantedA_none rfl) kr kr (Sl.cons (Sm.enc (c := (cdL 1 cdI)) (v := x1)) Sl.nil) (.inr kr) hv6 ?_
   exact RunS.last E0_ok
  refine Sem.seq ?_
  obtain ⟨v7, hv7, h⟩ := Option.bind_eq_some_iff.1 h
  obtain ⟨v8, hv8, h⟩ := Option.bind_eq_some_iff.1 h
  obtain ⟨j13, hj13, h⟩ := Option.bind_eq_some_iff.1 h
  refine Sem.runS (s1 := ⟨Fr 40 [(4, .v (.bool j13))], []⟩) ?_ ?_
  ·refine RunS.segF (n := 40) E0_ok 2 [p2, p1, p4, p3, (20, .sl 1 (v5.map cdI.enc)), (21, .sl 1 (v6.map cdI.enc))] [] kr ?_
   refine RunS.callV (caps := []) (xs := [.sl 1 (v5.map cdI.enc), .sl 1 (v6.map cdI.enc)]) (u := (v5, v6, ())) rfl rfl x_court_Inversions rfl (wantedA_none rfl) kr kr (Sl.cons (Sm.enc (c := (cdL 1 cdI)) (v := v5)) (Sl.cons (Sm.enc (c := (cdL 1 cdI)) (v := v6)) Sl.nil)) (.inl kr) hv7 ?_
   refine RunS.segF (n := 40) E0_ok 2 [p2, p1, p4, p3, (22, .v (.int .i64 v7)), (23, .sl 1 (x0.map cdI.enc)), (24, .sl 1 (x1.map cdI.enc))] [] kr ?_
   refine RunS.callV (caps := []) (xs := [.sl 1 (x0.map cdI.enc), .sl 1 (x1.map cdI.enc)]) (u := (x0, x1, ())) rfl rfl x_ref03_Inversions rfl (wantedA_none rfl) kr kr (Sl.cons (Sm.enc (c := (cdL 1 cdI)) (v := x0)) (Sl.cons (Sm.enc (c := (cdL 1 cdI)) (v := x1)) Sl.nil)) (.inl kr) hv8 ?_
   refine RunS.segF (n := 40) E0_ok 2 [p2, p1, p4, p3, (27, .v (.bool (v7 == v8)))] [] kr ?_
   rcases Bool.eq_false_or_eq_true (v7 == v8) with hc14 | hc14
   ·rw [if_pos hc14] at hj13
    rw [hc14]
    refine RunS.segF (n := 40) E0_ok 2 [p1, p3, (27, .v (.bool true)), (28, .sl 1 (v5.map cdI.enc)), (29, .sl 1 (x0.map cdI.enc))] [] kr ?_
    obtain ⟨v9, hv9, hj13⟩ := Option.bind_eq_some_iff.1 hj13
    refine RunS.callV (caps := []) (xs := [.sl 1 (v5.map cdI.enc), .sl 1 (x0.map cdI.enc)]) (u := (v5, x0, ())) rfl rfl x_slices_Equal_L_int rfl kr kr kr (Sl.cons (Sm.enc (c := (cdL 1 cdI)) (v := v5)) (Sl.cons (Sm.enc (c := (cdL 1 cdI)) (v := x0)) Sl.nil)) (.inl kr) hv9 ?_
    refine RunS.segF (n := 40) E0_ok 2 [p1, p3, (32, .v (.bool v9))] [] kr ?_
    rcases Bool.eq_false_or_eq_true v9 with hc15 | hc15
    ·rw [if_pos hc15] at hj13
     rw [hc15]
     refine RunS.segF (n := 40) E0_ok 2 [(32, .v (.bool true)), (33, .sl 1 (v6.map cdI.enc)), (34, .sl 1 (x1.map cdI.enc))] [] kr ?_
     obtain ⟨v10, hv10, hj13⟩ := Option.bind_eq_some_iff.1 hj13
     refine RunS.callV (caps := []) (xs := [.sl 1 (v6.map cdI.enc), .sl 1 (x1.map cdI.enc)]) (u := (v6, x1, ())) rfl rfl x_slices_Equal_L_int rfl kr kr kr (Sl.cons (Sm.enc (c := (cdL 1 cdI)) (v := v6)) (Sl.cons (Sm.enc (c := (cdL 1 cdI)) (v := x1)) Sl.nil)) (.inl kr) hv10 ?_
     refine RunS.segF (n := 40) E0_ok 2 [(37, .v (.bool v10))] [] kr ?_
     rcases Bool.eq_false_or_eq_true v10 with hc16 | hc16
     ·rw [if_pos hc16] at hj13
      rw [hc16]
      obtain ⟨v11, hv11, hj13⟩ := Option.bind_eq_some_iff.1 hj13
      refine RunS.callV (caps := []) (xs := []) (u := (())) rfl rfl x_law03_awake rfl kr kr kr Sl.nil (.inl kr) hv11 ?_
      refine RunS.segF (n := 40) E0_ok 2 [(4, .v (.bool v11))] [] kr ?_
      have hq := Option.some.inj hj13; subst hq
      exact RunS.done rfl (Wk.fr kr)
     ·rw [if_f hc16] at hj13
      rw [hc16]
      refine RunS.segF (n := 40) E0_ok 3 [(4, .v (.bool false))] [] kr ?_
      have hq := Option.some.inj hj13; subst hq
      exact RunS.done rfl (Wk.fr kr)
    ·rw [if_f hc15] at hj13
     rw [hc15]
     refine RunS.segF (n := 40) E0_ok 8 [(4, .v (.bool false))] [] kr ?_
     have hq := Option.some.inj hj13; subst hq
     exact RunS.done rfl (Wk.fr kr)
   ·rw [if_f hc14] at hj13
    rw [hc14]
    refine RunS.segF (n := 40) E0_ok 13 [(4, .v (.bool false))] [] kr ?_
    have hq := Option.some.inj hj13; subst hq
    exact RunS.done rfl (Wk.fr kr)
  refine Sem.ret ?_
  have hq := Option.some.inj h; subst hq
  exact ⟨⟨Fr 40 [(4, .v (.bool j13))], []⟩, (Wk.fr kr), .inr rfl, [.v (.bool j13)], kr, kr⟩
def t_law03_CourtInversions : List AV → Option AV := told cs_law03_CourtInversions (fun a => law03_CourtInversions a.1 a.2.1) er_law03_CourtInversions
theorem x_law03_CourtInversions : XOk 5 t_law03_CourtInversions := by
 refine EnvOk.x (E := E0) (contract_ok E0_ok (fn := Tryz.f5) (c := cb_law03_CourtInversions) ?h1 ?h2 ⟨Tryz.call5⟩ cs_law03_CourtInversions (fun a => law03_CourtInversions a.1 a.2.1) er_law03_CourtInversions (fun a => (by show 2 ≤ 40; decide)) ?h3 ?h4) rfl rfl
 case h1 => kernel_rfl
 case h2 => kernel_rfl
 case h3 => intro b; kernel_rfl
 case h4 => exact fun a b h => law03_CourtInversions_sem a.1 a.2.1 b h
theorem wr_i {n : Int} (h1 : -9223372036854775808 ≤ n) (h2 : n ≤ 9223372036854775807) : wr .i64 n = n := by
 show (if _ then n else _) = n
 rw [if_pos ⟨h1, h2⟩]
theorem idx_app {α : Type} (pre : List α) (v : α) (r : List α) : idx (pre ++ v :: r) (pre.length : Int) = some v := by
 unfold idx
 rw [if_pos (by omega)]
 simp
theorem wr_snoc {α : Type} (pre : List α) (v : α) (r : List α) (h : (pre ++ v :: r).length ≤ 1000000000) : wr .i64 ((pre.length : Int) + 1) = ((pre ++ [v]).length : Int) := by
 simp at h
 rw [wr_i (by omega) (by omega)]; simp
theorem lt_len {α : Type} (pre : List α) (v : α) (r : List α) : decide ((pre.length : Int) < ((pre ++ v :: r).length : Int)) = true := by
 simp; omega
theorem nlt_len {α : Type} (pre : List α) : decide ((pre.length : Int) < ((pre ++ []).length : Int)) = false := by simp
theorem capOk_le {b n : Nat} (hb : b ≤ 1000) (h : n ≤ 1000000000) : capOk b n = true := by
 have h1 : n * b ≤ 1000000000 * 1000 := Nat.mul_le_mul h hb
 unfold capOk
 rw [Bool.and_eq_true]
 exact ⟨Nat.ble_eq_true_of_le (by omega), Nat.ble_eq_true_of_le (by omega)⟩
/-- A loop over a list: v, its index, the rest. -/
def goU {α ρ : Type} (B : α → Nat → Option ρ → Option ρ) (D : Option ρ) : List α → Nat → Option ρ
 | [], _ => D
 | v :: r, i => B v i (goU B D r (i + 1))
theorem loopV {α ρ : Type} (xs : List α) (L : Nat → Int → Option ρ) (B : α → Nat → Option ρ → Option ρ) (D : Option ρ)
  (hs : ∀ f (pre : List α) v r, xs = pre ++ v :: r → L (f + 1) (pre.length : Int) = B v pre.length (L f (((pre ++ [v]).length : Nat) : Int))) (hd : ∀ f, L (f + 1) (xs.length : Int) = D) :
  ∀ (r pre : List α) (f : Nat), xs = pre ++ r → r.length < f → L f (pre.length : Int) = goU B D r pre.length
 | [], pre, f + 1, hx, _ => by
  rw [show pre.length = xs.length by rw [hx]; simp]
  exact hd f
 | v :: r, pre, f + 1, hx, hf => by
  rw [hs f pre v r hx]
  have := loopV xs L B D hs hd r (pre ++ [v]) f (by rw [hx]; simp) (by simp at hf; omega)
  rw [this]
  show B v pre.length _ = B v pre.length _
  congr 1
  simp
theorem loopV0 {α ρ : Type} (xs : List α) (L : Nat → Int → Option ρ) (B : α → Nat → Option ρ → Option ρ) (D : Option ρ) (f : Nat) (hf : xs.length < f)
  (hs : ∀ f (pre : List α) v r, xs = pre ++ v :: r → L (f + 1) (pre.length : Int) = B v pre.length (L f (((pre ++ [v]).length : Nat) : Int))) (hd : ∀ f, L (f + 1) (xs.length : Int) = D) : L f 0 = goU B D xs 0 :=
 loopV xs L B D hs hd xs [] f rfl hf
/-- .. with a state. -/
def goS {α σ ρ : Type} (B : α → Nat → σ → (σ → Option ρ) → Option ρ) (D : σ → Option ρ) : List α → Nat → σ → Option ρ
 | [], _, s => D s
 | v :: r, i, s => B v i s (goS B D r (i + 1))
theorem loopS {α σ ρ : Type} (xs : List α) (L : Nat → σ → Int → Option ρ) (B : α → Nat → σ → (σ → Option ρ) → Option ρ) (D : σ → Option ρ)
  (hs : ∀ f (pre : List α) v r s, xs = pre ++ v :: r → L (f + 1) s (pre.length : Int) = B v pre.length s (fun s' => L f s' (((pre ++ [v]).length : Nat) : Int))) (hd : ∀ f s, L (f + 1) s (xs.length : Int) = D s) :
  ∀ (r pre : List α) (f : Nat) (s : σ), xs = pre ++ r → r.length < f → L f s (pre.length : Int) = goS B D r pre.length s
 | [], pre, f + 1, s, hx, _ => by
  rw [show pre.length = xs.length by rw [hx]; simp]
  exact hd f s
 | v :: r, pre, f + 1, s, hx, hf => by
  rw [hs f pre v r s hx]
  show B v pre.length s _ = B v pre.length s _
  congr 1
  funext s'
  rw [loopS xs L B D hs hd r (pre ++ [v]) f s' (by rw [hx]; simp) (by simp at hf; omega)]
  simp
theorem loopS0 {α σ ρ : Type} (xs : List α) (L : Nat → σ → Int → Option ρ) (B : α → Nat → σ → (σ → Option ρ) → Option ρ) (D : σ → Option ρ) (f : Nat) (s : σ) (hf : xs.length < f)
  (hs : ∀ f (pre : List α) v r s, xs = pre ++ v :: r → L (f + 1) s (pre.length : Int) = B v pre.length s (fun s' => L f s' (((pre ++ [v]).length : Nat) : Int))) (hd : ∀ f s, L (f + 1) s (xs.length : Int) = D s) : L f s 0 = goS B D xs 0 s :=
 loopS xs L B D hs hd xs [] f s rfl hf
/-- The first that meets a test. -/
theorem goU_any {α : Type} (P : α → Option Bool) (p : α → Bool) : ∀ (xs : List α) (i : Nat), (∀ x ∈ xs, P x = some (p x)) → ∃ r : Unit ⊕ Int, goU (fun v i k => (P v).bind fun b => if b = true then some (.inr (i : Int)) else k) (some (.inl ())) xs i = some r ∧ (match r with | .inl _ => xs.any p = false | .inr n => xs.any p = true ∧ 0 ≤ n)
 | [], i, _ => ⟨.inl (), rfl, rfl⟩
 | x :: xs, i, h => by
  unfold goU
  rw [h x (by simp), Option.bind_some]
  cases hp : p x with
  | true => exact ⟨.inr i, by simp, by simp [hp]⟩
  | false =>
   obtain ⟨r, h1, h2⟩ := goU_any P p xs (i + 1) fun y hy => h y (List.mem_cons_of_mem _ hy)
   refine ⟨r, by simpa using h1, ?_⟩
   cases r with
   | inl u => simpa [hp] using h2
   | inr n => simpa [hp] using h2
/-- slices.IndexFunc and slices.ContainsFunc. -/
theorem any_of {α : Type} (xs : List α) (hx : xs.length ≤ 99999) (P : α → Option Bool) (p : α → Bool) (hP : ∀ x ∈ xs, P x = some (p x)) (L : Nat → Int → Option (Unit ⊕ Int))
  (h : ∀ f c, L (f + 1) c = if decide (c < (xs.length : Int)) = true then (idx xs c).bind fun v => (P v).bind fun b => if b = true then some (.inr c) else L f (wr .i64 (c + 1)) else some (.inl ())) :
  ∃ n, ((L 100000 0).bind fun r => match r with | .inl _ => some (-1) | .inr w => some w) = some n ∧ decide (n ≥ 0) = xs.any p := by
 have e := loopV0 xs L (fun v i k => (P v).bind fun b => if b = true then some (.inr (i : Int)) else k) (some (.inl ())) 100000 (by omega) (fun f pre v r e => by
  subst e
  rw [h, if_pos (lt_len pre v r), idx_app, Option.bind_some, wr_snoc pre v r (by omega)]) (fun f => by rw [h, if_neg (by simp)])
 obtain ⟨r, h1, h2⟩ := goU_any P p xs 0 hP
 rw [e, h1]
 cases r with
 | inl u => exact ⟨-1, rfl, by rw [h2]; rfl⟩
 | inr n => exact ⟨n, rfl, by rw [h2.1]; simpa using h2.2⟩
/-- Two lists side by side. -/
def go2 {α β ρ : Type} (B : α → β → Option ρ → Option ρ) (D : Option ρ) : List α → List β → Option ρ
 | v :: r, u :: q => B v u (go2 B D r q)
 | _, _ => D
theorem loop2 {α β ρ : Type} (L : Nat → Int → Option ρ) (B : α → β → Option ρ → Option ρ) (D : Option ρ) (xs : List α) (ys : List β) (hl : xs.length = ys.length) (hx : xs.length ≤ 1000000)
  (h : ∀ f c, L (f + 1) c = if decide (c < (xs.length : Int)) = true then (idx xs c).bind fun v => (idx ys c).bind fun u => B v u (L f (wr .i64 (c + 1))) else D) :
  ∀ (r : List α) (q : List β) (pre : List α) (pre' : List β) (f : Nat), xs = pre ++ r → ys = pre' ++ q → pre.length = pre'.length → r.length < f → L f (pre.length : Int) = go2 B D r q
 | [], q, pre, pre', f + 1, e1, e2, e3, _ => by
  have : q = [] := by
   have : xs.length = pre.length := by rw [e1]; simp
   have h2 : ys.length = pre'.length + q.length := by rw [e2]; simp
   exact List.eq_nil_of_length_eq_zero (by omega)
  subst this
  subst e1
  rw [h, nlt_len]
  rfl
 | v :: r, [], pre, pre', f + 1, e1, e2, e3, _ => by
  exfalso
  have h1 : xs.length = pre.length + (r.length + 1) := by rw [e1]; simp
  have h2 : ys.length = pre'.length := by rw [e2]; simp
  omega
 | v :: r, u :: q, pre, pre', f + 1, e1, e2, e3, hf => by
  have ih := loop2 L B D xs ys hl hx h r q (pre ++ [v]) (pre' ++ [u]) f (by rw [e1]; simp) (by rw [e2]; simp) (by simp [e3]) (by simp at hf; omega)
  have k1 : idx xs (pre.length : Int) = some v := by rw [e1, idx_app]
  have k2 : idx ys (pre.length : Int) = some u := by rw [e2, e3, idx_app]
  have k3 : decide ((pre.length : Int) < (xs.length : Int)) = true := by rw [e1]; exact lt_len pre v r
  have k4 : wr .i64 ((pre.length : Int) + 1) = ((pre ++ [v]).length : Int) := wr_snoc pre v r (by rw [← e1]; omega)
  rw [h, if_pos k3, k1, Option.bind_some, k2, Option.bind_some, k4, ih]
  rfl
theorem go2_all {α β : Type} (P : α → β → Option Bool) (p : α → β → Bool) : ∀ (xs : List α) (ys : List β), (∀ x ∈ xs, ∀ y ∈ ys, P x y = some (p x y)) → xs.length = ys.length →
  go2 (fun v u k => (P v u).bind fun b => if (!b) = true then some (Sum.inr false) else k) (some (Sum.inl ())) xs ys = some (if (xs.zip ys).all (fun x => p x.1 x.2) then Sum.inl () else Sum.inr false)
 | [], [], _, _ => rfl
 | x :: xs, y :: ys, h, hl => by
  unfold go2
  rw [h x (by simp) y (by simp), Option.bind_some, go2_all P p xs ys (fun a ha b hb => h a (List.mem_cons_of_mem _ ha) b (List.mem_cons_of_mem _ hb)) (by simpa using hl)]
  rw [List.zip_cons_cons, List.all_cons]
  show (if (!p x y) = true then _ else _) = some (if (p x y && _) = true then _ else _)
  cases p x y <;> rfl
 | [], _ :: _, _, hl => by simp at hl
 | _ :: _, [], _, hl => by simp at hl
/-- slices.EqualFunc. -/
theorem all2_of {α β : Type} (xs : List α) (ys : List β) (hx : xs.length ≤ 99999) (P : α → β → Option Bool) (p : α → β → Bool) (hP : ∀ x ∈ xs, ∀ y ∈ ys, P x y = some (p x y)) (L : Nat → Int → Option (Unit ⊕ Bool))
  (h : ∀ f c, L (f + 1) c = if decide (c < (xs.length : Int)) = true then (idx xs c).bind fun v => (idx ys c).bind fun u => (P v u).bind fun b => if (!b) = true then some (.inr false) else L f (wr .i64 (c + 1)) else some (.inl ())) :
  (if ((xs.length : Int) != (ys.length : Int)) = true then some false else (L 100000 0).bind fun r => match r with | .inl _ => some true | .inr w => some w) = some (decide (xs.length = ys.length) && (xs.zip ys).all fun x => p x.1 x.2) := by
 by_cases hl : xs.length = ys.length
 ·rw [if_neg (by simp [hl])]
  have e := loop2 L (fun v u k => (P v u).bind fun b => if (!b) = true then some (Sum.inr false) else k) (some (Sum.inl ())) xs ys hl (by omega) h xs ys [] [] 100000 rfl rfl rfl (by omega)
  have e0 : L 100000 (([] : List α).length : Int) = L 100000 0 := rfl
  rw [← e0, e, go2_all P p xs ys hP hl]
  cases hq : (xs.zip ys).all (fun x => p x.1 x.2) <;> simp [hl]
 ·rw [if_pos (by simp; omega)]
  simp [hl]
theorem zip_all_eq {α : Type} [DecidableEq α] {p : α → α → Bool} (hp : ∀ a b, p a b = decide (a = b)) : ∀ (xs ys : List α), (decide (xs.length = ys.length) && (xs.zip ys).all fun x => p x.1 x.2) = decide (xs = ys)
 | [], [] => rfl
 | x :: xs, y :: ys => by
  have ih := zip_all_eq hp xs ys
  simp only [List.length_cons, Nat.add_right_cancel_iff, List.zip_cons_cons, List.all_cons, List.cons.injEq, hp]
  simp only [hp] at ih
  by_cases h1 : x = y
  ·subst h1; simpa using ih
  ·simp [h1]
 | [], _ :: _ => by simp
 | _ :: _, [] => by simp
/-- slices.Equal. -/
theorem eq_of {α : Type} [DecidableEq α] [BEq α] [LawfulBEq α] (xs ys : List α) (hx : xs.length ≤ 99999) (L : Nat → Int → Option (Unit ⊕ Bool))
  (h : ∀ f c, L (f + 1) c = if decide (c < (xs.length : Int)) = true then (idx xs c).bind fun v => (idx ys c).bind fun u => if (v != u) = true then some (.inr false) else L f (wr .i64 (c + 1)) else some (.inl ())) :
  (if ((xs.length : Int) != (ys.length : Int)) = true then some false else (L 100000 0).bind fun r => match r with | .inl _ => some true | .inr w => some w) = some (decide (xs = ys)) := by
 rw [all2_of xs ys hx (fun v u => some (v == u)) (fun v u => v == u) (fun _ _ _ _ => rfl) L (fun f c => by rw [h]; rfl), zip_all_eq (fun a b => by by_cases h : a = b <;> simp [h])]
theorem clone_i (xs : List Int) (h : xs.length ≤ 1000000) : slices_Clone_L_int xs = some xs := by
 unfold slices_Clone_L_int
 rw [if_pos (capOk_le (by omega) (by omega))]
theorem equal_i (xs ys : List Int) (h : xs.length ≤ 99999) : slices_Equal_L_int xs ys = some (decide (xs = ys)) := by
 unfold slices_Equal_L_int
 exact eq_of xs ys h (slices_Equal_L_int_l1 xs ys) (fun f c => rfl)
def bad (cl : List Int) (v : Int) : Bool := decide (v < 0) || decide (v ≥ (cl.length : Int))
theorem bad_c (v : Int) (cl : List Int) : court_Inversions_1 v cl = some (bad cl v) := by
 unfold court_Inversions_1 bad
 by_cases h : v < 0 <;> simp [h]
theorem bad_any (cl od : List Int) (h : od.length ≤ 99999) : slices_ContainsFunc_L_int__court_Inversions_1 od cl = some (od.any (bad cl)) := by
 unfold slices_ContainsFunc_L_int__court_Inversions_1 slices_IndexFunc_L_int__court_Inversions_1
 obtain ⟨n, h1, h2⟩ := any_of od h (fun v => court_Inversions_1 v cl) (bad cl) (fun x _ => bad_c x cl) (slices_IndexFunc_L_int__court_Inversions_1_l1 od cl) (fun f c => rfl)
 rw [← h2]
 exact (congrArg (fun o => o.bind fun v1 => some (decide (v1 ≥ 0))) h1)
def vl (cl : List Int) (v : Int) : Int := cl.getD v.toNat 0
theorem idx_vl {cl : List Int} {v : Int} (h : bad cl v = false) : idx cl v = some (vl cl v) := by
 simp only [bad, Bool.or_eq_false_iff, decide_eq_false_iff_not] at h
 unfold idx vl
 rw [if_pos (by omega), List.getElem?_eq_getElem (by omega), List.getD_eq_getElem?_getD, List.getElem?_eq_getElem (by omega)]
 rfl
/-- How many stand behind x and below it. -/
def below (x : Int) (r : List Int) : Nat := r.countP fun y => decide (x > y)
def inv : List Int → Nat
 | [] => 0
 | x :: r => below x r + inv r
theorem below_le (x : Int) (r : List Int) : below x r ≤ r.length := List.countP_le_length
theorem inv_le : ∀ (r : List Int), inv r ≤ r.length * r.length
 | [] => by simp [inv]
 | x :: r => by
  have h1 := below_le x r
  have h2 := inv_le r
  have h3 : (r.length + 1) * (r.length + 1) = r.length * r.length + 2 * r.length + 1 := by simp only [Nat.add_mul, Nat.mul_add]; omega
  simp only [inv, List.length_cons]
  omega
theorem inv_snoc (y : Int) : ∀ (r : List Int), inv (r ++ [y]) = inv r + r.countP fun x => decide (x > y)
 | [] => by simp [inv, below]
 | x :: r => by
  have ih := inv_snoc y r
  simp only [List.cons_append, inv, ih, List.countP_cons, below, List.countP_append, List.countP_nil]
  omega
section
variable (cl od : List Int)
theorem inner_go (x : Int) : ∀ (q : List Int) (j n : Nat), n + q.length ≤ 100000 → goS (fun y _ (s : Int) (k : Int → Option Int) => k (if decide (vl cl x > vl cl y) = true then wr .i64 (s + 1) else s)) (fun s => some s) q j (n : Int) = some ((n + below (vl cl x) (q.map (vl cl)) : Nat) : Int)
 | [], j, n, _ => by simp [goS, below]
 | y :: q, j, n, h => by
  simp only [List.length_cons] at h
  unfold goS
  by_cases hc : vl cl x > vl cl y
  ·rw [if_pos (by simp [hc]), wr_i (by omega) (by omega)]
   have := inner_go x q (j + 1) (n + 1) (by omega)
   rw [show ((n : Int) + 1) = ((n + 1 : Nat) : Int) by simp, this]
   simp [below, hc]; omega
  ·rw [if_neg (by simpa using hc), inner_go x q (j + 1) n (by omega)]
   simp [below, hc]
theorem inner_c (hod : od.length ≤ 60) (hb : od.any (bad cl) = false) (i : Nat) (hi : i < 60) (x : Int) (hx : bad cl x = false) (n : Nat) (hn : n ≤ 10000) :
  court_Inversions_l2 cl od (i : Int) x 100000 (n : Int) 0 = some ((n + below (vl cl x) ((od.drop (i + 1)).map (vl cl)) : Nat) : Int) := by
 have ht : (od.take ((od.length : Int)).toNat).drop (wr .i64 ((i : Int) + 1)).toNat = od.drop (i + 1) := by
  rw [wr_i (by omega) (by omega), show ((i : Int) + 1).toNat = i + 1 by omega, Int.toNat_natCast, List.take_length]
 have hrb : ∀ y ∈ od.drop (i + 1), bad cl y = false := fun y hy => by
  have := List.any_eq_false.1 hb y (List.mem_of_mem_drop hy)
  simpa using this
 have hlen : (od.drop (i + 1)).length ≤ 60 := by simp; omega
 generalize od.drop (i + 1) = q at ht hrb hlen
 have e := loopS0 q (fun f (s : Int) c => court_Inversions_l2 cl od (i : Int) x f s c) (fun y _ s k => k (if decide (vl cl x > vl cl y) = true then wr .i64 (s + 1) else s)) (fun s => some s) 100000 (n : Int) (by omega)
  (fun f pre v r s e => by
   conv => lhs; unfold court_Inversions_l2
   rw [ht, e, if_pos (lt_len pre v r), idx_app, Option.bind_some, idx_vl hx, Option.bind_some, idx_vl (hrb v (by rw [e]; simp)), Option.bind_some, wr_snoc pre v r (by rw [← e]; omega)]
   unfold court_Inversions_j3
   split <;> rfl)
  (fun f s => by
   conv => lhs; unfold court_Inversions_l2
   rw [ht, if_neg (by simp)])
 rw [e]
 exact inner_go cl x q 0 n (by omega)
theorem outer_go (hod : od.length ≤ 60) (hb : od.any (bad cl) = false) : ∀ (r pre : List Int) (f n : Nat), od = pre ++ r → r.length < f → n + r.length * 60 ≤ 10000 → court_Inversions_l1 cl od f (n : Int) (pre.length : Int) = some ((n + inv (r.map (vl cl)) : Nat) : Int)
 | [], pre, f + 1, n, hx, _, _ => by
  unfold court_Inversions_l1
  rw [if_neg (by rw [hx]; simp)]
  simp [inv]
 | x :: r, pre, f + 1, n, hx, hf, hn => by
  have hlen : od.length = pre.length + r.length + 1 := by rw [hx]; simp; omega
  simp only [List.length_cons] at hn hf
  have hbx : bad cl x = false := by
   have := List.any_eq_false.1 hb x (by rw [hx]; simp)
   simpa using this
  unfold court_Inversions_l1
  rw [if_pos (by rw [hx]; exact lt_len pre x r)]
  conv => lhs; arg 1; rw [hx, idx_app]
  rw [Option.bind_some, if_pos (by
   unfold cutOk
   rw [wr_i (by omega) (by omega)]
   simp; omega), inner_c cl od hod hb pre.length (by omega) x hbx n (by omega), Option.bind_some]
  have hd : od.drop (pre.length + 1) = r := by rw [hx]; simp
  rw [hd]
  have hbl := below_le (vl cl x) (r.map (vl cl))
  simp only [List.length_map] at hbl
  have := outer_go hod hb r (pre ++ [x]) f (n + below (vl cl x) (r.map (vl cl))) (by rw [hx]; simp) (by omega) (by omega)
  rw [show wr .i64 ((pre.length : Int) + 1) = ((pre ++ [x]).length : Int) from wr_snoc pre x r (by rw [← hx]; omega), this]
  simp [inv]; omega
theorem court_inv (hod : od.length ≤ 60) : court_Inversions cl od = some (if od.any (bad cl) = true then 0 else ((inv (od.map (vl cl)) : Nat) : Int)) := by
 unfold court_Inversions
 rw [bad_any cl od (by omega), Option.bind_some]
 split
 ·rfl
 ·next h =>
  have hb : od.any (bad cl) = false := by simpa using h
  have := outer_go cl od hod hb od [] 100000 0 rfl (by omega) (by omega)
  have e0 : court_Inversions_l1 cl od 100000 ((0 : Nat) : Int) (([] : List Int).length : Int) = court_Inversions_l1 cl od 100000 0 0 := rfl
  rw [← e0, this, Option.bind_some]
  simp
theorem goU_bad : ∀ (xs : List Int) (i : Nat), goU (fun v _ (k : Option (Unit ⊕ Int)) => if bad cl v = true then some (.inr 0) else k) (some (.inl ())) xs i = some (if xs.any (bad cl) = true then .inr 0 else .inl ())
 | [], _ => rfl
 | x :: xs, i => by
  unfold goU
  rw [goU_bad xs (i + 1), List.any_cons]
  cases bad cl x <;> rfl
theorem ref_bad (hod : od.length ≤ 60) : ref03_Inversions_l1 cl od 100000 0 = some (if od.any (bad cl) = true then .inr 0 else .inl ()) := by
 rw [← goU_bad cl od 0]
 refine loopV0 od (ref03_Inversions_l1 cl od) _ _ 100000 (by omega) (fun f pre v r e => ?_) (fun f => ?_)
 ·conv => lhs; unfold ref03_Inversions_l1
  rw [e, if_pos (lt_len pre v r), idx_app, Option.bind_some, Option.bind_some, wr_snoc pre v r (by rw [← e]; omega)]
  unfold bad
  by_cases h : v < 0 <;> simp [h]
 ·conv => lhs; unfold ref03_Inversions_l1
  rw [if_neg (by simp)]
def above (y : Int) (r : List Int) : Nat := r.countP fun x => decide (x > y)
theorem ref_in (hb : od.any (bad cl) = false) (pre q : List Int) (y : Int) (hx : od = pre ++ y :: q) (hod : od.length ≤ 60) : ∀ (r p : List Int) (f n : Nat), pre = p ++ r → r.length < f → n + r.length ≤ 100000 → ref03_Inversions_l3 cl od (pre.length : Int) f (n : Int) (p.length : Int) = some ((n + above (vl cl y) (r.map (vl cl)) : Nat) : Int)
 | [], p, f + 1, n, hp, _, _ => by
  unfold ref03_Inversions_l3
  rw [if_neg (by rw [hp]; simp)]
  simp [above]
 | x :: r, p, f + 1, n, hp, hf, hn => by
  simp only [List.length_cons] at hn hf
  have hmem : ∀ z ∈ od, bad cl z = false := fun z hz => by simpa using List.any_eq_false.1 hb z hz
  have h1 : idx od (p.length : Int) = some x := by rw [hx, hp, List.append_assoc, List.cons_append, idx_app]
  have h2 : idx od (pre.length : Int) = some y := by rw [hx, idx_app]
  have hlen : pre.length = p.length + r.length + 1 := by rw [hp]; simp; omega
  have hlen2 : od.length = pre.length + q.length + 1 := by rw [hx]; simp; omega
  unfold ref03_Inversions_l3
  rw [if_pos (by simp; omega), h1, Option.bind_some, idx_vl (hmem x (by rw [hx, hp]; simp)), Option.bind_some, h2, Option.bind_some, idx_vl (hmem y (by rw [hx]; simp)), Option.bind_some]
  have hw : wr .i64 ((p.length : Int) + 1) = ((p ++ [x]).length : Int) := by rw [wr_i (by omega) (by omega)]; simp
  rw [hw]
  unfold ref03_Inversions_j4
  have ih := fun n h => ref_in hb pre q y hx hod r (p ++ [x]) f n (by rw [hp]; simp) (by omega) h
  by_cases hc : vl cl x > vl cl y
  ·rw [if_pos (by simp [hc]), Option.bind_some, wr_i (by omega) (by omega), show ((n : Int) + 1) = ((n + 1 : Nat) : Int) by simp, ih (n + 1) (by omega)]
   simp [above, hc]; omega
  ·rw [if_neg (by simpa using hc), Option.bind_some, ih n (by omega)]
   simp [above, hc]
theorem ref_out (hod : od.length ≤ 60) (hb : od.any (bad cl) = false) : ∀ (r pre : List Int) (f : Nat), od = pre ++ r → r.length < f → ref03_Inversions_l2 cl od f ((inv (pre.map (vl cl)) : Nat) : Int) (pre.length : Int) = some ((inv (od.map (vl cl)) : Nat) : Int)
 | [], pre, f + 1, hx, _ => by
  unfold ref03_Inversions_l2
  rw [if_neg (by rw [hx]; simp), hx, List.append_nil]
 | y :: r, pre, f + 1, hx, hf => by
  simp only [List.length_cons] at hf
  have hlen : od.length = pre.length + r.length + 1 := by rw [hx]; simp; omega
  unfold ref03_Inversions_l2
  rw [if_pos (by rw [hx]; exact lt_len pre y r)]
  have hle := inv_le (pre.map (vl cl))
  simp only [List.length_map] at hle
  have hle2 : pre.length * pre.length ≤ 60 * 60 := Nat.mul_le_mul (by omega) (by omega)
  have h3 := ref_in cl od hb pre r y hx hod pre [] 100000 (inv (pre.map (vl cl))) rfl (by omega) (by omega)
  have e0 : ref03_Inversions_l3 cl od (pre.length : Int) 100000 ((inv (pre.map (vl cl)) : Nat) : Int) (([] : List Int).length : Int) = ref03_Inversions_l3 cl od (pre.length : Int) 100000 ((inv (pre.map (vl cl)) : Nat) : Int) 0 := rfl
  rw [← e0, h3, Option.bind_some]
  have h4 : inv (pre.map (vl cl)) + above (vl cl y) (pre.map (vl cl)) = inv ((pre ++ [y]).map (vl cl)) := by
   rw [List.map_append, List.map_cons, List.map_nil, inv_snoc]; rfl
  rw [h4, show wr .i64 ((pre.length : Int) + 1) = ((pre ++ [y]).length : Int) from wr_snoc pre y r (by rw [← hx]; omega)]
  exact ref_out hod hb r (pre ++ [y]) f (by rw [hx]; simp) (by omega)
theorem ref_inv (hod : od.length ≤ 60) : ref03_Inversions cl od = some (if od.any (bad cl) = true then 0 else ((inv (od.map (vl cl)) : Nat) : Int)) := by
 unfold ref03_Inversions
 rw [ref_bad cl od hod, Option.bind_some]
 split
 ·next h =>
  split at h
  ·cases h
  ·next hb =>
   have hb : od.any (bad cl) = false := by simpa using hb
   have := ref_out cl od hod hb od [] 100000 rfl (by omega)
   have e0 : ref03_Inversions_l2 cl od 100000 ((inv (([] : List Int).map (vl cl)) : Nat) : Int) (([] : List Int).length : Int) = ref03_Inversions_l2 cl od 100000 0 0 := rfl
   rw [← e0, this, Option.bind_some, if_neg (by rw [hb]; simp)]
 ·next h =>
  split at h
  ·next hb => injection h with h; subst h; rw [if_pos hb]
  ·cases h
end
theorem inversions_law (cl od : List Int) : law03_CourtInversions cl od = some true := by
 unfold law03_CourtInversions
 by_cases h1 : cl.length > 60
 ·rw [if_pos (by simp; omega)]
  rfl
 ·rw [if_neg (by simp; omega), Option.bind_some]
  by_cases h2 : od.length > 60
  ·rw [if_pos (by simp; omega)]
   rfl
  ·rw [if_neg (by simp; omega), clone_i cl (by omega), Option.bind_some, clone_i od (by omega), Option.bind_some, court_inv cl od (by omega), Option.bind_some, ref_inv cl od (by omega), Option.bind_some, if_pos (by simp), equal_i cl cl (by omega), Option.bind_some, if_pos (by simp), equal_i od od (by omega), Option.bind_some, if_pos (by simp)]
   rfl
end Go.Proofs.YtiphapnckldpbaaGreatDoor
namespace Go.Proofs.YtiphapnckldpbaaGreatDoor.courtInversions
open Go.ChangeShapes Go.WideShapes Go.ChangeAt Go.RowKit
theorem law_ret (a0 : (List Int)) (a1 : (List Int)) (h : law03_CourtInversions a0 a1 = some true) {w : World} {v0 v1 : Value} (h0 : VR w (fun c => c < w.heap.size) [] ((cdL 1 cdI).enc a0) v0) (h1 : VR w (fun c => c < w.heap.size) [] ((cdL 1 cdI).enc a1) v1) : Ret Tryz.prog 5 #[v0, v1] w fun v w' => v = .bool true ∧ w.grownBy w' none :=
 Ret.mono (x_law03_CourtInversions.2 (cs_law03_CourtInversions.enc (a0, a1, ())) (er_law03_CourtInversions true) (told_enc (s := cs_law03_CourtInversions) (a := (a0, a1, ())) h) w (fun c => c < w.heap.size) [v0, v1] (fun c hc => hc) (fun g x h => by cases h) (.cons h0 (.cons h1 .nil))) fun v w' h => ⟨h.2.v_inv, h.1⟩
set_option maxRecDepth 100000 in
theorem contract (H : Type) (enc : TypeId × Value → H) (W : World) (base : Nat) (args : Array Value) (ds gs : List (DataW H)) (before : List MemPlace)
  (hval : ∀ (j : Nat) t v, Tryz.f5.params[j]? = some t → args[j]? = some v → Value.okWide Tryz.prog W .any base t v)
  (hW : DataW.Whole enc Tryz.prog Tryz.f5.params.toList Rows.courtInversionsSpec.vars false W args.toList ds gs before)
  (hsz : (DataW.weightsEach Tryz.prog (Tryz.f5.params.toList ++ (OpenSpec.ofChange Rows.courtInversionsSpec).bare.plain.varTypes Tryz.prog) (ds ++ gs)).all (· ≤ reachBytes) = true) :
  Calls Tryz.prog 5 args W fun e W' => ∃ v, e = .returned v ∧ Rows.courtInversionsSpec.post enc Tryz.prog Tryz.f5 false true false false W args v W' := by
 have hW' := hW
 obtain ⟨p, q, hA0, hV, rfl, hfz, hnd⟩ := hW
 have hA : DataW.TrodAll enc Tryz.prog W 0 (fun _ => true) true Tryz.f5.params.toList args.toList ds p := hA0
 have hpar : Tryz.f5.params = #[28, 28] := by kernel_rfl
 rw [hpar] at hA hval
 obtain ⟨v0, vs0, d0, ds0, p0, q0, hargs, rfl, rfl, h0, r0⟩ := trodAll_cons hA
 obtain ⟨v1, vs1, d1, ds1, p1, q1, rfl, rfl, rfl, h1, r1⟩ := trodAll_cons r0
 obtain ⟨rfl, rfl, rfl⟩ := trodAll_nil r1
 obtain rfl : args = #[v0, v1] := by apply Array.ext'; simpa using hargs
 obtain ⟨a0, k0, g0⟩ := rc_arg (rc_slice (by kernel_rfl : Tryz.prog.underlying 28 = some (.slice 3)) (by kernel_rfl) (by kernel_rfl) (by kernel_rfl) (by kernel_rfl) (rc_int64 (by kernel_rfl : Tryz.prog.underlying 3 = some (.int .i64)) (by kernel_rfl))) (one_slice (by kernel_rfl : Tryz.prog.underlying 28 = some (.slice 3)) (hval 0 28 v0 rfl rfl)) (fun _ => rfl) h0 hsz (j := 0) (by kernel_rfl) rfl
 obtain ⟨a1, k1, g1⟩ := rc_arg (rc_slice (by kernel_rfl : Tryz.prog.underlying 28 = some (.slice 3)) (by kernel_rfl) (by kernel_rfl) (by kernel_rfl) (by kernel_rfl) (rc_int64 (by kernel_rfl : Tryz.prog.underlying 3 = some (.int .i64)) (by kernel_rfl))) (one_slice (by kernel_rfl : Tryz.prog.underlying 28 = some (.slice 3)) (hval 1 28 v1 rfl rfl)) (fun _ => rfl) h1 hsz (j := 1) (by kernel_rfl) rfl
 have hc := law_ret a0 a1 (inversions_law a0 a1) k0 k1
 unfold Ret at hc
 refine hc.mono fun e W' he => ?_
 cases e with
 | returned v =>
  obtain ⟨rfl, hg⟩ := he
  exact ⟨_, rfl, post_true laidOut (fun t ht => ⟨mem_of_laid (fun t => Tryz.prog.readableRec t) (by kernel_rfl) ht, of_decide_eq_true (mem_of_laid (fun t => decide (t < Tryz.prog.types.size)) (by kernel_rfl) ht)⟩) hW' rfl (by kernel_rfl) (by kernel_rfl : Tryz.prog.underlying 4 = some .bool) rfl hg⟩
 | panicked c => exact he.elim
 | outgrown => exact he.elim
theorem laid_met (os : Os) : laidMet Tryz.prog Rows.courtInversionsRow.laid ((laidWorld os).forCall (fun _ _ => 0) ⟨#[], #[Value.slice none 0 0, Value.slice none 0 0], []⟩).memory :=
 laidMet_of_run' 8 (by kernel_rfl) (by kernel_rfl)
theorem reads (os : Os) {H : Type} (enc : TypeId × Value → H) : ∃ places, DataW.whole enc Tryz.prog ((laidWorld os).forCall (fun _ _ => 0) ⟨#[], #[Value.slice none 0 0, Value.slice none 0 0], []⟩).memory Tryz.f5.params.toList Rows.courtInversionsSpec.vars false #[Value.slice none 0 0, Value.slice none 0 0].toList 8 = some ([.nil, .nil], [], places) :=
 ⟨[], by kernel_rfl⟩
set_option maxRecDepth 100000 in
theorem lifted (os : Os) (started : os.Started) (H : Type) (enc : TypeId × Value → H) (F : Stop.Interp) :
  ReturnsInHanded {} Tryz.checked os 5 .any ((OpenSpec.ofChange Rows.courtInversionsSpec).preRow enc Tryz.prog Tryz.f5 Rows.courtInversionsRow.domain false Rows.courtInversionsRow.laid) (((OpenSpec.ofChange Rows.courtInversionsSpec).at F).post enc Tryz.prog Tryz.f5 false true false false) := by
 obtain ⟨places, hx⟩ := reads os enc
 refine returnsInHanded_of_row (C := Tryz.checked) (s := OpenSpec.ofChange Rows.courtInversionsSpec) ownKnob0 started (by kernel_rfl) Tryz.func5
  (witness_row_at (enc := enc) (C := Tryz.checked) false (laidWorld os) #[Value.slice none 0 0, Value.slice none 0 0] rfl (by kernel_rfl) (by kernel_rfl) (by kernel_rfl)
   (OpenSpec.preRow_of_cond 8 hx (by kernel_rfl) (fun k hk => by cases hk) (by kernel_rfl) (laid_met os))) ?_
 intro W base args ds gs before hval hW _ _ hsz _ _ _
 exact contract H enc W base args ds gs before hval hW hsz
theorem said : Rows.CourtInversionsSaid :=
 OpenClaim.holds_of_cond 5 Tryz.f5 rfl rfl rfl rfl rfl rfl rfl ⟨rfl, rfl, rfl, rfl, rfl⟩ rfl rfl rfl rfl rfl (by kernel_rfl) Tryz.func5 (by kernel_rfl)
  (of_decide_eq_true (by kernel_rfl)) (by unfold Func.isWrapper; first | (rw [if_pos (by decide +kernel)]; kernel_rfl) | (rw [if_neg (by decide +kernel)]; exact ⟨rfl, rfl⟩))
  (fun os started H enc _ F => by rw [OpenClaim.pre_eq_preRow]; exact lifted os started H enc F)
theorem plain (f : FuncId) (fn : Func) (hf : Tryz.pinned.checked.prog.funcNamed "trestle/trestlelaw03.CourtInversions" = some f) (hfn : Tryz.pinned.checked.prog.funcs[f]? = some fn) :
  true = Tryz.pinned.checked.prog.looks [] ∧ ∀ (j : Nat) t, fn.params[j]? = some t → Tryz.pinned.checked.prog.wantsStandIn t = false := by
 obtain rfl : f = 5 := Option.some.inj ((show Tryz.prog.funcNamed "trestle/trestlelaw03.CourtInversions" = some 5 by kernel_rfl).symm.trans hf) |>.symm
 obtain rfl : fn = Tryz.f5 := (Option.some.inj (Tryz.func5.symm.trans hfn)).symm
 refine ⟨by kernel_rfl, fun j t ht => ?_⟩
 have hm : t ∈ Tryz.f5.params.toList := by simpa using Array.mem_of_getElem? ht
 exact (show Tryz.prog.wantsStandIn t = false from Bool.not_eq_true' _ |>.mp (mem_of_laid (fun t => !Tryz.prog.wantsStandIn t) (by kernel_rfl) hm))
theorem card : Rows.CourtInversionsCardSaid :=
 Claim7.holds_tied_plain_at .later [] _ _ _ _ said (fun _ h => by cases h) (by kernel_rfl) (fun _ h => by cases h) courtInversions_row_tie rfl ⟨rfl, rfl⟩ (by kernel_rfl) rfl plain (by kernel_rfl)
end Go.Proofs.YtiphapnckldpbaaGreatDoor.courtInversions
