/- Reasoning on abstract states: freezing blocks, wherever they are named; reading and writing typed blocks. -/
import Derived.Test.YthofgamegondnaaDoorRs
namespace Go.Proofs.YthofgamegondnaaDoor
open Go.RowKit

/-- A value, or what it is once block b is frozen. -/
def Fr1 (h : Hp) (b : Nat) (x x' : AV) : Prop := x' = x ∨ (x = .e0 ∧ ∃ k, x' = .sl k []) ∨ ∃ B lo n m, h[b]? = some (some B) ∧ B.fz = false ∧ (∀ y ∈ B.es, noRf2 y = true) ∧ lo + n ≤ B.es.length ∧ x = .rf b lo n m ∧ x' = .sl B.k ((B.es.drop lo).take n)
def ZFr (Z : Nat → Prop) (R : List RI) (h : Hp) (b : Nat) (c : Nat) : Prop := Z c ∨ ∃ B r, h[b]? = some (some B) ∧ B.fz = false ∧ R[b]? = some r ∧ c = r.c
theorem Fr1.vr {w : World} {Z : Nat → Prop} {R : List RI} {h : Hp} {b : Nat} {x x' : AV} {u : Value} (f : Fr1 h b x x') (hh : HR w Z R h) (hv : VR w Z R x u) : VR w (ZFr Z R h b) R x' u := by
  rcases f with rfl | ⟨rfl, k, rfl⟩ | ⟨B, lo, n, m, hB, hf, hn, hle, rfl, rfl⟩
  · exact hv.mono (fun _ _ => rfl) (fun _ h => .inl h) (fun _ _ h => h)
  · cases hv with
    | e0 => exact .sl (us := []) rfl rfl (Nat.le_refl _) (by unfold maxLen; omega) (fun h => by omega) (fun i x u hx => by simp at hx)
  · obtain ⟨r, _, _, g1, _⟩ := hh.blk b B hB
    exact (frz_vr hh hB hn g1 hle hv).mono (fun _ _ => rfl) (fun c h => h.elim .inl fun e => .inr ⟨B, r, hB, hf, g1, e⟩) (fun _ _ h => h)
def EsFz (h : Hp) (b : Nat) : List AV → List AV → Prop
  | [], [] => True
  | x :: r, x' :: r' => Fr1 h b x x' ∧ EsFz h b r r'
  | _, _ => False
theorem EsFz.at_ {h : Hp} {b : Nat} : ∀ {es es' : List AV}, EsFz h b es es' → es.length = es'.length ∧ ∀ (i : Nat) (x' : AV), es'[i]? = some x' → ∃ x, es[i]? = some x ∧ Fr1 h b x x'
  | [], [], _ => ⟨rfl, fun i x' hx => by simp at hx⟩
  | x :: r, x' :: r', ⟨h1, h2⟩ => by
    obtain ⟨k1, k2⟩ := h2.at_
    refine ⟨by simp [k1], fun i y hy => ?_⟩
    cases i with
    | zero => simp at hy; subst hy; exact ⟨x, rfl, h1⟩
    | succ i => simpa using k2 i y (by simpa using hy)
  | [], _ :: _, h => h.elim
  | _ :: _, [], h => h.elim
def EnFz (h : Hp) (b : Nat) (o o' : Option Blk) : Prop := o' = none ∨ o = o' ∨ ∃ k t es es', o = some ⟨k, t, es, false⟩ ∧ o' = some ⟨k, t, es', false⟩ ∧ EsFz h b es es'
def HpFz (h : Hp) (b : Nat) : Hp → Hp → Prop
  | [], [] => True
  | o :: r, o' :: r' => EnFz h b o o' ∧ HpFz h b r r'
  | _, _ => False
theorem HpFz.at_ {h : Hp} {b : Nat} : ∀ {q q' : Hp}, HpFz h b q q' → q.length = q'.length ∧ ∀ (j : Nat) (B' : Blk), q'[j]? = some (some B') → ∃ es, q[j]? = some (some { B' with es := es }) ∧ es.length = B'.es.length ∧ ∀ (i : Nat) (x' : AV), B'.es[i]? = some x' → ∃ x, es[i]? = some x ∧ Fr1 h b x x'
  | [], [], _ => ⟨rfl, fun j B' hx => by simp at hx⟩
  | o :: r, o' :: r', ⟨h1, h2⟩ => by
    obtain ⟨k1, k2⟩ := h2.at_
    refine ⟨by simp [k1], fun j B' hB => ?_⟩
    cases j with
    | zero =>
      simp at hB
      subst hB
      rcases h1 with h1 | h1 | ⟨k, t, es, es', rfl, h1, h3⟩
      · cases h1
      · subst h1
        exact ⟨B'.es, rfl, rfl, fun i x' hx => ⟨x', hx, .inl rfl⟩⟩
      · have h1 := Option.some.inj h1
        subst h1
        obtain ⟨q1, q2⟩ := h3.at_
        exact ⟨es, rfl, q1, q2⟩
    | succ j => simpa using k2 j B' (by simpa using hB)
  | [], _ :: _, h => h.elim
  | _ :: _, [], h => h.elim
def LkFz (h : Hp) (b : Nat) (l : List (Nat × AV)) : List (Nat × AV) → Prop
  | [] => True
  | (t, x') :: r => (∃ x, lk l t = some x ∧ Fr1 h b x x') ∧ LkFz h b l r
theorem LkFz.at_ {h : Hp} {b : Nat} {l : List (Nat × AV)} : ∀ {l' : List (Nat × AV)}, LkFz h b l l' → ∀ t x', lk l' t = some x' → ∃ x, lk l t = some x ∧ Fr1 h b x x'
  | [], _, t, x, h => by cases h
  | (k, y) :: r, hk, t, x, h => by
    rw [lk_put] at h
    split at h
    · next e => injection h with h; subst e h; exact hk.1
    · exact hk.2.at_ t x h
/-- Block b is frozen, wherever it is named. -/
theorem Wk.frzG {E : Env} {n : Nat} {l l' : List (Nat × AV)} {h h' : Hp} (b : Nat) (hb : h'[b]? = some Option.none ∨ h[b]? = some Option.none) (hh : HpFz h b h h') (hl : LkFz h b l l') : Wk E ⟨Fr n l, h⟩ ⟨Fr n l', h'⟩ := by
  intro base w Z R a sr
  obtain ⟨hlen, hblk⟩ := hh.at_
  have hne : ∀ (j : Nat) (B' B r : _), h'[j]? = some (some B') → h[b]? = some (some B) → R[b]? = some r → B.fz = false → B'.fz = false → ∀ r', R[j]? = some r' → r'.c ≠ r.c := by
    intro j B' B r hj hB hr hf hf' r' hr' e
    obtain ⟨es, k1, _⟩ := hblk j B' hj
    have := sr.hh.inj j b _ B r' r k1 hf' hB hf hr' hr e
    subst this
    rcases hb with hb | hb
    · rw [hb] at hj; cases hj
    · rw [hb] at hB; cases hB
  have hown : ∀ c, own R h' c → own R h c := fun c ⟨j, B, r, h1, h2, h3, h4⟩ => by
    obtain ⟨es, k1, _⟩ := hblk j B h1
    exact ⟨j, _, r, k1, h2, h3, h4⟩
  have hzo : ∀ c, ZFr Z R h b c → Z c ∨ own R h c := fun c hc => hc.elim .inl fun ⟨B, r, h1, h2, h3, h4⟩ => .inr ⟨b, B, r, h1, h2, h3, h4.symm⟩
  refine ⟨ZFr Z R h b, R, ⟨⟨sr.hh.len.trans hlen, fun j B' hB' => ?_, fun j j' B B' r r' hB hf hB' hf' h1 h2 e => ?_, fun c hc => ?_⟩, ⟨?_, fun t x hx => ?_⟩, ?_, fun g x hx => (sr.gl g x hx).mono (fun _ _ => rfl) (fun _ h => .inl h) (fun _ _ h => h), sr.bs⟩, ⟨rfl, rfl, rfl, Nat.le_refl _, fun _ _ _ => rfl, fun c hc => .inl (hown c hc), fun _ h => .inl h, fun c hc => (hzo c hc).elim .inl (fun h => .inr (.inl h))⟩⟩
  · obtain ⟨es, k1, k2, k3⟩ := hblk j B' hB'
    obtain ⟨r, arr, us, g1, g2, g3, g4, g5, g6, g7, g8, g9, g10⟩ := sr.hh.blk j _ k1
    refine ⟨r, arr, us, g1, g2, g3, g4, by rw [← k2]; exact g5, g6, fun hf => .inl (g7 hf), fun hf hc => ?_, ⟨by rw [g9.len]; exact k2, fun i x' u hx hu => ?_⟩, g10⟩
    · rcases hc with hc | ⟨B, r2, q1, q2, q3, q4⟩
      · exact g8 hf hc
      · exact hne j B' B r2 hB' q1 q3 q2 hf r g1 q4
    · obtain ⟨x, q1, q2⟩ := k3 i x' hx
      exact q2.vr sr.hh (g9.at_ i x u q1 hu)
  · obtain ⟨es, k1, _⟩ := hblk j B hB
    obtain ⟨es', k1', _⟩ := hblk j' B' hB'
    exact sr.hh.inj j j' _ _ r r' k1 hf k1' hf' h1 h2 e
  · rcases hc with hc | ⟨B, r, q1, q2, q3, rfl⟩
    · exact sr.hh.zlt c hc
    · exact sr.hh.rltL q1 q3
  · rw [Fr_len]; have := sr.fr.1; rw [Fr_len] at this; exact this
  · rw [Fr_get] at hx
    split at hx
    · next ht =>
      injection hx with hx
      obtain ⟨y, h1, h2⟩ := hl.at_ t x hx
      exact h2.vr sr.hh (sr.fr.2 t y (by rw [Fr_get, if_pos ht, h1]))
    · cases hx
  · have : ∀ {D : List Deferred}, Mks base w Z R h D → Mks base w (ZFr Z R h b) R h' D := by
      intro D
      induction D with
      | nil => intro _; trivial
      | cons d D ih => exact fun ⟨⟨q, h1, h2, h3, h4, h5, h6⟩, hD⟩ => ⟨⟨q, h1, h2, h3, fun hc => (hzo q hc).elim h4 h5, fun ho => h5 (hown q ho), h6⟩, ih hD⟩
    exact this sr.mks
theorem fz_hd {h : Hp} {b k : Nat} {t : TypeId} {es : List AV} (hb : h[b]? = some (mk k t es)) (hn : ∀ x ∈ es, noRf2 x = true) : Fr1 h b (hd b es) (.sl k es) := by
  cases es with
  | nil => exact .inr (.inl ⟨rfl, k, rfl⟩)
  | cons x es => exact .inr (.inr ⟨_, 0, _, _, hb, rfl, hn, by simp, rfl, by simp⟩)
theorem fz_rl {h : Hp} {b k : Nat} {t : TypeId} {es : List AV} (hb : h[b]? = some (some ⟨k, t, es, false⟩)) (hn : ∀ x ∈ es, noRf2 x = true) : Fr1 h b (.rf b 0 es.length es.length) (.sl k es) :=
  .inr (.inr ⟨_, 0, _, _, hb, rfl, hn, by simp, rfl, by simp⟩)
theorem fz_rf {h : Hp} {b k n m : Nat} {t : TypeId} {es : List AV} (hb : h[b]? = some (some ⟨k, t, es, false⟩)) (hn : ∀ x ∈ es, noRf2 x = true) (hle : n ≤ es.length) : Fr1 h b (.rf b 0 n m) (.sl k (es.take n)) :=
  .inr (.inr ⟨_, 0, _, _, hb, rfl, hn, by simpa using hle, rfl, by simp⟩)
theorem fz_e0 {h : Hp} {b k : Nat} : Fr1 h b .e0 (.sl k []) := .inr (.inl ⟨rfl, k, rfl⟩)

section
variable {P : Program} {h : Hp} {α : Type} {e : α → AV} {xs : List α}
theorem idx_at {i : Int} {v : α} (hv : idx xs i = some v) : 0 ≤ i ∧ xs[i.toNat]? = some v := by
  unfold idx at hv
  split at hv
  · next h0 => exact ⟨h0, hv⟩
  · cases hv
theorem ix_rf {t el : TypeId} {b k n m : Nat} {B : Blk} {ki : IntKind} {i : Int} (hu : P.underlying t = some (.slice el)) (hs : tySize P el = some k) (hb : h[b]? = some (some B)) (hk : B.k = k) (h0 : 0 ≤ i) (hn : i.toNat < n) : evIndexAddr P h t (.rf b 0 n m) (.v (.int ki i)) = some (.pt b i.toNat 0) := by
  unfold evIndexAddr
  simp only [intOfA]
  rw [if_neg (by omega), hu]
  simp only [hb]
  rw [if_pos ⟨hn, by rw [hs, hk]⟩, Nat.zero_add]
theorem ix_hd {t t' el : TypeId} {b k : Nat} {ki : IntKind} {i : Int} {v : α} (hu : P.underlying t = some (.slice el)) (hs : tySize P el = some k) (hb : h[b]? = some (mk k t' (xs.map e))) (hv : idx xs i = some v) : evIndexAddr P h t (hd b (xs.map e)) (.v (.int ki i)) = some (.pt b i.toNat 0) := by
  obtain ⟨h0, h1⟩ := idx_at hv
  have hlt := (List.getElem?_eq_some_iff.1 h1).1
  cases xs with
  | nil => simp at hlt
  | cons x xs => exact ix_rf hu hs hb rfl h0 (by simpa using hlt)
theorem ix_rl {t t' el : TypeId} {b k : Nat} {ki : IntKind} {i : Int} {v : α} (hu : P.underlying t = some (.slice el)) (hs : tySize P el = some k) (hb : h[b]? = some (some ⟨k, t', xs.map e, false⟩)) (hv : idx xs i = some v) : evIndexAddr P h t (.rf b 0 xs.length xs.length) (.v (.int ki i)) = some (.pt b i.toNat 0) := by
  obtain ⟨h0, h1⟩ := idx_at hv
  exact ix_rf hu hs hb rfl h0 (List.getElem?_eq_some_iff.1 h1).1
/-- What lies at an address of a typed block. -/
theorem ld_blk {t : TypeId} {b m : Nat} {g : Bool} {B : Blk} {i : Nat} {v : α} (hm : tySize P t = some m) (hg : tyAgg P t = some g) (hb : h[b]? = some (some B)) (hB : B.es = xs.map e) (hv : xs[i]? = some v) (he : getE (e v) 0 m g = some (e v)) : evLoad P h t (.pt b i 0) = some (e v) := by
  unfold evLoad
  simp only [hm, hg, hb, hB, List.getElem?_map, hv, Option.map_some]
  exact he
theorem mk_some {k : Nat} {t : TypeId} {es : List AV} {i : Nat} {x : AV} (h : es[i]? = some x) : mk k t es = some ⟨k, t, es, false⟩ := by
  cases es with
  | nil => simp at h
  | cons y es => rfl
theorem ld_mk {t t' : TypeId} {b k m : Nat} {g : Bool} {i : Nat} {v : α} (hm : tySize P t = some m) (hg : tyAgg P t = some g) (hb : h[b]? = some (mk k t' (xs.map e))) (hv : xs[i]? = some v) (he : getE (e v) 0 m g = some (e v)) : evLoad P h t (.pt b i 0) = some (e v) := by
  rw [mk_some (i := i) (x := e v) (by rw [List.getElem?_map, hv]; rfl)] at hb
  exact ld_blk hm hg hb rfl hv he
theorem st_blk {t t' : TypeId} {b k : Nat} {i : Nat} {v v' : α} (hb : h[b]? = some (some ⟨k, t', xs.map e, false⟩)) (hv : xs[i]? = some v) (hs : tySize P t = some (e v').nc) (hn : (e v').notTp = true) (he : setE (e v) 0 (e v') = some (e v')) : evStore P h t (.pt b i 0) (e v') = some (h.set b (some ⟨k, t', (xs.set i v').map e, false⟩)) := by
  unfold evStore
  simp only [hb, List.getElem?_map, hv, Option.map_some, Bool.false_eq_true, if_false]
  rw [if_pos ⟨hs, hn⟩, he, List.map_set]
  rfl
theorem st_mk {t t' : TypeId} {b k : Nat} {i : Nat} {v v' : α} (hb : h[b]? = some (mk k t' (xs.map e))) (hv : xs[i]? = some v) (hs : tySize P t = some (e v').nc) (hn : (e v').notTp = true) (he : setE (e v) 0 (e v') = some (e v')) : evStore P h t (.pt b i 0) (e v') = some (h.set b (mk k t' ((xs.set i v').map e))) := by
  rw [mk_some (i := i) (x := e v) (by rw [List.getElem?_map, hv]; rfl)] at hb
  rw [st_blk hb hv hs hn he]
  have : mk k t' ((xs.set i v').map e) = some ⟨k, t', (xs.set i v').map e, false⟩ := mk_some (i := i) (x := e v') (by
    rw [List.getElem?_map, List.getElem?_set_self (List.getElem?_eq_some_iff.1 hv).1]; rfl)
  rw [this]
/-- Room for a slice that is made? -/
def mkOk (bytes : Nat) (n : Int) : Bool := decide (0 ≤ n) && decide ((bytes : Int) * n ≤ 140737488355328) && decide (n ≤ 140737488355328)
theorem mk_T {c : Cd α} {t el : TypeId} {k : Nat} {i : TypeInfo} {n : Int} {kn kc : IntKind} {z : α} (ht : tyElem P t = some el) (hi : P.info? el = some i) (hz : tyZero P el = some (c.enc z)) (hk : i.size = k) (hzn : (c.enc z).nc = k) (hzt : (c.enc z).notTp = true) {bytes : Nat} (hib : i.bytes = bytes) (hc : mkOk bytes n = true) :
    evMake P h t (.v (.int kn n)) (.v (.int kc n)) = some (.rf h.length 0 (List.replicate n.toNat z).length (List.replicate n.toNat z).length, h ++ [some ⟨k, el, (List.replicate n.toNat z).map c.enc, false⟩]) := by
  simp only [mkOk, Bool.and_eq_true, decide_eq_true_eq] at hc
  unfold evMake
  simp only [ht, intOfA, hi, hz]
  rw [if_pos ⟨trivial, hc.1.1, by rw [hib]; exact hc.1.2, hc.2, by rw [hk]; exact hzn, hzt⟩, hk]
  simp
theorem q_load {ρ : Operand → Option AV} {t : TypeId} {a : Operand} {p r : AV} (hp : ρ a = some p) (he : evLoad P h t p = some r) : evOpQ P ρ h (.load t a) = some r := by
  show (match ρ a with | some p => evLoad P h t p | none => none) = some r
  rw [hp]; exact he
theorem n_make {ρ : Operand → Option AV} {t : TypeId} {n c : Operand} {x y : AV} {r : AV × Hp} (hn : ρ n = some x) (hc : ρ c = some y) (he : evMake P h t x y = some r) : evOpN P ρ h (.makeSlice t n c) = some r := by
  show (match ρ n, ρ c with | some n, some c => evMake P h t n c | _, _ => none) = some r
  rw [hn, hc]; exact he
theorem len_rl {t el : TypeId} {b : Nat} (hu : P.underlying t = some (.slice el)) : evLen P t (.rf b 0 xs.length xs.length) = some (eI xs.length) := by
  simp [evLen, hu, eI]
end

/-- What a call sees of an argument. -/
def Sn {α : Type} (h : Hp) (c : Cd α) (x : AV) (v : α) : Prop := ∃ y, view2 h x = some y ∧ c.dec y = some v
theorem view2_id {h : Hp} {x : AV} (hn : noRf2 x = true) : view2 h x = some x := by
  have := views_id (h := h) (xs := [x]) (by simp [hn])
  unfold views at this
  split at this
  · next y r h1 h2 =>
    unfold views at h2
    injection h2 with h2
    subst h2
    have := (List.cons.inj (Option.some.inj this)).1
    subst this
    exact h1
  · cases this
theorem Sn.enc {α : Type} {h : Hp} {c : Cd α} {v : α} : Sn h c (c.enc v) v := ⟨_, view2_id (c.nr v), c.de v⟩
theorem Sn.e0 {α : Type} {h : Hp} {c : Cd α} {k : Nat} : Sn h (cdL k c) .e0 [] := ⟨.e0, rfl, rfl⟩
theorem Sn.rl {α : Type} {h : Hp} {c : Cd α} {k b : Nat} {t : TypeId} {xs : List α} (hb : h[b]? = some (some ⟨k, t, xs.map c.enc, false⟩)) (hn : ∀ v, noRf (c.enc v) = true) : Sn h (cdL k c) (.rf b 0 xs.length xs.length) xs := by
  refine ⟨.sl k (xs.map c.enc), ?_, (cdL k c).de xs⟩
  show view1 h (.rf b 0 xs.length xs.length) = some (.sl k (xs.map c.enc))
  unfold view1
  simp only [hb]
  rw [if_pos ⟨by simp, by simp [hn]⟩]
  simp only [List.drop_zero]
  rw [List.take_of_length_le (by simp)]
theorem Sn.hd {α : Type} {h : Hp} {c : Cd α} {k b : Nat} {t : TypeId} {xs : List α} (hb : h[b]? = some (mk k t (xs.map c.enc))) (hn : ∀ v, noRf (c.enc v) = true) : Sn h (cdL k c) (hd b (xs.map c.enc)) xs := by
  cases xs with
  | nil => exact .e0
  | cons x xs =>
    have := Sn.rl (c := c) (xs := x :: xs) (b := b) (k := k) hb hn
    simpa [Go.Proofs.YthofgamegondnaaDoor.hd] using this
def Sns {α : Type} (h : Hp) (s : Cs α) (xs : List AV) (a : α) : Prop := ∃ ys, views h xs = some ys ∧ s.dec ys = some a
theorem Sns.nil {h : Hp} : Sns h csN [] () := ⟨[], rfl, rfl⟩
theorem Sns.cons {α β : Type} {h : Hp} {c : Cd α} {s : Cs β} {x : AV} {xs : List AV} {v : α} {a : β} (h1 : Sn h c x v) (h2 : Sns h s xs a) : Sns h (csC c s) (x :: xs) (v, a) := by
  obtain ⟨y, k1, k2⟩ := h1
  obtain ⟨ys, q1, q2⟩ := h2
  refine ⟨y :: ys, ?_, ?_⟩
  · unfold views; rw [k1, q1]
  · show ((c.dec y).bind fun x => (s.dec ys).map fun y => (x, y)) = _
    rw [k2, q2]; rfl
theorem Sns.enc {α : Type} {h : Hp} {s : Cs α} {a : α} : Sns h s (s.enc a) a := ⟨_, views_id (s.nr a), s.de a⟩
theorem n1_K (k : IntKind) : ∀ v, noRf ((cdK k).enc v) = true := fun _ => rfl
theorem n1_I : ∀ v, noRf (cdI.enc v) = true := fun _ => rfl
theorem n1_B : ∀ v, noRf (cdB.enc v) = true := fun _ => rfl
theorem n1_S : ∀ v, noRf (cdS.enc v) = true := fun _ => rfl
theorem n1_L {α : Type} {k : Nat} {c : Cd α} : ∀ v, noRf ((cdL k c).enc v) = true := fun _ => rfl
section
variable {E : Env} {cx : Cx} {ops : Array Oper} {n n0 : Nat} {l : List (Nat × AV)} {hp : Hp} {ih : IH} {α β : Type} {s : Cs α} {F : α → Option β} {er : β → AV} {a : α} {b : β} {xs : List AV}
theorem told_dec {ys : List AV} (hd : s.dec ys = some a) (hF : F a = some b) : told s F er ys = some (er b) := by
  unfold told; rw [hd, Option.bind_some, hF]; rfl
theorem callX2_told' (hv : Sns hp s xs a) (hok : xs.all noRf2 = true ∨ flatTp (er b) = true) (hF : F a = some b) : callX2 (told s F er) xs hp = some (er b, hp) := by
  obtain ⟨ys, hv, hd⟩ := hv
  unfold callX2
  split
  · next hn =>
    have : xs = ys := Option.some.inj ((views_id hn).symm.trans hv)
    rw [this, told_dec hd hF]; rfl
  · next hn =>
    unfold callX
    simp only [hv, told_dec hd hF]
    rw [if_pos (hok.resolve_left (fun h => hn h))]
theorem op_call {d : Nat} {f : Operand} {args : Array Operand} {tys : Array TypeId} {ty : TypeId} {pos : String} {af : Array Edge} {g : Option (Nat × Bool)} {fid : FuncId} (hw : wantedA ops (Fr n l) ⟨some d, .call ⟨.value f, args, tys⟩, ty, pos, af, g⟩ = some true)
    (hf : opA E (Fr n l) f = some (.fn fid [] [])) (hi : E.I fid = false) (hX : E.X fid = some (told s F er)) (ha : opds (opA E (Fr n l)) args.toList = some xs) (hv : Sns hp s xs a) (hok : xs.all noRf2 = true ∨ flatTp (er b) = true) (hF : F a = some b) : opsA E ih ⟨none, false⟩ ops [⟨some d, .call ⟨.value f, args, tys⟩, ty, pos, af, g⟩] ⟨Fr n l, hp⟩ = some ⟨Fr n ((d, er b) :: l), hp⟩ := by
  have e1 : evOpX E.P E.I (opA E (Fr n l)) hp (.call ⟨.value f, args, tys⟩) = none := by
    show (match opA E (Fr n l) f, opds (opA E (Fr n l)) args.toList with | some (.fn g [] []), some [x] => if E.I g then some x else none | _, _ => none) = none
    rw [hf, ha]
    split
    · next g x h1 _ =>
      injection h1 with h1
      injection h1 with h1
      subst h1
      rw [hi]; rfl
    · rfl
  have e2 : op1 E ih ⟨none, false⟩ ⟨some d, .call ⟨.value f, args, tys⟩, ty, pos, af, g⟩ ⟨Fr n l, hp⟩ = some ⟨Fr n ((d, er b) :: l), hp⟩ := by
    unfold op1
    simp only [evOpQ, evOpN, evOpW, e1, hf, ha, callA, hX, List.nil_append, List.append_nil, callX2_told' hv hok hF, Option.map_some, putA_Fr]
  unfold opsA
  rw [hw]
  simp only [e2]
  rfl
theorem opd_call {d : Nat} {f : Operand} {args : Array Operand} {tys : Array TypeId} {ty : TypeId} {pos : String} {af : Array Edge} {g : Option (Nat × Bool)} {fid : FuncId} (hw : wantedA ops (Fr n l) ⟨some d, .call ⟨.value f, args, tys⟩, ty, pos, af, g⟩ = some true)
    (hf : opA E (Fr n l) f = some (.fn fid [] [])) (hX : E.X fid = some (told s F er)) (ha : opds (opA E (Fr n l)) args.toList = some xs) (hv : Sns hp s xs a) (hfl : flatTp (er b) = true) (hF : F a = some b) : opsD E ih cx ops n0 [⟨some d, .call ⟨.value f, args, tys⟩, ty, pos, af, g⟩] ⟨Fr n l, hp⟩ = some ⟨Fr n ((d, er b) :: l), hp⟩ := by
  obtain ⟨ys, hv, hd⟩ := hv
  have e2 : callP E ih (.fn fid [] []) xs hp = some (er b, hp) := by
    simp only [callP, hv, hX, told_dec hd hF, hfl, if_true]
  unfold opsD
  simp only [isW, hw, evOpQ, evOpN, hf, ha, e2, putA_Fr, Bool.false_eq_true, if_false]
  rfl
end
end Go.Proofs.YthofgamegondnaaDoor
