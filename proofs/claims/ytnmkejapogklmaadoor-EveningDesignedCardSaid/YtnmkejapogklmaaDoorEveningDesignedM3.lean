/- Lemmas for the proof. -/
import Derived.Test.YtnmkejapogklmaaDoorEveningDesignedM1
import Derived.Test.YtnmkejapogklmaaDoorEveningDesignedM2
import Derived.Deep.Slices
import Derived.ChangeArms
import Derived.SizedLaws
import Derived.Test.YtnmkejapogklmaaDoorCards
import Derived.Test.YtnmkejapogklmaaDoorTie
import Derived.WalkKit
import Derived.ProofKit
import Derived.OpenShut
import Derived.Deep.DeepHandedRow
import Derived.Lib.LaidTab
import Derived.Test.YtnmkejapogklmaaDoorProg
namespace Go.Proofs.YtnmkejapogklmaaDoor
open Go.RowKit

/-- A value, or what it is once block b is frozen. -/
def Fr1 (h : Hp) (b : Nat) (x x' : AV) : Prop := x' = x ∨ (x = .e0 ∧ ∃ k, x' = .sl k []) ∨ ∃ B lo n m, h[b]? = some (some B) ∧ B.fz = false ∧ (∀ y ∈ B.es, noRf2 y = true) ∧ lo + n ≤ B.es.length ∧ x = .rf b lo n m ∧ x' = .sl B.k ((B.es.drop lo).take n)
def ZFr (Z : Nat → Prop) (R : List RI) (h : Hp) (b : Nat) (c : Nat) : Prop := Z c ∨ ∃ B r, h[b]? = some (some B) ∧ B.fz = false ∧ R[b]? = some r ∧ c = r.c
theorem Fr1.vr {w : World} {Z : Nat → Prop} {R : List RI} {h : Hp} {b : Nat} {x x' : AV} {u : Value} (f : Fr1 h b x x') (hh : HR w Z R h) (hv : VR w Z R x u) : VR w (ZFr Z R h b) R x' u := by
  rcases f with rfl | ⟨rfl, k, rfl⟩ | ⟨B, lo, n, m, hB, hf, hn, hle, rfl, rfl⟩
  · exact hv.mono (fun _ _ => rfl) (fun _ h => .inl h) (fun _ _ h => h)
  · cases hv with
    | e0 => exact .sl (us := []) rfl rfl (Nat.le_refl _) (by unfold maxLen; omega) (fun h => by omega) (fun i x u hx => by simp at hx)
  · obtain ⟨r, _, _, g1, _⟩ := hh.blk b B hB
    exact (frz_vr hh hB hn g1 hle hv).mono (fun _ _ => rfl) (fun c h => h.elim .inl fun e => .inr ⟨B, r, hB, hf, g1, e⟩) (fun _ _ h => h)
def EsFz (h : Hp) (b : Nat) : List AV → List AV → Prop
  | [], [] => True
  | x :: r, x' :: r' => Fr1 h b x x' ∧ EsFz h b r r'
  | _, _ => False
theorem EsFz.at_ {h : Hp} {b : Nat} : ∀ {es es' : List AV}, EsFz h b es es' → es.length = es'.length ∧ ∀ (i : Nat) (x' : AV), es'[i]? = some x' → ∃ x, es[i]? = some x ∧ Fr1 h b x x'
  | [], [], _ => ⟨rfl, fun i x' hx => by simp at hx⟩
  | x :: r, x' :: r', ⟨h1, h2⟩ => by
    obtain ⟨k1, k2⟩ := h2.at_
    refine ⟨by simp [k1], fun i y hy => ?_⟩
    cases i with
    | zero => simp at hy; subst hy; exact ⟨x, rfl, h1⟩
    | succ i => simpa using k2 i y (by simpa using hy)
  | [], _ :: _, h => h.elim
  | _ :: _, [], h => h.elim
def EnFz (h : Hp) (b : Nat) (o o' : Option Blk) : Prop := o' = none ∨ o = o' ∨ ∃ k t es es', o = some ⟨k, t, es, false⟩ ∧ o' = some ⟨k, t, es', false⟩ ∧ EsFz h b es es'
def HpFz (h : Hp) (b : Nat) : Hp → Hp → Prop
  | [], [] => True
  | o :: r, o' :: r' => EnFz h b o o' ∧ HpFz h b r r'
  | _, _ => False
theorem HpFz.at_ {h : Hp} {b : Nat} : ∀ {q q' : Hp}, HpFz h b q q' → q.length = q'.length ∧ ∀ (j : Nat) (B' : Blk), q'[j]? = some (some B') → ∃ es, q[j]? = some (some { B' with es := es }) ∧ es.length = B'.es.length ∧ ∀ (i : Nat) (x' : AV), B'.es[i]? = some x' → ∃ x, es[i]? = some x ∧ Fr1 h b x x'
  | [], [], _ => ⟨rfl, fun j B' hx => by simp at hx⟩
  | o :: r, o' :: r', ⟨h1, h2⟩ => by
    obtain ⟨k1, k2⟩ := h2.at_
    refine ⟨by simp [k1], fun j B' hB => ?_⟩
    cases j with
    | zero =>
      simp at hB
      subst hB
      rcases h1 with h1 | h1 | ⟨k, t, es, es', rfl, h1, h3⟩
      · cases h1
      · subst h1
        exact ⟨B'.es, rfl, rfl, fun i x' hx => ⟨x', hx, .inl rfl⟩⟩
      · have h1 := Option.some.inj h1
        subst h1
        obtain ⟨q1, q2⟩ := h3.at_
        exact ⟨es, rfl, q1, q2⟩
    | succ j => simpa using k2 j B' (by simpa using hB)
  | [], _ :: _, h => h.elim
  | _ :: _, [], h => h.elim
def LkFz (h : Hp) (b : Nat) (l : List (Nat × AV)) : List (Nat × AV) → Prop
  | [] => True
  | (t, x') :: r => (∃ x, lk l t = some x ∧ Fr1 h b x x') ∧ LkFz h b l r
theorem LkFz.at_ {h : Hp} {b : Nat} {l : List (Nat × AV)} : ∀ {l' : List (Nat × AV)}, LkFz h b l l' → ∀ t x', lk l' t = some x' → ∃ x, lk l t = some x ∧ Fr1 h b x x'
  | [], _, t, x, h => by cases h
  | (k, y) :: r, hk, t, x, h => by
    rw [lk_put] at h
    split at h
    · next e => injection h with h; subst e h; exact hk.1
    · exact hk.2.at_ t x h
/-- Block b is frozen, wherever it is named. -/
theorem Wk.frzG {E : Env} {n : Nat} {l l' : List (Nat × AV)} {h h' : Hp} (b : Nat) (hb : h'[b]? = some Option.none ∨ h[b]? = some Option.none) (hh : HpFz h b h h') (hl : LkFz h b l l') : Wk E ⟨Fr n l, h⟩ ⟨Fr n l', h'⟩ := by
  intro base w Z R a sr
  obtain ⟨hlen, hblk⟩ := hh.at_
  have hne : ∀ (j : Nat) (B' B r : _), h'[j]? = some (some B') → h[b]? = some (some B) → R[b]? = some r → B.fz = false → B'.fz = false → ∀ r', R[j]? = some r' → r'.c ≠ r.c := by
    intro j B' B r hj hB hr hf hf' r' hr' e
    obtain ⟨es, k1, _⟩ := hblk j B' hj
    have := sr.hh.inj j b _ B r' r k1 hf' hB hf hr' hr e
    subst this
    rcases hb with hb | hb
    · rw [hb] at hj; cases hj
    · rw [hb] at hB; cases hB
  have hown : ∀ c, own R h' c → own R h c := fun c ⟨j, B, r, h1, h2, h3, h4⟩ => by
    obtain ⟨es, k1, _⟩ := hblk j B h1
    exact ⟨j, _, r, k1, h2, h3, h4⟩
  have hzo : ∀ c, ZFr Z R h b c → Z c ∨ own R h c := fun c hc => hc.elim .inl fun ⟨B, r, h1, h2, h3, h4⟩ => .inr ⟨b, B, r, h1, h2, h3, h4.symm⟩
  refine ⟨ZFr Z R h b, R, ⟨⟨sr.hh.len.trans hlen, fun j B' hB' => ?_, fun j j' B B' r r' hB hf hB' hf' h1 h2 e => ?_, fun c hc => ?_⟩, ⟨?_, fun t x hx => ?_⟩, ?_, fun g x hx => (sr.gl g x hx).mono (fun _ _ => rfl) (fun _ h => .inl h) (fun _ _ h => h), sr.bs⟩, ⟨rfl, rfl, rfl, Nat.le_refl _, fun _ _ _ => rfl, fun c hc => .inl (hown c hc), fun _ h => .inl h, fun c hc => (hzo c hc).elim .inl (fun h => .inr (.inl h))⟩⟩
  · obtain ⟨es, k1, k2, k3⟩ := hblk j B' hB'
    obtain ⟨r, arr, us, g1, g2, g3, g4, g5, g6, g7, g8, g9, g10⟩ := sr.hh.blk j _ k1
    refine ⟨r, arr, us, g1, g2, g3, g4, by rw [← k2]; exact g5, g6, fun hf => .inl (g7 hf), fun hf hc => ?_, ⟨by rw [g9.len]; exact k2, fun i x' u hx hu => ?_⟩, g10⟩
    · rcases hc with hc | ⟨B, r2, q1, q2, q3, q4⟩
      · exact g8 hf hc
      · exact hne j B' B r2 hB' q1 q3 q2 hf r g1 q4
    · obtain ⟨x, q1, q2⟩ := k3 i x' hx
      exact q2.vr sr.hh (g9.at_ i x u q1 hu)
  · obtain ⟨es, k1, _⟩ := hblk j B hB
    obtain ⟨es', k1', _⟩ := hblk j' B' hB'
    exact sr.hh.inj j j' _ _ r r' k1 hf k1' hf' h1 h2 e
  · rcases hc with hc | ⟨B, r, q1, q2, q3, rfl⟩
    · exact sr.hh.zlt c hc
    · exact sr.hh.rltL q1 q3
  · rw [Fr_len]; have := sr.fr.1; rw [Fr_len] at this; exact this
  · rw [Fr_get] at hx
    split at hx
    · next ht =>
      injection hx with hx
      obtain ⟨y, h1, h2⟩ := hl.at_ t x hx
      exact h2.vr sr.hh (sr.fr.2 t y (by rw [Fr_get, if_pos ht, h1]))
    · cases hx
  · have : ∀ {D : List Deferred}, Mks base w Z R h D → Mks base w (ZFr Z R h b) R h' D := by
      intro D
      induction D with
      | nil => intro _; trivial
      | cons d D ih => exact fun ⟨⟨q, h1, h2, h3, h4, h5, h6⟩, hD⟩ => ⟨⟨q, h1, h2, h3, fun hc => (hzo q hc).elim h4 h5, fun ho => h5 (hown q ho), h6⟩, ih hD⟩
    exact this sr.mks
theorem fz_hd {h : Hp} {b k : Nat} {t : TypeId} {es : List AV} (hb : h[b]? = some (mk k t es)) (hn : ∀ x ∈ es, noRf2 x = true) : Fr1 h b (hd b es) (.sl k es) := by
  cases es with
  | nil => exact .inr (.inl ⟨rfl, k, rfl⟩)
  | cons x es => exact .inr (.inr ⟨_, 0, _, _, hb, rfl, hn, by simp, rfl, by simp⟩)
theorem fz_rl {h : Hp} {b k : Nat} {t : TypeId} {es : List AV} (hb : h[b]? = some (some ⟨k, t, es, false⟩)) (hn : ∀ x ∈ es, noRf2 x = true) : Fr1 h b (.rf b 0 es.length es.length) (.sl k es) :=
  .inr (.inr ⟨_, 0, _, _, hb, rfl, hn, by simp, rfl, by simp⟩)
theorem fz_e0 {h : Hp} {b k : Nat} : Fr1 h b .e0 (.sl k []) := .inr (.inl ⟨rfl, k, rfl⟩)

section
variable {P : Program} {h : Hp} {α : Type} {e : α → AV} {xs : List α}
theorem idx_at {i : Int} {v : α} (hv : idx xs i = some v) : 0 ≤ i ∧ xs[i.toNat]? = some v := by
  unfold idx at hv
  split at hv
  · next h0 => exact ⟨h0, hv⟩
  · cases hv
theorem ix_rf {t el : TypeId} {b k n m : Nat} {B : Blk} {ki : IntKind} {i : Int} (hu : P.underlying t = some (.slice el)) (hs : tySize P el = some k) (hb : h[b]? = some (some B)) (hk : B.k = k) (h0 : 0 ≤ i) (hn : i.toNat < n) : evIndexAddr P h t (.rf b 0 n m) (.v (.int ki i)) = some (.pt b i.toNat 0) := by
  unfold evIndexAddr
  simp only [intOfA]
  rw [if_neg (by omega), hu]
  simp only [hb]
  rw [if_pos ⟨hn, by rw [hs, hk]⟩, Nat.zero_add]
theorem ix_rl {t t' el : TypeId} {b k : Nat} {ki : IntKind} {i : Int} {v : α} (hu : P.underlying t = some (.slice el)) (hs : tySize P el = some k) (hb : h[b]? = some (some ⟨k, t', xs.map e, false⟩)) (hv : idx xs i = some v) : evIndexAddr P h t (.rf b 0 xs.length xs.length) (.v (.int ki i)) = some (.pt b i.toNat 0) := by
  obtain ⟨h0, h1⟩ := idx_at hv
  exact ix_rf hu hs hb rfl h0 (List.getElem?_eq_some_iff.1 h1).1
/-- What lies at an address of a typed block. -/
theorem ld_blk {t : TypeId} {b m : Nat} {g : Bool} {B : Blk} {i : Nat} {v : α} (hm : tySize P t = some m) (hg : tyAgg P t = some g) (hb : h[b]? = some (some B)) (hB : B.es = xs.map e) (hv : xs[i]? = some v) (he : getE (e v) 0 m g = some (e v)) : evLoad P h t (.pt b i 0) = some (e v) := by
  unfold evLoad
  simp only [hm, hg, hb, hB, List.getElem?_map, hv, Option.map_some]
  exact he
theorem st_blk {t t' : TypeId} {b k : Nat} {i : Nat} {v v' : α} (hb : h[b]? = some (some ⟨k, t', xs.map e, false⟩)) (hv : xs[i]? = some v) (hs : tySize P t = some (e v').nc) (hn : (e v').notTp = true) (he : setE (e v) 0 (e v') = some (e v')) : evStore P h t (.pt b i 0) (e v') = some (h.set b (some ⟨k, t', (xs.set i v').map e, false⟩)) := by
  unfold evStore
  simp only [hb, List.getElem?_map, hv, Option.map_some, Bool.false_eq_true, if_false]
  rw [if_pos ⟨hs, hn⟩, he, List.map_set]
  rfl
/-- Room for a slice that is made? -/
def mkOk (bytes : Nat) (n : Int) : Bool := decide (0 ≤ n) && decide ((bytes : Int) * n ≤ 140737488355328) && decide (n ≤ 140737488355328)
theorem mk_T {c : Cd α} {t el : TypeId} {k : Nat} {i : TypeInfo} {n : Int} {kn kc : IntKind} {z : α} (ht : tyElem P t = some el) (hi : P.info? el = some i) (hz : tyZero P el = some (c.enc z)) (hk : i.size = k) (hzn : (c.enc z).nc = k) (hzt : (c.enc z).notTp = true) {bytes : Nat} (hib : i.bytes = bytes) (hc : mkOk bytes n = true) :
    evMake P h t (.v (.int kn n)) (.v (.int kc n)) = some (.rf h.length 0 (List.replicate n.toNat z).length (List.replicate n.toNat z).length, h ++ [some ⟨k, el, (List.replicate n.toNat z).map c.enc, false⟩]) := by
  simp only [mkOk, Bool.and_eq_true, decide_eq_true_eq] at hc
  unfold evMake
  simp only [ht, intOfA, hi, hz]
  rw [if_pos ⟨trivial, hc.1.1, by rw [hib]; exact hc.1.2, hc.2, by rw [hk]; exact hzn, hzt⟩, hk]
  simp
theorem q_load {ρ : Operand → Option AV} {t : TypeId} {a : Operand} {p r : AV} (hp : ρ a = some p) (he : evLoad P h t p = some r) : evOpQ P ρ h (.load t a) = some r := by
  show (match ρ a with | some p => evLoad P h t p | none => none) = some r
  rw [hp]; exact he
theorem n_make {ρ : Operand → Option AV} {t : TypeId} {n c : Operand} {x y : AV} {r : AV × Hp} (hn : ρ n = some x) (hc : ρ c = some y) (he : evMake P h t x y = some r) : evOpN P ρ h (.makeSlice t n c) = some r := by
  show (match ρ n, ρ c with | some n, some c => evMake P h t n c | _, _ => none) = some r
  rw [hn, hc]; exact he
end

/-- What a call sees of an argument. -/
def Sn {α : Type} (h : Hp) (c : Cd α) (x : AV) (v : α) : Prop := ∃ y, view2 h x = some y ∧ c.dec y = some v
theorem view2_id {h : Hp} {x : AV} (hn : noRf2 x = true) : view2 h x = some x := by
  have := views_id (h := h) (xs := [x]) (by simp [hn])
  unfold views at this
  split at this
  · next y r h1 h2 =>
    unfold views at h2
    injection h2 with h2
    subst h2
    have := (List.cons.inj (Option.some.inj this)).1
    subst this
    exact h1
  · cases this
theorem Sn.enc {α : Type} {h : Hp} {c : Cd α} {v : α} : Sn h c (c.enc v) v := ⟨_, view2_id (c.nr v), c.de v⟩
theorem Sn.e0 {α : Type} {h : Hp} {c : Cd α} {k : Nat} : Sn h (cdL k c) .e0 [] := ⟨.e0, rfl, rfl⟩
theorem Sn.rl {α : Type} {h : Hp} {c : Cd α} {k b : Nat} {t : TypeId} {xs : List α} (hb : h[b]? = some (some ⟨k, t, xs.map c.enc, false⟩)) (hn : ∀ v, noRf (c.enc v) = true) : Sn h (cdL k c) (.rf b 0 xs.length xs.length) xs := by
  refine ⟨.sl k (xs.map c.enc), ?_, (cdL k c).de xs⟩
  show view1 h (.rf b 0 xs.length xs.length) = some (.sl k (xs.map c.enc))
  unfold view1
  simp only [hb]
  rw [if_pos ⟨by simp, by simp [hn]⟩]
  simp only [List.drop_zero]
  rw [List.take_of_length_le (by simp)]
theorem Sn.hd {α : Type} {h : Hp} {c : Cd α} {k b : Nat} {t : TypeId} {xs : List α} (hb : h[b]? = some (mk k t (xs.map c.enc))) (hn : ∀ v, noRf (c.enc v) = true) : Sn h (cdL k c) (hd b (xs.map c.enc)) xs := by
  cases xs with
  | nil => exact .e0
  | cons x xs =>
    have := Sn.rl (c := c) (xs := x :: xs) (b := b) (k := k) hb hn
    simpa [Go.Proofs.YtnmkejapogklmaaDoor.hd] using this
def Sns {α : Type} (h : Hp) (s : Cs α) (xs : List AV) (a : α) : Prop := ∃ ys, views h xs = some ys ∧ s.dec ys = some a
theorem Sns.nil {h : Hp} : Sns h csN [] () := ⟨[], rfl, rfl⟩
theorem Sns.cons {α β : Type} {h : Hp} {c : Cd α} {s : Cs β} {x : AV} {xs : List AV} {v : α} {a : β} (h1 : Sn h c x v) (h2 : Sns h s xs a) : Sns h (csC c s) (x :: xs) (v, a) := by
  obtain ⟨y, k1, k2⟩ := h1
  obtain ⟨ys, q1, q2⟩ := h2
  refine ⟨y :: ys, ?_, ?_⟩
  · unfold views; rw [k1, q1]
  · show ((c.dec y).bind fun x => (s.dec ys).map fun y => (x, y)) = _
    rw [k2, q2]; rfl
theorem Sns.enc {α : Type} {h : Hp} {s : Cs α} {a : α} : Sns h s (s.enc a) a := ⟨_, views_id (s.nr a), s.de a⟩
section
variable {E : Env} {cx : Cx} {ops : Array Oper} {n n0 : Nat} {l : List (Nat × AV)} {hp : Hp} {ih : IH} {α β : Type} {s : Cs α} {F : α → Option β} {er : β → AV} {a : α} {b : β} {xs : List AV}
theorem told_dec {ys : List AV} (hd : s.dec ys = some a) (hF : F a = some b) : told s F er ys = some (er b) := by
  unfold told; rw [hd, Option.bind_some, hF]; rfl
theorem callX2_told' (hv : Sns hp s xs a) (hok : xs.all noRf2 = true ∨ flatTp (er b) = true) (hF : F a = some b) : callX2 (told s F er) xs hp = some (er b, hp) := by
  obtain ⟨ys, hv, hd⟩ := hv
  unfold callX2
  split
  · next hn =>
    have : xs = ys := Option.some.inj ((views_id hn).symm.trans hv)
    rw [this, told_dec hd hF]; rfl
  · next hn =>
    unfold callX
    simp only [hv, told_dec hd hF]
    rw [if_pos (hok.resolve_left (fun h => hn h))]
theorem op_call {d : Nat} {f : Operand} {args : Array Operand} {tys : Array TypeId} {ty : TypeId} {pos : String} {af : Array Edge} {g : Option (Nat × Bool)} {fid : FuncId} (hw : wantedA ops (Fr n l) ⟨some d, .call ⟨.value f, args, tys⟩, ty, pos, af, g⟩ = some true)
    (hf : opA E (Fr n l) f = some (.fn fid [] [])) (hi : E.I fid = false) (hX : E.X fid = some (told s F er)) (ha : opds (opA E (Fr n l)) args.toList = some xs) (hv : Sns hp s xs a) (hok : xs.all noRf2 = true ∨ flatTp (er b) = true) (hF : F a = some b) : opsA E ih ⟨none, false⟩ ops [⟨some d, .call ⟨.value f, args, tys⟩, ty, pos, af, g⟩] ⟨Fr n l, hp⟩ = some ⟨Fr n ((d, er b) :: l), hp⟩ := by
  have e1 : evOpX E.P E.I (opA E (Fr n l)) hp (.call ⟨.value f, args, tys⟩) = none := by
    show (match opA E (Fr n l) f, opds (opA E (Fr n l)) args.toList with | some (.fn g [] []), some [x] => if E.I g then some x else none | _, _ => none) = none
    rw [hf, ha]
    split
    · next g x h1 _ =>
      injection h1 with h1
      injection h1 with h1
      subst h1
      rw [hi]; rfl
    · rfl
  have e2 : op1 E ih ⟨none, false⟩ ⟨some d, .call ⟨.value f, args, tys⟩, ty, pos, af, g⟩ ⟨Fr n l, hp⟩ = some ⟨Fr n ((d, er b) :: l), hp⟩ := by
    unfold op1
    simp only [evOpQ, evOpN, evOpW, e1, hf, ha, callA, hX, List.nil_append, List.append_nil, callX2_told' hv hok hF, Option.map_some, putA_Fr]
  unfold opsA
  rw [hw]
  simp only [e2]
  rfl
theorem opd_call {d : Nat} {f : Operand} {args : Array Operand} {tys : Array TypeId} {ty : TypeId} {pos : String} {af : Array Edge} {g : Option (Nat × Bool)} {fid : FuncId} (hw : wantedA ops (Fr n l) ⟨some d, .call ⟨.value f, args, tys⟩, ty, pos, af, g⟩ = some true)
    (hf : opA E (Fr n l) f = some (.fn fid [] [])) (hX : E.X fid = some (told s F er)) (ha : opds (opA E (Fr n l)) args.toList = some xs) (hv : Sns hp s xs a) (hfl : flatTp (er b) = true) (hF : F a = some b) : opsD E ih cx ops n0 [⟨some d, .call ⟨.value f, args, tys⟩, ty, pos, af, g⟩] ⟨Fr n l, hp⟩ = some ⟨Fr n ((d, er b) :: l), hp⟩ := by
  obtain ⟨ys, hv, hd⟩ := hv
  have e2 : callP E ih (.fn fid [] []) xs hp = some (er b, hp) := by
    simp only [callP, hv, hX, told_dec hd hF, hfl, if_true]
  unfold opsD
  simp only [isW, hw, evOpQ, evOpN, hf, ha, e2, putA_Fr, Bool.false_eq_true, if_false]
  rfl
end
end Go.Proofs.YtnmkejapogklmaaDoor

namespace Go.Proofs.YtnmkejapogklmaaDoor
open Go.RowKit

def BkUp (ι : List Nat) (o o' : Option Blk) : Prop := o' = none ∨ (o = o' ∧ ∀ B, o' = some B → ∀ x ∈ B.es, noRf2 x = true) ∨ ∃ k t fz es es', o = some ⟨k, t, es, fz⟩ ∧ o' = some ⟨k, t, es', fz⟩ ∧ es = es'.map (up ι) ∧ ∀ x ∈ es', flat2 x = true
def HpUp (ι : List Nat) (h : Hp) : List Nat → Hp → Prop
  | [], [] => True
  | b :: bs, o' :: r => (∃ o, h[b]? = some o ∧ BkUp ι o o') ∧ HpUp ι h bs r
  | _, _ => False
theorem HpUp.at_ {ι : List Nat} {h : Hp} : ∀ {bs : List Nat} {h' : Hp}, HpUp ι h bs h' → h'.length = bs.length ∧ ∀ (j : Nat) (B : Blk), h'[j]? = some (some B) → ∃ b, bs[j]? = some b ∧ h[b]? = some (some { B with es := B.es.map (up ι) }) ∧ ∀ x ∈ B.es, flat2 x = true
  | [], [], _ => ⟨rfl, fun j B hB => by simp at hB⟩
  | b :: bs, o' :: r, ⟨⟨o, h1, h2⟩, h3⟩ => by
    obtain ⟨k1, k2⟩ := h3.at_
    refine ⟨by simp [k1], fun j B hB => ?_⟩
    cases j with
    | zero =>
      simp at hB
      subst hB
      refine ⟨b, rfl, ?_⟩
      rcases h2 with h2 | ⟨rfl, h2⟩ | ⟨k, t, fz, es, es', rfl, h2, rfl, h4⟩
      · cases h2
      · have hx := h2 B rfl
        have hes : B.es.map (up ι) = B.es := by
          conv => rhs; rw [← List.map_id B.es]
          exact List.map_congr_left fun c hc => (up_noRf2 (hx c hc)).1
        exact ⟨by rw [hes]; exact h1, fun x hx' => (up_noRf2 (ι := ι) (hx x hx')).2⟩
      · have h2 := Option.some.inj h2
        subst h2
        exact ⟨h1, h4⟩
    | succ j => simpa using k2 j B (by simpa using hB)
  | [], _ :: _, h => h.elim
  | _ :: _, [], h => h.elim
/-- Only the blocks of ι stay, under new numbers. -/
theorem Wk.sel2 {E : Env} {n : Nat} {l l' : List (Nat × AV)} {h h' : Hp} (ι : List Nat) (hlt : (ι.all fun b => Nat.blt b h.length) = true) (hnd : ndB ι = true) (hbig : Nat.ble h.length 1000000000 = true) (hk : HpUp ι h ι h') (hl : LkUp ι l l') : Wk E ⟨Fr n l, h⟩ ⟨Fr n l', h'⟩ := by
  obtain ⟨k1, k2⟩ := hk.at_
  exact Wk.ren ι ⟨k1, fun i hi => Nat.le_of_ble_eq_true (List.all_eq_true.1 hlt i hi), ndB_inj hnd, k2, Nat.le_of_ble_eq_true hbig⟩ hl.at_
theorem bu_none {ι : List Nat} {o : Option Blk} : BkUp ι o none := .inl rfl
theorem bu_mk {ι : List Nat} {α : Type} {c : Cd α} {k : Nat} {t : TypeId} {xs : List α} : BkUp ι (mk k t (xs.map c.enc)) (mk k t (xs.map c.enc)) := .inr (.inl ⟨rfl, mk_ok enc_ok⟩)
theorem bu_own {ι : List Nat} {α : Type} {c : Cd α} {k : Nat} {t : TypeId} {fz : Bool} {xs : List α} : BkUp ι (some ⟨k, t, xs.map c.enc, fz⟩) (some ⟨k, t, xs.map c.enc, fz⟩) := .inr (.inl ⟨rfl, fun B hB => by injection hB with hB; subst hB; exact enc_ok⟩)
theorem bu_c {ι : List Nat} {k : Nat} {t : TypeId} {fz : Bool} {es es' : List AV} (h : es = es'.map (up ι)) (hf : es'.all flat2 = true) : BkUp ι (some ⟨k, t, es, fz⟩) (some ⟨k, t, es', fz⟩) := .inr (.inr ⟨k, t, fz, es, es', rfl, rfl, h, List.all_eq_true.1 hf⟩)
theorem lu {ι : List Nat} {l : List (Nat × AV)} {t : Nat} {x : AV} (h : lk l t = some (up ι x)) (hf : flat2 x = true) : lk l t = some (up ι x) ∧ flat2 x = true := ⟨h, hf⟩
theorem lu_hd {ι : List Nat} {l : List (Nat × AV)} {t b b' : Nat} {es : List AV} (h : lk l t = some (hd b' es)) (hb : ι.getD b 1000000000 = b') : lk l t = some (up ι (hd b es)) ∧ flat2 (hd b es) = true := ⟨by rw [h, (up_hd (ι := ι) (b := b)).1, hb], (up_hd (ι := ι) (b := b)).2⟩

theorem lu_rl {ι : List Nat} {l : List (Nat × AV)} {t b b' n n' : Nat} (h : lk l t = some (.rf b' 0 n n)) (hn : n = n') (hb : ι.getD b 1000000000 = b') : lk l t = some (up ι (.rf b 0 n' n')) ∧ flat2 (.rf b 0 n' n') = true := by
  subst hn
  exact ⟨by rw [h]; show _ = some (AV.rf (ι.getD b 1000000000) 0 n n); rw [hb], rfl⟩
theorem fz_rlT {α : Type} {c : Cd α} {xs : List α} {h : Hp} {b k : Nat} {t : TypeId} (hb : h[b]? = some (some ⟨k, t, xs.map c.enc, false⟩)) : Fr1 h b (.rf b 0 xs.length xs.length) (.sl k (xs.map c.enc)) := by
  have := fz_rl hb enc_ok
  rwa [List.length_map] at this
/-- Closed facts of types, as one check. -/
def apB (P : Program) (t el : TypeId) (k bytes : Nat) : Bool :=
  match tyElem P t, P.info? el, tyZero P el with
  | some e, some i, some z => Nat.beq e el && Nat.beq i.size k && Nat.blt 0 k && Nat.beq z.nc k && z.notTp && Nat.beq i.bytes bytes
  | _, _, _ => false
theorem apB_inv {P : Program} {t el : TypeId} {k bytes : Nat} (h : apB P t el k bytes = true) : ∃ i z, tyElem P t = some el ∧ P.info? el = some i ∧ tyZero P el = some z ∧ i.size = k ∧ 0 < k ∧ z.nc = k ∧ z.notTp = true ∧ i.bytes = bytes := by
  unfold apB at h
  split at h
  · next e i z h1 h2 h3 =>
    simp only [Bool.and_eq_true] at h
    obtain ⟨⟨⟨⟨⟨a1, a2⟩, a3⟩, a4⟩, a5⟩, a6⟩ := h
    exact ⟨i, z, by rw [h1, Nat.eq_of_beq_eq_true a1], h2, h3, Nat.eq_of_beq_eq_true a2, Nat.le_of_ble_eq_true a3, Nat.eq_of_beq_eq_true a4, a5, Nat.eq_of_beq_eq_true a6⟩
  · cases h
theorem append_B {α : Type} {c : Cd α} {xs vs : List α} {P : Program} {h : Hp} {t t2 el : TypeId} {k b bytes : Nat} {y : AV} (ha : apB P t el k bytes = true) (hs : srcOk P t2 y = true)
    (he : elems h k y = some (vs.map c.enc)) (hy : vs ≠ []) (hb : h[b]? = some (mk k el (xs.map c.enc))) (hc : capOk bytes (xs.length + vs.length) = true) :
    evAppend P h t t2 (hd b (xs.map c.enc)) y = some (hd h.length ((xs ++ vs).map c.enc), h.set b none ++ [mk k el ((xs ++ vs).map c.enc)]) := by
  obtain ⟨i, z, a1, a2, a3, a4, a5, a6, a7, a8⟩ := apB_inv ha
  exact append_T hs a1 a2 a3 a4 (Nat.ble_eq_true_of_le a5) a6 a7 he hy hb a8 hc
theorem make_B {P : Program} {h : Hp} {α : Type} {c : Cd α} {t el : TypeId} {k bytes : Nat} {n : Int} {kn kc : IntKind} {z : α} (ha : apB P t el k bytes = true) (hz : tyZero P el = some (c.enc z)) (hc : mkOk bytes n = true) :
    evMake P h t (.v (.int kn n)) (.v (.int kc n)) = some (.rf h.length 0 (List.replicate n.toNat z).length (List.replicate n.toNat z).length, h ++ [some ⟨k, el, (List.replicate n.toNat z).map c.enc, false⟩]) := by
  obtain ⟨i, z', a1, a2, a3, a4, a5, a6, a7, a8⟩ := apB_inv ha
  rw [hz] at a3
  injection a3 with a3
  subst a3
  exact mk_T a1 a2 hz a4 a6 a7 a8 hc
/-- Elements of an own slice. -/
theorem elems_hd {h : Hp} {k b : Nat} {t : TypeId} {es : List AV} (hb : h[b]? = some (mk k t es)) : elems h k (hd b es) = some es := by
  cases es with
  | nil => rfl
  | cons x es => simp [elems, hd, hb, mk]
/-- Cuts. -/
def cutOk (lo hi : Int) (n : Nat) : Bool := decide (0 ≤ lo) && decide (lo ≤ hi) && decide (hi ≤ n)
theorem cutOk_inv {lo hi : Int} {n : Nat} (h : cutOk lo hi n = true) : 0 ≤ lo ∧ 0 ≤ hi ∧ lo.toNat ≤ hi.toNat ∧ hi.toNat ≤ n := by
  simp only [cutOk, Bool.and_eq_true, decide_eq_true_eq] at h
  omega
theorem slice_sl {P : Program} {h : Hp} {α : Type} {e : α → AV} {xs : List α} {t el : TypeId} {k : Nat} {lo hi : Int} {a b : Option AV} (hu : P.underlying t = some (.slice el)) (hs : tySize P el = some k) (ha : natB a 0 = some lo.toNat) (hb : natB b xs.length = some hi.toNat) (hc : cutOk lo hi xs.length = true) :
    evSlice P h t (.sl k (xs.map e)) a b none = some (.sl k (((xs.take hi.toNat).drop lo.toNat).map e)) := by
  obtain ⟨_, _, h1, h2⟩ := cutOk_inv hc
  unfold evSlice
  simp only [hu, List.length_map, ha, hb]
  rw [show natB none xs.length = some xs.length from rfl]
  simp only
  rw [if_pos ⟨h1, h2, Nat.le_refl _, .inl rfl, hs⟩]
  simp
theorem natB_i {k : IntKind} {n : Int} {d : Nat} (h : 0 ≤ n) : natB (some (.v (.int k n))) d = some n.toNat := by
  simp only [natB]; rw [if_neg (by omega)]
theorem cut_hi {lo hi : Int} {n : Nat} (h : cutOk lo hi n = true) : 0 ≤ hi := (cutOk_inv h).2.1
theorem q_slice {P : Program} {h : Hp} {ρ : Operand → Option AV} {t : TypeId} {x : Operand} {lo hi mx : Option Operand} {a r : AV} {l u m : Option AV} (hx : ρ x = some a) (hl : opdo ρ lo = some l) (hh : opdo ρ hi = some u) (hm : opdo ρ mx = some m) (he : evSlice P h t a l u m = some r) : evOpQ P ρ h (.slice t x lo hi mx) = some r := by
  show (match ρ x, opdo ρ lo, opdo ρ hi, opdo ρ mx with | some x, some lo, some hi, some mx => evSlice P h t x lo hi mx | _, _, _, _ => none) = some r
  rw [hx, hl, hh, hm]; exact he
section
variable {E : Env} {ops : Array Oper} {rest rest' : List Oper} {K : St → Prop} {n n0 k : Nat} {l : List (Nat × AV)} {hp hp' : Hp} {α β : Type} {s : Cs α} {F : α → Option β} {er : β → AV} {a : α} {b : β} {xs : List AV}
theorem RunS.call (hE : EnvOk E) {d : Nat} {f : Operand} {args : Array Operand} {tys : Array TypeId} {ty : TypeId} {pos : String} {af : Array Edge} {g : Option (Nat × Bool)} {fid : FuncId} (hr : rest = ⟨some d, .call ⟨.value f, args, tys⟩, ty, pos, af, g⟩ :: rest') (hw : wantedA ops (Fr n l) ⟨some d, .call ⟨.value f, args, tys⟩, ty, pos, af, g⟩ = some true)
    (hf : opA E (Fr n l) f = some (.fn fid [] [])) (hi : E.I fid = false) (hX : E.X fid = some (told s F er)) (ha : opds (opA E (Fr n l)) args.toList = some xs) (hv : Sns hp s xs a) (hok : xs.all noRf2 = true ∨ flatTp (er b) = true) (hF : F a = some b) (k : RunS E ops rest' ⟨Fr n ((d, er b) :: l), hp⟩ K) : RunS E ops rest ⟨Fr n l, hp⟩ K :=
  RunS.one hE 0 hr (op_call hw hf hi hX ha hv hok hF) k
theorem RunDS.call (hE : EnvOk E) {d : Nat} {f : Operand} {args : Array Operand} {tys : Array TypeId} {ty : TypeId} {pos : String} {af : Array Edge} {g : Option (Nat × Bool)} {fid : FuncId} (hr : rest = ⟨some d, .call ⟨.value f, args, tys⟩, ty, pos, af, g⟩ :: rest') (hw : wantedA ops (Fr n l) ⟨some d, .call ⟨.value f, args, tys⟩, ty, pos, af, g⟩ = some true)
    (hf : opA E (Fr n l) f = some (.fn fid [] [])) (hX : E.X fid = some (told s F er)) (ha : opds (opA E (Fr n l)) args.toList = some xs) (hv : Sns hp s xs a) (hfl : flatTp (er b) = true) (hF : F a = some b) (kk : RunDS E ops n0 (k + 1) rest' ⟨Fr n ((d, er b) :: l), hp⟩ K) : RunDS E ops n0 k rest ⟨Fr n l, hp⟩ K :=
  RunDS.one hE hr rfl (opd_call hw hf hX ha hv hfl hF) kk
theorem RunS.store (hE : EnvOk E) {t : TypeId} {p q : Operand} {y z : AV} {ty : TypeId} {pos : String} {af : Array Edge} {g : Option (Nat × Bool)} (hr : rest = ⟨none, .store t p q, ty, pos, af, g⟩ :: rest') (hw : wantedA ops (Fr n l) ⟨none, .store t p q, ty, pos, af, g⟩ = some true) (hp1 : opA E (Fr n l) p = some y) (hq1 : opA E (Fr n l) q = some z) (h : evStore E.P hp t y z = some hp') (k : RunS E ops rest' ⟨Fr n l, hp'⟩ K) : RunS E ops rest ⟨Fr n l, hp⟩ K :=
  RunS.one hE 0 hr (op_st hw hp1 hq1 h) k
/-- Slots that are wanted further on; the others are forgotten. -/
def getAll (fr : List (Option AV)) : List (Nat × AV) → List (Option (Option AV))
  | [] => []
  | (t, _) :: r => fr[t]? :: getAll fr r
def xs2 : List (Nat × AV) → List (Option (Option AV))
  | [] => []
  | (_, x) :: r => some (some x) :: xs2 r
theorem getAll_lk {fr : List (Option AV)} : ∀ {l : List (Nat × AV)}, getAll fr l = xs2 l → ∀ {t : Nat} {x : AV}, lk l t = some x → fr[t]? = some (some x)
  | [], _, t, x, h => by cases h
  | (k, y) :: r, hg, t, x, h => by
    injection hg with h1 h2
    rw [lk_put] at h
    split at h
    · next e => injection h with h; subst e h; exact h1
    · exact getAll_lk h2 h
theorem SR.forget {base : Nat} {w : World} {Z : Nat → Prop} {R : List RI} {a : Act} {fr : List (Option AV)} (sr : SR E base w Z R ⟨fr, hp⟩ a) (hl : fr.length = n) (hg : getAll fr l = xs2 l) : SR E base w Z R ⟨Fr n l, hp⟩ a := by
  refine ⟨sr.hh, ⟨?_, fun t x hx => sr.fr.2 t x ?_⟩, sr.mks, sr.gl, sr.bs⟩
  · rw [Fr_len, ← hl]; exact sr.fr.1
  · rw [Fr_get] at hx
    split at hx
    · injection hx with hx; exact getAll_lk hg hx
    · cases hx
def segB (o : Option St) (l : List (Nat × AV)) : Option (Nat × List (Option (Option AV)) × Hp) := match o with
  | some s => some (s.fr.length, getAll s.fr l, s.hp)
  | none => none
theorem segB_inv {o : Option St} (h : segB o l = some (n, xs2 l, hp)) : ∃ fr, o = some ⟨fr, hp⟩ ∧ fr.length = n ∧ getAll fr l = xs2 l := by
  unfold segB at h
  split at h
  · next s =>
    injection h with h
    injection h with h1 h2
    injection h2 with h2 h3
    subst h3
    exact ⟨s.fr, rfl, h1, h2⟩
  · cases h
theorem RunS.segF (hE : EnvOk E) (m : Nat) {s : St} (l : List (Nat × AV)) (hp : Hp) (h : segB (opsA E (evC E 0) ⟨none, false⟩ ops (rest.take m) s) l = some (n, xs2 l, hp)) (k : RunS E ops (rest.drop m) ⟨Fr n l, hp⟩ K) : RunS E ops rest s K := by
  obtain ⟨fr, h1, h2, h3⟩ := segB_inv h
  refine RunS.seg hE m h1 ?_
  exact fun base Q a w Z R sr q => k base Q a w Z R (sr.forget h2 h3) q
theorem RunDS.segF (hE : EnvOk E) (m : Nat) {s : St} (l : List (Nat × AV)) (hp : Hp) (hw : ((rest.take m).all fun o => !isW o.op) = true) (h : segB (opsD E (evC E 0) ⟨none, false⟩ ops n0 (rest.take m) s) l = some (n, xs2 l, hp)) (kk : RunDS E ops n0 (k + (rest.take m).length) (rest.drop m) ⟨Fr n l, hp⟩ K) : RunDS E ops n0 k rest s K := by
  obtain ⟨fr, h1, h2, h3⟩ := segB_inv h
  refine RunDS.seg hE m hw h1 ?_
  exact fun base Q w0 Z R0 h0 a w R a1 a2 a3 sr a5 a6 a7 a8 a9 a10 q => kk base Q w0 Z R0 h0 a w R a1 a2 a3 (sr.forget h2 h3) a5 a6 a7 a8 a9 a10 q
end
section
variable {E : Env} {cx : Cx} {c : Code} {s s1 : St} {Q P : Ex → St → Prop}
theorem Sem.part (h : Sem E cx c s P) (k : ∀ e s', P e s' → ∃ s2, Wk E s' s2 ∧ Q e s2) : Sem E cx c s Q := Sem.wkQ (Sem.mono h k)
end
end Go.Proofs.YtnmkejapogklmaaDoor

namespace Go.Proofs.YtnmkejapogklmaaDoor
open Go.RowKit Go.ChangeShapes Go.WideShapes Go.Deep

/-- What a reading of a cell says. -/
structure Rg {α : Type} (P : Program) (c : Cd α) (t : TypeId) (good : α → Prop) : Prop where
  rd : ∀ {H : Type} {enc : TypeId × Value → H} {w : World} {base : Nat} {spare : Nat → Bool} {held : Bool} {fuel : Nat} {v : Value} {x : DataW H × List MemPlace}, DataW.trod enc P w base spare held fuel t [v] = some x → (DataW.weights P t x.1).all (· ≤ reachBytes) = true → ∃ a, VR w (fun c => c < w.heap.size) [] (c.enc a) v ∧ good a ∧ v.oneCell' = true
theorem rd_int {P : Program} {t : TypeId} {k : IntKind} (ht : P.underlying t = some (.int k)) : Rg P (cdK k) t (fun n => (Lit.int k n).wf = true) := ⟨fun h _ => by
  obtain ⟨n, h1, _, h3⟩ := DataW.trod_int ht h
  injection h1 with h1
  subst h1
  exact ⟨n, .v rfl, h3, rfl⟩⟩
theorem oneCell_cells {v : Value} (h : v.oneCell' = true) : v.cells = #[v] := by cases v <;> first | rfl | (simp [Value.oneCell'] at h)
/-- An argument of one cell. -/
theorem rd_arg {α : Type} {H : Type} {enc : TypeId × Value → H} {P : Program} {c : Cd α} {t : TypeId} {good : α → Prop} (r : Rg P c t good) {w : World} {base : Nat} {spare : Nat → Bool} {held : Bool} {v : Value} {d : DataW H} {ps : List MemPlace} (ho : v.oneCell' = true) (h : DataW.Trod enc P w base spare held t v d ps)
    {ts : List TypeId} {ds : List (DataW H)} (hs : (DataW.weightsEach P ts ds).all (· ≤ reachBytes) = true) {j : Nat} (ht : ts[j]? = some t) (hd : ds[j]? = some d) : ∃ a, VR w (fun c => c < w.heap.size) [] (c.enc a) v ∧ good a := by
  obtain ⟨fuel, hf⟩ := h
  rw [oneCell_cells ho] at hf
  obtain ⟨a, h1, h2, _⟩ := r.rd hf (List.all_eq_true.2 fun n hn => List.all_eq_true.1 hs n (DataW.weights_mem_each ht hd n hn))
  exact ⟨a, h1, h2⟩
theorem one_int {P : Program} {w : World} {r : Reach} {b : Nat} {t : TypeId} {k : IntKind} {v : Value} (ht : P.underlying t = some (.int k)) (h : Value.okWide P w r b t v) : v.oneCell' = true := by
  obtain ⟨a, rfl⟩ := okWide_int ht h; rfl
end Go.Proofs.YtnmkejapogklmaaDoor

namespace Go.Proofs.YtnmkejapogklmaaDoor
open Go.ChangeShapes Go.WideShapes Go.ChangeAt Go.RowKit
def cellsOfData {H : Type} : DataW H → Array Value
  | .agg xs => (xs.map fun
    | .lit (.int k n) => Value.int k n
    | _ => .bool false).toArray
  | _ => #[]
def putCells (vs : Array Value) : Obj → Obj
  | .cells _ t frozen => .cells vs t frozen
  | o => o
noncomputable def laidWorld (os : Os) : World :=
  { World.holding Tryd.prog os ⟨#[], #[], []⟩ with heap := (((World.holding Tryd.prog os ⟨#[], #[], []⟩).heap.modify 0 (putCells (cellsOfData (Rows.laid_internal_strconv_uint64pow10 (H := Unit))))).modify 1 (putCells (cellsOfData (Rows.laid_math_bits_deBruijn32tab (H := Unit))))).modify 2 (putCells (cellsOfData (Rows.laid_math_bits_deBruijn64tab (H := Unit)))) }
theorem ownKnob0 : ownKnob Tryd.prog.godebug = none := by kernel_rfl
theorem laidOut : laidOutB Tryd.prog = true := by kernel_rfl
theorem mem_of_laid {x : TypeId} {l : List TypeId} (p : TypeId → Bool) (h : l.all p = true) (hx : x ∈ l) : p x = true := List.all_eq_true.1 h x hx
end Go.Proofs.YtnmkejapogklmaaDoor

namespace Go.Proofs.YtnmkejapogklmaaDoor
open Go.RowKit
noncomputable def fnT : Nat → Option Func
  | 2 => some Tryd.f2
  | 3 => some Tryd.f3
  | 4 => some Tryd.f4
  | 5 => some Tryd.f5
  | 6 => some Tryd.f6
  | 7 => some Tryd.f7
  | 8 => some Tryd.f8
  | 9 => some Tryd.f9
  | 10 => some Tryd.f10
  | 11 => some Tryd.f11
  | 12 => some Tryd.f12
  | 13 => some Tryd.f13
  | 14 => some Tryd.f14
  | 15 => some Tryd.f15
  | 16 => some Tryd.f16
  | 17 => some Tryd.f17
  | 18 => some Tryd.f18
  | 19 => some Tryd.f19
  | 20 => some Tryd.f20
  | 21 => some Tryd.f21
  | 22 => some Tryd.f22
  | 23 => some Tryd.f23
  | 24 => some Tryd.f24
  | 25 => some Tryd.f25
  | 26 => some Tryd.f26
  | 27 => some Tryd.f27
  | 28 => some Tryd.f28
  | 29 => some Tryd.f29
  | 30 => some Tryd.f30
  | 31 => some Tryd.f31
  | 32 => some Tryd.f32
  | 33 => some Tryd.f33
  | 34 => some Tryd.f34
  | 35 => some Tryd.f35
  | 36 => some Tryd.f36
  | 37 => some Tryd.f37
  | 38 => some Tryd.f38
  | 39 => some Tryd.f39
  | 40 => some Tryd.f40
  | 41 => some Tryd.f41
  | 42 => some Tryd.f42
  | 43 => some Tryd.f43
  | 44 => some Tryd.f44
  | 45 => some Tryd.f45
  | 46 => some Tryd.f46
  | 47 => some Tryd.f47
  | 48 => some Tryd.f48
  | 49 => some Tryd.f49
  | 50 => some Tryd.f50
  | 51 => some Tryd.f51
  | 52 => some Tryd.f52
  | 53 => some Tryd.f53
  | 54 => some Tryd.f54
  | 55 => some Tryd.f55
  | 56 => some Tryd.f56
  | 57 => some Tryd.f57
  | 58 => some Tryd.f58
  | 59 => some Tryd.f59
  | 60 => some Tryd.f60
  | 61 => some Tryd.f61
  | 62 => some Tryd.f62
  | 63 => some Tryd.f63
  | 64 => some Tryd.f64
  | 65 => some Tryd.f65
  | 66 => some Tryd.f66
  | 67 => some Tryd.f67
  | 68 => some Tryd.f68
  | 69 => some Tryd.f69
  | 70 => some Tryd.f70
  | 71 => some Tryd.f71
  | 72 => some Tryd.f72
  | 73 => some Tryd.f73
  | 74 => some Tryd.f74
  | 75 => some Tryd.f75
  | 76 => some Tryd.f76
  | 77 => some Tryd.f77
  | 78 => some Tryd.f78
  | 80 => some Tryd.f80
  | 81 => some Tryd.f81
  | 82 => some Tryd.f82
  | 84 => some Tryd.f84
  | 85 => some Tryd.f85
  | 86 => some Tryd.f86
  | 87 => some Tryd.f87
  | 88 => some Tryd.f88
  | 89 => some Tryd.f89
  | 90 => some Tryd.f90
  | 91 => some Tryd.f91
  | 114 => some Tryd.f114
  | _ => none
def idT : Nat → Bool
  | 79 => true
  | _ => false
noncomputable def E0 : Env := ⟨Tryd.prog, fnT, fun _ => none, fun _ => none, idT⟩
def bodyOk (fn : Func) : Bool := match fn.body with
  | some c => drawOk c
  | none => false
theorem bodyOk_inv {fn : Func} (h : bodyOk fn = true) : ∀ c, fn.body = some c → drawOk c = true := fun c hc => by unfold bodyOk at h; rw [hc] at h; exact h
theorem dk2 : bodyOk Tryd.f2 = true := by kernel_rfl
theorem dk3 : bodyOk Tryd.f3 = true := by kernel_rfl
theorem dk4 : bodyOk Tryd.f4 = true := by kernel_rfl
theorem dk5 : bodyOk Tryd.f5 = true := by kernel_rfl
theorem dk6 : bodyOk Tryd.f6 = true := by kernel_rfl
theorem dk7 : bodyOk Tryd.f7 = true := by kernel_rfl
theorem dk8 : bodyOk Tryd.f8 = true := by kernel_rfl
theorem dk9 : bodyOk Tryd.f9 = true := by kernel_rfl
theorem dk10 : bodyOk Tryd.f10 = true := by kernel_rfl
theorem dk11 : bodyOk Tryd.f11 = true := by kernel_rfl
theorem dk12 : bodyOk Tryd.f12 = true := by kernel_rfl
theorem dk13 : bodyOk Tryd.f13 = true := by kernel_rfl
theorem dk14 : bodyOk Tryd.f14 = true := by kernel_rfl
theorem dk15 : bodyOk Tryd.f15 = true := by kernel_rfl
theorem dk16 : bodyOk Tryd.f16 = true := by kernel_rfl
theorem dk17 : bodyOk Tryd.f17 = true := by kernel_rfl
theorem dk18 : bodyOk Tryd.f18 = true := by kernel_rfl
theorem dk19 : bodyOk Tryd.f19 = true := by kernel_rfl
theorem dk20 : bodyOk Tryd.f20 = true := by kernel_rfl
theorem dk21 : bodyOk Tryd.f21 = true := by kernel_rfl
theorem dk22 : bodyOk Tryd.f22 = true := by kernel_rfl
theorem dk23 : bodyOk Tryd.f23 = true := by kernel_rfl
theorem dk24 : bodyOk Tryd.f24 = true := by kernel_rfl
theorem dk25 : bodyOk Tryd.f25 = true := by kernel_rfl
theorem dk26 : bodyOk Tryd.f26 = true := by kernel_rfl
theorem dk27 : bodyOk Tryd.f27 = true := by kernel_rfl
theorem dk28 : bodyOk Tryd.f28 = true := by kernel_rfl
theorem dk29 : bodyOk Tryd.f29 = true := by kernel_rfl
theorem dk30 : bodyOk Tryd.f30 = true := by kernel_rfl
theorem dk31 : bodyOk Tryd.f31 = true := by kernel_rfl
theorem dk32 : bodyOk Tryd.f32 = true := by kernel_rfl
theorem dk33 : bodyOk Tryd.f33 = true := by kernel_rfl
theorem dk34 : bodyOk Tryd.f34 = true := by kernel_rfl
theorem dk35 : bodyOk Tryd.f35 = true := by kernel_rfl
theorem dk36 : bodyOk Tryd.f36 = true := by kernel_rfl
theorem dk37 : bodyOk Tryd.f37 = true := by kernel_rfl
theorem dk38 : bodyOk Tryd.f38 = true := by kernel_rfl
theorem dk39 : bodyOk Tryd.f39 = true := by kernel_rfl
theorem dk40 : bodyOk Tryd.f40 = true := by kernel_rfl
theorem dk41 : bodyOk Tryd.f41 = true := by kernel_rfl
theorem dk42 : bodyOk Tryd.f42 = true := by kernel_rfl
theorem dk43 : bodyOk Tryd.f43 = true := by kernel_rfl
theorem dk44 : bodyOk Tryd.f44 = true := by kernel_rfl
theorem dk45 : bodyOk Tryd.f45 = true := by kernel_rfl
theorem dk46 : bodyOk Tryd.f46 = true := by kernel_rfl
theorem dk47 : bodyOk Tryd.f47 = true := by kernel_rfl
theorem dk48 : bodyOk Tryd.f48 = true := by kernel_rfl
theorem dk49 : bodyOk Tryd.f49 = true := by kernel_rfl
theorem dk50 : bodyOk Tryd.f50 = true := by kernel_rfl
theorem dk51 : bodyOk Tryd.f51 = true := by kernel_rfl
theorem dk52 : bodyOk Tryd.f52 = true := by kernel_rfl
theorem dk53 : bodyOk Tryd.f53 = true := by kernel_rfl
theorem dk54 : bodyOk Tryd.f54 = true := by kernel_rfl
theorem dk55 : bodyOk Tryd.f55 = true := by kernel_rfl
theorem dk56 : bodyOk Tryd.f56 = true := by kernel_rfl
theorem dk57 : bodyOk Tryd.f57 = true := by kernel_rfl
theorem dk58 : bodyOk Tryd.f58 = true := by kernel_rfl
theorem dk59 : bodyOk Tryd.f59 = true := by kernel_rfl
theorem dk60 : bodyOk Tryd.f60 = true := by kernel_rfl
theorem dk61 : bodyOk Tryd.f61 = true := by kernel_rfl
theorem dk62 : bodyOk Tryd.f62 = true := by kernel_rfl
theorem dk63 : bodyOk Tryd.f63 = true := by kernel_rfl
theorem dk64 : bodyOk Tryd.f64 = true := by kernel_rfl
theorem dk65 : bodyOk Tryd.f65 = true := by kernel_rfl
theorem dk66 : bodyOk Tryd.f66 = true := by kernel_rfl
theorem dk67 : bodyOk Tryd.f67 = true := by kernel_rfl
theorem dk68 : bodyOk Tryd.f68 = true := by kernel_rfl
theorem dk69 : bodyOk Tryd.f69 = true := by kernel_rfl
theorem dk70 : bodyOk Tryd.f70 = true := by kernel_rfl
theorem dk71 : bodyOk Tryd.f71 = true := by kernel_rfl
theorem dk72 : bodyOk Tryd.f72 = true := by kernel_rfl
theorem dk73 : bodyOk Tryd.f73 = true := by kernel_rfl
theorem dk74 : bodyOk Tryd.f74 = true := by kernel_rfl
theorem dk75 : bodyOk Tryd.f75 = true := by kernel_rfl
theorem dk76 : bodyOk Tryd.f76 = true := by kernel_rfl
theorem dk77 : bodyOk Tryd.f77 = true := by kernel_rfl
theorem dk78 : bodyOk Tryd.f78 = true := by kernel_rfl
theorem dk80 : bodyOk Tryd.f80 = true := by kernel_rfl
theorem dk81 : bodyOk Tryd.f81 = true := by kernel_rfl
theorem dk82 : bodyOk Tryd.f82 = true := by kernel_rfl
theorem dk84 : bodyOk Tryd.f84 = true := by kernel_rfl
theorem dk85 : bodyOk Tryd.f85 = true := by kernel_rfl
theorem dk86 : bodyOk Tryd.f86 = true := by kernel_rfl
theorem dk87 : bodyOk Tryd.f87 = true := by kernel_rfl
theorem dk88 : bodyOk Tryd.f88 = true := by kernel_rfl
theorem dk89 : bodyOk Tryd.f89 = true := by kernel_rfl
theorem dk90 : bodyOk Tryd.f90 = true := by kernel_rfl
theorem dk91 : bodyOk Tryd.f91 = true := by kernel_rfl
theorem dk114 : bodyOk Tryd.f114 = true := by kernel_rfl
theorem fk2 : Tryd.prog.funcs[2]? = some Tryd.f2 := Tryd.func2
theorem fk3 : Tryd.prog.funcs[3]? = some Tryd.f3 := Tryd.func3
theorem fk4 : Tryd.prog.funcs[4]? = some Tryd.f4 := Tryd.func4
theorem fk5 : Tryd.prog.funcs[5]? = some Tryd.f5 := Tryd.func5
theorem fk6 : Tryd.prog.funcs[6]? = some Tryd.f6 := Tryd.func6
theorem fk7 : Tryd.prog.funcs[7]? = some Tryd.f7 := Tryd.func7
theorem fk8 : Tryd.prog.funcs[8]? = some Tryd.f8 := Tryd.func8
theorem fk9 : Tryd.prog.funcs[9]? = some Tryd.f9 := Tryd.func9
theorem fk10 : Tryd.prog.funcs[10]? = some Tryd.f10 := Tryd.func10
theorem fk11 : Tryd.prog.funcs[11]? = some Tryd.f11 := Tryd.func11
theorem fk12 : Tryd.prog.funcs[12]? = some Tryd.f12 := Tryd.func12
theorem fk13 : Tryd.prog.funcs[13]? = some Tryd.f13 := Tryd.func13
theorem fk14 : Tryd.prog.funcs[14]? = some Tryd.f14 := Tryd.func14
theorem fk15 : Tryd.prog.funcs[15]? = some Tryd.f15 := Tryd.func15
theorem fk16 : Tryd.prog.funcs[16]? = some Tryd.f16 := Tryd.func16
theorem fk17 : Tryd.prog.funcs[17]? = some Tryd.f17 := Tryd.func17
theorem fk18 : Tryd.prog.funcs[18]? = some Tryd.f18 := Tryd.func18
theorem fk19 : Tryd.prog.funcs[19]? = some Tryd.f19 := Tryd.func19
theorem fk20 : Tryd.prog.funcs[20]? = some Tryd.f20 := Tryd.func20
theorem fk21 : Tryd.prog.funcs[21]? = some Tryd.f21 := Tryd.func21
theorem fk22 : Tryd.prog.funcs[22]? = some Tryd.f22 := Tryd.func22
theorem fk23 : Tryd.prog.funcs[23]? = some Tryd.f23 := Tryd.func23
theorem fk24 : Tryd.prog.funcs[24]? = some Tryd.f24 := Tryd.func24
theorem fk25 : Tryd.prog.funcs[25]? = some Tryd.f25 := Tryd.func25
theorem fk26 : Tryd.prog.funcs[26]? = some Tryd.f26 := Tryd.func26
theorem fk27 : Tryd.prog.funcs[27]? = some Tryd.f27 := Tryd.func27
theorem fk28 : Tryd.prog.funcs[28]? = some Tryd.f28 := Tryd.func28
theorem fk29 : Tryd.prog.funcs[29]? = some Tryd.f29 := Tryd.func29
theorem fk30 : Tryd.prog.funcs[30]? = some Tryd.f30 := Tryd.func30
theorem fk31 : Tryd.prog.funcs[31]? = some Tryd.f31 := Tryd.func31
theorem fk32 : Tryd.prog.funcs[32]? = some Tryd.f32 := Tryd.func32
theorem fk33 : Tryd.prog.funcs[33]? = some Tryd.f33 := Tryd.func33
theorem fk34 : Tryd.prog.funcs[34]? = some Tryd.f34 := Tryd.func34
theorem fk35 : Tryd.prog.funcs[35]? = some Tryd.f35 := Tryd.func35
theorem fk36 : Tryd.prog.funcs[36]? = some Tryd.f36 := Tryd.func36
theorem fk37 : Tryd.prog.funcs[37]? = some Tryd.f37 := Tryd.func37
theorem fk38 : Tryd.prog.funcs[38]? = some Tryd.f38 := Tryd.func38
theorem fk39 : Tryd.prog.funcs[39]? = some Tryd.f39 := Tryd.func39
theorem fk40 : Tryd.prog.funcs[40]? = some Tryd.f40 := Tryd.func40
theorem fk41 : Tryd.prog.funcs[41]? = some Tryd.f41 := Tryd.func41
theorem fk42 : Tryd.prog.funcs[42]? = some Tryd.f42 := Tryd.func42
theorem fk43 : Tryd.prog.funcs[43]? = some Tryd.f43 := Tryd.func43
theorem fk44 : Tryd.prog.funcs[44]? = some Tryd.f44 := Tryd.func44
theorem fk45 : Tryd.prog.funcs[45]? = some Tryd.f45 := Tryd.func45
theorem fk46 : Tryd.prog.funcs[46]? = some Tryd.f46 := Tryd.func46
theorem fk47 : Tryd.prog.funcs[47]? = some Tryd.f47 := Tryd.func47
theorem fk48 : Tryd.prog.funcs[48]? = some Tryd.f48 := Tryd.func48
theorem fk49 : Tryd.prog.funcs[49]? = some Tryd.f49 := Tryd.func49
theorem fk50 : Tryd.prog.funcs[50]? = some Tryd.f50 := Tryd.func50
theorem fk51 : Tryd.prog.funcs[51]? = some Tryd.f51 := Tryd.func51
theorem fk52 : Tryd.prog.funcs[52]? = some Tryd.f52 := Tryd.func52
theorem fk53 : Tryd.prog.funcs[53]? = some Tryd.f53 := Tryd.func53
theorem fk54 : Tryd.prog.funcs[54]? = some Tryd.f54 := Tryd.func54
theorem fk55 : Tryd.prog.funcs[55]? = some Tryd.f55 := Tryd.func55
theorem fk56 : Tryd.prog.funcs[56]? = some Tryd.f56 := Tryd.func56
theorem fk57 : Tryd.prog.funcs[57]? = some Tryd.f57 := Tryd.func57
theorem fk58 : Tryd.prog.funcs[58]? = some Tryd.f58 := Tryd.func58
theorem fk59 : Tryd.prog.funcs[59]? = some Tryd.f59 := Tryd.func59
theorem fk60 : Tryd.prog.funcs[60]? = some Tryd.f60 := Tryd.func60
theorem fk61 : Tryd.prog.funcs[61]? = some Tryd.f61 := Tryd.func61
theorem fk62 : Tryd.prog.funcs[62]? = some Tryd.f62 := Tryd.func62
theorem fk63 : Tryd.prog.funcs[63]? = some Tryd.f63 := Tryd.func63
theorem fk64 : Tryd.prog.funcs[64]? = some Tryd.f64 := Tryd.func64
theorem fk65 : Tryd.prog.funcs[65]? = some Tryd.f65 := Tryd.func65
theorem fk66 : Tryd.prog.funcs[66]? = some Tryd.f66 := Tryd.func66
theorem fk67 : Tryd.prog.funcs[67]? = some Tryd.f67 := Tryd.func67
theorem fk68 : Tryd.prog.funcs[68]? = some Tryd.f68 := Tryd.func68
theorem fk69 : Tryd.prog.funcs[69]? = some Tryd.f69 := Tryd.func69
theorem fk70 : Tryd.prog.funcs[70]? = some Tryd.f70 := Tryd.func70
theorem fk71 : Tryd.prog.funcs[71]? = some Tryd.f71 := Tryd.func71
theorem fk72 : Tryd.prog.funcs[72]? = some Tryd.f72 := Tryd.func72
theorem fk73 : Tryd.prog.funcs[73]? = some Tryd.f73 := Tryd.func73
theorem fk74 : Tryd.prog.funcs[74]? = some Tryd.f74 := Tryd.func74
theorem fk75 : Tryd.prog.funcs[75]? = some Tryd.f75 := Tryd.func75
theorem fk76 : Tryd.prog.funcs[76]? = some Tryd.f76 := Tryd.func76
theorem fk77 : Tryd.prog.funcs[77]? = some Tryd.f77 := Tryd.func77
theorem fk78 : Tryd.prog.funcs[78]? = some Tryd.f78 := Tryd.func78
theorem fk80 : Tryd.prog.funcs[80]? = some Tryd.f80 := Tryd.func80
theorem fk81 : Tryd.prog.funcs[81]? = some Tryd.f81 := Tryd.func81
theorem fk82 : Tryd.prog.funcs[82]? = some Tryd.f82 := Tryd.func82
theorem fk84 : Tryd.prog.funcs[84]? = some Tryd.f84 := Tryd.func84
theorem fk85 : Tryd.prog.funcs[85]? = some Tryd.f85 := Tryd.func85
theorem fk86 : Tryd.prog.funcs[86]? = some Tryd.f86 := Tryd.func86
theorem fk87 : Tryd.prog.funcs[87]? = some Tryd.f87 := Tryd.func87
theorem fk88 : Tryd.prog.funcs[88]? = some Tryd.f88 := Tryd.func88
theorem fk89 : Tryd.prog.funcs[89]? = some Tryd.f89 := Tryd.func89
theorem fk90 : Tryd.prog.funcs[90]? = some Tryd.f90 := Tryd.func90
theorem fk91 : Tryd.prog.funcs[91]? = some Tryd.f91 := Tryd.func91
theorem fk114 : Tryd.prog.funcs[114]? = some Tryd.f114 := Tryd.func114
theorem id79 : ∀ v w, (callFunc 79 #[v]).run Tryd.prog w = .ok (.value v) w := fun v w => run_callFunc_extern (fn := Tryd.f79) (e := Extern.AbiNoEscape.same) Tryd.func79 (by kernel_rfl) (by kernel_rfl) (by kernel_rfl) (by kernel_rfl) #[v] w
theorem E0_ok : EnvOk E0 := by
  refine ⟨fun f fn h => ?_, by kernel_rfl, fun f h => ?_, fun f g h => (by cases h)⟩
  · change fnT f = some fn at h
    unfold fnT at h
    split at h
    · injection h with h; subst h; exact ⟨fk2, ⟨Tryd.call2⟩, bodyOk_inv dk2⟩
    · injection h with h; subst h; exact ⟨fk3, ⟨Tryd.call3⟩, bodyOk_inv dk3⟩
    · injection h with h; subst h; exact ⟨fk4, ⟨Tryd.call4⟩, bodyOk_inv dk4⟩
    · injection h with h; subst h; exact ⟨fk5, ⟨Tryd.call5⟩, bodyOk_inv dk5⟩
    · injection h with h; subst h; exact ⟨fk6, ⟨Tryd.call6⟩, bodyOk_inv dk6⟩
    · injection h with h; subst h; exact ⟨fk7, ⟨Tryd.call7⟩, bodyOk_inv dk7⟩
    · injection h with h; subst h; exact ⟨fk8, ⟨Tryd.call8⟩, bodyOk_inv dk8⟩
    · injection h with h; subst h; exact ⟨fk9, ⟨Tryd.call9⟩, bodyOk_inv dk9⟩
    · injection h with h; subst h; exact ⟨fk10, ⟨Tryd.call10⟩, bodyOk_inv dk10⟩
    · injection h with h; subst h; exact ⟨fk11, ⟨Tryd.call11⟩, bodyOk_inv dk11⟩
    · injection h with h; subst h; exact ⟨fk12, ⟨Tryd.call12⟩, bodyOk_inv dk12⟩
    · injection h with h; subst h; exact ⟨fk13, ⟨Tryd.call13⟩, bodyOk_inv dk13⟩
    · injection h with h; subst h; exact ⟨fk14, ⟨Tryd.call14⟩, bodyOk_inv dk14⟩
    · injection h with h; subst h; exact ⟨fk15, ⟨Tryd.call15⟩, bodyOk_inv dk15⟩
    · injection h with h; subst h; exact ⟨fk16, ⟨Tryd.call16⟩, bodyOk_inv dk16⟩
    · injection h with h; subst h; exact ⟨fk17, ⟨Tryd.call17⟩, bodyOk_inv dk17⟩
    · injection h with h; subst h; exact ⟨fk18, ⟨Tryd.call18⟩, bodyOk_inv dk18⟩
    · injection h with h; subst h; exact ⟨fk19, ⟨Tryd.call19⟩, bodyOk_inv dk19⟩
    · injection h with h; subst h; exact ⟨fk20, ⟨Tryd.call20⟩, bodyOk_inv dk20⟩
    · injection h with h; subst h; exact ⟨fk21, ⟨Tryd.call21⟩, bodyOk_inv dk21⟩
    · injection h with h; subst h; exact ⟨fk22, ⟨Tryd.call22⟩, bodyOk_inv dk22⟩
    · injection h with h; subst h; exact ⟨fk23, ⟨Tryd.call23⟩, bodyOk_inv dk23⟩
    · injection h with h; subst h; exact ⟨fk24, ⟨Tryd.call24⟩, bodyOk_inv dk24⟩
    · injection h with h; subst h; exact ⟨fk25, ⟨Tryd.call25⟩, bodyOk_inv dk25⟩
    · injection h with h; subst h; exact ⟨fk26, ⟨Tryd.call26⟩, bodyOk_inv dk26⟩
    · injection h with h; subst h; exact ⟨fk27, ⟨Tryd.call27⟩, bodyOk_inv dk27⟩
    · injection h with h; subst h; exact ⟨fk28, ⟨Tryd.call28⟩, bodyOk_inv dk28⟩
    · injection h with h; subst h; exact ⟨fk29, ⟨Tryd.call29⟩, bodyOk_inv dk29⟩
    · injection h with h; subst h; exact ⟨fk30, ⟨Tryd.call30⟩, bodyOk_inv dk30⟩
    · injection h with h; subst h; exact ⟨fk31, ⟨Tryd.call31⟩, bodyOk_inv dk31⟩
    · injection h with h; subst h; exact ⟨fk32, ⟨Tryd.call32⟩, bodyOk_inv dk32⟩
    · injection h with h; subst h; exact ⟨fk33, ⟨Tryd.call33⟩, bodyOk_inv dk33⟩
    · injection h with h; subst h; exact ⟨fk34, ⟨Tryd.call34⟩, bodyOk_inv dk34⟩
    · injection h with h; subst h; exact ⟨fk35, ⟨Tryd.call35⟩, bodyOk_inv dk35⟩
    · injection h with h; subst h; exact ⟨fk36, ⟨Tryd.call36⟩, bodyOk_inv dk36⟩
    · injection h with h; subst h; exact ⟨fk37, ⟨Tryd.call37⟩, bodyOk_inv dk37⟩
    · injection h with h; subst h; exact ⟨fk38, ⟨Tryd.call38⟩, bodyOk_inv dk38⟩
    · injection h with h; subst h; exact ⟨fk39, ⟨Tryd.call39⟩, bodyOk_inv dk39⟩
    · injection h with h; subst h; exact ⟨fk40, ⟨Tryd.call40⟩, bodyOk_inv dk40⟩
    · injection h with h; subst h; exact ⟨fk41, ⟨Tryd.call41⟩, bodyOk_inv dk41⟩
    · injection h with h; subst h; exact ⟨fk42, ⟨Tryd.call42⟩, bodyOk_inv dk42⟩
    · injection h with h; subst h; exact ⟨fk43, ⟨Tryd.call43⟩, bodyOk_inv dk43⟩
    · injection h with h; subst h; exact ⟨fk44, ⟨Tryd.call44⟩, bodyOk_inv dk44⟩
    · injection h with h; subst h; exact ⟨fk45, ⟨Tryd.call45⟩, bodyOk_inv dk45⟩
    · injection h with h; subst h; exact ⟨fk46, ⟨Tryd.call46⟩, bodyOk_inv dk46⟩
    · injection h with h; subst h; exact ⟨fk47, ⟨Tryd.call47⟩, bodyOk_inv dk47⟩
    · injection h with h; subst h; exact ⟨fk48, ⟨Tryd.call48⟩, bodyOk_inv dk48⟩
    · injection h with h; subst h; exact ⟨fk49, ⟨Tryd.call49⟩, bodyOk_inv dk49⟩
    · injection h with h; subst h; exact ⟨fk50, ⟨Tryd.call50⟩, bodyOk_inv dk50⟩
    · injection h with h; subst h; exact ⟨fk51, ⟨Tryd.call51⟩, bodyOk_inv dk51⟩
    · injection h with h; subst h; exact ⟨fk52, ⟨Tryd.call52⟩, bodyOk_inv dk52⟩
    · injection h with h; subst h; exact ⟨fk53, ⟨Tryd.call53⟩, bodyOk_inv dk53⟩
    · injection h with h; subst h; exact ⟨fk54, ⟨Tryd.call54⟩, bodyOk_inv dk54⟩
    · injection h with h; subst h; exact ⟨fk55, ⟨Tryd.call55⟩, bodyOk_inv dk55⟩
    · injection h with h; subst h; exact ⟨fk56, ⟨Tryd.call56⟩, bodyOk_inv dk56⟩
    · injection h with h; subst h; exact ⟨fk57, ⟨Tryd.call57⟩, bodyOk_inv dk57⟩
    · injection h with h; subst h; exact ⟨fk58, ⟨Tryd.call58⟩, bodyOk_inv dk58⟩
    · injection h with h; subst h; exact ⟨fk59, ⟨Tryd.call59⟩, bodyOk_inv dk59⟩
    · injection h with h; subst h; exact ⟨fk60, ⟨Tryd.call60⟩, bodyOk_inv dk60⟩
    · injection h with h; subst h; exact ⟨fk61, ⟨Tryd.call61⟩, bodyOk_inv dk61⟩
    · injection h with h; subst h; exact ⟨fk62, ⟨Tryd.call62⟩, bodyOk_inv dk62⟩
    · injection h with h; subst h; exact ⟨fk63, ⟨Tryd.call63⟩, bodyOk_inv dk63⟩
    · injection h with h; subst h; exact ⟨fk64, ⟨Tryd.call64⟩, bodyOk_inv dk64⟩
    · injection h with h; subst h; exact ⟨fk65, ⟨Tryd.call65⟩, bodyOk_inv dk65⟩
    · injection h with h; subst h; exact ⟨fk66, ⟨Tryd.call66⟩, bodyOk_inv dk66⟩
    · injection h with h; subst h; exact ⟨fk67, ⟨Tryd.call67⟩, bodyOk_inv dk67⟩
    · injection h with h; subst h; exact ⟨fk68, ⟨Tryd.call68⟩, bodyOk_inv dk68⟩
    · injection h with h; subst h; exact ⟨fk69, ⟨Tryd.call69⟩, bodyOk_inv dk69⟩
    · injection h with h; subst h; exact ⟨fk70, ⟨Tryd.call70⟩, bodyOk_inv dk70⟩
    · injection h with h; subst h; exact ⟨fk71, ⟨Tryd.call71⟩, bodyOk_inv dk71⟩
    · injection h with h; subst h; exact ⟨fk72, ⟨Tryd.call72⟩, bodyOk_inv dk72⟩
    · injection h with h; subst h; exact ⟨fk73, ⟨Tryd.call73⟩, bodyOk_inv dk73⟩
    · injection h with h; subst h; exact ⟨fk74, ⟨Tryd.call74⟩, bodyOk_inv dk74⟩
    · injection h with h; subst h; exact ⟨fk75, ⟨Tryd.call75⟩, bodyOk_inv dk75⟩
    · injection h with h; subst h; exact ⟨fk76, ⟨Tryd.call76⟩, bodyOk_inv dk76⟩
    · injection h with h; subst h; exact ⟨fk77, ⟨Tryd.call77⟩, bodyOk_inv dk77⟩
    · injection h with h; subst h; exact ⟨fk78, ⟨Tryd.call78⟩, bodyOk_inv dk78⟩
    · injection h with h; subst h; exact ⟨fk80, ⟨Tryd.call80⟩, bodyOk_inv dk80⟩
    · injection h with h; subst h; exact ⟨fk81, ⟨Tryd.call81⟩, bodyOk_inv dk81⟩
    · injection h with h; subst h; exact ⟨fk82, ⟨Tryd.call82⟩, bodyOk_inv dk82⟩
    · injection h with h; subst h; exact ⟨fk84, ⟨Tryd.call84⟩, bodyOk_inv dk84⟩
    · injection h with h; subst h; exact ⟨fk85, ⟨Tryd.call85⟩, bodyOk_inv dk85⟩
    · injection h with h; subst h; exact ⟨fk86, ⟨Tryd.call86⟩, bodyOk_inv dk86⟩
    · injection h with h; subst h; exact ⟨fk87, ⟨Tryd.call87⟩, bodyOk_inv dk87⟩
    · injection h with h; subst h; exact ⟨fk88, ⟨Tryd.call88⟩, bodyOk_inv dk88⟩
    · injection h with h; subst h; exact ⟨fk89, ⟨Tryd.call89⟩, bodyOk_inv dk89⟩
    · injection h with h; subst h; exact ⟨fk90, ⟨Tryd.call90⟩, bodyOk_inv dk90⟩
    · injection h with h; subst h; exact ⟨fk91, ⟨Tryd.call91⟩, bodyOk_inv dk91⟩
    · injection h with h; subst h; exact ⟨fk114, ⟨Tryd.call114⟩, bodyOk_inv dk114⟩
    · cases h
  · change idT f = true at h
    unfold idT at h
    split at h
    · exact id79
    · cases h
end Go.Proofs.YtnmkejapogklmaaDoor

namespace Go.Proofs.YtnmkejapogklmaaDoor
open Go.RowKit
def isT (r : Option (AV × Hp)) : Bool := match r with
  | some (.v (.bool true), _) => true
  | _ => false
theorem isT_inv {r : Option (AV × Hp)} (h : isT r = true) : ∃ h', r = some (.v (.bool true), h') := by
  unfold isT at h
  split at h
  · exact ⟨_, rfl⟩
  · cases h
set_option maxRecDepth 1000000 in
theorem awakeT : isT (evCall E0 1000 7 [] []) = true := by kernel_rfl
theorem awake_ev : ∃ h, evCall E0 1000 7 [] [] = some (.v (.bool true), h) := isT_inv awakeT
theorem awake_ret (w : World) : Ret Tryd.prog 7 #[] w fun v w' => v = .bool true ∧ w.grownBy w' none := by
  obtain ⟨h, e⟩ := awake_ev
  exact ret_true (Z := fun _ => False) (us := []) E0_ok e (fun c hc => hc.elim) (fun g x h => by cases h) .nil

theorem vr_true {w : World} {Z : Nat → Prop} : VR w Z [] (.v (.bool true)) (.bool true) := .v rfl

end Go.Proofs.YtnmkejapogklmaaDoor

namespace Go.Proofs.YtnmkejapogklmaaDoor
open Go.RowKit
def codeOf (f : Func) : Code := match f.body with
  | some c => c
  | none => .skip
/-- A part of code, by its way. -/
def pc : Code → List Nat → Code
  | c, [] => c
  | .seq a _, 0 :: l => pc a l
  | .seq _ b, _ :: l => pc b l
  | .cond _ a _, 0 :: l => pc a l
  | .cond _ _ b, _ :: l => pc b l
  | .block _ a, _ :: l => pc a l
  | .loop a, _ :: l => pc a l
  | c, _ :: _ => c
/-- What is told of a function, in no environment of its own. -/
def XOk (f : FuncId) (g : List AV → Option AV) : Prop := Callable E0.P f ∧ ∀ xs x, g xs = some x → ∀ w Z us, (∀ c, Z c → c < w.heap.size) → GI E0 w Z → VRs w Z [] xs us → Ret E0.P f us.toArray w fun v w' => w.grownBy w' none ∧ VR w' (fun c => Z c ∨ (w.heap.size ≤ c ∧ c < w'.heap.size)) [] x v
section
variable {E : Env} {cx : Cx} {c : Code} {s s1 : St} {Q : Ex → St → Prop} {n : Nat} {e0 : Ex}
theorem SemN.mono {Q' : Ex → St → Prop} (h : SemN E cx c n s Q) (hq : ∀ e s, Q e s → Q' e s) : SemN E cx c n s Q' :=
  fun ro base Qm a w Z R h1 h2 h3 k => h ro base Qm a w Z R h1 h2 h3 fun e s' a' w' Z' R' hQ => k e s' a' w' Z' R' (hq e s' hQ)
theorem SemN.wkQ (h : SemN E cx c n s fun e s' => ∃ s2, Wk E s' s2 ∧ Q e s2) : SemN E cx c n s Q := by
  intro ro base Qm a w Z R h1 h2 h3 k
  refine h ro base Qm a w Z R h1 h2 h3 fun e s' a' w' Z' R' hQ sr st => ?_
  obtain ⟨s2, hw, hq⟩ := hQ
  obtain ⟨Z2, R2, sr2, st2⟩ := hw _ w' Z' R' a' sr
  exact k e s2 a' w' Z2 R2 hq sr2 (st.trans st2)
theorem Sem.cutN (h : SemN E cx c n s fun e s' => e = e0 ∧ Wk E s' s1) (k : Q e0 s1) : SemN E cx c n s Q :=
  SemN.wkQ (SemN.mono h fun e s' h => ⟨s1, h.2, by rw [h.1]; exact k⟩)
end
theorem EnvOk.x {E : Env} {f : FuncId} {g : List AV → Option AV} (h : EnvOk (E.withX f g)) (hP : E.P = E0.P) (hG : E.G = E0.G) : XOk f g := by
  obtain ⟨h1, h2⟩ := h.X f g (if_pos rfl)
  have e1 : (E.withX f g).P = E0.P := hP
  refine ⟨e1 ▸ h1, fun xs x hx w Z us hz hg hv => ?_⟩
  have := h2 xs x hx w Z us hz (fun q y hy => hg q y (by rw [← hG]; exact hy)) hv
  exact e1 ▸ this
end Go.Proofs.YtnmkejapogklmaaDoor

namespace Go.Proofs.YtnmkejapogklmaaDoor
open Go.RowKit
/- trestle/evening.guests -/
noncomputable def e_evening_guests : Env := E0
theorem e_evening_guests_ok : EnvOk e_evening_guests := E0_ok
noncomputable def cb_evening_guests : Code := codeOf Tryd.f34
def evening_guests (x0 : Int) : Option (Bool) :=
  (if (decide (x0 ≥ 1)) = true then some (decide (x0 ≤ 64)) else some false).bind fun j2 =>
  some j2
def cs_evening_guests : Cs (Int × Unit) := (csC cdI csN)
def er_evening_guests (r : Bool) : AV := cdB.enc r
set_option maxHeartbeats 4000000 in
set_option maxRecDepth 100000 in
theorem evening_guests_sem (x0 : Int) (r : Bool) (h : evening_guests x0 = some r) : Sem e_evening_guests ⟨none, false⟩ cb_evening_guests ⟨Fr 9 (pairs0 0 (cs_evening_guests.enc (x0, ()))), []⟩ fun e s' => (e = .normal ∨ e = .ret) ∧ ∃ xs, resA e_evening_guests.P s'.fr s'.hp Tryd.f34.results.toList = some xs ∧ retA xs = er_evening_guests r := by
  unfold evening_guests at h
  refine Sem.wkQ (Sem.wk (s1 := ⟨Fr 9 [(0, .v (.int .i64 x0))], []⟩) (Wk.fr (by kernel_rfl)) ?_)
  refine Sem.seq ?_
  refine Sem.runS (s1 := ⟨Fr 9 [(0, .v (.int .i64 x0))], []⟩) ?_ ?_
  · refine RunS.segF (n := 9) e_evening_guests_ok 1 [(0, .v (.int .i64 x0))] [] (by kernel_rfl) ?_
    exact RunS.done rfl (Wk.fr (by kernel_rfl))
  refine Sem.seq ?_
  obtain ⟨j2, hj2, h⟩ := Option.bind_eq_some_iff.1 h
  refine Sem.runS (s1 := ⟨Fr 9 [(2, .v (.bool j2))], []⟩) ?_ ?_
  · refine RunS.segF (n := 9) e_evening_guests_ok 3 [(0, .v (.int .i64 x0)), (5, .v (.bool (decide (x0 ≥ 1))))] [] (by kernel_rfl) ?_
    rcases Bool.eq_false_or_eq_true (decide (x0 ≥ 1)) with hc3 | hc3
    · rw [if_pos hc3] at hj2
      rw [hc3]
      refine RunS.segF (n := 9) e_evening_guests_ok 4 [(2, .v (.bool (decide (x0 ≤ 64))))] [] (by kernel_rfl) ?_
      have hq := Option.some.inj hj2; subst hq
      exact RunS.done rfl (Wk.fr (by kernel_rfl))
    · rw [if_f hc3] at hj2
      rw [hc3]
      refine RunS.segF (n := 9) e_evening_guests_ok 4 [(2, .v (.bool false))] [] (by kernel_rfl) ?_
      have hq := Option.some.inj hj2; subst hq
      exact RunS.done rfl (Wk.fr (by kernel_rfl))
  refine Sem.ret ?_
  have hq := Option.some.inj h; subst hq
  exact ⟨⟨Fr 9 [(2, .v (.bool j2))], []⟩, (Wk.fr (by kernel_rfl)), .inr rfl, [.v (.bool j2)], (by kernel_rfl), (by kernel_rfl)⟩
def t_evening_guests : List AV → Option AV := told cs_evening_guests (fun a => evening_guests a.1) er_evening_guests
theorem x_evening_guests : XOk 34 t_evening_guests := by
  refine EnvOk.x (E := e_evening_guests) (contract_ok e_evening_guests_ok (fn := Tryd.f34) (c := cb_evening_guests) ?h1 ?h2 ⟨Tryd.call34⟩ cs_evening_guests (fun a => evening_guests a.1) er_evening_guests (fun a => (by show 1 ≤ 9; decide)) ?h3 ?h4) rfl rfl
  case h1 => kernel_rfl
  case h2 => kernel_rfl
  case h3 => intro b; kernel_rfl
  case h4 => exact fun a b h => evening_guests_sem a.1 b h
end Go.Proofs.YtnmkejapogklmaaDoor

namespace Go.Proofs.YtnmkejapogklmaaDoor
open Go.RowKit
/- trestle/evening.span -/
noncomputable def e_evening_span : Env := E0
theorem e_evening_span_ok : EnvOk e_evening_span := E0_ok
noncomputable def cb_evening_span : Code := codeOf Tryd.f35
def evening_span_1 (x0 : Int) (x1 : Int) : Nat → (List Int) → Int → Option (((List Int)))
  | 0, _, _ => none
  | f + 1, c1, c2 =>
    if (decide (c2 < x1)) = true then
    if (capOk 8 (c1.length + 1)) = true then
    evening_span_1 x0 x1 f (c1 ++ [(wr .i64 (x0 + c2))]) (wr .i64 (c2 + 1))
    else none
    else
    some c1
def evening_span (x0 : Int) (x1 : Int) : Option ((List Int)) :=
  (evening_span_1 x0 x1 100000 [] 0).bind fun r6 =>
  some r6
def cs_evening_span : Cs (Int × Int × Unit) := (csC cdI (csC cdI csN))
def er_evening_span (r : (List Int)) : AV := (cdL 1 cdI).enc r
set_option maxHeartbeats 4000000 in
set_option maxRecDepth 100000 in
theorem evening_span_1_ok (x0 : Int) (x1 : Int) : ∀ (f : Nat) (c1 : (List Int)) (c2 : Int) (r : ((List Int))), evening_span_1 x0 x1 f c1 c2 = some r → SemN e_evening_span ⟨none, false⟩ (pc cb_evening_span [1, 1, 0, 1, 0, 0]) f ⟨Fr 19 [(0, .v (.int .i64 x0)), (5, hd 0 (c1.map cdI.enc)), (7, .v (.int .i64 x1)), (8, .v (.int .i64 c2))], [mk 1 3 (c1.map cdI.enc)]⟩ (fun e s => e = (.exit 0) ∧ Wk e_evening_span s ⟨Fr 19 [(5, hd 0 (r.map cdI.enc))], [mk 1 3 (r.map cdI.enc)]⟩) := by
  intro f
  induction f with
  | zero => intro c1 c2 r h; cases h
  | succ f ih0 =>
    intro c1 c2 r h
    have ih := fun (c1 : (List Int)) (c2 : Int) => ih0 c1 c2 r
    unfold evening_span_1 at h
    refine SemN.succ ?_
    refine Sem.seq ?_
    refine Sem.runS (s1 := ⟨Fr 19 [(0, .v (.int .i64 x0)), (5, hd 0 (c1.map cdI.enc)), (7, .v (.int .i64 x1)), (8, .v (.int .i64 c2)), (9, .v (.bool (decide (c2 < x1))))], [mk 1 3 (c1.map cdI.enc)]⟩) ?_ ?_
    · refine RunS.segF (n := 19) e_evening_span_ok 1 [(0, .v (.int .i64 x0)), (5, hd 0 (c1.map cdI.enc)), (7, .v (.int .i64 x1)), (8, .v (.int .i64 c2)), (9, .v (.bool (decide (c2 < x1))))] [mk 1 3 (c1.map cdI.enc)] (by kernel_rfl) ?_
      exact RunS.done rfl (Wk.sel2 [0] (by kernel_rfl) (by kernel_rfl) (by kernel_rfl) ⟨⟨_, rfl, bu_mk⟩, trivial⟩ ⟨lu (by kernel_rfl) (by kernel_rfl), lu_hd (b' := 0) (by kernel_rfl) (by kernel_rfl), lu (by kernel_rfl) (by kernel_rfl), lu (by kernel_rfl) (by kernel_rfl), lu (by kernel_rfl) (by kernel_rfl), trivial⟩)
    refine Sem.seq ?_
    refine Sem.cond (b := (decide (c2 < x1))) (by kernel_rfl) (fun hb3 => ?_) (fun hb3 => ?_)
    · rw [if_pos hb3] at h
      refine Sem.skip ?_
      refine Sem.seq ?_
      refine Sem.block ?_
      refine Sem.seq ?_
      refine Sem.runS (s1 := ⟨Fr 19 [(0, .v (.int .i64 x0)), (5, hd 0 (c1.map cdI.enc)), (6, .v (.int .i64 c2)), (7, .v (.int .i64 x1)), (8, .v (.int .i64 c2))], [mk 1 3 (c1.map cdI.enc)]⟩) ?_ ?_
      · refine RunS.segF (n := 19) e_evening_span_ok 2 [(0, .v (.int .i64 x0)), (5, hd 0 (c1.map cdI.enc)), (6, .v (.int .i64 c2)), (7, .v (.int .i64 x1)), (8, .v (.int .i64 c2))] [mk 1 3 (c1.map cdI.enc)] (by kernel_rfl) ?_
        exact RunS.done rfl (Wk.sel2 [0] (by kernel_rfl) (by kernel_rfl) (by kernel_rfl) ⟨⟨_, rfl, bu_mk⟩, trivial⟩ ⟨lu (by kernel_rfl) (by kernel_rfl), lu_hd (b' := 0) (by kernel_rfl) (by kernel_rfl), lu (by kernel_rfl) (by kernel_rfl), lu (by kernel_rfl) (by kernel_rfl), lu (by kernel_rfl) (by kernel_rfl), trivial⟩)
      by_cases hk4 : (capOk 8 (c1.length + 1)) = true
      case neg => rw [if_neg hk4] at h; cases h
      rw [if_pos hk4] at h
      refine Sem.runS (s1 := ⟨Fr 19 [(0, .v (.int .i64 x0)), (5, hd 0 ((c1 ++ [(wr .i64 (x0 + c2))]).map cdI.enc)), (7, .v (.int .i64 x1)), (8, .v (.int .i64 c2))], [mk 1 3 ((c1 ++ [(wr .i64 (x0 + c2))]).map cdI.enc)]⟩) ?_ ?_
      · refine RunS.segF (n := 19) e_evening_span_ok 5 [(0, .v (.int .i64 x0)), (7, .v (.int .i64 x1)), (8, .v (.int .i64 c2)), (11, hd 0 (c1.map cdI.enc)), (15, hd 1 ([(wr .i64 (x0 + c2))].map cdI.enc))] [mk 1 3 (c1.map cdI.enc), mk 1 3 ([(wr .i64 (x0 + c2))].map cdI.enc)] (by kernel_rfl) ?_
        refine RunS.one e_evening_span_ok 0 rfl (op_w (wantedA_none rfl) rfl (by kernel_rfl) (by kernel_rfl) (w_append (a := hd 0 (c1.map cdI.enc)) (b := hd 1 ([(wr .i64 (x0 + c2))].map cdI.enc)) (by kernel_rfl) (by kernel_rfl) (append_B (c := cdI) (xs := c1) (vs := [(wr .i64 (x0 + c2))]) (k := 1) (bytes := 8) (el := 3) (by kernel_rfl) (by kernel_rfl) (elems_hd (t := 3) (by kernel_rfl)) (List.cons_ne_nil _ _) (by kernel_rfl) hk4))) ?_
        refine RunS.segF (n := 19) e_evening_span_ok 1 [(0, .v (.int .i64 x0)), (5, hd 2 ((c1 ++ [(wr .i64 (x0 + c2))]).map cdI.enc)), (7, .v (.int .i64 x1)), (8, .v (.int .i64 c2))] [none, mk 1 3 ([(wr .i64 (x0 + c2))].map cdI.enc), mk 1 3 ((c1 ++ [(wr .i64 (x0 + c2))]).map cdI.enc)] (by kernel_rfl) ?_
        exact RunS.done rfl (Wk.sel2 [2] (by kernel_rfl) (by kernel_rfl) (by kernel_rfl) ⟨⟨_, rfl, bu_mk⟩, trivial⟩ ⟨lu (by kernel_rfl) (by kernel_rfl), lu_hd (b' := 2) (by kernel_rfl) (by kernel_rfl), lu (by kernel_rfl) (by kernel_rfl), lu (by kernel_rfl) (by kernel_rfl), trivial⟩)
      refine Sem.runS (s1 := ⟨Fr 19 [(0, .v (.int .i64 x0)), (5, hd 0 ((c1 ++ [(wr .i64 (x0 + c2))]).map cdI.enc)), (7, .v (.int .i64 x1)), (8, .v (.int .i64 (wr .i64 (c2 + 1))))], [mk 1 3 ((c1 ++ [(wr .i64 (x0 + c2))]).map cdI.enc)]⟩) ?_ ?_
      · refine RunS.segF (n := 19) e_evening_span_ok 2 [(0, .v (.int .i64 x0)), (5, hd 0 ((c1 ++ [(wr .i64 (x0 + c2))]).map cdI.enc)), (7, .v (.int .i64 x1)), (8, .v (.int .i64 (wr .i64 (c2 + 1))))] [mk 1 3 ((c1 ++ [(wr .i64 (x0 + c2))]).map cdI.enc)] (by kernel_rfl) ?_
        exact RunS.done rfl (Wk.sel2 [0] (by kernel_rfl) (by kernel_rfl) (by kernel_rfl) ⟨⟨_, rfl, bu_mk⟩, trivial⟩ ⟨lu (by kernel_rfl) (by kernel_rfl), lu_hd (b' := 0) (by kernel_rfl) (by kernel_rfl), lu (by kernel_rfl) (by kernel_rfl), lu (by kernel_rfl) (by kernel_rfl), trivial⟩)
      exact SemN.wk (s1 := ⟨Fr 19 [(0, .v (.int .i64 x0)), (5, hd 0 ((c1 ++ [(wr .i64 (x0 + c2))]).map cdI.enc)), (7, .v (.int .i64 x1)), (8, .v (.int .i64 (wr .i64 (c2 + 1))))], [mk 1 3 ((c1 ++ [(wr .i64 (x0 + c2))]).map cdI.enc)]⟩) (Wk.sel2 [0] (by kernel_rfl) (by kernel_rfl) (by kernel_rfl) ⟨⟨_, rfl, bu_mk⟩, trivial⟩ ⟨lu (by kernel_rfl) (by kernel_rfl), lu_hd (b' := 0) (by kernel_rfl) (by kernel_rfl), lu (by kernel_rfl) (by kernel_rfl), lu (by kernel_rfl) (by kernel_rfl), trivial⟩) (ih (c1 ++ [(wr .i64 (x0 + c2))]) (wr .i64 (c2 + 1)) h)
    · rw [if_f hb3] at h
      refine Sem.exit ?_
      have hq := Option.some.inj h; subst hq
      exact ⟨rfl, (Wk.sel2 [0] (by kernel_rfl) (by kernel_rfl) (by kernel_rfl) ⟨⟨_, rfl, bu_mk⟩, trivial⟩ ⟨lu_hd (b' := 0) (by kernel_rfl) (by kernel_rfl), trivial⟩)⟩
set_option maxHeartbeats 4000000 in
set_option maxRecDepth 100000 in
theorem evening_span_sem (x0 : Int) (x1 : Int) (r : (List Int)) (h : evening_span x0 x1 = some r) : Sem e_evening_span ⟨none, false⟩ cb_evening_span ⟨Fr 19 (pairs0 0 (cs_evening_span.enc (x0, x1, ()))), []⟩ fun e s' => (e = .normal ∨ e = .ret) ∧ ∃ xs, resA e_evening_span.P s'.fr s'.hp Tryd.f35.results.toList = some xs ∧ retA xs = er_evening_span r := by
  unfold evening_span at h
  refine Sem.wkQ (Sem.wk (s1 := ⟨Fr 19 [(0, .v (.int .i64 x0)), (1, .v (.int .i64 x1))], []⟩) (Wk.fr (by kernel_rfl)) ?_)
  refine Sem.seq ?_
  refine Sem.runS (s1 := ⟨Fr 19 [(0, .v (.int .i64 x0)), (1, .v (.int .i64 x1))], []⟩) ?_ ?_
  · refine RunS.segF (n := 19) e_evening_span_ok 1 [(0, .v (.int .i64 x0)), (1, .v (.int .i64 x1))] [] (by kernel_rfl) ?_
    exact RunS.done rfl (Wk.fr (by kernel_rfl))
  refine Sem.seq ?_
  refine Sem.runS (s1 := ⟨Fr 19 [(0, .v (.int .i64 x0)), (1, .v (.int .i64 x1)), (5, .e0)], []⟩) ?_ ?_
  · refine RunS.segF (n := 19) e_evening_span_ok 1 [(0, .v (.int .i64 x0)), (1, .v (.int .i64 x1)), (5, .e0)] [] (by kernel_rfl) ?_
    exact RunS.done rfl (Wk.fr (by kernel_rfl))
  refine Sem.seq ?_
  refine Sem.seq ?_
  refine Sem.runS (s1 := ⟨Fr 19 [(0, .v (.int .i64 x0)), (5, .e0), (7, .v (.int .i64 x1)), (8, .v (.int .i64 0))], []⟩) ?_ ?_
  · refine RunS.segF (n := 19) e_evening_span_ok 2 [(0, .v (.int .i64 x0)), (5, .e0), (7, .v (.int .i64 x1)), (8, .v (.int .i64 0))] [] (by kernel_rfl) ?_
    exact RunS.done rfl (Wk.fr (by kernel_rfl))
  refine Sem.block ?_
  obtain ⟨r6, hr6, h⟩ := Option.bind_eq_some_iff.1 h
  refine Sem.loop (n := 100000) ?_
  refine Sem.cutN (SemN.wk (s1 := ⟨Fr 19 [(0, .v (.int .i64 x0)), (5, hd 0 ([].map cdI.enc)), (7, .v (.int .i64 x1)), (8, .v (.int .i64 0))], [mk 1 3 ([].map cdI.enc)]⟩) (Wk.trans (s1 := ⟨Fr 19 [(0, .v (.int .i64 x0)), (5, hd 0 ([].map cdI.enc)), (7, .v (.int .i64 x1)), (8, .v (.int .i64 0))], [mk 1 3 ([].map cdI.enc)]⟩) Wk.none (Wk.sel2 [0] (by kernel_rfl) (by kernel_rfl) (by kernel_rfl) ⟨⟨_, rfl, bu_none⟩, trivial⟩ ⟨lu (by kernel_rfl) (by kernel_rfl), lu (by kernel_rfl) (by kernel_rfl), lu (by kernel_rfl) (by kernel_rfl), lu (by kernel_rfl) (by kernel_rfl), trivial⟩)) (evening_span_1_ok x0 x1 _ [] 0 _ hr6)) ?_
  refine Sem.seq ?_
  refine Sem.runS (s1 := ⟨Fr 19 [(4, hd 0 (r6.map cdI.enc))], [mk 1 3 (r6.map cdI.enc)]⟩) ?_ ?_
  · refine RunS.segF (n := 19) e_evening_span_ok 2 [(4, hd 0 (r6.map cdI.enc))] [mk 1 3 (r6.map cdI.enc)] (by kernel_rfl) ?_
    exact RunS.done rfl (Wk.sel2 [0] (by kernel_rfl) (by kernel_rfl) (by kernel_rfl) ⟨⟨_, rfl, bu_mk⟩, trivial⟩ ⟨lu_hd (b' := 0) (by kernel_rfl) (by kernel_rfl), trivial⟩)
  refine Sem.ret ?_
  have hq := Option.some.inj h; subst hq
  exact ⟨⟨Fr 19 [(4, .sl 1 (r6.map cdI.enc))], []⟩, (Wk.trans (s1 := ⟨Fr 19 [(4, .sl 1 (r6.map cdI.enc))], [none]⟩) (Wk.frzG 0 (.inl (by kernel_rfl)) ⟨.inl rfl, trivial⟩ ⟨⟨hd 0 (r6.map cdI.enc), (by kernel_rfl), fz_hd (t := 3) (by kernel_rfl) enc_ok⟩, trivial⟩) (Wk.sel2 [] (by kernel_rfl) (by kernel_rfl) (by kernel_rfl) trivial ⟨lu (by kernel_rfl) (by kernel_rfl), trivial⟩)), .inr rfl, [.sl 1 (r6.map cdI.enc)], (by kernel_rfl), (by kernel_rfl)⟩
def t_evening_span : List AV → Option AV := told cs_evening_span (fun a => evening_span a.1 a.2.1) er_evening_span
theorem x_evening_span : XOk 35 t_evening_span := by
  refine EnvOk.x (E := e_evening_span) (contract_ok e_evening_span_ok (fn := Tryd.f35) (c := cb_evening_span) ?h1 ?h2 ⟨Tryd.call35⟩ cs_evening_span (fun a => evening_span a.1 a.2.1) er_evening_span (fun a => (by show 2 ≤ 19; decide)) ?h3 ?h4) rfl rfl
  case h1 => kernel_rfl
  case h2 => kernel_rfl
  case h3 => intro b; kernel_rfl
  case h4 => exact fun a b h => evening_span_sem a.1 a.2.1 b h
end Go.Proofs.YtnmkejapogklmaaDoor

namespace Go.Proofs.YtnmkejapogklmaaDoor
open Go.RowKit
/- trestle/evening.alone -/
noncomputable def e_evening_alone : Env := E0
theorem e_evening_alone_ok : EnvOk e_evening_alone := E0_ok
noncomputable def cb_evening_alone : Code := codeOf Tryd.f36
def evening_alone_2 (x0 : Int) (c1 : (List (List (List Int)))) (c2 : Int) : Nat → (List (List Int)) → Int → Option (((List (List Int))))
  | 0, _, _ => none
  | f + 1, c4, c5 =>
    if (decide (c5 < x0)) = true then
    if (capOk 24 (c4.length + 1)) = true then
    evening_alone_2 x0 c1 c2 f (c4 ++ [[c5]]) (wr .i64 (c5 + 1))
    else none
    else
    some c4
def evening_alone_1 (x0 : Int) : Nat → (List (List (List Int))) → Int → Option (((List (List (List Int)))))
  | 0, _, _ => none
  | f + 1, c1, c2 =>
    if (decide (c2 < 64)) = true then
    (evening_alone_2 x0 c1 c2 100000 [] 0).bind fun r9 =>
    if (capOk 24 (c1.length + 1)) = true then
    evening_alone_1 x0 f (c1 ++ [r9]) (wr .i64 (c2 + 1))
    else none
    else
    some c1
def evening_alone (x0 : Int) : Option ((List (List (List Int)))) :=
  (evening_alone_1 x0 100000 [] 0).bind fun r12 =>
  some r12
def cs_evening_alone : Cs (Int × Unit) := (csC cdI csN)
def er_evening_alone (r : (List (List (List Int)))) : AV := (cdL 1 (cdL 1 (cdL 1 cdI))).enc r
set_option maxHeartbeats 4000000 in
set_option maxRecDepth 100000 in
theorem evening_alone_2_ok (x0 : Int) (c1 : (List (List (List Int)))) (c2 : Int) : ∀ (f : Nat) (c4 : (List (List Int))) (c5 : Int) (r : ((List (List Int)))), evening_alone_2 x0 c1 c2 f c4 c5 = some r → SemN e_evening_alone ⟨none, false⟩ (pc cb_evening_alone [1, 1, 0, 1, 0, 0, 1, 1, 0, 0, 1, 0, 1, 0, 0]) f ⟨Fr 24 [(0, .v (.int .i64 x0)), (3, hd 0 (c1.map (cdL 1 (cdL 1 cdI)).enc)), (4, hd 1 (c4.map (cdL 1 cdI).enc)), (6, .v (.int .i64 c2)), (8, .v (.int .i64 x0)), (9, .v (.int .i64 c5))], [mk 1 36 (c1.map (cdL 1 (cdL 1 cdI)).enc), mk 1 29 (c4.map (cdL 1 cdI).enc)]⟩ (fun e s => e = (.exit 2) ∧ Wk e_evening_alone s ⟨Fr 24 [(0, .v (.int .i64 x0)), (3, hd 0 (c1.map (cdL 1 (cdL 1 cdI)).enc)), (4, hd 1 (r.map (cdL 1 cdI).enc)), (6, .v (.int .i64 c2))], [mk 1 36 (c1.map (cdL 1 (cdL 1 cdI)).enc), mk 1 29 (r.map (cdL 1 cdI).enc)]⟩) := by
  intro f
  induction f with
  | zero => intro c4 c5 r h; cases h
  | succ f ih0 =>
    intro c4 c5 r h
    have ih := fun (c4 : (List (List Int))) (c5 : Int) => ih0 c4 c5 r
    unfold evening_alone_2 at h
    refine SemN.succ ?_
    refine Sem.seq ?_
    refine Sem.runS (s1 := ⟨Fr 24 [(0, .v (.int .i64 x0)), (3, hd 0 (c1.map (cdL 1 (cdL 1 cdI)).enc)), (4, hd 1 (c4.map (cdL 1 cdI).enc)), (6, .v (.int .i64 c2)), (8, .v (.int .i64 x0)), (9, .v (.int .i64 c5)), (10, .v (.bool (decide (c5 < x0))))], [mk 1 36 (c1.map (cdL 1 (cdL 1 cdI)).enc), mk 1 29 (c4.map (cdL 1 cdI).enc)]⟩) ?_ ?_
    · refine RunS.segF (n := 24) e_evening_alone_ok 1 [(0, .v (.int .i64 x0)), (3, hd 0 (c1.map (cdL 1 (cdL 1 cdI)).enc)), (4, hd 1 (c4.map (cdL 1 cdI).enc)), (6, .v (.int .i64 c2)), (8, .v (.int .i64 x0)), (9, .v (.int .i64 c5)), (10, .v (.bool (decide (c5 < x0))))] [mk 1 36 (c1.map (cdL 1 (cdL 1 cdI)).enc), mk 1 29 (c4.map (cdL 1 cdI).enc)] (by kernel_rfl) ?_
      exact RunS.done rfl (Wk.sel2 [0, 1] (by kernel_rfl) (by kernel_rfl) (by kernel_rfl) ⟨⟨_, rfl, bu_mk⟩, ⟨_, rfl, bu_mk⟩, trivial⟩ ⟨lu (by kernel_rfl) (by kernel_rfl), lu_hd (b' := 0) (by kernel_rfl) (by kernel_rfl), lu_hd (b' := 1) (by kernel_rfl) (by kernel_rfl), lu (by kernel_rfl) (by kernel_rfl), lu (by kernel_rfl) (by kernel_rfl), lu (by kernel_rfl) (by kernel_rfl), lu (by kernel_rfl) (by kernel_rfl), trivial⟩)
    refine Sem.seq ?_
    refine Sem.cond (b := (decide (c5 < x0))) (by kernel_rfl) (fun hb6 => ?_) (fun hb6 => ?_)
    · rw [if_pos hb6] at h
      refine Sem.skip ?_
      refine Sem.seq ?_
      refine Sem.block ?_
      refine Sem.seq ?_
      refine Sem.runS (s1 := ⟨Fr 24 [(0, .v (.int .i64 x0)), (3, hd 0 (c1.map (cdL 1 (cdL 1 cdI)).enc)), (4, hd 1 (c4.map (cdL 1 cdI).enc)), (5, .v (.int .i64 c5)), (6, .v (.int .i64 c2)), (8, .v (.int .i64 x0)), (9, .v (.int .i64 c5))], [mk 1 36 (c1.map (cdL 1 (cdL 1 cdI)).enc), mk 1 29 (c4.map (cdL 1 cdI).enc)]⟩) ?_ ?_
      · refine RunS.segF (n := 24) e_evening_alone_ok 2 [(0, .v (.int .i64 x0)), (3, hd 0 (c1.map (cdL 1 (cdL 1 cdI)).enc)), (4, hd 1 (c4.map (cdL 1 cdI).enc)), (5, .v (.int .i64 c5)), (6, .v (.int .i64 c2)), (8, .v (.int .i64 x0)), (9, .v (.int .i64 c5))] [mk 1 36 (c1.map (cdL 1 (cdL 1 cdI)).enc), mk 1 29 (c4.map (cdL 1 cdI).enc)] (by kernel_rfl) ?_
        exact RunS.done rfl (Wk.sel2 [0, 1] (by kernel_rfl) (by kernel_rfl) (by kernel_rfl) ⟨⟨_, rfl, bu_mk⟩, ⟨_, rfl, bu_mk⟩, trivial⟩ ⟨lu (by kernel_rfl) (by kernel_rfl), lu_hd (b' := 0) (by kernel_rfl) (by kernel_rfl), lu_hd (b' := 1) (by kernel_rfl) (by kernel_rfl), lu (by kernel_rfl) (by kernel_rfl), lu (by kernel_rfl) (by kernel_rfl), lu (by kernel_rfl) (by kernel_rfl), lu (by kernel_rfl) (by kernel_rfl), trivial⟩)
      by_cases hk7 : (capOk 24 (c4.length + 1)) = true
      case neg => rw [if_neg hk7] at h; cases h
      rw [if_pos hk7] at h
      refine Sem.runS (s1 := ⟨Fr 24 [(0, .v (.int .i64 x0)), (3, hd 0 (c1.map (cdL 1 (cdL 1 cdI)).enc)), (4, hd 1 ((c4 ++ [[c5]]).map (cdL 1 cdI).enc)), (6, .v (.int .i64 c2)), (8, .v (.int .i64 x0)), (9, .v (.int .i64 c5))], [mk 1 36 (c1.map (cdL 1 (cdL 1 cdI)).enc), mk 1 29 ((c4 ++ [[c5]]).map (cdL 1 cdI).enc)]⟩) ?_ ?_
      · refine RunS.segF (n := 24) e_evening_alone_ok 4 [(0, .v (.int .i64 x0)), (3, hd 0 (c1.map (cdL 1 (cdL 1 cdI)).enc)), (6, .v (.int .i64 c2)), (8, .v (.int .i64 x0)), (9, .v (.int .i64 c5)), (12, hd 1 (c4.map (cdL 1 cdI).enc)), (15, .rf 3 0 1 1)] [mk 1 36 (c1.map (cdL 1 (cdL 1 cdI)).enc), mk 1 29 (c4.map (cdL 1 cdI).enc), mk 1 3 ([c5].map cdI.enc), some ⟨1, 29, [hd 2 ([c5].map cdI.enc)], false⟩] (by kernel_rfl) ?_
        refine RunS.wk (s1 := ⟨Fr 24 [(0, .v (.int .i64 x0)), (3, hd 0 (c1.map (cdL 1 (cdL 1 cdI)).enc)), (6, .v (.int .i64 c2)), (8, .v (.int .i64 x0)), (9, .v (.int .i64 c5)), (12, hd 1 (c4.map (cdL 1 cdI).enc)), (15, hd 3 ([[c5]].map (cdL 1 cdI).enc))], [mk 1 36 (c1.map (cdL 1 (cdL 1 cdI)).enc), mk 1 29 (c4.map (cdL 1 cdI).enc), none, mk 1 29 ([[c5]].map (cdL 1 cdI).enc)]⟩) (Wk.frzG 2 (.inl (by kernel_rfl)) ⟨.inr (.inl rfl), .inr (.inl rfl), .inl rfl, .inr (.inr ⟨_, _, _, _, rfl, rfl, ⟨fz_hd (t := 3) (by kernel_rfl) enc_ok, trivial⟩⟩), trivial⟩ ⟨⟨.v (.int .i64 x0), (by kernel_rfl), .inl rfl⟩, ⟨hd 0 (c1.map (cdL 1 (cdL 1 cdI)).enc), (by kernel_rfl), .inl rfl⟩, ⟨.v (.int .i64 c2), (by kernel_rfl), .inl rfl⟩, ⟨.v (.int .i64 x0), (by kernel_rfl), .inl rfl⟩, ⟨.v (.int .i64 c5), (by kernel_rfl), .inl rfl⟩, ⟨hd 1 (c4.map (cdL 1 cdI).enc), (by kernel_rfl), .inl rfl⟩, ⟨.rf 3 0 1 1, (by kernel_rfl), .inl rfl⟩, trivial⟩) ?_
        refine RunS.one e_evening_alone_ok 0 rfl (op_w (wantedA_none rfl) rfl (by kernel_rfl) (by kernel_rfl) (w_append (a := hd 1 (c4.map (cdL 1 cdI).enc)) (b := hd 3 ([[c5]].map (cdL 1 cdI).enc)) (by kernel_rfl) (by kernel_rfl) (append_B (c := (cdL 1 cdI)) (xs := c4) (vs := [[c5]]) (k := 1) (bytes := 24) (el := 29) (by kernel_rfl) (by kernel_rfl) (elems_hd (t := 29) (by kernel_rfl)) (List.cons_ne_nil _ _) (by kernel_rfl) hk7))) ?_
        refine RunS.segF (n := 24) e_evening_alone_ok 1 [(0, .v (.int .i64 x0)), (3, hd 0 (c1.map (cdL 1 (cdL 1 cdI)).enc)), (4, hd 4 ((c4 ++ [[c5]]).map (cdL 1 cdI).enc)), (6, .v (.int .i64 c2)), (8, .v (.int .i64 x0)), (9, .v (.int .i64 c5))] [mk 1 36 (c1.map (cdL 1 (cdL 1 cdI)).enc), none, none, mk 1 29 ([[c5]].map (cdL 1 cdI).enc), mk 1 29 ((c4 ++ [[c5]]).map (cdL 1 cdI).enc)] (by kernel_rfl) ?_
        exact RunS.done rfl (Wk.sel2 [0, 4] (by kernel_rfl) (by kernel_rfl) (by kernel_rfl) ⟨⟨_, rfl, bu_mk⟩, ⟨_, rfl, bu_mk⟩, trivial⟩ ⟨lu (by kernel_rfl) (by kernel_rfl), lu_hd (b' := 0) (by kernel_rfl) (by kernel_rfl), lu_hd (b' := 4) (by kernel_rfl) (by kernel_rfl), lu (by kernel_rfl) (by kernel_rfl), lu (by kernel_rfl) (by kernel_rfl), lu (by kernel_rfl) (by kernel_rfl), trivial⟩)
      refine Sem.runS (s1 := ⟨Fr 24 [(0, .v (.int .i64 x0)), (3, hd 0 (c1.map (cdL 1 (cdL 1 cdI)).enc)), (4, hd 1 ((c4 ++ [[c5]]).map (cdL 1 cdI).enc)), (6, .v (.int .i64 c2)), (8, .v (.int .i64 x0)), (9, .v (.int .i64 (wr .i64 (c5 + 1))))], [mk 1 36 (c1.map (cdL 1 (cdL 1 cdI)).enc), mk 1 29 ((c4 ++ [[c5]]).map (cdL 1 cdI).enc)]⟩) ?_ ?_
      · refine RunS.segF (n := 24) e_evening_alone_ok 2 [(0, .v (.int .i64 x0)), (3, hd 0 (c1.map (cdL 1 (cdL 1 cdI)).enc)), (4, hd 1 ((c4 ++ [[c5]]).map (cdL 1 cdI).enc)), (6, .v (.int .i64 c2)), (8, .v (.int .i64 x0)), (9, .v (.int .i64 (wr .i64 (c5 + 1))))] [mk 1 36 (c1.map (cdL 1 (cdL 1 cdI)).enc), mk 1 29 ((c4 ++ [[c5]]).map (cdL 1 cdI).enc)] (by kernel_rfl) ?_
        exact RunS.done rfl (Wk.sel2 [0, 1] (by kernel_rfl) (by kernel_rfl) (by kernel_rfl) ⟨⟨_, rfl, bu_mk⟩, ⟨_, rfl, bu_mk⟩, trivial⟩ ⟨lu (by kernel_rfl) (by kernel_rfl), lu_hd (b' := 0) (by kernel_rfl) (by kernel_rfl), lu_hd (b' := 1) (by kernel_rfl) (by kernel_rfl), lu (by kernel_rfl) (by kernel_rfl), lu (by kernel_rfl) (by kernel_rfl), lu (by kernel_rfl) (by kernel_rfl), trivial⟩)
      exact SemN.wk (s1 := ⟨Fr 24 [(0, .v (.int .i64 x0)), (3, hd 0 (c1.map (cdL 1 (cdL 1 cdI)).enc)), (4, hd 1 ((c4 ++ [[c5]]).map (cdL 1 cdI).enc)), (6, .v (.int .i64 c2)), (8, .v (.int .i64 x0)), (9, .v (.int .i64 (wr .i64 (c5 + 1))))], [mk 1 36 (c1.map (cdL 1 (cdL 1 cdI)).enc), mk 1 29 ((c4 ++ [[c5]]).map (cdL 1 cdI).enc)]⟩) (Wk.sel2 [0, 1] (by kernel_rfl) (by kernel_rfl) (by kernel_rfl) ⟨⟨_, rfl, bu_mk⟩, ⟨_, rfl, bu_mk⟩, trivial⟩ ⟨lu (by kernel_rfl) (by kernel_rfl), lu_hd (b' := 0) (by kernel_rfl) (by kernel_rfl), lu_hd (b' := 1) (by kernel_rfl) (by kernel_rfl), lu (by kernel_rfl) (by kernel_rfl), lu (by kernel_rfl) (by kernel_rfl), lu (by kernel_rfl) (by kernel_rfl), trivial⟩) (ih (c4 ++ [[c5]]) (wr .i64 (c5 + 1)) h)
    · rw [if_f hb6] at h
      refine Sem.exit ?_
      have hq := Option.some.inj h; subst hq
      exact ⟨rfl, (Wk.sel2 [0, 1] (by kernel_rfl) (by kernel_rfl) (by kernel_rfl) ⟨⟨_, rfl, bu_mk⟩, ⟨_, rfl, bu_mk⟩, trivial⟩ ⟨lu (by kernel_rfl) (by kernel_rfl), lu_hd (b' := 0) (by kernel_rfl) (by kernel_rfl), lu_hd (b' := 1) (by kernel_rfl) (by kernel_rfl), lu (by kernel_rfl) (by kernel_rfl), trivial⟩)⟩
set_option maxHeartbeats 4000000 in
set_option maxRecDepth 100000 in
theorem evening_alone_1_ok (x0 : Int) : ∀ (f : Nat) (c1 : (List (List (List Int)))) (c2 : Int) (r : ((List (List (List Int))))), evening_alone_1 x0 f c1 c2 = some r → SemN e_evening_alone ⟨none, false⟩ (pc cb_evening_alone [1, 1, 0, 1, 0, 0]) f ⟨Fr 24 [(0, .v (.int .i64 x0)), (3, hd 0 (c1.map (cdL 1 (cdL 1 cdI)).enc)), (6, .v (.int .i64 c2))], [mk 1 36 (c1.map (cdL 1 (cdL 1 cdI)).enc)]⟩ (fun e s => e = (.exit 0) ∧ Wk e_evening_alone s ⟨Fr 24 [(3, hd 0 (r.map (cdL 1 (cdL 1 cdI)).enc))], [mk 1 36 (r.map (cdL 1 (cdL 1 cdI)).enc)]⟩) := by
  intro f
  induction f with
  | zero => intro c1 c2 r h; cases h
  | succ f ih0 =>
    intro c1 c2 r h
    have ih := fun (c1 : (List (List (List Int)))) (c2 : Int) => ih0 c1 c2 r
    unfold evening_alone_1 at h
    refine SemN.succ ?_
    refine Sem.seq ?_
    refine Sem.runS (s1 := ⟨Fr 24 [(0, .v (.int .i64 x0)), (3, hd 0 (c1.map (cdL 1 (cdL 1 cdI)).enc)), (6, .v (.int .i64 c2)), (7, .v (.bool (decide (c2 < 64))))], [mk 1 36 (c1.map (cdL 1 (cdL 1 cdI)).enc)]⟩) ?_ ?_
    · refine RunS.segF (n := 24) e_evening_alone_ok 1 [(0, .v (.int .i64 x0)), (3, hd 0 (c1.map (cdL 1 (cdL 1 cdI)).enc)), (6, .v (.int .i64 c2)), (7, .v (.bool (decide (c2 < 64))))] [mk 1 36 (c1.map (cdL 1 (cdL 1 cdI)).enc)] (by kernel_rfl) ?_
      exact RunS.done rfl (Wk.sel2 [0] (by kernel_rfl) (by kernel_rfl) (by kernel_rfl) ⟨⟨_, rfl, bu_mk⟩, trivial⟩ ⟨lu (by kernel_rfl) (by kernel_rfl), lu_hd (b' := 0) (by kernel_rfl) (by kernel_rfl), lu (by kernel_rfl) (by kernel_rfl), lu (by kernel_rfl) (by kernel_rfl), trivial⟩)
    refine Sem.seq ?_
    refine Sem.cond (b := (decide (c2 < 64))) (by kernel_rfl) (fun hb3 => ?_) (fun hb3 => ?_)
    · rw [if_pos hb3] at h
      refine Sem.skip ?_
      refine Sem.seq ?_
      refine Sem.block ?_
      refine Sem.seq ?_
      refine Sem.runS (s1 := ⟨Fr 24 [(0, .v (.int .i64 x0)), (3, hd 0 (c1.map (cdL 1 (cdL 1 cdI)).enc)), (4, .e0), (6, .v (.int .i64 c2))], [mk 1 36 (c1.map (cdL 1 (cdL 1 cdI)).enc)]⟩) ?_ ?_
      · refine RunS.segF (n := 24) e_evening_alone_ok 1 [(0, .v (.int .i64 x0)), (3, hd 0 (c1.map (cdL 1 (cdL 1 cdI)).enc)), (4, .e0), (6, .v (.int .i64 c2))] [mk 1 36 (c1.map (cdL 1 (cdL 1 cdI)).enc)] (by kernel_rfl) ?_
        exact RunS.done rfl (Wk.sel2 [0] (by kernel_rfl) (by kernel_rfl) (by kernel_rfl) ⟨⟨_, rfl, bu_mk⟩, trivial⟩ ⟨lu (by kernel_rfl) (by kernel_rfl), lu_hd (b' := 0) (by kernel_rfl) (by kernel_rfl), lu (by kernel_rfl) (by kernel_rfl), lu (by kernel_rfl) (by kernel_rfl), trivial⟩)
      refine Sem.seq ?_
      refine Sem.seq ?_
      refine Sem.runS (s1 := ⟨Fr 24 [(0, .v (.int .i64 x0)), (3, hd 0 (c1.map (cdL 1 (cdL 1 cdI)).enc)), (4, .e0), (6, .v (.int .i64 c2)), (8, .v (.int .i64 x0)), (9, .v (.int .i64 0))], [mk 1 36 (c1.map (cdL 1 (cdL 1 cdI)).enc)]⟩) ?_ ?_
      · refine RunS.segF (n := 24) e_evening_alone_ok 2 [(0, .v (.int .i64 x0)), (3, hd 0 (c1.map (cdL 1 (cdL 1 cdI)).enc)), (4, .e0), (6, .v (.int .i64 c2)), (8, .v (.int .i64 x0)), (9, .v (.int .i64 0))] [mk 1 36 (c1.map (cdL 1 (cdL 1 cdI)).enc)] (by kernel_rfl) ?_
        exact RunS.done rfl (Wk.sel2 [0] (by kernel_rfl) (by kernel_rfl) (by kernel_rfl) ⟨⟨_, rfl, bu_mk⟩, trivial⟩ ⟨lu (by kernel_rfl) (by kernel_rfl), lu_hd (b' := 0) (by kernel_rfl) (by kernel_rfl), lu (by kernel_rfl) (by kernel_rfl), lu (by kernel_rfl) (by kernel_rfl), lu (by kernel_rfl) (by kernel_rfl), lu (by kernel_rfl) (by kernel_rfl), trivial⟩)
      refine Sem.block ?_
      obtain ⟨r9, hr9, h⟩ := Option.bind_eq_some_iff.1 h
      refine Sem.loop (n := 100000) ?_
      refine Sem.cutN (SemN.wk (s1 := ⟨Fr 24 [(0, .v (.int .i64 x0)), (3, hd 0 (c1.map (cdL 1 (cdL 1 cdI)).enc)), (4, hd 1 ([].map (cdL 1 cdI).enc)), (6, .v (.int .i64 c2)), (8, .v (.int .i64 x0)), (9, .v (.int .i64 0))], [mk 1 36 (c1.map (cdL 1 (cdL 1 cdI)).enc), mk 1 29 ([].map (cdL 1 cdI).enc)]⟩) (Wk.trans (s1 := ⟨Fr 24 [(0, .v (.int .i64 x0)), (3, hd 0 (c1.map (cdL 1 (cdL 1 cdI)).enc)), (4, hd 1 ([].map (cdL 1 cdI).enc)), (6, .v (.int .i64 c2)), (8, .v (.int .i64 x0)), (9, .v (.int .i64 0))], [mk 1 36 (c1.map (cdL 1 (cdL 1 cdI)).enc), mk 1 29 ([].map (cdL 1 cdI).enc)]⟩) Wk.none (Wk.sel2 [0, 1] (by kernel_rfl) (by kernel_rfl) (by kernel_rfl) ⟨⟨_, rfl, bu_mk⟩, ⟨_, rfl, bu_none⟩, trivial⟩ ⟨lu (by kernel_rfl) (by kernel_rfl), lu_hd (b' := 0) (by kernel_rfl) (by kernel_rfl), lu (by kernel_rfl) (by kernel_rfl), lu (by kernel_rfl) (by kernel_rfl), lu (by kernel_rfl) (by kernel_rfl), lu (by kernel_rfl) (by kernel_rfl), trivial⟩)) (evening_alone_2_ok x0 c1 c2 _ [] 0 _ hr9)) ?_
      by_cases hk10 : (capOk 24 (c1.length + 1)) = true
      case neg => rw [if_neg hk10] at h; cases h
      rw [if_pos hk10] at h
      refine Sem.runS (s1 := ⟨Fr 24 [(0, .v (.int .i64 x0)), (3, hd 0 ((c1 ++ [r9]).map (cdL 1 (cdL 1 cdI)).enc)), (6, .v (.int .i64 c2))], [mk 1 36 ((c1 ++ [r9]).map (cdL 1 (cdL 1 cdI)).enc)]⟩) ?_ ?_
      · refine RunS.segF (n := 24) e_evening_alone_ok 2 [(0, .v (.int .i64 x0)), (6, .v (.int .i64 c2)), (18, hd 0 (c1.map (cdL 1 (cdL 1 cdI)).enc)), (19, hd 1 (r9.map (cdL 1 cdI).enc))] [mk 1 36 (c1.map (cdL 1 (cdL 1 cdI)).enc), mk 1 29 (r9.map (cdL 1 cdI).enc)] (by kernel_rfl) ?_
        refine RunS.wk (s1 := ⟨Fr 24 [(0, .v (.int .i64 x0)), (6, .v (.int .i64 c2)), (18, hd 0 (c1.map (cdL 1 (cdL 1 cdI)).enc)), (19, .sl 1 (r9.map (cdL 1 cdI).enc))], [mk 1 36 (c1.map (cdL 1 (cdL 1 cdI)).enc), none]⟩) (Wk.frzG 1 (.inl (by kernel_rfl)) ⟨.inr (.inl rfl), .inl rfl, trivial⟩ ⟨⟨.v (.int .i64 x0), (by kernel_rfl), .inl rfl⟩, ⟨.v (.int .i64 c2), (by kernel_rfl), .inl rfl⟩, ⟨hd 0 (c1.map (cdL 1 (cdL 1 cdI)).enc), (by kernel_rfl), .inl rfl⟩, ⟨hd 1 (r9.map (cdL 1 cdI).enc), (by kernel_rfl), fz_hd (t := 29) (by kernel_rfl) enc_ok⟩, trivial⟩) ?_
        refine RunS.segF (n := 24) e_evening_alone_ok 1 [(0, .v (.int .i64 x0)), (6, .v (.int .i64 c2)), (18, hd 0 (c1.map (cdL 1 (cdL 1 cdI)).enc)), (20, hd 2 ([r9].map (cdL 1 (cdL 1 cdI)).enc))] [mk 1 36 (c1.map (cdL 1 (cdL 1 cdI)).enc), none, mk 1 36 ([r9].map (cdL 1 (cdL 1 cdI)).enc)] (by kernel_rfl) ?_
        refine RunS.one e_evening_alone_ok 0 rfl (op_w (wantedA_none rfl) rfl (by kernel_rfl) (by kernel_rfl) (w_append (a := hd 0 (c1.map (cdL 1 (cdL 1 cdI)).enc)) (b := hd 2 ([r9].map (cdL 1 (cdL 1 cdI)).enc)) (by kernel_rfl) (by kernel_rfl) (append_B (c := (cdL 1 (cdL 1 cdI))) (xs := c1) (vs := [r9]) (k := 1) (bytes := 24) (el := 36) (by kernel_rfl) (by kernel_rfl) (elems_hd (t := 36) (by kernel_rfl)) (List.cons_ne_nil _ _) (by kernel_rfl) hk10))) ?_
        refine RunS.segF (n := 24) e_evening_alone_ok 1 [(0, .v (.int .i64 x0)), (3, hd 3 ((c1 ++ [r9]).map (cdL 1 (cdL 1 cdI)).enc)), (6, .v (.int .i64 c2))] [none, none, mk 1 36 ([r9].map (cdL 1 (cdL 1 cdI)).enc), mk 1 36 ((c1 ++ [r9]).map (cdL 1 (cdL 1 cdI)).enc)] (by kernel_rfl) ?_
        exact RunS.done rfl (Wk.sel2 [3] (by kernel_rfl) (by kernel_rfl) (by kernel_rfl) ⟨⟨_, rfl, bu_mk⟩, trivial⟩ ⟨lu (by kernel_rfl) (by kernel_rfl), lu_hd (b' := 3) (by kernel_rfl) (by kernel_rfl), lu (by kernel_rfl) (by kernel_rfl), trivial⟩)
      refine Sem.runS (s1 := ⟨Fr 24 [(0, .v (.int .i64 x0)), (3, hd 0 ((c1 ++ [r9]).map (cdL 1 (cdL 1 cdI)).enc)), (6, .v (.int .i64 (wr .i64 (c2 + 1))))], [mk 1 36 ((c1 ++ [r9]).map (cdL 1 (cdL 1 cdI)).enc)]⟩) ?_ ?_
      · refine RunS.segF (n := 24) e_evening_alone_ok 2 [(0, .v (.int .i64 x0)), (3, hd 0 ((c1 ++ [r9]).map (cdL 1 (cdL 1 cdI)).enc)), (6, .v (.int .i64 (wr .i64 (c2 + 1))))] [mk 1 36 ((c1 ++ [r9]).map (cdL 1 (cdL 1 cdI)).enc)] (by kernel_rfl) ?_
        exact RunS.done rfl (Wk.sel2 [0] (by kernel_rfl) (by kernel_rfl) (by kernel_rfl) ⟨⟨_, rfl, bu_mk⟩, trivial⟩ ⟨lu (by kernel_rfl) (by kernel_rfl), lu_hd (b' := 0) (by kernel_rfl) (by kernel_rfl), lu (by kernel_rfl) (by kernel_rfl), trivial⟩)
      exact SemN.wk (s1 := ⟨Fr 24 [(0, .v (.int .i64 x0)), (3, hd 0 ((c1 ++ [r9]).map (cdL 1 (cdL 1 cdI)).enc)), (6, .v (.int .i64 (wr .i64 (c2 + 1))))], [mk 1 36 ((c1 ++ [r9]).map (cdL 1 (cdL 1 cdI)).enc)]⟩) (Wk.sel2 [0] (by kernel_rfl) (by kernel_rfl) (by kernel_rfl) ⟨⟨_, rfl, bu_mk⟩, trivial⟩ ⟨lu (by kernel_rfl) (by kernel_rfl), lu_hd (b' := 0) (by kernel_rfl) (by kernel_rfl), lu (by kernel_rfl) (by kernel_rfl), trivial⟩) (ih (c1 ++ [r9]) (wr .i64 (c2 + 1)) h)
    · rw [if_f hb3] at h
      refine Sem.exit ?_
      have hq := Option.some.inj h; subst hq
      exact ⟨rfl, (Wk.sel2 [0] (by kernel_rfl) (by kernel_rfl) (by kernel_rfl) ⟨⟨_, rfl, bu_mk⟩, trivial⟩ ⟨lu_hd (b' := 0) (by kernel_rfl) (by kernel_rfl), trivial⟩)⟩
set_option maxHeartbeats 4000000 in
set_option maxRecDepth 100000 in
theorem evening_alone_sem (x0 : Int) (r : (List (List (List Int)))) (h : evening_alone x0 = some r) : Sem e_evening_alone ⟨none, false⟩ cb_evening_alone ⟨Fr 24 (pairs0 0 (cs_evening_alone.enc (x0, ()))), []⟩ fun e s' => (e = .normal ∨ e = .ret) ∧ ∃ xs, resA e_evening_alone.P s'.fr s'.hp Tryd.f36.results.toList = some xs ∧ retA xs = er_evening_alone r := by
  unfold evening_alone at h
  refine Sem.wkQ (Sem.wk (s1 := ⟨Fr 24 [(0, .v (.int .i64 x0))], []⟩) (Wk.fr (by kernel_rfl)) ?_)
  refine Sem.seq ?_
  refine Sem.runS (s1 := ⟨Fr 24 [(0, .v (.int .i64 x0))], []⟩) ?_ ?_
  · refine RunS.segF (n := 24) e_evening_alone_ok 1 [(0, .v (.int .i64 x0))] [] (by kernel_rfl) ?_
    exact RunS.done rfl (Wk.fr (by kernel_rfl))
  refine Sem.seq ?_
  refine Sem.runS (s1 := ⟨Fr 24 [(0, .v (.int .i64 x0)), (3, .e0)], []⟩) ?_ ?_
  · refine RunS.segF (n := 24) e_evening_alone_ok 1 [(0, .v (.int .i64 x0)), (3, .e0)] [] (by kernel_rfl) ?_
    exact RunS.done rfl (Wk.fr (by kernel_rfl))
  refine Sem.seq ?_
  refine Sem.seq ?_
  refine Sem.runS (s1 := ⟨Fr 24 [(0, .v (.int .i64 x0)), (3, .e0), (6, .v (.int .i64 0))], []⟩) ?_ ?_
  · refine RunS.segF (n := 24) e_evening_alone_ok 1 [(0, .v (.int .i64 x0)), (3, .e0), (6, .v (.int .i64 0))] [] (by kernel_rfl) ?_
    exact RunS.done rfl (Wk.fr (by kernel_rfl))
  refine Sem.block ?_
  obtain ⟨r12, hr12, h⟩ := Option.bind_eq_some_iff.1 h
  refine Sem.loop (n := 100000) ?_
  refine Sem.cutN (SemN.wk (s1 := ⟨Fr 24 [(0, .v (.int .i64 x0)), (3, hd 0 ([].map (cdL 1 (cdL 1 cdI)).enc)), (6, .v (.int .i64 0))], [mk 1 36 ([].map (cdL 1 (cdL 1 cdI)).enc)]⟩) (Wk.trans (s1 := ⟨Fr 24 [(0, .v (.int .i64 x0)), (3, hd 0 ([].map (cdL 1 (cdL 1 cdI)).enc)), (6, .v (.int .i64 0))], [mk 1 36 ([].map (cdL 1 (cdL 1 cdI)).enc)]⟩) Wk.none (Wk.sel2 [0] (by kernel_rfl) (by kernel_rfl) (by kernel_rfl) ⟨⟨_, rfl, bu_none⟩, trivial⟩ ⟨lu (by kernel_rfl) (by kernel_rfl), lu (by kernel_rfl) (by kernel_rfl), lu (by kernel_rfl) (by kernel_rfl), trivial⟩)) (evening_alone_1_ok x0 _ [] 0 _ hr12)) ?_
  refine Sem.seq ?_
  refine Sem.runS (s1 := ⟨Fr 24 [(2, hd 0 (r12.map (cdL 1 (cdL 1 cdI)).enc))], [mk 1 36 (r12.map (cdL 1 (cdL 1 cdI)).enc)]⟩) ?_ ?_
  · refine RunS.segF (n := 24) e_evening_alone_ok 2 [(2, hd 0 (r12.map (cdL 1 (cdL 1 cdI)).enc))] [mk 1 36 (r12.map (cdL 1 (cdL 1 cdI)).enc)] (by kernel_rfl) ?_
    exact RunS.done rfl (Wk.sel2 [0] (by kernel_rfl) (by kernel_rfl) (by kernel_rfl) ⟨⟨_, rfl, bu_mk⟩, trivial⟩ ⟨lu_hd (b' := 0) (by kernel_rfl) (by kernel_rfl), trivial⟩)
  refine Sem.ret ?_
  have hq := Option.some.inj h; subst hq
  exact ⟨⟨Fr 24 [(2, .sl 1 (r12.map (cdL 1 (cdL 1 cdI)).enc))], []⟩, (Wk.trans (s1 := ⟨Fr 24 [(2, .sl 1 (r12.map (cdL 1 (cdL 1 cdI)).enc))], [none]⟩) (Wk.frzG 0 (.inl (by kernel_rfl)) ⟨.inl rfl, trivial⟩ ⟨⟨hd 0 (r12.map (cdL 1 (cdL 1 cdI)).enc), (by kernel_rfl), fz_hd (t := 36) (by kernel_rfl) enc_ok⟩, trivial⟩) (Wk.sel2 [] (by kernel_rfl) (by kernel_rfl) (by kernel_rfl) trivial ⟨lu (by kernel_rfl) (by kernel_rfl), trivial⟩)), .inr rfl, [.sl 1 (r12.map (cdL 1 (cdL 1 cdI)).enc)], (by kernel_rfl), (by kernel_rfl)⟩
def t_evening_alone : List AV → Option AV := told cs_evening_alone (fun a => evening_alone a.1) er_evening_alone
theorem x_evening_alone : XOk 36 t_evening_alone := by
  refine EnvOk.x (E := e_evening_alone) (contract_ok e_evening_alone_ok (fn := Tryd.f36) (c := cb_evening_alone) ?h1 ?h2 ⟨Tryd.call36⟩ cs_evening_alone (fun a => evening_alone a.1) er_evening_alone (fun a => (by show 1 ≤ 24; decide)) ?h3 ?h4) rfl rfl
  case h1 => kernel_rfl
  case h2 => kernel_rfl
  case h3 => intro b; kernel_rfl
  case h4 => exact fun a b h => evening_alone_sem a.1 b h
end Go.Proofs.YtnmkejapogklmaaDoor

namespace Go.Proofs.YtnmkejapogklmaaDoor
open Go.RowKit
/- trestle/evening.Pairs -/
noncomputable def e_evening_Pairs : Env := E0
theorem e_evening_Pairs_ok : EnvOk e_evening_Pairs := E0_ok
noncomputable def cb_evening_Pairs : Code := codeOf Tryd.f29
def evening_Pairs_j2 (x0 : Int) (c4 : (List (List (List Int)))) (c5 : Int) : Option (((List (List Int)))) :=
  if ((x0.tmod 2) == 1) = true then
  some [[c5]]
  else
  some [[(wr .i64 ((wr .i64 (x0 + (x0.tmod 2))) - 1)), c5]]
def evening_Pairs_3 (x0 : Int) (c4 : (List (List (List Int)))) (c5 : Int) : Nat → (List (List Int)) → Int → Option (((List (List Int))))
  | 0, _, _ => none
  | f + 1, c10, c11 =>
    if (decide (c11 < (wr .i64 ((wr .i64 (x0 + (x0.tmod 2))).tdiv 2)))) = true then
    if (wr .i64 ((wr .i64 (x0 + (x0.tmod 2))) - 1)) = (0 : Int) then none else
    if (wr .i64 ((wr .i64 (x0 + (x0.tmod 2))) - 1)) = (0 : Int) then none else
    if (capOk 24 (c10.length + 1)) = true then
    evening_Pairs_3 x0 c4 c5 f (c10 ++ [[((wr .i64 (c5 + c11)).tmod (wr .i64 ((wr .i64 (x0 + (x0.tmod 2))) - 1))), ((wr .i64 ((wr .i64 ((wr .i64 (c5 - c11)) + (wr .i64 (x0 + (x0.tmod 2))))) - 1)).tmod (wr .i64 ((wr .i64 (x0 + (x0.tmod 2))) - 1)))]]) (wr .i64 (c11 + 1))
    else none
    else
    some c10
def evening_Pairs_1 (x0 : Int) : Nat → (List (List (List Int))) → Int → Option (((List (List (List Int)))))
  | 0, _, _ => none
  | f + 1, c4, c5 =>
    if (decide (c5 < (wr .i64 ((wr .i64 (x0 + (x0.tmod 2))) - 1)))) = true then
    (evening_Pairs_j2 x0 c4 c5).bind fun r9 =>
    (evening_Pairs_3 x0 c4 c5 100000 r9 1).bind fun r17 =>
    if (capOk 24 (c4.length + 1)) = true then
    evening_Pairs_1 x0 f (c4 ++ [r17]) (wr .i64 (c5 + 1))
    else none
    else
    some c4
def evening_Pairs (x0 : Int) : Option ((List (List (List Int))) × Int) :=
  (if (decide (x0 < 2)) = true then some true else some (decide (x0 > 64))).bind fun j2 =>
  if j2 = true then
  some ([], 90)
  else
  (evening_Pairs_1 x0 100000 [] 0).bind fun r20 =>
  some (r20, 0)
def cs_evening_Pairs : Cs (Int × Unit) := (csC cdI csN)
def er_evening_Pairs (r : (List (List (List Int))) × Int) : AV := .tp [(cdL 1 (cdL 1 (cdL 1 cdI))).enc r.1, cdI.enc r.2]
set_option maxHeartbeats 4000000 in
set_option maxRecDepth 100000 in
theorem evening_Pairs_j2_ok (x0 : Int) (c4 : (List (List (List Int)))) (c5 : Int) (r : ((List (List Int)))) (h : evening_Pairs_j2 x0 c4 c5 = some r) : Sem e_evening_Pairs ⟨none, false⟩ (pc cb_evening_Pairs [1, 1, 1, 1, 0, 1, 0, 0, 1, 1, 0, 0, 1, 1, 0, 1]) ⟨Fr 66 [(0, .v (.int .i64 x0)), (4, .v (.int .i64 (wr .i64 (x0 + (x0.tmod 2))))), (5, hd 0 (c4.map (cdL 1 (cdL 1 cdI)).enc)), (6, .v (.int .i64 c5)), (7, hd 1 ([[(wr .i64 ((wr .i64 (x0 + (x0.tmod 2))) - 1)), c5]].map (cdL 1 cdI).enc)), (20, .v (.int .i64 (wr .i64 ((wr .i64 (x0 + (x0.tmod 2))) - 1)))), (21, .v (.int .i64 c5)), (31, .v (.bool ((x0.tmod 2) == 1)))], [mk 1 36 (c4.map (cdL 1 (cdL 1 cdI)).enc), mk 1 29 ([[(wr .i64 ((wr .i64 (x0 + (x0.tmod 2))) - 1)), c5]].map (cdL 1 cdI).enc)]⟩ (fun e s => e = .normal ∧ Wk e_evening_Pairs s ⟨Fr 66 [(0, .v (.int .i64 x0)), (4, .v (.int .i64 (wr .i64 (x0 + (x0.tmod 2))))), (5, hd 0 (c4.map (cdL 1 (cdL 1 cdI)).enc)), (6, .v (.int .i64 c5)), (7, hd 1 (r.map (cdL 1 cdI).enc)), (20, .v (.int .i64 (wr .i64 ((wr .i64 (x0 + (x0.tmod 2))) - 1)))), (21, .v (.int .i64 c5))], [mk 1 36 (c4.map (cdL 1 (cdL 1 cdI)).enc), mk 1 29 (r.map (cdL 1 cdI).enc)]⟩) := by
  unfold evening_Pairs_j2 at h
  refine Sem.cond (b := ((x0.tmod 2) == 1)) (by kernel_rfl) (fun hb7 => ?_) (fun hb7 => ?_)
  · rw [if_pos hb7] at h
    refine Sem.runS (s1 := ⟨Fr 66 [(0, .v (.int .i64 x0)), (4, .v (.int .i64 (wr .i64 (x0 + (x0.tmod 2))))), (5, hd 0 (c4.map (cdL 1 (cdL 1 cdI)).enc)), (6, .v (.int .i64 c5)), (7, hd 1 ([[c5]].map (cdL 1 cdI).enc)), (20, .v (.int .i64 (wr .i64 ((wr .i64 (x0 + (x0.tmod 2))) - 1)))), (21, .v (.int .i64 c5))], [mk 1 36 (c4.map (cdL 1 (cdL 1 cdI)).enc), mk 1 29 ([[c5]].map (cdL 1 cdI).enc)]⟩) ?_ ?_
    · refine RunS.segF (n := 66) e_evening_Pairs_ok 4 [(0, .v (.int .i64 x0)), (4, .v (.int .i64 (wr .i64 (x0 + (x0.tmod 2))))), (5, hd 0 (c4.map (cdL 1 (cdL 1 cdI)).enc)), (6, .v (.int .i64 c5)), (7, .rf 3 0 1 1), (20, .v (.int .i64 (wr .i64 ((wr .i64 (x0 + (x0.tmod 2))) - 1)))), (21, .v (.int .i64 c5))] [mk 1 36 (c4.map (cdL 1 (cdL 1 cdI)).enc), mk 1 29 ([[(wr .i64 ((wr .i64 (x0 + (x0.tmod 2))) - 1)), c5]].map (cdL 1 cdI).enc), mk 1 3 ([c5].map cdI.enc), some ⟨1, 29, [hd 2 ([c5].map cdI.enc)], false⟩] (by kernel_rfl) ?_
      exact RunS.done rfl (Wk.trans (s1 := ⟨Fr 66 [(0, .v (.int .i64 x0)), (4, .v (.int .i64 (wr .i64 (x0 + (x0.tmod 2))))), (5, hd 0 (c4.map (cdL 1 (cdL 1 cdI)).enc)), (6, .v (.int .i64 c5)), (7, hd 3 ([[c5]].map (cdL 1 cdI).enc)), (20, .v (.int .i64 (wr .i64 ((wr .i64 (x0 + (x0.tmod 2))) - 1)))), (21, .v (.int .i64 c5))], [mk 1 36 (c4.map (cdL 1 (cdL 1 cdI)).enc), mk 1 29 ([[(wr .i64 ((wr .i64 (x0 + (x0.tmod 2))) - 1)), c5]].map (cdL 1 cdI).enc), none, mk 1 29 ([[c5]].map (cdL 1 cdI).enc)]⟩) (Wk.frzG 2 (.inl (by kernel_rfl)) ⟨.inr (.inl rfl), .inr (.inl rfl), .inl rfl, .inr (.inr ⟨_, _, _, _, rfl, rfl, ⟨fz_hd (t := 3) (by kernel_rfl) enc_ok, trivial⟩⟩), trivial⟩ ⟨⟨.v (.int .i64 x0), (by kernel_rfl), .inl rfl⟩, ⟨.v (.int .i64 (wr .i64 (x0 + (x0.tmod 2)))), (by kernel_rfl), .inl rfl⟩, ⟨hd 0 (c4.map (cdL 1 (cdL 1 cdI)).enc), (by kernel_rfl), .inl rfl⟩, ⟨.v (.int .i64 c5), (by kernel_rfl), .inl rfl⟩, ⟨.rf 3 0 1 1, (by kernel_rfl), .inl rfl⟩, ⟨.v (.int .i64 (wr .i64 ((wr .i64 (x0 + (x0.tmod 2))) - 1))), (by kernel_rfl), .inl rfl⟩, ⟨.v (.int .i64 c5), (by kernel_rfl), .inl rfl⟩, trivial⟩) (Wk.sel2 [0, 3] (by kernel_rfl) (by kernel_rfl) (by kernel_rfl) ⟨⟨_, rfl, bu_mk⟩, ⟨_, rfl, bu_mk⟩, trivial⟩ ⟨lu (by kernel_rfl) (by kernel_rfl), lu (by kernel_rfl) (by kernel_rfl), lu_hd (b' := 0) (by kernel_rfl) (by kernel_rfl), lu (by kernel_rfl) (by kernel_rfl), lu_hd (b' := 3) (by kernel_rfl) (by kernel_rfl), lu (by kernel_rfl) (by kernel_rfl), lu (by kernel_rfl) (by kernel_rfl), trivial⟩))
    have hq := Option.some.inj h; subst hq
    exact ⟨rfl, (Wk.sel2 [0, 1] (by kernel_rfl) (by kernel_rfl) (by kernel_rfl) ⟨⟨_, rfl, bu_mk⟩, ⟨_, rfl, bu_mk⟩, trivial⟩ ⟨lu (by kernel_rfl) (by kernel_rfl), lu (by kernel_rfl) (by kernel_rfl), lu_hd (b' := 0) (by kernel_rfl) (by kernel_rfl), lu (by kernel_rfl) (by kernel_rfl), lu_hd (b' := 1) (by kernel_rfl) (by kernel_rfl), lu (by kernel_rfl) (by kernel_rfl), lu (by kernel_rfl) (by kernel_rfl), trivial⟩)⟩
  · rw [if_f hb7] at h
    refine Sem.skip ?_
    have hq := Option.some.inj h; subst hq
    exact ⟨rfl, (Wk.sel2 [0, 1] (by kernel_rfl) (by kernel_rfl) (by kernel_rfl) ⟨⟨_, rfl, bu_mk⟩, ⟨_, rfl, bu_mk⟩, trivial⟩ ⟨lu (by kernel_rfl) (by kernel_rfl), lu (by kernel_rfl) (by kernel_rfl), lu_hd (b' := 0) (by kernel_rfl) (by kernel_rfl), lu (by kernel_rfl) (by kernel_rfl), lu_hd (b' := 1) (by kernel_rfl) (by kernel_rfl), lu (by kernel_rfl) (by kernel_rfl), lu (by kernel_rfl) (by kernel_rfl), trivial⟩)⟩
set_option maxHeartbeats 4000000 in
set_option maxRecDepth 100000 in
theorem evening_Pairs_3_ok (x0 : Int) (c4 : (List (List (List Int)))) (c5 : Int) : ∀ (f : Nat) (c10 : (List (List Int))) (c11 : Int) (r : ((List (List Int)))), evening_Pairs_3 x0 c4 c5 f c10 c11 = some r → SemN e_evening_Pairs ⟨none, false⟩ (pc cb_evening_Pairs [1, 1, 1, 1, 0, 1, 0, 0, 1, 1, 0, 0, 1, 1, 1, 0, 1, 0, 0]) f ⟨Fr 66 [(0, .v (.int .i64 x0)), (4, .v (.int .i64 (wr .i64 (x0 + (x0.tmod 2))))), (5, hd 0 (c4.map (cdL 1 (cdL 1 cdI)).enc)), (6, .v (.int .i64 c5)), (7, hd 1 (c10.map (cdL 1 cdI).enc)), (8, .v (.int .i64 c11)), (20, .v (.int .i64 (wr .i64 ((wr .i64 (x0 + (x0.tmod 2))) - 1)))), (21, .v (.int .i64 c5))], [mk 1 36 (c4.map (cdL 1 (cdL 1 cdI)).enc), mk 1 29 (c10.map (cdL 1 cdI).enc)]⟩ (fun e s => e = (.exit 2) ∧ Wk e_evening_Pairs s ⟨Fr 66 [(0, .v (.int .i64 x0)), (4, .v (.int .i64 (wr .i64 (x0 + (x0.tmod 2))))), (5, hd 0 (c4.map (cdL 1 (cdL 1 cdI)).enc)), (7, hd 1 (r.map (cdL 1 cdI).enc)), (20, .v (.int .i64 (wr .i64 ((wr .i64 (x0 + (x0.tmod 2))) - 1)))), (21, .v (.int .i64 c5))], [mk 1 36 (c4.map (cdL 1 (cdL 1 cdI)).enc), mk 1 29 (r.map (cdL 1 cdI).enc)]⟩) := by
  intro f
  induction f with
  | zero => intro c10 c11 r h; cases h
  | succ f ih0 =>
    intro c10 c11 r h
    have ih := fun (c10 : (List (List Int))) (c11 : Int) => ih0 c10 c11 r
    unfold evening_Pairs_3 at h
    refine SemN.succ ?_
    refine Sem.seq ?_
    refine Sem.seq ?_
    refine Sem.runS (s1 := ⟨Fr 66 [(0, .v (.int .i64 x0)), (4, .v (.int .i64 (wr .i64 (x0 + (x0.tmod 2))))), (5, hd 0 (c4.map (cdL 1 (cdL 1 cdI)).enc)), (6, .v (.int .i64 c5)), (7, hd 1 (c10.map (cdL 1 cdI).enc)), (8, .v (.int .i64 c11)), (20, .v (.int .i64 (wr .i64 ((wr .i64 (x0 + (x0.tmod 2))) - 1)))), (21, .v (.int .i64 c5)), (38, .v (.bool (decide (c11 < (wr .i64 ((wr .i64 (x0 + (x0.tmod 2))).tdiv 2))))))], [mk 1 36 (c4.map (cdL 1 (cdL 1 cdI)).enc), mk 1 29 (c10.map (cdL 1 cdI).enc)]⟩) ?_ ?_
    · refine RunS.segF (n := 66) e_evening_Pairs_ok 4 [(0, .v (.int .i64 x0)), (4, .v (.int .i64 (wr .i64 (x0 + (x0.tmod 2))))), (5, hd 0 (c4.map (cdL 1 (cdL 1 cdI)).enc)), (6, .v (.int .i64 c5)), (7, hd 1 (c10.map (cdL 1 cdI).enc)), (8, .v (.int .i64 c11)), (20, .v (.int .i64 (wr .i64 ((wr .i64 (x0 + (x0.tmod 2))) - 1)))), (21, .v (.int .i64 c5)), (38, .v (.bool (decide (c11 < (wr .i64 ((wr .i64 (x0 + (x0.tmod 2))).tdiv 2))))))] [mk 1 36 (c4.map (cdL 1 (cdL 1 cdI)).enc), mk 1 29 (c10.map (cdL 1 cdI).enc)] (by kernel_rfl) ?_
      exact RunS.done rfl (Wk.sel2 [0, 1] (by kernel_rfl) (by kernel_rfl) (by kernel_rfl) ⟨⟨_, rfl, bu_mk⟩, ⟨_, rfl, bu_mk⟩, trivial⟩ ⟨lu (by kernel_rfl) (by kernel_rfl), lu (by kernel_rfl) (by kernel_rfl), lu_hd (b' := 0) (by kernel_rfl) (by kernel_rfl), lu (by kernel_rfl) (by kernel_rfl), lu_hd (b' := 1) (by kernel_rfl) (by kernel_rfl), lu (by kernel_rfl) (by kernel_rfl), lu (by kernel_rfl) (by kernel_rfl), lu (by kernel_rfl) (by kernel_rfl), lu (by kernel_rfl) (by kernel_rfl), trivial⟩)
    refine Sem.cond (b := (decide (c11 < (wr .i64 ((wr .i64 (x0 + (x0.tmod 2))).tdiv 2))))) (by kernel_rfl) (fun hb12 => ?_) (fun hb12 => ?_)
    · rw [if_pos hb12] at h
      refine Sem.skip ?_
      refine Sem.seq ?_
      refine Sem.block ?_
      by_cases hz13 : (wr .i64 ((wr .i64 (x0 + (x0.tmod 2))) - 1)) = (0 : Int)
      · rw [if_pos hz13] at h; cases h
      rw [if_neg hz13] at h
      by_cases hz14 : (wr .i64 ((wr .i64 (x0 + (x0.tmod 2))) - 1)) = (0 : Int)
      · rw [if_pos hz14] at h; cases h
      rw [if_neg hz14] at h
      by_cases hk15 : (capOk 24 (c10.length + 1)) = true
      case neg => rw [if_neg hk15] at h; cases h
      rw [if_pos hk15] at h
      refine Sem.runDS e_evening_Pairs_ok (s1 := ⟨Fr 66 [(0, .v (.int .i64 x0)), (4, .v (.int .i64 (wr .i64 (x0 + (x0.tmod 2))))), (5, hd 0 (c4.map (cdL 1 (cdL 1 cdI)).enc)), (6, .v (.int .i64 c5)), (7, hd 1 ((c10 ++ [[((wr .i64 (c5 + c11)).tmod (wr .i64 ((wr .i64 (x0 + (x0.tmod 2))) - 1))), ((wr .i64 ((wr .i64 ((wr .i64 (c5 - c11)) + (wr .i64 (x0 + (x0.tmod 2))))) - 1)).tmod (wr .i64 ((wr .i64 (x0 + (x0.tmod 2))) - 1)))]]).map (cdL 1 cdI).enc)), (8, .v (.int .i64 c11)), (20, .v (.int .i64 (wr .i64 ((wr .i64 (x0 + (x0.tmod 2))) - 1)))), (21, .v (.int .i64 c5))], [mk 1 36 (c4.map (cdL 1 (cdL 1 cdI)).enc), mk 1 29 ((c10 ++ [[((wr .i64 (c5 + c11)).tmod (wr .i64 ((wr .i64 (x0 + (x0.tmod 2))) - 1))), ((wr .i64 ((wr .i64 ((wr .i64 (c5 - c11)) + (wr .i64 (x0 + (x0.tmod 2))))) - 1)).tmod (wr .i64 ((wr .i64 (x0 + (x0.tmod 2))) - 1)))]]).map (cdL 1 cdI).enc)]⟩) (by kernel_rfl) ?_ ?_
      · refine RunDS.segF (n := 66) e_evening_Pairs_ok 6 [(0, .v (.int .i64 x0)), (4, .v (.int .i64 (wr .i64 (x0 + (x0.tmod 2))))), (5, hd 0 (c4.map (cdL 1 (cdL 1 cdI)).enc)), (6, .v (.int .i64 c5)), (8, .v (.int .i64 c11)), (20, .v (.int .i64 (wr .i64 ((wr .i64 (x0 + (x0.tmod 2))) - 1)))), (21, .v (.int .i64 c5)), (41, hd 1 (c10.map (cdL 1 cdI).enc)), (44, .v (.int .i64 (wr .i64 (c5 + c11)))), (46, .v (.int .i64 (wr .i64 ((wr .i64 (x0 + (x0.tmod 2))) - 1))))] [mk 1 36 (c4.map (cdL 1 (cdL 1 cdI)).enc), mk 1 29 (c10.map (cdL 1 cdI).enc)] (by kernel_rfl) (by kernel_rfl) ?_
        refine RunDS.one e_evening_Pairs_ok rfl (by kernel_rfl) (opd_q (by kernel_rfl) (wantedA_none rfl) rfl (q_bin (a := .v (.int .i64 (wr .i64 (c5 + c11)))) (b := .v (.int .i64 (wr .i64 ((wr .i64 (x0 + (x0.tmod 2))) - 1)))) (by kernel_rfl) (by kernel_rfl) (bin_rem hz13)) (by kernel_rfl)) ?_
        refine RunDS.segF (n := 66) e_evening_Pairs_ok 8 [(0, .v (.int .i64 x0)), (4, .v (.int .i64 (wr .i64 (x0 + (x0.tmod 2))))), (5, hd 0 (c4.map (cdL 1 (cdL 1 cdI)).enc)), (6, .v (.int .i64 c5)), (8, .v (.int .i64 c11)), (20, .v (.int .i64 (wr .i64 ((wr .i64 (x0 + (x0.tmod 2))) - 1)))), (21, .v (.int .i64 c5)), (41, hd 1 (c10.map (cdL 1 cdI).enc)), (47, .v (.int .i64 ((wr .i64 (c5 + c11)).tmod (wr .i64 ((wr .i64 (x0 + (x0.tmod 2))) - 1))))), (53, .v (.int .i64 (wr .i64 ((wr .i64 ((wr .i64 (c5 - c11)) + (wr .i64 (x0 + (x0.tmod 2))))) - 1)))), (55, .v (.int .i64 (wr .i64 ((wr .i64 (x0 + (x0.tmod 2))) - 1))))] [mk 1 36 (c4.map (cdL 1 (cdL 1 cdI)).enc), mk 1 29 (c10.map (cdL 1 cdI).enc)] (by kernel_rfl) (by kernel_rfl) ?_
        refine RunDS.one e_evening_Pairs_ok rfl (by kernel_rfl) (opd_q (by kernel_rfl) (wantedA_none rfl) rfl (q_bin (a := .v (.int .i64 (wr .i64 ((wr .i64 ((wr .i64 (c5 - c11)) + (wr .i64 (x0 + (x0.tmod 2))))) - 1)))) (b := .v (.int .i64 (wr .i64 ((wr .i64 (x0 + (x0.tmod 2))) - 1)))) (by kernel_rfl) (by kernel_rfl) (bin_rem hz14)) (by kernel_rfl)) ?_
        refine RunDS.segF (n := 66) e_evening_Pairs_ok 2 [(0, .v (.int .i64 x0)), (4, .v (.int .i64 (wr .i64 (x0 + (x0.tmod 2))))), (5, hd 0 (c4.map (cdL 1 (cdL 1 cdI)).enc)), (6, .v (.int .i64 c5)), (8, .v (.int .i64 c11)), (20, .v (.int .i64 (wr .i64 ((wr .i64 (x0 + (x0.tmod 2))) - 1)))), (21, .v (.int .i64 c5)), (41, hd 1 (c10.map (cdL 1 cdI).enc)), (58, .rf 3 0 1 1)] [mk 1 36 (c4.map (cdL 1 (cdL 1 cdI)).enc), mk 1 29 (c10.map (cdL 1 cdI).enc), mk 1 3 ([((wr .i64 (c5 + c11)).tmod (wr .i64 ((wr .i64 (x0 + (x0.tmod 2))) - 1))), ((wr .i64 ((wr .i64 ((wr .i64 (c5 - c11)) + (wr .i64 (x0 + (x0.tmod 2))))) - 1)).tmod (wr .i64 ((wr .i64 (x0 + (x0.tmod 2))) - 1)))].map cdI.enc), some ⟨1, 29, [hd 2 ([((wr .i64 (c5 + c11)).tmod (wr .i64 ((wr .i64 (x0 + (x0.tmod 2))) - 1))), ((wr .i64 ((wr .i64 ((wr .i64 (c5 - c11)) + (wr .i64 (x0 + (x0.tmod 2))))) - 1)).tmod (wr .i64 ((wr .i64 (x0 + (x0.tmod 2))) - 1)))].map cdI.enc)], false⟩] (by kernel_rfl) (by kernel_rfl) ?_
        refine RunDS.tail rfl rfl ?_
        refine RunS.wk (s1 := ⟨Fr 66 [(0, .v (.int .i64 x0)), (4, .v (.int .i64 (wr .i64 (x0 + (x0.tmod 2))))), (5, hd 0 (c4.map (cdL 1 (cdL 1 cdI)).enc)), (6, .v (.int .i64 c5)), (8, .v (.int .i64 c11)), (20, .v (.int .i64 (wr .i64 ((wr .i64 (x0 + (x0.tmod 2))) - 1)))), (21, .v (.int .i64 c5)), (41, hd 1 (c10.map (cdL 1 cdI).enc)), (58, hd 3 ([[((wr .i64 (c5 + c11)).tmod (wr .i64 ((wr .i64 (x0 + (x0.tmod 2))) - 1))), ((wr .i64 ((wr .i64 ((wr .i64 (c5 - c11)) + (wr .i64 (x0 + (x0.tmod 2))))) - 1)).tmod (wr .i64 ((wr .i64 (x0 + (x0.tmod 2))) - 1)))]].map (cdL 1 cdI).enc))], [mk 1 36 (c4.map (cdL 1 (cdL 1 cdI)).enc), mk 1 29 (c10.map (cdL 1 cdI).enc), none, mk 1 29 ([[((wr .i64 (c5 + c11)).tmod (wr .i64 ((wr .i64 (x0 + (x0.tmod 2))) - 1))), ((wr .i64 ((wr .i64 ((wr .i64 (c5 - c11)) + (wr .i64 (x0 + (x0.tmod 2))))) - 1)).tmod (wr .i64 ((wr .i64 (x0 + (x0.tmod 2))) - 1)))]].map (cdL 1 cdI).enc)]⟩) (Wk.frzG 2 (.inl (by kernel_rfl)) ⟨.inr (.inl rfl), .inr (.inl rfl), .inl rfl, .inr (.inr ⟨_, _, _, _, rfl, rfl, ⟨fz_hd (t := 3) (by kernel_rfl) enc_ok, trivial⟩⟩), trivial⟩ ⟨⟨.v (.int .i64 x0), (by kernel_rfl), .inl rfl⟩, ⟨.v (.int .i64 (wr .i64 (x0 + (x0.tmod 2)))), (by kernel_rfl), .inl rfl⟩, ⟨hd 0 (c4.map (cdL 1 (cdL 1 cdI)).enc), (by kernel_rfl), .inl rfl⟩, ⟨.v (.int .i64 c5), (by kernel_rfl), .inl rfl⟩, ⟨.v (.int .i64 c11), (by kernel_rfl), .inl rfl⟩, ⟨.v (.int .i64 (wr .i64 ((wr .i64 (x0 + (x0.tmod 2))) - 1))), (by kernel_rfl), .inl rfl⟩, ⟨.v (.int .i64 c5), (by kernel_rfl), .inl rfl⟩, ⟨hd 1 (c10.map (cdL 1 cdI).enc), (by kernel_rfl), .inl rfl⟩, ⟨.rf 3 0 1 1, (by kernel_rfl), .inl rfl⟩, trivial⟩) ?_
        refine RunS.one e_evening_Pairs_ok 0 rfl (op_w (wantedA_none rfl) rfl (by kernel_rfl) (by kernel_rfl) (w_append (a := hd 1 (c10.map (cdL 1 cdI).enc)) (b := hd 3 ([[((wr .i64 (c5 + c11)).tmod (wr .i64 ((wr .i64 (x0 + (x0.tmod 2))) - 1))), ((wr .i64 ((wr .i64 ((wr .i64 (c5 - c11)) + (wr .i64 (x0 + (x0.tmod 2))))) - 1)).tmod (wr .i64 ((wr .i64 (x0 + (x0.tmod 2))) - 1)))]].map (cdL 1 cdI).enc)) (by kernel_rfl) (by kernel_rfl) (append_B (c := (cdL 1 cdI)) (xs := c10) (vs := [[((wr .i64 (c5 + c11)).tmod (wr .i64 ((wr .i64 (x0 + (x0.tmod 2))) - 1))), ((wr .i64 ((wr .i64 ((wr .i64 (c5 - c11)) + (wr .i64 (x0 + (x0.tmod 2))))) - 1)).tmod (wr .i64 ((wr .i64 (x0 + (x0.tmod 2))) - 1)))]]) (k := 1) (bytes := 24) (el := 29) (by kernel_rfl) (by kernel_rfl) (elems_hd (t := 29) (by kernel_rfl)) (List.cons_ne_nil _ _) (by kernel_rfl) hk15))) ?_
        refine RunS.segF (n := 66) e_evening_Pairs_ok 1 [(0, .v (.int .i64 x0)), (4, .v (.int .i64 (wr .i64 (x0 + (x0.tmod 2))))), (5, hd 0 (c4.map (cdL 1 (cdL 1 cdI)).enc)), (6, .v (.int .i64 c5)), (7, hd 4 ((c10 ++ [[((wr .i64 (c5 + c11)).tmod (wr .i64 ((wr .i64 (x0 + (x0.tmod 2))) - 1))), ((wr .i64 ((wr .i64 ((wr .i64 (c5 - c11)) + (wr .i64 (x0 + (x0.tmod 2))))) - 1)).tmod (wr .i64 ((wr .i64 (x0 + (x0.tmod 2))) - 1)))]]).map (cdL 1 cdI).enc)), (8, .v (.int .i64 c11)), (20, .v (.int .i64 (wr .i64 ((wr .i64 (x0 + (x0.tmod 2))) - 1)))), (21, .v (.int .i64 c5))] [mk 1 36 (c4.map (cdL 1 (cdL 1 cdI)).enc), none, none, mk 1 29 ([[((wr .i64 (c5 + c11)).tmod (wr .i64 ((wr .i64 (x0 + (x0.tmod 2))) - 1))), ((wr .i64 ((wr .i64 ((wr .i64 (c5 - c11)) + (wr .i64 (x0 + (x0.tmod 2))))) - 1)).tmod (wr .i64 ((wr .i64 (x0 + (x0.tmod 2))) - 1)))]].map (cdL 1 cdI).enc), mk 1 29 ((c10 ++ [[((wr .i64 (c5 + c11)).tmod (wr .i64 ((wr .i64 (x0 + (x0.tmod 2))) - 1))), ((wr .i64 ((wr .i64 ((wr .i64 (c5 - c11)) + (wr .i64 (x0 + (x0.tmod 2))))) - 1)).tmod (wr .i64 ((wr .i64 (x0 + (x0.tmod 2))) - 1)))]]).map (cdL 1 cdI).enc)] (by kernel_rfl) ?_
        exact RunS.done rfl (Wk.sel2 [0, 4] (by kernel_rfl) (by kernel_rfl) (by kernel_rfl) ⟨⟨_, rfl, bu_mk⟩, ⟨_, rfl, bu_mk⟩, trivial⟩ ⟨lu (by kernel_rfl) (by kernel_rfl), lu (by kernel_rfl) (by kernel_rfl), lu_hd (b' := 0) (by kernel_rfl) (by kernel_rfl), lu (by kernel_rfl) (by kernel_rfl), lu_hd (b' := 4) (by kernel_rfl) (by kernel_rfl), lu (by kernel_rfl) (by kernel_rfl), lu (by kernel_rfl) (by kernel_rfl), lu (by kernel_rfl) (by kernel_rfl), trivial⟩)
      refine Sem.runS (s1 := ⟨Fr 66 [(0, .v (.int .i64 x0)), (4, .v (.int .i64 (wr .i64 (x0 + (x0.tmod 2))))), (5, hd 0 (c4.map (cdL 1 (cdL 1 cdI)).enc)), (6, .v (.int .i64 c5)), (7, hd 1 ((c10 ++ [[((wr .i64 (c5 + c11)).tmod (wr .i64 ((wr .i64 (x0 + (x0.tmod 2))) - 1))), ((wr .i64 ((wr .i64 ((wr .i64 (c5 - c11)) + (wr .i64 (x0 + (x0.tmod 2))))) - 1)).tmod (wr .i64 ((wr .i64 (x0 + (x0.tmod 2))) - 1)))]]).map (cdL 1 cdI).enc)), (8, .v (.int .i64 (wr .i64 (c11 + 1)))), (20, .v (.int .i64 (wr .i64 ((wr .i64 (x0 + (x0.tmod 2))) - 1)))), (21, .v (.int .i64 c5))], [mk 1 36 (c4.map (cdL 1 (cdL 1 cdI)).enc), mk 1 29 ((c10 ++ [[((wr .i64 (c5 + c11)).tmod (wr .i64 ((wr .i64 (x0 + (x0.tmod 2))) - 1))), ((wr .i64 ((wr .i64 ((wr .i64 (c5 - c11)) + (wr .i64 (x0 + (x0.tmod 2))))) - 1)).tmod (wr .i64 ((wr .i64 (x0 + (x0.tmod 2))) - 1)))]]).map (cdL 1 cdI).enc)]⟩) ?_ ?_
      · refine RunS.segF (n := 66) e_evening_Pairs_ok 3 [(0, .v (.int .i64 x0)), (4, .v (.int .i64 (wr .i64 (x0 + (x0.tmod 2))))), (5, hd 0 (c4.map (cdL 1 (cdL 1 cdI)).enc)), (6, .v (.int .i64 c5)), (7, hd 1 ((c10 ++ [[((wr .i64 (c5 + c11)).tmod (wr .i64 ((wr .i64 (x0 + (x0.tmod 2))) - 1))), ((wr .i64 ((wr .i64 ((wr .i64 (c5 - c11)) + (wr .i64 (x0 + (x0.tmod 2))))) - 1)).tmod (wr .i64 ((wr .i64 (x0 + (x0.tmod 2))) - 1)))]]).map (cdL 1 cdI).enc)), (8, .v (.int .i64 (wr .i64 (c11 + 1)))), (20, .v (.int .i64 (wr .i64 ((wr .i64 (x0 + (x0.tmod 2))) - 1)))), (21, .v (.int .i64 c5))] [mk 1 36 (c4.map (cdL 1 (cdL 1 cdI)).enc), mk 1 29 ((c10 ++ [[((wr .i64 (c5 + c11)).tmod (wr .i64 ((wr .i64 (x0 + (x0.tmod 2))) - 1))), ((wr .i64 ((wr .i64 ((wr .i64 (c5 - c11)) + (wr .i64 (x0 + (x0.tmod 2))))) - 1)).tmod (wr .i64 ((wr .i64 (x0 + (x0.tmod 2))) - 1)))]]).map (cdL 1 cdI).enc)] (by kernel_rfl) ?_
        exact RunS.done rfl (Wk.sel2 [0, 1] (by kernel_rfl) (by kernel_rfl) (by kernel_rfl) ⟨⟨_, rfl, bu_mk⟩, ⟨_, rfl, bu_mk⟩, trivial⟩ ⟨lu (by kernel_rfl) (by kernel_rfl), lu (by kernel_rfl) (by kernel_rfl), lu_hd (b' := 0) (by kernel_rfl) (by kernel_rfl), lu (by kernel_rfl) (by kernel_rfl), lu_hd (b' := 1) (by kernel_rfl) (by kernel_rfl), lu (by kernel_rfl) (by kernel_rfl), lu (by kernel_rfl) (by kernel_rfl), lu (by kernel_rfl) (by kernel_rfl), trivial⟩)
      exact SemN.wk (s1 := ⟨Fr 66 [(0, .v (.int .i64 x0)), (4, .v (.int .i64 (wr .i64 (x0 + (x0.tmod 2))))), (5, hd 0 (c4.map (cdL 1 (cdL 1 cdI)).enc)), (6, .v (.int .i64 c5)), (7, hd 1 ((c10 ++ [[((wr .i64 (c5 + c11)).tmod (wr .i64 ((wr .i64 (x0 + (x0.tmod 2))) - 1))), ((wr .i64 ((wr .i64 ((wr .i64 (c5 - c11)) + (wr .i64 (x0 + (x0.tmod 2))))) - 1)).tmod (wr .i64 ((wr .i64 (x0 + (x0.tmod 2))) - 1)))]]).map (cdL 1 cdI).enc)), (8, .v (.int .i64 (wr .i64 (c11 + 1)))), (20, .v (.int .i64 (wr .i64 ((wr .i64 (x0 + (x0.tmod 2))) - 1)))), (21, .v (.int .i64 c5))], [mk 1 36 (c4.map (cdL 1 (cdL 1 cdI)).enc), mk 1 29 ((c10 ++ [[((wr .i64 (c5 + c11)).tmod (wr .i64 ((wr .i64 (x0 + (x0.tmod 2))) - 1))), ((wr .i64 ((wr .i64 ((wr .i64 (c5 - c11)) + (wr .i64 (x0 + (x0.tmod 2))))) - 1)).tmod (wr .i64 ((wr .i64 (x0 + (x0.tmod 2))) - 1)))]]).map (cdL 1 cdI).enc)]⟩) (Wk.sel2 [0, 1] (by kernel_rfl) (by kernel_rfl) (by kernel_rfl) ⟨⟨_, rfl, bu_mk⟩, ⟨_, rfl, bu_mk⟩, trivial⟩ ⟨lu (by kernel_rfl) (by kernel_rfl), lu (by kernel_rfl) (by kernel_rfl), lu_hd (b' := 0) (by kernel_rfl) (by kernel_rfl), lu (by kernel_rfl) (by kernel_rfl), lu_hd (b' := 1) (by kernel_rfl) (by kernel_rfl), lu (by kernel_rfl) (by kernel_rfl), lu (by kernel_rfl) (by kernel_rfl), lu (by kernel_rfl) (by kernel_rfl), trivial⟩) (ih (c10 ++ [[((wr .i64 (c5 + c11)).tmod (wr .i64 ((wr .i64 (x0 + (x0.tmod 2))) - 1))), ((wr .i64 ((wr .i64 ((wr .i64 (c5 - c11)) + (wr .i64 (x0 + (x0.tmod 2))))) - 1)).tmod (wr .i64 ((wr .i64 (x0 + (x0.tmod 2))) - 1)))]]) (wr .i64 (c11 + 1)) h)
    · rw [if_f hb12] at h
      refine Sem.exit ?_
      have hq := Option.some.inj h; subst hq
      exact ⟨rfl, (Wk.sel2 [0, 1] (by kernel_rfl) (by kernel_rfl) (by kernel_rfl) ⟨⟨_, rfl, bu_mk⟩, ⟨_, rfl, bu_mk⟩, trivial⟩ ⟨lu (by kernel_rfl) (by kernel_rfl), lu (by kernel_rfl) (by kernel_rfl), lu_hd (b' := 0) (by kernel_rfl) (by kernel_rfl), lu_hd (b' := 1) (by kernel_rfl) (by kernel_rfl), lu (by kernel_rfl) (by kernel_rfl), lu (by kernel_rfl) (by kernel_rfl), trivial⟩)⟩
set_option maxHeartbeats 4000000 in
set_option maxRecDepth 100000 in
theorem evening_Pairs_1_ok (x0 : Int) : ∀ (f : Nat) (c4 : (List (List (List Int)))) (c5 : Int) (r : ((List (List (List Int))))), evening_Pairs_1 x0 f c4 c5 = some r → SemN e_evening_Pairs ⟨none, false⟩ (pc cb_evening_Pairs [1, 1, 1, 1, 0, 1, 0, 0]) f ⟨Fr 66 [(0, .v (.int .i64 x0)), (4, .v (.int .i64 (wr .i64 (x0 + (x0.tmod 2))))), (5, hd 0 (c4.map (cdL 1 (cdL 1 cdI)).enc)), (20, .v (.int .i64 (wr .i64 ((wr .i64 (x0 + (x0.tmod 2))) - 1)))), (21, .v (.int .i64 c5))], [mk 1 36 (c4.map (cdL 1 (cdL 1 cdI)).enc)]⟩ (fun e s => e = (.exit 0) ∧ Wk e_evening_Pairs s ⟨Fr 66 [(5, hd 0 (r.map (cdL 1 (cdL 1 cdI)).enc))], [mk 1 36 (r.map (cdL 1 (cdL 1 cdI)).enc)]⟩) := by
  intro f
  induction f with
  | zero => intro c4 c5 r h; cases h
  | succ f ih0 =>
    intro c4 c5 r h
    have ih := fun (c4 : (List (List (List Int)))) (c5 : Int) => ih0 c4 c5 r
    unfold evening_Pairs_1 at h
    refine SemN.succ ?_
    refine Sem.seq ?_
    refine Sem.runS (s1 := ⟨Fr 66 [(0, .v (.int .i64 x0)), (4, .v (.int .i64 (wr .i64 (x0 + (x0.tmod 2))))), (5, hd 0 (c4.map (cdL 1 (cdL 1 cdI)).enc)), (20, .v (.int .i64 (wr .i64 ((wr .i64 (x0 + (x0.tmod 2))) - 1)))), (21, .v (.int .i64 c5)), (22, .v (.bool (decide (c5 < (wr .i64 ((wr .i64 (x0 + (x0.tmod 2))) - 1))))))], [mk 1 36 (c4.map (cdL 1 (cdL 1 cdI)).enc)]⟩) ?_ ?_
    · refine RunS.segF (n := 66) e_evening_Pairs_ok 1 [(0, .v (.int .i64 x0)), (4, .v (.int .i64 (wr .i64 (x0 + (x0.tmod 2))))), (5, hd 0 (c4.map (cdL 1 (cdL 1 cdI)).enc)), (20, .v (.int .i64 (wr .i64 ((wr .i64 (x0 + (x0.tmod 2))) - 1)))), (21, .v (.int .i64 c5)), (22, .v (.bool (decide (c5 < (wr .i64 ((wr .i64 (x0 + (x0.tmod 2))) - 1))))))] [mk 1 36 (c4.map (cdL 1 (cdL 1 cdI)).enc)] (by kernel_rfl) ?_
      exact RunS.done rfl (Wk.sel2 [0] (by kernel_rfl) (by kernel_rfl) (by kernel_rfl) ⟨⟨_, rfl, bu_mk⟩, trivial⟩ ⟨lu (by kernel_rfl) (by kernel_rfl), lu (by kernel_rfl) (by kernel_rfl), lu_hd (b' := 0) (by kernel_rfl) (by kernel_rfl), lu (by kernel_rfl) (by kernel_rfl), lu (by kernel_rfl) (by kernel_rfl), lu (by kernel_rfl) (by kernel_rfl), trivial⟩)
    refine Sem.seq ?_
    refine Sem.cond (b := (decide (c5 < (wr .i64 ((wr .i64 (x0 + (x0.tmod 2))) - 1))))) (by kernel_rfl) (fun hb6 => ?_) (fun hb6 => ?_)
    · rw [if_pos hb6] at h
      refine Sem.skip ?_
      refine Sem.seq ?_
      refine Sem.block ?_
      refine Sem.seq ?_
      refine Sem.runS (s1 := ⟨Fr 66 [(0, .v (.int .i64 x0)), (4, .v (.int .i64 (wr .i64 (x0 + (x0.tmod 2))))), (5, hd 0 (c4.map (cdL 1 (cdL 1 cdI)).enc)), (6, .v (.int .i64 c5)), (20, .v (.int .i64 (wr .i64 ((wr .i64 (x0 + (x0.tmod 2))) - 1)))), (21, .v (.int .i64 c5))], [mk 1 36 (c4.map (cdL 1 (cdL 1 cdI)).enc)]⟩) ?_ ?_
      · refine RunS.segF (n := 66) e_evening_Pairs_ok 2 [(0, .v (.int .i64 x0)), (4, .v (.int .i64 (wr .i64 (x0 + (x0.tmod 2))))), (5, hd 0 (c4.map (cdL 1 (cdL 1 cdI)).enc)), (6, .v (.int .i64 c5)), (20, .v (.int .i64 (wr .i64 ((wr .i64 (x0 + (x0.tmod 2))) - 1)))), (21, .v (.int .i64 c5))] [mk 1 36 (c4.map (cdL 1 (cdL 1 cdI)).enc)] (by kernel_rfl) ?_
        exact RunS.done rfl (Wk.sel2 [0] (by kernel_rfl) (by kernel_rfl) (by kernel_rfl) ⟨⟨_, rfl, bu_mk⟩, trivial⟩ ⟨lu (by kernel_rfl) (by kernel_rfl), lu (by kernel_rfl) (by kernel_rfl), lu_hd (b' := 0) (by kernel_rfl) (by kernel_rfl), lu (by kernel_rfl) (by kernel_rfl), lu (by kernel_rfl) (by kernel_rfl), lu (by kernel_rfl) (by kernel_rfl), trivial⟩)
      refine Sem.seq ?_
      refine Sem.runS (s1 := ⟨Fr 66 [(0, .v (.int .i64 x0)), (4, .v (.int .i64 (wr .i64 (x0 + (x0.tmod 2))))), (5, hd 0 (c4.map (cdL 1 (cdL 1 cdI)).enc)), (6, .v (.int .i64 c5)), (7, hd 1 ([[(wr .i64 ((wr .i64 (x0 + (x0.tmod 2))) - 1)), c5]].map (cdL 1 cdI).enc)), (20, .v (.int .i64 (wr .i64 ((wr .i64 (x0 + (x0.tmod 2))) - 1)))), (21, .v (.int .i64 c5))], [mk 1 36 (c4.map (cdL 1 (cdL 1 cdI)).enc), mk 1 29 ([[(wr .i64 ((wr .i64 (x0 + (x0.tmod 2))) - 1)), c5]].map (cdL 1 cdI).enc)]⟩) ?_ ?_
      · refine RunS.segF (n := 66) e_evening_Pairs_ok 6 [(0, .v (.int .i64 x0)), (4, .v (.int .i64 (wr .i64 (x0 + (x0.tmod 2))))), (5, hd 0 (c4.map (cdL 1 (cdL 1 cdI)).enc)), (6, .v (.int .i64 c5)), (7, .rf 2 0 1 1), (20, .v (.int .i64 (wr .i64 ((wr .i64 (x0 + (x0.tmod 2))) - 1)))), (21, .v (.int .i64 c5))] [mk 1 36 (c4.map (cdL 1 (cdL 1 cdI)).enc), mk 1 3 ([(wr .i64 ((wr .i64 (x0 + (x0.tmod 2))) - 1)), c5].map cdI.enc), some ⟨1, 29, [hd 1 ([(wr .i64 ((wr .i64 (x0 + (x0.tmod 2))) - 1)), c5].map cdI.enc)], false⟩] (by kernel_rfl) ?_
        exact RunS.done rfl (Wk.trans (s1 := ⟨Fr 66 [(0, .v (.int .i64 x0)), (4, .v (.int .i64 (wr .i64 (x0 + (x0.tmod 2))))), (5, hd 0 (c4.map (cdL 1 (cdL 1 cdI)).enc)), (6, .v (.int .i64 c5)), (7, hd 2 ([[(wr .i64 ((wr .i64 (x0 + (x0.tmod 2))) - 1)), c5]].map (cdL 1 cdI).enc)), (20, .v (.int .i64 (wr .i64 ((wr .i64 (x0 + (x0.tmod 2))) - 1)))), (21, .v (.int .i64 c5))], [mk 1 36 (c4.map (cdL 1 (cdL 1 cdI)).enc), none, mk 1 29 ([[(wr .i64 ((wr .i64 (x0 + (x0.tmod 2))) - 1)), c5]].map (cdL 1 cdI).enc)]⟩) (Wk.frzG 1 (.inl (by kernel_rfl)) ⟨.inr (.inl rfl), .inl rfl, .inr (.inr ⟨_, _, _, _, rfl, rfl, ⟨fz_hd (t := 3) (by kernel_rfl) enc_ok, trivial⟩⟩), trivial⟩ ⟨⟨.v (.int .i64 x0), (by kernel_rfl), .inl rfl⟩, ⟨.v (.int .i64 (wr .i64 (x0 + (x0.tmod 2)))), (by kernel_rfl), .inl rfl⟩, ⟨hd 0 (c4.map (cdL 1 (cdL 1 cdI)).enc), (by kernel_rfl), .inl rfl⟩, ⟨.v (.int .i64 c5), (by kernel_rfl), .inl rfl⟩, ⟨.rf 2 0 1 1, (by kernel_rfl), .inl rfl⟩, ⟨.v (.int .i64 (wr .i64 ((wr .i64 (x0 + (x0.tmod 2))) - 1))), (by kernel_rfl), .inl rfl⟩, ⟨.v (.int .i64 c5), (by kernel_rfl), .inl rfl⟩, trivial⟩) (Wk.sel2 [0, 2] (by kernel_rfl) (by kernel_rfl) (by kernel_rfl) ⟨⟨_, rfl, bu_mk⟩, ⟨_, rfl, bu_mk⟩, trivial⟩ ⟨lu (by kernel_rfl) (by kernel_rfl), lu (by kernel_rfl) (by kernel_rfl), lu_hd (b' := 0) (by kernel_rfl) (by kernel_rfl), lu (by kernel_rfl) (by kernel_rfl), lu_hd (b' := 2) (by kernel_rfl) (by kernel_rfl), lu (by kernel_rfl) (by kernel_rfl), lu (by kernel_rfl) (by kernel_rfl), trivial⟩))
      refine Sem.seq ?_
      refine Sem.seq ?_
      refine Sem.runS (s1 := ⟨Fr 66 [(0, .v (.int .i64 x0)), (4, .v (.int .i64 (wr .i64 (x0 + (x0.tmod 2))))), (5, hd 0 (c4.map (cdL 1 (cdL 1 cdI)).enc)), (6, .v (.int .i64 c5)), (7, hd 1 ([[(wr .i64 ((wr .i64 (x0 + (x0.tmod 2))) - 1)), c5]].map (cdL 1 cdI).enc)), (20, .v (.int .i64 (wr .i64 ((wr .i64 (x0 + (x0.tmod 2))) - 1)))), (21, .v (.int .i64 c5)), (31, .v (.bool ((x0.tmod 2) == 1)))], [mk 1 36 (c4.map (cdL 1 (cdL 1 cdI)).enc), mk 1 29 ([[(wr .i64 ((wr .i64 (x0 + (x0.tmod 2))) - 1)), c5]].map (cdL 1 cdI).enc)]⟩) ?_ ?_
      · refine RunS.segF (n := 66) e_evening_Pairs_ok 3 [(0, .v (.int .i64 x0)), (4, .v (.int .i64 (wr .i64 (x0 + (x0.tmod 2))))), (5, hd 0 (c4.map (cdL 1 (cdL 1 cdI)).enc)), (6, .v (.int .i64 c5)), (7, hd 1 ([[(wr .i64 ((wr .i64 (x0 + (x0.tmod 2))) - 1)), c5]].map (cdL 1 cdI).enc)), (20, .v (.int .i64 (wr .i64 ((wr .i64 (x0 + (x0.tmod 2))) - 1)))), (21, .v (.int .i64 c5)), (31, .v (.bool ((x0.tmod 2) == 1)))] [mk 1 36 (c4.map (cdL 1 (cdL 1 cdI)).enc), mk 1 29 ([[(wr .i64 ((wr .i64 (x0 + (x0.tmod 2))) - 1)), c5]].map (cdL 1 cdI).enc)] (by kernel_rfl) ?_
        exact RunS.done rfl (Wk.sel2 [0, 1] (by kernel_rfl) (by kernel_rfl) (by kernel_rfl) ⟨⟨_, rfl, bu_mk⟩, ⟨_, rfl, bu_mk⟩, trivial⟩ ⟨lu (by kernel_rfl) (by kernel_rfl), lu (by kernel_rfl) (by kernel_rfl), lu_hd (b' := 0) (by kernel_rfl) (by kernel_rfl), lu (by kernel_rfl) (by kernel_rfl), lu_hd (b' := 1) (by kernel_rfl) (by kernel_rfl), lu (by kernel_rfl) (by kernel_rfl), lu (by kernel_rfl) (by kernel_rfl), lu (by kernel_rfl) (by kernel_rfl), trivial⟩)
      obtain ⟨r9, hr9, h⟩ := Option.bind_eq_some_iff.1 h
      refine Sem.cut (evening_Pairs_j2_ok x0 c4 c5 _ hr9) ?_
      refine Sem.seq ?_
      refine Sem.seq ?_
      refine Sem.runS (s1 := ⟨Fr 66 [(0, .v (.int .i64 x0)), (4, .v (.int .i64 (wr .i64 (x0 + (x0.tmod 2))))), (5, hd 0 (c4.map (cdL 1 (cdL 1 cdI)).enc)), (6, .v (.int .i64 c5)), (7, hd 1 (r9.map (cdL 1 cdI).enc)), (8, .v (.int .i64 1)), (20, .v (.int .i64 (wr .i64 ((wr .i64 (x0 + (x0.tmod 2))) - 1)))), (21, .v (.int .i64 c5))], [mk 1 36 (c4.map (cdL 1 (cdL 1 cdI)).enc), mk 1 29 (r9.map (cdL 1 cdI).enc)]⟩) ?_ ?_
      · refine RunS.segF (n := 66) e_evening_Pairs_ok 1 [(0, .v (.int .i64 x0)), (4, .v (.int .i64 (wr .i64 (x0 + (x0.tmod 2))))), (5, hd 0 (c4.map (cdL 1 (cdL 1 cdI)).enc)), (6, .v (.int .i64 c5)), (7, hd 1 (r9.map (cdL 1 cdI).enc)), (8, .v (.int .i64 1)), (20, .v (.int .i64 (wr .i64 ((wr .i64 (x0 + (x0.tmod 2))) - 1)))), (21, .v (.int .i64 c5))] [mk 1 36 (c4.map (cdL 1 (cdL 1 cdI)).enc), mk 1 29 (r9.map (cdL 1 cdI).enc)] (by kernel_rfl) ?_
        exact RunS.done rfl (Wk.sel2 [0, 1] (by kernel_rfl) (by kernel_rfl) (by kernel_rfl) ⟨⟨_, rfl, bu_mk⟩, ⟨_, rfl, bu_mk⟩, trivial⟩ ⟨lu (by kernel_rfl) (by kernel_rfl), lu (by kernel_rfl) (by kernel_rfl), lu_hd (b' := 0) (by kernel_rfl) (by kernel_rfl), lu (by kernel_rfl) (by kernel_rfl), lu_hd (b' := 1) (by kernel_rfl) (by kernel_rfl), lu (by kernel_rfl) (by kernel_rfl), lu (by kernel_rfl) (by kernel_rfl), lu (by kernel_rfl) (by kernel_rfl), trivial⟩)
      refine Sem.block ?_
      obtain ⟨r17, hr17, h⟩ := Option.bind_eq_some_iff.1 h
      refine Sem.loop (n := 100000) ?_
      refine Sem.cutN (SemN.wk (s1 := ⟨Fr 66 [(0, .v (.int .i64 x0)), (4, .v (.int .i64 (wr .i64 (x0 + (x0.tmod 2))))), (5, hd 0 (c4.map (cdL 1 (cdL 1 cdI)).enc)), (6, .v (.int .i64 c5)), (7, hd 1 (r9.map (cdL 1 cdI).enc)), (8, .v (.int .i64 1)), (20, .v (.int .i64 (wr .i64 ((wr .i64 (x0 + (x0.tmod 2))) - 1)))), (21, .v (.int .i64 c5))], [mk 1 36 (c4.map (cdL 1 (cdL 1 cdI)).enc), mk 1 29 (r9.map (cdL 1 cdI).enc)]⟩) (Wk.sel2 [0, 1] (by kernel_rfl) (by kernel_rfl) (by kernel_rfl) ⟨⟨_, rfl, bu_mk⟩, ⟨_, rfl, bu_mk⟩, trivial⟩ ⟨lu (by kernel_rfl) (by kernel_rfl), lu (by kernel_rfl) (by kernel_rfl), lu_hd (b' := 0) (by kernel_rfl) (by kernel_rfl), lu (by kernel_rfl) (by kernel_rfl), lu_hd (b' := 1) (by kernel_rfl) (by kernel_rfl), lu (by kernel_rfl) (by kernel_rfl), lu (by kernel_rfl) (by kernel_rfl), lu (by kernel_rfl) (by kernel_rfl), trivial⟩) (evening_Pairs_3_ok x0 c4 c5 _ r9 1 _ hr17)) ?_
      by_cases hk18 : (capOk 24 (c4.length + 1)) = true
      case neg => rw [if_neg hk18] at h; cases h
      rw [if_pos hk18] at h
      refine Sem.runS (s1 := ⟨Fr 66 [(0, .v (.int .i64 x0)), (4, .v (.int .i64 (wr .i64 (x0 + (x0.tmod 2))))), (5, hd 0 ((c4 ++ [r17]).map (cdL 1 (cdL 1 cdI)).enc)), (20, .v (.int .i64 (wr .i64 ((wr .i64 (x0 + (x0.tmod 2))) - 1)))), (21, .v (.int .i64 c5))], [mk 1 36 ((c4 ++ [r17]).map (cdL 1 (cdL 1 cdI)).enc)]⟩) ?_ ?_
      · refine RunS.segF (n := 66) e_evening_Pairs_ok 2 [(0, .v (.int .i64 x0)), (4, .v (.int .i64 (wr .i64 (x0 + (x0.tmod 2))))), (20, .v (.int .i64 (wr .i64 ((wr .i64 (x0 + (x0.tmod 2))) - 1)))), (21, .v (.int .i64 c5)), (60, hd 0 (c4.map (cdL 1 (cdL 1 cdI)).enc)), (61, hd 1 (r17.map (cdL 1 cdI).enc))] [mk 1 36 (c4.map (cdL 1 (cdL 1 cdI)).enc), mk 1 29 (r17.map (cdL 1 cdI).enc)] (by kernel_rfl) ?_
        refine RunS.wk (s1 := ⟨Fr 66 [(0, .v (.int .i64 x0)), (4, .v (.int .i64 (wr .i64 (x0 + (x0.tmod 2))))), (20, .v (.int .i64 (wr .i64 ((wr .i64 (x0 + (x0.tmod 2))) - 1)))), (21, .v (.int .i64 c5)), (60, hd 0 (c4.map (cdL 1 (cdL 1 cdI)).enc)), (61, .sl 1 (r17.map (cdL 1 cdI).enc))], [mk 1 36 (c4.map (cdL 1 (cdL 1 cdI)).enc), none]⟩) (Wk.frzG 1 (.inl (by kernel_rfl)) ⟨.inr (.inl rfl), .inl rfl, trivial⟩ ⟨⟨.v (.int .i64 x0), (by kernel_rfl), .inl rfl⟩, ⟨.v (.int .i64 (wr .i64 (x0 + (x0.tmod 2)))), (by kernel_rfl), .inl rfl⟩, ⟨.v (.int .i64 (wr .i64 ((wr .i64 (x0 + (x0.tmod 2))) - 1))), (by kernel_rfl), .inl rfl⟩, ⟨.v (.int .i64 c5), (by kernel_rfl), .inl rfl⟩, ⟨hd 0 (c4.map (cdL 1 (cdL 1 cdI)).enc), (by kernel_rfl), .inl rfl⟩, ⟨hd 1 (r17.map (cdL 1 cdI).enc), (by kernel_rfl), fz_hd (t := 29) (by kernel_rfl) enc_ok⟩, trivial⟩) ?_
        refine RunS.segF (n := 66) e_evening_Pairs_ok 1 [(0, .v (.int .i64 x0)), (4, .v (.int .i64 (wr .i64 (x0 + (x0.tmod 2))))), (20, .v (.int .i64 (wr .i64 ((wr .i64 (x0 + (x0.tmod 2))) - 1)))), (21, .v (.int .i64 c5)), (60, hd 0 (c4.map (cdL 1 (cdL 1 cdI)).enc)), (62, hd 2 ([r17].map (cdL 1 (cdL 1 cdI)).enc))] [mk 1 36 (c4.map (cdL 1 (cdL 1 cdI)).enc), none, mk 1 36 ([r17].map (cdL 1 (cdL 1 cdI)).enc)] (by kernel_rfl) ?_
        refine RunS.one e_evening_Pairs_ok 0 rfl (op_w (wantedA_none rfl) rfl (by kernel_rfl) (by kernel_rfl) (w_append (a := hd 0 (c4.map (cdL 1 (cdL 1 cdI)).enc)) (b := hd 2 ([r17].map (cdL 1 (cdL 1 cdI)).enc)) (by kernel_rfl) (by kernel_rfl) (append_B (c := (cdL 1 (cdL 1 cdI))) (xs := c4) (vs := [r17]) (k := 1) (bytes := 24) (el := 36) (by kernel_rfl) (by kernel_rfl) (elems_hd (t := 36) (by kernel_rfl)) (List.cons_ne_nil _ _) (by kernel_rfl) hk18))) ?_
        refine RunS.segF (n := 66) e_evening_Pairs_ok 1 [(0, .v (.int .i64 x0)), (4, .v (.int .i64 (wr .i64 (x0 + (x0.tmod 2))))), (5, hd 3 ((c4 ++ [r17]).map (cdL 1 (cdL 1 cdI)).enc)), (20, .v (.int .i64 (wr .i64 ((wr .i64 (x0 + (x0.tmod 2))) - 1)))), (21, .v (.int .i64 c5))] [none, none, mk 1 36 ([r17].map (cdL 1 (cdL 1 cdI)).enc), mk 1 36 ((c4 ++ [r17]).map (cdL 1 (cdL 1 cdI)).enc)] (by kernel_rfl) ?_
        exact RunS.done rfl (Wk.sel2 [3] (by kernel_rfl) (by kernel_rfl) (by kernel_rfl) ⟨⟨_, rfl, bu_mk⟩, trivial⟩ ⟨lu (by kernel_rfl) (by kernel_rfl), lu (by kernel_rfl) (by kernel_rfl), lu_hd (b' := 3) (by kernel_rfl) (by kernel_rfl), lu (by kernel_rfl) (by kernel_rfl), lu (by kernel_rfl) (by kernel_rfl), trivial⟩)
      refine Sem.runS (s1 := ⟨Fr 66 [(0, .v (.int .i64 x0)), (4, .v (.int .i64 (wr .i64 (x0 + (x0.tmod 2))))), (5, hd 0 ((c4 ++ [r17]).map (cdL 1 (cdL 1 cdI)).enc)), (20, .v (.int .i64 (wr .i64 ((wr .i64 (x0 + (x0.tmod 2))) - 1)))), (21, .v (.int .i64 (wr .i64 (c5 + 1))))], [mk 1 36 ((c4 ++ [r17]).map (cdL 1 (cdL 1 cdI)).enc)]⟩) ?_ ?_
      · refine RunS.segF (n := 66) e_evening_Pairs_ok 2 [(0, .v (.int .i64 x0)), (4, .v (.int .i64 (wr .i64 (x0 + (x0.tmod 2))))), (5, hd 0 ((c4 ++ [r17]).map (cdL 1 (cdL 1 cdI)).enc)), (20, .v (.int .i64 (wr .i64 ((wr .i64 (x0 + (x0.tmod 2))) - 1)))), (21, .v (.int .i64 (wr .i64 (c5 + 1))))] [mk 1 36 ((c4 ++ [r17]).map (cdL 1 (cdL 1 cdI)).enc)] (by kernel_rfl) ?_
        exact RunS.done rfl (Wk.sel2 [0] (by kernel_rfl) (by kernel_rfl) (by kernel_rfl) ⟨⟨_, rfl, bu_mk⟩, trivial⟩ ⟨lu (by kernel_rfl) (by kernel_rfl), lu (by kernel_rfl) (by kernel_rfl), lu_hd (b' := 0) (by kernel_rfl) (by kernel_rfl), lu (by kernel_rfl) (by kernel_rfl), lu (by kernel_rfl) (by kernel_rfl), trivial⟩)
      exact SemN.wk (s1 := ⟨Fr 66 [(0, .v (.int .i64 x0)), (4, .v (.int .i64 (wr .i64 (x0 + (x0.tmod 2))))), (5, hd 0 ((c4 ++ [r17]).map (cdL 1 (cdL 1 cdI)).enc)), (20, .v (.int .i64 (wr .i64 ((wr .i64 (x0 + (x0.tmod 2))) - 1)))), (21, .v (.int .i64 (wr .i64 (c5 + 1))))], [mk 1 36 ((c4 ++ [r17]).map (cdL 1 (cdL 1 cdI)).enc)]⟩) (Wk.sel2 [0] (by kernel_rfl) (by kernel_rfl) (by kernel_rfl) ⟨⟨_, rfl, bu_mk⟩, trivial⟩ ⟨lu (by kernel_rfl) (by kernel_rfl), lu (by kernel_rfl) (by kernel_rfl), lu_hd (b' := 0) (by kernel_rfl) (by kernel_rfl), lu (by kernel_rfl) (by kernel_rfl), lu (by kernel_rfl) (by kernel_rfl), trivial⟩) (ih (c4 ++ [r17]) (wr .i64 (c5 + 1)) h)
    · rw [if_f hb6] at h
      refine Sem.exit ?_
      have hq := Option.some.inj h; subst hq
      exact ⟨rfl, (Wk.sel2 [0] (by kernel_rfl) (by kernel_rfl) (by kernel_rfl) ⟨⟨_, rfl, bu_mk⟩, trivial⟩ ⟨lu_hd (b' := 0) (by kernel_rfl) (by kernel_rfl), trivial⟩)⟩
set_option maxHeartbeats 4000000 in
set_option maxRecDepth 100000 in
theorem evening_Pairs_sem (x0 : Int) (r : (List (List (List Int))) × Int) (h : evening_Pairs x0 = some r) : Sem e_evening_Pairs ⟨none, false⟩ cb_evening_Pairs ⟨Fr 66 (pairs0 0 (cs_evening_Pairs.enc (x0, ()))), []⟩ fun e s' => (e = .normal ∨ e = .ret) ∧ ∃ xs, resA e_evening_Pairs.P s'.fr s'.hp Tryd.f29.results.toList = some xs ∧ retA xs = er_evening_Pairs r := by
  unfold evening_Pairs at h
  refine Sem.wkQ (Sem.wk (s1 := ⟨Fr 66 [(0, .v (.int .i64 x0))], []⟩) (Wk.fr (by kernel_rfl)) ?_)
  refine Sem.seq ?_
  refine Sem.runS (s1 := ⟨Fr 66 [(0, .v (.int .i64 x0))], []⟩) ?_ ?_
  · refine RunS.segF (n := 66) e_evening_Pairs_ok 2 [(0, .v (.int .i64 x0))] [] (by kernel_rfl) ?_
    exact RunS.done rfl (Wk.fr (by kernel_rfl))
  refine Sem.seq ?_
  refine Sem.seq ?_
  obtain ⟨j2, hj2, h⟩ := Option.bind_eq_some_iff.1 h
  refine Sem.runS (s1 := ⟨Fr 66 [(0, .v (.int .i64 x0)), (14, .v (.bool j2))], []⟩) ?_ ?_
  · refine RunS.segF (n := 66) e_evening_Pairs_ok 3 [(0, .v (.int .i64 x0)), (11, .v (.bool (decide (x0 < 2))))] [] (by kernel_rfl) ?_
    rcases Bool.eq_false_or_eq_true (decide (x0 < 2)) with hc21 | hc21
    · rw [if_pos hc21] at hj2
      rw [hc21]
      refine RunS.segF (n := 66) e_evening_Pairs_ok 3 [(0, .v (.int .i64 x0)), (14, .v (.bool true))] [] (by kernel_rfl) ?_
      have hq := Option.some.inj hj2; subst hq
      exact RunS.done rfl (Wk.fr (by kernel_rfl))
    · rw [if_f hc21] at hj2
      rw [hc21]
      refine RunS.segF (n := 66) e_evening_Pairs_ok 3 [(0, .v (.int .i64 x0)), (14, .v (.bool (decide (x0 > 64))))] [] (by kernel_rfl) ?_
      have hq := Option.some.inj hj2; subst hq
      exact RunS.done rfl (Wk.fr (by kernel_rfl))
  refine Sem.cond (b := j2) (by kernel_rfl) (fun hb3 => ?_) (fun hb3 => ?_)
  · rw [if_pos hb3] at h
    refine Sem.seq ?_
    refine Sem.runS (s1 := ⟨Fr 66 [(2, .e0), (3, .v (.int .i64 90))], []⟩) ?_ ?_
    · refine RunS.segF (n := 66) e_evening_Pairs_ok 2 [(2, .e0), (3, .v (.int .i64 90))] [] (by kernel_rfl) ?_
      exact RunS.done rfl (Wk.fr (by kernel_rfl))
    refine Sem.ret ?_
    have hq := Option.some.inj h; subst hq
    exact ⟨⟨Fr 66 [(2, .sl 1 ([].map (cdL 1 (cdL 1 cdI)).enc)), (3, .v (.int .i64 90))], []⟩, (Wk.trans (s1 := ⟨Fr 66 [(2, .e0), (3, .v (.int .i64 90))], []⟩) (Wk.fr (by kernel_rfl)) (Wk.trans (s1 := ⟨Fr 66 [(2, .e0), (3, .v (.int .i64 90))], [none]⟩) Wk.none (Wk.trans (s1 := ⟨Fr 66 [(2, .sl 1 ([].map (cdL 1 (cdL 1 cdI)).enc)), (3, .v (.int .i64 90))], [none]⟩) (Wk.frzG 0 (.inr (by kernel_rfl)) ⟨.inl rfl, trivial⟩ ⟨⟨.e0, (by kernel_rfl), fz_e0⟩, ⟨.v (.int .i64 90), (by kernel_rfl), .inl rfl⟩, trivial⟩) (Wk.sel2 [] (by kernel_rfl) (by kernel_rfl) (by kernel_rfl) trivial ⟨lu (by kernel_rfl) (by kernel_rfl), lu (by kernel_rfl) (by kernel_rfl), trivial⟩)))), .inr rfl, [.sl 1 ([].map (cdL 1 (cdL 1 cdI)).enc), .v (.int .i64 90)], (by kernel_rfl), (by kernel_rfl)⟩
  · rw [if_f hb3] at h
    refine Sem.skip ?_
    refine Sem.seq ?_
    refine Sem.runS (s1 := ⟨Fr 66 [(0, .v (.int .i64 x0)), (4, .v (.int .i64 (wr .i64 (x0 + (x0.tmod 2)))))], []⟩) ?_ ?_
    · refine RunS.segF (n := 66) e_evening_Pairs_ok 5 [(0, .v (.int .i64 x0)), (4, .v (.int .i64 (wr .i64 (x0 + (x0.tmod 2)))))] [] (by kernel_rfl) ?_
      exact RunS.done rfl (Wk.fr (by kernel_rfl))
    refine Sem.seq ?_
    refine Sem.runS (s1 := ⟨Fr 66 [(0, .v (.int .i64 x0)), (4, .v (.int .i64 (wr .i64 (x0 + (x0.tmod 2))))), (5, .e0)], []⟩) ?_ ?_
    · refine RunS.segF (n := 66) e_evening_Pairs_ok 1 [(0, .v (.int .i64 x0)), (4, .v (.int .i64 (wr .i64 (x0 + (x0.tmod 2))))), (5, .e0)] [] (by kernel_rfl) ?_
      exact RunS.done rfl (Wk.fr (by kernel_rfl))
    refine Sem.seq ?_
    refine Sem.seq ?_
    refine Sem.runS (s1 := ⟨Fr 66 [(0, .v (.int .i64 x0)), (4, .v (.int .i64 (wr .i64 (x0 + (x0.tmod 2))))), (5, .e0), (20, .v (.int .i64 (wr .i64 ((wr .i64 (x0 + (x0.tmod 2))) - 1)))), (21, .v (.int .i64 0))], []⟩) ?_ ?_
    · refine RunS.segF (n := 66) e_evening_Pairs_ok 3 [(0, .v (.int .i64 x0)), (4, .v (.int .i64 (wr .i64 (x0 + (x0.tmod 2))))), (5, .e0), (20, .v (.int .i64 (wr .i64 ((wr .i64 (x0 + (x0.tmod 2))) - 1)))), (21, .v (.int .i64 0))] [] (by kernel_rfl) ?_
      exact RunS.done rfl (Wk.fr (by kernel_rfl))
    refine Sem.block ?_
    obtain ⟨r20, hr20, h⟩ := Option.bind_eq_some_iff.1 h
    refine Sem.loop (n := 100000) ?_
    refine Sem.cutN (SemN.wk (s1 := ⟨Fr 66 [(0, .v (.int .i64 x0)), (4, .v (.int .i64 (wr .i64 (x0 + (x0.tmod 2))))), (5, hd 0 ([].map (cdL 1 (cdL 1 cdI)).enc)), (20, .v (.int .i64 (wr .i64 ((wr .i64 (x0 + (x0.tmod 2))) - 1)))), (21, .v (.int .i64 0))], [mk 1 36 ([].map (cdL 1 (cdL 1 cdI)).enc)]⟩) (Wk.trans (s1 := ⟨Fr 66 [(0, .v (.int .i64 x0)), (4, .v (.int .i64 (wr .i64 (x0 + (x0.tmod 2))))), (5, hd 0 ([].map (cdL 1 (cdL 1 cdI)).enc)), (20, .v (.int .i64 (wr .i64 ((wr .i64 (x0 + (x0.tmod 2))) - 1)))), (21, .v (.int .i64 0))], [mk 1 36 ([].map (cdL 1 (cdL 1 cdI)).enc)]⟩) Wk.none (Wk.sel2 [0] (by kernel_rfl) (by kernel_rfl) (by kernel_rfl) ⟨⟨_, rfl, bu_none⟩, trivial⟩ ⟨lu (by kernel_rfl) (by kernel_rfl), lu (by kernel_rfl) (by kernel_rfl), lu (by kernel_rfl) (by kernel_rfl), lu (by kernel_rfl) (by kernel_rfl), lu (by kernel_rfl) (by kernel_rfl), trivial⟩)) (evening_Pairs_1_ok x0 _ [] 0 _ hr20)) ?_
    refine Sem.seq ?_
    refine Sem.runS (s1 := ⟨Fr 66 [(2, hd 0 (r20.map (cdL 1 (cdL 1 cdI)).enc)), (3, .v (.int .i64 0))], [mk 1 36 (r20.map (cdL 1 (cdL 1 cdI)).enc)]⟩) ?_ ?_
    · refine RunS.segF (n := 66) e_evening_Pairs_ok 3 [(2, hd 0 (r20.map (cdL 1 (cdL 1 cdI)).enc)), (3, .v (.int .i64 0))] [mk 1 36 (r20.map (cdL 1 (cdL 1 cdI)).enc)] (by kernel_rfl) ?_
      exact RunS.done rfl (Wk.sel2 [0] (by kernel_rfl) (by kernel_rfl) (by kernel_rfl) ⟨⟨_, rfl, bu_mk⟩, trivial⟩ ⟨lu_hd (b' := 0) (by kernel_rfl) (by kernel_rfl), lu (by kernel_rfl) (by kernel_rfl), trivial⟩)
    refine Sem.ret ?_
    have hq := Option.some.inj h; subst hq
    exact ⟨⟨Fr 66 [(2, .sl 1 (r20.map (cdL 1 (cdL 1 cdI)).enc)), (3, .v (.int .i64 0))], []⟩, (Wk.trans (s1 := ⟨Fr 66 [(2, .sl 1 (r20.map (cdL 1 (cdL 1 cdI)).enc)), (3, .v (.int .i64 0))], [none]⟩) (Wk.frzG 0 (.inl (by kernel_rfl)) ⟨.inl rfl, trivial⟩ ⟨⟨hd 0 (r20.map (cdL 1 (cdL 1 cdI)).enc), (by kernel_rfl), fz_hd (t := 36) (by kernel_rfl) enc_ok⟩, ⟨.v (.int .i64 0), (by kernel_rfl), .inl rfl⟩, trivial⟩) (Wk.sel2 [] (by kernel_rfl) (by kernel_rfl) (by kernel_rfl) trivial ⟨lu (by kernel_rfl) (by kernel_rfl), lu (by kernel_rfl) (by kernel_rfl), trivial⟩)), .inr rfl, [.sl 1 (r20.map (cdL 1 (cdL 1 cdI)).enc), .v (.int .i64 0)], (by kernel_rfl), (by kernel_rfl)⟩
def t_evening_Pairs : List AV → Option AV := told cs_evening_Pairs (fun a => evening_Pairs a.1) er_evening_Pairs
theorem x_evening_Pairs : XOk 29 t_evening_Pairs := by
  refine EnvOk.x (E := e_evening_Pairs) (contract_ok e_evening_Pairs_ok (fn := Tryd.f29) (c := cb_evening_Pairs) ?h1 ?h2 ⟨Tryd.call29⟩ cs_evening_Pairs (fun a => evening_Pairs a.1) er_evening_Pairs (fun a => (by show 1 ≤ 66; decide)) ?h3 ?h4) rfl rfl
  case h1 => kernel_rfl
  case h2 => kernel_rfl
  case h3 => intro b; kernel_rfl
  case h4 => exact fun a b h => evening_Pairs_sem a.1 b h
end Go.Proofs.YtnmkejapogklmaaDoor

namespace Go.Proofs.YtnmkejapogklmaaDoor
open Go.RowKit

def sh1 (n : Nat) : AV → AV
  | .rf b lo k m => .rf (n + b) lo k m
  | .pt b i o => .pt (n + b) i o
  | x => x
def shN (n : Nat) : AV → AV
  | .ag cs => .ag (cs.map (sh1 n))
  | .tp cs => .tp (cs.map (sh1 n))
  | x => sh1 n x
section
variable {w w' : World} {Z Z' : Nat → Prop} {R R' : List RI} {h h' : Hp}
end

/-- What a call may hand back, and the blocks that come with it. -/
def SOk (f : FuncId) (ys : List AV) (Out : AV → Hp → Prop) : Prop := Callable E0.P f ∧ ∀ w Z us, (∀ c, Z c → c < w.heap.size) → GI E0 w Z → VRs w Z [] ys us → Ret E0.P f us.toArray w fun v w' => ∃ Z' R' x h', Out x h' ∧ HR w' Z' R' h' ∧ VR w' Z' R' x v ∧ StepW w Z [] [] w' Z' R' h'
theorem sok_of_sem {e : Env} (hE : EnvOk e) (hP : e.P = E0.P) (hG : e.G = E0.G) {f : FuncId} {fn : Func} {c : Code} (hf : e.fn f = some fn) (hc : fn.body = some c) (hcall : Callable E0.P f) {ys : List AV} (hle : ys.length ≤ fn.ntmps) {Out : AV → Hp → Prop}
    (sem : Sem e ⟨none, false⟩ c ⟨Fr fn.ntmps (pairs0 0 ys), []⟩ fun x s' => (x = .normal ∨ x = .ret) ∧ ∃ xs, resA e.P s'.fr s'.hp fn.results.toList = some xs ∧ Out (retA xs) s'.hp) : SOk f ys Out := by
  obtain ⟨P, fns, G, X, I⟩ := e
  simp only at hP hG
  subst hP hG
  refine ⟨hcall, fun w Z us hz hg hv => ?_⟩
  have hh : HR w Z [] [] := ⟨rfl, fun b B hB => by simp at hB, fun b b' B B' r r' hB => by simp at hB, hz⟩
  refine Ret.mono (ret_sem hE hf hc hle (Q := fun _ s => ∃ x, s.fr = [some x] ∧ Out x s.hp) (Sem.mono (Sem.wk (Wk.enter hle) sem) fun e s' hs => ?_) hh hv hg) fun v w' hS => ?_
  · obtain ⟨h1, xs, h2, h3⟩ := hs
    exact ⟨h1, xs, h2, _, rfl, h3⟩
  · obtain ⟨Z', R', x, h', ⟨y, hy, hO⟩, k1, k2, st⟩ := hS
    have hy : x = y := by simpa using hy
    subst hy
    exact ⟨Z', R', x, h', hO, k1, k2, st⟩
section
variable {E : Env} {ops : Array Oper} {rest rest' : List Oper} {K : St → Prop} {n : Nat} {l : List (Nat × AV)} {hp : Hp} {xs ys : List AV} {Out : AV → Hp → Prop}
end
end Go.Proofs.YtnmkejapogklmaaDoor

namespace Go.Proofs.YtnmkejapogklmaaDoor
open Go.RowKit

/-- As Fr1, and in the cells of a struct. -/
def Fr2 (h : Hp) (b : Nat) (x x' : AV) : Prop := Fr1 h b x x' ∨ ∃ cs cs', x = .ag cs ∧ x' = .ag cs' ∧ EsFz h b cs cs'
theorem Fr2.vr {w : World} {Z : Nat → Prop} {R : List RI} {h : Hp} {b : Nat} {x x' : AV} {u : Value} (f : Fr2 h b x x') (hh : HR w Z R h) (hv : VR w Z R x u) : VR w (ZFr Z R h b) R x' u := by
  rcases f with f | ⟨cs, cs', rfl, rfl, f⟩
  · exact f.vr hh hv
  · obtain ⟨k1, k2⟩ := f.at_
    cases hv with
    | ag hl h1 hx =>
      refine .ag (hl.trans k1) h1 fun i y u hy hu => ?_
      obtain ⟨x, q1, q2⟩ := k2 i y hy
      exact q2.vr hh (hx i x u q1 hu)
def EsF2 (h : Hp) (b : Nat) : List AV → List AV → Prop
  | [], [] => True
  | x :: r, x' :: r' => Fr2 h b x x' ∧ EsF2 h b r r'
  | _, _ => False
theorem EsF2.at_ {h : Hp} {b : Nat} : ∀ {es es' : List AV}, EsF2 h b es es' → es.length = es'.length ∧ ∀ (i : Nat) (x' : AV), es'[i]? = some x' → ∃ x, es[i]? = some x ∧ Fr2 h b x x'
  | [], [], _ => ⟨rfl, fun i x' hx => by simp at hx⟩
  | x :: r, x' :: r', ⟨h1, h2⟩ => by
    obtain ⟨k1, k2⟩ := h2.at_
    refine ⟨by simp [k1], fun i y hy => ?_⟩
    cases i with
    | zero => simp at hy; subst hy; exact ⟨x, rfl, h1⟩
    | succ i => simpa using k2 i y (by simpa using hy)
  | [], _ :: _, h => h.elim
  | _ :: _, [], h => h.elim
def EnF2 (h : Hp) (b : Nat) (o o' : Option Blk) : Prop := o' = none ∨ o = o' ∨ ∃ k t es es', o = some ⟨k, t, es, false⟩ ∧ o' = some ⟨k, t, es', false⟩ ∧ EsF2 h b es es'
def HpF2 (h : Hp) (b : Nat) : Hp → Hp → Prop
  | [], [] => True
  | o :: r, o' :: r' => EnF2 h b o o' ∧ HpF2 h b r r'
  | _, _ => False
theorem HpF2.at_ {h : Hp} {b : Nat} : ∀ {q q' : Hp}, HpF2 h b q q' → q.length = q'.length ∧ ∀ (j : Nat) (B' : Blk), q'[j]? = some (some B') → ∃ es, q[j]? = some (some { B' with es := es }) ∧ es.length = B'.es.length ∧ ∀ (i : Nat) (x' : AV), B'.es[i]? = some x' → ∃ x, es[i]? = some x ∧ Fr2 h b x x'
  | [], [], _ => ⟨rfl, fun j B' hx => by simp at hx⟩
  | o :: r, o' :: r', ⟨h1, h2⟩ => by
    obtain ⟨k1, k2⟩ := h2.at_
    refine ⟨by simp [k1], fun j B' hB => ?_⟩
    cases j with
    | zero =>
      simp at hB
      subst hB
      rcases h1 with h1 | h1 | ⟨k, t, es, es', rfl, h1, h3⟩
      · cases h1
      · subst h1
        exact ⟨B'.es, rfl, rfl, fun i x' hx => ⟨x', hx, .inl (.inl rfl)⟩⟩
      · have h1 := Option.some.inj h1
        subst h1
        obtain ⟨q1, q2⟩ := h3.at_
        exact ⟨es, rfl, q1, q2⟩
    | succ j => simpa using k2 j B' (by simpa using hB)
  | [], _ :: _, h => h.elim
  | _ :: _, [], h => h.elim
def LkF2 (h : Hp) (b : Nat) (l : List (Nat × AV)) : List (Nat × AV) → Prop
  | [] => True
  | (t, x') :: r => (∃ x, lk l t = some x ∧ Fr2 h b x x') ∧ LkF2 h b l r
theorem LkF2.at_ {h : Hp} {b : Nat} {l : List (Nat × AV)} : ∀ {l' : List (Nat × AV)}, LkF2 h b l l' → ∀ t x', lk l' t = some x' → ∃ x, lk l t = some x ∧ Fr2 h b x x'
  | [], _, t, x, h => by cases h
  | (k, y) :: r, hk, t, x, h => by
    rw [lk_put] at h
    split at h
    · next e => injection h with h; subst e h; exact hk.1
    · exact hk.2.at_ t x h
/-- Block b is frozen, wherever it is named. -/
theorem Wk.frzG2 {E : Env} {n : Nat} {l l' : List (Nat × AV)} {h h' : Hp} (b : Nat) (hb : h'[b]? = some Option.none ∨ h[b]? = some Option.none) (hh : HpF2 h b h h') (hl : LkF2 h b l l') : Wk E ⟨Fr n l, h⟩ ⟨Fr n l', h'⟩ := by
  intro base w Z R a sr
  obtain ⟨hlen, hblk⟩ := hh.at_
  have hne : ∀ (j : Nat) (B' B r : _), h'[j]? = some (some B') → h[b]? = some (some B) → R[b]? = some r → B.fz = false → B'.fz = false → ∀ r', R[j]? = some r' → r'.c ≠ r.c := by
    intro j B' B r hj hB hr hf hf' r' hr' e
    obtain ⟨es, k1, _⟩ := hblk j B' hj
    have := sr.hh.inj j b _ B r' r k1 hf' hB hf hr' hr e
    subst this
    rcases hb with hb | hb
    · rw [hb] at hj; cases hj
    · rw [hb] at hB; cases hB
  have hown : ∀ c, own R h' c → own R h c := fun c ⟨j, B, r, h1, h2, h3, h4⟩ => by
    obtain ⟨es, k1, _⟩ := hblk j B h1
    exact ⟨j, _, r, k1, h2, h3, h4⟩
  have hzo : ∀ c, ZFr Z R h b c → Z c ∨ own R h c := fun c hc => hc.elim .inl fun ⟨B, r, h1, h2, h3, h4⟩ => .inr ⟨b, B, r, h1, h2, h3, h4.symm⟩
  refine ⟨ZFr Z R h b, R, ⟨⟨sr.hh.len.trans hlen, fun j B' hB' => ?_, fun j j' B B' r r' hB hf hB' hf' h1 h2 e => ?_, fun c hc => ?_⟩, ⟨?_, fun t x hx => ?_⟩, ?_, fun g x hx => (sr.gl g x hx).mono (fun _ _ => rfl) (fun _ h => .inl h) (fun _ _ h => h), sr.bs⟩, ⟨rfl, rfl, rfl, Nat.le_refl _, fun _ _ _ => rfl, fun c hc => .inl (hown c hc), fun _ h => .inl h, fun c hc => (hzo c hc).elim .inl (fun h => .inr (.inl h))⟩⟩
  · obtain ⟨es, k1, k2, k3⟩ := hblk j B' hB'
    obtain ⟨r, arr, us, g1, g2, g3, g4, g5, g6, g7, g8, g9, g10⟩ := sr.hh.blk j _ k1
    refine ⟨r, arr, us, g1, g2, g3, g4, by rw [← k2]; exact g5, g6, fun hf => .inl (g7 hf), fun hf hc => ?_, ⟨by rw [g9.len]; exact k2, fun i x' u hx hu => ?_⟩, g10⟩
    · rcases hc with hc | ⟨B, r2, q1, q2, q3, q4⟩
      · exact g8 hf hc
      · exact hne j B' B r2 hB' q1 q3 q2 hf r g1 q4
    · obtain ⟨x, q1, q2⟩ := k3 i x' hx
      exact q2.vr sr.hh (g9.at_ i x u q1 hu)
  · obtain ⟨es, k1, _⟩ := hblk j B hB
    obtain ⟨es', k1', _⟩ := hblk j' B' hB'
    exact sr.hh.inj j j' _ _ r r' k1 hf k1' hf' h1 h2 e
  · rcases hc with hc | ⟨B, r, q1, q2, q3, rfl⟩
    · exact sr.hh.zlt c hc
    · exact sr.hh.rltL q1 q3
  · rw [Fr_len]; have := sr.fr.1; rw [Fr_len] at this; exact this
  · rw [Fr_get] at hx
    split at hx
    · next ht =>
      injection hx with hx
      obtain ⟨y, h1, h2⟩ := hl.at_ t x hx
      exact h2.vr sr.hh (sr.fr.2 t y (by rw [Fr_get, if_pos ht, h1]))
    · cases hx
  · have : ∀ {D : List Deferred}, Mks base w Z R h D → Mks base w (ZFr Z R h b) R h' D := by
      intro D
      induction D with
      | nil => intro _; trivial
      | cons d D ih => exact fun ⟨⟨q, h1, h2, h3, h4, h5, h6⟩, hD⟩ => ⟨⟨q, h1, h2, h3, fun hc => (hzo q hc).elim h4 h5, fun ho => h5 (hown q ho), h6⟩, ih hD⟩
    exact this sr.mks
end Go.Proofs.YtnmkejapogklmaaDoor

namespace Go.Proofs.YtnmkejapogklmaaDoor
open Go.RowKit

def cdG2 {α β : Type} (c : Cd α) (d : Cd β) (hc : ∀ x, noRf (c.enc x) = true) (hd : ∀ x, noRf (d.enc x) = true) : Cd (α × β) where
  enc x := .ag [c.enc x.1, d.enc x.2]
  dec a := match a with
    | .ag [y, z] => (c.dec y).bind fun p => (d.dec z).map fun q => (p, q)
    | _ => none
  de x := by simp [c.de, d.de]
  vr := fun {w Z a x u} h hv => by
    split at h
    · obtain ⟨p, h1, h⟩ := Option.bind_eq_some_iff.1 h
      obtain ⟨q, h2, rfl⟩ := Option.map_eq_some_iff.1 h
      cases hv with
      | ag hl hh hx =>
        refine .ag (by simpa using hl) hh fun i y u hy hu => ?_
        match i with
        | 0 => simp at hy; subst hy; exact c.vr h1 (hx 0 _ u rfl hu)
        | 1 => simp at hy; subst hy; exact d.vr h2 (hx 1 _ u rfl hu)
        | i + 2 => simp at hy
    · cases h
  nr x := by simp [noRf2, hc, hd]
def cdG3 {α β γ : Type} (c : Cd α) (d : Cd β) (f : Cd γ) (hc : ∀ x, noRf (c.enc x) = true) (hd : ∀ x, noRf (d.enc x) = true) (hf : ∀ x, noRf (f.enc x) = true) : Cd (α × β × γ) where
  enc x := .ag [c.enc x.1, d.enc x.2.1, f.enc x.2.2]
  dec a := match a with
    | .ag [y, z, t] => (c.dec y).bind fun p => (d.dec z).bind fun q => (f.dec t).map fun r => (p, q, r)
    | _ => none
  de x := by simp [c.de, d.de, f.de]
  vr := fun {w Z a x u} h hv => by
    split at h
    · obtain ⟨p, h1, h⟩ := Option.bind_eq_some_iff.1 h
      obtain ⟨q, h2, h⟩ := Option.bind_eq_some_iff.1 h
      obtain ⟨r, h3, rfl⟩ := Option.map_eq_some_iff.1 h
      cases hv with
      | ag hl hh hx =>
        refine .ag (by simpa using hl) hh fun i y u hy hu => ?_
        match i with
        | 0 => simp at hy; subst hy; exact c.vr h1 (hx 0 _ u rfl hu)
        | 1 => simp at hy; subst hy; exact d.vr h2 (hx 1 _ u rfl hu)
        | 2 => simp at hy; subst hy; exact f.vr h3 (hx 2 _ u rfl hu)
        | i + 3 => simp at hy
    · cases h
  nr x := by simp [noRf2, hc, hd, hf]
def notAg : AV → Bool
  | .ag _ => false
  | _ => true
/-- The two parts of a range over a function. -/
def asgOf : Code → Code
  | .rangeFunc _ _ a _ => a
  | c => c
def bdyOf : Code → Code
  | .rangeFunc _ _ _ b => b
  | c => c
/-- As Sem, but the numbers of the blocks are kept, and a range over a function may be under way. -/
def SemY (E : Env) (cx : Cx) (c : Code) (s : St) (Q : Ex → St → Prop) : Prop :=
  ∀ (ro : Option Nat) (base : Nat) (Qm : Exit → Act → World → Prop) (a : Act) (w : World) (Z : Nat → Prop) (R : List RI), (cx.inR = false → ro = none) → SR E base w Z R s a → YI cx w Z R s.hp →
    (∀ e s' a' w' Z' R', Q e s' → SR E base w' Z' R' s' a' → Step w Z R s.hp w' Z' R' s'.hp → Qm (exOf e) a' w') → c.wpIn (Fw ro) 0 E.P Qm a w
def SemYN (E : Env) (cx : Cx) (c : Code) (n : Nat) (s : St) (Q : Ex → St → Prop) : Prop :=
  ∀ (ro : Option Nat) (base : Nat) (Qm : Exit → Act → World → Prop) (a : Act) (w : World) (Z : Nat → Prop) (R : List RI), (cx.inR = false → ro = none) → SR E base w Z R s a → YI cx w Z R s.hp →
    (∀ e s' a' w' Z' R', Q e s' → SR E base w' Z' R' s' a' → Step w Z R s.hp w' Z' R' s'.hp → Qm (exOf e) a' w') → Code.roundsIn (Fw ro) 0 E.P c Qm n a w
def RunY (E : Env) (cx : Cx) (ops : Array Oper) (rest : List Oper) (s : St) (K : St → Prop) : Prop :=
  ∀ (ro : Option Nat) (base : Nat) (Q : Exit → Act → World → Prop) (a : Act) (w : World) (Z : Nat → Prop) (R : List RI), (cx.inR = false → ro = none) → SR E base w Z R s a → YI cx w Z R s.hp →
    (∀ s' a' w' Z' R', K s' → SR E base w' Z' R' s' a' → Step w Z R s.hp w' Z' R' s'.hp → Q .normal a' w') → wpListIn (Fw ro) 0 E.P ops Q rest a w
/-- A state that says less of the same worlds; the numbers are kept. -/
def WkY (E : Env) (s s' : St) : Prop := ∀ base w Z R a, SR E base w Z R s a → ∃ Z' R', SR E base w Z' R' s' a ∧ Step w Z R s.hp w Z' R' s'.hp
section
variable {E : Env} {cx : Cx} {ops : Array Oper} {pre rest rest' : List Oper} {s s1 : St} {K : St → Prop} {n m : Nat} {l l' : List (Nat × AV)} {hp hp' : Hp} {Q Q' : Ex → St → Prop} {id : Nat} {c c' : Code}
theorem SemY.skip (q : Q .normal s) : SemY E cx .skip s Q := fun _ _ _ a w Z R _ h2 _ k => wpIn_skip (k .normal s a w Z R q h2 (Step.refl _ _ _ _))
theorem SemY.exit {id : Nat} (q : Q (.exit id) s) : SemY E cx (.exit id) s Q := fun _ _ _ a w Z R _ h2 _ k => wpIn_exit (k (.exit id) s a w Z R q h2 (Step.refl _ _ _ _))
theorem SemY.ret (q : Q .ret s) : SemY E cx .ret s Q := fun _ _ _ a w Z R _ h2 _ k => wpIn_ret (k .ret s a w Z R q h2 (Step.refl _ _ _ _))
theorem SemY.seq (h : SemY E cx c s fun e s' => match e with | .normal => SemY E cx c' s' Q | e => Q e s') : SemY E cx (.seq c c') s Q := by
  intro ro base Qm a w Z R h1 h2 h3 k
  refine wpIn_seq (h ro base _ a w Z R h1 h2 h3 fun e s' a' w' Z' R' hQ sr st => ?_)
  cases e with
  | normal => exact hQ ro base Qm a' w' Z' R' h1 sr (h3.step h2.hh st) fun e2 s2 a2 w2 Z2 R2 hQ2 sr2 st2 => k e2 s2 a2 w2 Z2 R2 hQ2 sr2 (st.trans st2)
  | exit id => exact k _ s' a' w' Z' R' hQ sr st
  | ret => exact k _ s' a' w' Z' R' hQ sr st
theorem SemY.cond_true {x : Operand} (hx : opA E s.fr x = some (.v (.bool true))) (h : SemY E cx c s Q) : SemY E cx (.cond x c c') s Q :=
  fun ro base Qm a w Z R h1 h2 h3 k => wpIn_cond_true (opA_vr h2 _ _ hx).v_inv (h ro base Qm a w Z R h1 h2 h3 k)
theorem SemY.cond_false {x : Operand} (hx : opA E s.fr x = some (.v (.bool false))) (h : SemY E cx c' s Q) : SemY E cx (.cond x c c') s Q :=
  fun ro base Qm a w Z R h1 h2 h3 k => wpIn_cond_false (opA_vr h2 _ _ hx).v_inv (h ro base Qm a w Z R h1 h2 h3 k)
theorem SemY.cond {x : Operand} {b : Bool} (hx : opA E s.fr x = some (.v (.bool b))) (h : b = true → SemY E cx c s Q) (h' : b = false → SemY E cx c' s Q) : SemY E cx (.cond x c c') s Q := by
  cases b with
  | true => exact .cond_true hx (h rfl)
  | false => exact .cond_false hx (h' rfl)
theorem SemY.block {id : Nat} (h : SemY E cx c s fun e s' => match e with | .exit id' => if id' = id then Q .normal s' else Q (.exit id') s' | e => Q e s') : SemY E cx (.block id c) s Q := by
  intro ro base Qm a w Z R h1 h2 h3 k
  refine wpIn_block (h ro base _ a w Z R h1 h2 h3 fun e s' a' w' Z' R' hQ sr st => ?_)
  cases e with
  | normal => exact k _ s' a' w' Z' R' hQ sr st
  | exit id' =>
    show if id' = id then Qm .normal a' w' else Qm (.exit id') a' w'
    simp only at hQ
    split at hQ
    · next h => rw [if_pos h]; exact k .normal s' a' w' Z' R' hQ sr st
    · next h => rw [if_neg h]; exact k _ s' a' w' Z' R' hQ sr st
  | ret => exact k _ s' a' w' Z' R' hQ sr st
theorem SemY.loop (h : SemYN E cx c n s Q) : SemY E cx (.loop c) s Q :=
  fun ro base Qm a w Z R h1 h2 h3 k => wpIn_loop_rounds n (h ro base Qm a w Z R h1 h2 h3 k)
theorem SemYN.succ (h : SemY E cx c s fun e s' => match e with | .normal => SemYN E cx c n s' Q | e => Q e s') : SemYN E cx c (n + 1) s Q := by
  intro ro base Qm a w Z R h1 h2 h3 k
  show c.wpIn (Fw ro) 0 E.P (Exit.then (Code.roundsIn (Fw ro) 0 E.P c Qm n) Qm) a w
  refine h ro base _ a w Z R h1 h2 h3 fun e s' a' w' Z' R' hQ sr st => ?_
  cases e with
  | normal => exact hQ ro base Qm a' w' Z' R' h1 sr (h3.step h2.hh st) fun e2 s2 a2 w2 Z2 R2 hQ2 sr2 st2 => k e2 s2 a2 w2 Z2 R2 hQ2 sr2 (st.trans st2)
  | exit id => exact k _ s' a' w' Z' R' hQ sr st
  | ret => exact k _ s' a' w' Z' R' hQ sr st
theorem SemY.mono (h : SemY E cx c s Q) (hq : ∀ e s, Q e s → Q' e s) : SemY E cx c s Q' :=
  fun ro base Qm a w Z R h1 h2 h3 k => h ro base Qm a w Z R h1 h2 h3 fun e s' a' w' Z' R' hQ => k e s' a' w' Z' R' (hq e s' hQ)
theorem WkY.refl : WkY E s s := fun _ _ Z R _ h => ⟨Z, R, h, Step.refl _ _ _ _⟩
theorem WkY.trans {s2 : St} (h : WkY E s s1) (h' : WkY E s1 s2) : WkY E s s2 := fun base w Z R a k =>
  let ⟨Z1, R1, k1, st1⟩ := h base w Z R a k
  let ⟨Z2, R2, k2, st2⟩ := h' base w Z1 R1 a k1
  ⟨Z2, R2, k2, st1.trans st2⟩
theorem WkY.fr (h : lkAll l l' = xsAll l') : WkY E ⟨Fr n l, hp⟩ ⟨Fr n l', hp⟩ := fun base w Z R a sr => by
  refine ⟨Z, R, ⟨sr.hh, ⟨?_, fun t x hx => sr.fr.2 t x ?_⟩, sr.mks, sr.gl, sr.bs⟩, Step.refl _ _ _ _⟩
  · rw [Fr_len]; have := sr.fr.1; rw [Fr_len] at this; exact this
  · rw [Fr_get] at hx ⊢
    split at hx
    · next ht => rw [if_pos ht]; injection hx with hx; rw [lk_mem h hx]
    · cases hx
theorem SemY.wk (hw : WkY E s s1) (h : SemY E cx c s1 Q) : SemY E cx c s Q := by
  intro ro base Qm a w Z R h1 h2 h3 k
  obtain ⟨Z', R', h2', st⟩ := hw base w Z R a h2
  exact h ro base Qm a w Z' R' h1 h2' (h3.step h2.hh st) fun e s' a' w' Z2 R2 hQ sr st2 => k e s' a' w' Z2 R2 hQ sr (st.trans st2)
theorem SemYN.wk (hw : WkY E s s1) (h : SemYN E cx c n s1 Q) : SemYN E cx c n s Q := by
  intro ro base Qm a w Z R h1 h2 h3 k
  obtain ⟨Z', R', h2', st⟩ := hw base w Z R a h2
  exact h ro base Qm a w Z' R' h1 h2' (h3.step h2.hh st) fun e s' a' w' Z2 R2 hQ sr st2 => k e s' a' w' Z2 R2 hQ sr (st.trans st2)
theorem SemY.fr (h : lkAll l l' = xsAll l') (k : SemY E cx c ⟨Fr n l', hp⟩ Q) : SemY E cx c ⟨Fr n l, hp⟩ Q := SemY.wk (WkY.fr h) k
/-- What a part did, told by one state for each way out. -/
theorem SemY.cut {e0 : Ex} {s2 : St} (h : SemY E cx c s fun e s' => e = e0 ∧ WkY E s' s2) (q : Q e0 s2) : SemY E cx c s Q := by
  intro ro base Qm a w Z R h1 h2 h3 k
  refine h ro base Qm a w Z R h1 h2 h3 fun e s' a' w' Z' R' hQ sr st => ?_
  obtain ⟨rfl, hw⟩ := hQ
  obtain ⟨Z2, R2, sr2, st2⟩ := hw base w' Z' R' a' sr
  exact k e s2 a' w' Z2 R2 q sr2 (st.trans st2)
theorem SemY.cutN {e0 : Ex} {s2 : St} (h : SemYN E cx c n s fun e s' => e = e0 ∧ WkY E s' s2) (q : Q e0 s2) : SemYN E cx c n s Q := by
  intro ro base Qm a w Z R h1 h2 h3 k
  refine h ro base Qm a w Z R h1 h2 h3 fun e s' a' w' Z' R' hQ sr st => ?_
  obtain ⟨rfl, hw⟩ := hQ
  obtain ⟨Z2, R2, sr2, st2⟩ := hw base w' Z' R' a' sr
  exact k e s2 a' w' Z2 R2 q sr2 (st.trans st2)
theorem RunY.done (hr : rest = []) (k : K s) : RunY E cx ops rest s K := by
  subst hr
  exact fun ro base Q a w Z R _ sr _ q => q s a w Z R k sr (Step.refl _ _ _ _)
theorem RunY.app (hE : EnvOk E) (n : Nat) : ∀ {pre : List Oper} {s : St}, opsA E (evC E n) ⟨none, false⟩ ops pre s = some s1 → RunY E cx ops rest s1 K → RunY E cx ops (pre ++ rest) s K
  | [], s, e, k => by injection e with e; subst e; exact k
  | o :: pre, s, e, kk => by
    intro ro base Q a w Z R hro sr hy q
    show wpListIn (Fw ro) 0 E.P ops Q (o :: (pre ++ rest)) a w
    unfold opsA at e
    unfold wpListIn
    split at e
    · cases e
    · next hw =>
      rw [if_neg (by rw [wantedA_eq sr hw]; simp)]
      exact ⟨fun _ _ => trivial, RunY.app hE n e kk ro base Q _ w Z R hro (sr.put undef_vr) hy q⟩
    · next hw =>
      rw [if_pos (wantedA_eq sr hw)]
      split at e
      · next s2 hs2 => exact lw_wpIn ro (op1_lw hE (code_sound hE n).1 hs2 sr fun a' w' Z' R' sr' st => RunY.app hE n e kk ro base Q a' w' Z' R' hro sr' (hy.step sr.hh st) fun s'' a'' w'' Z'' R'' hK sr'' st' => q s'' a'' w'' Z'' R'' hK sr'' (st.trans st'))
      · cases e
theorem RunY.seg (hE : EnvOk E) (m : Nat) (h : opsA E (evC E 0) ⟨none, false⟩ ops (rest.take m) s = some s1) (k : RunY E cx ops (rest.drop m) s1 K) : RunY E cx ops rest s K := by
  have := RunY.app hE 0 h k
  rwa [List.take_append_drop] at this
theorem RunY.segF (hE : EnvOk E) (m : Nat) {s : St} (l : List (Nat × AV)) (hp : Hp) (h : segB (opsA E (evC E 0) ⟨none, false⟩ ops (rest.take m) s) l = some (n, xs2 l, hp)) (k : RunY E cx ops (rest.drop m) ⟨Fr n l, hp⟩ K) : RunY E cx ops rest s K := by
  obtain ⟨fr, h1, h2, h3⟩ := segB_inv h
  refine RunY.seg hE m h1 ?_
  exact fun ro base Q a w Z R hro sr hy q => k ro base Q a w Z R hro (sr.forget h2 h3) hy q
theorem RunY.one (hE : EnvOk E) (n : Nat) {o : Oper} (hr : rest = o :: rest') (h : opsA E (evC E n) ⟨none, false⟩ ops [o] s = some s1) (k : RunY E cx ops rest' s1 K) : RunY E cx ops rest s K := by
  subst hr
  exact RunY.app hE n (pre := [o]) h k
theorem RunY.store (hE : EnvOk E) {t : TypeId} {p q : Operand} {y z : AV} {ty : TypeId} {pos : String} {af : Array Edge} {g : Option (Nat × Bool)} (hr : rest = ⟨none, .store t p q, ty, pos, af, g⟩ :: rest') (hw : wantedA ops (Fr n l) ⟨none, .store t p q, ty, pos, af, g⟩ = some true) (hp1 : opA E (Fr n l) p = some y) (hq1 : opA E (Fr n l) q = some z) (h : evStore E.P hp t y z = some hp') (k : RunY E cx ops rest' ⟨Fr n l, hp'⟩ K) : RunY E cx ops rest ⟨Fr n l, hp⟩ K :=
  RunY.one hE 0 hr (op_st hw hp1 hq1 h) k
theorem RunY.call {α β : Type} {s : Cs α} {F : α → Option β} {er : β → AV} {a : α} {b : β} {xs : List AV} (hE : EnvOk E) {d : Nat} {f : Operand} {args : Array Operand} {tys : Array TypeId} {ty : TypeId} {pos : String} {af : Array Edge} {g : Option (Nat × Bool)} {fid : FuncId} (hr : rest = ⟨some d, .call ⟨.value f, args, tys⟩, ty, pos, af, g⟩ :: rest') (hw : wantedA ops (Fr n l) ⟨some d, .call ⟨.value f, args, tys⟩, ty, pos, af, g⟩ = some true)
    (hf : opA E (Fr n l) f = some (.fn fid [] [])) (hi : E.I fid = false) (hX : E.X fid = some (told s F er)) (ha : opds (opA E (Fr n l)) args.toList = some xs) (hv : Sns hp s xs a) (hok : xs.all noRf2 = true ∨ flatTp (er b) = true) (hF : F a = some b) (k : RunY E cx ops rest' ⟨Fr n ((d, er b) :: l), hp⟩ K) : RunY E cx ops rest ⟨Fr n l, hp⟩ K :=
  RunY.one hE 0 hr (op_call hw hf hi hX ha hv hok hF) k
theorem SemY.region (h : RunY E cx ops ops.toList s fun s' => Q .normal s') : SemY E cx (.region id ops false) s Q := by
  intro ro base Qm a w Z R h1 h2 h3 kk
  exact wpIn_region_list (h ro base _ a w Z R h1 h2 h3 fun s' a' w' Z' R' hq sr st => kk .normal s' a' w' Z' R' hq sr st)
end
def pz : List Nat → List AV → List (Nat × AV) → List (Nat × AV)
  | p :: ps, x :: xs, l => pz ps xs ((p, x) :: l)
  | _, _, l => l
theorem setPs_Fr {n : Nat} : ∀ {ps : List Nat} {xs : List AV} {l : List (Nat × AV)}, setPs (Fr n l) ps xs = Fr n (pz ps xs l)
  | [], _, _ => by unfold setPs pz; rfl
  | _ :: _, [], _ => by unfold setPs pz; rfl
  | p :: ps, x :: xs, l => by
    unfold setPs pz
    rw [show (Fr n l).set p (some x) = Fr n ((p, x) :: l) from putA_Fr n l p x]
    exact setPs_Fr
theorem mark_eq {p q : Nat} (h : mark p = mark q) : p = q := by
  unfold mark at h
  injection h with h
  injection h
theorem mks_new {base : Nat} {w : World} {Z : Nat → Prop} {R : List RI} {h : Hp} {r : Nat} (hr : w.heap.size ≤ r) : ∀ {D : List Deferred}, Mks base w Z R h D → mark r ∈ D → False
  | [], _, hm => by cases hm
  | d :: D, ⟨⟨q, _, q2, q3, _⟩, hD⟩, hm => by
    rcases List.mem_cons.1 hm with hm | hm
    · rw [← hm] at q2
      have := mark_eq q2
      have := heapLt q3
      omega
    · exact mks_new hr hD hm
/-- A function, entered: what its body does. -/
theorem ret_semY {e : Env} (he : EnvOk e) {y : Option YC} {f : FuncId} {fn : Func} {c : Code} (hfn : e.fn f = some fn) (hc : fn.body = some c) {args : List AV} (hle : args.length ≤ fn.ntmps) {hp : Hp} {Out : AV → Hp → Prop}
    (sem : SemY e ⟨y, false⟩ c ⟨Fr fn.ntmps (pairs0 0 args), hp⟩ fun x s' => (x = .normal ∨ x = .ret) ∧ ∃ ys, resA e.P s'.fr s'.hp fn.results.toList = some ys ∧ Out (retA ys) s'.hp)
    {w : World} {Z : Nat → Prop} {R : List RI} {us : List Value} (hh : HR w Z R hp) (hv : VRs w Z R args us) (hg : GI e w Z) (hy : YI ⟨y, false⟩ w Z R hp) :
    Ret e.P f us.toArray w fun v w' => ∃ Z' R' x h', Out x h' ∧ HR w' Z' R' h' ∧ VR w' Z' R' x v ∧ Step w Z R hp w' Z' R' h' := by
  obtain ⟨hff, hcall, _⟩ := he.fn f fn hfn
  refine callsIn_wide.1 (callsIn_of_wp_marks (F := Fw none) (n := 0) hff hc trivial ?_)
  have hul : us.length = args.length := hv.len
  have hsr : SR e w.heap.size w Z R ⟨Fr fn.ntmps (pairs0 0 args), hp⟩ { tmps := us.toArray ++ Array.replicate (fn.ntmps - us.toArray.size) undef, defers := [] } := by
    refine ⟨hh, ⟨by rw [Fr_len]; simp; omega, fun t x hx => ?_⟩, trivial, hg, Nat.le_refl _⟩
    rw [Fr_get] at hx
    split at hx
    · injection hx with hx
      obtain ⟨j, h1, h2⟩ := lk_pairs0 _ 0 t x hx
      rw [Nat.zero_add] at h1
      subst h1
      obtain ⟨u, hu1, hu2⟩ := hv.get h2
      have e0 : us.toArray ++ Array.replicate (fn.ntmps - us.toArray.size) undef = (us ++ List.replicate (fn.ntmps - us.length) undef).toArray := by simp
      rw [e0, Array.getD_eq_getD_getElem?, List.getElem?_toArray, List.getElem?_append_left (List.getElem?_eq_some_iff.1 hu1).1, hu1]
      exact hu2
    · cases hx
  refine sem none w.heap.size _ _ w Z R (fun _ => rfl) hsr hy fun x s' a' w' Z' R' hQ sr' st => ?_
  obtain ⟨hex, ys, hys, hO⟩ := hQ
  have hl := leaves_mks (E := e) (w := w') (a := a') (fn := fn) (S := fun v w'' => ∃ Z' R' x h', Out x h' ∧ HR w'' Z' R' h' ∧ VR w'' Z' R' x v ∧ Step w Z R hp w'' Z' R' h') hys (fun w'' u g1 g2 g3 g4 g5 g6 g7 => ⟨Z', R', _, _, hO, g6, g7, ⟨g2.trans st.os, g3.trans st.tape, g4.trans st.output, by rw [g1]; exact st.size, fun c hc hn => (g5 c hc).trans (st.block c hc hn), st.own_, st.z, st.z', st.r⟩⟩) (D := a'.defers) (w1 := w') sr' rfl rfl rfl rfl (fun _ _ => rfl)
  rcases hex with rfl | rfl
  · exact hl
  · exact hl
section
variable {E : Env} {cx : Cx} {ops : Array Oper} {rest rest' : List Oper} {K : St → Prop} {n : Nat} {l : List (Nat × AV)} {hp : Hp}
/-- A call whose body is gone through. -/
theorem RunS.inlY (hP : E.P = E0.P) (hG : E.G = E0.G) {e : Env} (he : EnvOk e) (heP : e.P = E0.P) (heG : e.G = E0.G) {d : Nat} {f : Operand} {args : Array Operand} {tys : Array TypeId} {ty : TypeId} {pos : String} {af : Array Edge} {g : Option (Nat × Bool)} {fid : FuncId} {caps xs : List AV} {fn : Func} {c : Code} {Out : AV → Hp → Prop} (hr : rest = ⟨some d, .call ⟨.value f, args, tys⟩, ty, pos, af, g⟩ :: rest') (hw : wantedA ops (Fr n l) ⟨some d, .call ⟨.value f, args, tys⟩, ty, pos, af, g⟩ = some true)
    (hf : opA E (Fr n l) f = some (.fn fid [] caps)) (ha : opds (opA E (Fr n l)) args.toList = some xs) (hfn : e.fn fid = some fn) (hc : fn.body = some c) (hle : (xs ++ caps).length ≤ fn.ntmps)
    (sem : SemY e ⟨none, false⟩ c ⟨Fr fn.ntmps (pairs0 0 (xs ++ caps)), hp⟩ fun x s' => (x = .normal ∨ x = .ret) ∧ ∃ ys, resA e.P s'.fr s'.hp fn.results.toList = some ys ∧ Out (retA ys) s'.hp)
    (k : ∀ x h', Out x h' → RunS E ops rest' ⟨Fr n ((d, x) :: l), h'⟩ K) : RunS E ops rest ⟨Fr n l, hp⟩ K := by
  obtain ⟨P, fns, G, X, I⟩ := E
  obtain ⟨P', fns', G', X', I'⟩ := e
  simp only at hP hG heP heG
  subst hP hG heP heG
  subst hr
  intro base Q a w Z R sr q
  have hρ : ∀ o x, opA ⟨E0.P, fns, E0.G, X, I⟩ (Fr n l) o = some x → VR w Z R x (a.eval o) := fun o x e => opA_vr sr o x e
  unfold LwL
  rw [if_pos (wantedA_eq sr hw)]
  have hvf := hρ _ _ hf
  generalize hvq : a.eval f = vf at hvf
  cases hvf with
  | fn hl hl' hx hy =>
    rename_i u1 u2
    have e1 : u1 = [] := by simpa using hl
    subst e1
    obtain ⟨hff, hcall, _⟩ := he.fn fid fn hfn
    unfold Lw
    rw [run_call (uf := []) (uc := u2) rfl hvq rfl hcall w]
    simp only [List.nil_append]
    have hargs : VRs w Z R (xs ++ caps) (args.toList.map a.eval ++ u2) := (opds_vr hρ ha).append ⟨hl', hy⟩
    refine Ret.mono (ret_semY he hfn hc hle sem sr.hh hargs sr.gl (fun y hy => by cases hy)) fun v w' hS => ?_
    obtain ⟨Z', R', x, h', hO, h1, h2, st⟩ := hS
    have sr' := (sr.step h1 st).put (d := some d) h2
    rw [show putA (⟨Fr n l, hp⟩ : St).fr (some d) x = Fr n ((d, x) :: l) from putA_Fr n l d _] at sr'
    exact k x h' hO base Q _ w' Z' R' sr' fun s' a' w'' Z'' R'' hK sr'' st' => q s' a' w'' Z'' R'' hK sr'' (st.w.trans st')
/-- Only the first m blocks are kept. -/
theorem HR.trunc {w0 w : World} {Z0 Z : Nat → Prop} {R0 R : List RI} {h0 h h' : Hp} {m : Nat} (st : Step w0 Z0 R0 h0 w Z R h) (hl0 : R0.length = h0.length) (hm0 : h0.length ≤ m) (hh : HR w Z R h) (hm : (Nat.ble m h.length && Nat.ble h.length 1000000000) = true) (hk : HpUp (List.range m) h (List.range m) h') :
    HR w Z (newR (List.range m) R) h' ∧ Step w0 Z0 R0 h0 w Z (newR (List.range m) R) h' := by
  simp only [Bool.and_eq_true] at hm
  have hm1 := Nat.le_of_ble_eq_true hm.1
  have hb := Nat.le_of_ble_eq_true hm.2
  have hlen := hh.len
  obtain ⟨k1, k2⟩ := hk.at_
  rw [List.length_range] at k1
  have hι : ∀ i ∈ List.range m, i < R.length := fun i hi => by have := List.mem_range.1 hi; omega
  have hbR : R.length ≤ 1000000000 := by omega
  have hget : ∀ j, j < m → (newR (List.range m) R)[j]? = R[j]? := fun j hj => by
    unfold newR
    rw [List.getElem?_map, List.getElem?_range hj, Option.map_some, List.getD_eq_getElem?_getD, List.getElem?_eq_getElem (by omega : j < R.length)]; rfl
  have hrange : ∀ (j b : Nat), (List.range m)[j]? = some b → j < m ∧ b = j := fun j b hj => by
    obtain ⟨h1, h2⟩ := List.getElem?_eq_some_iff.1 hj
    rw [List.length_range] at h1
    rw [List.getElem_range] at h2
    exact ⟨h1, h2.symm⟩
  have hown : ∀ c, own (newR (List.range m) R) h' c → own R h c := fun c ⟨j, B, r, h1, h2, h3, h4⟩ => by
    obtain ⟨b, q1, q2, _⟩ := k2 j B h1
    obtain ⟨hj, rfl⟩ := hrange _ _ q1
    rw [hget b hj] at h3
    exact ⟨b, _, r, q2, h2, h3, h4⟩
  refine ⟨⟨by rw [k1]; simp [newR], fun j B hB => ?_, fun j j' B B' r r' hB hf hB' hf' h1 h2 e => ?_, hh.zlt⟩, ⟨st.os, st.tape, st.output, st.size, st.block, fun c hc => st.own_ c (hown c hc), st.z, st.z', fun i x hi => ?_⟩⟩
  · obtain ⟨b, q1, q2, q3⟩ := k2 j B hB
    obtain ⟨hj, rfl⟩ := hrange _ _ q1
    obtain ⟨r, arr, us, g1, g2, g3, g4, g5, g6, g7, g8, g9, g10⟩ := hh.blk b _ q2
    refine ⟨r, arr, us, (hget b hj).trans g1, g2, g3, g4, by simpa using g5, g6, g7, g8, ⟨by have := g9.len; simpa using this, fun i x u hx hu => ?_⟩, g10⟩
    exact up_vr hι hbR (q3 x (List.mem_of_getElem? hx)) (g9.at_ i _ u (by simp [hx]) hu)
  · obtain ⟨b, q1, q2, _⟩ := k2 j B hB
    obtain ⟨b', q1', q2', _⟩ := k2 j' B' hB'
    obtain ⟨hj, rfl⟩ := hrange _ _ q1
    obtain ⟨hj', rfl⟩ := hrange _ _ q1'
    rw [hget b hj] at h1
    rw [hget b' hj'] at h2
    exact hh.inj b b' _ _ r r' q2 hf q2' hf' h1 h2 e
  · have := (List.getElem?_eq_some_iff.1 hi).1
    rw [hget i (by omega)]
    exact st.r i x hi
/-- .. in the midst of such a body: what it made is dropped. -/
theorem RunY.inl (hP : E.P = E0.P) (hG : E.G = E0.G) {e : Env} (he : EnvOk e) (heP : e.P = E0.P) (heG : e.G = E0.G) {d : Nat} {f : Operand} {args : Array Operand} {tys : Array TypeId} {ty : TypeId} {pos : String} {af : Array Edge} {g : Option (Nat × Bool)} {fid : FuncId} {caps xs : List AV} {fn : Func} {c : Code} {Out : AV → Hp → Prop} (m : Nat) (hm0 : hp.length = m) (hr : rest = ⟨some d, .call ⟨.value f, args, tys⟩, ty, pos, af, g⟩ :: rest') (hw : wantedA ops (Fr n l) ⟨some d, .call ⟨.value f, args, tys⟩, ty, pos, af, g⟩ = some true)
    (hf : opA E (Fr n l) f = some (.fn fid [] caps)) (ha : opds (opA E (Fr n l)) args.toList = some xs) (hfn : e.fn fid = some fn) (hc : fn.body = some c) (hle : (xs ++ caps).length ≤ fn.ntmps)
    (sem : SemY e ⟨none, false⟩ c ⟨Fr fn.ntmps (pairs0 0 (xs ++ caps)), hp⟩ fun x s' => (x = .normal ∨ x = .ret) ∧ ∃ ys, resA e.P s'.fr s'.hp fn.results.toList = some ys ∧ Out (retA ys) s'.hp)
    (k : ∀ x h', Out x h' → ∃ h'', (Nat.ble m h'.length && Nat.ble h'.length 1000000000) = true ∧ HpUp (List.range m) h' (List.range m) h'' ∧ (up (List.range m) x = x ∧ flat2 x = true) ∧ RunY E cx ops rest' ⟨Fr n ((d, x) :: l), h''⟩ K) : RunY E cx ops rest ⟨Fr n l, hp⟩ K := by
  obtain ⟨P, fns, G, X, I⟩ := E
  obtain ⟨P', fns', G', X', I'⟩ := e
  simp only at hP hG heP heG
  subst hP hG heP heG
  subst hr
  intro ro base Q a w Z R hro sr hy q
  have hρ : ∀ o x, opA ⟨E0.P, fns, E0.G, X, I⟩ (Fr n l) o = some x → VR w Z R x (a.eval o) := fun o x e => opA_vr sr o x e
  unfold wpListIn
  rw [if_pos (wantedA_eq sr hw)]
  refine lw_wpIn ro ?_
  have hvf := hρ _ _ hf
  generalize hvq : a.eval f = vf at hvf
  cases hvf with
  | fn hl hl' hx hy' =>
    rename_i u1 u2
    have e1 : u1 = [] := by simpa using hl
    subst e1
    obtain ⟨hff, hcall, _⟩ := he.fn fid fn hfn
    unfold Lw
    rw [run_call (uf := []) (uc := u2) rfl hvq rfl hcall w]
    simp only [List.nil_append]
    have hargs : VRs w Z R (xs ++ caps) (args.toList.map a.eval ++ u2) := (opds_vr hρ ha).append ⟨hl', hy'⟩
    refine Ret.mono (ret_semY he hfn hc hle sem sr.hh hargs sr.gl (fun y hy => by cases hy)) fun v w' hS => ?_
    obtain ⟨Z', R', x, h', hO, h1, h2, st⟩ := hS
    obtain ⟨h'', hm, hk, ⟨hx1, hx2⟩, kk⟩ := k x h' hO
    have hl1 : R.length = hp.length := sr.hh.len
    obtain ⟨j1, j2⟩ := HR.trunc st hl1 (Nat.le_of_eq hm0) h1 hm hk
    simp only [Bool.and_eq_true] at hm
    have hm1 := Nat.le_of_ble_eq_true hm.1
    have hm2 := Nat.le_of_ble_eq_true hm.2
    have hl2 := h1.len
    have hvx : VR w' Z' (newR (List.range m) R') x v := up_vr (fun i hi => by have := List.mem_range.1 hi; omega) (by omega) hx2 (by rw [hx1]; exact h2)
    have sr' := (sr.step j1 j2).put (d := some d) hvx
    rw [show putA (⟨Fr n l, hp⟩ : St).fr (some d) x = Fr n ((d, x) :: l) from putA_Fr n l d _] at sr'
    exact kk ro base Q _ w' Z' _ hro sr' (hy.step sr.hh j2) fun s' a' w'' Z'' R'' hK sr'' st' => q s' a' w'' Z'' R'' hK sr'' (j2.trans st')
/-- A yield: a round of the range that is under way. -/
theorem RunY.yield (hP : E.P = E0.P) (hG : E.G = E0.G) {eb : Env} (hbP : eb.P = E0.P) (hbG : eb.G = E0.G) {y : YC} (hcx : cx.y = some y) (hin : cx.inR = false) {d : Nat} {f : Operand} {args : Array Operand} {tys : Array TypeId} {ty : TypeId} {pos : String} {af : Array Edge} {g : Option (Nat × Bool)} {xs : List AV} {K1 : Hp → Prop} (hr : rest = ⟨some d, .call ⟨.value f, args, tys⟩, ty, pos, af, g⟩ :: rest') (hw : wantedA ops (Fr n l) ⟨some d, .call ⟨.value f, args, tys⟩, ty, pos, af, g⟩ = some true)
    (hf : opA E (Fr n l) f = some (.yl y.b)) (ha : opds (opA E (Fr n l)) args.toList = some xs) (hlen : xs.length = y.ps.length) {n0 : Nat} {l0 : List (Nat × AV)} (hfr : y.fr = Fr n0 l0)
    (hb : SemY eb ⟨none, true⟩ y.assign ⟨Fr n0 (pz y.ps xs l0), hp⟩ fun e s1 => e = .normal ∧ SemY eb ⟨none, true⟩ y.body s1 fun e s2 => e = .normal ∧ K1 s2.hp)
    (k : ∀ h', K1 h' → RunY E cx ops rest' ⟨Fr n ((d, .v (.bool true)) :: l), h'⟩ K) : RunY E cx ops rest ⟨Fr n l, hp⟩ K := by
  obtain ⟨P, fns, G, X, I⟩ := E
  obtain ⟨P', fns', G', X', I'⟩ := eb
  simp only at hP hG hbP hbG
  subst hP hG hbP hbG
  subst hr
  intro ro base Q a w Z R hro sr hy q
  have hρ : ∀ o x, opA ⟨E0.P, fns, E0.G, X, I⟩ (Fr n l) o = some x → VR w Z R x (a.eval o) := fun o x e => opA_vr sr o x e
  unfold wpListIn
  rw [if_pos (wantedA_eq sr hw)]
  have hro' := hro hin
  subst hro'
  have hvs := opds_vr hρ ha
  have hvf := hρ _ _ hf
  have hyy := hy
  obtain ⟨d1, d2, r, L, g1, g2, g3, g4, g5, g6, g7, g8, g9, g10⟩ := hy y hcx
  generalize hvq : a.eval f = vf at hvf
  cases hvf with
  | yl hr =>
    rename_i r'
    rw [g1] at hr
    injection hr with hr
    subst hr
    generalize hus : args.toList.map a.eval = us at hvs
    have hargs : args.map a.eval = us.toArray := by
      apply Array.ext'
      rw [← hus, Array.toList_map]
    have hps : us.toArray.size = L.params.size := by rw [g7]; simp [hvs.len, hlen]
    have hrun : (execOp a.eval (⟨some d, .call ⟨.value f, args, tys⟩, ty, pos, af, g⟩ : Oper)).run E0.P w = .ok (.round r.c L.fn ((L.params.zip us.toArray).foldl (fun tmps (t, a) => tmps.setIfInBounds t a) L.tmps) L.assign L.body) w := by
      simp only [execOp, resolve, hvq, hargs, Deferred.ofValue]
      rw [Sem.run_bind, Sem.run_pure]
      simp only [Result.andThen, invoke, Array.empty_append]
      exact run_yield g4 hps
    refine ⟨fun _ _ => trivial, ?_⟩
    rw [show (Fw none).round = none from rfl, semAt_run none hrun (by simp), Oper.uponIn_round]
    refine ⟨(fun h => by cases h), ?_⟩
    refine roundIn_of_wpIn (F := Fw none) trivial ?_
    rw [g8, g9]
    have hfr0 : FrR w Z R (setPs y.fr y.ps xs) ((L.params.zip us.toArray).foldl (fun tmps (t, a) => tmps.setIfInBounds t a) L.tmps) := by
      have := setPs_fr (ps := y.ps) g10 hvs
      have e0 : (L.params.zip us.toArray).foldl (fun tmps (t, a) => tmps.setIfInBounds t a) L.tmps = (y.ps.zip us).foldl (fun tmps (x : Tmp × Value) => tmps.setIfInBounds x.1 x.2) L.tmps := by
        rw [g7, ← Array.foldl_toList]; simp
      rw [e0]; exact this
    rw [hfr, setPs_Fr] at hfr0
    have hlt := heapLt g4
    refine hb (some r.c) 0 _ { tmps := _, defers := [] } w Z R (fun h => by cases h) ⟨sr.hh, hfr0, trivial, sr.gl, Nat.zero_le _⟩ (fun y hy => by cases hy) fun e1 s1 a1 w1 Z1 R1 hQ1 sr1 st1 => ?_
    obtain ⟨rfl, hb2⟩ := hQ1
    obtain ⟨p1, p2, p3⟩ := st1.other g4 g2 g3
    refine ⟨_, run_beginRound p1 g5, ?_⟩
    have hlt1 := heapLt p1
    have hb1 : ∀ c, (Z1 c ∨ own R1 s1.hp c) → (w1.putObj r.c (.loop { L with state := .busy })).heap[c]? = w1.heap[c]? := fun c hc => put_ne (fun e => by subst e; exact hc.elim p2 p3)
    have hh2 := sr1.hh.off (put_size _ _ _) hb1
    refine hb2 (some r.c) 0 _ a1 _ Z1 R1 (fun h => by cases h) ⟨hh2, sr1.fr.off fun c hc => hb1 c (.inl hc), ?_, sr1.gl.off fun c hc => hb1 c (.inl hc), Nat.zero_le _⟩ (fun y hy => by cases hy) fun e2 s2 a2 w3 Z3 R3 hQ2 sr3 st3 => ?_
    · exact sr1.mks.put (fun d hd e => by
        have : ∀ {D : List Deferred}, Mks 0 w1 Z1 R1 s1.hp D → mark r.c ∈ D → False := by
          intro D
          induction D with
          | nil => intro _ h; cases h
          | cons d D ih =>
            rintro ⟨⟨q, _, q2, q3, _⟩, hD⟩ hm
            rcases List.mem_cons.1 hm with hm | hm
            · rw [← hm] at q2
              have : r.c = q := by unfold mark at q2; injection q2 with q2; injection q2
              subst this
              rw [p1] at q3
              cases q3
            · exact ih hD hm
        subst e
        exact this sr1.mks hd)
    · obtain ⟨rfl, hK1⟩ := hQ2
      have hput : (w1.putObj r.c (.loop { L with state := .busy })).heap[r.c]? = some (.loop { L with state := .busy }) := World.putObj_heap_same hlt1
      obtain ⟨q1, q2, q3⟩ := st3.other hput p2 p3
      have hlt3 := heapLt q1
      refine ⟨_, _, run_endRound none q1, ?_⟩
      have hb3 : ∀ c, (Z3 c ∨ own R3 s2.hp c) → (w3.putObj r.c (.loop { { L with state := .busy } with state := if (none : Option Code).isNone then .ready else .done, pending := none })).heap[c]? = w3.heap[c]? := fun c hc => put_ne (fun e => by subst e; exact hc.elim q2 q3)
      have hL : ({ { L with state := .busy } with state := if (none : Option Code).isNone then .ready else .done, pending := none } : Loop) = L := by
        cases L; simp at g5 g6; subst g5 g6; rfl
      have stF : Step w Z R hp (w3.putObj r.c (.loop { { L with state := .busy } with state := if (none : Option Code).isNone then .ready else .done, pending := none })) Z3 R3 s2.hp := by
        refine ⟨?_, ?_, ?_, ?_, fun c hc hn => ?_, fun c hc => ?_, fun c hc => st3.z c (st1.z c hc), fun c hc => ?_, fun i q hq => st3.r i q (st1.r i q hq)⟩
        · exact st3.os.trans st1.os
        · exact st3.tape.trans st1.tape
        · exact st3.output.trans st1.output
        · rw [put_size]
          have := st3.size
          rw [put_size] at this
          exact Nat.le_trans st1.size this
        · by_cases hcr : c = r.c
          · subst hcr
            rw [World.putObj_heap_same hlt3, hL]
            exact g4.symm
          · rw [put_ne hcr]
            have hc1 : c < w1.heap.size := Nat.lt_of_lt_of_le hc st1.size
            have hno : ¬ own R1 s1.hp c := fun ho => by
              rcases st1.own_ c ho with h1 | h1
              · exact hn h1
              · omega
            rw [st3.block c (by rw [put_size]; exact hc1) hno, put_ne hcr]
            exact st1.block c hc hn
        · rcases st3.own_ c hc with h1 | h1
          · exact st1.own_ c h1
          · rw [put_size] at h1; exact .inr (Nat.le_trans st1.size h1)
        · rcases st3.z' c hc with h1 | h1 | h1
          · exact st1.z' c h1
          · rcases st1.own_ c h1 with h2 | h2
            · exact .inr (.inl h2)
            · exact .inr (.inr h2)
          · rw [put_size] at h1; exact .inr (.inr (Nat.le_trans st1.size h1))
      have sr' := (sr.step (sr3.hh.off (put_size _ _ _) hb3) stF).put (d := some d) (x := .v (.bool true)) (u := .bool true) (.v rfl)
      rw [show putA (⟨Fr n l, hp⟩ : St).fr (some d) (.v (.bool true)) = Fr n ((d, .v (.bool true)) :: l) from putA_Fr n l d _] at sr'
      exact k s2.hp hK1 none base Q _ _ Z3 R3 hro sr' (hyy.step sr.hh stF) fun s' a' w'' Z'' R'' hK sr'' st' => q s' a' w'' Z'' R'' hK sr'' (stF.trans st')
/-- A range over a function. -/
theorem Sem.range {cx : Cx} {Q : Ex → St → Prop} (hP : E.P = E0.P) (hG : E.G = E0.G) {e : Env} (he : EnvOk e) (heP : e.P = E0.P) (heG : e.G = E0.G) (hin : cx.inR = false) {f : Operand} {ps : Array Tmp} {assign body : Code} {gid : FuncId} {caps : List AV} {fn : Func} {c : Code} {Out : AV → Hp → Prop} (hd1 : drawOk assign = true) (hd2 : drawOk body = true)
    (hf : opA E (Fr n l) f = some (.fn gid [] caps)) (hfn : e.fn gid = some fn) (hc : fn.body = some c) (hle : (.yl hp.length :: caps).length ≤ fn.ntmps)
    (sem : SemY e ⟨some ⟨hp.length, Fr n l, ps.toList, assign, body⟩, false⟩ c ⟨Fr fn.ntmps (pairs0 0 (.yl hp.length :: caps)), hp ++ [none]⟩ fun x s' => (x = .normal ∨ x = .ret) ∧ ∃ ys, resA e.P s'.fr s'.hp fn.results.toList = some ys ∧ Out (retA ys) s'.hp)
    (k : ∀ x h', Out x h' → Q .normal ⟨Fr n l, h'⟩) : Sem E cx (.rangeFunc f ps assign body) ⟨Fr n l, hp⟩ Q := by
  obtain ⟨P, fns, G, X, I⟩ := E
  obtain ⟨P', fns', G', X', I'⟩ := e
  simp only at hP hG heP heG
  subst hP hG heP heG
  intro ro base Qm a w Z R h1 sr h3 kk
  have hro := h1 hin
  subst hro
  have hvf : VR w Z R (.fn gid [] caps) (a.eval f) := opA_vr sr _ _ hf
  generalize hva : a.eval f = va at hvf
  cases hvf with
  | fn hl hl' hx hy' =>
    rename_i uf uc
    have e1 : uf = [] := by simpa using hl
    subst e1
    refine wpIn_rangeFunc fun fnn _ => ?_
    obtain ⟨hff, hcall, _⟩ := he.fn gid fn hfn
    obtain ⟨L, hL⟩ : ∃ L : Loop, L = { state := .ready, pending := none, fn := fnn, tmps := a.tmps, params := ps, assign, body, defers := w.heap.size } := ⟨_, rfl⟩
    obtain ⟨w1, hw1⟩ : ∃ w1, w1 = (w.alloc (.deferred (some []))).alloc (.loop L) := ⟨_, rfl⟩
    have hsz : w1.heap.size = w.heap.size + 2 := by rw [hw1]; simp
    have hg1 : w.grownBy w1 none := by
      rw [hw1]
      refine ⟨rfl, rfl, rfl, by simp; omega, fun c hc _ => ?_⟩
      rw [heap_alloc_old _ _ (by simp; omega), heap_alloc_old _ _ hc]
    have hmk : w1.heap[w.heap.size]? = some (.deferred (some [])) := by
      rw [hw1, heap_alloc_old _ _ (by simp)]; exact heap_alloc_new w _
    have hlp : w1.heap[w.heap.size + 1]? = some (.loop L) := by
      rw [hw1]
      have := heap_alloc_new (w.alloc (.deferred (some []))) (.loop L)
      simpa using this
    have hh1 := sr.hh.keep (w' := w1) hg1.size (fun c hc => hg1.block c hc (by simp))
    have st0 : Step w Z R hp w1 Z R hp := ⟨hg1.os, hg1.tape, hg1.output, hg1.size, fun c hc _ => hg1.block c hc (by simp), fun _ h => .inl h, fun _ h => h, fun _ h => .inl h, fun _ _ h => h⟩
    obtain ⟨hh2, st2, hlast, hown2⟩ := hh1.dead (r := ⟨w.heap.size + 1, 0, 0⟩)
    have st02 := st0.trans st2
    have hnz : ∀ c, w.heap.size ≤ c → ¬ Z c := fun c hc hz => by have := sr.hh.zlt c hz; omega
    have hno : ∀ c, w.heap.size ≤ c → ¬ own (R ++ [⟨w.heap.size + 1, 0, 0⟩]) (hp ++ [none]) c := fun c hc ho => by
      obtain ⟨b, B, r, q1, q2, q3, rfl⟩ := hown2 c ho
      have := sr.hh.rltL q1 q3; omega
    have hvs : VRs w1 Z (R ++ [⟨w.heap.size + 1, 0, 0⟩]) (.yl hp.length :: caps) (Value.func (.yield (w.heap.size + 1)) #[] #[] :: uc) :=
      .cons (.yl hlast) (VRs.step ⟨hl', hy'⟩ sr.hh st02)
    have hy : YI ⟨some ⟨hp.length, Fr n l, ps.toList, assign, body⟩, false⟩ w1 Z (R ++ [⟨w.heap.size + 1, 0, 0⟩]) (hp ++ [none]) := by
      intro y hy
      injection hy with hy
      subst hy
      exact ⟨hd1, hd2, _, L, hlast, hnz _ (by simp), hno _ (by simp), hlp, by rw [hL], by rw [hL], by rw [hL], by rw [hL], by rw [hL], by rw [hL]; exact sr.fr.step sr.hh st02⟩
    have hr := ret_semY he hfn hc hle sem hh2 hvs (sr.gl.step sr.hh st02) hy
    refine ⟨w.heap.size + 1, [mark w.heap.size], w1, { target := .fn (.func gid) uc.toArray, args := ([] : List Value).toArray ++ #[Value.func (.yield (w.heap.size + 1)) #[] #[]] }, w1, gid, (Value.func (.yield (w.heap.size + 1)) #[] #[] :: uc).toArray, w1, ?_, ?_, fun _ _ => trivial, ?_, (fun h => by cases h), ?_⟩
    · rw [hw1, hL]; exact run_enterLoop_outer fnn a.tmps ps assign body
    · simp [resolve, hva, Deferred.ofValue]
      rfl
    · simp [invoke, hcall.run]
    · refine callsIn_fw none _ (Ret.calls hr fun v w3 hS => ?_)
      obtain ⟨Z3, R3, x3, h', hO, hh3, _, st3⟩ := hS
      obtain ⟨p1, p2, p3⟩ := st3.other hlp (hnz _ (by simp)) (hno _ (by simp))
      obtain ⟨m1, m2, m3⟩ := st3.other hmk (hnz _ (Nat.le_refl _)) (hno _ (Nat.le_refl _))
      refine ⟨_, _, run_endLoop p1 (by rw [hL]; simp), ?_⟩
      have hpend : L.pending = none := by rw [hL]
      split
      rotate_left
      · next hc => rw [hpend] at hc; cases hc
      have hb : ∀ c, (Z3 c ∨ own R3 h' c) → (w3.putObj (w.heap.size + 1) (.loop { L with state := .exhausted })).heap[c]? = w3.heap[c]? := fun c hc => put_ne (fun e => by subst e; exact hc.elim p2 p3)
      have st03 := st02.trans st3
      refine kk .normal ⟨Fr n l, h'⟩ _ _ Z3 R3 (k x3 h' hO) ⟨hh3.off (put_size _ _ _) hb, (sr.fr.step sr.hh st03).off fun c hc => hb c (.inl hc), ?_, (sr.gl.step sr.hh st03).off fun c hc => hb c (.inl hc), ?_⟩ (Step.w ⟨st03.os, st03.tape, st03.output, ?_, fun c hc hn => ?_, st03.own_, st03.z, st03.z', st03.r⟩)
      · refine ⟨⟨w.heap.size, sr.bs, rfl, (put_ne (by omega)).trans m1, m2, m3, fun d hd e => ?_⟩, ?_⟩
        · subst e
          exact mks_new (Nat.le_refl _) sr.mks hd
        · refine Mks.put (sr.mks.step st03) fun d hd e => ?_
          subst e
          exact mks_new (Nat.le_succ _) sr.mks hd
      · rw [put_size]; exact Nat.le_trans sr.bs st03.size
      · rw [put_size]; exact st03.size
      · rw [put_ne (by omega)]; exact st03.block c hc hn
end
end Go.Proofs.YtnmkejapogklmaaDoor
