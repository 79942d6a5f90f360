/- The abstract interpreter: operations that only read are sound (3). -/
import Derived.Test.YthofgamegondnaaDoorOpR
namespace Go.Proofs.YthofgamegondnaaDoor
open Go.RowKit

section
variable {P : Program} {w : World} {Z : Nat → Prop} {R : List RI} {h : Hp} {ρ : Operand → Option AV} {ve : Operand → Value} {o : Oper} {x : AV}

theorem VR.int_bound {bs : List UInt8} {s : ByteArray} (h1 : s.data.toList = bs) : s.size = bs.length := by subst h1; exact Array.length_toList.symm

theorem run_callB {b : Builtin} {args : Array Operand} {tys : Array TypeId} {us : List Value} (ho : o.op = .call ⟨.builtin b, args, tys⟩) (hu : args.toList.map ve = us) (w : World) : (execOp ve o).run P w = (builtin b tys o.type (args.map fun | .const _ => true | _ => false) us.toArray).run P w := by
  have e : args.map ve = us.toArray := by
    apply Array.ext'
    rw [← hu, Array.toList_map]
  simp only [execOp, ho, resolve, e]
  rfl

theorem evLen_sound (hρ : ∀ o x, ρ o = some x → VR w Z R x (ve o)) {args : Array Operand} {tys : Array TypeId} {t : TypeId} {y : AV} (ho : o.op = .call ⟨.builtin .len, args, tys⟩) (ha : opds ρ args.toList = some [y]) (ht : tys.toList = [t]) (e : evLen P t y = some x) : Qt P w Z R x ve o := by
  have hvs := opds_vr hρ ha
  obtain ⟨u, us', hus, hv, hn⟩ := hvs.head
  have : us' = [] := by have := hn.len; simpa using this
  subst this
  have ht' : tys = #[t] := by apply Array.ext'; simpa using ht
  subst ht'
  have hrun := fun w => run_callB (P := P) (ve := ve) ho hus w
  unfold evLen at e
  split at e
  · next bs hund =>
    injection e with e; subst e
    obtain ⟨s, rfl, h1, h2⟩ := hv.st_inv
    exact ⟨.int .i64 (bs.length : Int), .v rfl, fun w' _ => by rw [hrun]; simp [builtin, Builtin.len_, run_underlying hund, goInt, VR.int_bound h1]⟩
  · next el k ys hund =>
    injection e with e; subst e
    cases hv with
    | sl hn hl hc hm ha hx => exact ⟨.int .i64 (ys.length : Int), .v rfl, fun w' _ => by rw [hrun]; simp [builtin, Builtin.len_, run_underlying hund, goInt, hn]⟩
  · next el b lo n m hund =>
    injection e with e; subst e
    cases hv with
    | rf hr g0 g1 g2 g3 => exact ⟨.int .i64 (n : Int), .v rfl, fun w' _ => by rw [hrun]; simp [builtin, Builtin.len_, run_underlying hund, goInt]⟩
  · next el hund =>
    injection e with e; subst e
    cases hv
    exact ⟨.int .i64 0, .v rfl, fun w' _ => by rw [hrun]; simp [builtin, Builtin.len_, run_underlying hund, goInt]⟩
  · next n el hund =>
    injection e with e; subst e
    exact ⟨.int .i64 (n : Int), .v rfl, fun w' _ => by rw [hrun]; cases u <;> simp [builtin, Builtin.len_, run_underlying hund, goInt]⟩
  · cases e

theorem evMinMax_sound (hρ : ∀ o x, ρ o = some x → VR w Z R x (ve o)) {args : Array Operand} {tys : Array TypeId} {ys : List AV} {g : Bool} (ho : o.op = .call ⟨.builtin (if g then .max else .min), args, tys⟩) (ha : opds ρ args.toList = some ys) (e : evMinMax g ys = some x) : Qt P w Z R x ve o := by
  have hvs := opds_vr hρ ha
  unfold evMinMax at e
  split at e
  · next k a k' b =>
    injection e with e; subst e
    obtain ⟨u, us', hus, hv, hn⟩ := hvs.head
    obtain ⟨u', us'', rfl, hv', hn'⟩ := hn.head
    have : us'' = [] := by have := hn'.len; simpa using this
    subst this
    have e1 := hv.v_inv
    have e2 := hv'.v_inv
    subst e1 e2
    have hrun := fun w => run_callB (P := P) (ve := ve) ho hus w
    refine ⟨_, .v rfl, fun w' _ => ?_⟩
    rw [hrun]
    cases g
    · simp [builtin, Builtin.min_, Builtin.min2]
    · simp [builtin, Builtin.max_, Builtin.max2]
  · cases e

theorem natB_inv {a : Option AV} {d n : Nat} {va : Option Value} (e : natB a d = some n) (hv : ∀ y, a = some y → ∃ u, va = some u ∧ VR w Z R y u) (hn : a = none → va = none) : (a = none ∧ va = none ∧ n = d) ∨ (∃ k, va = some (.int k (n : Int)) ∧ a.isSome = true) := by
  unfold natB at e
  split at e
  · injection e with e; exact .inl ⟨rfl, hn rfl, e.symm⟩
  · next q k i =>
    split at e
    · cases e
    · next h0 =>
      injection e with e
      obtain ⟨u, h1, h2⟩ := hv _ rfl
      rw [h2.v_inv] at h1
      exact .inr ⟨k, by rw [h1, ← e, show ((i.toNat : Nat) : Int) = i by omega], rfl⟩
  · cases e

theorem run_bound {k : IntKind} {n y : Nat} {c : BoundsCode} (hle : n ≤ y) (w : World) : (Instr.sliceBound (.int k (n : Int)) y c).run P w = .ok n w := by
  have hcond : (0 : Int) ≤ (n : Int) ∧ (n : Int) ≤ (y : Int) := ⟨by omega, by omega⟩
  simp [Instr.sliceBound, asIntOf, hcond]

/-- The bounds of a slice expression, all in order. -/
theorem run_bounds {s : Bool} {len cap l u m : Nat} {lo hi mx : Option Value} (hm : (mx = none ∧ m = cap) ∨ ∃ k, mx = some (.int k (m : Int))) (hu : (hi = none ∧ u = len) ∨ ∃ k, hi = some (.int k (u : Int))) (hl : (lo = none ∧ l = 0) ∨ ∃ k, lo = some (.int k (l : Int)))
    (h1 : l ≤ u) (h2 : u ≤ m) (h3 : m ≤ cap) (h4 : mx = none ∨ hi ≠ none) (w : World) : (Instr.sliceBounds s len cap lo hi mx).run P w = .ok (l, u, m) w := by
  rcases hm with ⟨rfl, rfl⟩ | ⟨km, rfl⟩ <;> rcases hu with ⟨rfl, rfl⟩ | ⟨ku, rfl⟩ <;> rcases hl with ⟨rfl, rfl⟩ | ⟨kl, rfl⟩ <;> first
    | (simp at h4; done)
    | simp [Instr.sliceBounds, run_bound h1, run_bound h2, run_bound h3]

theorem opdo_inv (hρ : ∀ o x, ρ o = some x → VR w Z R x (ve o)) {a : Option Operand} {y : Option AV} (e : opdo ρ a = some y) : (∀ q, y = some q → ∃ u, a.map ve = some u ∧ VR w Z R q u) ∧ (y = none → a.map ve = none) := by
  unfold opdo at e
  split at e
  · injection e with e; subst e; exact ⟨fun q hq => (by cases hq), fun _ => rfl⟩
  · next a' =>
    obtain ⟨q, hq, rfl⟩ := Option.map_eq_some_iff.1 e
    exact ⟨fun q' hq' => by injection hq' with hq'; subst hq'; exact ⟨_, rfl, hρ _ _ hq⟩, fun h => by cases h⟩

theorem natB_or {a : Option AV} {d n : Nat} {va : Option Value} (e : natB a d = some n) (hv : (∀ q, a = some q → ∃ u, va = some u ∧ VR w Z R q u) ∧ (a = none → va = none)) : (va = none ∧ n = d) ∨ ∃ k, va = some (.int k (n : Int)) := by
  rcases natB_inv e hv.1 hv.2 with ⟨_, h2, h3⟩ | ⟨k, h2, _⟩
  · exact .inl ⟨h2, h3⟩
  · exact .inr ⟨k, h2⟩
theorem natB_none {a : Option AV} {d n : Nat} {va : Option Value} (e : natB a d = some n) (hv : (∀ q, a = some q → ∃ u, va = some u ∧ VR w Z R q u) ∧ (a = none → va = none)) : a.isNone = true ↔ va = none := by
  rcases natB_inv e hv.1 hv.2 with ⟨h1, h2, h3⟩ | ⟨k, h2, h1⟩
  · simp [h1, h2]
  · simp [h2]; intro h; rw [h] at h1; cases h1

theorem bytes_extract (s : ByteArray) (l u : Nat) : (s.extract l u).data.toList = (s.data.toList.take u).drop l := by
  simp [List.extract_eq_take_drop, List.drop_take]

theorem evSlice_sound (hρ : ∀ o x, ρ o = some x → VR w Z R x (ve o)) (hh : HR w Z R h) {t : TypeId} {p : Operand} {lo hi mx : Option Operand} {y : AV} {yl yh ym : Option AV} (hp : ρ p = some y) (hl : opdo ρ lo = some yl) (hhi : opdo ρ hi = some yh) (hmx : opdo ρ mx = some ym) (ho : o.op = .slice t p lo hi mx) (e : evSlice P h t y yl yh ym = some x) : Qt P w Z R x ve o := by
  have hv := hρ _ _ hp
  have il := opdo_inv hρ hl
  have ih := opdo_inv hρ hhi
  have im := opdo_inv hρ hmx
  generalize hva : ve p = va at hv
  unfold evSlice at e
  split at e
  · next bs hund =>
    split at e
    · next l u h1 h2 =>
      split at e
      · next hlu =>
        injection e with e; subst e
        obtain ⟨s, rfl, g1, g2⟩ := hv.st_inv
        have hsz := VR.int_bound g1
        have hmn : mx.map ve = none := im.2 rfl
        have hr := fun w => run_bounds (P := P) (s := false) (len := s.size) (cap := s.size) (m := s.size) (mx := none) (.inl ⟨rfl, rfl⟩) (by rw [hsz]; exact natB_or h2 ih) (natB_or h1 il) hlu.1 (by omega) (Nat.le_refl _) (.inl rfl) w
        refine ⟨.string (s.extract l u), .st (by rw [bytes_extract, g1]) ?_, fun w' _ => ?_⟩
        · simp; omega
        · simp [execOp, ho, hva, Instr.sliceAt, run_underlying hund, Instr.slice, hr, hmn]
      · cases e
    · cases e
  · next el b o' n m hund =>
    split at e
    · next B hB =>
      split at e
      · next k l u hk h1 h2 =>
        split at e
        · next hc =>
          obtain ⟨c1, c2, c3, c4, c5⟩ := hc
          cases hv with
          | rf hr g0 g1 g2 g3 =>
            rename_i c r
            obtain ⟨r', _, _, k1, k2, _⟩ := hh.blk b B hB
            rw [hr] at k1
            injection k1 with k1
            subst k1
            rw [← k2] at c5
            have c4' : mx.map ve = none ∨ hi.map ve ≠ none := by
              rcases c4 with h | h
              · exact .inl ((natB_none hk im).1 h)
              · refine .inr fun hn => ?_
                have := (natB_none h2 ih).2 hn
                cases yh <;> simp at *
            -- the true bound of capacity
            have hbd : ∃ K, (k ≤ K ∧ K ≤ c ∧ (ym.isSome = true → K = k)) ∧ ∀ w', (Instr.sliceBounds true n c (lo.map ve) (hi.map ve) (mx.map ve)).run P w' = .ok (l, u, K) w' := by
              rcases natB_inv hk im.1 im.2 with ⟨q1, q2, q3⟩ | ⟨kk, q2, q3⟩
              · refine ⟨c, ⟨by omega, Nat.le_refl _, fun h => by rw [q1] at h; cases h⟩, fun w' => ?_⟩
                exact run_bounds (.inl ⟨q2, rfl⟩) (natB_or h2 ih) (natB_or h1 il) c1 (by omega) (Nat.le_refl _) c4' w'
              · refine ⟨k, ⟨Nat.le_refl _, by omega, fun _ => rfl⟩, fun w' => ?_⟩
                exact run_bounds (.inr ⟨kk, q2⟩) (natB_or h2 ih) (natB_or h1 il) c1 c2 (by omega) c4' w'
            obtain ⟨K, ⟨b1, b2, b3⟩, hrun⟩ := hbd
            split at e
            · next hlk =>
              injection e with e; subst e
              refine ⟨.slice (some ⟨r.c, (o' + l) * r.k, none⟩) (u - l) (K - l), .rf hr (by omega) (by omega) (by omega) g3, fun w' _ => ?_⟩
              have hne : K ≠ l := by omega
              simp [execOp, ho, hva, Instr.sliceAt, run_underlying hund, Instr.slice, hrun, run_size' c5, hne, addr_add, Nat.add_mul]
            · next hlk =>
              split at e
              · next hsome =>
                injection e with e; subst e
                have hK := b3 hsome
                refine ⟨.slice (some ⟨r.c, o' * r.k, none⟩) 0 0, .e0, fun w' _ => ?_⟩
                have e1 : K = l := by omega
                have e2 : u = l := by omega
                subst e1 e2
                simp [execOp, ho, hva, Instr.sliceAt, run_underlying hund, Instr.slice, hrun, run_size' c5]
              · injection e with e; subst e
                have e2 : u = l := by omega
                subst e2
                refine ⟨.slice (some (if K = u then ⟨r.c, o' * r.k, none⟩ else ⟨r.c, o' * r.k + u * r.k, none⟩)) 0 (K - u), .sl rfl (us := []) rfl (Nat.zero_le _) (by omega) (fun h => by simp at h) (fun i x u hx => by simp at hx), fun w' _ => ?_⟩
                by_cases hKu : K = u
                · simp [execOp, ho, hva, Instr.sliceAt, run_underlying hund, Instr.slice, hrun, run_size' c5, addr_add, hKu]
                · simp [execOp, ho, hva, Instr.sliceAt, run_underlying hund, Instr.slice, hrun, run_size' c5, addr_add, hKu]
        · cases e
      · cases e
    · cases e
  · next el k xs hund =>
    split at e
    · next q l u hq h1 h2 =>
      split at e
      · next hc =>
        obtain ⟨c1, c2, c3, c4, c5⟩ := hc
        cases hv with
        | sl hn hl' hcc hm ha hx =>
          rename_i c n A us
          subst hn
          have c4' : mx.map ve = none ∨ hi.map ve ≠ none := by
            rcases c4 with h | h
            · exact .inl ((natB_none hq im).1 h)
            · refine .inr fun hn => ?_
              have := (natB_none h2 ih).2 hn
              cases yh <;> simp at *
          have hbd : ∃ K, (q ≤ K ∧ K ≤ c ∧ (ym.isSome = true → K = q)) ∧ ∀ w', (Instr.sliceBounds true xs.length c (lo.map ve) (hi.map ve) (mx.map ve)).run P w' = .ok (l, u, K) w' := by
            rcases natB_inv hq im.1 im.2 with ⟨q1, q2, q3⟩ | ⟨kk, q2, q3⟩
            · refine ⟨c, ⟨by omega, Nat.le_refl _, fun h => by rw [q1] at h; cases h⟩, fun w' => ?_⟩
              exact run_bounds (.inl ⟨q2, rfl⟩) (natB_or h2 ih) (natB_or h1 il) c1 (by omega) (Nat.le_refl _) c4' w'
            · refine ⟨q, ⟨Nat.le_refl _, by omega, fun _ => rfl⟩, fun w' => ?_⟩
              exact run_bounds (.inr ⟨kk, q2⟩) (natB_or h2 ih) (natB_or h1 il) c1 c2 (by omega) c4' w'
          obtain ⟨K, ⟨b1, b2, b3⟩, hrun⟩ := hbd
          split at e
          · next hsq =>
            injection e with e; subst e
            have hK := b3 hsq.1
            have e1 : K = l := by omega
            have e2 : u = l := by omega
            subst e1 e2
            refine ⟨.slice A 0 0, .e0, fun w' _ => ?_⟩
            simp [execOp, ho, hva, Instr.sliceAt, run_underlying hund, Instr.slice, hrun, run_size' c5]
          · injection e with e; subst e
            have hlen : ((xs.take u).drop l).length = u - l := by simp; omega
            refine ⟨.slice (if K = l then A else A.map (·.add (l * k))) (u - l) (K - l), .sl (us := (us.take u).drop l) hlen (by simp [hl']) (by omega) (by omega) (fun h0 => ?_) (fun i x' u' hx' hu' => ?_), fun w' _ => ?_⟩
            · obtain ⟨a, rfl, hs, hz, hcell⟩ := ha (by omega)
              obtain ⟨ab, ao, asp⟩ := a
              simp only at hs
              subst hs
              rw [if_neg (by omega)]
              refine ⟨⟨ab, ao + l * k, none⟩, by simp [addr_add], rfl, hz, fun i u' hu' => ?_⟩
              rw [List.getElem?_drop, List.getElem?_take] at hu'
              split at hu'
              · obtain ⟨d1, d2, d3⟩ := hcell _ _ hu'
                refine ⟨d1, d2, fun j q' hq' => ?_⟩
                have := d3 j q' hq'
                rw [Nat.add_mul] at this
                simpa [Nat.add_assoc] using this
              · cases hu'
            · rw [List.getElem?_drop, List.getElem?_take] at hu' hx'
              split at hu'
              · next hlt => rw [if_pos hlt] at hx'; exact hx _ _ _ hx' hu'
              · cases hu'
            · simp [execOp, ho, hva, Instr.sliceAt, run_underlying hund, Instr.slice, hrun, run_size' c5]
      · cases e
    · cases e
  · next el hund =>
    split at e
    · next hq h1 h2 =>
      split at e
      · next c4 =>
        obtain ⟨c4, c5⟩ := c4
        injection e with e; subst e
        cases hv with
        | e0 =>
          rename_i A
          have c4' : mx.map ve = none ∨ hi.map ve ≠ none := by
            rcases c4 with h | h
            · exact .inl ((natB_none hq im).1 h)
            · refine .inr fun hn => ?_
              have := (natB_none h2 ih).2 hn
              cases yh <;> simp at *
          have hrun := fun w' => run_bounds (P := P) (s := true) (len := 0) (cap := 0) (natB_or hq im) (natB_or h2 ih) (natB_or h1 il) (Nat.le_refl _) (Nat.le_refl _) (Nat.le_refl _) c4' w'
          refine ⟨.slice A 0 0, .e0, fun w' _ => ?_⟩
          obtain ⟨sz, hsz⟩ := Option.isSome_iff_exists.1 c5
          have hsz := run_size' hsz w'
          simp [execOp, ho, hva, Instr.sliceAt, run_underlying hund, Instr.slice, hrun, hsz]
      · cases e
    · cases e
  · cases e
end
end Go.Proofs.YthofgamegondnaaDoor
