/- The abstract interpreter: operations that only read are sound (4): all of them. -/
import Derived.Test.YthofgamegondnaaDoorOpS
import Derived.Lib.UnsafeStr
namespace Go.Proofs.YthofgamegondnaaDoor
open Go.RowKit

section
variable {P : Program} {w : World} {Z : Nat → Prop} {R : List RI} {h : Hp} {ρ : Operand → Option AV} {ve : Operand → Value} {o : Oper} {x : AV}

theorem partsOf_vr (hρ : ∀ o x, ρ o = some x → VR w Z R x (ve o)) : ∀ {l : List (Nat × Operand)} {xs : List (Nat × AV)}, partsOf ρ l = some xs → xs.map (·.1) = l.map (·.1) ∧ VRs w Z R (xs.map (·.2)) (l.map fun p => ve p.2)
  | [], xs, e => by injection e with e; subst e; exact ⟨rfl, .nil⟩
  | (i, a) :: l, xs, e => by
    unfold partsOf at e
    split at e
    · next y r h1 h2 =>
      injection e with e; subst e
      obtain ⟨h3, h4⟩ := partsOf_vr hρ h2
      exact ⟨by simp [h3], .cons (hρ _ _ h1) h4⟩
    · cases e

/-- What 'fill' does with one part. -/
theorem fill_step (place : Nat → Option (Nat × Nat)) (cs : List Value) (i : Nat) (v : Value) (rest : List (Nat × Value)) {off size : Nat} (hp : place i = some (off, size)) (hs : v.cells.size = size) (hle : off + size ≤ cs.length) :
    Instr.fill place cs.toArray ((i, v) :: rest) = Instr.fill place (cs.take off ++ v.cells.toList ++ cs.drop (off + size)).toArray rest := by
  simp only [Instr.fill, hp]
  rw [if_neg (by simp [hs]; omega)]
  congr 1
  have key : ∀ (vs : List Value) (j : Nat) (cs : List Value), off + j + vs.length ≤ cs.length →
      ((vs.zipIdx j).foldl (fun cs (x : Value × Nat) => cs.setIfInBounds (off + x.2) x.1) cs.toArray) = (cs.take (off + j) ++ vs ++ cs.drop (off + j + vs.length)).toArray := by
    intro vs
    induction vs with
    | nil => intro j cs h; simp
    | cons v vs ih =>
      intro j cs h
      simp only [List.length_cons] at h
      rw [List.zipIdx_cons, List.foldl_cons]
      have e1 : cs.toArray.setIfInBounds (off + j) v = (cs.set (off + j) v).toArray := by simp
      rw [e1, ih (j + 1) (cs.set (off + j) v) (by simp; omega)]
      congr 1
      apply List.ext_getElem?
      intro q
      by_cases h1 : q < off + j
      · rw [List.append_assoc, List.getElem?_append_left (by simp; omega), List.append_assoc, List.getElem?_append_left (by simp; omega), List.getElem?_take_of_lt (by omega), List.getElem?_take_of_lt (by omega), List.getElem?_set_ne (by omega)]
      · by_cases h2 : q = off + j
        · subst h2
          rw [List.append_assoc, List.getElem?_append_left (by simp; omega), List.append_assoc, List.getElem?_append_right (by simp; omega), List.getElem?_take_of_lt (by omega), List.getElem?_set_self (by omega)]
          have hm : off + j - (cs.take (off + j)).length = 0 := by simp; omega
          rw [hm]; rfl
        · by_cases h3 : q < off + j + 1 + vs.length
          · rw [List.append_assoc, List.getElem?_append_right (by simp; omega), List.getElem?_append_left (by simp; omega), List.append_assoc, List.getElem?_append_right (by simp; omega), List.getElem?_append_left (by simp; omega)]
            simp only [List.length_take, List.length_set]
            rw [show q - min (off + j) cs.length = (q - min (off + (j + 1)) cs.length) + 1 by omega, List.getElem?_cons_succ]
          · rw [List.getElem?_append_right (by simp; omega), List.getElem?_append_right (by simp; omega)]
            simp only [List.length_append, List.length_take, List.length_set, List.length_cons, List.getElem?_drop]
            rw [List.getElem?_set_ne (by omega)]
            congr 1
            omega
  have h2 := key v.cells.toList 0 cs (by simp [hs]; omega)
  simp only [Nat.add_zero] at h2
  have e3 : v.cells.toList.length = size := by simpa using hs
  rw [e3] at h2
  have e4 : (v.cells.zipIdx.foldl (fun cs (x : Value × Nat) => match x with | (c, j) => cs.setIfInBounds (off + j) c) cs.toArray) = (v.cells.toList.zipIdx.foldl (fun cs (x : Value × Nat) => cs.setIfInBounds (off + x.2) x.1) cs.toArray) := by
    rw [← Array.foldl_toList]
    simp
  rw [e4, h2]

theorem VRs.splice {xs : List AV} {us : List Value} {y : AV} {u : Value} (hs : VRs w Z R xs us) (hy : VR w Z R y u) (off : Nat) : VRs w Z R (xs.take off ++ y.cel ++ xs.drop (off + y.cel.length)) (us.take off ++ u.cells.toList ++ us.drop (off + y.cel.length)) :=
  ((hs.take off).append hy.cells.2).append (hs.drop _)
theorem nc_cel (y : AV) : y.cel.length = y.nc := by cases y <;> rfl

theorem all_splice {us vs : List Value} {a b : Nat} (h1 : us.all Value.oneCell' = true) (h2 : ∀ q ∈ vs, q.oneCell' = true) : (us.take a ++ vs ++ us.drop b).all Value.oneCell' = true := by
  rw [List.all_eq_true] at *
  intro q hq
  simp only [List.mem_append] at hq
  rcases hq with (hq | hq) | hq
  · exact h1 q (List.mem_of_mem_take hq)
  · exact h2 q hq
  · exact h1 q (List.mem_of_mem_drop hq)

theorem fillS_sound {fs : Array Field} {pl : Array (Nat × Nat)} (hpl : ∀ (i : Nat) (f : Field) (m : Nat), fs[i]? = some f → tySize P f.type = some m → pl[i]? = some (f.offset, m)) : ∀ {ps : List (Nat × AV)} {vs : List Value} {cs cs' : List AV} {us : List Value},
    VRs w Z R (ps.map (·.2)) vs → VRs w Z R cs us → us.all Value.oneCell' = true → fillS P fs cs ps = some cs' →
    ∃ us', Instr.fill (pl[·]?) us.toArray ((ps.map (·.1)).zip vs) = some us'.toArray ∧ VRs w Z R cs' us' ∧ us'.all Value.oneCell' = true
  | [], vs, cs, cs', us, hv, hc, h1, e => by
    injection e with e; subst e
    exact ⟨us, by simp [Instr.fill], hc, h1⟩
  | (i, y) :: ps, vs, cs, cs', us, hv, hc, h1, e => by
    obtain ⟨v, vs', rfl, hy, hn⟩ := VRs.head (by simpa using hv)
    unfold fillS at e
    split at e
    · next f hf =>
      split at e
      · next hcond =>
        obtain ⟨k1, k2, k3⟩ := hcond
        have hsz : v.cells.size = y.cel.length := by rw [hy.cells.1, nc_cel]
        have hcell : ∀ q ∈ v.cells.toList, q.oneCell' = true := fun q hq => hy.cells_one k3 q (by simpa using hq)
        obtain ⟨us', g1, g2, g3⟩ := fillS_sound hpl hn (hc.splice hy f.offset) (all_splice h1 hcell) e
        refine ⟨us', ?_, g2, g3⟩
        simp only [List.map_cons, List.zip_cons_cons]
        rw [fill_step (pl[·]?) us i v _ (hpl i f _ hf k1) hsz (by rw [hc.len]; omega)]
        exact g1
      · cases e
    · cases e
theorem fillR_sound {s : Nat} : ∀ {ps : List (Nat × AV)} {vs : List Value} {cs cs' : List AV} {us : List Value},
    VRs w Z R (ps.map (·.2)) vs → VRs w Z R cs us → us.all Value.oneCell' = true → fillR s cs ps = some cs' →
    ∃ us', Instr.fill (fun i => some (i * s, s)) us.toArray ((ps.map (·.1)).zip vs) = some us'.toArray ∧ VRs w Z R cs' us' ∧ us'.all Value.oneCell' = true
  | [], vs, cs, cs', us, hv, hc, h1, e => by
    injection e with e; subst e
    exact ⟨us, by simp [Instr.fill], hc, h1⟩
  | (i, y) :: ps, vs, cs, cs', us, hv, hc, h1, e => by
    obtain ⟨v, vs', rfl, hy, hn⟩ := VRs.head (by simpa using hv)
    unfold fillR at e
    split at e
    · next hcond =>
      obtain ⟨k1, k2, k3⟩ := hcond
      have hsz : v.cells.size = y.cel.length := by rw [hy.cells.1, nc_cel]
      have hcell : ∀ q ∈ v.cells.toList, q.oneCell' = true := fun q hq => hy.cells_one k3 q (by simpa using hq)
      obtain ⟨us', g1, g2, g3⟩ := fillR_sound hn (hc.splice hy (i * s)) (all_splice h1 hcell) e
      refine ⟨us', ?_, g2, g3⟩
      simp only [List.map_cons, List.zip_cons_cons]
      rw [fill_step (fun i => some (i * s, s)) us i v _ rfl (by rw [hsz, k1]) (by rw [hc.len]; omega), ← k1] at *
      rw [← k1] at g1
      exact g1
    · cases e

theorem run_listM {α β : Type} (f : α → Sem β) (g : α → β) (w : World) : ∀ (l : List α), (∀ x ∈ l, (f x).run P w = .ok (g x) w) → (l.mapM f).run P w = .ok (l.map g) w
  | [], _ => by simp
  | x :: l, h => by
    rw [List.mapM_cons, Sem.run_bind, h x (by simp)]
    simp only [Result.andThen, Sem.run_bind]
    rw [run_listM f g w l (fun y hy => h y (by simp [hy]))]
    simp
theorem run_arrayM {α β : Type} (f : α → Sem β) (g : α → β) (w : World) (l : Array α) (h : ∀ x ∈ l, (f x).run P w = .ok (g x) w) : (l.mapM f).run P w = .ok (l.map g) w := by
  have e : l.mapM f = List.toArray <$> l.toList.mapM f := by rw [Array.mapM_eq_mapM_toList]
  rw [e, map_eq_pure_bind, Sem.run_bind, run_listM f g w l.toList (fun x hx => h x (by simpa using hx))]
  simp
  apply Array.ext'
  simp
theorem places_run {fs : Array Field} (hs : sizesOk P fs = true) : ∃ pl : Array (Nat × Nat), (∀ w : World, (fs.mapM (fun f => do pure (f.offset, ← sizeOf f.type)) : Sem (Array (Nat × Nat))).run P w = .ok pl w) ∧ ∀ (i : Nat) (f : Field) (m : Nat), fs[i]? = some f → tySize P f.type = some m → pl[i]? = some (f.offset, m) := by
  refine ⟨fs.map fun f => (f.offset, (tySize P f.type).getD 0), fun w => run_arrayM _ _ w fs fun f hf => ?_, fun i f m hf hm => by simp [hf, hm]⟩
  have h1 : (P.info? f.type).isSome = true := by
    unfold sizesOk at hs
    rw [Array.all_eq_true'] at hs
    exact hs f hf
  obtain ⟨i, hi⟩ := Option.isSome_iff_exists.1 h1
  have hm : tySize P f.type = some i.size := by simp [tySize, hi]
  simp [run_size' hm, hm]

theorem evBuild_sound (hρ : ∀ o x, ρ o = some x → VR w Z R x (ve o)) {t : TypeId} {ps : Array (Nat × Operand)} {xs : List (Nat × AV)} (ho : o.op = .build t ps) (hp : partsOf ρ ps.toList = some xs) (e : evBuild P t xs = some x) : Qt P w Z R x ve o := by
  obtain ⟨h1, h2⟩ := partsOf_vr hρ hp
  unfold evBuild at e
  split at e
  · next z hz =>
    obtain ⟨u, hu, hnt, hrz, _⟩ := run_zero' (w := w) (Z := Z) (R := R) hz
    have hpl : ps.map (fun x => match x with | (i, x) => (i, ve x)) = ((xs.map (·.1)).zip (ps.toList.map fun p => ve p.2)).toArray := by
      apply Array.ext'
      rw [Array.toList_map, h1]
      simp only [List.zip_map']
    cases hu with
    | ag hl ha hx =>
      rename_i us
      split at e
      · next fs hund =>
        split at e
        · next hok =>
          obtain ⟨cs', hcs, rfl⟩ := Option.map_eq_some_iff.1 e
          obtain ⟨pl, k1, k2⟩ := places_run hok
          obtain ⟨us', g1, g2, g3⟩ := fillS_sound k2 h2 ⟨hl, hx⟩ ha hcs
          refine ⟨.agg us'.toArray, .ag g2.len g3 g2.at_, fun w' _ => ?_⟩
          simp only [execOp, ho, hpl, Instr.build, Sem.run_bind, hrz, Result.andThen, run_underlying hund, k1, Value.cells]
          rw [g1]
          rfl
        · cases e
      · next n el hund =>
        split at e
        · next s hs =>
          obtain ⟨cs', hcs, rfl⟩ := Option.map_eq_some_iff.1 e
          obtain ⟨us', g1, g2, g3⟩ := fillR_sound h2 ⟨hl, hx⟩ ha hcs
          refine ⟨.agg us'.toArray, .ag g2.len g3 g2.at_, fun w' _ => ?_⟩
          simp only [execOp, ho, hpl, Instr.build, Sem.run_bind, hrz, Result.andThen, run_underlying hund, run_size' hs, Value.cells]
          rw [g1]
          rfl
        · cases e
      · cases e
  · cases e

/-- Operations that only read. -/
theorem evOpQ_sound (hh : HR w Z R h) (hρ : ∀ o x, ρ o = some x → VR w Z R x (ve o)) (e : evOpQ P ρ h o.op = some x) : Qt P w Z R x ve o := by
  unfold evOpQ at e
  split at e
  · next a ho => exact ⟨_, hρ _ _ e, fun w' _ => by simp [execOp, ho]⟩
  · next a ho => exact ⟨_, hρ _ _ e, fun w' _ => by simp [execOp, ho]⟩
  · next c a b ho =>
    split at e
    · next hc =>
      have hc := (hρ _ _ hc).v_inv
      exact ⟨_, hρ _ _ e, fun w' _ => by simp [execOp, ho, hc, asBool]⟩
    · next hc =>
      have hc := (hρ _ _ hc).v_inv
      exact ⟨_, hρ _ _ e, fun w' _ => by simp [execOp, ho, hc, asBool]⟩
    · cases e
  · next t a ho =>
    split at e
    · next p hp => exact evLoad_sound hh hρ hp ho e
    · cases e
  · next a ho =>
    split at e
    · next b i off ha =>
      injection e with e; subst e
      have hv := hρ _ _ ha
      refine ⟨_, hv, fun w' _ => ?_⟩
      generalize hva : ve a = va at hv
      cases hv
      simp [execOp, ho, hva]
    · next y off ha =>
      injection e with e; subst e
      have hv := hρ _ _ ha
      refine ⟨_, hv, fun w' _ => ?_⟩
      generalize hva : ve a = va at hv
      cases hv
      simp [execOp, ho, hva]
    · next f p q ha =>
      injection e with e; subst e
      have hv := hρ _ _ ha
      refine ⟨_, hv, fun w' _ => ?_⟩
      generalize hva : ve a = va at hv
      cases hv
      simp [execOp, ho, hva]
    · cases e
  · next op t a b t' ho =>
    split at e
    · next y z hy hz =>
      split at e
      · next v hv => injection e with e; subst e; exact evBin_sound hρ hy hz ho hv
      · exact evEq_sound hρ hy hz ho e
    · cases e
  · next op t a ho =>
    split at e
    · next y hy => exact evUn_sound hρ hy ho e
    · cases e
  · next s d a ho =>
    split at e
    · next y hy => exact evConv_sound hρ hy ho e
    · cases e
  · next f p q ho =>
    split at e
    · next ps qs hp hq =>
      injection e with e; subst e
      have h1 := opds_vr hρ hp
      have h2 := opds_vr hρ hq
      refine ⟨.func (.func f) (p.toList.map ve).toArray (q.toList.map ve).toArray, .fn h1.len h2.len h1.at_ h2.at_, fun w' _ => ?_⟩
      have e1 : p.map ve = (p.toList.map ve).toArray := by apply Array.ext'; simp
      have e2 : q.map ve = (q.toList.map ve).toArray := by apply Array.ext'; simp
      simp only [execOp, ho, e1, e2, Instr.makeFunc]
      rfl
    · cases e
  · next t a lo hi mx ho =>
    split at e
    · next y yl yh ym h1 h2 h3 h4 => exact evSlice_sound hρ hh h1 h2 h3 h4 ho e
    · cases e
  · next t a f ho =>
    split at e
    · next y hy => exact evFieldAddr_sound hρ hy ho e
    · cases e
  · next t a f ho =>
    split at e
    · next y hy => exact evField_sound hρ hy ho e
    · cases e
  · next t a b ho =>
    split at e
    · next y z hy hz => exact evIndexAddr_sound hρ hh hy hz ho e
    · cases e
  · next t a b ho =>
    split at e
    · next y z hy hz => exact evIndex_sound hρ hy hz ho e
    · cases e
  · next a i ho =>
    split at e
    · next vs hvs =>
      have hv := hρ _ _ hvs
      generalize hva : ve a = va at hv
      cases hv with
      | tp hl hx =>
        obtain ⟨u, k1, k2⟩ := VRs.get ⟨hl, hx⟩ e
        exact ⟨u, k2, fun w' _ => by simp [execOp, ho, hva, Instr.extract, k1]⟩
    · cases e
  · next args tys ho =>
    split at e
    · next y t ha ht => exact evLen_sound hρ ho ha ht e
    · cases e
  · next args tys ho =>
    split at e
    · next ys ha => exact evMinMax_sound (g := false) hρ ho ha e
    · cases e
  · next args tys ho =>
    split at e
    · next ys ha => exact evMinMax_sound (g := true) hρ ho ha e
    · cases e
  · next t ps ho =>
    split at e
    · next xs hxs => exact evBuild_sound hρ ho hxs e
    · cases e
  · next args tys ho =>
    split at e
    · next b lo n m ha =>
      injection e with e; subst e
      have hvs := opds_vr hρ ha
      obtain ⟨u, us', hus, hv, hn⟩ := hvs.head
      have : us' = [] := by have := hn.len; simpa using this
      subst this
      have hrun := fun w => run_callB (P := P) (ve := ve) ho hus w
      cases hv with
      | rf hr g0 g1 g2 g3 =>
        rename_i c r
        refine ⟨_, .pt hr, fun w' _ => ?_⟩
        have h2 := Go.Lib.run_unsafeSliceData_row (P := P) w' tys o.type ⟨r.c, lo * r.k, none⟩ n c (by omega)
        rw [hrun]
        simp only [builtin]
        rw [Sem.run_bind, h2]
        simp
    · cases e
  · cases e
end
end Go.Proofs.YthofgamegondnaaDoor
