/- The abstract interpreter: bytes as a string, pointers seen as others. -/
import Derived.Test.YthofgamegondnaaDoorOpX
namespace Go.Proofs.YthofgamegondnaaDoor
open Go.RowKit

section
variable {P : Program} {w w' : World} {Z : Nat → Prop} {R : List RI} {h h' : Hp} {ρ : Operand → Option AV} {ve : Operand → Value} {o : Oper} {x : AV}

/-- Blocks turn that are neither owned nor frozen. -/
theorem HR.off (hh : HR w Z R h) (hs : w'.heap.size = w.heap.size) (hb : ∀ c, (Z c ∨ own R h c) → w'.heap[c]? = w.heap[c]?) : HR w' Z R h := by
  refine ⟨hh.len, fun b B hB => ?_, hh.inj, fun c hc => by rw [hs]; exact hh.zlt c hc⟩
  obtain ⟨r, arr, us, h1, h2, h3, h4, h5, h6, h7, h8, h9, h10⟩ := hh.blk b B hB
  have hc : w'.heap[r.c]? = w.heap[r.c]? := by
    cases hf : B.fz with
    | true => exact hb _ (.inl (h7 hf))
    | false => exact hb _ (.inr ⟨b, B, r, hB, hf, h1, rfl⟩)
  exact ⟨r, arr, us, h1, h2, hc.trans h3, h4, h5, h6, h7, h8, h9.mono (fun c hz => hb c (.inl hz)) (fun _ h => h) (fun _ _ h => h), h10⟩

theorem bytesA_inv : ∀ {xs : List AV} {us : List Value} {bs : List UInt8}, bytesA xs = some bs → VRs w Z R xs us → us = bs.map fun b => Value.int .u8 b.toNat
  | [], us, bs, e, hv => by
    injection e with e; subst e
    have : us = [] := by have := hv.len; simpa using this
    subst this; rfl
  | y :: xs, us, bs, e, hv => by
    unfold bytesA at e
    split at e
    · next heq => cases heq
    · next n r heq =>
      injection heq with h1 h2
      subst h1 h2
      split at e
      · next hn =>
        obtain ⟨l, hl, rfl⟩ := Option.map_eq_some_iff.1 e
        obtain ⟨u, us', rfl, hu, hn'⟩ := hv.head
        rw [hu.v_inv, bytesA_inv hl hn']
        have : ((n.toNat.toUInt8).toNat : Int) = n := by
          simp
          omega
        simp only [List.map_cons]
        rw [this]
      · cases e
    · cases e

theorem evUStr_sound (hρ : ∀ o x, ρ o = some x → VR w Z R x (ve o)) (hh : HR w Z R h) {args : Array Operand} {tys : Array TypeId} {t t2 : TypeId} {y z : AV} (ho : o.op = .call ⟨.builtin .unsafeString, args, tys⟩) (ha : opds ρ args.toList = some [y, z]) (htys : tys.toList = [t, t2]) (e : evUStr P h t y z = some (x, h')) : Ld P w Z R h x h' ve o := by
  have hvs := opds_vr hρ ha
  obtain ⟨vy, us', hus, hvy, hn⟩ := hvs.head
  obtain ⟨vz, us'', rfl, hvz, hn'⟩ := hn.head
  have : us'' = [] := by have := hn'.len; simpa using this
  subst this
  have ht' : tys = #[t, t2] := by apply Array.ext'; simpa using htys
  subst ht'
  have hrun := run_callB (P := P) (ve := ve) ho hus w
  unfold evUStr at e
  split at e
  · next el b n hund =>
    split at e
    · next B hB =>
      split at e
      · next hc =>
        obtain ⟨c1, c2, c3, c4, c5, c6⟩ := hc
        split at e
        · next bs hbs =>
          split at e
          · next hok =>
            injection e with e; injection e with e1 e2; subst e1 e2
            obtain ⟨r, arr, us, g1, g2, g3, g4, g5, g6, g7, g8, g9, g10⟩ := hh.blk b B hB
            cases hvy with
            | pt hr =>
              rename_i r'
              rw [g1] at hr
              injection hr with hr
              subst hr
              have hz := hvz.v_inv
              subst hz
              have hus := bytesA_inv hbs (g9.take n.toNat)
              have hbl : bs.length = n.toNat := by
                have h1 := congrArg List.length hus
                rw [List.length_take, List.length_map, g9.len] at h1
                omega
              have hcells : ∀ j (c : UInt8), bs[j]? = some c → w.cell? ((⟨r.c, 0, none⟩ : Addr).add j) = some (.int .u8 c.toNat) := fun j c hj => by
                have h1 : us[j]? = some (.int .u8 c.toNat) := by
                  have h2 : (us.take n.toNat)[j]? = some (.int .u8 c.toNat) := by rw [hus, List.getElem?_map, hj]; rfl
                  have hjl : j < n.toNat := by rw [← hbl]; exact (List.getElem?_eq_some_iff.1 hj).1
                  rwa [List.getElem?_take_of_lt hjl] at h2
                have h3 := (g10 j _ h1).2.2 0 _ (show (Value.int .u8 c.toNat).cells[0]? = some (.int .u8 c.toNat) from rfl)
                rw [c2, Nat.mul_one, Nat.add_zero] at h3
                rw [addr_add, Nat.zero_add]
                simp [World.cell?, g3, h3]
              have hsh : w.shape? r.c = some (el, arr.size) := by simp [World.shape?, g3, c3]
              have hml : bs.length ≤ maxLen := Nat.le_of_ble_eq_true hok
              have hr := Go.Lib.run_unsafeString_row (P := P) w t t2 o.type el hund c4 r.c arr.size hsh bs (by intro h; rw [h] at hbl; simp at hbl; omega) (by rw [hbl, g4, c2]; omega) (by unfold maxLen at hml; omega) hcells
              have hn : ((bs.length : Nat) : Int) = n := by rw [hbl]; omega
              rw [hn] at hr
              have haddr : (⟨r.c, 0 * r.k + 0, none⟩ : Addr) = ⟨r.c, 0, none⟩ := by simp
              obtain ⟨k1, k2⟩ := hh.kill b
              have hsz : (w.freeze ⟨r.c, 0, none⟩ bs.length).heap.size = w.heap.size := by unfold World.freeze; split <;> simp
              have hoth : ∀ c, c ≠ r.c → (w.freeze ⟨r.c, 0, none⟩ bs.length).heap[c]? = w.heap[c]? := fun c hc => by
                unfold World.freeze
                split
                · rfl
                · simp [Array.getElem?_modify, Ne.symm hc]
              have hown : own R h r.c := ⟨b, B, r, hB, c1, g1, rfl⟩
              have hnown : ¬ own R (h.set b none) r.c := fun ⟨b', B', r', q1, q2, q3, q4⟩ => by
                rw [List.getElem?_set] at q1
                split at q1
                · split at q1 <;> cases q1
                · next hne => exact hne (hh.inj b b' B B' r r' hB c1 q1 q2 g1 q3 q4.symm)
              have hoff : HR (w.freeze ⟨r.c, 0, none⟩ bs.length) Z R (h.set b none) := k1.off hsz fun c hc => hoth c fun ec => by
                subst ec
                exact hc.elim (hh.notZ hown) hnown
              refine ⟨.string ⟨bs.toArray⟩, w.freeze ⟨r.c, 0, none⟩ bs.length, R, ?_, hoff, .st (by simp) hml, ⟨?_, ?_, ?_, by rw [hsz]; exact Nat.le_refl _, fun c hc hno => (hoth c fun ec => hno (ec ▸ hown)), k2.own_, k2.z, k2.z', k2.r⟩⟩
              · rw [hrun, haddr]
                simp only [builtin]
                rw [Sem.run_bind, hr]
                simp
              all_goals (unfold World.freeze; split <;> rfl)
          · cases e
        · cases e
      · cases e
    · cases e
  · cases e

theorem liesAt_self {e : TypeId} {count : Nat} (hc : P.cellsOf e ≠ 0) (hn : 0 < count) : liesAt P P.depth e count 0 e 1 = true := by
  have hd : P.depth = (2 * (P.types.size + Made.depth) + 1) + 1 := rfl
  rw [hd]
  simp only [liesAt, Bool.or_eq_true]
  left
  rw [hd]
  simp [rowAt, hc, sameLayout]
  omega

theorem evConvP_sound (hρ : ∀ o x, ρ o = some x → VR w Z R x (ve o)) (hh : HR w Z R h) {a b : TypeId} {p : Operand} {y : AV} (hp : ρ p = some y) (ho : o.op = .convert a b p) (e : evConvP P h a b y = some x) : Ld P w Z R h x h ve o := by
  have hv := hρ _ _ hp
  unfold evConvP at e
  split at e
  · next t c i off h1 h2 =>
    split at e
    · next B hB =>
      split at e
      · next hc =>
        obtain ⟨c1, c2, c3, c4⟩ := hc
        injection e with e; subst e
        obtain ⟨r, arr, us, g1, g2, g3, g4, g5, g6, g7, g8, g9, g10⟩ := hh.blk c B hB
        generalize hva : ve p = va at hv
        have hv' := hv
        cases hv with
        | pt hr =>
          rename_i r'
          rw [g1] at hr
          injection hr with hr
          subst hr
          obtain ⟨m, hm⟩ := Option.isSome_iff_exists.1 c3
          obtain ⟨j, hj, hjs⟩ := Option.map_eq_some_iff.1 hm
          have hne : j.size ≠ 0 := fun h0 => c4 (by rw [hm, ← hjs, h0])
          have hlt : i * r.k + off < arr.size := by
            rw [g2, g4]
            have := Nat.mul_le_mul_right B.k (show i + 1 ≤ r.cap by omega)
            rw [Nat.add_mul] at this
            omega
          have hr := Go.Lib.run_to_unsafe (P := P) w ⟨r.c, i * r.k + off, none⟩ h1 h2 hj hne (show w.shape? r.c = some (B.t, arr.size) by simp [World.shape?, g3]) hlt
          exact ⟨_, w, R, by simp only [execOp, ho, hva]; rw [Sem.run_bind, hr]; rfl, hh, hv', Step.refl _ _ _ _⟩
      · cases e
    · cases e
  · next u c h1 h2 =>
    split at e
    · next B hB =>
      split at e
      · next hc =>
        obtain ⟨c1, c2, c3, c4, c5⟩ := hc
        injection e with e; subst e
        obtain ⟨r, arr, us, g1, g2, g3, g4, g5, g6, g7, g8, g9, g10⟩ := hh.blk c B hB
        generalize hva : ve p = va at hv
        have hv' := hv
        cases hv with
        | pt hr =>
          rename_i r'
          rw [g1] at hr
          injection hr with hr
          subst hr
          obtain ⟨j, hj⟩ := Option.isSome_iff_exists.1 c5
          have hlies : liesAt P P.depth u (arr.size / P.cellsOf u) (0 * r.k + 0) u 1 = true := by
            rw [Nat.zero_mul]
            refine liesAt_self (by omega) ?_
            rw [g4, c4, Nat.mul_div_cancel _ c2]
            omega
          have hr := Go.Lib.run_from_unsafe (P := P) w ⟨r.c, 0 * r.k + 0, none⟩ h1 h2 hj (show w.shape? r.c = some (u, arr.size) by simp [World.shape?, g3, c3]) hlies
          exact ⟨_, w, R, by simp only [execOp, ho, hva]; rw [Sem.run_bind, hr]; rfl, hh, hv', Step.refl _ _ _ _⟩
      · cases e
    · cases e
  · cases e

theorem evOpX_sound {I : FuncId → Bool} (hI : ∀ f, I f = true → ∀ v w, (callFunc f #[v]).run P w = .ok (.value v) w) (hρ : ∀ o x, ρ o = some x → VR w Z R x (ve o)) (hh : HR w Z R h) (e : evOpX P I ρ h o.op = some x) : Ld P w Z R h x h ve o := by
  unfold evOpX at e
  split at e
  · next a b p ho =>
    split at e
    · next y hy => exact evConvP_sound hρ hh hy ho e
    · cases e
  · next f args tys ho =>
    split at e
    · next g y hf ha =>
      split at e
      · next hg =>
        injection e with e; subst e
        have hvs := opds_vr hρ ha
        obtain ⟨v, us', hus, hv, hn⟩ := hvs.head
        have : us' = [] := by have := hn.len; simpa using this
        subst this
        have hvf := hρ _ _ hf
        generalize hva : ve f = va at hvf
        cases hvf with
        | fn hl hl' hx hy =>
          rename_i uf uc
          have e1 : uf = [] := by simpa using hl
          have e2 : uc = [] := by simpa using hl'
          subst e1 e2
          have e3 : args.map ve = #[v] := by apply Array.ext'; rw [Array.toList_map, hus]
          refine ⟨v, w, R, ?_, hh, hv, Step.refl _ _ _ _⟩
          simp [execOp, ho, resolve, hva, e3, invoke, Deferred.ofValue, hI g hg]
      · cases e
    · cases e
  · cases e
end
end Go.Proofs.YthofgamegondnaaDoor
