/- The abstract interpreter: stores, append, copy. -/
import Derived.Test.YthofgamegondnaaDoorOpW
namespace Go.Proofs.YthofgamegondnaaDoor
open Go.RowKit

section
variable {P : Program} {w : World} {Z : Nat → Prop} {R : List RI} {h h' : Hp} {ρ : Operand → Option AV} {ve : Operand → Value} {o : Oper} {x : AV}

theorem splice_get {α : Type} (l m : List α) (a : Nat) (h : a + m.length ≤ l.length) (q : Nat) : (l.take a ++ m ++ l.drop (a + m.length))[q]? = if q < a then l[q]? else if q < a + m.length then m[q - a]? else l[q]? := by
  split
  · next h1 => rw [List.append_assoc, List.getElem?_append_left (by simp; omega), List.getElem?_take_of_lt h1]
  · next h1 =>
    have hl : (l.take a).length = a := by simp; omega
    split
    · next h2 => rw [List.append_assoc, List.getElem?_append_right (by omega), hl, List.getElem?_append_left (by omega)]
    · next h2 =>
      rw [List.getElem?_append_right (by simp; omega), List.getElem?_drop]
      congr 1
      simp; omega

theorem evStore_sound (hρ : ∀ o x, ρ o = some x → VR w Z R x (ve o)) (hh : HR w Z R h) {t : TypeId} {p q : Operand} {y z : AV} (ho : o.op = .store t p q) (hp : ρ p = some y) (hq : ρ q = some z) (e : evStore P h t y z = some h') :
    ∃ w', (execOp ve o).run P w = .ok .skip w' ∧ HR w' Z R h' ∧ Step w Z R h w' Z R h' := by
  have hv := hρ _ _ hp
  have hz := hρ _ _ hq
  unfold evStore at e
  split at e
  · next b i off =>
    split at e
    · next B hB =>
      split at e
      · cases e
      · next hf =>
        have hf : B.fz = false := by simpa using hf
        split at e
        · next el hel =>
          split at e
          · next hc =>
            obtain ⟨c1, c2⟩ := hc
            obtain ⟨el', he', rfl⟩ := Option.map_eq_some_iff.1 e
            obtain ⟨r, arr, us, g1, g2, g3, g4, g5, g6, g7, g8, g9, g10⟩ := hh.blk b B hB
            generalize hva : ve p = va at hv
            generalize hvz : ve q = vz at hz
            cases hv with
            | pt hr =>
              rename_i r'
              rw [g1] at hr
              injection hr with hr
              subst hr
              obtain ⟨u, hu1, hu2⟩ := g9.get hel
              obtain ⟨q1, q2, q3⟩ := g10 _ _ hu1
              unfold setE at he'
              split at he'
              · next hle =>
                injection he' with he'
                subst he'
                have hzs : vz.cells.size = z.cel.length := by rw [hz.cells.1, nc_cel]
                have hz1 := hz.cells_one c2
                have hspl := hu2.cells.2.splice hz off
                have hls : u.cells.toList.length = el.cel.length := hu2.cells.2.len
                obtain ⟨u', k1, k2, k3⟩ := hspl.elm (List.all_eq_true.2 fun q hq => by
                  simp only [List.mem_append] at hq
                  rcases hq with (hq | hq) | hq
                  · exact q2 q (by have := List.mem_of_mem_take hq; simpa using this)
                  · exact hz1 q (by simpa using hq)
                  · exact q2 q (by have := List.mem_of_mem_drop hq; simpa using this))
                have hil : i < us.length := (List.getElem?_eq_some_iff.1 hu1).1
                have hic : i < r.cap := by have := g9.len; omega
                have hkz : el.cel.length = B.k := by rw [← hls, Array.length_toList, q1]
                have hbnd : i * r.k + off + vz.cells.toList.length ≤ arr.size := by
                  rw [Array.length_toList, hzs, g2, g4]
                  have := Nat.mul_le_mul_right B.k (show i + 1 ≤ r.cap by omega)
                  rw [Nat.add_mul] at this
                  omega
                obtain ⟨m1, m2, m3⟩ := heap_setCells r.c vz.cells.toList (i * r.k + off) w arr B.t g3 hbnd
                have hbnd' : i * r.k + off + vz.cells.toList.length ≤ arr.toList.length := by rw [Array.length_toList (xs := arr)]; exact hbnd
                have hsp := splice_get arr.toList vz.cells.toList (i * r.k + off) hbnd'
                have hput := hh.put (w' := w.setCells r.c (i * r.k + off) vz.cells.toList) (es := B.es.set i (elm (el.cel.take off ++ z.cel ++ el.cel.drop (off + z.cel.length)))) (us := us.set i u') hB hf g1 m2 m1 (by rw [← g4, List.size_toArray, splice_len _ _ _ hbnd', Array.length_toList]) (by simpa using g5) (g9.set i k1) (fun j v hj => by
                  rw [List.getElem?_set] at hj
                  have hzl : vz.cells.toList.length = z.cel.length := by rw [Array.length_toList, hzs]
                  split at hj
                  · next hij =>
                    subst hij
                    try rw [if_pos hil] at hj
                    injection hj with hj
                    subst hj
                    have hsz : u'.cells.size = B.k := by
                      rw [k2, List.size_toArray, ← hzl, splice_len _ _ _ (by rw [hls]; omega), hls, hkz]
                    refine ⟨hsz, fun q hq => ?_, fun a q hq => ?_⟩
                    · rw [k2] at hq
                      simp only [List.mem_toArray, List.mem_append] at hq
                      rcases hq with (hq | hq) | hq
                      · exact q2 q (by have := List.mem_of_mem_take hq; simpa using this)
                      · exact hz1 q (by simpa using hq)
                      · exact q2 q (by have := List.mem_of_mem_drop hq; simpa using this)
                    · have ha : a < B.k := by rw [← hsz]; exact (Array.getElem?_eq_some_iff.1 hq).1
                      rw [k2, List.getElem?_toArray, ← hzl, splice_get _ _ _ (by rw [hls]; omega)] at hq
                      rw [List.getElem?_toArray, ← g2, hsp]
                      have hold := fun q hq => q3 a q hq
                      rw [← g2] at hold
                      by_cases h1 : a < off
                      · rw [if_pos h1] at hq
                        rw [if_pos (by omega)]
                        have := hold q (by simpa using hq)
                        simpa using this
                      · rw [if_neg h1] at hq
                        rw [if_neg (by omega)]
                        by_cases h2 : a < off + vz.cells.toList.length
                        · rw [if_pos h2] at hq
                          rw [if_pos (by omega), show i * r.k + a - (i * r.k + off) = a - off by omega]
                          exact hq
                        · rw [if_neg h2] at hq
                          rw [if_neg (by omega)]
                          have := hold q (by simpa using hq)
                          simpa using this
                  · next hij =>
                    refine ⟨(g10 j v hj).1, (g10 j v hj).2.1, fun a q hq => ?_⟩
                    have ha : a < B.k := by rw [← (g10 j v hj).1]; exact (Array.getElem?_eq_some_iff.1 hq).1
                    rw [List.getElem?_toArray, ← g2, hsp]
                    have hold := (g10 j v hj).2.2 a q hq
                    rw [← g2] at hold ha
                    have hkz' : el.cel.length = r.k := by omega
                    by_cases hlt : j < i
                    · have := Nat.mul_le_mul_right r.k (show j + 1 ≤ i by omega)
                      rw [Nat.add_mul] at this
                      rw [if_pos (by omega)]
                      simpa using hold
                    · have := Nat.mul_le_mul_right r.k (show i + 1 ≤ j by omega)
                      rw [Nat.add_mul] at this
                      rw [if_neg (by omega), if_neg (by omega)]
                      simpa using hold)
                refine ⟨_, ?_, hput.1, hput.2⟩
                have hst := run_storeCells_cells (P := P) r.c (i * r.k + off) vz.cells.toList 0 w (fun j hj => by
                    have : i * r.k + off + j < arr.size := by omega
                    simp [World.cell?, g3, this]) (fun j hj => by simp [World.frozen?, g3]) (fun v hv => hz1 v (by simpa using hv))
                simp only [Nat.add_zero] at hst
                have hszt := run_size' c1 w
                have hzn : vz.cells.size = z.nc := hz.cells.1
                simp only [execOp, ho, hva, hvz, Instr.storeAt, Instr.sureAddr]
                simp [storeVar, hszt, hzn, hst]
              · cases he'
          · cases e
        · cases e
    · cases e
  · cases e

/-- What is appended or copied. -/
theorem elems_src {k : Nat} {y : AV} {v : Value} {ys : List AV} {t2 : TypeId} (hh : HR w Z R h) (hv : VR w Z R y v) (hs : srcOk P t2 y = true) (e : elems h k y = some ys) :
    ∃ us, VRs w Z R ys us ∧ (∀ u ∈ us, u.cells.size = k ∧ ∀ q ∈ u.cells, q.oneCell' = true) ∧ Src P k t2 v ys.length (flat' us) w ∧ ∀ n, n ≤ ys.length → (Builtin.firstCells k n v).run P w = .ok (flat' (us.take n)).toArray w := by
  have pre : ∀ (us : List Value) (a : Addr) (N c n : Nat), (∀ u ∈ us, u.cells.size = k) → n ≤ us.length → (∀ j q, (flat' us)[j]? = some q → w.cell? (a.add j) = some q) → (Builtin.firstCells k n (.slice (some a) N c)).run P w = .ok (flat' (us.take n)).toArray w := fun us a N c n hu hn hcl => by
    have h1 := run_loadCells_list (P := P) w a (flat' (us.take n)) (fun j q hq => hcl j q (by
      rw [flat_take hu] at hq
      have hlt : j < n * k := by have := (List.getElem?_eq_some_iff.1 hq).1; rw [List.length_take] at this; omega
      rwa [List.getElem?_take_of_lt hlt] at hq))
    rw [flat_len (k := k) (fun u hu' => hu u (List.mem_of_mem_take hu')), List.length_take, Nat.min_eq_left hn] at h1
    simpa [Builtin.firstCells] using h1
  have hkind : ∀ {y' : AV}, srcOk P t2 y' = true → (∀ bs, y' ≠ .st bs) → ∃ e', P.underlying t2 = some (.slice e') := fun {y'} hs hn => by
    unfold srcOk at hs
    split at hs
    · exact absurd rfl (hn _)
    · cases hs
    · next e' h1 _ => exact ⟨_, h1⟩
    · cases hs
  have len' : ∀ (A : Option Addr) (n c : Nat) (w' : World), (Builtin.lenOf (.slice A n c)).run P w' = .ok n w' := fun _ _ _ _ => rfl
  have nilC : ∀ (A : Option Addr) (c : Nat) (w' : World), (Builtin.firstCells k 0 (.slice A 0 c)).run P w' = .ok #[] w' := fun A c w' => by
    cases A with
    | none => rfl
    | some a =>
      have := run_loadCells_list (P := P) w' a [] (by simp)
      simpa [Builtin.firstCells] using this
  unfold elems at e
  split at e
  · injection e with e; subst e
    cases hv with
    | e0 =>
      obtain ⟨e', hk⟩ := hkind hs (by simp)
      exact ⟨[], .nil, by simp, ⟨.inl ⟨e', hk⟩, fun w' => rfl, nilC _ _ w, nilC _ _ _, by simp [flat'], by simp [flat']⟩, fun n hn => by simp at hn; subst hn; exact nilC _ _ w⟩
  · next k' xs =>
    split at e
    · next hk' =>
      injection e with e; subst e
      obtain ⟨e', hk⟩ := hkind hs (by simp)
      cases hv with
      | sl hn hl hc hm ha hx =>
        rename_i c n A us
        subst hn
        rcases Nat.eq_zero_or_pos xs.length with h0 | h0
        · have hx0 : xs = [] := List.eq_nil_of_length_eq_zero h0
          subst hx0
          exact ⟨[], .nil, by simp, ⟨.inl ⟨e', hk⟩, fun w' => rfl, nilC _ _ w, nilC _ _ _, by simp [flat'], by simp [flat']⟩, fun n hn => by simp at hn; subst hn; exact nilC _ _ w⟩
        · have hkk : k' = k := by
            simp at hk'
            rcases hk' with h | h
            · subst h; simp at h0
            · exact h
          subst hkk
          obtain ⟨a, rfl, hsp, hz, hcell⟩ := ha h0
          have hu : ∀ u ∈ us, u.cells.size = k' ∧ ∀ q ∈ u.cells, q.oneCell' = true := fun u hu => by
            obtain ⟨i, hi⟩ := List.mem_iff_getElem?.1 hu
            exact ⟨(hcell i u hi).1, (hcell i u hi).2.1⟩
          have hfl := flat_len (k := k') (us := us) fun u hu' => (hu u hu').1
          have hcl : ∀ j q, (flat' us)[j]? = some q → w.cell? (a.add j) = some q := fun j q hq => by
            have hk0 : 0 < k' := by
              rcases Nat.eq_zero_or_pos k' with h | h
              · subst h
                have : (flat' us).length = 0 := by rw [hfl]; simp
                rw [List.getElem?_eq_none (by omega)] at hq; cases hq
              · exact h
            have hjl : j < us.length * k' := by rw [← hfl]; exact (List.getElem?_eq_some_iff.1 hq).1
            have hdl : j / k' < us.length := Nat.div_lt_of_lt_mul (by rw [Nat.mul_comm]; exact hjl)
            have hd := Nat.div_add_mod j k'
            rw [Nat.mul_comm] at hd
            have hui := List.getElem?_eq_getElem hdl
            obtain ⟨m1, m2, m3⟩ := hcell _ _ hui
            have hml : j % k' < (us[j / k']).cells.size := by rw [m1]; exact Nat.mod_lt _ hk0
            have hfg := flat_get (fun u hu' => (hu u hu').1) (j / k') _ hui (j % k') _ (Array.getElem?_eq_getElem hml)
            rw [hd, hq] at hfg
            injection hfg with hfg
            subst hfg
            have := m3 _ _ (Array.getElem?_eq_getElem hml)
            rw [hd] at this
            obtain ⟨ab, ao, asp⟩ := a
            simp only at hsp
            subst hsp
            rw [addr_add]
            exact this
          refine ⟨us, ⟨hl, fun i x u hx' hu' => (hx i x u hx' hu').up⟩, hu, Src.ofSlice w hk a xs.length c (flat' us) (by rw [hfl, hl]) hcl (fun v hv => ?_), fun n hn => pre us a _ _ n (fun u hu' => (hu u hu').1) (by omega) hcl⟩
          · obtain ⟨u, hu', hv'⟩ := List.mem_flatten.1 hv
            obtain ⟨u', hu'', rfl⟩ := List.mem_map.1 hu'
            exact (hu u' hu'').2 v (by simpa using hv')
    · cases e
  · next b lo n m =>
    split at e
    · next B hB =>
      split at e
      · next hc =>
        obtain ⟨rfl, hle⟩ := hc
        injection e with e; subst e
        obtain ⟨e', hk⟩ := hkind hs (by simp)
        obtain ⟨r, arr, us, g1, g2, g3, g4, g5, g6, g7, g8, g9, g10⟩ := hh.blk b B hB
        cases hv with
        | rf hr q0 q1 q2 q3 =>
          rename_i c r'
          rw [g1] at hr
          injection hr with hr
          subst hr
          have hvs := (g9.drop lo).take n
          have hu : ∀ u ∈ (us.drop lo).take n, u.cells.size = B.k ∧ ∀ q ∈ u.cells, q.oneCell' = true := fun u hu => by
            obtain ⟨i, hi⟩ := List.mem_iff_getElem?.1 (List.mem_of_mem_drop (List.mem_of_mem_take hu))
            exact ⟨(g10 i u hi).1, (g10 i u hi).2.1⟩
          have hall : ∀ u ∈ us, u.cells.size = B.k := fun u hu => by
            obtain ⟨i, hi⟩ := List.mem_iff_getElem?.1 hu
            exact (g10 i u hi).1
          have hfl := flat_len (k := B.k) (us := (us.drop lo).take n) fun u hu' => (hu u hu').1
          have hlen : ((B.es.drop lo).take n).length = n := by simp; omega
          have hcl : ∀ j q, (flat' ((us.drop lo).take n))[j]? = some q → w.cell? ((⟨r.c, lo * r.k, none⟩ : Addr).add j) = some q := fun j q hq => by
            have hk0 : 0 < B.k := by
              rcases Nat.eq_zero_or_pos B.k with h | h
              · have : (flat' ((us.drop lo).take n)).length = 0 := by rw [hfl, h]; simp
                rw [List.getElem?_eq_none (by omega)] at hq; cases hq
              · exact h
            have hvl : ((us.drop lo).take n).length = n := by rw [hvs.len, hlen]
            have hjl : j < n * B.k := by rw [← hvl, ← hfl]; exact (List.getElem?_eq_some_iff.1 hq).1
            have hdl : j / B.k < ((us.drop lo).take n).length := by rw [hvl]; exact Nat.div_lt_of_lt_mul (by rw [Nat.mul_comm]; exact hjl)
            have hd := Nat.div_add_mod j B.k
            rw [Nat.mul_comm] at hd
            have hui := List.getElem?_eq_getElem hdl
            have hui' : us[lo + j / B.k]? = some ((us.drop lo).take n)[j / B.k] := by
              rw [List.getElem?_take_of_lt (by omega), List.getElem?_drop] at hui
              exact hui
            obtain ⟨m1, m2, m3⟩ := g10 _ _ hui'
            have hml : j % B.k < (((us.drop lo).take n)[j / B.k]).cells.size := by rw [m1]; exact Nat.mod_lt _ hk0
            have hfg := flat_get (fun u hu' => (hu u hu').1) (j / B.k) _ hui (j % B.k) _ (Array.getElem?_eq_getElem hml)
            rw [hd, hq] at hfg
            injection hfg with hfg
            subst hfg
            have h3 := m3 _ _ (Array.getElem?_eq_getElem hml)
            rw [Nat.add_mul, Nat.add_assoc, hd] at h3
            rw [addr_add, g2]
            simp [World.cell?, g3, h3]
          refine ⟨(us.drop lo).take n, hvs, hu, ?_, fun j hj => pre _ _ _ _ j (fun u hu' => (hu u hu').1) (by rw [hvs.len]; omega) hcl⟩
          rw [hlen]
          refine Src.ofSlice w hk ⟨r.c, lo * r.k, none⟩ n c _ (by rw [hfl, hvs.len, hlen]) hcl (fun v hv => ?_)
          · obtain ⟨u, hu', hv'⟩ := List.mem_flatten.1 hv
            obtain ⟨u', hu'', rfl⟩ := List.mem_map.1 hu'
            exact (hu u' hu'').2 v (by simpa using hv')
      · cases e
    · cases e
  · next bs =>
    split at e
    · next hk1 =>
      subst hk1
      injection e with e; subst e
      obtain ⟨s, rfl, h1, h2⟩ := hv.st_inv
      have hk : P.underlying t2 = some .string := by
        unfold srcOk at hs
        split at hs
        · next h1 _ => exact h1
        · cases hs
        · rename_i hne; exact (hne _ rfl).elim
        · cases hs
      subst h1
      have hfl : flat' (s.data.toList.map fun b => Value.int .u8 b.toNat) = byteCells s := by
        unfold byteCells flat'
        induction s.data.toList with
        | nil => rfl
        | cons b l ih => simp only [List.map_cons, List.flatten_cons, ih]; rfl
      refine ⟨s.data.toList.map fun b => Value.int .u8 b.toNat, ⟨by simp, fun i y u hy hu => ?_⟩, fun u hu => ?_, ?_, fun n hn => ?_⟩
      · rw [List.getElem?_map] at hy hu
        cases hb : s.data.toList[i]? with
        | none => rw [hb] at hy; cases hy
        | some b => rw [hb] at hy hu; injection hy with hy; injection hu with hu; subst hy hu; exact .v rfl
      · obtain ⟨b, _, rfl⟩ := List.mem_map.1 hu
        exact ⟨rfl, fun q hq => by simp [Value.cells] at hq; subst hq; rfl⟩
      · rw [hfl, List.length_map, VR.int_bound (s := s) rfl |>.symm]
        exact Src.ofString w hk s
      · have e1 : flat' ((s.data.toList.map fun b => Value.int .u8 b.toNat).take n) = ((s.data.toList.take n).map fun b => Value.int .u8 b.toNat) := by
          rw [← List.map_take]
          unfold flat'
          induction s.data.toList.take n with
          | nil => rfl
          | cons b l ih => simp only [List.map_cons, List.flatten_cons, ih]; rfl
        rw [e1]
        show Result.ok _ _ = _
        congr 1
        apply Array.ext'
        have e2 := bytes_extract s 0 n
        simp only [List.drop_zero] at e2
        rw [Array.toList_map, e2]
    · cases e
  · cases e

/-- Nothing is appended. -/
theorem run_append_zero {t t2 el : TypeId} {A : Option Addr} {n c k : Nat} {v : Value} {i : TypeInfo} (ht : P.underlying t = some (.slice el)) (hi : P.info? el = some i) (hnc : n ≤ c) (hs : Src P i.size t2 v 0 [] w) :
    (Builtin.append_ #[t, t2] k #[.slice A n c, v]).run P w = .ok (.slice A n c) w := by
  rcases hs.kind with ⟨e', hk⟩ | hk <;> cases A <;> simp [Builtin.append_, run_underlying ht, run_underlying hk, sizeOf, typeInfo, hi, hs.len, hnc, hs.cells, storeCells]

theorem evAppend_sound (hρ : ∀ o x, ρ o = some x → VR w Z R x (ve o)) (hh : HR w Z R h) {args : Array Operand} {tys : Array TypeId} {t t2 : TypeId} {y z : AV} (ho : o.op = .call ⟨.builtin .append, args, tys⟩) (ha : opds ρ args.toList = some [y, z]) (htys : tys.toList = [t, t2]) (e : evAppend P h t t2 y z = some (x, h')) : Ld P w Z R h x h' ve o := by
  have hvs := opds_vr hρ ha
  obtain ⟨vy, us', hus, hvy, hn⟩ := hvs.head
  obtain ⟨vz, us'', rfl, hvz, hn'⟩ := hn.head
  have : us'' = [] := by have := hn'.len; simpa using this
  subst this
  have ht' : tys = #[t, t2] := by apply Array.ext'; simpa using htys
  subst ht'
  have hrun := fun w => run_callB (P := P) (ve := ve) ho hus w
  have fin : ∀ {u : Value} {w' : World} {R' : List RI}, (Builtin.append_ #[t, t2] o.type #[vy, vz]).run P w = .ok u w' → HR w' Z R' h' → VR w' Z R' x u → Step w Z R h w' Z R' h' → Ld P w Z R h x h' ve o := fun {u w' R'} h1 h2 h3 h4 => ⟨u, w', R', by rw [hrun]; simp only [builtin]; rw [Sem.run_bind, h1]; rfl, h2, h3, h4⟩
  unfold evAppend at e
  split at e
  · cases e
  · next hso =>
    have hso : srcOk P t2 z = true := by simpa using hso
    split at e
    · cases e
    · next el hel =>
      have hund := tyElem_und hel
      split at e
      · next i zz hi hzz =>
        split at e
        · cases e
        · next ys hys =>
          obtain ⟨us, hus1, hus2, hsrc, _⟩ := elems_src hh hvz hso hys
          split at e
          · next hemp =>
            have hy0 : ys = [] := by simpa using hemp
            subst hy0
            have hu0 : us = [] := by have := hus1.len; simpa using this
            subst hu0
            have hsrc0 : Src P i.size t2 vz 0 [] w := by simpa [flat'] using hsrc
            split at e
            · injection e with e; injection e with e1 e2; subst e1 e2
              cases hvy with
              | e0 => exact fin (run_append_zero hund hi (Nat.le_refl _) hsrc0) hh .e0 (Step.refl _ _ _ _)
            · injection e with e; injection e with e1 e2; subst e1 e2
              have hvy0 := hvy
              cases hvy with
              | sl hn hl hc hm ha hx => exact fin (run_append_zero hund hi hc hsrc0) hh hvy0 (Step.refl _ _ _ _)
            · injection e with e; injection e with e1 e2; subst e1 e2
              have hvy0 := hvy
              cases hvy with
              | rf hr q0 q1 q2 q3 => exact fin (run_append_zero hund hi (by omega) hsrc0) hh hvy0 (Step.refl _ _ _ _)
            · cases e
          · next hemp =>
            have hyl : 0 < ys.length := by
              cases ys with
              | nil => simp at hemp
              | cons a l => simp
            split at e
            · next hc =>
              obtain ⟨c1, c2, c3⟩ := hc
              obtain ⟨uz, huz, hnt, _, i', hi', hz'⟩ := run_zero' (w := w) (Z := Z) (R := R) hzz
              rw [hi] at hi'
              injection hi' with hi'
              subst hi'
              have husz : uz.cells.size = i.size := by rw [huz.cells.1, c2]
              have hzc : ∀ n, (Builtin.zeroCells uz.cells n).size = n * i.size := fun n => by simp [Builtin.zeroCells, husz]
              have hulen : us.length = ys.length := hus1.len
              split at e
              · -- onto an empty slice without room
                split at e
                · next hb =>
                  injection e with e; injection e with e1 e2; subst e1 e2
                  cases hvy with
                  | e0 =>
                    rename_i A
                    have hfc : (Builtin.firstCells i.size 0 (.slice A 0 0)).run P w.drew = .ok ([] : List Value).toArray w.drew := by
                      cases A with
                      | none => rfl
                      | some a =>
                        have := run_loadCells_list (P := P) w.drew a [] (by simp)
                        simpa [Builtin.firstCells] using this
                    have hr := run_append_grow_src (P := P) w t t2 o.type el i uz hund hi hz' A 0 0 [] hfc vz ys.length (flat' us) hsrc (by omega) (by omega) (growslice_fits (by omega) (by rw [Nat.zero_add]; exact hb.1))
                    simp only [Nat.zero_add, List.nil_append] at hr
                    have hge := grownCap_ge w ys.length 0 el
                    have hcm : grownCap w ys.length 0 el ≤ maxLen := grownCap_le_maxLen w ys.length 0 el (by unfold maxLen; omega)
                    have hfl := flat_len (k := i.size) (us := us) fun u hu => (hus2 u hu).1
                    have hgd : w.grownBy (w.drew.alloc (.cells ((flat' us).toArray ++ Builtin.zeroCells uz.cells (grownCap w ys.length 0 el - ys.length)) el)) none := ⟨rfl, rfl, rfl, by simp, fun k hk _ => heap_alloc_old w.drew _ hk⟩
                    obtain ⟨r1, r2, r3⟩ := hh.new (c := w.heap.size) (cap := grownCap w ys.length 0 el) (k := i.size) (t := el) (es := ys) (us := us) (arr := (flat' us).toArray ++ Builtin.zeroCells uz.cells (grownCap w ys.length 0 el - ys.length)) hgd (Nat.le_refl _) (heap_alloc_new w.drew _) hus1 (by rw [Array.size_append, hzc, List.size_toArray, hfl, hulen, ← Nat.add_mul]; congr 1; omega) hge hcm (fun j u hu => ⟨(hus2 u (List.mem_of_getElem? hu)).1, (hus2 u (List.mem_of_getElem? hu)).2, fun a q hq => by
                      have := flat_get (fun u hu => (hus2 u hu).1) j u hu a q hq
                      have hlt : j * i.size + a < (flat' us).length := (List.getElem?_eq_some_iff.1 this).1
                      rw [Array.getElem?_append_left (by simpa using hlt), List.getElem?_toArray]
                      exact this⟩)
                    refine fin hr r1 ?_ r2
                    have := VR.rf (w := w.drew.alloc (.cells ((flat' us).toArray ++ Builtin.zeroCells uz.cells (grownCap w ys.length 0 el - ys.length)) el)) (Z := Z) (b := h.length) (lo := 0) (n := ys.length) (m := ys.length) (c := grownCap w ys.length 0 el) r3 (Nat.le_refl _) hge (by simp) hcm
                    simpa using this
                · cases e
              · next b lo n m =>
                split at e
                · next B hB =>
                  split at e
                  · cases e
                  · next hcB =>
                    have hf : B.fz = false := by
                      cases hfz : B.fz with
                      | false => rfl
                      | true => exact absurd (.inl hfz) hcB
                    have hk : B.k = i.size := by
                      rcases Nat.decEq B.k i.size with h | h
                      · exact absurd (.inr (.inl h)) hcB
                      · exact h
                    have htt : B.t = el := by
                      rcases Nat.decEq B.t el with h | h
                      · exact absurd (.inr (.inr h)) hcB
                      · exact h
                    obtain ⟨r, arr, ub, g1, g2, g3, g4, g5, g6, g7, g8, g9, g10⟩ := hh.blk b B hB
                    have hown : own R h r.c := ⟨b, B, r, hB, hf, g1, rfl⟩
                    cases hvy with
                    | rf hr q0 q1 q2 q3 =>
                      rename_i c r'
                      rw [g1] at hr
                      injection hr with hr
                      subst hr
                      have hsi : r.k = i.size := by rw [g2, hk]
                      split at e
                      · -- in place, over known elements
                        next hfit =>
                        injection e with e; injection e with e1 e2; subst e1 e2
                        obtain ⟨k1, k2, k3, k4, k5⟩ := hh.write (lo := lo + n) (ys := ys) (vs := us) hB hf g1 (by omega) (by omega) hus1 (fun u hu => by rw [hk]; exact hus2 u hu)
                        have hidx : lo * r.k + n * i.size = (lo + n) * B.k := by rw [hsi, hk, Nat.add_mul]
                        have hrr := run_append_room_src (P := P) w t t2 o.type el i hund hi r.c (lo * r.k) n c vz ys.length (flat' us) hsrc (by omega) (fun j hj => by rw [hidx]; exact k3 j hj) (fun j hj => by rw [hidx]; exact k4 j hj)
                        rw [hidx] at hrr
                        refine fin hrr k1 ?_ k2
                        exact .rf g1 (by omega) q1 q2 q3
                      · split at e
                        · -- behind the last element
                          next hend =>
                          obtain ⟨rfl, hne, hb1, hb2⟩ := hend
                          injection e with e; injection e with e1 e2; subst e1 e2
                          subst hne
                          rcases Nat.lt_or_ge c (B.es.length + ys.length) with hgrow | hroom
                          · -- a new row
                            have hall : ∀ u ∈ ub, u.cells.size = i.size := fun u hu => by
                              obtain ⟨j, hj⟩ := List.mem_iff_getElem?.1 hu
                              rw [← hk]; exact (g10 j u hj).1
                            have hflb := flat_len (k := i.size) (us := ub) hall
                            have hubl : ub.length = B.es.length := g9.len
                            have hcellb : ∀ (W : World), W.heap[r.c]? = some (.cells arr B.t (0, 0)) → (Builtin.firstCells i.size B.es.length (.slice (some ⟨r.c, 0 * r.k, none⟩) B.es.length c)).run P W = .ok (flat' ub).toArray W := fun W hW => by
                              have := run_loadCells_list (P := P) W ⟨r.c, 0 * r.k, none⟩ (flat' ub) (fun j q hq => by
                                have hjl : j < ub.length * i.size := by rw [← hflb]; exact (List.getElem?_eq_some_iff.1 hq).1
                                have hdl : j / i.size < ub.length := Nat.div_lt_of_lt_mul (by rw [Nat.mul_comm]; exact hjl)
                                have hd := Nat.div_add_mod j i.size
                                rw [Nat.mul_comm] at hd
                                have hui := List.getElem?_eq_getElem hdl
                                obtain ⟨m1, m2, m3⟩ := g10 _ _ hui
                                have hml : j % i.size < (ub[j / i.size]).cells.size := by rw [m1, hk]; exact Nat.mod_lt _ c1
                                have hfg := flat_get hall (j / i.size) _ hui (j % i.size) _ (Array.getElem?_eq_getElem hml)
                                rw [hd, hq] at hfg
                                injection hfg with hfg
                                subst hfg
                                have h3 := m3 _ _ (Array.getElem?_eq_getElem hml)
                                rw [hk, hd] at h3
                                rw [addr_add, Nat.zero_mul, Nat.zero_add]
                                simp [World.cell?, hW, h3])
                              rw [hflb, hubl] at this
                              simpa [Builtin.firstCells] using this
                            have hr := run_append_grow_src (P := P) w t t2 o.type el i uz hund hi hz' (some ⟨r.c, 0 * r.k, none⟩) B.es.length c (flat' ub) (hcellb w.drew g3) vz ys.length (flat' us) hsrc hgrow (by omega) (growslice_fits hgrow hb1)
                            have hge := grownCap_ge w (B.es.length + ys.length) c el
                            have hcm : grownCap w (B.es.length + ys.length) c el ≤ maxLen := grownCap_le_maxLen w _ c el (by unfold maxLen; omega)
                            generalize hG : grownCap w (B.es.length + ys.length) c el = G at *
                            obtain ⟨kk1, kk2⟩ := hh.kill b
                            have hall2 : ∀ u ∈ ub ++ us, u.cells.size = i.size := fun u hu => by
                              rcases List.mem_append.1 hu with h | h
                              · exact hall u h
                              · exact (hus2 u h).1
                            have hone2 : ∀ u ∈ ub ++ us, ∀ q ∈ u.cells, q.oneCell' = true := fun u hu => by
                              rcases List.mem_append.1 hu with h | h
                              · obtain ⟨j, hj⟩ := List.mem_iff_getElem?.1 h
                                exact (g10 j u hj).2.1
                              · exact (hus2 u h).2
                            have hfl2 := flat_len (k := i.size) hall2
                            rw [← flat_append] at hr
                            have hgd : w.grownBy (w.drew.alloc (.cells ((flat' (ub ++ us)).toArray ++ Builtin.zeroCells uz.cells (G - (B.es.length + ys.length))) el)) none := ⟨rfl, rfl, rfl, by simp, fun k hk _ => heap_alloc_old w.drew _ hk⟩
                            obtain ⟨r1, r2, r3⟩ := kk1.new (c := w.heap.size) (cap := G) (k := i.size) (t := el) (es := B.es ++ ys) (us := ub ++ us) (arr := (flat' (ub ++ us)).toArray ++ Builtin.zeroCells uz.cells (G - (B.es.length + ys.length))) hgd (Nat.le_refl _) (heap_alloc_new w.drew _) (g9.append hus1) (by rw [Array.size_append, hzc, List.size_toArray, hfl2, List.length_append, hulen, hubl, ← Nat.add_mul]; congr 1; omega) (by rw [List.length_append]; exact hge) hcm (fun j u hu => ⟨hall2 u (List.mem_of_getElem? hu), hone2 u (List.mem_of_getElem? hu), fun a q hq => by
                              have := flat_get hall2 j u hu a q hq
                              have hlt : j * i.size + a < (flat' (ub ++ us)).length := (List.getElem?_eq_some_iff.1 this).1
                              rw [Array.getElem?_append_left (by simpa using hlt), List.getElem?_toArray]
                              exact this⟩)
                            rw [List.length_set] at r3
                            refine fin hr r1 ?_ (kk2.trans r2)
                            have := VR.rf (w := w.drew.alloc (.cells ((flat' (ub ++ us)).toArray ++ Builtin.zeroCells uz.cells (G - (B.es.length + ys.length))) el)) (Z := Z) (b := h.length) (lo := 0) (n := B.es.length + ys.length) (m := B.es.length + ys.length) (c := G) r3 (Nat.le_refl _) hge (by simp) hcm
                            simpa using this
                          · -- in place
                            obtain ⟨k1, k2, k3, k4, k5⟩ := hh.write (lo := B.es.length) (ys := ys) (vs := us) hB hf g1 (by omega) (Nat.le_refl _) hus1 (fun u hu => by rw [hk]; exact hus2 u hu)
                            have hidx : 0 * r.k + B.es.length * i.size = B.es.length * B.k := by rw [hk, Nat.zero_mul, Nat.zero_add]
                            have hrr := run_append_room_src (P := P) w t t2 o.type el i hund hi r.c (0 * r.k) B.es.length c vz ys.length (flat' us) hsrc hroom (fun j hj => by rw [hidx]; exact k3 j hj) (fun j hj => by rw [hidx]; exact k4 j hj)
                            rw [hidx] at hrr
                            have hes : B.es.take B.es.length ++ ys ++ B.es.drop (B.es.length + ys.length) = B.es ++ ys := by
                              rw [List.take_of_length_le (Nat.le_refl _), List.drop_eq_nil_of_le (by omega), List.append_nil]
                            rw [hes] at k1 k2
                            have hbl : b < h.length := (List.getElem?_eq_some_iff.1 hB).1
                            obtain ⟨s1, s2, s3⟩ := k1.rename (b := b) (B := { B with es := B.es ++ ys }) (by rw [List.getElem?_set_self hbl]) g1
                            rw [List.set_set] at s1 s2
                            rw [List.length_set] at s3
                            have hBe : ({ B with es := B.es ++ ys } : Blk) = ⟨i.size, el, B.es ++ ys, false⟩ := by
                              cases B; simp at hk htt hf; subst hk htt hf; rfl
                            rw [hBe] at k2 s1 s2
                            refine fin hrr s1 ?_ (k2.trans s2)
                            have := VR.rf (w := w.setCells r.c (B.es.length * B.k) (flat' us)) (Z := Z) (b := h.length) (lo := 0) (n := B.es.length + ys.length) (m := B.es.length + ys.length) (c := c) s3 (Nat.le_refl _) hroom q2 q3
                            exact this
                        · cases e
                · cases e
              · cases e
            · cases e
      · cases e

theorem evCopy_sound (hρ : ∀ o x, ρ o = some x → VR w Z R x (ve o)) (hh : HR w Z R h) {args : Array Operand} {tys : Array TypeId} {t t2 : TypeId} {y z : AV} (ho : o.op = .call ⟨.builtin .copy, args, tys⟩) (ha : opds ρ args.toList = some [y, z]) (htys : tys.toList = [t, t2]) (hso : srcOk P t2 z = true) (e : evCopy P h t y z = some (x, h')) : Ld P w Z R h x h' ve o := by
  have hvs := opds_vr hρ ha
  obtain ⟨vy, us', hus, hvy, hn⟩ := hvs.head
  obtain ⟨vz, us'', rfl, hvz, hn'⟩ := hn.head
  have : us'' = [] := by have := hn'.len; simpa using this
  subst this
  have ht' : tys = #[t, t2] := by apply Array.ext'; simpa using htys
  subst ht'
  have hrun := fun w => run_callB (P := P) (ve := ve) ho hus w
  have fin : ∀ {u : Value} {w' : World} {R' : List RI}, (Builtin.copy_ #[t, t2] o.type #[vy, vz]).run P w = .ok u w' → HR w' Z R' h' → VR w' Z R' x u → Step w Z R h w' Z R' h' → Ld P w Z R h x h' ve o := fun {u w' R'} h1 h2 h3 h4 => ⟨u, w', R', by rw [hrun]; simp only [builtin]; rw [Sem.run_bind, h1]; rfl, h2, h3, h4⟩
  unfold evCopy at e
  split at e
  · cases e
  · next el hel =>
    have hund := tyElem_und hel
    split at e
    · cases e
    · next k hk =>
      split at e
      · cases e
      · next ys hys =>
        obtain ⟨us, hus1, hus2, hsrc, hfirst⟩ := elems_src hh hvz hso hys
        have hulen : us.length = ys.length := hus1.len
        split at e
        · next b lo n m =>
          split at e
          · next B hB =>
            split at e
            · cases e
            · next hcB =>
              have hf : B.fz = false := by
                cases hfz : B.fz with
                | false => rfl
                | true => exact absurd (.inl hfz) hcB
              have hkB : B.k = k := by
                rcases Nat.decEq B.k k with h | h
                · exact absurd (.inr (.inl h)) hcB
                · exact h
              have hle : lo + n ≤ B.es.length := by
                rcases Nat.decLe (lo + n) B.es.length with h | h
                · exact absurd (.inr (.inr h)) hcB
                · exact h
              injection e with e; injection e with e1 e2; subst e1 e2
              obtain ⟨r, arr, ub, g1, g2, g3, g4, g5, g6, g7, g8, g9, g10⟩ := hh.blk b B hB
              cases hvy with
              | rf hr q0 q1 q2 q3 =>
                rename_i c r'
                rw [g1] at hr
                injection hr with hr
                subst hr
                have hlt : (ys.take (min ys.length n)).length = min ys.length n := by rw [List.length_take]; omega
                obtain ⟨k1, k2, k3, k4, k5⟩ := hh.write (lo := lo) (ys := ys.take (min ys.length n)) (vs := us.take (min ys.length n)) hB hf g1 (by omega) (by omega) (hus1.take _) (fun u hu => by rw [hkB]; exact hus2 u (List.mem_of_mem_take hu))
                rw [hlt] at k1 k2
                have hst := run_storeCells_cells (P := P) r.c (lo * r.k) (flat' (us.take (min ys.length n))) 0 w (fun j hj => by rw [g2]; simpa using k3 j hj) (fun j hj => by rw [g2]; simpa using k4 j hj) k5
                simp only [Nat.add_zero] at hst
                have hst' : (storeCells ⟨r.c, lo * r.k, none⟩ (flat' (us.take (min ys.length n)))).run P w = .ok () (w.setCells r.c (lo * B.k) (flat' (us.take (min ys.length n)))) := by rw [hst, g2]
                refine fin (u := .int .i64 (min ys.length n : Nat)) (w' := w.setCells r.c (lo * B.k) (flat' (us.take (min ys.length n)))) ?_ k1 (.v rfl) k2
                have hmin : Nat.min ys.length n = min ys.length n := rfl
                simp only [Builtin.copy_]
                simp [run_underlying hund, hsrc.len, run_size' hk, hmin, hfirst _ (Nat.min_le_left ys.length n), hst', goInt]
          · cases e
        · injection e with e; injection e with e1 e2; subst e1 e2
          cases hvy with
          | e0 =>
            rename_i A
            refine fin (u := .int .i64 0) (w' := w) ?_ hh (.v rfl) (Step.refl _ _ _ _)
            have hmin : Nat.min ys.length 0 = 0 := by simp
            have h0 := hfirst 0 (Nat.zero_le _)
            simp [flat'] at h0
            cases A <;> simp [Builtin.copy_, run_underlying hund, hsrc.len, run_size' hk, h0, goInt, storeCells]
        · injection e with e; injection e with e1 e2; subst e1 e2
          cases hvy with
          | sl hn hl hc hm ha hx =>
            rename_i A us0
            simp at hn
            subst hn
            refine fin (u := .int .i64 0) (w' := w) ?_ hh (.v rfl) (Step.refl _ _ _ _)
            have h0 := hfirst 0 (Nat.zero_le _)
            simp [flat'] at h0
            cases A <;> simp [Builtin.copy_, run_underlying hund, hsrc.len, run_size' hk, h0, goInt, storeCells]
        · cases e
end
end Go.Proofs.YthofgamegondnaaDoor
