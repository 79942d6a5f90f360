/- Lemmas for the proof. -/
import Derived.Test.YthofgamegondnaaDoorEveningRingsM1
import Derived.StillTail
import Derived.RangeFuncRecord
import Derived.RangeFuncCalls
import Derived.LoopNIn
namespace Go.Proofs.YthofgamegondnaaDoor
open Go.RowKit

section
variable {P : Program} {w : World} {Z : Nat → Prop} {R : List RI} {h h' : Hp} {ρ : Operand → Option AV} {ve : Operand → Value} {o : Oper} {x : AV}

theorem splice_get {α : Type} (l m : List α) (a : Nat) (h : a + m.length ≤ l.length) (q : Nat) : (l.take a ++ m ++ l.drop (a + m.length))[q]? = if q < a then l[q]? else if q < a + m.length then m[q - a]? else l[q]? := by
  split
  · next h1 => rw [List.append_assoc, List.getElem?_append_left (by simp; omega), List.getElem?_take_of_lt h1]
  · next h1 =>
    have hl : (l.take a).length = a := by simp; omega
    split
    · next h2 => rw [List.append_assoc, List.getElem?_append_right (by omega), hl, List.getElem?_append_left (by omega)]
    · next h2 =>
      rw [List.getElem?_append_right (by simp; omega), List.getElem?_drop]
      congr 1
      simp; omega

theorem evStore_sound (hρ : ∀ o x, ρ o = some x → VR w Z R x (ve o)) (hh : HR w Z R h) {t : TypeId} {p q : Operand} {y z : AV} (ho : o.op = .store t p q) (hp : ρ p = some y) (hq : ρ q = some z) (e : evStore P h t y z = some h') :
    ∃ w', (execOp ve o).run P w = .ok .skip w' ∧ HR w' Z R h' ∧ Step w Z R h w' Z R h' := by
  have hv := hρ _ _ hp
  have hz := hρ _ _ hq
  unfold evStore at e
  split at e
  · next b i off =>
    split at e
    · next B hB =>
      split at e
      · cases e
      · next hf =>
        have hf : B.fz = false := by simpa using hf
        split at e
        · next el hel =>
          split at e
          · next hc =>
            obtain ⟨c1, c2⟩ := hc
            obtain ⟨el', he', rfl⟩ := Option.map_eq_some_iff.1 e
            obtain ⟨r, arr, us, g1, g2, g3, g4, g5, g6, g7, g8, g9, g10⟩ := hh.blk b B hB
            generalize hva : ve p = va at hv
            generalize hvz : ve q = vz at hz
            cases hv with
            | pt hr =>
              rename_i r'
              rw [g1] at hr
              injection hr with hr
              subst hr
              obtain ⟨u, hu1, hu2⟩ := g9.get hel
              obtain ⟨q1, q2, q3⟩ := g10 _ _ hu1
              unfold setE at he'
              split at he'
              · next hle =>
                injection he' with he'
                subst he'
                have hzs : vz.cells.size = z.cel.length := by rw [hz.cells.1, nc_cel]
                have hz1 := hz.cells_one c2
                have hspl := hu2.cells.2.splice hz off
                have hls : u.cells.toList.length = el.cel.length := hu2.cells.2.len
                obtain ⟨u', k1, k2, k3⟩ := hspl.elm (List.all_eq_true.2 fun q hq => by
                  simp only [List.mem_append] at hq
                  rcases hq with (hq | hq) | hq
                  · exact q2 q (by have := List.mem_of_mem_take hq; simpa using this)
                  · exact hz1 q (by simpa using hq)
                  · exact q2 q (by have := List.mem_of_mem_drop hq; simpa using this))
                have hil : i < us.length := (List.getElem?_eq_some_iff.1 hu1).1
                have hic : i < r.cap := by have := g9.len; omega
                have hkz : el.cel.length = B.k := by rw [← hls, Array.length_toList, q1]
                have hbnd : i * r.k + off + vz.cells.toList.length ≤ arr.size := by
                  rw [Array.length_toList, hzs, g2, g4]
                  have := Nat.mul_le_mul_right B.k (show i + 1 ≤ r.cap by omega)
                  rw [Nat.add_mul] at this
                  omega
                obtain ⟨m1, m2, m3⟩ := heap_setCells r.c vz.cells.toList (i * r.k + off) w arr B.t g3 hbnd
                have hbnd' : i * r.k + off + vz.cells.toList.length ≤ arr.toList.length := by rw [Array.length_toList (xs := arr)]; exact hbnd
                have hsp := splice_get arr.toList vz.cells.toList (i * r.k + off) hbnd'
                have hput := hh.put (w' := w.setCells r.c (i * r.k + off) vz.cells.toList) (es := B.es.set i (elm (el.cel.take off ++ z.cel ++ el.cel.drop (off + z.cel.length)))) (us := us.set i u') hB hf g1 m2 m1 (by rw [← g4, List.size_toArray, splice_len _ _ _ hbnd', Array.length_toList]) (by simpa using g5) (g9.set i k1) (fun j v hj => by
                  rw [List.getElem?_set] at hj
                  have hzl : vz.cells.toList.length = z.cel.length := by rw [Array.length_toList, hzs]
                  split at hj
                  · next hij =>
                    subst hij
                    try rw [if_pos hil] at hj
                    injection hj with hj
                    subst hj
                    have hsz : u'.cells.size = B.k := by
                      rw [k2, List.size_toArray, ← hzl, splice_len _ _ _ (by rw [hls]; omega), hls, hkz]
                    refine ⟨hsz, fun q hq => ?_, fun a q hq => ?_⟩
                    · rw [k2] at hq
                      simp only [List.mem_toArray, List.mem_append] at hq
                      rcases hq with (hq | hq) | hq
                      · exact q2 q (by have := List.mem_of_mem_take hq; simpa using this)
                      · exact hz1 q (by simpa using hq)
                      · exact q2 q (by have := List.mem_of_mem_drop hq; simpa using this)
                    · have ha : a < B.k := by rw [← hsz]; exact (Array.getElem?_eq_some_iff.1 hq).1
                      rw [k2, List.getElem?_toArray, ← hzl, splice_get _ _ _ (by rw [hls]; omega)] at hq
                      rw [List.getElem?_toArray, ← g2, hsp]
                      have hold := fun q hq => q3 a q hq
                      rw [← g2] at hold
                      by_cases h1 : a < off
                      · rw [if_pos h1] at hq
                        rw [if_pos (by omega)]
                        have := hold q (by simpa using hq)
                        simpa using this
                      · rw [if_neg h1] at hq
                        rw [if_neg (by omega)]
                        by_cases h2 : a < off + vz.cells.toList.length
                        · rw [if_pos h2] at hq
                          rw [if_pos (by omega), show i * r.k + a - (i * r.k + off) = a - off by omega]
                          exact hq
                        · rw [if_neg h2] at hq
                          rw [if_neg (by omega)]
                          have := hold q (by simpa using hq)
                          simpa using this
                  · next hij =>
                    refine ⟨(g10 j v hj).1, (g10 j v hj).2.1, fun a q hq => ?_⟩
                    have ha : a < B.k := by rw [← (g10 j v hj).1]; exact (Array.getElem?_eq_some_iff.1 hq).1
                    rw [List.getElem?_toArray, ← g2, hsp]
                    have hold := (g10 j v hj).2.2 a q hq
                    rw [← g2] at hold ha
                    have hkz' : el.cel.length = r.k := by omega
                    by_cases hlt : j < i
                    · have := Nat.mul_le_mul_right r.k (show j + 1 ≤ i by omega)
                      rw [Nat.add_mul] at this
                      rw [if_pos (by omega)]
                      simpa using hold
                    · have := Nat.mul_le_mul_right r.k (show i + 1 ≤ j by omega)
                      rw [Nat.add_mul] at this
                      rw [if_neg (by omega), if_neg (by omega)]
                      simpa using hold)
                refine ⟨_, ?_, hput.1, hput.2⟩
                have hst := run_storeCells_cells (P := P) r.c (i * r.k + off) vz.cells.toList 0 w (fun j hj => by
                    have : i * r.k + off + j < arr.size := by omega
                    simp [World.cell?, g3, this]) (fun j hj => by simp [World.frozen?, g3]) (fun v hv => hz1 v (by simpa using hv))
                simp only [Nat.add_zero] at hst
                have hszt := run_size' c1 w
                have hzn : vz.cells.size = z.nc := hz.cells.1
                simp only [execOp, ho, hva, hvz, Instr.storeAt, Instr.sureAddr]
                simp [storeVar, hszt, hzn, hst]
              · cases he'
          · cases e
        · cases e
    · cases e
  · cases e

/-- What is appended or copied. -/
theorem elems_src {k : Nat} {y : AV} {v : Value} {ys : List AV} {t2 : TypeId} (hh : HR w Z R h) (hv : VR w Z R y v) (hs : srcOk P t2 y = true) (e : elems h k y = some ys) :
    ∃ us, VRs w Z R ys us ∧ (∀ u ∈ us, u.cells.size = k ∧ ∀ q ∈ u.cells, q.oneCell' = true) ∧ Src P k t2 v ys.length (flat' us) w ∧ ∀ n, n ≤ ys.length → (Builtin.firstCells k n v).run P w = .ok (flat' (us.take n)).toArray w := by
  have pre : ∀ (us : List Value) (a : Addr) (N c n : Nat), (∀ u ∈ us, u.cells.size = k) → n ≤ us.length → (∀ j q, (flat' us)[j]? = some q → w.cell? (a.add j) = some q) → (Builtin.firstCells k n (.slice (some a) N c)).run P w = .ok (flat' (us.take n)).toArray w := fun us a N c n hu hn hcl => by
    have h1 := run_loadCells_list (P := P) w a (flat' (us.take n)) (fun j q hq => hcl j q (by
      rw [flat_take hu] at hq
      have hlt : j < n * k := by have := (List.getElem?_eq_some_iff.1 hq).1; rw [List.length_take] at this; omega
      rwa [List.getElem?_take_of_lt hlt] at hq))
    rw [flat_len (k := k) (fun u hu' => hu u (List.mem_of_mem_take hu')), List.length_take, Nat.min_eq_left hn] at h1
    simpa [Builtin.firstCells] using h1
  have hkind : ∀ {y' : AV}, srcOk P t2 y' = true → (∀ bs, y' ≠ .st bs) → ∃ e', P.underlying t2 = some (.slice e') := fun {y'} hs hn => by
    unfold srcOk at hs
    split at hs
    · exact absurd rfl (hn _)
    · cases hs
    · next e' h1 _ => exact ⟨_, h1⟩
    · cases hs
  have len' : ∀ (A : Option Addr) (n c : Nat) (w' : World), (Builtin.lenOf (.slice A n c)).run P w' = .ok n w' := fun _ _ _ _ => rfl
  have nilC : ∀ (A : Option Addr) (c : Nat) (w' : World), (Builtin.firstCells k 0 (.slice A 0 c)).run P w' = .ok #[] w' := fun A c w' => by
    cases A with
    | none => rfl
    | some a =>
      have := run_loadCells_list (P := P) w' a [] (by simp)
      simpa [Builtin.firstCells] using this
  unfold elems at e
  split at e
  · injection e with e; subst e
    cases hv with
    | e0 =>
      obtain ⟨e', hk⟩ := hkind hs (by simp)
      exact ⟨[], .nil, by simp, ⟨.inl ⟨e', hk⟩, fun w' => rfl, nilC _ _ w, nilC _ _ _, by simp [flat'], by simp [flat']⟩, fun n hn => by simp at hn; subst hn; exact nilC _ _ w⟩
  · next k' xs =>
    split at e
    · next hk' =>
      injection e with e; subst e
      obtain ⟨e', hk⟩ := hkind hs (by simp)
      cases hv with
      | sl hn hl hc hm ha hx =>
        rename_i c n A us
        subst hn
        rcases Nat.eq_zero_or_pos xs.length with h0 | h0
        · have hx0 : xs = [] := List.eq_nil_of_length_eq_zero h0
          subst hx0
          exact ⟨[], .nil, by simp, ⟨.inl ⟨e', hk⟩, fun w' => rfl, nilC _ _ w, nilC _ _ _, by simp [flat'], by simp [flat']⟩, fun n hn => by simp at hn; subst hn; exact nilC _ _ w⟩
        · have hkk : k' = k := by
            simp at hk'
            rcases hk' with h | h
            · subst h; simp at h0
            · exact h
          subst hkk
          obtain ⟨a, rfl, hsp, hz, hcell⟩ := ha h0
          have hu : ∀ u ∈ us, u.cells.size = k' ∧ ∀ q ∈ u.cells, q.oneCell' = true := fun u hu => by
            obtain ⟨i, hi⟩ := List.mem_iff_getElem?.1 hu
            exact ⟨(hcell i u hi).1, (hcell i u hi).2.1⟩
          have hfl := flat_len (k := k') (us := us) fun u hu' => (hu u hu').1
          have hcl : ∀ j q, (flat' us)[j]? = some q → w.cell? (a.add j) = some q := fun j q hq => by
            have hk0 : 0 < k' := by
              rcases Nat.eq_zero_or_pos k' with h | h
              · subst h
                have : (flat' us).length = 0 := by rw [hfl]; simp
                rw [List.getElem?_eq_none (by omega)] at hq; cases hq
              · exact h
            have hjl : j < us.length * k' := by rw [← hfl]; exact (List.getElem?_eq_some_iff.1 hq).1
            have hdl : j / k' < us.length := Nat.div_lt_of_lt_mul (by rw [Nat.mul_comm]; exact hjl)
            have hd := Nat.div_add_mod j k'
            rw [Nat.mul_comm] at hd
            have hui := List.getElem?_eq_getElem hdl
            obtain ⟨m1, m2, m3⟩ := hcell _ _ hui
            have hml : j % k' < (us[j / k']).cells.size := by rw [m1]; exact Nat.mod_lt _ hk0
            have hfg := flat_get (fun u hu' => (hu u hu').1) (j / k') _ hui (j % k') _ (Array.getElem?_eq_getElem hml)
            rw [hd, hq] at hfg
            injection hfg with hfg
            subst hfg
            have := m3 _ _ (Array.getElem?_eq_getElem hml)
            rw [hd] at this
            obtain ⟨ab, ao, asp⟩ := a
            simp only at hsp
            subst hsp
            rw [addr_add]
            exact this
          refine ⟨us, ⟨hl, fun i x u hx' hu' => (hx i x u hx' hu').up⟩, hu, Src.ofSlice w hk a xs.length c (flat' us) (by rw [hfl, hl]) hcl (fun v hv => ?_), fun n hn => pre us a _ _ n (fun u hu' => (hu u hu').1) (by omega) hcl⟩
          · obtain ⟨u, hu', hv'⟩ := List.mem_flatten.1 hv
            obtain ⟨u', hu'', rfl⟩ := List.mem_map.1 hu'
            exact (hu u' hu'').2 v (by simpa using hv')
    · cases e
  · next b lo n m =>
    split at e
    · next B hB =>
      split at e
      · next hc =>
        obtain ⟨rfl, hle⟩ := hc
        injection e with e; subst e
        obtain ⟨e', hk⟩ := hkind hs (by simp)
        obtain ⟨r, arr, us, g1, g2, g3, g4, g5, g6, g7, g8, g9, g10⟩ := hh.blk b B hB
        cases hv with
        | rf hr q0 q1 q2 q3 =>
          rename_i c r'
          rw [g1] at hr
          injection hr with hr
          subst hr
          have hvs := (g9.drop lo).take n
          have hu : ∀ u ∈ (us.drop lo).take n, u.cells.size = B.k ∧ ∀ q ∈ u.cells, q.oneCell' = true := fun u hu => by
            obtain ⟨i, hi⟩ := List.mem_iff_getElem?.1 (List.mem_of_mem_drop (List.mem_of_mem_take hu))
            exact ⟨(g10 i u hi).1, (g10 i u hi).2.1⟩
          have hall : ∀ u ∈ us, u.cells.size = B.k := fun u hu => by
            obtain ⟨i, hi⟩ := List.mem_iff_getElem?.1 hu
            exact (g10 i u hi).1
          have hfl := flat_len (k := B.k) (us := (us.drop lo).take n) fun u hu' => (hu u hu').1
          have hlen : ((B.es.drop lo).take n).length = n := by simp; omega
          have hcl : ∀ j q, (flat' ((us.drop lo).take n))[j]? = some q → w.cell? ((⟨r.c, lo * r.k, none⟩ : Addr).add j) = some q := fun j q hq => by
            have hk0 : 0 < B.k := by
              rcases Nat.eq_zero_or_pos B.k with h | h
              · have : (flat' ((us.drop lo).take n)).length = 0 := by rw [hfl, h]; simp
                rw [List.getElem?_eq_none (by omega)] at hq; cases hq
              · exact h
            have hvl : ((us.drop lo).take n).length = n := by rw [hvs.len, hlen]
            have hjl : j < n * B.k := by rw [← hvl, ← hfl]; exact (List.getElem?_eq_some_iff.1 hq).1
            have hdl : j / B.k < ((us.drop lo).take n).length := by rw [hvl]; exact Nat.div_lt_of_lt_mul (by rw [Nat.mul_comm]; exact hjl)
            have hd := Nat.div_add_mod j B.k
            rw [Nat.mul_comm] at hd
            have hui := List.getElem?_eq_getElem hdl
            have hui' : us[lo + j / B.k]? = some ((us.drop lo).take n)[j / B.k] := by
              rw [List.getElem?_take_of_lt (by omega), List.getElem?_drop] at hui
              exact hui
            obtain ⟨m1, m2, m3⟩ := g10 _ _ hui'
            have hml : j % B.k < (((us.drop lo).take n)[j / B.k]).cells.size := by rw [m1]; exact Nat.mod_lt _ hk0
            have hfg := flat_get (fun u hu' => (hu u hu').1) (j / B.k) _ hui (j % B.k) _ (Array.getElem?_eq_getElem hml)
            rw [hd, hq] at hfg
            injection hfg with hfg
            subst hfg
            have h3 := m3 _ _ (Array.getElem?_eq_getElem hml)
            rw [Nat.add_mul, Nat.add_assoc, hd] at h3
            rw [addr_add, g2]
            simp [World.cell?, g3, h3]
          refine ⟨(us.drop lo).take n, hvs, hu, ?_, fun j hj => pre _ _ _ _ j (fun u hu' => (hu u hu').1) (by rw [hvs.len]; omega) hcl⟩
          rw [hlen]
          refine Src.ofSlice w hk ⟨r.c, lo * r.k, none⟩ n c _ (by rw [hfl, hvs.len, hlen]) hcl (fun v hv => ?_)
          · obtain ⟨u, hu', hv'⟩ := List.mem_flatten.1 hv
            obtain ⟨u', hu'', rfl⟩ := List.mem_map.1 hu'
            exact (hu u' hu'').2 v (by simpa using hv')
      · cases e
    · cases e
  · next bs =>
    split at e
    · next hk1 =>
      subst hk1
      injection e with e; subst e
      obtain ⟨s, rfl, h1, h2⟩ := hv.st_inv
      have hk : P.underlying t2 = some .string := by
        unfold srcOk at hs
        split at hs
        · next h1 _ => exact h1
        · cases hs
        · rename_i hne; exact (hne _ rfl).elim
        · cases hs
      subst h1
      have hfl : flat' (s.data.toList.map fun b => Value.int .u8 b.toNat) = byteCells s := by
        unfold byteCells flat'
        induction s.data.toList with
        | nil => rfl
        | cons b l ih => simp only [List.map_cons, List.flatten_cons, ih]; rfl
      refine ⟨s.data.toList.map fun b => Value.int .u8 b.toNat, ⟨by simp, fun i y u hy hu => ?_⟩, fun u hu => ?_, ?_, fun n hn => ?_⟩
      · rw [List.getElem?_map] at hy hu
        cases hb : s.data.toList[i]? with
        | none => rw [hb] at hy; cases hy
        | some b => rw [hb] at hy hu; injection hy with hy; injection hu with hu; subst hy hu; exact .v rfl
      · obtain ⟨b, _, rfl⟩ := List.mem_map.1 hu
        exact ⟨rfl, fun q hq => by simp [Value.cells] at hq; subst hq; rfl⟩
      · rw [hfl, List.length_map, VR.int_bound (s := s) rfl |>.symm]
        exact Src.ofString w hk s
      · have e1 : flat' ((s.data.toList.map fun b => Value.int .u8 b.toNat).take n) = ((s.data.toList.take n).map fun b => Value.int .u8 b.toNat) := by
          rw [← List.map_take]
          unfold flat'
          induction s.data.toList.take n with
          | nil => rfl
          | cons b l ih => simp only [List.map_cons, List.flatten_cons, ih]; rfl
        rw [e1]
        show Result.ok _ _ = _
        congr 1
        apply Array.ext'
        have e2 := bytes_extract s 0 n
        simp only [List.drop_zero] at e2
        rw [Array.toList_map, e2]
    · cases e
  · cases e

/-- Nothing is appended. -/
theorem run_append_zero {t t2 el : TypeId} {A : Option Addr} {n c k : Nat} {v : Value} {i : TypeInfo} (ht : P.underlying t = some (.slice el)) (hi : P.info? el = some i) (hnc : n ≤ c) (hs : Src P i.size t2 v 0 [] w) :
    (Builtin.append_ #[t, t2] k #[.slice A n c, v]).run P w = .ok (.slice A n c) w := by
  rcases hs.kind with ⟨e', hk⟩ | hk <;> cases A <;> simp [Builtin.append_, run_underlying ht, run_underlying hk, sizeOf, typeInfo, hi, hs.len, hnc, hs.cells, storeCells]

theorem evAppend_sound (hρ : ∀ o x, ρ o = some x → VR w Z R x (ve o)) (hh : HR w Z R h) {args : Array Operand} {tys : Array TypeId} {t t2 : TypeId} {y z : AV} (ho : o.op = .call ⟨.builtin .append, args, tys⟩) (ha : opds ρ args.toList = some [y, z]) (htys : tys.toList = [t, t2]) (e : evAppend P h t t2 y z = some (x, h')) : Ld P w Z R h x h' ve o := by
  have hvs := opds_vr hρ ha
  obtain ⟨vy, us', hus, hvy, hn⟩ := hvs.head
  obtain ⟨vz, us'', rfl, hvz, hn'⟩ := hn.head
  have : us'' = [] := by have := hn'.len; simpa using this
  subst this
  have ht' : tys = #[t, t2] := by apply Array.ext'; simpa using htys
  subst ht'
  have hrun := fun w => run_callB (P := P) (ve := ve) ho hus w
  have fin : ∀ {u : Value} {w' : World} {R' : List RI}, (Builtin.append_ #[t, t2] o.type #[vy, vz]).run P w = .ok u w' → HR w' Z R' h' → VR w' Z R' x u → Step w Z R h w' Z R' h' → Ld P w Z R h x h' ve o := fun {u w' R'} h1 h2 h3 h4 => ⟨u, w', R', by rw [hrun]; simp only [builtin]; rw [Sem.run_bind, h1]; rfl, h2, h3, h4⟩
  unfold evAppend at e
  split at e
  · cases e
  · next hso =>
    have hso : srcOk P t2 z = true := by simpa using hso
    split at e
    · cases e
    · next el hel =>
      have hund := tyElem_und hel
      split at e
      · next i zz hi hzz =>
        split at e
        · cases e
        · next ys hys =>
          obtain ⟨us, hus1, hus2, hsrc, _⟩ := elems_src hh hvz hso hys
          split at e
          · next hemp =>
            have hy0 : ys = [] := by simpa using hemp
            subst hy0
            have hu0 : us = [] := by have := hus1.len; simpa using this
            subst hu0
            have hsrc0 : Src P i.size t2 vz 0 [] w := by simpa [flat'] using hsrc
            split at e
            · injection e with e; injection e with e1 e2; subst e1 e2
              cases hvy with
              | e0 => exact fin (run_append_zero hund hi (Nat.le_refl _) hsrc0) hh .e0 (Step.refl _ _ _ _)
            · injection e with e; injection e with e1 e2; subst e1 e2
              have hvy0 := hvy
              cases hvy with
              | sl hn hl hc hm ha hx => exact fin (run_append_zero hund hi hc hsrc0) hh hvy0 (Step.refl _ _ _ _)
            · injection e with e; injection e with e1 e2; subst e1 e2
              have hvy0 := hvy
              cases hvy with
              | rf hr q0 q1 q2 q3 => exact fin (run_append_zero hund hi (by omega) hsrc0) hh hvy0 (Step.refl _ _ _ _)
            · cases e
          · next hemp =>
            have hyl : 0 < ys.length := by
              cases ys with
              | nil => simp at hemp
              | cons a l => simp
            split at e
            · next hc =>
              obtain ⟨c1, c2, c3⟩ := hc
              obtain ⟨uz, huz, hnt, _, i', hi', hz'⟩ := run_zero' (w := w) (Z := Z) (R := R) hzz
              rw [hi] at hi'
              injection hi' with hi'
              subst hi'
              have husz : uz.cells.size = i.size := by rw [huz.cells.1, c2]
              have hzc : ∀ n, (Builtin.zeroCells uz.cells n).size = n * i.size := fun n => by simp [Builtin.zeroCells, husz]
              have hulen : us.length = ys.length := hus1.len
              split at e
              · -- onto an empty slice without room
                split at e
                · next hb =>
                  injection e with e; injection e with e1 e2; subst e1 e2
                  cases hvy with
                  | e0 =>
                    rename_i A
                    have hfc : (Builtin.firstCells i.size 0 (.slice A 0 0)).run P w.drew = .ok ([] : List Value).toArray w.drew := by
                      cases A with
                      | none => rfl
                      | some a =>
                        have := run_loadCells_list (P := P) w.drew a [] (by simp)
                        simpa [Builtin.firstCells] using this
                    have hr := run_append_grow_src (P := P) w t t2 o.type el i uz hund hi hz' A 0 0 [] hfc vz ys.length (flat' us) hsrc (by omega) (by omega) (growslice_fits (by omega) (by rw [Nat.zero_add]; exact hb.1))
                    simp only [Nat.zero_add, List.nil_append] at hr
                    have hge := grownCap_ge w ys.length 0 el
                    have hcm : grownCap w ys.length 0 el ≤ maxLen := grownCap_le_maxLen w ys.length 0 el (by unfold maxLen; omega)
                    have hfl := flat_len (k := i.size) (us := us) fun u hu => (hus2 u hu).1
                    have hgd : w.grownBy (w.drew.alloc (.cells ((flat' us).toArray ++ Builtin.zeroCells uz.cells (grownCap w ys.length 0 el - ys.length)) el)) none := ⟨rfl, rfl, rfl, by simp, fun k hk _ => heap_alloc_old w.drew _ hk⟩
                    obtain ⟨r1, r2, r3⟩ := hh.new (c := w.heap.size) (cap := grownCap w ys.length 0 el) (k := i.size) (t := el) (es := ys) (us := us) (arr := (flat' us).toArray ++ Builtin.zeroCells uz.cells (grownCap w ys.length 0 el - ys.length)) hgd (Nat.le_refl _) (heap_alloc_new w.drew _) hus1 (by rw [Array.size_append, hzc, List.size_toArray, hfl, hulen, ← Nat.add_mul]; congr 1; omega) hge hcm (fun j u hu => ⟨(hus2 u (List.mem_of_getElem? hu)).1, (hus2 u (List.mem_of_getElem? hu)).2, fun a q hq => by
                      have := flat_get (fun u hu => (hus2 u hu).1) j u hu a q hq
                      have hlt : j * i.size + a < (flat' us).length := (List.getElem?_eq_some_iff.1 this).1
                      rw [Array.getElem?_append_left (by simpa using hlt), List.getElem?_toArray]
                      exact this⟩)
                    refine fin hr r1 ?_ r2
                    have := VR.rf (w := w.drew.alloc (.cells ((flat' us).toArray ++ Builtin.zeroCells uz.cells (grownCap w ys.length 0 el - ys.length)) el)) (Z := Z) (b := h.length) (lo := 0) (n := ys.length) (m := ys.length) (c := grownCap w ys.length 0 el) r3 (Nat.le_refl _) hge (by simp) hcm
                    simpa using this
                · cases e
              · next b lo n m =>
                split at e
                · next B hB =>
                  split at e
                  · cases e
                  · next hcB =>
                    have hf : B.fz = false := by
                      cases hfz : B.fz with
                      | false => rfl
                      | true => exact absurd (.inl hfz) hcB
                    have hk : B.k = i.size := by
                      rcases Nat.decEq B.k i.size with h | h
                      · exact absurd (.inr (.inl h)) hcB
                      · exact h
                    have htt : B.t = el := by
                      rcases Nat.decEq B.t el with h | h
                      · exact absurd (.inr (.inr h)) hcB
                      · exact h
                    obtain ⟨r, arr, ub, g1, g2, g3, g4, g5, g6, g7, g8, g9, g10⟩ := hh.blk b B hB
                    have hown : own R h r.c := ⟨b, B, r, hB, hf, g1, rfl⟩
                    cases hvy with
                    | rf hr q0 q1 q2 q3 =>
                      rename_i c r'
                      rw [g1] at hr
                      injection hr with hr
                      subst hr
                      have hsi : r.k = i.size := by rw [g2, hk]
                      split at e
                      · -- in place, over known elements
                        next hfit =>
                        injection e with e; injection e with e1 e2; subst e1 e2
                        obtain ⟨k1, k2, k3, k4, k5⟩ := hh.write (lo := lo + n) (ys := ys) (vs := us) hB hf g1 (by omega) (by omega) hus1 (fun u hu => by rw [hk]; exact hus2 u hu)
                        have hidx : lo * r.k + n * i.size = (lo + n) * B.k := by rw [hsi, hk, Nat.add_mul]
                        have hrr := run_append_room_src (P := P) w t t2 o.type el i hund hi r.c (lo * r.k) n c vz ys.length (flat' us) hsrc (by omega) (fun j hj => by rw [hidx]; exact k3 j hj) (fun j hj => by rw [hidx]; exact k4 j hj)
                        rw [hidx] at hrr
                        refine fin hrr k1 ?_ k2
                        exact .rf g1 (by omega) q1 q2 q3
                      · split at e
                        · -- behind the last element
                          next hend =>
                          obtain ⟨rfl, hne, hb1, hb2⟩ := hend
                          injection e with e; injection e with e1 e2; subst e1 e2
                          subst hne
                          rcases Nat.lt_or_ge c (B.es.length + ys.length) with hgrow | hroom
                          · -- a new row
                            have hall : ∀ u ∈ ub, u.cells.size = i.size := fun u hu => by
                              obtain ⟨j, hj⟩ := List.mem_iff_getElem?.1 hu
                              rw [← hk]; exact (g10 j u hj).1
                            have hflb := flat_len (k := i.size) (us := ub) hall
                            have hubl : ub.length = B.es.length := g9.len
                            have hcellb : ∀ (W : World), W.heap[r.c]? = some (.cells arr B.t (0, 0)) → (Builtin.firstCells i.size B.es.length (.slice (some ⟨r.c, 0 * r.k, none⟩) B.es.length c)).run P W = .ok (flat' ub).toArray W := fun W hW => by
                              have := run_loadCells_list (P := P) W ⟨r.c, 0 * r.k, none⟩ (flat' ub) (fun j q hq => by
                                have hjl : j < ub.length * i.size := by rw [← hflb]; exact (List.getElem?_eq_some_iff.1 hq).1
                                have hdl : j / i.size < ub.length := Nat.div_lt_of_lt_mul (by rw [Nat.mul_comm]; exact hjl)
                                have hd := Nat.div_add_mod j i.size
                                rw [Nat.mul_comm] at hd
                                have hui := List.getElem?_eq_getElem hdl
                                obtain ⟨m1, m2, m3⟩ := g10 _ _ hui
                                have hml : j % i.size < (ub[j / i.size]).cells.size := by rw [m1, hk]; exact Nat.mod_lt _ c1
                                have hfg := flat_get hall (j / i.size) _ hui (j % i.size) _ (Array.getElem?_eq_getElem hml)
                                rw [hd, hq] at hfg
                                injection hfg with hfg
                                subst hfg
                                have h3 := m3 _ _ (Array.getElem?_eq_getElem hml)
                                rw [hk, hd] at h3
                                rw [addr_add, Nat.zero_mul, Nat.zero_add]
                                simp [World.cell?, hW, h3])
                              rw [hflb, hubl] at this
                              simpa [Builtin.firstCells] using this
                            have hr := run_append_grow_src (P := P) w t t2 o.type el i uz hund hi hz' (some ⟨r.c, 0 * r.k, none⟩) B.es.length c (flat' ub) (hcellb w.drew g3) vz ys.length (flat' us) hsrc hgrow (by omega) (growslice_fits hgrow hb1)
                            have hge := grownCap_ge w (B.es.length + ys.length) c el
                            have hcm : grownCap w (B.es.length + ys.length) c el ≤ maxLen := grownCap_le_maxLen w _ c el (by unfold maxLen; omega)
                            generalize hG : grownCap w (B.es.length + ys.length) c el = G at *
                            obtain ⟨kk1, kk2⟩ := hh.kill b
                            have hall2 : ∀ u ∈ ub ++ us, u.cells.size = i.size := fun u hu => by
                              rcases List.mem_append.1 hu with h | h
                              · exact hall u h
                              · exact (hus2 u h).1
                            have hone2 : ∀ u ∈ ub ++ us, ∀ q ∈ u.cells, q.oneCell' = true := fun u hu => by
                              rcases List.mem_append.1 hu with h | h
                              · obtain ⟨j, hj⟩ := List.mem_iff_getElem?.1 h
                                exact (g10 j u hj).2.1
                              · exact (hus2 u h).2
                            have hfl2 := flat_len (k := i.size) hall2
                            rw [← flat_append] at hr
                            have hgd : w.grownBy (w.drew.alloc (.cells ((flat' (ub ++ us)).toArray ++ Builtin.zeroCells uz.cells (G - (B.es.length + ys.length))) el)) none := ⟨rfl, rfl, rfl, by simp, fun k hk _ => heap_alloc_old w.drew _ hk⟩
                            obtain ⟨r1, r2, r3⟩ := kk1.new (c := w.heap.size) (cap := G) (k := i.size) (t := el) (es := B.es ++ ys) (us := ub ++ us) (arr := (flat' (ub ++ us)).toArray ++ Builtin.zeroCells uz.cells (G - (B.es.length + ys.length))) hgd (Nat.le_refl _) (heap_alloc_new w.drew _) (g9.append hus1) (by rw [Array.size_append, hzc, List.size_toArray, hfl2, List.length_append, hulen, hubl, ← Nat.add_mul]; congr 1; omega) (by rw [List.length_append]; exact hge) hcm (fun j u hu => ⟨hall2 u (List.mem_of_getElem? hu), hone2 u (List.mem_of_getElem? hu), fun a q hq => by
                              have := flat_get hall2 j u hu a q hq
                              have hlt : j * i.size + a < (flat' (ub ++ us)).length := (List.getElem?_eq_some_iff.1 this).1
                              rw [Array.getElem?_append_left (by simpa using hlt), List.getElem?_toArray]
                              exact this⟩)
                            rw [List.length_set] at r3
                            refine fin hr r1 ?_ (kk2.trans r2)
                            have := VR.rf (w := w.drew.alloc (.cells ((flat' (ub ++ us)).toArray ++ Builtin.zeroCells uz.cells (G - (B.es.length + ys.length))) el)) (Z := Z) (b := h.length) (lo := 0) (n := B.es.length + ys.length) (m := B.es.length + ys.length) (c := G) r3 (Nat.le_refl _) hge (by simp) hcm
                            simpa using this
                          · -- in place
                            obtain ⟨k1, k2, k3, k4, k5⟩ := hh.write (lo := B.es.length) (ys := ys) (vs := us) hB hf g1 (by omega) (Nat.le_refl _) hus1 (fun u hu => by rw [hk]; exact hus2 u hu)
                            have hidx : 0 * r.k + B.es.length * i.size = B.es.length * B.k := by rw [hk, Nat.zero_mul, Nat.zero_add]
                            have hrr := run_append_room_src (P := P) w t t2 o.type el i hund hi r.c (0 * r.k) B.es.length c vz ys.length (flat' us) hsrc hroom (fun j hj => by rw [hidx]; exact k3 j hj) (fun j hj => by rw [hidx]; exact k4 j hj)
                            rw [hidx] at hrr
                            have hes : B.es.take B.es.length ++ ys ++ B.es.drop (B.es.length + ys.length) = B.es ++ ys := by
                              rw [List.take_of_length_le (Nat.le_refl _), List.drop_eq_nil_of_le (by omega), List.append_nil]
                            rw [hes] at k1 k2
                            have hbl : b < h.length := (List.getElem?_eq_some_iff.1 hB).1
                            obtain ⟨s1, s2, s3⟩ := k1.rename (b := b) (B := { B with es := B.es ++ ys }) (by rw [List.getElem?_set_self hbl]) g1
                            rw [List.set_set] at s1 s2
                            rw [List.length_set] at s3
                            have hBe : ({ B with es := B.es ++ ys } : Blk) = ⟨i.size, el, B.es ++ ys, false⟩ := by
                              cases B; simp at hk htt hf; subst hk htt hf; rfl
                            rw [hBe] at k2 s1 s2
                            refine fin hrr s1 ?_ (k2.trans s2)
                            have := VR.rf (w := w.setCells r.c (B.es.length * B.k) (flat' us)) (Z := Z) (b := h.length) (lo := 0) (n := B.es.length + ys.length) (m := B.es.length + ys.length) (c := c) s3 (Nat.le_refl _) hroom q2 q3
                            exact this
                        · cases e
                · cases e
              · cases e
            · cases e
      · cases e

theorem evCopy_sound (hρ : ∀ o x, ρ o = some x → VR w Z R x (ve o)) (hh : HR w Z R h) {args : Array Operand} {tys : Array TypeId} {t t2 : TypeId} {y z : AV} (ho : o.op = .call ⟨.builtin .copy, args, tys⟩) (ha : opds ρ args.toList = some [y, z]) (htys : tys.toList = [t, t2]) (hso : srcOk P t2 z = true) (e : evCopy P h t y z = some (x, h')) : Ld P w Z R h x h' ve o := by
  have hvs := opds_vr hρ ha
  obtain ⟨vy, us', hus, hvy, hn⟩ := hvs.head
  obtain ⟨vz, us'', rfl, hvz, hn'⟩ := hn.head
  have : us'' = [] := by have := hn'.len; simpa using this
  subst this
  have ht' : tys = #[t, t2] := by apply Array.ext'; simpa using htys
  subst ht'
  have hrun := fun w => run_callB (P := P) (ve := ve) ho hus w
  have fin : ∀ {u : Value} {w' : World} {R' : List RI}, (Builtin.copy_ #[t, t2] o.type #[vy, vz]).run P w = .ok u w' → HR w' Z R' h' → VR w' Z R' x u → Step w Z R h w' Z R' h' → Ld P w Z R h x h' ve o := fun {u w' R'} h1 h2 h3 h4 => ⟨u, w', R', by rw [hrun]; simp only [builtin]; rw [Sem.run_bind, h1]; rfl, h2, h3, h4⟩
  unfold evCopy at e
  split at e
  · cases e
  · next el hel =>
    have hund := tyElem_und hel
    split at e
    · cases e
    · next k hk =>
      split at e
      · cases e
      · next ys hys =>
        obtain ⟨us, hus1, hus2, hsrc, hfirst⟩ := elems_src hh hvz hso hys
        have hulen : us.length = ys.length := hus1.len
        split at e
        · next b lo n m =>
          split at e
          · next B hB =>
            split at e
            · cases e
            · next hcB =>
              have hf : B.fz = false := by
                cases hfz : B.fz with
                | false => rfl
                | true => exact absurd (.inl hfz) hcB
              have hkB : B.k = k := by
                rcases Nat.decEq B.k k with h | h
                · exact absurd (.inr (.inl h)) hcB
                · exact h
              have hle : lo + n ≤ B.es.length := by
                rcases Nat.decLe (lo + n) B.es.length with h | h
                · exact absurd (.inr (.inr h)) hcB
                · exact h
              injection e with e; injection e with e1 e2; subst e1 e2
              obtain ⟨r, arr, ub, g1, g2, g3, g4, g5, g6, g7, g8, g9, g10⟩ := hh.blk b B hB
              cases hvy with
              | rf hr q0 q1 q2 q3 =>
                rename_i c r'
                rw [g1] at hr
                injection hr with hr
                subst hr
                have hlt : (ys.take (min ys.length n)).length = min ys.length n := by rw [List.length_take]; omega
                obtain ⟨k1, k2, k3, k4, k5⟩ := hh.write (lo := lo) (ys := ys.take (min ys.length n)) (vs := us.take (min ys.length n)) hB hf g1 (by omega) (by omega) (hus1.take _) (fun u hu => by rw [hkB]; exact hus2 u (List.mem_of_mem_take hu))
                rw [hlt] at k1 k2
                have hst := run_storeCells_cells (P := P) r.c (lo * r.k) (flat' (us.take (min ys.length n))) 0 w (fun j hj => by rw [g2]; simpa using k3 j hj) (fun j hj => by rw [g2]; simpa using k4 j hj) k5
                simp only [Nat.add_zero] at hst
                have hst' : (storeCells ⟨r.c, lo * r.k, none⟩ (flat' (us.take (min ys.length n)))).run P w = .ok () (w.setCells r.c (lo * B.k) (flat' (us.take (min ys.length n)))) := by rw [hst, g2]
                refine fin (u := .int .i64 (min ys.length n : Nat)) (w' := w.setCells r.c (lo * B.k) (flat' (us.take (min ys.length n)))) ?_ k1 (.v rfl) k2
                have hmin : Nat.min ys.length n = min ys.length n := rfl
                simp only [Builtin.copy_]
                simp [run_underlying hund, hsrc.len, run_size' hk, hmin, hfirst _ (Nat.min_le_left ys.length n), hst', goInt]
          · cases e
        · injection e with e; injection e with e1 e2; subst e1 e2
          cases hvy with
          | e0 =>
            rename_i A
            refine fin (u := .int .i64 0) (w' := w) ?_ hh (.v rfl) (Step.refl _ _ _ _)
            have hmin : Nat.min ys.length 0 = 0 := by simp
            have h0 := hfirst 0 (Nat.zero_le _)
            simp [flat'] at h0
            cases A <;> simp [Builtin.copy_, run_underlying hund, hsrc.len, run_size' hk, h0, goInt, storeCells]
        · injection e with e; injection e with e1 e2; subst e1 e2
          cases hvy with
          | sl hn hl hc hm ha hx =>
            rename_i A us0
            simp at hn
            subst hn
            refine fin (u := .int .i64 0) (w' := w) ?_ hh (.v rfl) (Step.refl _ _ _ _)
            have h0 := hfirst 0 (Nat.zero_le _)
            simp [flat'] at h0
            cases A <;> simp [Builtin.copy_, run_underlying hund, hsrc.len, run_size' hk, h0, goInt, storeCells]
        · cases e
end
end Go.Proofs.YthofgamegondnaaDoor

namespace Go.Proofs.YthofgamegondnaaDoor
open Go.RowKit

section
variable {P : Program} {w w' : World} {Z : Nat → Prop} {R : List RI} {h h' : Hp} {ρ : Operand → Option AV} {ve : Operand → Value} {o : Oper} {x : AV}

/-- Blocks turn that are neither owned nor frozen. -/
theorem HR.off (hh : HR w Z R h) (hs : w'.heap.size = w.heap.size) (hb : ∀ c, (Z c ∨ own R h c) → w'.heap[c]? = w.heap[c]?) : HR w' Z R h := by
  refine ⟨hh.len, fun b B hB => ?_, hh.inj, fun c hc => by rw [hs]; exact hh.zlt c hc⟩
  obtain ⟨r, arr, us, h1, h2, h3, h4, h5, h6, h7, h8, h9, h10⟩ := hh.blk b B hB
  have hc : w'.heap[r.c]? = w.heap[r.c]? := by
    cases hf : B.fz with
    | true => exact hb _ (.inl (h7 hf))
    | false => exact hb _ (.inr ⟨b, B, r, hB, hf, h1, rfl⟩)
  exact ⟨r, arr, us, h1, h2, hc.trans h3, h4, h5, h6, h7, h8, h9.mono (fun c hz => hb c (.inl hz)) (fun _ h => h) (fun _ _ h => h), h10⟩

theorem bytesA_inv : ∀ {xs : List AV} {us : List Value} {bs : List UInt8}, bytesA xs = some bs → VRs w Z R xs us → us = bs.map fun b => Value.int .u8 b.toNat
  | [], us, bs, e, hv => by
    injection e with e; subst e
    have : us = [] := by have := hv.len; simpa using this
    subst this; rfl
  | y :: xs, us, bs, e, hv => by
    unfold bytesA at e
    split at e
    · next heq => cases heq
    · next n r heq =>
      injection heq with h1 h2
      subst h1 h2
      split at e
      · next hn =>
        obtain ⟨l, hl, rfl⟩ := Option.map_eq_some_iff.1 e
        obtain ⟨u, us', rfl, hu, hn'⟩ := hv.head
        rw [hu.v_inv, bytesA_inv hl hn']
        have : ((n.toNat.toUInt8).toNat : Int) = n := by
          simp
          omega
        simp only [List.map_cons]
        rw [this]
      · cases e
    · cases e

theorem evUStr_sound (hρ : ∀ o x, ρ o = some x → VR w Z R x (ve o)) (hh : HR w Z R h) {args : Array Operand} {tys : Array TypeId} {t t2 : TypeId} {y z : AV} (ho : o.op = .call ⟨.builtin .unsafeString, args, tys⟩) (ha : opds ρ args.toList = some [y, z]) (htys : tys.toList = [t, t2]) (e : evUStr P h t y z = some (x, h')) : Ld P w Z R h x h' ve o := by
  have hvs := opds_vr hρ ha
  obtain ⟨vy, us', hus, hvy, hn⟩ := hvs.head
  obtain ⟨vz, us'', rfl, hvz, hn'⟩ := hn.head
  have : us'' = [] := by have := hn'.len; simpa using this
  subst this
  have ht' : tys = #[t, t2] := by apply Array.ext'; simpa using htys
  subst ht'
  have hrun := run_callB (P := P) (ve := ve) ho hus w
  unfold evUStr at e
  split at e
  · next el b n hund =>
    split at e
    · next B hB =>
      split at e
      · next hc =>
        obtain ⟨c1, c2, c3, c4, c5, c6⟩ := hc
        split at e
        · next bs hbs =>
          split at e
          · next hok =>
            injection e with e; injection e with e1 e2; subst e1 e2
            obtain ⟨r, arr, us, g1, g2, g3, g4, g5, g6, g7, g8, g9, g10⟩ := hh.blk b B hB
            cases hvy with
            | pt hr =>
              rename_i r'
              rw [g1] at hr
              injection hr with hr
              subst hr
              have hz := hvz.v_inv
              subst hz
              have hus := bytesA_inv hbs (g9.take n.toNat)
              have hbl : bs.length = n.toNat := by
                have h1 := congrArg List.length hus
                rw [List.length_take, List.length_map, g9.len] at h1
                omega
              have hcells : ∀ j (c : UInt8), bs[j]? = some c → w.cell? ((⟨r.c, 0, none⟩ : Addr).add j) = some (.int .u8 c.toNat) := fun j c hj => by
                have h1 : us[j]? = some (.int .u8 c.toNat) := by
                  have h2 : (us.take n.toNat)[j]? = some (.int .u8 c.toNat) := by rw [hus, List.getElem?_map, hj]; rfl
                  have hjl : j < n.toNat := by rw [← hbl]; exact (List.getElem?_eq_some_iff.1 hj).1
                  rwa [List.getElem?_take_of_lt hjl] at h2
                have h3 := (g10 j _ h1).2.2 0 _ (show (Value.int .u8 c.toNat).cells[0]? = some (.int .u8 c.toNat) from rfl)
                rw [c2, Nat.mul_one, Nat.add_zero] at h3
                rw [addr_add, Nat.zero_add]
                simp [World.cell?, g3, h3]
              have hsh : w.shape? r.c = some (el, arr.size) := by simp [World.shape?, g3, c3]
              have hml : bs.length ≤ maxLen := Nat.le_of_ble_eq_true hok
              have hr := Go.Lib.run_unsafeString_row (P := P) w t t2 o.type el hund c4 r.c arr.size hsh bs (by intro h; rw [h] at hbl; simp at hbl; omega) (by rw [hbl, g4, c2]; omega) (by unfold maxLen at hml; omega) hcells
              have hn : ((bs.length : Nat) : Int) = n := by rw [hbl]; omega
              rw [hn] at hr
              have haddr : (⟨r.c, 0 * r.k + 0, none⟩ : Addr) = ⟨r.c, 0, none⟩ := by simp
              obtain ⟨k1, k2⟩ := hh.kill b
              have hsz : (w.freeze ⟨r.c, 0, none⟩ bs.length).heap.size = w.heap.size := by unfold World.freeze; split <;> simp
              have hoth : ∀ c, c ≠ r.c → (w.freeze ⟨r.c, 0, none⟩ bs.length).heap[c]? = w.heap[c]? := fun c hc => by
                unfold World.freeze
                split
                · rfl
                · simp [Array.getElem?_modify, Ne.symm hc]
              have hown : own R h r.c := ⟨b, B, r, hB, c1, g1, rfl⟩
              have hnown : ¬ own R (h.set b none) r.c := fun ⟨b', B', r', q1, q2, q3, q4⟩ => by
                rw [List.getElem?_set] at q1
                split at q1
                · split at q1 <;> cases q1
                · next hne => exact hne (hh.inj b b' B B' r r' hB c1 q1 q2 g1 q3 q4.symm)
              have hoff : HR (w.freeze ⟨r.c, 0, none⟩ bs.length) Z R (h.set b none) := k1.off hsz fun c hc => hoth c fun ec => by
                subst ec
                exact hc.elim (hh.notZ hown) hnown
              refine ⟨.string ⟨bs.toArray⟩, w.freeze ⟨r.c, 0, none⟩ bs.length, R, ?_, hoff, .st (by simp) hml, ⟨?_, ?_, ?_, by rw [hsz]; exact Nat.le_refl _, fun c hc hno => (hoth c fun ec => hno (ec ▸ hown)), k2.own_, k2.z, k2.z', k2.r⟩⟩
              · rw [hrun, haddr]
                simp only [builtin]
                rw [Sem.run_bind, hr]
                simp
              all_goals (unfold World.freeze; split <;> rfl)
          · cases e
        · cases e
      · cases e
    · cases e
  · cases e

theorem liesAt_self {e : TypeId} {count : Nat} (hc : P.cellsOf e ≠ 0) (hn : 0 < count) : liesAt P P.depth e count 0 e 1 = true := by
  have hd : P.depth = (2 * (P.types.size + Made.depth) + 1) + 1 := rfl
  rw [hd]
  simp only [liesAt, Bool.or_eq_true]
  left
  rw [hd]
  simp [rowAt, hc, sameLayout]
  omega

theorem evConvP_sound (hρ : ∀ o x, ρ o = some x → VR w Z R x (ve o)) (hh : HR w Z R h) {a b : TypeId} {p : Operand} {y : AV} (hp : ρ p = some y) (ho : o.op = .convert a b p) (e : evConvP P h a b y = some x) : Ld P w Z R h x h ve o := by
  have hv := hρ _ _ hp
  unfold evConvP at e
  split at e
  · next t c i off h1 h2 =>
    split at e
    · next B hB =>
      split at e
      · next hc =>
        obtain ⟨c1, c2, c3, c4⟩ := hc
        injection e with e; subst e
        obtain ⟨r, arr, us, g1, g2, g3, g4, g5, g6, g7, g8, g9, g10⟩ := hh.blk c B hB
        generalize hva : ve p = va at hv
        have hv' := hv
        cases hv with
        | pt hr =>
          rename_i r'
          rw [g1] at hr
          injection hr with hr
          subst hr
          obtain ⟨m, hm⟩ := Option.isSome_iff_exists.1 c3
          obtain ⟨j, hj, hjs⟩ := Option.map_eq_some_iff.1 hm
          have hne : j.size ≠ 0 := fun h0 => c4 (by rw [hm, ← hjs, h0])
          have hlt : i * r.k + off < arr.size := by
            rw [g2, g4]
            have := Nat.mul_le_mul_right B.k (show i + 1 ≤ r.cap by omega)
            rw [Nat.add_mul] at this
            omega
          have hr := Go.Lib.run_to_unsafe (P := P) w ⟨r.c, i * r.k + off, none⟩ h1 h2 hj hne (show w.shape? r.c = some (B.t, arr.size) by simp [World.shape?, g3]) hlt
          exact ⟨_, w, R, by simp only [execOp, ho, hva]; rw [Sem.run_bind, hr]; rfl, hh, hv', Step.refl _ _ _ _⟩
      · cases e
    · cases e
  · next u c h1 h2 =>
    split at e
    · next B hB =>
      split at e
      · next hc =>
        obtain ⟨c1, c2, c3, c4, c5⟩ := hc
        injection e with e; subst e
        obtain ⟨r, arr, us, g1, g2, g3, g4, g5, g6, g7, g8, g9, g10⟩ := hh.blk c B hB
        generalize hva : ve p = va at hv
        have hv' := hv
        cases hv with
        | pt hr =>
          rename_i r'
          rw [g1] at hr
          injection hr with hr
          subst hr
          obtain ⟨j, hj⟩ := Option.isSome_iff_exists.1 c5
          have hlies : liesAt P P.depth u (arr.size / P.cellsOf u) (0 * r.k + 0) u 1 = true := by
            rw [Nat.zero_mul]
            refine liesAt_self (by omega) ?_
            rw [g4, c4, Nat.mul_div_cancel _ c2]
            omega
          have hr := Go.Lib.run_from_unsafe (P := P) w ⟨r.c, 0 * r.k + 0, none⟩ h1 h2 hj (show w.shape? r.c = some (u, arr.size) by simp [World.shape?, g3, c3]) hlies
          exact ⟨_, w, R, by simp only [execOp, ho, hva]; rw [Sem.run_bind, hr]; rfl, hh, hv', Step.refl _ _ _ _⟩
      · cases e
    · cases e
  · cases e

theorem evOpX_sound {I : FuncId → Bool} (hI : ∀ f, I f = true → ∀ v w, (callFunc f #[v]).run P w = .ok (.value v) w) (hρ : ∀ o x, ρ o = some x → VR w Z R x (ve o)) (hh : HR w Z R h) (e : evOpX P I ρ h o.op = some x) : Ld P w Z R h x h ve o := by
  unfold evOpX at e
  split at e
  · next a b p ho =>
    split at e
    · next y hy => exact evConvP_sound hρ hh hy ho e
    · cases e
  · next f args tys ho =>
    split at e
    · next g y hf ha =>
      split at e
      · next hg =>
        injection e with e; subst e
        have hvs := opds_vr hρ ha
        obtain ⟨v, us', hus, hv, hn⟩ := hvs.head
        have : us' = [] := by have := hn.len; simpa using this
        subst this
        have hvf := hρ _ _ hf
        generalize hva : ve f = va at hvf
        cases hvf with
        | fn hl hl' hx hy =>
          rename_i uf uc
          have e1 : uf = [] := by simpa using hl
          have e2 : uc = [] := by simpa using hl'
          subst e1 e2
          have e3 : args.map ve = #[v] := by apply Array.ext'; rw [Array.toList_map, hus]
          refine ⟨v, w, R, ?_, hh, hv, Step.refl _ _ _ _⟩
          simp [execOp, ho, resolve, hva, e3, invoke, Deferred.ofValue, hI g hg]
      · cases e
    · cases e
  · cases e
end
end Go.Proofs.YthofgamegondnaaDoor

namespace Go.Proofs.YthofgamegondnaaDoor
open Go.RowKit

/-- What the interpreter is told of the program: its functions, its variables (those that nobody writes), calls that are told by a function of their own. -/
structure Env where
  P : Program
  fn : FuncId → Option Func
  G : Nat → Option AV
  X : FuncId → Option (List AV → Option AV)
  I : FuncId → Bool

inductive Ex where
  | normal
  | exit (id : Nat)
  | ret
structure St where
  fr : List (Option AV)
  hp : Hp
/-- A range over a function that is under way: its yield, the frame in which a round begins. -/
structure YC where
  b : Nat
  fr : List (Option AV)
  ps : List Tmp
  assign : Code
  body : Code
structure Cx where
  y : Option YC
  inR : Bool

def opA (E : Env) (fr : List (Option AV)) : Operand → Option AV
  | .tmp t => match fr[t]? with
    | some (some x) => some x
    | _ => none
  | .const v => avOf v
  | .global g => E.G g
  | .func f => some (.fn f [] [])
def putA (fr : List (Option AV)) (d : Option Tmp) (x : AV) : List (Option AV) :=
  match d with
  | some d => fr.set d (some x)
  | none => fr
/-- Is a guarded operation wanted? -/
def wantedA (ops : Array Oper) (fr : List (Option AV)) (o : Oper) : Option Bool :=
  match o.guard with
  | none => some true
  | some (j, want) => match ops[j]? with
    | some oj => match oj.dst with
      | some d => match fr[d]? with
        | some (some (.v (.bool b))) => some (b == want)
        | some (some (.tp [])) => some false
        | _ => none
      | none => none
    | none => none

def resA (P : Program) (fr : List (Option AV)) (h : Hp) : List ResultVar → Option (List AV)
  | [] => some []
  | .tmp t :: l => match fr[t]?, resA P fr h l with
    | some (some x), some r => some (x :: r)
    | _, _ => none
  | .cell a t :: l => match fr[a]?, resA P fr h l with
    | some (some p), some r => match evLoad P h t p with
      | some x => some (x :: r)
      | none => none
    | _, _ => none
def retA : List AV → AV
  | [x] => x
  | l => .tp l

/-- Values that hang on no own block. -/
def noRf : AV → Bool
  | .v _ => true
  | .st _ => true
  | .e0 => true
  | .sl _ _ => true
  | .pe _ _ => true
  | _ => false
/-- Values that hang on no memory. -/
def isFlat : AV → Bool
  | .v _ => true
  | .st _ => true
  | .e0 => true
  | _ => false
def flatTp : AV → Bool
  | .tp vs => vs.all isFlat
  | x => isFlat x
/-- An own block's value, seen as one that nobody writes (for the time of a call). -/
def view1 (h : Hp) : AV → Option AV
  | .rf b lo n _ => match h[b]? with
    | some (some B) => if lo + n ≤ B.es.length ∧ (B.es.all noRf) = true then some (.sl B.k ((B.es.drop lo).take n)) else none
    | _ => none
  | x => if noRf x then some x else none
def viewL (h : Hp) : List AV → Option (List AV)
  | [] => some []
  | x :: l => match view1 h x, viewL h l with
    | some y, some r => some (y :: r)
    | _, _ => none
def view2 (h : Hp) : AV → Option AV
  | .ag cs => (viewL h cs).map .ag
  | x => view1 h x
def views (h : Hp) : List AV → Option (List AV)
  | [] => some []
  | x :: l => match view2 h x, views h l with
    | some y, some r => some (y :: r)
    | _, _ => none
/-- A call that is told by a function of its own: what it hands back is flat, or no own block of the caller is handed over. -/
def noRf2 : AV → Bool
  | .ag cs => cs.all noRf
  | x => noRf x
def callX (g : List AV → Option AV) (args : List AV) (h : Hp) : Option (AV × Hp) :=
  match views h args with
  | some ys => match g ys with
    | some r => if flatTp r then some (r, h) else none
    | none => none
  | none => none
def callX2 (g : List AV → Option AV) (args : List AV) (h : Hp) : Option (AV × Hp) :=
  if args.all noRf2 then (g args).map (·, h) else callX g args h
abbrev IH := Cx → Code → St → Option (Ex × St)

/-- A function, entered. -/
def enterA (E : Env) (ih : IH) (y : Option YC) (f : FuncId) (args : List AV) (h : Hp) : Option (AV × Hp) :=
  match E.fn f with
  | none => none
  | some fn => match fn.body with
    | none => none
    | some c =>
      if args.length ≤ fn.ntmps then
        match ih ⟨y, false⟩ c ⟨args.map some ++ List.replicate (fn.ntmps - args.length) (some (.tp [])), h⟩ with
        | some (.normal, s) => (resA E.P s.fr s.hp fn.results.toList).map fun r => (retA r, s.hp)
        | some (.ret, s) => (resA E.P s.fr s.hp fn.results.toList).map fun r => (retA r, s.hp)
        | _ => none
      else none
def setPs : List (Option AV) → List Tmp → List AV → List (Option AV)
  | fr, p :: ps, x :: xs => setPs (fr.set p (some x)) ps xs
  | fr, _, _ => fr
def callA (E : Env) (ih : IH) (cx : Cx) (fv : AV) (args : List AV) (h : Hp) : Option (AV × Hp) :=
  match fv with
  | .fn f first caps => match E.X f with
    | some g => callX2 g (first ++ args ++ caps) h
    | none => enterA E ih none f (first ++ args ++ caps) h
  | .yl b => match cx.y with
    | some y =>
      if y.b = b ∧ args.length = y.ps.length ∧ cx.inR = false then
        match ih ⟨none, true⟩ y.assign ⟨setPs y.fr y.ps args, h⟩ with
        | some (.normal, s) => match ih ⟨none, true⟩ y.body s with
          | some (.normal, s) => some (.v (.bool true), s.hp)
          | _ => none
        | _ => none
      else none
    | none => none
  | _ => none

/-- One operation. -/
def op1 (E : Env) (ih : IH) (cx : Cx) (o : Oper) (s : St) : Option St :=
  match evOpQ E.P (opA E s.fr) s.hp o.op with
  | some x => some ⟨putA s.fr o.dst x, s.hp⟩
  | none => match evOpN E.P (opA E s.fr) s.hp o.op with
    | some (x, h) => some ⟨putA s.fr o.dst x, h⟩
    | none => match evOpW E.P (opA E s.fr) s.hp o.op with
      | some (x, h) => some ⟨putA s.fr o.dst x, h⟩
      | none => match evOpX E.P E.I (opA E s.fr) s.hp o.op with
       | some x => some ⟨putA s.fr o.dst x, s.hp⟩
       | none => match o.op with
        | .store t a v => match o.dst, opA E s.fr a, opA E s.fr v with
          | none, some p, some x => (evStore E.P s.hp t p x).map fun h => ⟨s.fr, h⟩
          | _, _, _ => none
        | .call ⟨.value f, args, _⟩ => match opA E s.fr f, opds (opA E s.fr) args.toList with
          | some fv, some xs => (callA E ih cx fv xs s.hp).map fun r => ⟨putA s.fr o.dst r.1, r.2⟩
          | _, _ => none
        | _ => none
def opsA (E : Env) (ih : IH) (cx : Cx) (ops : Array Oper) : List Oper → St → Option St
  | [], s => some s
  | o :: rest, s => match wantedA ops s.fr o with
    | none => none
    | some false => opsA E ih cx ops rest ⟨putA s.fr o.dst (.tp []), s.hp⟩
    | some true => match op1 E ih cx o s with
      | some s => opsA E ih cx ops rest s
      | none => none

/-- A call that can turn nothing that is there: on an empty heap of its own. What it hands back is flat, or one block of flat elements. -/
def callP (E : Env) (ih : IH) (fv : AV) (args : List AV) (h : Hp) : Option (AV × Hp) :=
  match fv with
  | .fn f [] [] => match views h args with
    | some xs => match E.X f with
      | some g => match g xs with
        | some r => if flatTp r then some (r, h) else none
        | none => none
      | none => match enterA E ih none f xs [] with
        | some (r, h') =>
          if flatTp r then some (r, h) else
          match r with
          | .rf b lo n m => match h'[b]? with
            | some (some B) => if B.fz = false ∧ (B.es.all isFlat) = true then some (.rf h.length lo n m, h ++ [some B]) else none
            | _ => none
          | _ => none
        | none => none
    | none => none
  | _ => none
def isW : Op → Bool
  | .store _ _ _ => true
  | .call ⟨.builtin .append, _, _⟩ => true
  | .call ⟨.builtin .copy, _, _⟩ => true
  | .call ⟨.builtin .unsafeString, _, _⟩ => true
  | _ => false
/-- Operations that only read, by their form. -/
def isQ : Op → Bool
  | .move _ => true
  | .assign _ => true
  | .pick _ _ _ => true
  | .load _ _ => true
  | .nilCheck _ => true
  | .binOp _ _ _ _ _ => true
  | .unOp _ _ _ => true
  | .convert _ _ _ => true
  | .makeFunc _ _ _ => true
  | .slice _ _ _ _ _ => true
  | .fieldAddr _ _ _ => true
  | .field _ _ _ => true
  | .indexAddr _ _ _ => true
  | .index _ _ _ => true
  | .extract _ _ => true
  | .build _ _ => true
  | .call ⟨.builtin .len, _, _⟩ => true
  | .call ⟨.builtin .min, _, _⟩ => true
  | .call ⟨.builtin .max, _, _⟩ => true
  | .call ⟨.builtin .unsafeSliceData, _, _⟩ => true
  | _ => false
def tailGo : List Oper → Nat → Nat
  | [], n => n
  | o :: l, n => if isW o.op then n else tailGo l (n + 1)
/-- The first write of a region. -/
def tailAt (ops : Array Oper) : Nat := tailGo ops.toList 0
/-- May this be loaded from, before the region's own blocks are made? -/
def ldOk (n0 : Nat) (ρ : Operand → Option AV) : Op → Bool
  | .load _ p => match ρ p with
    | some (.pt b _ _) => Nat.blt b n0
    | some (.pe _ _) => true
    | _ => false
  | _ => true
/-- A region that draws its order: reads, new blocks and pure calls; from the first write on, whatever stands behind all that. -/
def opsD (E : Env) (ih : IH) (cx : Cx) (ops : Array Oper) (n0 : Nat) : List Oper → St → Option St
  | [], s => some s
  | o :: rest, s =>
    if isW o.op then opsA E ih ⟨none, cx.inR⟩ ops (o :: rest) s else
    match wantedA ops s.fr o with
    | none => none
    | some false => opsD E ih cx ops n0 rest ⟨putA s.fr o.dst (.tp []), s.hp⟩
    | some true => match evOpQ E.P (opA E s.fr) s.hp o.op with
      | some x => if ldOk n0 (opA E s.fr) o.op then opsD E ih cx ops n0 rest ⟨putA s.fr o.dst x, s.hp⟩ else none
      | none => match evOpN E.P (opA E s.fr) s.hp o.op with
        | some (x, h) => opsD E ih cx ops n0 rest ⟨putA s.fr o.dst x, h⟩
        | none => match o.op with
          | .call ⟨.value f, args, _⟩ => match opA E s.fr f, opds (opA E s.fr) args.toList with
            | some fv, some xs => match callP E ih fv xs s.hp with
              | some r => opsD E ih cx ops n0 rest ⟨putA s.fr o.dst r.1, r.2⟩
              | none => none
            | _, _ => none
          | _ => none

def evStep (E : Env) (ih : IH) (cx : Cx) (c : Code) (s : St) : Option (Ex × St) :=
  match c with
  | .skip => some (.normal, s)
  | .region _ ops draw => (if draw then opsD E ih cx ops s.hp.length ops.toList s else opsA E ih cx ops ops.toList s).map fun s => (.normal, s)
  | .seq a b => match ih cx a s with
    | some (.normal, s) => ih cx b s
    | r => r
  | .cond c a b => match opA E s.fr c with
    | some (.v (.bool true)) => ih cx a s
    | some (.v (.bool false)) => ih cx b s
    | _ => none
  | .block id c => match ih cx c s with
    | some (.exit id', s) => if id' = id then some (.normal, s) else some (.exit id', s)
    | r => r
  | .loop c => match ih cx c s with
    | some (.normal, s) => ih cx (.loop c) s
    | r => r
  | .exit id => some (.exit id, s)
  | .ret => some (.ret, s)
  | .rangeFunc f ps assign body =>
    if cx.inR then none else
    match opA E s.fr f with
    | some (.fn g first caps) => match enterA E ih (some ⟨s.hp.length, s.fr, ps.toList, assign, body⟩) g (first ++ [.yl s.hp.length] ++ caps) (s.hp ++ [none]) with
      | some (_, h) => some (.normal, ⟨s.fr, h⟩)
      | none => none
    | _ => none
  | _ => none
def evC (E : Env) : Nat → IH
  | 0 => fun _ _ _ => none
  | n + 1 => evStep E (evC E n)
/-- A call, from outside. -/
def evCall (E : Env) (n : Nat) (f : FuncId) (args : List AV) (h : Hp) : Option (AV × Hp) := enterA E (evC E n) none f args h
end Go.Proofs.YthofgamegondnaaDoor

namespace Go.Proofs.YthofgamegondnaaDoor
open Go.RowKit

structure Rep (α : Type) where
  R : World → (Nat → Prop) → Value → α → Prop
  kept : ∀ {w w' : World} {S : Nat → Prop} {v : Value} {x : α}, R w S v x → (∀ b, S b → b < w.heap.size → w'.heap[b]? = w.heap[b]?) → R w' S v x
  mono : ∀ {w : World} {S S' : Nat → Prop} {v : Value} {x : α}, R w S v x → (∀ b, S b → S' b) → R w S' v x
  lt : ∀ {w : World} {S : Nat → Prop} {v : Value} {x : α}, R w S v x → R w (fun b => S b ∧ b < w.heap.size) v x
  one : ∀ {w : World} {S : Nat → Prop} {v : Value} {x : α}, R w S v x → v.oneCell' = true

def intR (k : IntKind) : Rep Int where
  R := fun _ _ v x => v = .int k x
  kept := fun h _ => h
  mono := fun h _ => h
  lt := fun h => h
  one := fun h => by rw [h]; rfl
abbrev iR : Rep Int := intR .i64
def boolR : Rep Bool where
  R := fun _ _ v x => v = .bool x
  kept := fun h _ => h
  mono := fun h _ => h
  lt := fun h => h
  one := fun h => by rw [h]; rfl
def strR : Rep ByteArray where
  R := fun _ _ v x => v = .string x
  kept := fun h _ => h
  mono := fun h _ => h
  lt := fun h => h
  one := fun h => by rw [h]; rfl

def SlR {α : Type} (r : Rep α) (w : World) (S : Nat → Prop) (v : Value) (xs : List α) : Prop :=
  ∃ L : List Value, Rd w S v L ∧ L.length = xs.length ∧ ∀ (i : Nat) (u : Value) (x : α), L[i]? = some u → xs[i]? = some x → r.R w S u x

theorem Rd.kept' {w w' : World} {S : Nat → Prop} {v : Value} {L : List Value} (h : Rd w S v L) (hk : ∀ b, S b → b < w.heap.size → w'.heap[b]? = w.heap[b]?) : Rd w' S v L :=
  ((h.lt).kept (fun b hb => hk b hb.1 hb.2)).mono fun _ hb => hb.1
theorem Rd.one {w : World} {S : Nat → Prop} {v : Value} {L : List Value} (h : Rd w S v L) : v.oneCell' = true := by
  obtain ⟨A, c, rfl, _⟩ := h
  rfl

def slR {α : Type} (r : Rep α) : Rep (List α) where
  R := SlR r
  kept := fun ⟨L, h, hl, hr⟩ hk => ⟨L, h.kept' hk, hl, fun i u x hu hx => r.kept (hr i u x hu hx) hk⟩
  mono := fun ⟨L, h, hl, hr⟩ hs => ⟨L, h.mono hs, hl, fun i u x hu hx => r.mono (hr i u x hu hx) hs⟩
  lt := fun ⟨L, h, hl, hr⟩ => ⟨L, h.lt, hl, fun i u x hu hx => r.lt (hr i u x hu hx)⟩
  one := fun ⟨_, h, _, _⟩ => h.one

abbrev rI : Rep (List Int) := slR iR
abbrev rII : Rep (List (List Int)) := slR rI
abbrev rIII : Rep (List (List (List Int))) := slR rII
abbrev rS : Rep (List ByteArray) := slR strR

/-- Up to block B. -/
abbrev Lo (B : Nat) : Nat → Prop := fun b => b < B
/-- From block lo to hi. -/
abbrev Iv (lo hi : Nat) : Nat → Prop := fun b => lo ≤ b ∧ b < hi

section
variable {α : Type} {r : Rep α} {w w' : World} {S : Nat → Prop} {v : Value} {x : α} {row : Option Nat}

theorem Rep.ch (h : r.R w S v x) (hg : w.grownBy w' row) (hs : ∀ g, row = some g → g < w.heap.size → ¬ S g) : r.R w' S v x :=
  r.kept h fun b hb hlt => hg.block b hlt fun e => hs b e.symm hlt hb
theorem Rep.pu (h : r.R w S v x) (hg : w.grownBy w' none) : r.R w' S v x := Rep.ch h hg fun _ e => by cases e
theorem Rep.below {B : Nat} (h : r.R w (Lo B) v x) (hb : Below B w w') : r.R w' (Lo B) v x := r.kept h fun b hlt _ => hb.block b hlt

theorem SlR.len {xs : List α} (h : (slR r).R w S v xs) : ∃ A c, v = .slice A xs.length c ∧ xs.length ≤ c ∧ c ≤ 9223372036854775807 := by
  obtain ⟨L, h, hl, _⟩ := h
  rw [← hl]
  exact h.len
theorem SlR.le {xs : List α} (h : (slR r).R w S v xs) : xs.length ≤ 9223372036854775807 := by
  obtain ⟨A, c, _, h1, h2⟩ := SlR.len h
  omega
theorem SlR.nil : (slR r).R w S (.slice none 0 0) ([] : List α) := ⟨[], Rd.nil, rfl, fun i u x hu _ => by simp at hu⟩

theorem cell_pu {a : Addr} {u : Value} (hg : w.grownBy w' none) (hc : w.cell? a = some u) : w'.cell? a = some u := hg.cell hc (by simp)
theorem pu_refl (w : World) : w.grownBy w none := ⟨rfl, rfl, rfl, Nat.le_refl _, fun _ _ _ => rfl⟩
theorem ch_alloc (w : World) (o : Obj) : w.grownBy (w.alloc o) none := ⟨rfl, rfl, rfl, by simp, fun _ hb _ => Below.heap_alloc _ _ _ hb⟩
theorem ch_setCell (w : World) (a : Addr) (u : Value) : w.grownBy (w.setCell a u) (some a.block) :=
  ⟨rfl, rfl, rfl, by simp [World.setCell], fun _ _ hne => Below.heap_setCell _ _ _ _ (fun e => hne (by rw [e]))⟩
theorem ch_drew (w : World) : w.grownBy w.drew none := ⟨rfl, rfl, rfl, Nat.le_refl _, fun _ _ _ => rfl⟩
theorem pu_below (h : w.grownBy w' none) : Below w.heap.size w w' := ⟨h.os, h.tape, h.output, h.size, fun k hk => h.block k hk (by simp)⟩
theorem below_pu (h : Below w.heap.size w w') : w.grownBy w' none := ⟨h.os, h.tape, h.output, h.size, fun k hk _ => h.block k hk⟩
theorem Below.ch {B : Nat} {w0 : World} (h : Below B w0 w) (hg : w.grownBy w' row) (hB : B ≤ w.heap.size) (hr : ∀ g, row = some g → B ≤ g) : Below B w0 w' :=
  h.grown hg hB hr
theorem Below.pu {B : Nat} {w0 : World} (h : Below B w0 w) (hg : w.grownBy w' none) (hB : B ≤ w.heap.size) : Below B w0 w' :=
  h.grown hg hB fun _ e => by cases e
end

/-- A slice that is being built: its own row, and what its elements hang on, lie in blocks from lo to hi; no element hangs on the row itself. -/
def Bl {α : Type} (r : Rep α) (e : TypeId) (w : World) (lo hi : Nat) (v : Value) (xs : List α) : Prop :=
  ∃ L : List Value, w.ownsRow lo e 1 v L.length L ∧ (∀ g, v.ownBlock = some g → g < hi) ∧ L.length = xs.length ∧ ∀ (i : Nat) (u : Value) (x : α), L[i]? = some u → xs[i]? = some x → r.R w (fun b => Iv lo hi b ∧ v.ownBlock ≠ some b) u x

section
variable {α : Type} {r : Rep α} {e : TypeId} {w w' : World} {lo hi : Nat} {v : Value} {xs : List α} {row : Option Nat}

theorem Bl.nil : Bl r e w lo hi (.slice none 0 0) ([] : List α) := ⟨[], World.ownsRow_nil _ _ _ _, fun g h => by simp [Value.ownBlock] at h, rfl, fun i u x hu _ => by simp at hu⟩
theorem Bl.ch (h : Bl r e w lo hi v xs) (hg : w.grownBy w' row) (hs : ∀ g, row = some g → g < w.heap.size → hi ≤ g ∨ g < lo) : Bl r e w' lo hi v xs := by
  obtain ⟨L, ho, hb, hl, hr⟩ := h
  refine ⟨L, ho.kept hg ?_, hb, hl, fun i u x hu hx => Rep.ch (hr i u x hu hx) hg fun g hrow hlt => ?_⟩
  · cases hv : v.ownBlock with
    | none => exact .inl rfl
    | some g =>
      refine .inr fun e => ?_
      have h1 := ho.lt g hv
      have h2 := hb g hv
      rcases hs g e.symm h1.2 with h3 | h3 <;> omega
  · rintro ⟨⟨h1, h2⟩, _⟩
    rcases hs g hrow hlt with h3 | h3 <;> omega
theorem Bl.pu (h : Bl r e w lo hi v xs) (hg : w.grownBy w' none) : Bl r e w' lo hi v xs := h.ch hg fun _ e => by cases e
theorem Bl.widen {hi' : Nat} (h : Bl r e w lo hi v xs) (hh : hi ≤ hi') : Bl r e w lo hi' v xs := by
  obtain ⟨L, ho, hb, hl, hr⟩ := h
  exact ⟨L, ho, fun g hg => by have := hb g hg; omega, hl, fun i u x hu hx => r.mono (hr i u x hu hx) fun b hb => ⟨⟨hb.1.1, by have := hb.1.2; omega⟩, hb.2⟩⟩
theorem Bl.top {hi' : Nat} (h : Bl r e w lo hi v xs) (hh : w.heap.size ≤ hi') : Bl r e w lo hi' v xs := by
  obtain ⟨L, ho, hb, hl, hr⟩ := h
  exact ⟨L, ho, fun g hg => by have := ho.lt g hg; omega, hl, fun i u x hu hx => r.mono (r.lt (hr i u x hu hx)) fun b hb => ⟨⟨hb.1.1.1, by have := hb.2; omega⟩, hb.1.2⟩⟩
theorem Bl.lower {lo' : Nat} (h : Bl r e w lo hi v xs) (hh : lo' ≤ lo) : Bl r e w lo' hi v xs := by
  obtain ⟨L, ho, hb, hl, hr⟩ := h
  refine ⟨L, ⟨ho.1, ?_⟩, hb, hl, fun i u x hu hx => r.mono (hr i u x hu hx) fun b hb => ⟨⟨by have := hb.1.1; omega, hb.1.2⟩, hb.2⟩⟩
  rcases ho.2 with h0 | ⟨g, cap, cur, h1, h2, h3⟩
  · exact .inl h0
  · exact .inr ⟨g, cap, cur, h1, by omega, h3⟩
theorem Bl.sl (h : Bl r e w lo hi v xs) : (slR r).R w (Iv lo hi) v xs := by
  obtain ⟨L, ho, hb, hl, hr⟩ := h
  refine ⟨L, ?_, hl, fun i u x hu hx => r.mono (hr i u x hu hx) fun b hb => hb.1⟩
  rcases Nat.eq_zero_or_pos L.length with h0 | h0
  · obtain ⟨A, c, hv, hc, hm, _⟩ := own_rd ho
    exact ⟨A, c, hv, hc, hm, fun h => absurd h (by omega)⟩
  · obtain ⟨g, cap, hv, h1, h2, h3, hnc, hcm⟩ := own_form ho h0
    exact ⟨_, cap, hv, hnc, hcm, fun _ => ⟨_, rfl, ⟨h1, hb g h3⟩, ho.cells h3⟩⟩
theorem Bl.len (h : Bl r e w lo hi v xs) : ∃ A c, v = .slice A xs.length c ∧ xs.length ≤ c ∧ c ≤ 9223372036854775807 := SlR.len h.sl
theorem Bl.push {x : α} {u v' : Value} {L : List Value} (h : Bl r e w lo hi v xs) (hx : r.R w (fun b => Iv lo hi b ∧ v.ownBlock ≠ some b) u x)
    (ho' : w'.ownsRow lo e 1 v' (L ++ [u]).length (L ++ [u])) (ho : w.ownsRow lo e 1 v L.length L) (hl : L.length = xs.length) (hg : w.grownBy w' v.ownBlock) (hat : v'.ownBlock = v.ownBlock ∨ v'.ownBlock = some (w.heap.size + 1)) (hhi : w'.heap.size ≤ hi) : Bl r e w' lo hi v' (xs ++ [x]) := by
  obtain ⟨L', hown, hb, hl', hr⟩ := h
  have hLL : L' = L := by
    rcases hown.2 with ⟨hv, h0⟩ | ⟨g, cap, cur, hv, _, hh, _, _, _, htk⟩
    · have h1 : L.length = 0 := by
        rcases ho.2 with ⟨hv', h0'⟩ | ⟨g, cap, cur, hv', _⟩
        · exact h0'
        · rw [hv] at hv'; cases hv'
      rw [List.eq_nil_of_length_eq_zero h0, List.eq_nil_of_length_eq_zero h1]
    · rcases ho.2 with ⟨hv', h0'⟩ | ⟨g', cap', cur', hv', _, hh', _, _, _, htk'⟩
      · rw [hv'] at hv; cases hv
      · rw [hv] at hv'
        injection hv' with e1 e2 e3
        injection e1 with e1
        injection e1 with e1
        subst e1
        rw [hh] at hh'
        injection hh' with hh'
        injection hh' with hh'
        rw [← htk, ← htk', hh', e2]
  subst hLL
  have key : ∀ (u : Value) (x : α), r.R w (fun b => Iv lo hi b ∧ v.ownBlock ≠ some b) u x → r.R w' (fun b => Iv lo hi b ∧ v'.ownBlock ≠ some b) u x := by
    intro u x hux
    have h1 := Rep.ch (r.lt hux) hg fun g hrow _ hS => hS.1.2 hrow
    refine r.mono h1 fun b hb => ⟨hb.1.1, fun hc => ?_⟩
    rcases hat with h2 | h2
    · rw [h2] at hc; exact hb.1.2 hc
    · rw [h2] at hc; injection hc with hc; have := hb.2; omega
  refine ⟨L' ++ [u], ho', fun g hgv => ?_, by simp [hl'], fun i q y hq hy => ?_⟩
  · have := (ho'.lt g hgv).2; omega
  · rcases Nat.lt_trichotomy i L'.length with h1 | h1 | h1
    · rw [List.getElem?_append_left h1] at hq
      rw [List.getElem?_append_left (by omega)] at hy
      exact key q y (hr i q y hq hy)
    · subst h1
      rw [List.getElem?_append_right (Nat.le_refl _)] at hq
      rw [hl', List.getElem?_append_right (Nat.le_refl _)] at hy
      simp at hq hy
      subst hq hy
      exact key u x hx
    · rw [List.getElem?_append_right (by omega)] at hq
      have : i - L'.length ≠ 0 := by omega
      simp [this] at hq
end

/-- What a call that only makes new blocks leaves; what a call leaves that writes to new blocks alone. -/
theorem pu_trans {a b c : World} (h : a.grownBy b none) (k : b.grownBy c none) : a.grownBy c none := h.trans k
theorem pu_row {a b c : World} {row : Option Nat} (h : a.grownBy b none) (k : b.grownBy c row) (hr : ∀ g, row = some g → g < b.heap.size → a.heap.size ≤ g) : a.grownBy c none :=
  ⟨k.os.trans h.os, k.tape.trans h.tape, k.output.trans h.output, Nat.le_trans h.size k.size, fun i hi hne => by
    refine (k.block i (Nat.lt_of_lt_of_le hi h.size) (fun e => ?_)).trans (h.block i hi hne)
    have := hr i e.symm (Nat.lt_of_lt_of_le hi h.size)
    omega⟩

/-- A whole block of the call's own. -/
def Bk (w : World) (g : Nat) (t : TypeId) (cs : List Value) : Prop := w.heap[g]? = some (.cells cs.toArray t (0, 0))
section
variable {w w' : World} {g : Nat} {t : TypeId} {cs : List Value} {row : Option Nat}
theorem Bk.lt (h : Bk w g t cs) : g < w.heap.size := by
  rcases Nat.lt_or_ge g w.heap.size with h1 | h1
  · exact h1
  · unfold Bk at h; rw [Array.getElem?_eq_none h1] at h; cases h
theorem Bk.cell (h : Bk w g t cs) {i : Nat} {u : Value} (hi : cs[i]? = some u) : w.cell? ⟨g, i, none⟩ = some u := by
  unfold Bk at h
  simp [World.cell?, h, hi]
theorem Bk.fz (h : Bk w g t cs) (i : Nat) : w.frozen? ⟨g, i, none⟩ = false := by
  unfold Bk at h
  simp [World.frozen?, h]
theorem Bk.ch (h : Bk w g t cs) (hg : w.grownBy w' row) (hne : row ≠ some g) : Bk w' g t cs := (hg.block g h.lt (fun e => hne e.symm)).trans h
theorem Bk.pu (h : Bk w g t cs) (hg : w.grownBy w' none) : Bk w' g t cs := h.ch hg (by simp)
theorem Bk.set (h : Bk w g t cs) (i : Nat) (u : Value) : Bk (w.setCell ⟨g, i, none⟩ u) g t (cs.set i u) := by
  unfold Bk at h ⊢
  simp [World.setCell, Array.getElem?_modify, h]
theorem Bk.new (w : World) (t : TypeId) (cs : List Value) : Bk (w.alloc (.cells cs.toArray t)) w.heap.size t cs := heap_alloc_new w _
/-- Its cells from the head on, as a value by parts. -/
theorem Bk.cells (h : Bk w g t cs) : ∀ j v, cs[j]? = some v → w.cell? ((⟨g, 0, none⟩ : Addr).add j) = some v := fun j v hj => by
  have := h.cell hj
  unfold Addr.add
  split
  · next e => subst e; exact this
  · simpa using this
end

/-- Values read as data, one by one. -/
def AllR {α : Type} (r : Rep α) (w : World) (S : Nat → Prop) : List Value → List α → Prop
  | [], [] => True
  | u :: us, x :: xs => r.R w S u x ∧ AllR r w S us xs
  | _, _ => False
theorem AllR.len {α : Type} {r : Rep α} {w : World} {S : Nat → Prop} : ∀ {us : List Value} {xs : List α}, AllR r w S us xs → us.length = xs.length
  | [], [], _ => rfl
  | _ :: _, _ :: _, h => by simp [AllR.len h.2]
theorem AllR.at_ {α : Type} {r : Rep α} {w : World} {S : Nat → Prop} : ∀ {us : List Value} {xs : List α}, AllR r w S us xs → ∀ (i : Nat) (u : Value) (x : α), us[i]? = some u → xs[i]? = some x → r.R w S u x
  | [], [], _, i, _, _, hu, _ => by simp at hu
  | _ :: _, _ :: _, h, 0, _, _, hu, hx => by simp at hu hx; subst hu hx; exact h.1
  | _ :: _, _ :: _, h, i + 1, _, _, hu, hx => AllR.at_ h.2 i _ _ (by simpa using hu) (by simpa using hx)
theorem AllR.one {α : Type} {r : Rep α} {w : World} {S : Nat → Prop} : ∀ {us : List Value} {xs : List α}, AllR r w S us xs → ∀ u ∈ us, u.oneCell' = true
  | [], [], _, u, hu => by simp at hu
  | _ :: _, _ :: _, h, u, hu => by
    rcases List.mem_cons.1 hu with rfl | hu
    · exact r.one h.1
    · exact AllR.one h.2 u hu

section rules
variable {P : Program} {Q : Exit → Act → World → Prop} {F : Frm} {l : List (Nat × Value)} {w : World} {ops : Array Oper} {rest : List Oper}
variable {X : List Oper → Frm → List (Nat × Value) → World → Prop} [inst : Runs P X]
variable {d : Nat} {ty t T e : TypeId} {pos : String} {af : Array Edge} {x y : Operand} {ds dT : TypeDesc} {sz by_ sT bT : Nat} {z zT : Value}

theorem st_lenS {w₂ : World} {α : Type} {r : Rep α} {S : Nat → Prop} {v : Value} {xs : List α} (hr : (slR r).R w₂ S v xs) (hT : Ty P T (.slice e) sT bT zT) (hx : ev l F.s x = v) :
    Rn P l F.s w ⟨some d, .call ⟨.builtin .len, #[x], #[T]⟩, ty, pos, af, none⟩ (.int .i64 (xs.length : Int)) := by
  obtain ⟨A, c, rfl, _⟩ := SlR.len hr
  exact st_len hT hx

/-- Reading an element: its address; what lies there. -/
theorem st_idxS {α : Type} {r : Rep α} [Inhabited α] {S : Nat → Prop} {v : Value} {xs : List α} {K : IntKind} {m : Int} (hr : (slR r).R w S v xs) (hT : Ty P T (.slice e) sT bT zT) (hE : Ty P e ds 1 by_ z) (hx : ev l F.s x = v) (hy : ev l F.s y = .int K m) (h0 : 0 ≤ m) (h1 : m < (xs.length : Int)) :
    ∃ q, (∃ (a : Addr) (u : Value), q = .pointer (some a) ∧ w.cell? a = some u ∧ r.R w S u (xs.getD m.toNat default)) ∧ ∀ w, Rn P l F.s w ⟨some d, .indexAddr T x y, ty, pos, af, none⟩ q := by
  obtain ⟨L, hrd, hl, hrr⟩ := hr
  have hlt : m.toNat < L.length := by omega
  have hlt' : m.toNat < xs.length := by omega
  obtain ⟨q, ⟨a, hq, _, hc⟩, hrn⟩ := st_idxR (P := P) (F := F) (l := l) (d := d) (ty := ty) (pos := pos) (af := af) m.toNat hT hE hrd hx hy (by omega) (List.getElem?_eq_getElem hlt)
  refine ⟨q, ⟨a, _, hq, hc, ?_⟩, hrn⟩
  have h2 := hrr m.toNat _ _ (List.getElem?_eq_getElem hlt) (List.getElem?_eq_getElem hlt')
  rwa [List.getD_eq_getElem?_getD, List.getElem?_eq_getElem hlt']
theorem st_idxI {S : Nat → Prop} {v : Value} {xs : List Int} {K K' : IntKind} {m : Int} (hr : (slR (intR K')).R w S v xs) (hT : Ty P T (.slice e) sT bT zT) (hE : Ty P e ds 1 by_ z) (hx : ev l F.s x = v) (hy : ev l F.s y = .int K m) (h0 : 0 ≤ m) (h1 : m < (xs.length : Int)) :
    ∃ q, (∃ a : Addr, q = .pointer (some a) ∧ w.cell? a = some (.int K' (xs.getD m.toNat 0))) ∧ ∀ w, Rn P l F.s w ⟨some d, .indexAddr T x y, ty, pos, af, none⟩ q := by
  obtain ⟨q, ⟨a, u, hq, hc, hu⟩, hrn⟩ := st_idxS (P := P) (F := F) (l := l) (d := d) (ty := ty) (pos := pos) (af := af) hr hT hE hx hy h0 h1
  exact ⟨q, ⟨a, hq, by rw [hc]; exact congrArg some hu⟩, hrn⟩

include inst in
/-- 'append(s, x)' onto a slice that is being built. -/
theorem wl_pushB {α : Type} {r : Rep α} {d1 d2 lo hi : Nat} {ty1 ty2 : TypeId} {pos1 pos2 : String} {af1 af2 : Array Edge} {s : Operand} {v u : Value} {xs : List α} {q : α} (h : Bl r e w lo hi v xs) (hq : r.R w (fun b => Iv lo w.heap.size b ∧ v.ownBlock ≠ some b) u q) (hlo : lo ≤ w.heap.size) (hT : Ty P T (.slice e) sT bT zT) (hE : Ty P e ds 1 by_ z) (hz : z.oneCell' = true)
    (hs : ev l F.s s = v) (hx : ev l F.s x = u) (hn : (xs.length + 1) * by_ ≤ 140737488355328) (hn' : xs.length + 1 ≤ 140737488355328) (hsd : ev [(d1, .slice (some ⟨w.heap.size, 0, none⟩) 1 1)] (fr l F.s) s = ev l F.s s) (hN1 : Nat.blt d1 F.N = true) (hN2 : Nat.blt d2 F.N = true)
    (k : ∀ v' w', Bl r e w' lo w'.heap.size v' (xs ++ [q]) → w.grownBy w' v.ownBlock → (∀ g, v.ownBlock = some g → lo ≤ g ∧ g < hi ∧ g < w.heap.size) → w.heap.size < w'.heap.size → X rest F ((d2, v') :: (d1, .slice (some ⟨w.heap.size, 0, none⟩) 1 1) :: l) w') :
    X (⟨some d1, .buildSlice T 1 #[(0, x)], ty1, pos1, af1, none⟩ :: ⟨some d2, .call ⟨.builtin .append, #[s, .tmp d1], #[T, T]⟩, ty2, pos2, af2, none⟩ :: rest) F l w := by
  have hh := h
  obtain ⟨L, ho, hb, hl, hr⟩ := hh
  refine wl_push hT hE hz ho hlo hs hx (r.one hq) (by rw [hl]; exact hn) (by rw [hl]; unfold maxLen; omega) hsd hN1 hN2 fun v' w' how hg hat hsz => k v' w' ?_ hg (fun g hv => ⟨(ho.lt g hv).1, hb g hv, (ho.lt g hv).2⟩) hsz
  have how' : w'.ownsRow lo e 1 v' (L ++ [u]).length (L ++ [u]) := by simpa using how
  have h1 : Bl r e w lo w'.heap.size v xs := h.top (by omega)
  have hq' : r.R w (fun b => Iv lo w'.heap.size b ∧ v.ownBlock ≠ some b) u q := r.mono hq fun b hb => ⟨⟨hb.1.1, by have := hb.1.2; omega⟩, hb.2⟩
  exact h1.push hq' how' ho hl hg hat (Nat.le_refl _)

include inst in
theorem wl_boxK {v : Value} (hx : ev l F.s x = v) (hv : v.oneCell' = true) (hN : Nat.blt d F.N = true)
    (k : ∀ (w' : World) (g : Nat), g = w.heap.size → w'.heap.size = w.heap.size + 1 → Bk w' g t [v] → w.grownBy w' none → X rest F ((d, .pointer (some ⟨g, 0, none⟩)) :: l) w') : X (⟨some d, .box t x, ty, pos, af, none⟩ :: rest) F l w :=
  wl_box hx hv hN (k _ _ rfl (by simp) (Bk.new w t [v]) (ch_alloc w _))
include inst in
theorem wl_boxG {cs : List Value} (hx : ev l F.s x = .agg cs.toArray) (hN : Nat.blt d F.N = true)
    (k : ∀ (w' : World) (g : Nat), g = w.heap.size → w'.heap.size = w.heap.size + 1 → Bk w' g t cs → w.grownBy w' none → X rest F ((d, .pointer (some ⟨g, 0, none⟩)) :: l) w') : X (⟨some d, .box t x, ty, pos, af, none⟩ :: rest) F l w :=
  wl_boxAgg hx hN (k _ _ rfl (by simp) (Bk.new w t cs) (ch_alloc w _))
include inst in
theorem wl_allocK {cs : List Value} (h : Ty P t ds sz by_ z) (hz : z.cells = cs.toArray) (hN : Nat.blt d F.N = true)
    (k : ∀ (w' : World) (g : Nat), g = w.heap.size → w'.heap.size = w.heap.size + 1 → Bk w' g t cs → w.grownBy w' none → X rest F ((d, .pointer (some ⟨g, 0, none⟩)) :: l) w') : X (⟨some d, .alloc t, ty, pos, af, none⟩ :: rest) F l w :=
  wl_alloc h hN (by rw [hz]; exact k _ _ rfl (by simp) (Bk.new w t cs) (ch_alloc w _))
include inst in
theorem wl_storeK {g i : Nat} {tb : TypeId} {cs : List Value} {v : Value} (hb : Bk w g tb cs) (h : Ty P t ds 1 by_ z) (hx : ev l F.s x = .pointer (some ⟨g, i, none⟩)) (hi : i < cs.length) (hy : ev l F.s y = v) (hv : v.oneCell' = true)
    (k : ∀ w', Bk w' g tb (cs.set i v) → w.grownBy w' (some g) → w'.heap.size = w.heap.size → X rest F l w') : X (⟨none, .store t x y, ty, pos, af, none⟩ :: rest) F l w :=
  wl_store h hx hy hv (hb.cell (List.getElem?_eq_getElem hi)) (hb.fz i) (k _ (hb.set i v) (ch_setCell w _ v) (by simp [World.setCell]))

include inst in
theorem wl_makeB {α : Type} {r : Rep α} {K K' : IntKind} {m : Int} (x' : α) (hT : Ty P T (.slice e) sT bT zT) (hE : Ty P e ds 1 by_ z) (hz : z.oneCell' = true) (hxz : ∀ S, r.R w S z x') (hx : ev l F.s x = .int K m) (hy : ev l F.s y = .int K' m) (h0 : 0 ≤ m) (hb : (by_ : Int) * m ≤ 140737488355328 ∧ m ≤ 140737488355328) (hN : Nat.blt d F.N = true)
    (k : ∀ (w' : World) (g : Nat), g = w.heap.size → w.heap.size < w'.heap.size → Bl r e w' w.heap.size w'.heap.size (.slice (some ⟨g, 0, none⟩) m.toNat m.toNat) (List.replicate m.toNat x') → w.grownBy w' none → X rest F ((d, .slice (some ⟨g, 0, none⟩) m.toNat m.toNat) :: l) w') :
    X (⟨some d, .makeSlice T x y, ty, pos, af, none⟩ :: rest) F l w := by
  have hmn : m = (m.toNat : Int) := by omega
  refine wl_make (n := m.toNat) hT hE hz hx hmn hy hmn ?_ (by unfold maxLen; omega) hN fun w' ho hg hs => ?_
  · have h1 : ((by_ * m.toNat : Nat) : Int) ≤ 140737488355328 := by rw [Int.natCast_mul, ← hmn]; exact hb.1
    omega
  · refine k w' _ rfl hs ⟨List.replicate m.toNat z, by simpa using ho, fun g hg => by simp [Value.ownBlock] at hg; omega, by simp, fun i u q hu hq => ?_⟩ hg
    simp only [List.getElem?_replicate] at hu hq
    split at hu
    · next hlt =>
      rw [if_pos hlt] at hq
      injection hu with hu
      injection hq with hq
      subst hu hq
      exact r.kept (hxz _) fun b _ hlt => hg.block b hlt (by simp)
    · cases hu

theorem Bl.own {α : Type} {r : Rep α} {lo hi g : Nat} {v : Value} {xs : List α} (h : Bl r e w lo hi v xs) (hv : v.ownBlock = some g) : lo ≤ g ∧ g < hi ∧ g < w.heap.size := by
  obtain ⟨L, ho, hb, _, _⟩ := h
  exact ⟨(ho.lt g hv).1, hb g hv, (ho.lt g hv).2⟩
theorem Bl.key {α : Type} {r : Rep α} {lo hi : Nat} {v : Value} {xs : List α} (h : Bl r e w lo hi v xs) : ∀ g, v.ownBlock = some g → lo ≤ g ∧ g < hi ∧ g < w.heap.size := fun _ hv => h.own hv

/-- The address of an element that may be written. -/
theorem st_idxB {lo hi : Nat} {v : Value} {xs : List Int} {K K' : IntKind} {m : Int} (hr : Bl (intR K') e w lo hi v xs) (hT : Ty P T (.slice e) sT bT zT) (hE : Ty P e ds 1 by_ z) (hx : ev l F.s x = v) (hy : ev l F.s y = .int K m) (h0 : 0 ≤ m) (h1 : m < (xs.length : Int)) :
    ∃ q, (∃ g : Nat, q = .pointer (some ⟨g, m.toNat, none⟩) ∧ v.ownBlock = some g ∧ w.cell? ⟨g, m.toNat, none⟩ = some (.int K' (xs.getD m.toNat 0))) ∧ ∀ w, Rn P l F.s w ⟨some d, .indexAddr T x y, ty, pos, af, none⟩ q := by
  obtain ⟨L, ho, hb, hl, hrr⟩ := hr
  have hlt : m.toNat < L.length := by omega
  have hlt' : m.toNat < xs.length := by omega
  obtain ⟨g, cap, rfl, _, _, hg, _, _⟩ := own_form ho (by omega)
  have h2 := hrr m.toNat _ _ (List.getElem?_eq_getElem hlt) (List.getElem?_eq_getElem hlt')
  have h3 := own_cell ho (List.getElem?_eq_getElem hlt)
  refine ⟨_, ⟨g, rfl, hg, ?_⟩, fun _ => st_idxO m.toNat hT hE hx hy (by omega) hlt⟩
  rw [h3, List.getD_eq_getElem?_getD, List.getElem?_eq_getElem hlt']
  exact congrArg some h2
include inst in
theorem wl_storeB {α : Type} {r : Rep α} {lo hi g i : Nat} {v u : Value} {xs : List α} {q : α} (hr : Bl r e w lo hi v xs) (hE : Ty P e ds 1 by_ z) (hx : ev l F.s x = .pointer (some ⟨g, i, none⟩)) (hg : v.ownBlock = some g) (hi' : i < xs.length) (hy : ev l F.s y = u) (hq : ∀ w' S, r.R w' S u q)
    (k : ∀ w', Bl r e w' lo hi v (xs.set i q) → w.grownBy w' (some g) → w'.heap.size = w.heap.size → X rest F l w') : X (⟨none, .store e x y, ty, pos, af, none⟩ :: rest) F l w := by
  obtain ⟨L, ho, hb, hl, hrr⟩ := hr
  have hlt : i < L.length := by omega
  obtain ⟨g', cap, rfl, _, _, hg', _, _⟩ := own_form ho (by omega)
  rw [hg'] at hg
  injection hg with hg
  subst hg
  obtain ⟨h1, h2, ⟨u', h3⟩, h4⟩ := own_store ho hlt u
  refine wl_store hE hx hy (r.one (hq w (fun _ => True))) h3 h4 (k _ ⟨L.set i u, by simpa using h1, hb, by simp [hl], fun j p y hp hy => ?_⟩ h2 (by simp [World.setCell]))
  by_cases hij : i = j
  · subst hij
    rw [List.getElem?_set_self (by omega)] at hp hy
    injection hp with hp
    injection hy with hy
    subst hp hy
    exact hq _ _
  · rw [List.getElem?_set_ne hij] at hp hy
    refine Rep.ch (hrr j p y hp hy) h2 fun g hg hlt hS => hS.2 ?_
    rw [← hg]
    rfl
include inst in
theorem wl_storeG {g : Nat} {tb : TypeId} {old cs : List Value} (hb : Bk w g tb old) (h : Ty P t ds sz by_ z) (hx : ev l F.s x = .pointer (some ⟨g, 0, none⟩)) (hy : ev l F.s y = .agg cs.toArray) (hn : cs.length = old.length) (hs : sz = old.length) (h1 : cs.all Value.oneCell' = true)
    (k : ∀ w', Bk w' g tb cs → w.grownBy w' (some g) → w'.heap.size = w.heap.size → X rest F l w') : X (⟨none, .store t x y, ty, pos, af, none⟩ :: rest) F l w := by
  obtain ⟨w', hr, he, hg, hz⟩ := run_storeAgg (P := P) h (old := old.toArray) hb (by simp) hn hs (fun u hu => List.all_eq_true.1 h1 u hu)
  exact Runs.skip (P := P) rfl rfl (by simp [execOp, hx, hy, Instr.storeAt, Instr.sureAddr, hr]) (k w' he hg hz)
/-- A slice written out. -/
theorem lit_run {α : Type} {r : Rep α} {lo n : Nat} {parts : Array (Nat × Operand)} {us : List Value} {xs : List α} (hT : Ty P T (.slice e) sT bT zT) (hE : Ty P e ds 1 by_ z) (hz : z.oneCell' = true)
    (hparts : parts.toList.map (fun p => (p.1, ev l F.s p.2)) = frameOf 0 us) (hn : us.length = n) (hlt : n ≤ 65536) (hr : AllR r w (fun b => lo ≤ b) us xs) (hlo : lo ≤ w.heap.size) :
    ∃ (w' : World) (g : Nat), (execOp (ev l F.s) ⟨some d, .buildSlice T n parts, ty, pos, af, none⟩).run P w = .ok (.value (.slice (some ⟨g, 0, none⟩) n n)) w' ∧ g = w.heap.size ∧ w'.heap.size = w.heap.size + 1 ∧ Bl r e w' lo w'.heap.size (.slice (some ⟨g, 0, none⟩) n n) xs ∧ w.grownBy w' none := by
  subst hn
  have hzc : z.cells = #[z] := by cases z <;> first | rfl | (simp [Value.oneCell'] at hz)
  have hfill : ∀ (us : List Value), (∀ u ∈ us, u.oneCell' = true) → ∀ (pre post : List Value), post.length = us.length → Instr.fill (fun i => some (i * 1, 1)) (pre ++ post).toArray (frameOf pre.length us) = some (pre ++ us).toArray := by
    intro us
    induction us with
    | nil => intro _ pre post hp; simp at hp; subst hp; rfl
    | cons u us ih =>
      intro h1 pre post hp
      match post, hp with
      | q :: post, hp =>
        have huc : u.cells = #[u] := by have := h1 u (by simp); cases u <;> first | rfl | (simp [Value.oneCell'] at this)
        have h2 := ih (fun q hq => h1 q (by simp [hq])) (pre ++ [u]) post (by simpa using hp)
        simp only [List.length_append, List.length_singleton, List.append_assoc, List.singleton_append] at h2
        simp only [frameOf, Instr.fill, huc]
        rw [if_neg (by simp)]
        rw [← h2]
        congr 1
        apply Array.ext'
        simp
  have hcells : (Array.range (us.length * 1)).map (fun j => z.cells[j % z.cells.size]!) = (List.replicate us.length z).toArray := by
    apply Array.ext
    · simp
    · intro j h1 h2
      simp [hzc, Nat.mod_one]
  have hf := hfill us hr.one [] (List.replicate us.length z) (by simp)
  simp only [List.nil_append, List.length_nil] at hf
  have hrun : (execOp (ev l F.s) ⟨some d, .buildSlice T us.length parts, ty, pos, af, none⟩).run P w = .ok (.value (.slice (some ⟨w.heap.size, 0, none⟩) us.length us.length)) (w.alloc (.cells us.toArray e)) := by
    have hp' : parts.map (fun x => match x with | (i, x) => (i, ev l F.s x)) = (frameOf 0 us).toArray := by
      apply Array.ext'
      rw [Array.toList_map]
      exact hparts
    have h24 : ¬ us.length * 1 > 2 ^ 24 := by omega
    simp only [execOp, hp', Instr.buildSlice, Sem.run_bind, run_und hT, Result.andThen, run_size hE]
    rw [if_neg h24]
    by_cases h0 : us.length * 1 = 0
    · have hnil : us = [] := List.eq_nil_of_length_eq_zero (by omega)
      subst hnil
      have e0 : Array.map (fun _ : Nat => (default : Value)) (Array.range 0) = #[] := Array.size_eq_zero_iff.1 (by simp)
      simp [Instr.fill, frameOf, newRow, e0]
    · rw [if_neg h0]
      simp only [Sem.run_bind, run_zero hE, Result.andThen, hcells, hf, Sem.run_pure]
      simp [newRow]
  have hh : (w.alloc (.cells us.toArray e)).heap[w.heap.size]? = some (.cells us.toArray e (0, 0)) := heap_alloc_new w _
  refine ⟨_, _, hrun, rfl, by simp, ⟨us, ⟨by simp, .inr ⟨w.heap.size, us.length, us.toArray, rfl, hlo, hh, Nat.le_refl _, by unfold maxLen; omega, by simp, by simp⟩⟩, fun g hg => ?_, hr.len, fun i u x hu hx => ?_⟩, ch_alloc w _⟩
  · simp [Value.ownBlock] at hg
    subst hg
    simp
  · have h1 := Rep.pu (r.lt (hr.at_ i u x hu hx)) (ch_alloc w (.cells us.toArray e))
    refine r.mono h1 fun b hb => ⟨⟨hb.1, by simp; have := hb.2; omega⟩, fun hc => ?_⟩
    simp [Value.ownBlock] at hc
    have := hb.2
    omega
include inst in
theorem wl_lit {α : Type} {r : Rep α} {lo n : Nat} {parts : Array (Nat × Operand)} {us : List Value} {xs : List α} (hT : Ty P T (.slice e) sT bT zT) (hE : Ty P e ds 1 by_ z) (hz : z.oneCell' = true)
    (hparts : parts.toList.map (fun p => (p.1, ev l F.s p.2)) = frameOf 0 us) (hn : us.length = n) (hlt : n ≤ 65536) (hr : AllR r w (fun b => lo ≤ b) us xs) (hlo : lo ≤ w.heap.size) (hN : Nat.blt d F.N = true)
    (k : ∀ (w' : World) (g : Nat), g = w.heap.size → w'.heap.size = w.heap.size + 1 → Bl r e w' lo w'.heap.size (.slice (some ⟨g, 0, none⟩) n n) xs → w.grownBy w' none → X rest F ((d, .slice (some ⟨g, 0, none⟩) n n) :: l) w') :
    X (⟨some d, .buildSlice T n parts, ty, pos, af, none⟩ :: rest) F l w := by
  obtain ⟨w', g, h1, h2, h3, h4, h5⟩ := lit_run (P := P) (ty := ty) (pos := pos) (af := af) (d := d) (F := F) hT hE hz hparts hn hlt hr hlo
  exact Runs.run (P := P) rfl rfl hN h1 (k w' g h2 h3 h4 h5)

/-- 'append(s, x...)' onto a slice that is being built, out of another slice. -/
theorem append_run {α : Type} {r : Rep α} {lo hi : Nat} {a b : Operand} {v u : Value} {S : Nat → Prop} {xs ys : List α} (h : Bl r e w lo hi v xs) (hu : (slR r).R w S u ys) (hS : ∀ q, S q → q < w.heap.size → lo ≤ q ∧ v.ownBlock ≠ some q) (hlo : lo ≤ w.heap.size) (hT : Ty P T (.slice e) sT bT zT) (hE : Ty P e ds 1 by_ z) (hz : z.oneCell' = true)
    (ha : ev l F.s a = v) (hb : ev l F.s b = u) (hn : (xs.length + ys.length) * by_ ≤ 140737488355328) (hn' : xs.length + ys.length ≤ 140737488355328) :
    ∃ (v' : Value) (w' : World), (execOp (ev l F.s) ⟨some d, .call ⟨.builtin .append, #[a, b], #[T, T]⟩, ty, pos, af, none⟩).run P w = .ok (.value v') w' ∧ Bl r e w' lo w'.heap.size v' (xs ++ ys) ∧ w.grownBy w' v.ownBlock ∧ (∀ g, v.ownBlock = some g → lo ≤ g ∧ g < hi ∧ g < w.heap.size) ∧ w.heap.size ≤ w'.heap.size := by
  obtain ⟨L, ho, hbd, hl, hr⟩ := h
  obtain ⟨M, hrd, hml, hmr⟩ := hu
  obtain ⟨A, c, rfl, hc, hm, hcell⟩ := hrd
  obtain ⟨i, hi', hz', hs', hb'⟩ := hE.ex
  have hzc : z.cells = #[z] := by cases z <;> first | rfl | (simp [Value.oneCell'] at hz)
  have hone : ∀ q ∈ M, q.oneCell' = true := by
    intro q hq
    obtain ⟨j, hj, hjq⟩ := List.mem_iff_getElem.1 hq
    exact r.one (hmr j q (ys[j]'(by omega)) (by rw [List.getElem?_eq_getElem hj, hjq]) (List.getElem?_eq_getElem (by omega)))
  have hLown : ∀ g, v.ownBlock = some g → lo ≤ g ∧ g < hi ∧ g < w.heap.size := fun g hv => ⟨(ho.lt g hv).1, hbd g hv, (ho.lt g hv).2⟩
  rcases Nat.eq_zero_or_pos M.length with h0 | h0
  · have hM : M = [] := List.eq_nil_of_length_eq_zero h0
    have hy : ys = [] := List.eq_nil_of_length_eq_zero (by omega)
    subst hM hy
    have hrun : (Builtin.append_ #[T, T] ty #[v, .slice A 0 c]).run P w = .ok v w := by
      rcases A with _ | ad
      · rcases ho.2 with ⟨rfl, _⟩ | ⟨g, cap, cur, rfl, _, _, hnc, _⟩
        · simp [Builtin.append_, run_underlying hT.und, sizeOf, typeInfo, hi', Builtin.lenOf, Builtin.firstCells]
        · simp [Builtin.append_, run_underlying hT.und, sizeOf, typeInfo, hi', Builtin.lenOf, Builtin.firstCells, hnc, storeCells]
      · rcases ho.2 with ⟨rfl, _⟩ | ⟨g, cap, cur, rfl, _, _, hnc, _⟩
        · simp [Builtin.append_, run_underlying hT.und, sizeOf, typeInfo, hi', Builtin.lenOf, Builtin.firstCells, loadCells, loadCellsFrom]
        · simp [Builtin.append_, run_underlying hT.und, sizeOf, typeInfo, hi', Builtin.lenOf, Builtin.firstCells, hnc, storeCells, loadCells, loadCellsFrom]
    refine ⟨v, w, ?_, ?_, ⟨rfl, rfl, rfl, Nat.le_refl _, fun _ _ _ => rfl⟩, hLown, Nat.le_refl _⟩
    · simp only [List.length_nil] at hb
      simp [execOp, resolve, invoke, builtin, ha, hb, hrun]
    · rw [List.append_nil]
      exact Bl.top (hi := hi) ⟨L, ho, hbd, hl, hr⟩ (Nat.le_refl _)
  · obtain ⟨ad, rfl, hSa, hcells⟩ := hcell h0
    obtain ⟨v', w', hrun, how, hg, _, hat⟩ := run_append_own_at (P := P) w lo T ty e i z 1 by_ hT.und hi' hz' hs' hb' (by rw [hzc]; rfl) (by decide) v L.length L ho ad M.length c M (by simp) hcells hone (by unfold maxLen; omega) (by rw [hl, hml]; exact hn) hlo
    have how' : w'.ownsRow lo e 1 v' (L ++ M).length (L ++ M) := by simpa using how
    refine ⟨v', w', by simp [execOp, resolve, invoke, builtin, ha, hb, hrun], ⟨L ++ M, how', fun g hv => (how'.lt g hv).2, by simp [hl, hml], fun j q y hq hy => ?_⟩, hg, hLown, hg.size⟩
    have key : ∀ (u : Value) (x : α), r.R w (fun b => Iv lo w.heap.size b ∧ v.ownBlock ≠ some b) u x → r.R w' (fun b => Iv lo w'.heap.size b ∧ v'.ownBlock ≠ some b) u x := by
      intro u x hux
      have h1 := Rep.ch hux hg fun g hrow _ hS => hS.2 hrow
      refine r.mono h1 fun b hb => ⟨⟨hb.1.1, by have := hb.1.2; have := hg.size; omega⟩, fun hc => ?_⟩
      rcases hat with h2 | h2
      · rw [h2] at hc; exact hb.2 hc
      · rw [h2] at hc; injection hc with hc; have := hb.1.2; omega
    rcases Nat.lt_or_ge j L.length with h1 | h1
    · rw [List.getElem?_append_left h1] at hq
      rw [List.getElem?_append_left (by omega)] at hy
      exact key q y (r.mono (r.lt (hr j q y hq hy)) fun b hb => ⟨⟨hb.1.1.1, hb.2⟩, hb.1.2⟩)
    · rw [List.getElem?_append_right h1] at hq
      rw [List.getElem?_append_right (by omega), ← hl] at hy
      exact key q y (r.mono (r.lt (hmr _ q y hq hy)) fun b hb => ⟨⟨(hS b hb.1 hb.2).1, hb.2⟩, (hS b hb.1 hb.2).2⟩)
include inst in
theorem wl_append {α : Type} {r : Rep α} {lo hi : Nat} {a b : Operand} {v u : Value} {S : Nat → Prop} {xs ys : List α} (h : Bl r e w lo hi v xs) (hu : (slR r).R w S u ys) (hS : ∀ q, S q → q < w.heap.size → lo ≤ q ∧ v.ownBlock ≠ some q) (hlo : lo ≤ w.heap.size) (hT : Ty P T (.slice e) sT bT zT) (hE : Ty P e ds 1 by_ z) (hz : z.oneCell' = true)
    (ha : ev l F.s a = v) (hb : ev l F.s b = u) (hn : (xs.length + ys.length) * by_ ≤ 140737488355328) (hn' : xs.length + ys.length ≤ 140737488355328) (hN : Nat.blt d F.N = true)
    (k : ∀ v' w', Bl r e w' lo w'.heap.size v' (xs ++ ys) → w.grownBy w' v.ownBlock → (∀ g, v.ownBlock = some g → lo ≤ g ∧ g < hi ∧ g < w.heap.size) → w.heap.size ≤ w'.heap.size → X rest F ((d, v') :: l) w') :
    X (⟨some d, .call ⟨.builtin .append, #[a, b], #[T, T]⟩, ty, pos, af, none⟩ :: rest) F l w := by
  obtain ⟨v', w', h1, h2, h3, h4, h5⟩ := append_run (P := P) (ty := ty) (pos := pos) (af := af) (d := d) (F := F) h hu hS hlo hT hE hz ha hb hn hn'
  exact Runs.run (P := P) rfl rfl hN h1 (k v' w' h2 h3 h4 h5)
end rules
end Go.Proofs.YthofgamegondnaaDoor

namespace Go.Proofs.YthofgamegondnaaDoor
open Go.RowKit

section
variable {P : Program} {ops : Array Oper} {C : World → Prop} {Q : Act → World → Prop} {loud : Nat → Bool} {T : Nat}

/-- One operation, carried out: a value; nothing; or a call that returns. -/
def Lw (P : Program) (o : Oper) (a : Act) (w : World) (K : Act → World → Prop) : Prop :=
  match (execOp a.eval o).run P w with
  | .ok (.value v) w' => K (a.put o.dst v) w'
  | .ok .skip w' => K (a.put o.dst undef) w'
  | .ok (.enter f args) w' => Ret P f args w' fun v w'' => K (a.put o.dst v) w''
  | _ => False

theorem Lw.mono {o : Oper} {a : Act} {w : World} {K K' : Act → World → Prop} (h : Lw P o a w K) (hK : ∀ a w, K a w → K' a w) : Lw P o a w K' := by
  unfold Lw at *
  generalize (execOp a.eval o).run P w = r at *
  cases r with
  | ok n w' =>
    cases n <;> simp only at h ⊢ <;> first | exact hK _ _ h | exact Ret.mono h (fun v w'' hh => hK _ _ hh) | exact h
  | halt x w' => exact h

theorem Lw.wpIn {o : Oper} {a : Act} {w : World} {K : Act → World → Prop} {Q' : Exit → Act → World → Prop} (ro : Option Nat) (n : Nat) (h : Lw P o a w K) : o.wpIn (Fw ro) n P a w K Q' := by
  refine ⟨fun _ _ => trivial, ?_⟩
  unfold Lw at h
  cases hr : (execOp a.eval o).run P w with
  | ok x w' =>
    rw [hr] at h
    cases x <;> simp only at h <;> try exact h.elim
    case value v =>
      rw [show (Fw ro).round = ro from rfl, semAt_run ro hr (by simp)]
      exact h
    case skip =>
      rw [show (Fw ro).round = ro from rfl, semAt_run ro hr (by simp)]
      exact h
    case enter f args =>
      rw [show (Fw ro).round = ro from rfl, semAt_run ro hr (by simp)]
      refine ⟨(fun h => by cases h), CallsIn.mono (callsIn_fw ro _ h) fun e w'' hh => ?_⟩
      cases e with
      | returned v => exact hh
      | panicked c => exact hh.elim
      | outgrown => exact hh.elim
  | halt x w' => rw [hr] at h; exact h.elim

def QuietAt (P : Program) (C : World → Prop) (o : Oper) (v : Value) (a : Act) : Prop := ∀ w, C w → (execOp a.eval o).run P w = .ok (.value v) w

/-- Operations that read temporaries alone. -/
def isFree (o : Oper) : Bool := match o.op with
  | .move _ => true
  | _ => false
def freeAt (ops : Array Oper) (i : Nat) : Bool := (ops[i]?).any isFree
/-- Where an operation yields what is told of it. -/
def Cf (C : World → Prop) (o : Oper) (w : World) : Prop := isFree o = true ∨ C w
theorem free_quiet {o : Oper} {v : Value} {a : Act} {w : World} (hf : isFree o = true) (h : (execOp a.eval o).run P w = .ok (.value v) w) : QuietAt P (Cf C o) o v a := by
  intro w' _
  unfold isFree at hf
  split at hf
  · next x hx =>
    simp only [execOp, hx] at h ⊢
    injection h with h
    rw [h]
    rfl
  · cases hf
theorem QuietAt.up {o : Oper} {v : Value} {a : Act} {w : World} (hC : C w) (h : QuietAt P C o v a) : QuietAt P (Cf C o) o v a := by
  cases hf : isFree o with
  | true => exact free_quiet hf (h w hC)
  | false =>
    intro w' hw'
    rcases hw' with h1 | h1
    · rw [hf] at h1; cases h1
    · exact h w' h1

/-- Operation i, quiet or loud. -/
def mOp (P : Program) (ops : Array Oper) (C : World → Prop) (loud : Nat → Bool) (i : Nat) (K : Act → World → Prop) (a : Act) (w : World) : Prop :=
  match ops[i]? with
  | none => False
  | some o =>
    if Region.wanted o (yielded ops a.tmps) then
      (if loud i then Lw P o a w K else ∃ v, QuietAt P (Cf C o) o v a ∧ K (a.put o.dst v) w)
    else K (a.put o.dst undef) w

/-- No operation of the tail (from T on) has come up. -/
def Need (ops : Array Oper) (T : Nat) (listed : Array Bool) : Prop := ∀ j, T ≤ j → j < ops.size → listed.getD j true = false

def wpM (P : Program) (ops : Array Oper) (C : World → Prop) (loud : Nat → Bool) (T : Nat) (Q : Act → World → Prop) : Nat → Array Bool → Act → World → Prop
  | 0, listed, a, w => (Need ops T listed → C w) ∧ Region.ready .any ops listed = [] ∧ Q a w
  | fuel + 1, listed, a, w => (Need ops T listed → C w) ∧ (Region.ready .any ops listed = [] → Q a w) ∧
    ∀ i ∈ Region.ready .any ops listed, mOp P ops C loud i (wpM P ops C loud T Q fuel (listed.setIfInBounds i true)) a w

theorem wpM.c {fuel : Nat} {listed : Array Bool} {a : Act} {w : World} (h : wpM P ops C loud T Q fuel listed a w) : Need ops T listed → C w := by
  cases fuel <;> exact h.1

theorem wpOp_of_mOp {i : Nat} {a : Act} {w : World} {K : Act → World → Prop} {Q' : Exit → Act → World → Prop} (ro : Option Nat) (n : Nat) (hC : ∀ o, ops[i]? = some o → loud i = false → Cf C o w) (h : mOp P ops C loud i K a w) : wpOpIn (Fw ro) n P ops Q' i K a w := by
  unfold mOp at h
  unfold wpOpIn
  cases ho : ops[i]? with
  | none => rw [ho] at h; exact h.elim
  | some o =>
    rw [ho] at h
    dsimp only at h ⊢
    split at h
    · next hw =>
      rw [if_pos hw]
      split at h
      · exact h.wpIn ro n
      · next hl =>
        obtain ⟨v, hv, hK⟩ := h
        refine ⟨fun _ _ => trivial, ?_⟩
        rw [show (Fw ro).round = ro from rfl, semAt_run ro (hv w (hC o ho (by simpa using hl))) (by simp)]
        exact hK
    · next hw =>
      rw [if_neg hw]
      exact ⟨fun _ _ => trivial, h⟩

theorem mOp_mono {j : Nat} {a : Act} {w : World} {K K' : Act → World → Prop} (hK : ∀ a w, K a w → K' a w) (h : mOp P ops C loud j K a w) : mOp P ops C loud j K' a w := by
  unfold mOp at *
  cases ho : ops[j]? with
  | none => rw [ho] at h; exact h.elim
  | some o =>
    rw [ho] at h
    dsimp only at h ⊢
    split at h
    · next hw =>
      rw [if_pos hw]
      split at h
      · next hl => rw [if_pos hl]; exact h.mono hK
      · next hl => rw [if_neg hl]; obtain ⟨v, hv, h⟩ := h; exact ⟨v, hv, hK _ _ h⟩
    · next hw => rw [if_neg hw]; exact hK _ _ h

/-- What is listed lies behind nothing that is not. -/
def Closed (ops : Array Oper) (listed : Array Bool) : Prop := ∀ k o, ops[k]? = some o → listed.getD k false = true → ∀ e ∈ o.after, Region.binds .any e = true → listed.getD e.on false = true

/-- j waits for i, directly or through others. -/
def waitsT (ops : Array Oper) : Nat → Nat → Nat → Bool
  | 0, _, _ => false
  | n + 1, j, i => match ops[j]? with
    | some o => o.after.any fun e => Region.binds .any e && (e.on == i || waitsT ops n e.on i)
    | none => false

theorem waitsT_spec {listed : Array Bool} (hc : Closed ops listed) : ∀ (n j i : Nat), waitsT ops n j i = true → (∀ o, ops[j]? = some o → ∀ e ∈ o.after, Region.binds .any e = true → listed.getD e.on false = true) → listed.getD i false = true
  | 0, _, _, h, _ => by cases h
  | n + 1, j, i, h, hj => by
    unfold waitsT at h
    cases ho : ops[j]? with
    | none => rw [ho] at h; cases h
    | some o =>
      rw [ho] at h
      obtain ⟨e, he, hb⟩ := Array.any_eq_true'.1 h
      simp only [Bool.and_eq_true, Bool.or_eq_true, beq_iff_eq] at hb
      have h1 := hj o ho e he hb.1
      rcases hb.2 with h2 | h2
      · rw [← h2]; exact h1
      · exact waitsT_spec hc n e.on i h2 fun o' ho' e' he' hb' => hc e.on o' ho' h1 e' he' hb'

theorem Closed.set {listed : Array Bool} (hc : Closed ops listed) {i : Nat} (hi : i ∈ Region.ready .any ops listed) : Closed ops (listed.setIfInBounds i true) := by
  obtain ⟨hun, oi, hoi, hall⟩ := mem_ready.1 hi
  have hmono : ∀ m, listed.getD m false = true → (listed.setIfInBounds i true).getD m false = true := by
    intro m hm
    by_cases him : i = m
    · subst him
      have hlt : i < listed.size := by
        rcases Nat.lt_or_ge i listed.size with h' | h'
        · exact h'
        · simp [Array.getElem?_eq_none h'] at hm
      simp [hlt]
    · rw [getD_set_ne false him]; exact hm
  intro k o hk hl e he hb
  by_cases hik : i = k
  · subst hik
    rw [hoi] at hk
    injection hk with hk
    subst hk
    exact hmono _ (hall e he hb)
  · rw [getD_set_ne false hik] at hl
    exact hmono _ (hc k o hk hl e he hb)

/-- The tail stands behind every quiet operation. -/
def TailOk (ops : Array Oper) (loud : Nat → Bool) (T n : Nat) : Prop := ∀ j, T ≤ j → j < ops.size → ∀ i, i < ops.size → loud i = false → freeAt ops i = false → waitsT ops n j i = true

theorem need_of_quiet {listed : Array Bool} {n i : Nat} (ht : TailOk ops loud T n) (hc : Closed ops listed) (hsz : listed.size = ops.size) (hi : i < ops.size) (hl : loud i = false) (hfr : freeAt ops i = false) (hun : listed.getD i true = false) : Need ops T listed := by
  intro j hTj hj
  cases hv : listed.getD j true with
  | false => rfl
  | true =>
    exfalso
    have hjs : j < listed.size := by omega
    have his : i < listed.size := by omega
    have h1 : listed.getD j false = true := by
      simp [hjs] at hv ⊢; exact hv
    have hoj : ∃ o, ops[j]? = some o := ⟨ops[j], by simp [hj]⟩
    obtain ⟨o, ho⟩ := hoj
    have h2 := waitsT_spec hc n j i (ht j hTj hj i hi hl hfr) fun o' ho' e he hb => hc j o' ho' h1 e he hb
    simp [his] at hun h2
    rw [hun] at h2
    cases h2

theorem cf_of {listed : Array Bool} {n i : Nat} {o : Oper} {w : World} (ht : TailOk ops loud T n) (hc : Closed ops listed) (hsz : listed.size = ops.size) (hi : ops[i]? = some o) (hl : loud i = false) (hun : listed.getD i true = false) (hC : Need ops T listed → C w) : Cf C o w := by
  cases hf : isFree o with
  | true => exact .inl hf
  | false => exact .inr (hC (need_of_quiet ht hc hsz (Array.getElem?_eq_some_iff.1 hi).1 hl (by simp [freeAt, hi, hf]) hun))

theorem wpAny_of_wpM {n : Nat} {Q' : Exit → Act → World → Prop} (ro : Option Nat) (m : Nat) (ht : TailOk ops loud T n) (hQ : ∀ a w, Q a w → Q' .normal a w) : ∀ (fuel : Nat) (listed : Array Bool) (a : Act) (w : World), Closed ops listed → listed.size = ops.size → wpM P ops C loud T Q fuel listed a w → wpAnyIn (Fw ro) m P .any ops Q' fuel listed a w
  | 0, _, _, _, _, _, h => ⟨h.2.1, hQ _ _ h.2.2⟩
  | fuel + 1, listed, _, _, hc, hsz, h => ⟨fun h0 => hQ _ _ (h.2.1 h0), fun i hi => by
    refine wpOp_of_mOp (loud := loud) ro m (fun o' ho' hl => ?_) (mOp_mono (fun a w h => wpAny_of_wpM ro m ht hQ fuel _ a w (hc.set hi) (by simpa using hsz) h) (h.2.2 i hi))
    obtain ⟨hun, o, ho, _⟩ := mem_ready.1 hi
    exact cf_of ht hc hsz ho' hl hun h.1⟩

/-- What one operation yields, told of a quiet one (or of one that is not wanted). -/
def YieldsM (P : Program) (ops : Array Oper) (C : World → Prop) (o : Oper) (v : Value) (a : Act) : Prop :=
  (Region.wanted o (yielded ops a.tmps) = true ∧ QuietAt P (Cf C o) o v a) ∨ (Region.wanted o (yielded ops a.tmps) = false ∧ v = undef)

theorem YieldsM.same {o : Oper} {v : Value} {a a' : Act} (hy : YieldsM P ops C o v a) (he : execOp a'.eval o = execOp a.eval o)
    (hw : Region.wanted o (yielded ops a'.tmps) = Region.wanted o (yielded ops a.tmps)) : YieldsM P ops C o v a' := by
  unfold YieldsM QuietAt at *
  rw [he, hw]
  exact hy

theorem YieldsM.mOp {i : Nat} {o : Oper} {v : Value} {a : Act} {w : World} {K : Act → World → Prop} (hi : ops[i]? = some o) (hl : loud i = false) (hy : YieldsM P ops C o v a) (h : K (a.put o.dst v) w) : mOp P ops C loud i K a w := by
  unfold Go.Proofs.YthofgamegondnaaDoor.mOp
  rw [hi]
  dsimp only
  rcases hy with ⟨hw, hv⟩ | ⟨hw, rfl⟩
  · rw [if_pos hw, hl]; exact ⟨v, hv, h⟩
  · rw [hw]; exact h

theorem yields_of_mOp {i : Nat} {o : Oper} {a : Act} {w : World} {K : Act → World → Prop} (hi : ops[i]? = some o) (hl : loud i = false) (h : mOp P ops C loud i K a w) : ∃ v, YieldsM P ops C o v a ∧ K (a.put o.dst v) w := by
  unfold mOp at h
  rw [hi] at h
  dsimp only at h
  split at h
  · next hw =>
    rw [hl] at h
    obtain ⟨v, hv, hK⟩ := h
    exact ⟨v, .inl ⟨hw, hv⟩, hK⟩
  · next hw => exact ⟨undef, .inr ⟨by simpa using hw, rfl⟩, h⟩

theorem YieldsM.unique {o : Oper} {v v' : Value} {a : Act} {w : World} (hC : Cf C o w) (h : YieldsM P ops C o v a) (h' : YieldsM P ops C o v' a) : v = v' := by
  rcases h with ⟨h1, h2⟩ | ⟨h1, h2⟩ <;> rcases h' with ⟨h3, h4⟩ | ⟨h3, h4⟩
  · have := (h2 w hC).symm.trans (h4 w hC)
    injection this with this
    injection this with this
  · rw [h1] at h3; cases h3
  · rw [h1] at h3; cases h3
  · rw [h2, h4]

/-- An operation apart from 'oi' does not see whether oi's value is in its temporary. -/
theorem lw_put {oi oj : Oper} {a : Act} {w : World} {v : Value} {K : Act → World → Prop} (h1 : ∀ d, oi.dst = some d → d ∉ oj.looksAt ops) (h2 : ∀ d, oi.dst = some d → oj.dst ≠ some d) (hs : ∀ cs b, oj.op ≠ .select cs b) :
    Lw P oj (a.put oi.dst v) w K ↔ Lw P oj a w (fun a' w' => K (a'.put oi.dst v) w') := by
  unfold Lw
  rw [execOp_put oj hs a oi.dst v h1]
  generalize (execOp a.eval oj).run P w = r
  cases r with
  | ok n w' =>
    cases n <;> simp only
    case value u => rw [Act.put_comm a v u h2]
    case skip => rw [Act.put_comm a v undef h2]
    case enter f args =>
      constructor <;>
        (intro h
         refine Ret.mono h fun u w'' hh => ?_
         first | (rw [Act.put_comm a v u h2] at hh; exact hh) | (rw [Act.put_comm a v u h2]; exact hh))
  | halt x w' => exact Iff.rfl

theorem mOp_put {j : Nat} {oi oj : Oper} {v : Value} {a : Act} {w : World} {K : Act → World → Prop} (hj : ops[j]? = some oj) (h1 : ∀ d, oi.dst = some d → d ∉ oj.looksAt ops) (h2 : ∀ d, oi.dst = some d → oj.dst ≠ some d) (hs : ∀ cs b, oj.op ≠ .select cs b) :
    mOp P ops C loud j K (a.put oi.dst v) w ↔ mOp P ops C loud j (fun a' w' => K (a'.put oi.dst v) w') a w := by
  unfold mOp
  rw [hj]
  dsimp only
  rw [wanted_put oj a oi.dst v h1]
  split
  · split
    · exact lw_put h1 h2 hs
    · unfold QuietAt
      rw [execOp_put oj hs a oi.dst v h1]
      constructor <;> (rintro ⟨u, hu, hK⟩; exact ⟨u, hu, by first | (rw [Act.put_comm a v u h2] at hK; exact hK) | (rw [Act.put_comm a v u h2]; exact hK)⟩)
  · rw [Act.put_comm a v undef h2]

/-- Something comes of a loud operation: its post is met somewhere. -/
theorem lw_meets {o : Oper} {a : Act} {w : World} {K : Act → World → Prop} (h : Lw P o a w K) : ∃ (u : Value) (w' : World), K (a.put o.dst u) w' := by
  unfold Lw at h
  generalize (execOp a.eval o).run P w = r at *
  cases r with
  | ok n w' =>
    cases n <;> simp only at h <;> try exact h.elim
    case value u => exact ⟨u, w', h⟩
    case skip => exact ⟨undef, w', h⟩
    case enter f args =>
      obtain ⟨e, w'', fr, hR, _⟩ := h []
      cases e with
      | returned v => exact ⟨v, w'', hR⟩
      | panicked c => exact hR.elim
      | outgrown => exact hR.elim
  | halt x w' => exact h.elim

theorem mOp_meets {i : Nat} {o : Oper} {a : Act} {w : World} {K : Act → World → Prop} (hi : ops[i]? = some o) (h : mOp P ops C loud i K a w) : ∃ (u : Value) (w' : World), K (a.put o.dst u) w' := by
  unfold mOp at h
  rw [hi] at h
  dsimp only at h
  split at h
  · split at h
    · exact lw_meets h
    · obtain ⟨v, _, hK⟩ := h; exact ⟨v, w, hK⟩
  · exact ⟨undef, w, h⟩

/-- What an operation leaves in the frame, told of all frames that it may leave. -/
theorem mOp_and {j : Nat} {oj : Oper} {a : Act} {w : World} {K : Act → World → Prop} {G : Act → Prop} (hj : ops[j]? = some oj) (hG : ∀ u, G (a.put oj.dst u)) (h : mOp P ops C loud j K a w) : mOp P ops C loud j (fun a' w' => G a' ∧ K a' w') a w := by
  unfold mOp at *
  rw [hj] at h ⊢
  dsimp only at h ⊢
  split at h
  · next hw =>
    rw [if_pos hw]
    split at h
    · next hl =>
      rw [if_pos hl]
      unfold Lw at *
      generalize (execOp a.eval oj).run P w = r at *
      cases r with
      | ok n w' =>
        cases n <;> simp only at h ⊢ <;> first | exact ⟨hG _, h⟩ | exact Ret.mono h (fun v w'' hh => ⟨hG _, hh⟩) | exact h
      | halt x w' => exact h
    · next hl =>
      rw [if_neg hl]
      obtain ⟨u, hu, hK⟩ := h
      exact ⟨u, hu, hG _, hK⟩
  · next hw =>
    rw [if_neg hw]
    exact ⟨hG _, h⟩

/-- A quiet operation that may come up now may be taken first. -/
theorem wpM_first {i : Nat} {oi : Oper} {v : Value} (hi : ops[i]? = some oi) (hli : loud i = false) (hTi : ¬ T ≤ i) (hsel : ∀ (j : Nat) (o : Oper) cs b, ops[j]? = some o → o.op ≠ .select cs b) :
    ∀ (fuel : Nat) (listed : Array Bool) (a : Act) (w : World), (Need ops T listed → C w) → Closed ops listed → listed.size = ops.size →
      (∀ j oj, ops[j]? = some oj → j ≠ i → listed.getD j true = false → (∀ e ∈ oj.after, Region.binds .any e = true → e.on ≠ i) → oi.apart ops oj = true) →
      i ∈ Region.ready .any ops listed → YieldsM P ops C oi v a →
      wpM P ops C loud T Q fuel (listed.setIfInBounds i true) (a.put oi.dst v) w → wpM P ops C loud T Q (fuel + 1) listed a w := by
  have hilt : i < ops.size := (Array.getElem?_eq_some_iff.1 hi).1
  intro fuel
  induction fuel with
  | zero =>
    intro listed a w hC _ _ _ hr hy H
    refine ⟨hC, fun h => (by rw [h] at hr; cases hr), fun j hj => ?_⟩
    by_cases hji : j = i
    · subst hji; exact hy.mOp hi hli H
    · have := ready_mono hj hji
      rw [H.2.1] at this
      cases this
  | succ fuel ih =>
    intro listed a w hC hcl hsz hfree hr hy H
    refine ⟨hC, fun h => (by rw [h] at hr; cases hr), fun j hj => ?_⟩
    by_cases hji : j = i
    · subst hji; exact hy.mOp hi hli H
    · have h1 := H.2.2 j (ready_mono hj hji)
      obtain ⟨hjun, oj, hoj, hall⟩ := mem_ready.1 hj
      have hiun := (mem_ready.1 hr).1
      have hnl : ¬ listed.getD i false = true := fun h1 => by
        have h' : i < listed.size := by omega
        simp [h'] at hiun h1; rw [hiun] at h1; cases h1
      have hnot : ∀ e ∈ oj.after, Region.binds .any e = true → e.on ≠ i := fun e he hb heq => hnl (by rw [← heq]; exact hall e he hb)
      obtain ⟨ap1, ap2, ap3⟩ := Oper.apart_spec (hfree j oj hoj hji hjun hnot)
      have h2 := (mOp_put hoj ap1 ap2 (fun cs b => hsel j oj cs b hoj)).1 h1
      have hfree' : ∀ k ok, ops[k]? = some ok → k ≠ i → (listed.setIfInBounds j true).getD k true = false →
          (∀ e ∈ ok.after, Region.binds .any e = true → e.on ≠ i) → oi.apart ops ok = true := fun k ok hk hki hun hno => by
        refine hfree k ok hk hki ?_ hno
        by_cases hjk : j = k
        · subst hjk; exact hjun
        · rw [getD_set_ne true hjk] at hun; exact hun
      have hG : ∀ u, YieldsM P ops C oi v (a.put oj.dst u) := fun u => hy.same (execOp_put oi (fun cs b => hsel i oi cs b hi) a oj.dst u ap3) (wanted_put oi a oj.dst u ap3)
      have hr2 : i ∈ Region.ready .any ops (listed.setIfInBounds j true) := ready_mono hr (Ne.symm hji)
      have hneed : Need ops T (listed.setIfInBounds j true) → Need ops T ((listed.setIfInBounds j true).setIfInBounds i true) := by
        intro h0 k hTk hk
        have hki : i ≠ k := fun e => hTi (by omega)
        rw [getD_set_ne true hki]
        exact h0 k hTk hk
      refine mOp_mono (fun a' w' h4 => ?_) (mOp_and hoj hG h2)
      have h5 : wpM P ops C loud T Q fuel ((listed.setIfInBounds j true).setIfInBounds i true) (a'.put oi.dst v) w' := by
        rw [Array.setIfInBounds_comm _ _ hji]
        exact h4.2
      exact ih (listed.setIfInBounds j true) a' w' (fun hn => h5.c (hneed hn)) (hcl.set hj) (by simpa using hsz) hfree' hr2 h4.1 h5

/-- A loud operation that may come up now may be taken first, if every other loud one is behind it. -/
theorem wpM_loud {n i : Nat} {oi : Oper} (ht : TailOk ops loud T n) (hi : ops[i]? = some oi) (hsel : ∀ (j : Nat) (o : Oper) cs b, ops[j]? = some o → o.op ≠ .select cs b) :
    ∀ (fuel : Nat) (listed : Array Bool) (a : Act) (w : World), (∀ j, j < ops.size → j ≠ i → loud j = true → listed.getD j true = false → waitsT ops n j i = true) → Closed ops listed → listed.size = ops.size → (Need ops T listed → C w) →
      (∀ j oj, ops[j]? = some oj → j ≠ i → listed.getD j true = false → (∀ e ∈ oj.after, Region.binds .any e = true → e.on ≠ i) → oi.apart ops oj = true) →
      i ∈ Region.ready .any ops listed →
      mOp P ops C loud i (wpM P ops C loud T Q fuel (listed.setIfInBounds i true)) a w → wpM P ops C loud T Q (fuel + 1) listed a w := by
  intro fuel
  induction fuel with
  | zero =>
    intro listed a w _ _ _ hC _ hr H
    refine ⟨hC, fun h => (by rw [h] at hr; cases hr), fun j hj => ?_⟩
    by_cases hji : j = i
    · subst hji; exact H
    · obtain ⟨u, w', h1⟩ := mOp_meets hi H
      have := ready_mono hj hji
      rw [h1.2.1] at this
      cases this
  | succ fuel ih =>
    intro listed a w hT hcl hsz hC hfree hr H
    refine ⟨hC, fun h => (by rw [h] at hr; cases hr), fun j hj => ?_⟩
    by_cases hji : j = i
    · subst hji; exact H
    · obtain ⟨hjun, oj, hoj, hall⟩ := mem_ready.1 hj
      have hiun := (mem_ready.1 hr).1
      have hilt : i < ops.size := (Array.getElem?_eq_some_iff.1 hi).1
      have hnl : ¬ listed.getD i false = true := fun h1 => by
        have h' : i < listed.size := by omega
        simp [h'] at hiun h1; rw [hiun] at h1; cases h1
      have hnot : ∀ e ∈ oj.after, Region.binds .any e = true → e.on ≠ i := fun e he hb heq => hnl (by rw [← heq]; exact hall e he hb)
      have hjlt : j < ops.size := (Array.getElem?_eq_some_iff.1 hoj).1
      have hlj : loud j = false := by
        cases hlj : loud j with
        | false => rfl
        | true =>
          exact absurd (waitsT_spec hcl n j i (hT j hjlt hji hlj hjun) fun o ho e he hb => by rw [hoj] at ho; injection ho with ho; subst ho; exact hall e he hb) hnl
      obtain ⟨ap1, ap2, ap3⟩ := Oper.apart_spec (hfree j oj hoj hji hjun hnot)
      have hCw : Need ops T (listed.setIfInBounds j true) → C w := fun hn => hC fun k hTk hk => by
        by_cases hjk : j = k
        · subst hjk; exact hjun
        · have := hn k hTk hk; rwa [getD_set_ne true hjk] at this
      -- what j yields
      obtain ⟨u, w', h1⟩ := mOp_meets hi H
      obtain ⟨v, hy, _⟩ := yields_of_mOp hoj hlj (h1.2.2 j (ready_mono hj hji))
      have hya : YieldsM P ops C oj v a := hy.same (execOp_put oj (fun cs b => hsel j oj cs b hoj) _ oi.dst u ap1).symm (wanted_put oj _ oi.dst u ap1).symm
      refine hya.mOp hoj hlj ?_
      have hfree' : ∀ k ok, ops[k]? = some ok → k ≠ i → (listed.setIfInBounds j true).getD k true = false →
          (∀ e ∈ ok.after, Region.binds .any e = true → e.on ≠ i) → oi.apart ops ok = true := fun k ok hk hki hun hno => by
        refine hfree k ok hk hki ?_ hno
        by_cases hjk : j = k
        · subst hjk; exact hjun
        · rw [getD_set_ne true hjk] at hun; exact hun
      have hT' : ∀ k, k < ops.size → k ≠ i → loud k = true → (listed.setIfInBounds j true).getD k true = false → waitsT ops n k i = true := fun k hk hki hkl hun => by
        refine hT k hk hki hkl ?_
        by_cases hjk : j = k
        · subst hjk; exact hjun
        · rw [getD_set_ne true hjk] at hun; exact hun
      refine ih (listed.setIfInBounds j true) (a.put oj.dst v) w hT' (hcl.set hj) (by simpa using hsz) hCw hfree' (ready_mono hr (Ne.symm hji)) ?_
      have ap2' : ∀ d, oj.dst = some d → oi.dst ≠ some d := fun d hd hd' => ap2 d hd' hd
      rw [mOp_put hi ap3 ap2' (fun cs b => hsel i oi cs b hi)]
      have hG : ∀ u, YieldsM P ops C oj v (a.put oi.dst u) := fun u => hya.same (execOp_put oj (fun cs b => hsel j oj cs b hoj) a oi.dst u ap1) (wanted_put oj a oi.dst u ap1)
      have hr2 := ready_mono (md := .any) (ops := ops) hj hji
      refine mOp_mono (fun a' w'' h2 => ?_) (mOp_and hi hG H)
      obtain ⟨v', hy', h3⟩ := yields_of_mOp hoj hlj (h2.2.2.2 j hr2)
      rw [YieldsM.unique (cf_of ht (hcl.set hr) (by simpa using hsz) hoj hlj (mem_ready.1 hr2).1 h2.2.c) h2.1 hy', Array.setIfInBounds_comm _ _ hji]
      exact h3
end
section
variable {P : Program} {ops : Array Oper} {C : World → Prop} {Q : Act → World → Prop} {loud : Nat → Bool} {T : Nat}
/-- One walk in the order of the text. -/
def wpMix (P : Program) (ops : Array Oper) (C : World → Prop) (loud : Nat → Bool) (T : Nat) (Q : Act → World → Prop) : Nat → List Oper → Act → World → Prop
  | k, [], a, w => (k ≤ T → C w) ∧ Q a w
  | k, o :: rest, a, w => (k ≤ T → C w) ∧
    (if Region.wanted o (yielded ops a.tmps) then
      (if loud k then Lw P o a w (wpMix P ops C loud T Q (k + 1) rest) else ∃ v, QuietAt P C o v a ∧ wpMix P ops C loud T Q (k + 1) rest (a.put o.dst v) w)
    else wpMix P ops C loud T Q (k + 1) rest (a.put o.dst undef) w)

def loudB (ops : Array Oper) (loud : Nat → Bool) (T : Nat) : Bool :=
  ((List.range ops.size).all fun k => !loud k || (List.range ops.size).all fun j => !(decide (k < j) && loud j) || waitsT ops ops.size j k) &&
  ((List.range ops.size).all fun j => !decide (T ≤ j) || (loud j && (List.range ops.size).all fun i => loud i || freeAt ops i || waitsT ops ops.size j i))

theorem loudB_spec (h : loudB ops loud T = true) {k j : Nat} (hk : k < ops.size) (hj : j < ops.size) (hlk : loud k = true) (hlj : loud j = true) (hkj : k < j) : waitsT ops ops.size j k = true := by
  unfold loudB at h
  rw [Bool.and_eq_true] at h
  have h1 := List.all_eq_true.1 h.1 k (by simpa using hk)
  simp only [hlk, Bool.not_true, Bool.false_or] at h1
  have h2 := List.all_eq_true.1 h1 j (by simpa using hj)
  simpa [hkj, hlj] using h2
theorem loudB_tail (h : loudB ops loud T = true) : TailOk ops loud T ops.size := by
  unfold loudB at h
  rw [Bool.and_eq_true] at h
  intro j hTj hj i hi hli hfr
  have h1 := List.all_eq_true.1 h.2 j (by simpa using hj)
  simp only [hTj, decide_true, Bool.not_true, Bool.false_or, Bool.and_eq_true] at h1
  have h2 := List.all_eq_true.1 h1.2 i (by simpa using hi)
  simpa [hli, hfr] using h2
theorem loudB_T (h : loudB ops loud T = true) {j : Nat} (hTj : T ≤ j) (hj : j < ops.size) : loud j = true := by
  unfold loudB at h
  rw [Bool.and_eq_true] at h
  have h1 := List.all_eq_true.1 h.2 j (by simpa using hj)
  simp only [hTj, decide_true, Bool.not_true, Bool.false_or, Bool.and_eq_true] at h1
  exact h1.1

theorem wpM_lex (hs : Region.noSelect ops = true) (hb : loudB ops loud T = true) : ∀ (l : List Oper) (k : Nat) (listed : Array Bool) (a : Act) (w : World), k + l.length = ops.size → (∀ j, l[j]? = ops[k + j]?) →
    Region.lexFrom .any ops l.length k listed = true → Closed ops listed → listed.size = ops.size → (∀ j, j < k → listed.getD j true = true) → wpMix P ops C loud T Q k l a w → wpM P ops C loud T Q l.length listed a w
  | [], k, listed, a, w, hkl, _, hB, _, _, hlt, h => by
    refine ⟨fun hn => h.1 ?_, by simpa [Region.lexFrom] using hB, h.2⟩
    rcases Nat.lt_or_ge T k with h1 | h1
    · exfalso
      have h2 := hn T (Nat.le_refl _) (by simp at hkl; omega)
      rw [hlt T h1] at h2
      cases h2
    · exact h1
  | o :: l, k, listed, a, w, hkl, hl, hB, hcl, hsz, hlt, h => by
    have h0 : ops[k]? = some o := by simpa using (hl 0).symm
    have hk : k < ops.size := (Array.getElem?_eq_some_iff.1 h0).1
    simp only [List.length_cons, Region.lexFrom, Bool.and_eq_true] at hB
    obtain ⟨⟨hr, hf⟩, hB'⟩ := hB
    have hr' : k ∈ Region.ready .any ops listed := by simpa using hr
    have rec_ : ∀ a w, wpMix P ops C loud T Q (k + 1) l a w → wpM P ops C loud T Q l.length (listed.setIfInBounds k true) a w := fun a w hh =>
      wpM_lex hs hb l (k + 1) _ a w (by simp at hkl; omega) (fun j => by have := hl (j + 1); simpa [Nat.add_assoc, Nat.add_comm 1 j] using this) hB' (hcl.set hr') (by simpa using hsz) (fun j hj => by
        by_cases hjk : k = j
        · subst hjk
          have hlt' : k < listed.size := by omega
          simp [hlt']
        · rw [getD_set_ne true hjk]; exact hlt j (by omega)) hh
    obtain ⟨hC, hh⟩ := h
    have hst : mOp P ops C loud k (wpMix P ops C loud T Q (k + 1) l) a w := by
      unfold mOp
      rw [h0]
      dsimp only
      split at hh
      · next hw =>
        rw [if_pos hw]
        split at hh
        · next hl => rw [if_pos hl]; exact hh
        · next hl =>
          rw [if_neg hl]
          obtain ⟨v, hv, hK⟩ := hh
          have hkT : k ≤ T := by
            rcases Nat.lt_or_ge T k with h1 | h1
            · exact absurd (loudB_T hb (by omega) hk) hl
            · exact h1
          exact ⟨v, hv.up (hC hkT), hK⟩
      · next hw => rw [if_neg hw]; exact hh
    cases hlk : loud k with
    | false =>
      obtain ⟨v, hy, hK⟩ := yields_of_mOp h0 hlk hst
      have hkT : ¬ T ≤ k := fun h1 => by rw [loudB_T hb h1 hk] at hlk; cases hlk
      exact wpM_first h0 hlk hkT (Region.noSelect_spec hs) l.length listed a w (fun _ => hC (by omega)) hcl hsz (Region.free_spec h0 hf) hr' hy (rec_ _ _ hK)
    | true =>
      refine wpM_loud (n := ops.size) (loudB_tail hb) h0 (Region.noSelect_spec hs) l.length listed a w (fun j hj hjk hlj hun => ?_) hcl hsz (fun hn => hC ?_) (Region.free_spec h0 hf) hr' (mOp_mono rec_ hst)
      · have hkj : k < j := by
          rcases Nat.lt_trichotomy k j with h1 | h1 | h1
          · exact h1
          · exact absurd h1.symm hjk
          · rw [hlt j h1] at hun; cases hun
        exact loudB_spec hb hk hj hlk hlj hkj
      · rcases Nat.lt_or_ge T k with h1 | h1
        · exfalso
          have h2 := hn T (Nat.le_refl _) (by omega)
          rw [hlt T h1] at h2
          cases h2
        · exact h1

theorem wp_region_mix {id : Nat} {Q' : Exit → Act → World → Prop} {a : Act} {w : World} {l : List Oper} (ro : Option Nat) (m : Nat) (hm : P.follows .mixedOrders = true) (hB : Region.lexB .any l.toArray = true) (hb : loudB l.toArray loud T = true)
    (h : wpMix P l.toArray C loud T (fun a w => Q' .normal a w) 0 l a w.drew) : (Code.region id l.toArray true).wpIn (Fw ro) m P Q' a w := by
  simp only [Region.lexB, Bool.and_eq_true] at hB
  have hcl : Closed l.toArray (Array.replicate l.toArray.size false) := fun k o hk hlis => by
    rw [getD_replicate_false] at hlis; cases hlis
  refine wpIn_region_any hm (wpAny_of_wpM (C := C) (loud := loud) (T := T) (n := l.toArray.size) (Q := fun a w => Q' .normal a w) ro m (loudB_tail hb) (fun _ _ h => h) _ _ _ _ hcl (by simp) ?_)
  have := wpM_lex (P := P) (C := C) (loud := loud) (T := T) (Q := fun a w => Q' .normal a w) (ops := l.toArray) hB.1 hb l 0 (Array.replicate l.toArray.size false) a w.drew (by simp) (by simp) (by simpa using hB.2) hcl (by simp) (fun j hj => by omega) h
  simpa using this
end

section rules
variable {P : Program} {Q : Exit → Act → World → Prop} {F : Frm} {l : List (Nat × Value)} {w : World} {ops : Array Oper} {rest : List Oper} {C : World → Prop} {loud : Nat → Bool} {T : Nat}

/-- The walk in a region that draws its order: quiet operations, loud ones, and a tail of loud ones (from T on) that may turn what the quiet ones read. -/
def WM (P : Program) (ops : Array Oper) (C : World → Prop) (loud : Nat → Bool) (T : Nat) (Q : Exit → Act → World → Prop) (k : Nat) (rest : List Oper) (F : Frm) (l : List (Nat × Value)) (w : World) : Prop :=
  ∀ a, Ag F l a → wpMix P ops C loud T (fun a w => Q .normal a w) k rest a w

theorem wc_region_mix {id : Nat} {oplist : List Oper} (C : World → Prop) (loud : Nat → Bool) (T : Nat) (hm : P.follows .mixedOrders = true) (hB : Region.lexB .any oplist.toArray = true) (hb : loudB oplist.toArray loud T = true) (h : WM P oplist.toArray C loud T Q 0 oplist F l w.drew) : WC P (.region id oplist.toArray true) Q F l w :=
  fun a ha => wp_region_mix F.ro 0 hm hB hb (h a ha)
theorem wm_nil {k : Nat} (hC : k ≤ T → C w) (h : WQ Q .normal F l w) : WM P ops C loud T Q k [] F l w := fun a ha => ⟨hC, h a ha⟩
theorem wm_v {k d : Nat} {o : Oper} {v : Value} (hk : loud k = false) (hC : k ≤ T → C w) (h : ∀ w', C w' → Rn P l F.s w' o v) (hg : o.guard = none) (hd : o.dst = some d) (hN : Nat.blt d F.N = true) (h' : WM P ops C loud T Q (k + 1) rest F ((d, v) :: l) w) : WM P ops C loud T Q k (o :: rest) F l w := fun a ha => by
  refine ⟨hC, ?_⟩
  rw [if_pos (by simp [Region.wanted, hg]), if_neg (by rw [hk]; simp)]
  exact ⟨v, fun w' hw' => by rw [ha.eval]; exact h w' hw', by rw [hd]; exact h' _ (ha.put hN v)⟩
/-- A quiet operation whose value is not written out. -/
theorem wm_e {k d : Nat} {o : Oper} {G : Value → Prop} (hk : loud k = false) (hC : k ≤ T → C w) (h : ∃ v, G v ∧ ∀ w', Rn P l F.s w' o v) (hg : o.guard = none) (hd : o.dst = some d) (hN : Nat.blt d F.N = true) (h' : ∀ v, G v → WM P ops C loud T Q (k + 1) rest F ((d, v) :: l) w) : WM P ops C loud T Q k (o :: rest) F l w := by
  obtain ⟨v, hG, hr⟩ := h
  exact wm_v hk hC (fun w' _ => hr w') hg hd hN (h' v hG)
theorem wm_run {k d : Nat} {o : Oper} {v : Value} {w' : World} (hk : loud k = true) (hC : k ≤ T → C w) (hg : o.guard = none) (hd : o.dst = some d) (hN : Nat.blt d F.N = true) (h : (execOp (ev l F.s) o).run P w = .ok (.value v) w') (h' : WM P ops C loud T Q (k + 1) rest F ((d, v) :: l) w') : WM P ops C loud T Q k (o :: rest) F l w := fun a ha => by
  refine ⟨hC, ?_⟩
  rw [if_pos (by simp [Region.wanted, hg]), if_pos hk]
  unfold Lw
  rw [ha.eval, h]
  show wpMix P ops C loud T _ (k + 1) rest (a.put o.dst v) w'
  rw [hd]
  exact h' _ (ha.put hN v)
theorem wm_enter {k d : Nat} {o : Oper} {f : FuncId} {vs : Array Value} {S : Value → World → Prop} (hk : loud k = true) (hC : k ≤ T → C w) (hg : o.guard = none) (hd : o.dst = some d) (hN : Nat.blt d F.N = true) (hrun : (execOp (ev l F.s) o).run P w = .ok (.enter f vs) w) (h : Ret P f vs w S)
    (h' : ∀ v w', S v w' → WM P ops C loud T Q (k + 1) rest F ((d, v) :: l) w') : WM P ops C loud T Q k (o :: rest) F l w := fun a ha => by
  refine ⟨hC, ?_⟩
  rw [if_pos (by simp [Region.wanted, hg]), if_pos hk]
  unfold Lw
  rw [ha.eval, hrun]
  refine Ret.mono h fun v w' hS => ?_
  show wpMix P ops C loud T _ (k + 1) rest (a.put o.dst v) w'
  rw [hd]
  exact h' v w' hS _ (ha.put hN v)
theorem wm_call {k d : Nat} {ty : TypeId} {pos : String} {af : Array Edge} {f : FuncId} {args : Array Operand} {tys : Array TypeId} {vs : List Value} {S : Value → World → Prop} (hk : loud k = true) (hC : k ≤ T → C w) (hc : Callable P f) (hargs : args.toList.map (ev l F.s) = vs) (hN : Nat.blt d F.N = true) (h : Ret P f vs.toArray w S)
    (h' : ∀ v w', S v w' → WM P ops C loud T Q (k + 1) rest F ((d, v) :: l) w') : WM P ops C loud T Q k (⟨some d, .call ⟨.value (.func f), args, tys⟩, ty, pos, af, none⟩ :: rest) F l w :=
  wm_enter hk hC rfl rfl hN (by
    have e : args.map (ev l F.s) = vs.toArray := by
      apply Array.ext'
      rw [← hargs, Array.toList_map]
    simp [execOp, resolve, ev, Deferred.ofValue, invoke, e, hc.run]) h h'
theorem wm_bool {k : Nat} (b : Bool) (ht : b = true → WM P ops C loud T Q k rest F l w) (hf : b = false → WM P ops C loud T Q k rest F l w) : WM P ops C loud T Q k rest F l w := by
  cases b
  · exact hf rfl
  · exact ht rfl
theorem wm_guard_no {k d : Nat} {o : Oper} {j : Nat} {want b : Bool} {oj : Oper} {dj : Nat} (hC : k ≤ T → C w) (hg : o.guard = some (j, want)) (hj : ops[j]? = some oj) (hdj : oj.dst = some dj) (hb : fr l F.s dj = .bool b) (hbw : (b == want) = false) (hd : o.dst = some d) (hN : Nat.blt d F.N = true)
    (h : WM P ops C loud T Q (k + 1) rest F ((d, undef) :: l) w) : WM P ops C loud T Q k (o :: rest) F l w := fun a ha => by
  refine ⟨hC, ?_⟩
  rw [if_neg (by rw [(wanted_of hg hj hdj ha hb).trans hbw]; simp), hd]
  exact h _ (ha.put hN _)
theorem wm_guard_yes {k : Nat} {o : Oper} {j : Nat} {want b : Bool} {oj : Oper} {dj : Nat} (hg : o.guard = some (j, want)) (hj : ops[j]? = some oj) (hdj : oj.dst = some dj) (hb : fr l F.s dj = .bool b) (hbw : (b == want) = true)
    (h : WM P ops C loud T Q k ({ o with guard := none } :: rest) F l w) : WM P ops C loud T Q k (o :: rest) F l w := fun a ha => by
  obtain ⟨hC, h1⟩ := h a ha
  have hw : Region.wanted o (yielded ops a.tmps) = true := (wanted_of hg hj hdj ha hb).trans hbw
  rw [if_pos (by simp [Region.wanted])] at h1
  refine ⟨hC, ?_⟩
  rw [if_pos hw]
  exact h1
theorem wm_lit {T' e ty d k : Nat} {pos : String} {af : Array Edge} {ds : TypeDesc} {by_ sT bT : Nat} {z zT : Value} {α : Type} {r : Rep α} {lo n : Nat} {parts : Array (Nat × Operand)} {us : List Value} {xs : List α} (hk : loud k = true) (hC : k ≤ T → C w) (hT : Ty P T' (.slice e) sT bT zT) (hE : Ty P e ds 1 by_ z) (hz : z.oneCell' = true)
    (hparts : parts.toList.map (fun p => (p.1, ev l F.s p.2)) = frameOf 0 us) (hn : us.length = n) (hlt : n ≤ 65536) (hr : AllR r w (fun b => lo ≤ b) us xs) (hlo : lo ≤ w.heap.size) (hN : Nat.blt d F.N = true)
    (kk : ∀ (w' : World) (g : Nat), g = w.heap.size → w'.heap.size = w.heap.size + 1 → Bl r e w' lo w'.heap.size (.slice (some ⟨g, 0, none⟩) n n) xs → w.grownBy w' none → WM P ops C loud T Q (k + 1) rest F ((d, .slice (some ⟨g, 0, none⟩) n n) :: l) w') :
    WM P ops C loud T Q k (⟨some d, .buildSlice T' n parts, ty, pos, af, none⟩ :: rest) F l w := by
  obtain ⟨w', g, h1, h2, h3, h4, h5⟩ := lit_run (P := P) (ty := ty) (pos := pos) (af := af) (d := d) (F := F) hT hE hz hparts hn hlt hr hlo
  exact wm_run hk hC rfl rfl hN h1 (kk w' g h2 h3 h4 h5)
/-- The tail of such a region: the plain walk's rules. -/
def WT (P : Program) (ops : Array Oper) (C : World → Prop) (loud : Nat → Bool) (T : Nat) (Q : Exit → Act → World → Prop) (rest : List Oper) (F : Frm) (l : List (Nat × Value)) (w : World) : Prop :=
  ∀ k, T ≤ k → (k ≤ T → C w) → (∀ j, k ≤ j → loud j = true) → WM P ops C loud T Q k rest F l w
instance : Runs P (WT P ops C loud T Q) where
  run := fun hg hd hN h hk k hT hC hl a ha => ⟨hC, by
    rw [if_pos (by simp [Region.wanted, hg]), if_pos (hl k (Nat.le_refl _))]
    unfold Lw
    rw [ha.eval, h]
    dsimp only
    rw [hd]
    exact hk (k + 1) (by omega) (fun h => absurd h (by omega)) (fun j hj => hl j (by omega)) _ (ha.put hN _)⟩
  runNone := fun hg hd h hk k hT hC hl a ha => ⟨hC, by
    rw [if_pos (by simp [Region.wanted, hg]), if_pos (hl k (Nat.le_refl _))]
    unfold Lw
    rw [ha.eval, h]
    dsimp only
    rw [hd]
    exact hk (k + 1) (by omega) (fun h => absurd h (by omega)) (fun j hj => hl j (by omega)) _ ha⟩
  skip := fun hg hd h hk k hT hC hl a ha => ⟨hC, by
    rw [if_pos (by simp [Region.wanted, hg]), if_pos (hl k (Nat.le_refl _))]
    unfold Lw
    rw [ha.eval, h]
    dsimp only
    rw [hd]
    exact hk (k + 1) (by omega) (fun h => absurd h (by omega)) (fun j hj => hl j (by omega)) _ ha⟩
  enter := fun hg hd hN hr h hk k hT hC hl a ha => ⟨hC, by
    rw [if_pos (by simp [Region.wanted, hg]), if_pos (hl k (Nat.le_refl _))]
    unfold Lw
    rw [ha.eval, hr]
    refine Ret.mono h fun v w' hS => ?_
    rw [hd]
    exact hk v w' hS (k + 1) (by omega) (fun h => absurd h (by omega)) (fun j hj => hl j (by omega)) _ (ha.put hN v)⟩
  enterNone := fun hg hd hr h hk k hT hC hl a ha => ⟨hC, by
    rw [if_pos (by simp [Region.wanted, hg]), if_pos (hl k (Nat.le_refl _))]
    unfold Lw
    rw [ha.eval, hr]
    refine Ret.mono h fun v w' hS => ?_
    rw [hd]
    exact hk v w' hS (k + 1) (by omega) (fun h => absurd h (by omega)) (fun j hj => hl j (by omega)) _ ha⟩
theorem wt_nil (hq : WQ Q .normal F l w) : WT P ops C loud T Q [] F l w := fun _ _ hC _ a ha => ⟨hC, hq a ha⟩
theorem wm_tail {k : Nat} (hT : T ≤ k) (hC : k ≤ T → C w) (hl : ∀ j, k ≤ j → loud j = true) (h : WT P ops C loud T Q rest F l w) : WM P ops C loud T Q k rest F l w := h k hT hC hl
end rules
end Go.Proofs.YthofgamegondnaaDoor

namespace Go.Proofs.YthofgamegondnaaDoor
open Go.RowKit

def mark (r : Nat) : Deferred := { target := .collected r, args := #[] }

/-- The deferred calls of a frame are marks of empty blocks, from block lo on, each below the one before. -/
def Mk (w : World) (lo : Nat) : Nat → List Deferred → Prop
  | _, [] => True
  | hi, d :: D => ∃ r, lo ≤ r ∧ r < hi ∧ d = mark r ∧ w.heap[r]? = some (.deferred (some [])) ∧ Mk w lo r D

section
variable {w w' : World} {lo hi : Nat} {D : List Deferred} {row : Option Nat}
theorem Mk.widen {hi' : Nat} (h : Mk w lo hi D) (hh : hi ≤ hi') : Mk w lo hi' D := by
  cases D with
  | nil => trivial
  | cons d D => obtain ⟨r, h1, h2, h3⟩ := h; exact ⟨r, h1, by omega, h3⟩
theorem Mk.ch (h : Mk w lo hi D) (hg : w.grownBy w' row) (hr : ∀ g, row = some g → g < w.heap.size → hi ≤ g ∨ g < lo ∨ ∀ ds, w.heap[g]? ≠ some (.deferred ds)) : Mk w' lo hi D := by
  induction D generalizing hi with
  | nil => trivial
  | cons d D ih =>
    obtain ⟨r, h1, h2, h3, h4, h5⟩ := h
    have hlt : r < w.heap.size := by
      rcases Nat.lt_or_ge r w.heap.size with h | h
      · exact h
      · rw [Array.getElem?_eq_none h] at h4; cases h4
    refine ⟨r, h1, h2, h3, (hg.block r hlt fun e => ?_).trans h4, ih h5 fun g e hl => ?_⟩
    · rcases hr r e.symm hlt with h | h | h
      · omega
      · omega
      · exact h _ h4
    · rcases hr g e hl with h | h
      · exact .inl (by omega)
      · exact .inr h
theorem Mk.pu (h : Mk w lo hi D) (hg : w.grownBy w' none) : Mk w' lo hi D := h.ch hg fun _ e => by cases e
theorem Mk.nil (w : World) (lo hi : Nat) : Mk w lo hi [] := trivial
theorem Bk.notMark {g : Nat} {t : TypeId} {cs : List Value} (h : Bk w g t cs) : ∀ ds, w.heap[g]? ≠ some (.deferred ds) := fun ds e => by
  unfold Bk at h; rw [h] at e; cases e
end

section leave
variable {P : Program} {fn : Func} {tmps : Array Value} {R : Ending → World → Prop}
theorem ch_putObj (w : World) (r : Nat) (o : Obj) : w.grownBy (w.putObj r o) (some r) :=
  ⟨rfl, rfl, rfl, by simp, fun k _ hne => World.putObj_heap_other (fun e => hne (by rw [e]))⟩
theorem leaves_marks {lo : Nat} : ∀ {D : List Deferred} {hi : Nat} {w : World}, Mk w lo hi D → (∀ w', Below lo w w' → ∃ v, (results fn tmps).run P w' = .ok v w' ∧ R (.returned v) w') → LeavesInM (Fw none) 0 P fn tmps R D .returning w
  | [], _, w, _, h => h w (Below.refl _ _)
  | d :: D, hi, w, hm, h => by
    obtain ⟨r, h1, h2, rfl, h4, h5⟩ := hm
    refine ⟨by simp, .inl ⟨r, w.putObj r (.deferred none), rfl, run_takeDeferred h4, leaves_marks (Mk.ch h5 (ch_putObj w r _) fun g e _ => .inl (by injection e with e; omega)) fun w' hb => h w' ?_⟩⟩
    refine ⟨hb.os, hb.tape, hb.output, Nat.le_trans (by simp) hb.size, fun k hk => (hb.block k hk).trans (World.putObj_heap_other (by omega))⟩
end leave

section ret
variable {P : Program} {F : Frm} {l : List (Nat × Value)} {w : World} {fn : Func} {R : Ending → World → Prop} {lo hi : Nat}
theorem wq_ret1M {t : Tmp} {v : Value} (hr : fn.results = #[.tmp t]) (hm : Mk w lo hi F.D) (hv : fr l F.s t = v) (h : ∀ w', Below lo w w' → R (.returned v) w') : WQ (bodyPostM (Fw none) 0 P fn R) .ret F l w :=
  fun a ha => leaves_marks (ha.defers ▸ hm) fun w' hb => ⟨v, by have := results_tmp hr a.tmps P w'; rw [ha.get, hv] at this; exact this, h w' hb⟩
theorem wq_end0M (hr : fn.results = #[]) (hm : Mk w lo hi F.D) (h : ∀ w', Below lo w w' → R (.returned (.tuple #[])) w') : WQ (bodyPostM (Fw none) 0 P fn R) .normal F l w :=
  fun a ha => leaves_marks (ha.defers ▸ hm) fun w' hb => ⟨_, results_none hr a.tmps P w', h w' hb⟩
theorem wq_retcellGM {t : Tmp} {e : TypeId} {ds : TypeDesc} {sz by_ : Nat} {z : Value} {a : Addr} {cs : List Value} (hr : fn.results = #[.cell t e]) (hm : Mk w lo hi F.D) (ha : fr l F.s t = .pointer (some a)) (hT : Ty P e ds sz by_ z) (hf : flat ds = false) (hl : cs.length = sz)
    (hc : ∀ j v, cs[j]? = some v → w.cell? (a.add j) = some v) (hlo : a.block < lo) (h : ∀ w', Below lo w w' → R (.returned (.agg cs.toArray)) w') : WQ (bodyPostM (Fw none) 0 P fn R) .ret F l w :=
  fun act hA => leaves_marks (hA.defers ▸ hm) fun w' hb => ⟨.agg cs.toArray, by
    have hc' : ∀ j v, cs[j]? = some v → w'.cell? (a.add j) = some v := fun j v hj => (World.cell?_of_block (by rw [Addr.add_block]; exact hb.block _ hlo)).trans (hc j v hj)
    simp [results, hr, hA.get, ha, asAddr, run_loadVarAgg hT hf hl hc'], h w' hb⟩
theorem ret_inM {f : FuncId} {fn : Func} {c : Code} {args : List Value} {S : Value → World → Prop} {N : Nat} (hf : P.funcs[f]? = some fn) (hb : fn.body = some c) (hn : fn.ntmps = N) (hN : Nat.ble args.length N = true)
    (h : WC P c (bodyPostM (Fw none) 0 P fn (fun e w' => match e with | .returned v => S v w' | _ => False)) ⟨N, [], none, fun _ => undef⟩ (frameOf 0 args) w) : Ret P f args.toArray w S := by
  subst hn
  have hN' : args.length ≤ fn.ntmps := Nat.le_of_ble_eq_true hN
  refine callsIn_wide.1 (callsIn_of_wp_marks (F := Fw none) (n := 0) hf hb trivial (h _ ⟨?_, rfl, fun t => ?_⟩))
  · simp; omega
  · rw [fr_frameOf args (fn.ntmps - args.length) 0 t, if_pos (Nat.zero_le _)]
    have e : args.toArray ++ Array.replicate (fn.ntmps - args.length) undef = (args ++ List.replicate (fn.ntmps - args.length) undef).toArray := by simp
    simp only [Array.getD_eq_getD_getElem?, List.size_toArray, Nat.sub_zero]
    rw [e, List.getElem?_toArray]
end ret

/-- The record of a range over a function, in some state. -/
def Rec (st : LoopState) (F : Frm) (l : List (Nat × Value)) (ps : Array Tmp) (assign body : Code) (lp : Nat) (w : World) : Prop :=
  ∃ r : Loop, w.heap[lp]? = some (.loop r) ∧ r.state = st ∧ r.pending = none ∧ r.params = ps ∧ r.assign = assign ∧ r.body = body ∧ r.tmps.size = F.N ∧ ∀ t, r.tmps.getD t undef = fr l F.s t

section rec_
variable {st : LoopState} {F : Frm} {l : List (Nat × Value)} {ps : Array Tmp} {assign body : Code} {lp : Nat} {w w' : World} {row : Option Nat}
theorem Rec.lt (h : Rec st F l ps assign body lp w) : lp < w.heap.size := by
  obtain ⟨r, h1, _⟩ := h
  rcases Nat.lt_or_ge lp w.heap.size with h | h
  · exact h
  · rw [Array.getElem?_eq_none h] at h1; cases h1
theorem Rec.ch (h : Rec st F l ps assign body lp w) (hg : w.grownBy w' row) (hr : row ≠ some lp) : Rec st F l ps assign body lp w' := by
  have hlt := h.lt
  obtain ⟨r, h1, h2⟩ := h
  exact ⟨r, (hg.block lp hlt (fun e => hr e.symm)).trans h1, h2⟩
theorem Rec.pu (h : Rec st F l ps assign body lp w) (hg : w.grownBy w' none) : Rec st F l ps assign body lp w' := h.ch hg (by simp)
theorem RRch {RR : LoopState → World → Prop} (hRR : RR = fun st w => Rec st F l ps assign body lp w) (h : RR st w) (hg : w.grownBy w' row) (hr : row ≠ some lp) : RR st w' := by
  subst hRR; exact Rec.ch h hg hr
theorem RRpu {RR : LoopState → World → Prop} (hRR : RR = fun st w => Rec st F l ps assign body lp w) (h : RR st w) (hg : w.grownBy w' none) : RR st w' := RRch hRR h hg (by simp)
theorem Rec.notMark (h : Rec st F l ps assign body lp w) : ∀ ds, w.heap[lp]? ≠ some (.deferred ds) := fun ds e => by
  obtain ⟨r, h1, _⟩ := h; rw [h1] at e; cases e
theorem Bk.notLoop {g : Nat} {t : TypeId} {cs : List Value} (h : Bk w g t cs) (hr : Rec st F l ps assign body lp w) : g ≠ lp := fun e => by
  obtain ⟨r, h1, _⟩ := hr
  unfold Bk at h; rw [e, h1] at h; cases h
theorem Bk.notRR {g : Nat} {t : TypeId} {cs : List Value} {RR : LoopState → World → Prop} (h : Bk w g t cs) (hRR : RR = fun st w => Rec st F l ps assign body lp w) (hr : RR st w) : g ≠ lp := by
  subst hRR; exact h.notLoop hr
end rec_

section below
variable {w w' : World} {B : Nat}
theorem Bl.below {α : Type} {r : Rep α} {e : TypeId} {lo hi : Nat} {v : Value} {xs : List α} (h : Bl r e w lo hi v xs) (hb : Below B w w') (hh : hi ≤ B) : Bl r e w' lo hi v xs := by
  obtain ⟨L, ho, hbd, hl, hr⟩ := h
  refine ⟨L, ?_, hbd, hl, fun i u x hu hx => r.kept (hr i u x hu hx) fun b hb' _ => hb.block b (by have := hb'.1.2; omega)⟩
  refine ⟨ho.1, ?_⟩
  rcases ho.2 with h0 | ⟨g, cap, cur, hv, hlo, hh', hrest⟩
  · exact .inl h0
  · refine .inr ⟨g, cap, cur, hv, hlo, (hb.block g ?_).trans hh', hrest⟩
    have := hbd g (by rw [hv]; rfl)
    omega
theorem Bk.below {g : Nat} {t : TypeId} {cs : List Value} (h : Bk w g t cs) (hb : Below B w w') (hh : g < B) : Bk w' g t cs := (hb.block g hh).trans h
theorem Rep.belowS {α : Type} {r : Rep α} {S : Nat → Prop} {v : Value} {x : α} (h : r.R w S v x) (hb : Below B w w') (hh : ∀ b, S b → b < w.heap.size → b < B) : r.R w' S v x := r.kept h fun b hs hlt => hb.block b (hh b hs hlt)
theorem pu_below2 {w0 : World} (h : w0.grownBy w none) (hb : Below B w w') (hh : w0.heap.size ≤ B) : w0.grownBy w' none :=
  ⟨hb.os.trans h.os, hb.tape.trans h.tape, hb.output.trans h.output, Nat.le_trans h.size hb.size, fun k hk hne => (hb.block k (by omega)).trans (h.block k hk hne)⟩
end below

/-- yield, called in world w, hands back true, and leaves what K says. -/
def Yd (P : Program) (lp : Nat) (vs : List Value) (w : World) (K : World → Prop) : Prop :=
  ∃ r : Loop, w.heap[lp]? = some (.loop r) ∧ vs.toArray.size = r.params.size ∧
    RoundIn (Fw none) 0 P lp r.fn ((r.params.zip vs.toArray).foldl (fun tmps (t, a) => tmps.setIfInBounds t a) r.tmps) r.assign r.body w (fun e w' => match e with | .returned v => v = .bool true ∧ K w' | _ => False)
theorem Yd.mono {P : Program} {lp : Nat} {vs : List Value} {w : World} {K K' : World → Prop} (h : Yd P lp vs w K) (hk : ∀ w, K w → K' w) : Yd P lp vs w K' := by
  obtain ⟨r, h1, h2, h3⟩ := h
  exact ⟨r, h1, h2, h3.mono fun e w' he => by cases e <;> first | exact ⟨he.1, hk _ he.2⟩ | exact he⟩

section rules
variable {P : Program} {Q : Exit → Act → World → Prop} {F : Frm} {l : List (Nat × Value)} {w : World} {ops : Array Oper} {rest : List Oper}
variable {d : Nat} {ty t2 : TypeId} {pos : String} {af : Array Edge} {x : Operand}

theorem wl_yield {lp : Nat} {args : Array Operand} {tys : Array TypeId} {vs : List Value} {K : World → Prop} (hx : ev l F.s x = .func (.yield lp) #[] #[]) (hargs : args.toList.map (ev l F.s) = vs) (hN : Nat.blt d F.N = true) (h : Yd P lp vs w K)
    (k : ∀ w', K w' → WL P ops Q rest F ((d, .bool true) :: l) w') : WL P ops Q (⟨some d, .call ⟨.value x, args, tys⟩, ty, pos, af, none⟩ :: rest) F l w := fun a ha =>
  wpListIn_plain rfl fun K' hK => by
    obtain ⟨r, h1, h2, h3⟩ := h
    have e : args.map (ev l F.s) = vs.toArray := by
      apply Array.ext'
      rw [← hargs, Array.toList_map]
    have hrun : (execOp (ev l F.s) ⟨some d, .call ⟨.value x, args, tys⟩, ty, pos, af, none⟩).run P w = .ok (.round lp r.fn ((r.params.zip vs.toArray).foldl (fun tmps (t, a) => tmps.setIfInBounds t a) r.tmps) r.assign r.body) w := by
      simp [execOp, resolve, hx, Deferred.ofValue, invoke, e, run_yield h1 h2]
    refine ⟨fun _ _ => trivial, ?_⟩
    rw [ha.eval, show (Fw F.ro).round = F.ro from rfl, semAt_run F.ro hrun (by simp), Oper.uponIn_round]
    refine ⟨(fun h => by cases h), RoundIn.mono (show RoundIn (Fw F.ro) _ P lp r.fn _ r.assign r.body w _ from h3) fun e w' hS => ?_⟩
    cases e with
    | returned v =>
      obtain ⟨rfl, hKw⟩ := hS
      exact hK _ _ (k w' hKw _ (ha.put hN _))
    | panicked c => exact hS.elim
    | outgrown => exact hS.elim

def BeginGo (P : Program) (lp : Nat) (body : Code) (R : Ending → World → Prop) (a : Act) (w : World) : Prop :=
  ∃ w₂, (Instr.beginRound lp).run P w = .ok () w₂ ∧ body.wpIn (Fw (some lp)) 0 P (roundPost P lp R) a w₂
def YdR (K : World → Prop) : Ending → World → Prop := fun e w' => match e with | .returned v => v = .bool true ∧ K w' | _ => False

theorem fold_ps {F : Frm} : ∀ (ps : List Tmp) (vs : List Value) (l : List (Nat × Value)) (tmps : Array Value) (D : List Deferred) (ro : Option Nat), ps.all (fun t => Nat.blt t F.N) = true → Ag ⟨F.N, D, ro, F.s⟩ l { tmps := tmps, defers := D } →
    Ag ⟨F.N, D, ro, F.s⟩ ((ps.zip vs).reverse ++ l) { tmps := (ps.zip vs).foldl (fun tmps (t, a) => tmps.setIfInBounds t a) tmps, defers := D }
  | [], _, _, _, _, _, _, h => by simpa using h
  | _ :: _, [], _, _, _, _, _, h => by simpa using h
  | p :: ps, v :: vs, l, tmps, D, ro, hN, h => by
    simp only [List.all_cons, Bool.and_eq_true] at hN
    have h1 := fold_ps ps vs ((p, v) :: l) (tmps.setIfInBounds p v) D ro hN.2 (Ag.put h hN.1 v)
    simpa using h1

theorem yd_of {ps : List Tmp} {assign body : Code} {lp : Nat} {vs : List Value} {K : World → Prop} {RR : LoopState → World → Prop} (hRR : RR = fun st w => Rec st F l ps.toArray assign body lp w) (hr' : RR .ready w) (hn : vs.length = ps.length) (hN : ps.all (fun t => Nat.blt t F.N) = true)
    (h : WC P assign (Exit.then (BeginGo P lp body (YdR K)) (fun _ _ _ => False)) ⟨F.N, [], some lp, F.s⟩ ((ps.zip vs).reverse ++ l) w) : Yd P lp vs w K := by
  subst hRR
  obtain ⟨r, h1, h2, h3, h4, h5, h6, h7, h8⟩ := hr'
  refine ⟨r, h1, by simp [h4, hn], ?_⟩
  rw [h5, h6, h4]
  refine roundIn_of_wpIn (F := Fw none) trivial ?_
  have ha : Ag ⟨F.N, [], some lp, F.s⟩ ((ps.zip vs).reverse ++ l) { tmps := (ps.toArray.zip vs.toArray).foldl (fun tmps (t, a) => tmps.setIfInBounds t a) r.tmps, defers := [] } := by
    have := fold_ps (F := F) ps vs l r.tmps [] (some lp) hN ⟨h7, rfl, h8⟩
    simpa using this
  exact h _ ha

theorem wq_begin {F₀ : Frm} {l₀ : List (Nat × Value)} {ps : Array Tmp} {assign body : Code} {lp : Nat} {R : Ending → World → Prop} {Q' : Exit → Act → World → Prop} {RR : LoopState → World → Prop} (hRR : RR = fun st w => Rec st F₀ l₀ ps assign body lp w) (hr : RR .ready w) (hro : F.ro = some lp)
    (h : ∀ w₂, w.grownBy w₂ (some lp) → w₂.heap.size = w.heap.size → RR .busy w₂ → WC P body (roundPost P lp R) F l w₂) : WQ (Exit.then (BeginGo P lp body R) Q') .normal F l w := fun a ha => by
  subst hRR
  obtain ⟨r, h1, h2⟩ := hr
  have hlt : lp < w.heap.size := Rec.lt ⟨r, h1, h2⟩
  refine ⟨_, run_beginRound h1 h2.1, ?_⟩
  have := h _ (ch_putObj w lp _) (by simp) ⟨{ r with state := .busy }, World.putObj_heap_same hlt, rfl, h2.2⟩ a ha
  rw [hro] at this
  exact this

theorem wq_roundEnd {st : LoopState} {F₀ : Frm} {l₀ : List (Nat × Value)} {ps : Array Tmp} {assign body : Code} {lp : Nat} {K : World → Prop} {RR : LoopState → World → Prop} (hRR : RR = fun st w => Rec st F₀ l₀ ps assign body lp w) (hr : RR st w)
    (h : ∀ w₂, w.grownBy w₂ (some lp) → w₂.heap.size = w.heap.size → RR .ready w₂ → K w₂) : WQ (roundPost P lp (YdR K)) .normal F l w := fun a ha => by
  subst hRR
  obtain ⟨r, h1, h2, h3, h4⟩ := hr
  have hlt : lp < w.heap.size := Rec.lt ⟨r, h1, h2, h3, h4⟩
  exact ⟨_, _, run_endRound none h1, rfl, h _ (ch_putObj w lp _) (by simp) ⟨_, World.putObj_heap_same hlt, rfl, rfl, h4⟩⟩

theorem wc_rangeFunc {g : Operand} {ps : List Tmp} {assign body : Code} {f : FuncId} {first cap : List Value} (hg : ev l F.s g = .func (.func f) first.toArray cap.toArray) (hro : F.ro = none) (hc : Callable P f)
    (h : ∀ w₁ lp (RR : LoopState → World → Prop), RR = (fun st w => Rec st F l ps.toArray assign body lp w) → lp = w.heap.size + 1 → w.grownBy w₁ none → w₁.heap.size = w.heap.size + 2 → w₁.heap[w.heap.size]? = some (.deferred (some [])) → RR .ready w₁ →
      Ret P f (first ++ [Value.func (.yield lp) #[] #[]] ++ cap).toArray w₁ (fun _ w₃ => RR .ready w₃ ∧
        ∀ w₄, w₃.grownBy w₄ (some lp) → w₄.heap.size = w₃.heap.size → WQ Q .normal ⟨F.N, mark w.heap.size :: F.D, none, F.s⟩ l w₄)) : WC P (.rangeFunc g ps.toArray assign body) Q F l w := fun a ha => by
  rw [hro]
  refine wpIn_rangeFunc fun fnn _ => ?_
  refine ⟨_, _, ((w.alloc (.deferred (some []))).alloc (.loop { state := .ready, pending := none, fn := fnn, tmps := a.tmps, params := ps.toArray, assign, body, defers := w.heap.size })), { target := .fn (.func f) cap.toArray, args := first.toArray ++ #[Value.func (.yield (w.heap.size + 1)) #[] #[]] }, ((w.alloc (.deferred (some []))).alloc (.loop { state := .ready, pending := none, fn := fnn, tmps := a.tmps, params := ps.toArray, assign, body, defers := w.heap.size })), f, (first ++ [Value.func (.yield (w.heap.size + 1)) #[] #[]] ++ cap).toArray, ((w.alloc (.deferred (some []))).alloc (.loop { state := .ready, pending := none, fn := fnn, tmps := a.tmps, params := ps.toArray, assign, body, defers := w.heap.size })), run_enterLoop_outer fnn a.tmps ps.toArray assign body, ?_, fun _ _ => trivial, ?_, (fun h => by cases h), ?_⟩
  · simp [resolve, ha.eval, hg, Deferred.ofValue]
    rfl
  · simp [invoke, hc.run]
  · have h1 := h _ _ _ rfl rfl ((ch_alloc w (.deferred (some []))).trans (ch_alloc _ (.loop { state := .ready, pending := none, fn := fnn, tmps := a.tmps, params := ps.toArray, assign, body, defers := w.heap.size }))) (by simp) (by
        rw [Below.heap_alloc _ _ _ (by simp)]; exact World.alloc_heap_new _ _) ⟨_, by
        have := World.alloc_heap_new (w.alloc (.deferred (some []))) (.loop { state := .ready, pending := none, fn := fnn, tmps := a.tmps, params := ps.toArray, assign, body, defers := w.heap.size })
        simpa using this, rfl, rfl, rfl, rfl, rfl, ha.size, ha.get⟩
    refine callsIn_fw none _ (Ret.calls h1 fun v w₃ hS => ?_)
    obtain ⟨⟨r, g1, g2, g3, g4⟩, hS⟩ := hS
    refine ⟨_, _, run_endLoop g1 (by rw [g2]; simp), ?_⟩
    rw [g3]
    exact hS _ (ch_putObj _ _ _) (by simp) _ ⟨ha.size, by rw [ha.defers]; rfl, ha.get⟩

/-- A loop at whose head the deferred calls are marks. -/
def LoopGoM (F : Frm) (I : List (Nat × Value) → Nat → World → List Deferred → Prop) (n : Nat) (a : Act) (w : World) : Prop :=
  ∃ l m s D, m < n ∧ I l m w D ∧ Ag ⟨F.N, D, F.ro, s⟩ l a
theorem wc_loopM {c : Code} (I : List (Nat × Value) → Nat → World → List Deferred → Prop) {l₀ : List (Nat × Value)} {n₀ : Nat} (h0 : I l₀ n₀ w F.D) (hf : Fits l F.s l₀)
    (round : ∀ l n w s D, I l n w D → WC P c (Exit.then (LoopGoM F I n) Q) ⟨F.N, D, F.ro, s⟩ l w) : WC P (.loop c) Q F l w := by
  intro a ha b k cs hro hb hr
  have key : ∀ n l a w s D, I l n w D → Ag ⟨F.N, D, F.ro, s⟩ l a →
      ∃ e a' w', Q e a' w' ∧ ArrivesIn (Machine.fenced P (Fw F.ro)) P (lone (b.atR a (.code c :: .inLoop c :: k)) cs w) b k cs e a' w' := by
    intro n
    induction n using Nat.strongRecOn with
    | _ n ih =>
      intro l a w s D hI hA
      obtain ⟨e, a₁, w₁, hq, harr⟩ := round l n w s D hI a hA b (.inLoop c :: k) cs hro hb hr
      cases e with
      | normal =>
        obtain ⟨l', m, s', D', hlt, hH, hA'⟩ := hq
        obtain ⟨e₂, a₂, w₂, hq₂, harr₂⟩ := ih m hlt l' a₁ w₁ s' D' hH hA'
        exact ⟨e₂, a₂, w₂, hq₂, .of_steps (StepsIn.trans harr (.one (fenced_calm hb hr rfl) stepR_inLoop)) harr₂⟩
      | exit id => exact ⟨_, a₁, w₁, hq, .pass (x := .inLoop c) rfl (fun _ _ => .inl (by simp)) harr⟩
      | goto l => exact ⟨_, a₁, w₁, hq, .pass (x := .inLoop c) rfl (fun _ _ => .inl (by simp)) harr⟩
      | ret => exact ⟨_, a₁, w₁, hq, .pass (x := .inLoop c) rfl (fun _ _ => .inl (by simp)) harr⟩
      | panic ch => exact ⟨_, a₁, w₁, hq, .pass (x := .inLoop c) rfl (fun _ _ => .inl (by simp)) harr⟩
      | outgrown => exact ⟨_, a₁, w₁, hq, .pass (x := .inLoop c) rfl (fun _ _ => .inl (by simp)) harr⟩
  obtain ⟨e, a', w', hq, harr⟩ := key _ l₀ a w (fr l F.s) F.D h0 (ha.fits hf)
  exact ⟨e, a', w', hq, .of_steps (.one (fenced_calm hb hr rfl) stepR_loop) harr⟩
theorem wq_roundM {I : List (Nat × Value) → Nat → World → List Deferred → Prop} {n m : Nat} {l' : List (Nat × Value)} {F' : Frm} {Q' : Exit → Act → World → Prop} (hI : I l' m w F.D) (hm : m < n) (hf : Fits l F.s l') (hN : F.N = F'.N) :
    WQ (Exit.then (LoopGoM F' I n) Q') .normal F l w :=
  fun _ ha => ⟨l', m, fr l F.s, F.D, hm, hI, ⟨ha.size.trans hN, ha.defers, fun t => (ha.get t).trans (hf.fr t).symm⟩⟩
end rules
end Go.Proofs.YthofgamegondnaaDoor

namespace Go.Proofs.YthofgamegondnaaDoor
open Go.RowKit

/-- All operations that read. (Put together for the two kinds of walks.) -/
def drawOk : Code → Bool
  | .region _ ops draw => !draw || (Region.lexB .any ops && loudB ops (fun k => !((ops[k]?).any fun o => isQ o.op) || Nat.ble (tailAt ops) k) (tailAt ops))
  | .seq a b => drawOk a && drawOk b
  | .cond _ a b => drawOk a && drawOk b
  | .block _ c => drawOk c
  | .loop c => drawOk c
  | .scope c => drawOk c
  | .rangeFunc _ _ a b => drawOk a && drawOk b
  | _ => true

/-- The variables that nobody writes. -/
def GI (E : Env) (w : World) (Z : Nat → Prop) : Prop := ∀ g x, E.G g = some x → VR w Z [] x (.pointer (some ⟨g, 0, none⟩))

structure EnvOk (E : Env) : Prop where
  fn : ∀ f fn, E.fn f = some fn → E.P.funcs[f]? = some fn ∧ Callable E.P f ∧ ∀ c, fn.body = some c → drawOk c = true
  mixed : E.P.follows .mixedOrders = true
  I : ∀ f, E.I f = true → ∀ v w, (callFunc f #[v]).run E.P w = .ok (.value v) w
  X : ∀ f g, E.X f = some g → Callable E.P f ∧ ∀ xs x, g xs = some x → ∀ w Z us, (∀ c, Z c → c < w.heap.size) → GI E w Z → VRs w Z [] xs us → Ret E.P f us.toArray w fun v w' => w.grownBy w' none ∧ VR w' (fun c => Z c ∨ (w.heap.size ≤ c ∧ c < w'.heap.size)) [] x v

/-- The deferred calls of a frame are marks of ranges over functions. -/
def Mks (base : Nat) (w : World) (Z : Nat → Prop) (R : List RI) (h : Hp) : List Deferred → Prop
  | [] => True
  | d :: D => (∃ r, base ≤ r ∧ d = mark r ∧ w.heap[r]? = some (.deferred (some [])) ∧ ¬ Z r ∧ ¬ own R h r ∧ ∀ d' ∈ D, d' ≠ mark r) ∧ Mks base w Z R h D

def exOf : Ex → Exit
  | .normal => .normal
  | .exit id => .exit id
  | .ret => .ret

def FrR (w : World) (Z : Nat → Prop) (R : List RI) (fr : List (Option AV)) (tmps : Array Value) : Prop :=
  fr.length = tmps.size ∧ ∀ (t : Nat) (x : AV), fr[t]? = some (some x) → VR w Z R x (tmps.getD t undef)

structure SR (E : Env) (base : Nat) (w : World) (Z : Nat → Prop) (R : List RI) (s : St) (a : Act) : Prop where
  hh : HR w Z R s.hp
  fr : FrR w Z R s.fr a.tmps
  mks : Mks base w Z R s.hp a.defers
  gl : GI E w Z
  bs : base ≤ w.heap.size

/-- The record of the range over a function whose yield may be called. -/
def YI (cx : Cx) (w : World) (Z : Nat → Prop) (R : List RI) (h : Hp) : Prop :=
  ∀ y, cx.y = some y → drawOk y.assign = true ∧ drawOk y.body = true ∧ ∃ (r : RI) (L : Loop), R[y.b]? = some r ∧ ¬ Z r.c ∧ ¬ own R h r.c ∧ w.heap[r.c]? = some (.loop L) ∧ L.state = .ready ∧ L.pending = none ∧ L.params = y.ps.toArray ∧ L.assign = y.assign ∧ L.body = y.body ∧ FrR w Z R y.fr L.tmps

section
variable {E : Env} {w w' : World} {Z Z' : Nat → Prop} {R R' : List RI} {h h' : Hp} {base : Nat} {s : St} {a : Act}

theorem FrR.step {fr : List (Option AV)} {tmps : Array Value} (f : FrR w Z R fr tmps) (hh : HR w Z R h) (st : Step w Z R h w' Z' R' h') : FrR w' Z' R' fr tmps :=
  ⟨f.1, fun t x hx => (f.2 t x hx).step hh st⟩
theorem GI.step (g : GI E w Z) (hh : HR w Z R h) (st : Step w Z R h w' Z' R' h') : GI E w' Z' := fun n x hx =>
  ((g n x hx).mono (w' := w') (Z' := Z') (fun b hb => st.block b (hh.zlt b hb) fun ho => hh.notZ ho hb) st.z (fun _ _ h => h))
theorem heapLt {r : Nat} {o : Obj} (hr : w.heap[r]? = some o) : r < w.heap.size := (Array.getElem?_eq_some_iff.1 hr).1
/-- A block that is neither owned nor frozen is kept by a step, and stays so. -/
theorem Step.other {r : Nat} {o : Obj} (st : Step w Z R h w' Z' R' h') (hr : w.heap[r]? = some o) (hz : ¬ Z r) (ho : ¬ own R h r) : w'.heap[r]? = some o ∧ ¬ Z' r ∧ ¬ own R' h' r := by
  have hlt := heapLt hr
  refine ⟨(st.block r hlt ho).trans hr, fun h1 => ?_, fun h1 => ?_⟩
  · rcases st.z' r h1 with h2 | h2 | h2
    · exact hz h2
    · exact ho h2
    · omega
  · rcases st.own_ r h1 with h2 | h2
    · exact ho h2
    · omega
theorem Mks.step (st : Step w Z R h w' Z' R' h') : ∀ {D : List Deferred}, Mks base w Z R h D → Mks base w' Z' R' h' D
  | [], _ => trivial
  | d :: D, ⟨⟨r, h1, h2, h3, h4, h5, h6⟩, hD⟩ => by
    obtain ⟨k1, k2, k3⟩ := st.other h3 h4 h5
    exact ⟨⟨r, h1, h2, k1, k2, k3, h6⟩, Mks.step st hD⟩
theorem YI.step {cx : Cx} (y : YI cx w Z R h) (hh : HR w Z R h) (st : Step w Z R h w' Z' R' h') : YI cx w' Z' R' h' := fun q hq => by
  obtain ⟨d1, d2, r, L, h1, h2, h3, h4, h5⟩ := y q hq
  obtain ⟨k1, k2, k3⟩ := st.other h4 h2 h3
  exact ⟨d1, d2, r, L, st.r _ _ h1, k2, k3, k1, h5.1, h5.2.1, h5.2.2.1, h5.2.2.2.1, h5.2.2.2.2.1, h5.2.2.2.2.2.step hh st⟩
theorem SR.step {h' : Hp} (sr : SR E base w Z R s a) (hh' : HR w' Z' R' h') (st : Step w Z R s.hp w' Z' R' h') : SR E base w' Z' R' ⟨s.fr, h'⟩ a :=
  ⟨hh', sr.fr.step sr.hh st, sr.mks.step st, sr.gl.step sr.hh st, Nat.le_trans sr.bs st.size⟩
theorem SR.put {d : Option Tmp} {x : AV} {u : Value} (sr : SR E base w Z R s a) (hv : VR w Z R x u) : SR E base w Z R ⟨putA s.fr d x, s.hp⟩ (a.put d u) := by
  refine ⟨sr.hh, ?_, ?_, sr.gl, sr.bs⟩
  · cases d with
    | none => exact sr.fr
    | some d =>
      refine ⟨by simp [putA, Act.put, sr.fr.1], fun t y hy => ?_⟩
      simp only [putA] at hy
      rw [List.getElem?_set] at hy
      show VR w Z R y ((a.tmps.setIfInBounds d u).getD t undef)
      split at hy
      · next e =>
        subst e
        split at hy
        · next hl =>
          injection hy with hy
          injection hy with hy
          subst hy
          rw [sr.fr.1] at hl
          simp [Array.getD_eq_getD_getElem?, hl]
          exact hv
        · cases hy
      · next e =>
        have := sr.fr.2 t y hy
        rw [Array.getD_eq_getD_getElem?, Array.getElem?_setIfInBounds_ne e, ← Array.getD_eq_getD_getElem?]
        exact this
  · cases d <;> exact sr.mks

theorem opA_vr (sr : SR E base w Z R s a) (o : Operand) (x : AV) (e : opA E s.fr o = some x) : VR w Z R x (a.eval o) := by
  unfold opA at e
  cases o with
  | tmp t =>
    simp only at e
    split at e
    · next y hy => injection e with e; subst e; exact sr.fr.2 t _ hy
    · cases e
  | const v => exact (avOf_vr e).1
  | global g => exact (sr.gl g x e).up
  | func f =>
    injection e with e
    subst e
    exact .fn (us := []) (vs := []) rfl rfl (fun i x u hx => by simp at hx) (fun i x u hx => by simp at hx)

/-- A guard, decided. -/
theorem wantedA_eq (sr : SR E base w Z R s a) {ops : Array Oper} {o : Oper} {b : Bool} (e : wantedA ops s.fr o = some b) : Region.wanted o (yielded ops a.tmps) = b := by
  unfold wantedA at e
  split at e
  · next hg => injection e with e; subst e; simp [Region.wanted, hg]
  · next j want hg =>
    split at e
    · next oj hj =>
      split at e
      · next d hd =>
        have key : ∀ y, s.fr[d]? = some (some y) → ∃ u, a.tmps[d]? = some u ∧ VR w Z R y u := fun y hy => by
          have hv := sr.fr.2 d y hy
          have hl : d < a.tmps.size := by rw [← sr.fr.1]; exact (List.getElem?_eq_some_iff.1 hy).1
          exact ⟨a.tmps[d], Array.getElem?_eq_getElem hl, by rwa [Array.getD_eq_getD_getElem?, Array.getElem?_eq_getElem hl] at hv⟩
        split at e
        · next c hc =>
          injection e with e
          obtain ⟨u, h1, h2⟩ := key _ hc
          rw [h2.v_inv] at h1
          subst e
          simp only [Region.wanted, hg, yielded, hj, Option.bind_some, hd, h1]
          cases c <;> cases want <;> rfl
        · next hc =>
          injection e with e
          obtain ⟨u, h1, h2⟩ := key _ hc
          subst e
          simp only [Region.wanted, hg, yielded, hj, Option.bind_some, hd, h1]
          cases h2
          cases want <;> rfl
        · cases e
      · cases e
    · cases e

/-- One result. -/
def rdRes (tmps : Array Value) : ResultVar → Sem Value
  | .tmp t => pure (tmps.getD t undef)
  | .cell b t => do loadVar t (← asAddr (tmps.getD b undef))
theorem results_eq (fn : Func) (tmps : Array Value) : results fn tmps = (fn.results.mapM (rdRes tmps) >>= fun vs => pure (if h : vs.size = 1 then vs[0] else .tuple vs)) := by
  unfold results
  rfl
/-- The results of a function. -/
theorem resA_run (sr : SR E base w Z R s a) (w' : World) (same : Same w w') : ∀ {rs : List ResultVar} {xs : List AV}, resA E.P s.fr s.hp rs = some xs →
    ∃ us, (rs.mapM (rdRes a.tmps)).run E.P w' = .ok us w' ∧ VRs w Z R xs us
  | [], xs, e => by injection e with e; subst e; exact ⟨[], by simp, .nil⟩
  | .tmp t :: rs, xs, e => by
    unfold resA at e
    split at e
    · next x r hx hr =>
      injection e with e; subst e
      obtain ⟨us, h1, h2⟩ := resA_run sr w' same hr
      refine ⟨_, ?_, .cons (sr.fr.2 t x hx) h2⟩
      rw [List.mapM_cons, Sem.run_bind]
      simp only [rdRes, Sem.run_pure, Result.andThen, Sem.run_bind, h1]
    · cases e
  | .cell b t :: rs, xs, e => by
    unfold resA at e
    split at e
    · next p r hp hr =>
      split at e
      · next x hx =>
        injection e with e; subst e
        obtain ⟨us, h1, h2⟩ := resA_run sr w' same hr
        obtain ⟨u, k1, k2⟩ := evLoad_sound (P := E.P) (ρ := fun _ => some p) (ve := fun _ => a.tmps.getD b undef) (o := ⟨none, .load t (.tmp b), 0, "", #[], none⟩) sr.hh (fun _ x hx => by injection hx with hx; subst hx; exact sr.fr.2 b p hp) (a := .tmp b) rfl rfl hx
        refine ⟨u :: us, ?_, .cons k1 h2⟩
        have k3 := k2 w' (fun _ => same)
        have k4 : (loadVar t =<< asAddr (a.tmps.getD b undef)).run E.P w' = .ok u w' := by
          simp only [execOp, Instr.loadAt] at k3
          generalize hq : a.tmps.getD b undef = q at k3 ⊢
          cases q with
          | pointer ad =>
            cases ad with
            | none => simp [Instr.sureAddr] at k3
            | some ad =>
              simp only [Instr.sureAddr] at k3
              simp only [asAddr]
              simp only [Sem.run_bind, Sem.run_pure, Result.andThen] at k3 ⊢
              generalize hL : (loadVar t ad).run E.P w' = L at k3 ⊢
              cases L with
              | ok v w2 =>
                simp at k3
                rw [k3.1, k3.2] at hL
                show (Sem.bind (pure ad) (loadVar t)).run E.P w' = _
                exact hL
              | halt c w2 => simp at k3
          | _ => simp [Instr.sureAddr] at k3
        rw [List.mapM_cons, Sem.run_bind]
        have k5 : (rdRes a.tmps (.cell b t)).run E.P w' = .ok u w' := k4
        simp only [k5, Sem.run_pure, Result.andThen, Sem.run_bind, h1]
      · cases e
    · cases e
theorem flat_vr {x : AV} {v : Value} (hf : flatTp x = true) (hv : VR w Z R x v) : VR w' Z' R' x v := by
  have one : ∀ {y : AV} {u : Value}, isFlat y = true → VR w Z R y u → VR w' Z' R' y u := fun {y u} hf hv => by
    cases hv with
    | v h => exact .v h
    | st h hn => exact .st h hn
    | e0 => exact .e0
    | _ => simp [isFlat] at hf
  cases hv with
  | tp hl hx =>
    refine .tp hl fun i x u hx' hu' => one ?_ (hx i x u hx' hu')
    unfold flatTp at hf
    exact List.all_eq_true.1 hf x (List.mem_of_getElem? hx')
  | v h => exact .v h
  | st h hn => exact .st h hn
  | e0 => exact .e0
  | _ => simp [flatTp, isFlat] at hf

theorem view1_vr {x y : AV} {v : Value} (hh : HR w Z R h) (hv : VR w Z R x v) (e : view1 h x = some y) : VR w (fun c => Z c ∨ own R h c) [] y v := by
  have low : ∀ {x : AV} {v : Value}, noRf x = true → VR w Z R x v → VR w (fun c => Z c ∨ own R h c) [] x v := fun {x v} hn hv => by
    cases hv with
    | v h => exact .v h
    | st h hn' => exact .st h hn'
    | e0 => exact .e0
    | sl hn' hl hc hm ha hx =>
      refine .sl hn' hl hc hm (fun h0 => ?_) (fun i x u hx' hu' => (hx i x u hx' hu').mono (fun _ _ => rfl) (fun _ h => .inl h) (fun _ _ h => h))
      obtain ⟨a, k1, k2, k3, k4⟩ := ha h0
      exact ⟨a, k1, k2, .inl k3, k4⟩
    | pe hs hz h1 hu hx => exact .pe hs (.inl hz) h1 hu (hx.mono (fun _ _ => rfl) (fun _ h => .inl h) (fun _ _ h => h))
    | _ => simp [noRf] at hn
  unfold view1 at e
  split at e
  · next b lo n m =>
    split at e
    · next B hB =>
      split at e
      · next hc =>
        obtain ⟨hle, hall⟩ := hc
        injection e with e; subst e
        obtain ⟨r, arr, us, g1, g2, g3, g4, g5, g6, g7, g8, g9, g10⟩ := hh.blk b B hB
        cases hv with
        | rf hr q0 q1 q2 q3 =>
          rename_i c r'
          rw [g1] at hr
          injection hr with hr
          subst hr
          have hvs := (g9.drop lo).take n
          refine .sl (us := (us.drop lo).take n) (by simp; omega) hvs.len (by omega) (by omega) (fun _ => ⟨⟨r.c, lo * r.k, none⟩, rfl, rfl, ?_, fun i u hu => ?_⟩) (fun i x u hx hu => ?_)
          · cases hf : B.fz with
            | true => exact .inl (g7 hf)
            | false => exact .inr ⟨b, B, r, hB, hf, g1, rfl⟩
          · have hi : i < n := by have := (List.getElem?_eq_some_iff.1 hu).1; rw [List.length_take] at this; omega
            rw [List.getElem?_take_of_lt hi, List.getElem?_drop] at hu
            obtain ⟨k1, k2, k3⟩ := g10 _ _ hu
            refine ⟨k1, k2, fun j q hq => ?_⟩
            have := k3 j q hq
            rw [Nat.add_mul] at this
            rw [show lo * r.k + (i * B.k + j) = lo * B.k + i * B.k + j by rw [g2]; omega]
            simp [World.cell?, g3, this]
          · have hxm : x ∈ B.es := List.mem_of_mem_drop (List.mem_of_mem_take (List.mem_of_getElem? hx))
            exact low (List.all_eq_true.1 hall x hxm) (hvs.at_ i x u hx hu)
      · cases e
    · cases e
  · split at e
    · next hn => injection e with e; subst e; exact low hn hv
    · cases e
theorem viewL_vr (hh : HR w Z R h) : ∀ {xs ys : List AV} {us : List Value}, VRs w Z R xs us → viewL h xs = some ys → VRs w (fun c => Z c ∨ own R h c) [] ys us
  | [], ys, us, hv, e => by
    injection e with e; subst e
    have : us = [] := by have := hv.len; simpa using this
    subst this
    exact .nil
  | x :: xs, ys, us, hv, e => by
    obtain ⟨u, us', rfl, hu, hn⟩ := hv.head
    unfold viewL at e
    split at e
    · next y r h1 h2 => injection e with e; subst e; exact .cons (view1_vr hh hu h1) (viewL_vr hh hn h2)
    · cases e
theorem view2_vr {x y : AV} {v : Value} (hh : HR w Z R h) (hv : VR w Z R x v) (e : view2 h x = some y) : VR w (fun c => Z c ∨ own R h c) [] y v := by
  unfold view2 at e
  split at e
  · obtain ⟨cs, h1, rfl⟩ := Option.map_eq_some_iff.1 e
    cases hv with
    | ag hl h1' hx =>
      have := viewL_vr hh ⟨hl, hx⟩ h1
      exact .ag this.len h1' this.at_
  · exact view1_vr hh hv e
theorem views_vr (hh : HR w Z R h) : ∀ {xs ys : List AV} {us : List Value}, VRs w Z R xs us → views h xs = some ys → VRs w (fun c => Z c ∨ own R h c) [] ys us
  | [], ys, us, hv, e => by
    injection e with e; subst e
    have : us = [] := by have := hv.len; simpa using this
    subst this
    exact .nil
  | x :: xs, ys, us, hv, e => by
    obtain ⟨u, us', rfl, hu, hn⟩ := hv.head
    unfold views at e
    split at e
    · next y r h1 h2 => injection e with e; subst e; exact .cons (view2_vr hh hu h1) (views_vr hh hn h2)
    · cases e

theorem noRf_vr {x : AV} {v : Value} (hf : noRf x = true) (hv : VR w Z R x v) : VR w Z [] x v := by
  cases hv with
  | v h => exact .v h
  | st h hn => exact .st h hn
  | e0 => exact .e0
  | sl hn hl hc hm ha hx => exact .sl hn hl hc hm ha hx
  | pe hs h3 h1 hu hx => exact .pe hs h3 h1 hu hx
  | _ => simp [noRf] at hf
theorem noRf2_vr {x : AV} {v : Value} (hn : noRf2 x = true) (hv : VR w Z R x v) : VR w Z [] x v := by
  have hv' := hv
  cases hv with
  | ag hl h1 hx => exact .ag hl h1 fun i x u hx' hu => noRf_vr (List.all_eq_true.1 hn x (List.mem_of_getElem? hx')) (hx i x u hx' hu)
  | _ => exact noRf_vr hn hv'
theorem noRfs_vr {xs : List AV} {us : List Value} (hn : xs.all noRf2 = true) (hv : VRs w Z R xs us) : VRs w Z [] xs us :=
  ⟨hv.len, fun i x u hx hu => noRf2_vr (List.all_eq_true.1 hn x (List.mem_of_getElem? hx)) (hv.at_ i x u hx hu)⟩
end
end Go.Proofs.YthofgamegondnaaDoor

namespace Go.Proofs.YthofgamegondnaaDoor
open Go.RowKit

section
variable {E : Env} {w w' : World} {Z Z' : Nat → Prop} {R R' : List RI} {h h' : Hp} {base : Nat} {s s' : St} {a : Act} {n : Nat}

theorem FrR.off {fr : List (Option AV)} {tmps : Array Value} (f : FrR w Z R fr tmps) (hb : ∀ c, Z c → w'.heap[c]? = w.heap[c]?) : FrR w' Z R fr tmps :=
  ⟨f.1, fun t x hx => (f.2 t x hx).mono hb (fun _ h => h) (fun _ _ h => h)⟩
theorem GI.off (g : GI E w Z) (hb : ∀ c, Z c → w'.heap[c]? = w.heap[c]?) : GI E w' Z := fun n x hx => (g n x hx).mono hb (fun _ h => h) (fun _ _ h => h)

theorem put_ne {w : World} {r c : Nat} {o : Obj} (hne : c ≠ r) : (w.putObj r o).heap[c]? = w.heap[c]? := World.putObj_heap_other hne
theorem put_size (w : World) (r : Nat) (o : Obj) : (w.putObj r o).heap.size = w.heap.size := by simp
theorem Mks.put {r : Nat} {o : Obj} : ∀ {D : List Deferred}, Mks base w Z R h D → (∀ d ∈ D, d ≠ mark r) → Mks base (w.putObj r o) Z R h D
  | [], _, _ => trivial
  | d :: D, ⟨⟨q, h1, h2, h3, h4, h5, h6⟩, hD⟩, hr => by
    have hne : q ≠ r := fun e => hr d (by simp) (by rw [h2, e])
    exact ⟨⟨q, h1, h2, (put_ne hne).trans h3, h4, h5, h6⟩, Mks.put hD fun d hd => hr d (by simp [hd])⟩

theorem run_arrayL {P : Program} {α β : Type} {f : α → Sem β} {l : Array α} {us : List β} {w : World} (h : (l.toList.mapM f).run P w = .ok us w) : (l.mapM f).run P w = .ok us.toArray w := by
  have e : l.mapM f = List.toArray <$> l.toList.mapM f := by rw [Array.mapM_eq_mapM_toList]
  rw [e, map_eq_pure_bind, Sem.run_bind, h]
  rfl
/-- The way out of a function: the marks are taken, the results are read. -/
theorem leaves_mks {fn : Func} {S : Value → World → Prop} {xs : List AV} (hres : resA E.P s.fr s.hp fn.results.toList = some xs)
    (hS : ∀ w' u, w'.heap.size = w.heap.size → w'.os = w.os → w'.tape = w.tape → w'.output = w.output → (∀ c, c < base → w'.heap[c]? = w.heap[c]?) → HR w' Z R s.hp → VR w' Z R (retA xs) u → S u w') :
    ∀ {D : List Deferred} {w1 : World}, SR E base w1 Z R s { a with defers := D } → w1.heap.size = w.heap.size → w1.os = w.os → w1.tape = w.tape → w1.output = w.output → (∀ c, c < base → w1.heap[c]? = w.heap[c]?) →
    LeavesInM (Fw none) 0 E.P fn a.tmps (fun e w' => match e with | .returned v => S v w' | _ => False) D .returning w1
  | [], w1, sr, hz, ho, ht, hp, hb => by
    obtain ⟨us, h1, h2⟩ := resA_run sr w1 (Same.refl w1) hres
    have hr : (results fn a.tmps).run E.P w1 = .ok (if hh : us.toArray.size = 1 then us.toArray[0] else .tuple us.toArray) w1 := by
      have h3 : (fn.results.mapM (rdRes a.tmps)).run E.P w1 = .ok us.toArray w1 := run_arrayL h1
      rw [results_eq, Sem.run_bind, h3]
      rfl
    have hv : VR w1 Z R (retA xs) (if hh : us.toArray.size = 1 then us.toArray[0] else .tuple us.toArray) := by
      match xs, us, h2 with
      | [], us, h2 =>
        have : us = [] := by have := h2.len; simpa using this
        subst this
        exact .tp (us := []) rfl (fun i x u hx => by simp at hx)
      | [x], us, h2 =>
        obtain ⟨u, us', rfl, hu, hn⟩ := h2.head
        have : us' = [] := by have := hn.len; simpa using this
        subst this
        exact hu
      | x :: y :: l, us, h2 =>
        have hl := h2.len
        have : ¬ us.toArray.size = 1 := by simp at hl ⊢; omega
        rw [dif_neg this]
        exact .tp hl h2.at_
    exact ⟨_, hr, hS w1 _ hz ho ht hp hb sr.hh hv⟩
  | d :: D, w1, sr, hz, ho, ht, hp, hb => by
    obtain ⟨⟨r, h1, h2, h3, h4, h5, h6⟩, hD⟩ := sr.mks
    subst h2
    have hb' : ∀ c, (Z c ∨ own R s.hp c) → (w1.putObj r (.deferred none)).heap[c]? = w1.heap[c]? := fun c hc => put_ne (fun e => by subst e; exact hc.elim h4 h5)
    refine ⟨by simp, .inl ⟨r, w1.putObj r (.deferred none), rfl, run_takeDeferred h3, leaves_mks hres hS ⟨sr.hh.off (put_size _ _ _) hb', sr.fr.off fun c hc => hb' c (.inl hc), hD.put h6, sr.gl.off fun c hc => hb' c (.inl hc), by rw [put_size]; exact sr.bs⟩ (by rw [put_size]; exact hz) ho ht hp (fun c hc => (put_ne (by omega)).trans (hb c hc))⟩⟩

def CS (E : Env) (n : Nat) : Prop := ∀ cx c s e s', drawOk c = true → evC E n cx c s = some (e, s') → ∀ ro base Q a w Z R, (cx.inR = false → ro = none) → SR E base w Z R s a → YI cx w Z R s.hp →
  (∀ a' w' Z' R', SR E base w' Z' R' s' a' → Step w Z R s.hp w' Z' R' s'.hp → Q (exOf e) a' w') → c.wpIn (Fw ro) 0 E.P Q a w
def RetTo (E : Env) (f : FuncId) (us : List Value) (w : World) (Z : Nat → Prop) (R : List RI) (h : Hp) (x : AV) (h' : Hp) : Prop :=
  Ret E.P f us.toArray w fun v w' => ∃ Z' R', HR w' Z' R' h' ∧ VR w' Z' R' x v ∧ Step w Z R h w' Z' R' h'

/-- The frozen blocks grow by new ones. -/
theorem HR.addZ (hh : HR w Z R h) (hs : w.grownBy w' none) : HR w' (fun c => Z c ∨ (w.heap.size ≤ c ∧ c < w'.heap.size)) R h ∧ Step w Z R h w' (fun c => Z c ∨ (w.heap.size ≤ c ∧ c < w'.heap.size)) R h := by
  have hk := hh.keep hs.size (fun c hc => hs.block c hc (by simp))
  refine ⟨⟨hk.len, fun b B hB => ?_, hk.inj, fun c hc => hc.elim (fun h => Nat.lt_of_lt_of_le (hh.zlt c h) hs.size) (fun h => h.2)⟩, ⟨hs.os, hs.tape, hs.output, hs.size, fun c hc _ => hs.block c hc (by simp), fun _ h => .inl h, fun _ h => .inl h, fun c hc => hc.elim .inl (fun h => .inr (.inr h.1)), fun _ _ h => h⟩⟩
  obtain ⟨r, arr, us, h1, h2, h3, h4, h5, h6, h7, h8, h9, h10⟩ := hk.blk b B hB
  exact ⟨r, arr, us, h1, h2, h3, h4, h5, h6, fun hf => .inl (h7 hf), fun hf hc => hc.elim (h8 hf) (fun h => by have := hh.rltL hB h1; omega), h9.mono (fun _ _ => rfl) (fun _ h => .inl h) (fun _ _ h => h), h10⟩
/-- A call that is told by a function of its own. -/
theorem X_ret (hE : EnvOk E) {g : FuncId} {X : List AV → Option AV} (hX : E.X g = some X) (hh : HR w Z R h) (hg : GI E w Z) {xs : List AV} {us : List Value} (hvs : VRs w Z R xs us) {x : AV}
    (e : callX2 X xs h = some (x, h')) : RetTo E g us w Z R h x h' := by
  unfold callX2 at e
  split at e
  · next hn =>
    obtain ⟨x', hx', hxe⟩ := Option.map_eq_some_iff.1 e
    injection hxe with e1 e2
    subst e1 e2
    refine Ret.mono ((hE.X g X hX).2 _ _ hx' w _ _ hh.zlt hg (noRfs_vr hn hvs)) fun v w' ⟨hs, hv⟩ => ?_
    obtain ⟨k1, k2⟩ := hh.addZ hs
    exact ⟨_, R, k1, hv.up, k2⟩
  · unfold callX at e
    split at e
    · next ys hys =>
      split at e
      · next x' hx' =>
        split at e
        · next hf =>
          injection e with e; injection e with e1 e2; subst e1 e2
          have hz1 : ∀ c, (Z c ∨ own R h c) → c < w.heap.size := fun c hc => hc.elim (hh.zlt c) (fun ⟨b, B, r, h1, _, h3, h4⟩ => h4 ▸ hh.rltL h1 h3)
          have hg1 : GI E w (fun c => Z c ∨ own R h c) := fun q y hy => (hg q y hy).mono (fun _ _ => rfl) (fun _ h => .inl h) (fun _ _ h => h)
          refine Ret.mono ((hE.X g X hX).2 _ _ hx' w _ _ hz1 hg1 (views_vr hh hvs hys)) fun v w' ⟨hs, hv⟩ => ?_
          exact ⟨Z, R, hh.keep hs.size (fun c hc => hs.block c hc (by simp)), flat_vr hf hv, ⟨hs.os, hs.tape, hs.output, hs.size, fun c hc _ => hs.block c hc (by simp), fun _ h => .inl h, fun _ h => h, fun _ h => .inl h, fun _ _ h => h⟩⟩
        · cases e
      · cases e
    · cases e

/-- A function, entered. -/
theorem enter_sound (hE : EnvOk E) (hCS : CS E n) {y : Option YC} {f : FuncId} {args : List AV} {x : AV} (e : enterA E (evC E n) y f args h = some (x, h')) {us : List Value} (hh : HR w Z R h) (hv : VRs w Z R args us) (hg : GI E w Z) (hy : YI ⟨y, false⟩ w Z R h) : RetTo E f us w Z R h x h' := by
  unfold enterA at e
  split at e
  · cases e
  · next fn hfn =>
    obtain ⟨hf, _, hd⟩ := hE.fn f fn hfn
    split at e
    · cases e
    · next c hc =>
      split at e
      · next hle =>
        have key : ∀ (ex : Ex) (s : St), (ex = .normal ∨ ex = .ret) → evC E n ⟨y, false⟩ c ⟨args.map some ++ List.replicate (fn.ntmps - args.length) (some (.tp [])), h⟩ = some (ex, s) → (resA E.P s.fr s.hp fn.results.toList).map (fun r => (retA r, s.hp)) = some (x, h') → RetTo E f us w Z R h x h' := by
          intro ex s hex he hr
          obtain ⟨xs, hxs, hxe⟩ := Option.map_eq_some_iff.1 hr
          injection hxe with e1 e2
          subst e1 e2
          refine callsIn_wide.1 (callsIn_of_wp_marks (F := Fw none) (n := 0) hf hc trivial ?_)
          have hul : us.length = args.length := hv.len
          have hsr : SR E w.heap.size w Z R ⟨args.map some ++ List.replicate (fn.ntmps - args.length) (some (.tp [])), h⟩ { tmps := us.toArray ++ Array.replicate (fn.ntmps - us.toArray.size) undef, defers := [] } := by
            refine ⟨hh, ⟨by simp [hul], fun t x hx => ?_⟩, trivial, hg, Nat.le_refl _⟩
            have e0 : us.toArray ++ Array.replicate (fn.ntmps - us.toArray.size) undef = (us ++ List.replicate (fn.ntmps - us.length) undef).toArray := by simp
            rw [e0, Array.getD_eq_getD_getElem?, List.getElem?_toArray]
            by_cases ht : t < args.length
            · rw [List.getElem?_append_left (by simpa using ht), List.getElem?_map] at hx
              rw [List.getElem?_append_left (by omega)]
              cases hat : args[t]? with
              | none => rw [hat] at hx; cases hx
              | some q =>
                rw [hat] at hx
                have hx := Option.some.inj (Option.some.inj hx)
                subst hx
                obtain ⟨u, hu1, hu2⟩ := hv.get hat
                rw [hu1]; exact hu2
            · rw [List.getElem?_append_right (by simp; omega), List.getElem?_replicate] at hx
              split at hx
              · next hlt =>
                have hx := Option.some.inj (Option.some.inj hx)
                subst hx
                rw [List.getElem?_append_right (by omega), List.getElem?_replicate, if_pos (by rw [hul]; simpa using hlt)]
                exact .tp (us := []) rfl (fun i x u hx => by simp at hx)
              · cases hx
          refine hCS _ c _ ex s (hd c hc) he none w.heap.size _ _ w Z R (fun _ => rfl) hsr hy fun a' w' Z' R' sr' st => ?_
          have hl := leaves_mks (E := E) (w := w') (a := a') (fn := fn) (S := fun v w'' => ∃ Z' R', HR w'' Z' R' s.hp ∧ VR w'' Z' R' (retA xs) v ∧ Step w Z R h w'' Z' R' s.hp) hxs (fun w'' u g1 g2 g3 g4 g5 g6 g7 => ⟨Z', R', g6, g7, ⟨g2.trans st.os, g3.trans st.tape, g4.trans st.output, by rw [g1]; exact st.size, fun c hc hn => (g5 c hc).trans (st.block c hc hn), st.own_, st.z, st.z', st.r⟩⟩) (D := a'.defers) (w1 := w') sr' rfl rfl rfl rfl (fun _ _ => rfl)
          rcases hex with rfl | rfl
          · exact hl
          · exact hl
        split at e
        · next s he => exact key _ s (.inl rfl) he e
        · next s he => exact key _ s (.inr rfl) he e
        · cases e
      · cases e

/-- An operation that is carried out to a value. -/
theorem wpIn_val {o : Oper} {u : Value} {next : Act → World → Prop} {Q : Exit → Act → World → Prop} (ro : Option Nat) (hr : (execOp a.eval o).run E.P w = .ok (.value u) w') (k : next (a.put o.dst u) w') : o.wpIn (Fw ro) 0 E.P a w next Q :=
  ⟨fun _ _ => trivial, by rw [show (Fw ro).round = ro from rfl, semAt_run ro hr (by simp)]; exact k⟩

theorem setPs_fr : ∀ {fr : List (Option AV)} {ps : List Tmp} {xs : List AV} {tmps : Array Value} {us : List Value}, FrR w Z R fr tmps → VRs w Z R xs us → FrR w Z R (setPs fr ps xs) ((ps.zip us).foldl (fun tmps (x : Tmp × Value) => tmps.setIfInBounds x.1 x.2) tmps)
  | fr, [], xs, tmps, us, hf, _ => by unfold setPs; simpa using hf
  | fr, p :: ps, [], tmps, us, hf, hv => by
    have : us = [] := by have := hv.len; simpa using this
    subst this
    unfold setPs; simpa using hf
  | fr, p :: ps, x :: xs, tmps, us, hf, hv => by
    obtain ⟨u, us', rfl, hu, hn⟩ := hv.head
    simp only [setPs, List.zip_cons_cons, List.foldl_cons]
    refine setPs_fr ⟨by simp [hf.1], fun t y hy => ?_⟩ hn
    rw [List.getElem?_set] at hy
    split at hy
    · next e =>
      subst e
      split at hy
      · next hl =>
        have hy := Option.some.inj (Option.some.inj hy)
        subst hy
        rw [hf.1] at hl
        simp [Array.getD_eq_getD_getElem?, hl]
        exact hu
      · cases hy
    · next e =>
      have := hf.2 t y hy
      rw [Array.getD_eq_getD_getElem?, Array.getElem?_setIfInBounds_ne e, ← Array.getD_eq_getD_getElem?]
      exact this

/-- A call. -/
theorem call_sound (hE : EnvOk E) (hCS : CS E n) {cx : Cx} {fv : AV} {vf : Value} {xs : List AV} {us : List Value} {x : AV} {o : Oper} {f : Operand} {args : Array Operand} {tys : Array TypeId} {next : Act → World → Prop} {Q : Exit → Act → World → Prop} {ro : Option Nat} (hro : cx.inR = false → ro = none)
    (ho : o.op = .call ⟨.value f, args, tys⟩) (hf : a.eval f = vf) (hus : args.toList.map a.eval = us) (hvf : VR w Z R fv vf) (hvs : VRs w Z R xs us) (hh : HR w Z R h) (hg : GI E w Z) (hy : YI cx w Z R h) (e : callA E (evC E n) cx fv xs h = some (x, h'))
    (k : ∀ u w' Z' R', HR w' Z' R' h' → VR w' Z' R' x u → Step w Z R h w' Z' R' h' → next (a.put o.dst u) w') : o.wpIn (Fw ro) 0 E.P a w next Q := by
  have hargs : args.map a.eval = us.toArray := by
    apply Array.ext'
    rw [← hus, Array.toList_map]
  unfold callA at e
  split at e
  · next g first caps =>
    cases hvf with
    | fn hl hl' hx hy' =>
      rename_i uf uc
      have hall : VRs w Z R (first ++ xs ++ caps) (uf ++ us ++ uc) := ((VRs.mk hl hx).append hvs).append (VRs.mk hl' hy')
      have ent : Callable E.P g → RetTo E g (uf ++ us ++ uc) w Z R h x h' → o.wpIn (Fw ro) 0 E.P a w next Q := fun hc hr => by
        have hrun : (execOp a.eval o).run E.P w = .ok (.enter g (uf ++ us ++ uc).toArray) w := by
          have e1 : uf.toArray ++ us.toArray ++ uc.toArray = (uf ++ us ++ uc).toArray := by simp
          simp only [execOp, ho, resolve, hf, hargs, Deferred.ofValue]
          rw [Sem.run_bind, Sem.run_pure]
          simp only [Result.andThen, invoke]
          rw [e1]
          exact hc.run _ _
        refine ⟨fun _ _ => trivial, ?_⟩
        rw [show (Fw ro).round = ro from rfl, semAt_run ro hrun (by simp)]
        refine ⟨(fun h => by cases h), CallsIn.mono (callsIn_fw ro _ hr) fun e w' hS => ?_⟩
        cases e with
        | returned v => obtain ⟨Z', R', k1, k2, k3⟩ := hS; exact k v w' Z' R' k1 k2 k3
        | panicked c => exact hS.elim
        | outgrown => exact hS.elim
      split at e
      · next X hX =>
        obtain ⟨hc, hXs⟩ := hE.X g X hX
        exact ent hc (X_ret hE hX hh hg hall e)
      · have hcall : Callable E.P g := by
          unfold enterA at e
          split at e
          · cases e
          · next fn hfn => exact (hE.fn g fn hfn).2.1
        exact ent hcall (enter_sound hE hCS e hh hall hg (fun y hy => by cases hy))
  · next b =>
    split at e
    · next y hcy =>
      split at e
      · next hcond =>
        obtain ⟨rfl, hlen, hin⟩ := hcond
        have hro' := hro hin
        subst hro'
        obtain ⟨d1, d2, r, L, g1, g2, g3, g4, g5, g6, g7, g8, g9, g10⟩ := hy y hcy
        cases hvf with
        | yl hr =>
          rename_i r'
          rw [g1] at hr
          injection hr with hr
          subst hr
          split at e
          · next s1 he1 =>
            split at e
            · next s2 he2 =>
              injection e with e
              injection e with e1 e2
              subst e1 e2
              have hps : us.toArray.size = L.params.size := by rw [g7]; simp [hvs.len, hlen]
              have hrun : (execOp a.eval o).run E.P w = .ok (.round r.c L.fn ((L.params.zip us.toArray).foldl (fun tmps (t, a) => tmps.setIfInBounds t a) L.tmps) L.assign L.body) w := by
                simp only [execOp, ho, resolve, hf, hargs, Deferred.ofValue]
                rw [Sem.run_bind, Sem.run_pure]
                simp only [Result.andThen, invoke, Array.empty_append]
                exact run_yield g4 hps
              refine ⟨fun _ _ => trivial, ?_⟩
              rw [show (Fw none).round = none from rfl, semAt_run none hrun (by simp), Oper.uponIn_round]
              refine ⟨(fun h => by cases h), ?_⟩
              refine roundIn_of_wpIn (F := Fw none) trivial ?_
              rw [g8, g9]
              have hfr0 : FrR w Z R (setPs y.fr y.ps xs) ((L.params.zip us.toArray).foldl (fun tmps (t, a) => tmps.setIfInBounds t a) L.tmps) := by
                have := setPs_fr (ps := y.ps) g10 hvs
                have e0 : (L.params.zip us.toArray).foldl (fun tmps (t, a) => tmps.setIfInBounds t a) L.tmps = (y.ps.zip us).foldl (fun tmps (x : Tmp × Value) => tmps.setIfInBounds x.1 x.2) L.tmps := by
                  rw [g7, ← Array.foldl_toList]; simp
                rw [e0]; exact this
              have hlt := heapLt g4
              refine hCS ⟨none, true⟩ y.assign ⟨setPs y.fr y.ps xs, h⟩ .normal s1 d1 he1 (some r.c) 0 _ _ w Z R (fun h => by cases h) ⟨hh, hfr0, trivial, hg, Nat.zero_le _⟩ (fun y hy => by cases hy) fun a1 w1 Z1 R1 sr1 st1 => ?_
              obtain ⟨p1, p2, p3⟩ := st1.other g4 g2 g3
              refine ⟨_, run_beginRound p1 g5, ?_⟩
              have hlt1 := heapLt p1
              have hb1 : ∀ c, (Z1 c ∨ own R1 s1.hp c) → (w1.putObj r.c (.loop { L with state := .busy })).heap[c]? = w1.heap[c]? := fun c hc => put_ne (fun e => by subst e; exact hc.elim p2 p3)
              have hh2 := sr1.hh.off (put_size _ _ _) hb1
              refine hCS ⟨none, true⟩ y.body s1 .normal s2 d2 he2 (some r.c) 0 _ a1 _ Z1 R1 (fun h => by cases h) ⟨hh2, sr1.fr.off fun c hc => hb1 c (.inl hc), ?_, sr1.gl.off fun c hc => hb1 c (.inl hc), Nat.zero_le _⟩ (fun y hy => by cases hy) fun a2 w3 Z3 R3 sr3 st3 => ?_
              · exact sr1.mks.put (fun d hd e => by
                  have : ∀ {D : List Deferred}, Mks 0 w1 Z1 R1 s1.hp D → mark r.c ∈ D → False := by
                    intro D
                    induction D with
                    | nil => intro _ h; cases h
                    | cons d D ih =>
                      rintro ⟨⟨q, _, q2, q3, _⟩, hD⟩ hm
                      rcases List.mem_cons.1 hm with hm | hm
                      · rw [← hm] at q2
                        have : r.c = q := by unfold mark at q2; injection q2 with q2; injection q2
                        subst this
                        rw [p1] at q3
                        cases q3
                      · exact ih hD hm
                  subst e
                  exact this sr1.mks hd)
              · have hput : (w1.putObj r.c (.loop { L with state := .busy })).heap[r.c]? = some (.loop { L with state := .busy }) := World.putObj_heap_same hlt1
                obtain ⟨q1, q2, q3⟩ := st3.other hput p2 p3
                have hlt3 := heapLt q1
                refine ⟨_, _, run_endRound none q1, ?_⟩
                have hb3 : ∀ c, (Z3 c ∨ own R3 s2.hp c) → (w3.putObj r.c (.loop { { L with state := .busy } with state := if (none : Option Code).isNone then .ready else .done, pending := none })).heap[c]? = w3.heap[c]? := fun c hc => put_ne (fun e => by subst e; exact hc.elim q2 q3)
                have hL : ({ { L with state := .busy } with state := if (none : Option Code).isNone then .ready else .done, pending := none } : Loop) = L := by
                  cases L; simp at g5 g6; subst g5 g6; rfl
                refine k (.bool true) _ Z3 R3 (sr3.hh.off (put_size _ _ _) hb3) (.v rfl) ⟨?_, ?_, ?_, ?_, fun c hc hn => ?_, fun c hc => ?_, fun c hc => st3.z c (st1.z c hc), fun c hc => ?_, fun i q hq => st3.r i q (st1.r i q hq)⟩
                · exact st3.os.trans st1.os
                · exact st3.tape.trans st1.tape
                · exact st3.output.trans st1.output
                · rw [put_size]
                  have := st3.size
                  rw [put_size] at this
                  exact Nat.le_trans st1.size this
                · by_cases hcr : c = r.c
                  · subst hcr
                    rw [World.putObj_heap_same hlt3, hL]
                    exact g4.symm
                  · rw [put_ne hcr]
                    have hc1 : c < w1.heap.size := Nat.lt_of_lt_of_le hc st1.size
                    have hno : ¬ own R1 s1.hp c := fun ho => by
                      rcases st1.own_ c ho with h1 | h1
                      · exact hn h1
                      · omega
                    rw [st3.block c (by rw [put_size]; exact hc1) hno, put_ne hcr]
                    exact st1.block c hc hn
                · rcases st3.own_ c hc with h1 | h1
                  · exact st1.own_ c h1
                  · rw [put_size] at h1; exact .inr (Nat.le_trans st1.size h1)
                · rcases st3.z' c hc with h1 | h1 | h1
                  · exact st1.z' c h1
                  · rcases st1.own_ c h1 with h2 | h2
                    · exact .inr (.inl h2)
                    · exact .inr (.inr h2)
                  · rw [put_size] at h1; exact .inr (.inr (Nat.le_trans st1.size h1))
            · cases e
          · cases e
      · cases e
    · cases e
  · cases e
end
end Go.Proofs.YthofgamegondnaaDoor

namespace Go.Proofs.YthofgamegondnaaDoor
open Go.RowKit

section
variable {E : Env} {w w' : World} {Z Z' : Nat → Prop} {R R' : List RI} {h h' : Hp} {base : Nat} {s s' : St} {a : Act} {n : Nat} {cx : Cx} {ro : Option Nat}

theorem evOpW_sound {P : Program} {ρ : Operand → Option AV} {ve : Operand → Value} {o : Oper} {x : AV} (hρ : ∀ o x, ρ o = some x → VR w Z R x (ve o)) (hh : HR w Z R h) (e : evOpW P ρ h o.op = some (x, h')) : Ld P w Z R h x h' ve o := by
  unfold evOpW at e
  split at e
  · next args tys ho =>
    split at e
    · next x y t t2 ha ht => exact evAppend_sound hρ hh ho ha ht e
    · cases e
  · next args tys ho =>
    split at e
    · next x y t t2 ha ht =>
      split at e
      · next hs => exact evCopy_sound hρ hh ho ha ht hs e
      · cases e
    · cases e
  · next args tys ho =>
    split at e
    · next x y t t2 ha ht => exact evUStr_sound hρ hh ho ha ht e
    · cases e
  · cases e

/-- One operation. -/
theorem op1_sound (hE : EnvOk E) (hCS : CS E n) {o : Oper} (e : op1 E (evC E n) cx o s = some s') (hro : cx.inR = false → ro = none) (sr : SR E base w Z R s a) (hy : YI cx w Z R s.hp) {next : Act → World → Prop} {Q : Exit → Act → World → Prop}
    (k : ∀ a' w' Z' R', SR E base w' Z' R' s' a' → Step w Z R s.hp w' Z' R' s'.hp → next a' w') : o.wpIn (Fw ro) 0 E.P a w next Q := by
  have hρ : ∀ o x, opA E s.fr o = some x → VR w Z R x (a.eval o) := fun o x e => opA_vr sr o x e
  have ld : ∀ {x : AV} {h' : Hp}, Ld E.P w Z R s.hp x h' a.eval o → some (⟨putA s.fr o.dst x, h'⟩ : St) = some s' → o.wpIn (Fw ro) 0 E.P a w next Q := fun {x h'} hl e => by
    injection e with e; subst e
    obtain ⟨u, w', R', h1, h2, h3, h4⟩ := hl
    exact wpIn_val ro h1 (k _ w' Z R' ((sr.step h2 h4).put h3) h4)
  unfold op1 at e
  split at e
  · next x hx => exact ld ((evOpQ_sound sr.hh hρ hx).ld sr.hh) e
  · split at e
    · next x h' hx => exact ld (evOpN_sound hρ sr.hh hx).ld e
    · split at e
      · next x h' hx => exact ld (evOpW_sound hρ sr.hh hx) e
      · split at e
        next x hx => exact ld (evOpX_sound hE.I hρ sr.hh hx) e
        split at e
        · next t p q ho =>
          split at e
          · next y z hd hp hq =>
            obtain ⟨h', hst, rfl⟩ := Option.map_eq_some_iff.1 e
            obtain ⟨w', h1, h2, h3⟩ := evStore_sound hρ sr.hh ho hp hq hst
            refine ⟨fun _ _ => trivial, ?_⟩
            rw [show (Fw ro).round = ro from rfl, semAt_run ro h1 (by simp)]
            show next (a.put o.dst undef) w'
            rw [hd]
            exact k _ w' Z R (sr.step h2 h3) h3
          · cases e
        · next f args tys ho =>
          split at e
          · next fv xs hf hxs =>
            obtain ⟨⟨x, h'⟩, hc, rfl⟩ := Option.map_eq_some_iff.1 e
            exact call_sound hE hCS hro ho rfl rfl (hρ _ _ hf) (opds_vr hρ hxs) sr.hh sr.gl hy hc fun u w' Z' R' h1 h2 h3 => k _ w' Z' R' ((sr.step h1 h3).put h2) h3
          · cases e
        · cases e

theorem undef_vr : VR w Z R (.tp []) undef := .tp (us := []) rfl (fun i x u hx => by simp at hx)

theorem opsA_sound (hE : EnvOk E) (hCS : CS E n) {ops : Array Oper} (hro : cx.inR = false → ro = none) {Q : Exit → Act → World → Prop} : ∀ {rest : List Oper} {s : St} {a : Act} {w : World} {Z : Nat → Prop} {R : List RI}, opsA E (evC E n) cx ops rest s = some s' → SR E base w Z R s a → YI cx w Z R s.hp →
    (∀ a' w' Z' R', SR E base w' Z' R' s' a' → Step w Z R s.hp w' Z' R' s'.hp → Q .normal a' w') → wpListIn (Fw ro) 0 E.P ops Q rest a w
  | [], s, a, w, Z, R, e, sr, hy, k => by
    injection e with e; subst e
    exact k a w Z R sr (Step.refl _ _ _ _)
  | o :: rest, s, a, w, Z, R, e, sr, hy, k => by
    unfold opsA at e
    split at e
    · cases e
    · next hw =>
      have hw' := wantedA_eq sr hw
      unfold wpListIn
      rw [if_neg (by rw [hw']; simp)]
      exact ⟨fun _ _ => trivial, opsA_sound hE hCS hro e (sr.put undef_vr) hy k⟩
    · next hw =>
      have hw' := wantedA_eq sr hw
      unfold wpListIn
      rw [if_pos hw']
      split at e
      · next s1 hs1 =>
        exact op1_sound hE hCS hs1 hro sr hy fun a' w' Z' R' sr' st => opsA_sound hE hCS hro e sr' (hy.step sr.hh st) fun a'' w'' Z'' R'' sr'' st' => k a'' w'' Z'' R'' sr'' (st.trans st')
      · cases e

def LS (E : Env) (n : Nat) : Prop := ∀ cx c s e s', drawOk c = true → evC E n cx (.loop c) s = some (e, s') → ∀ ro base Q a w Z R, (cx.inR = false → ro = none) → SR E base w Z R s a → YI cx w Z R s.hp →
  (∀ a' w' Z' R', SR E base w' Z' R' s' a' → Step w Z R s.hp w' Z' R' s'.hp → Q (exOf e) a' w') → Code.roundsIn (Fw ro) 0 E.P c Q n a w
theorem loop_sound (hCS : CS E n) (hLS : LS E n) : LS E (n + 1) := by
  intro cx x s e s' hd he ro base Q a w Z R hro sr hy k
  unfold evC evStep at he
  simp only at he
  show x.wpIn (Fw ro) 0 E.P (Exit.then (Code.roundsIn (Fw ro) 0 E.P x Q n) Q) a w
  split at he
  · next s1 h1 =>
    exact hCS cx x s _ s1 hd h1 ro base _ a w Z R hro sr hy fun a' w' Z' R' sr' st => hLS cx x s1 e s' hd he ro base Q a' w' Z' R' hro sr' (hy.step sr.hh st) fun a'' w'' Z'' R'' sr'' st' => k a'' w'' Z'' R'' sr'' (st.trans st')
  · next hne =>
    refine hCS cx x s e s' hd he ro base _ a w Z R hro sr hy fun a' w' Z' R' sr' st => ?_
    cases e with
    | normal => exact (hne s' he).elim
    | exit id => exact k a' w' Z' R' sr' st
    | ret => exact k a' w' Z' R' sr' st
/-- A dead entry: the number of something that is no block of cells. -/
theorem HR.dead (hh : HR w Z R h) {r : RI} : HR w Z (R ++ [r]) (h ++ [none]) ∧ Step w Z R h w Z (R ++ [r]) (h ++ [none]) ∧ (R ++ [r])[h.length]? = some r ∧ (∀ c, own (R ++ [r]) (h ++ [none]) c → own R h c) := by
  have hr' : ∀ (i : Nat) (x : RI), R[i]? = some x → (R ++ [r])[i]? = some x := fun i x hx => (getElem?_snoc _ _ _ _).2 (.inl hx)
  have hget : ∀ (b' : Nat) (B' : Blk), (h ++ [none])[b']? = some (some B') → h[b']? = some (some B') ∧ b' < R.length := fun b' B' hB' => by
    rcases (getElem?_snoc _ _ _ _).1 hB' with h1 | ⟨_, h1⟩
    · exact ⟨h1, by rw [hh.len]; exact (List.getElem?_eq_some_iff.1 h1).1⟩
    · cases h1
  have hgR : ∀ (b' : Nat) (x : RI), b' < R.length → (R ++ [r])[b']? = some x → R[b']? = some x := fun b' x hl hx => by rwa [List.getElem?_append_left hl] at hx
  have hown : ∀ c, own (R ++ [r]) (h ++ [none]) c → own R h c := fun c ⟨b', B', x, h1, h2, h3, h4⟩ => by
    obtain ⟨k1, k2⟩ := hget b' B' h1
    exact ⟨b', B', x, k1, h2, hgR b' x k2 h3, h4⟩
  refine ⟨⟨by simp [hh.len], fun b' B' hB' => ?_, fun b1 b2 B1 B2 r1 r2 h1 f1 h2 f2 g1 g2 e => ?_, hh.zlt⟩, ⟨rfl, rfl, rfl, Nat.le_refl _, fun _ _ _ => rfl, fun c hc => .inl (hown c hc), fun _ h => h, fun _ h => .inl h, hr'⟩, (getElem?_snoc _ _ _ _).2 (.inr ⟨hh.len.symm, rfl⟩), hown⟩
  · obtain ⟨k1, k2⟩ := hget b' B' hB'
    obtain ⟨r', arr', us', g1, g2, g3, g4, g5, g6, g7, g8, g9, g10⟩ := hh.blk b' B' k1
    exact ⟨r', arr', us', hr' _ _ g1, g2, g3, g4, g5, g6, g7, g8, g9.mono (fun _ _ => rfl) (fun _ h => h) hr', g10⟩
  · obtain ⟨k1, k2⟩ := hget b1 B1 h1
    obtain ⟨q1, q2⟩ := hget b2 B2 h2
    exact hh.inj b1 b2 B1 B2 r1 r2 k1 f1 q1 f2 (hgR _ _ k2 g1) (hgR _ _ q2 g2) e

/-- A range over a function. -/
theorem range_sound (hE : EnvOk E) (hCS : CS E n) {f : Operand} {ps : Array Tmp} {assign body : Code} {g : FuncId} {first caps : List AV} {x : AV} (hd1 : drawOk assign = true) (hd2 : drawOk body = true) {Q : Exit → Act → World → Prop} (sr : SR E base w Z R s a) (hvf : VR w Z R (.fn g first caps) (a.eval f))
    (hent : enterA E (evC E n) (some ⟨s.hp.length, s.fr, ps.toList, assign, body⟩) g (first ++ [.yl s.hp.length] ++ caps) (s.hp ++ [none]) = some (x, h'))
    (k : ∀ a' w' Z' R', SR E base w' Z' R' ⟨s.fr, h'⟩ a' → Step w Z R s.hp w' Z' R' h' → Q .normal a' w') : (Code.rangeFunc f ps assign body).wpIn (Fw none) 0 E.P Q a w := by
  generalize hva : a.eval f = va at hvf
  cases hvf with
  | fn hl hl' hx hy' =>
    rename_i uf uc
    refine wpIn_rangeFunc fun fnn _ => ?_
    have hcall : Callable E.P g := by
      unfold enterA at hent
      split at hent
      · cases hent
      · next fn hfn => exact (hE.fn g fn hfn).2.1
    obtain ⟨L, hL⟩ : ∃ L : Loop, L = { state := .ready, pending := none, fn := fnn, tmps := a.tmps, params := ps, assign, body, defers := w.heap.size } := ⟨_, rfl⟩
    obtain ⟨w1, hw1⟩ : ∃ w1, w1 = (w.alloc (.deferred (some []))).alloc (.loop L) := ⟨_, rfl⟩
    have hsz : w1.heap.size = w.heap.size + 2 := by rw [hw1]; simp
    have hg1 : w.grownBy w1 none := by
      rw [hw1]
      refine ⟨rfl, rfl, rfl, by simp; omega, fun c hc _ => ?_⟩
      rw [heap_alloc_old _ _ (by simp; omega), heap_alloc_old _ _ hc]
    have hmk : w1.heap[w.heap.size]? = some (.deferred (some [])) := by
      rw [hw1, heap_alloc_old _ _ (by simp)]; exact heap_alloc_new w _
    have hlp : w1.heap[w.heap.size + 1]? = some (.loop L) := by
      rw [hw1]
      have := heap_alloc_new (w.alloc (.deferred (some []))) (.loop L)
      simpa using this
    have hh1 := sr.hh.keep (w' := w1) hg1.size (fun c hc => hg1.block c hc (by simp))
    have st0 : Step w Z R s.hp w1 Z R s.hp := ⟨hg1.os, hg1.tape, hg1.output, hg1.size, fun c hc _ => hg1.block c hc (by simp), fun _ h => .inl h, fun _ h => h, fun _ h => .inl h, fun _ _ h => h⟩
    obtain ⟨hh2, st2, hlast, hown2⟩ := hh1.dead (r := ⟨w.heap.size + 1, 0, 0⟩)
    have st02 := st0.trans st2
    have hnz : ∀ c, w.heap.size ≤ c → ¬ Z c := fun c hc hz => by have := sr.hh.zlt c hz; omega
    have hno : ∀ c, w.heap.size ≤ c → ¬ own (R ++ [⟨w.heap.size + 1, 0, 0⟩]) (s.hp ++ [none]) c := fun c hc ho => by
      obtain ⟨b, B, r, q1, q2, q3, rfl⟩ := hown2 c ho
      have := sr.hh.rltL q1 q3; omega
    have hvs : VRs w1 Z (R ++ [⟨w.heap.size + 1, 0, 0⟩]) (first ++ [.yl s.hp.length] ++ caps) (uf ++ [Value.func (.yield (w.heap.size + 1)) #[] #[]] ++ uc) := by
      refine (VRs.append (VRs.step ⟨hl, hx⟩ sr.hh st02) ?_).append (VRs.step ⟨hl', hy'⟩ sr.hh st02)
      exact .cons (.yl hlast) .nil
    have hy : YI ⟨some ⟨s.hp.length, s.fr, ps.toList, assign, body⟩, false⟩ w1 Z (R ++ [⟨w.heap.size + 1, 0, 0⟩]) (s.hp ++ [none]) := by
      intro y hy
      injection hy with hy
      subst hy
      exact ⟨hd1, hd2, _, L, hlast, hnz _ (by simp), hno _ (by simp), hlp, by rw [hL], by rw [hL], by rw [hL], by rw [hL], by rw [hL], by rw [hL]; exact sr.fr.step sr.hh st02⟩
    have hr := enter_sound hE hCS hent hh2 hvs (sr.gl.step sr.hh st02) hy
    refine ⟨w.heap.size + 1, [mark w.heap.size], w1, { target := .fn (.func g) uc.toArray, args := uf.toArray ++ #[Value.func (.yield (w.heap.size + 1)) #[] #[]] }, w1, g, (uf ++ [Value.func (.yield (w.heap.size + 1)) #[] #[]] ++ uc).toArray, w1, ?_, ?_, fun _ _ => trivial, ?_, (fun h => by cases h), ?_⟩
    · rw [hw1, hL]; exact run_enterLoop_outer fnn a.tmps ps assign body
    · simp [resolve, hva, Deferred.ofValue]
      rfl
    · simp [invoke, hcall.run]
    · refine callsIn_fw none _ (Ret.calls hr fun v w3 hS => ?_)
      obtain ⟨Z3, R3, hh3, _, st3⟩ := hS
      obtain ⟨p1, p2, p3⟩ := st3.other hlp (hnz _ (by simp)) (hno _ (by simp))
      obtain ⟨m1, m2, m3⟩ := st3.other hmk (hnz _ (Nat.le_refl _)) (hno _ (Nat.le_refl _))
      refine ⟨_, _, run_endLoop p1 (by rw [hL]; simp), ?_⟩
      have hpend : L.pending = none := by rw [hL]
      split
      rotate_left
      · next hc => rw [hpend] at hc; cases hc
      have hb : ∀ c, (Z3 c ∨ own R3 h' c) → (w3.putObj (w.heap.size + 1) (.loop { L with state := .exhausted })).heap[c]? = w3.heap[c]? := fun c hc => put_ne (fun e => by subst e; exact hc.elim p2 p3)
      have st03 := st02.trans st3
      refine k _ _ Z3 R3 ⟨hh3.off (put_size _ _ _) hb, (sr.fr.step sr.hh st03).off fun c hc => hb c (.inl hc), ?_, (sr.gl.step sr.hh st03).off fun c hc => hb c (.inl hc), ?_⟩ ⟨st03.os, st03.tape, st03.output, ?_, fun c hc hn => ?_, st03.own_, st03.z, st03.z', st03.r⟩
      · refine ⟨⟨w.heap.size, sr.bs, rfl, (put_ne (by omega)).trans m1, m2, m3, fun d hd e => ?_⟩, ?_⟩
        · have : ∀ {D : List Deferred}, Mks base w Z R s.hp D → mark w.heap.size ∈ D → False := by
            intro D
            induction D with
            | nil => intro _ h; cases h
            | cons d D ih =>
              rintro ⟨⟨q, _, q2, q3, _⟩, hD⟩ hm
              rcases List.mem_cons.1 hm with hm | hm
              · rw [← hm] at q2
                have : w.heap.size = q := by unfold mark at q2; injection q2 with q2; injection q2
                have := heapLt q3; omega
              · exact ih hD hm
          subst e
          exact this sr.mks hd
        · refine Mks.put (sr.mks.step st03) fun d hd e => ?_
          have : ∀ {D : List Deferred}, Mks base w Z R s.hp D → mark (w.heap.size + 1) ∈ D → False := by
            intro D
            induction D with
            | nil => intro _ h; cases h
            | cons d D ih =>
              rintro ⟨⟨q, _, q2, q3, _⟩, hD⟩ hm
              rcases List.mem_cons.1 hm with hm | hm
              · rw [← hm] at q2
                have : w.heap.size + 1 = q := by unfold mark at q2; injection q2 with q2; injection q2
                have := heapLt q3; omega
              · exact ih hD hm
          subst e
          exact this sr.mks hd
      · rw [put_size]; exact Nat.le_trans sr.bs st03.size
      · rw [put_size]; exact st03.size
      · rw [put_ne (by omega)]; exact st03.block c hc hn

end
end Go.Proofs.YthofgamegondnaaDoor

namespace Go.Proofs.YthofgamegondnaaDoor
open Go.RowKit

section
variable {E : Env} {w w' : World} {Z Z' : Nat → Prop} {R R' : List RI} {h h' : Hp} {base : Nat} {s s' : St} {a : Act} {n : Nat} {cx : Cx} {ro : Option Nat}

/-- A pure call. -/
theorem callP_sound (hE : EnvOk E) (hCS : CS E n) {fv : AV} {vf : Value} {xs : List AV} {us : List Value} {x : AV} (hvf : VR w Z R fv vf) (hvs : VRs w Z R xs us) (hh : HR w Z R h) (hg : GI E w Z) (e : callP E (evC E n) fv xs h = some (x, h')) :
    ∃ g, vf = .func (.func g) #[] #[] ∧ Callable E.P g ∧ Ret E.P g us.toArray w fun v w' => w.grownBy w' none ∧ ∃ R', HR w' Z R' h' ∧ VR w' Z R' x v ∧ Step w Z R h w' Z R' h' := by
  unfold callP at e
  split at e
  · next g =>
    have hvf' : vf = .func (.func g) #[] #[] := by
      cases hvf with
      | fn hl hl' hx hy =>
        rename_i u1 u2
        have e1 : u1 = [] := by simpa using hl
        have e2 : u2 = [] := by simpa using hl'
        subst e1 e2; rfl
    have hz1 : ∀ c, (Z c ∨ own R h c) → c < w.heap.size := fun c hc => hc.elim (hh.zlt c) (fun ⟨b, B, r, h1, _, h3, h4⟩ => h4 ▸ hh.rltL h1 h3)
    have hh1 : HR w (fun c => Z c ∨ own R h c) [] [] := ⟨rfl, fun b B hB => by simp at hB, fun b b' B B' r r' hB => by simp at hB, hz1⟩
    have hg1 : GI E w (fun c => Z c ∨ own R h c) := fun q y hy => (hg q y hy).mono (fun _ _ => rfl) (fun _ h => .inl h) (fun _ _ h => h)
    -- what is flat is carried back
    have back : ∀ {v : Value} {w' : World} {r : AV} {Z1 : Nat → Prop} {R1 : List RI}, flatTp r = true → w.grownBy w' none → VR w' Z1 R1 r v → w.grownBy w' none ∧ ∃ R', HR w' Z R' h ∧ VR w' Z R' r v ∧ Step w Z R h w' Z R' h := fun {v w' r Z1 R1} hf hgr hv =>
      ⟨hgr, R, hh.keep hgr.size (fun c hc => hgr.block c hc (by simp)), flat_vr hf hv, ⟨hgr.os, hgr.tape, hgr.output, hgr.size, fun c hc _ => hgr.block c hc (by simp), fun _ h => .inl h, fun _ h => h, fun _ h => .inl h, fun _ _ h => h⟩⟩
    split at e
    · next ys hys =>
      have hvs1 := views_vr hh hvs hys
      split at e
      · next X hX =>
        obtain ⟨hc, hXs⟩ := hE.X g X hX
        split at e
        · next r hr =>
          split at e
          · next hf =>
            injection e with e; injection e with e1 e2; subst e1 e2
            exact ⟨g, hvf', hc, Ret.mono (hXs _ _ hr w _ _ hz1 hg1 hvs1) fun v w' hv => back hf hv.1 hv.2⟩
          · cases e
        · cases e
      · split at e
        · next r h1 hent =>
          have hcall : Callable E.P g := by
            unfold enterA at hent
            split at hent
            · cases hent
            · next fn hfn => exact (hE.fn g fn hfn).2.1
          have hr := enter_sound hE hCS hent hh1 hvs1 hg1 (fun y hy => by cases hy)
          have grown : ∀ {w' : World} {Z1 : Nat → Prop} {R1 : List RI}, Step w (fun c => Z c ∨ own R h c) [] [] w' Z1 R1 h1 → w.grownBy w' none := fun {w' Z1 R1} st => ⟨st.os, st.tape, st.output, st.size, fun c hc _ => st.block c hc (fun ⟨b, B, r, hb, _⟩ => by simp at hb)⟩
          split at e
          · next hf =>
            injection e with e; injection e with e1 e2; subst e1 e2
            refine ⟨g, hvf', hcall, Ret.mono hr fun v w' hv => ?_⟩
            obtain ⟨Z1, R1, k1, k2, k3⟩ := hv
            exact back hf (grown k3) k2
          · split at e
            · next b lo n' m hnf =>
              split at e
              · next B hB =>
                split at e
                · next hc =>
                  obtain ⟨hfz, hall⟩ := hc
                  injection e with e; injection e with e1 e2; subst e1 e2
                  refine ⟨g, hvf', hcall, Ret.mono hr fun v w' hv => ?_⟩
                  obtain ⟨Z1, R1, k1, k2, k3⟩ := hv
                  have hgr := grown k3
                  obtain ⟨r', arr, ub, g1, g2, g3, g4, g5, g6, g7, g8, g9, g10⟩ := k1.blk b B hB
                  have hnew : w.heap.size ≤ r'.c := by
                    rcases k3.own_ r'.c ⟨b, B, r', hB, hfz, g1, rfl⟩ with ⟨b', B', _, hb', _⟩ | h2
                    · simp at hb'
                    · exact h2
                  cases k2 with
                  | rf hr' q0 q1 q2 q3 =>
                    rename_i c r''
                    rw [g1] at hr'
                    injection hr' with hr'
                    subst hr'
                    have hB' : B = ⟨B.k, B.t, B.es, false⟩ := by cases B; simp at hfz; subst hfz; rfl
                    obtain ⟨p1, p2, p3⟩ := hh.new (w' := w') (c := r'.c) (cap := r'.cap) (k := B.k) (t := B.t) (es := B.es) (us := ub) (arr := arr) hgr hnew g3 ⟨g9.len, fun i x u hx hu => flat_vr (by
                      have := List.all_eq_true.1 hall x (List.mem_of_getElem? hx)
                      cases x <;> first | rfl | (simp [isFlat] at this) | exact this) (g9.at_ i x u hx hu)⟩ g4 g5 g6 g10
                    rw [← hB'] at p1 p2
                    refine ⟨hgr, _, p1, ?_, p2⟩
                    have := VR.rf (w := w') (Z := Z) (b := h.length) (lo := lo) (n := n') (m := m) (c := c) p3 q0 q1 q2 q3
                    rw [g2]
                    exact this
                · cases e
              · cases e
            · cases e
        · cases e
    · cases e
  · cases e

theorem isQ_of {P : Program} {ρ : Operand → Option AV} {o : Op} {x : AV} (e : evOpQ P ρ h o = some x) : isQ o = true := by
  unfold evOpQ at e
  split at e <;> first | rfl | (cases e)
theorem isQ_of_N {P : Program} {ρ : Operand → Option AV} {o : Op} {r : AV × Hp} (e : evOpN P ρ h o = some r) : isQ o = false := by
  unfold evOpN at e
  split at e <;> first | rfl | (cases e)

theorem lw_val {o : Oper} {u : Value} {K : Act → World → Prop} {P : Program} (hr : (execOp a.eval o).run P w = .ok (.value u) w') (k : K (a.put o.dst u) w') : Lw P o a w K := by
  unfold Lw; rw [hr]; exact k
theorem lw_skip {o : Oper} {K : Act → World → Prop} {P : Program} (hr : (execOp a.eval o).run P w = .ok .skip w') (k : K (a.put o.dst undef) w') : Lw P o a w K := by
  unfold Lw; rw [hr]; exact k
theorem run_call {P : Program} {o : Oper} {f : Operand} {args : Array Operand} {tys : Array TypeId} {us uf uc : List Value} {g : FuncId} (ho : o.op = .call ⟨.value f, args, tys⟩) (hf : a.eval f = .func (.func g) uf.toArray uc.toArray) (hus : args.toList.map a.eval = us) (hc : Callable P g) (w : World) : (execOp a.eval o).run P w = .ok (.enter g (uf ++ us ++ uc).toArray) w := by
  have hargs : args.map a.eval = us.toArray := by
    apply Array.ext'
    rw [← hus, Array.toList_map]
  have e1 : uf.toArray ++ us.toArray ++ uc.toArray = (uf ++ us ++ uc).toArray := by simp
  simp only [execOp, ho, resolve, hf, hargs, Deferred.ofValue]
  rw [Sem.run_bind, Sem.run_pure]
  simp only [Result.andThen, invoke]
  rw [e1]
  exact hc.run _ _

/-- One operation of the tail. -/
theorem op1_lw (hE : EnvOk E) (hCS : CS E n) {o : Oper} {b : Bool} (e : op1 E (evC E n) ⟨none, b⟩ o s = some s') (sr : SR E base w Z R s a) {K : Act → World → Prop}
    (k : ∀ a' w' Z' R', SR E base w' Z' R' s' a' → Step w Z R s.hp w' Z' R' s'.hp → K a' w') : Lw E.P o a w K := by
  have hρ : ∀ o x, opA E s.fr o = some x → VR w Z R x (a.eval o) := fun o x e => opA_vr sr o x e
  have ld : ∀ {x : AV} {h' : Hp}, Ld E.P w Z R s.hp x h' a.eval o → some (⟨putA s.fr o.dst x, h'⟩ : St) = some s' → Lw E.P o a w K := fun {x h'} hl e => by
    injection e with e; subst e
    obtain ⟨u, w', R', h1, h2, h3, h4⟩ := hl
    exact lw_val h1 (k _ w' Z R' ((sr.step h2 h4).put h3) h4)
  unfold op1 at e
  split at e
  · next x hx => exact ld ((evOpQ_sound sr.hh hρ hx).ld sr.hh) e
  · split at e
    · next x h' hx => exact ld (evOpN_sound hρ sr.hh hx).ld e
    · split at e
      · next x h' hx => exact ld (evOpW_sound hρ sr.hh hx) e
      · split at e
        next x hx => exact ld (evOpX_sound hE.I hρ sr.hh hx) e
        split at e
        · next t p q ho =>
          split at e
          · next y z hd hp hq =>
            obtain ⟨h', hst, rfl⟩ := Option.map_eq_some_iff.1 e
            obtain ⟨w', h1, h2, h3⟩ := evStore_sound hρ sr.hh ho hp hq hst
            refine lw_skip h1 ?_
            rw [hd]
            exact k _ w' Z R (sr.step h2 h3) h3
          · cases e
        · next f args tys ho =>
          split at e
          · next fv xs hf hxs =>
            obtain ⟨⟨x, h'⟩, hc, rfl⟩ := Option.map_eq_some_iff.1 e
            have hvf := hρ _ _ hf
            have hvs := opds_vr hρ hxs
            unfold callA at hc
            split at hc
            · next g first caps =>
              generalize hva : a.eval f = va at hvf
              cases hvf with
              | fn hl hl' hx hy' =>
                rename_i uf uc
                have hall : VRs w Z R (first ++ xs ++ caps) (uf ++ args.toList.map a.eval ++ uc) := ((VRs.mk hl hx).append hvs).append (VRs.mk hl' hy')
                have ent : Callable E.P g → RetTo E g (uf ++ args.toList.map a.eval ++ uc) w Z R s.hp x h' → Lw E.P o a w K := fun hcl hr => by
                  unfold Lw
                  rw [run_call ho hva rfl hcl w]
                  refine Ret.mono hr fun v w' hS => ?_
                  obtain ⟨Z', R', k1, k2, k3⟩ := hS
                  exact k _ w' Z' R' ((sr.step k1 k3).put k2) k3
                split at hc
                · next X hX =>
                  obtain ⟨hcl, hXs⟩ := hE.X g X hX
                  exact ent hcl (X_ret hE hX sr.hh sr.gl hall hc)
                · have hcall : Callable E.P g := by
                    unfold enterA at hc
                    split at hc
                    · cases hc
                    · next fn hfn => exact (hE.fn g fn hfn).2.1
                  exact ent hcall (enter_sound hE hCS hc sr.hh hall sr.gl (fun y hy => by cases hy))
            · next b' =>
              split at hc
              · next y hcy => cases hcy
              · cases hc
            · cases hc
          · cases e
        · cases e

/-- The tail: everything is loud. -/
theorem tail_sound (hE : EnvOk E) (hCS : CS E n) {ops : Array Oper} {b : Bool} {C : World → Prop} {loud : Nat → Bool} {T : Nat} {Q : Act → World → Prop} : ∀ {rest : List Oper} {s : St} {a : Act} {w : World} {Z : Nat → Prop} {R : List RI} {k : Nat}, opsA E (evC E n) ⟨none, b⟩ ops rest s = some s' → SR E base w Z R s a → T ≤ k → (k ≤ T → C w) → (∀ j, k ≤ j → loud j = true) →
    (∀ a' w' Z' R', SR E base w' Z' R' s' a' → Step w Z R s.hp w' Z' R' s'.hp → Q a' w') → wpMix E.P ops C loud T Q k rest a w
  | [], s, a, w, Z, R, k, e, sr, hT, hC, hl, q => by
    injection e with e; subst e
    exact ⟨hC, q a w Z R sr (Step.refl _ _ _ _)⟩
  | o :: rest, s, a, w, Z, R, k, e, sr, hT, hC, hl, q => by
    unfold opsA at e
    split at e
    · cases e
    · next hw =>
      have hw' := wantedA_eq sr hw
      refine ⟨hC, ?_⟩
      rw [if_neg (by rw [hw']; simp)]
      exact tail_sound hE hCS e (sr.put undef_vr) (by omega) (fun h => by omega) (fun j hj => hl j (by omega)) q
    · next hw =>
      have hw' := wantedA_eq sr hw
      refine ⟨hC, ?_⟩
      rw [if_pos hw', if_pos (hl k (Nat.le_refl _))]
      split at e
      · next s1 hs1 =>
        exact op1_lw hE hCS hs1 sr fun a' w' Z' R' sr' st => tail_sound hE hCS e sr' (by omega) (fun h => by omega) (fun j hj => hl j (by omega)) fun a'' w'' Z'' R'' sr'' st' => q a'' w'' Z'' R'' sr'' (st.trans st')
      · cases e

theorem tailGo_ge : ∀ (l : List Oper) (n : Nat), n ≤ tailGo l n
  | [], n => Nat.le_refl _
  | o :: l, n => by
    unfold tailGo
    split
    · exact Nat.le_refl _
    · exact Nat.le_trans (Nat.le_succ _) (tailGo_ge l (n + 1))

/-- New blocks stand behind the old ones. -/
theorem evOpN_pre {P : Program} {ρ : Operand → Option AV} {o : Op} {x : AV} (e : evOpN P ρ h o = some (x, h')) {b : Nat} {B : Option Blk} (hb : h[b]? = some B) : h'[b]? = some B := by
  have key : ∀ (l : Hp), (h ++ l)[b]? = some B := fun l => by rw [List.getElem?_append_left (List.getElem?_eq_some_iff.1 hb).1]; exact hb
  have box : ∀ {t : TypeId} {y : AV}, evBox h t y = some (x, h') → h'[b]? = some B := fun {t y} e => by
    unfold evBox at e
    split at e
    · injection e with e; injection e with _ e; subst e; exact key _
    · cases e
  unfold evOpN at e
  split at e
  · split at e
    · exact box e
    · cases e
  · split at e
    · exact box e
    · cases e
  · split at e
    · unfold evLit at e
      repeat (split at e <;> try (cases e; done))
      injection e with e; injection e with _ e; subst e; exact key _
    · cases e
  · split at e
    · unfold evMake at e
      repeat (split at e <;> try (cases e; done))
      injection e with e; injection e with _ e; subst e; exact key _
    · cases e
  · cases e
theorem callP_pre {ih : IH} {fv : AV} {xs : List AV} {x : AV} (e : callP E ih fv xs h = some (x, h')) {b : Nat} {B : Option Blk} (hb : h[b]? = some B) : h'[b]? = some B := by
  have key : ∀ (l : Hp), (h ++ l)[b]? = some B := fun l => by rw [List.getElem?_append_left (List.getElem?_eq_some_iff.1 hb).1]; exact hb
  unfold callP at e
  split at e
  · split at e
    · split at e
      · split at e
        · split at e
          · injection e with e; injection e with _ e; subst e; exact hb
          · cases e
        · cases e
      · split at e
        · split at e
          · injection e with e; injection e with _ e; subst e; exact hb
          · split at e
            · split at e
              · split at e
                · injection e with e; injection e with _ e; subst e; exact key _
                · cases e
              · cases e
            · cases e
        · cases e
    · cases e
  · cases e
theorem evLoad_congr {P : Program} {t : TypeId} {b i off : Nat} (hb : h[b]? = h'[b]?) : evLoad P h t (.pt b i off) = evLoad P h' t (.pt b i off) := by
  simp only [evLoad, hb]
/-- A load ahead of the first write reads what lay there before the region. -/
theorem load_quiet {w0 : World} {R0 : List RI} {h0 : Hp} {o : Oper} {x : AV} (hh0 : HR w0 Z R0 h0) (sr : SR E base w Z R s a) (hgr : w0.grownBy w none) (st : Step w0 Z R0 h0 w Z R s.hp) (hpre : ∀ (b : Nat) (B : Option Blk), h0[b]? = some B → s.hp[b]? = some B) (hl : isLd o.op = true) (hld : ldOk h0.length (opA E s.fr) o.op = true) (e : evOpQ E.P (opA E s.fr) s.hp o.op = some x) :
    ∃ u, VR w Z R x u ∧ QuietAt E.P (fun w' => w0.grownBy w' none) o u a := by
  have hρ : ∀ o x, opA E s.fr o = some x → VR w Z R x (a.eval o) := fun o x e => opA_vr sr o x e
  unfold isLd at hl
  split at hl
  · next t p ho =>
    rw [ho] at hld e
    simp only [evOpQ] at e
    split at e
    · next y hy =>
      have hv := hρ _ _ hy
      have main : ∀ (h1 : Hp), HR w0 Z R0 h1 → VR w0 Z R0 y (a.eval p) → evLoad E.P h1 t y = some x → ∃ u, VR w Z R x u ∧ QuietAt E.P (fun w' => w0.grownBy w' none) o u a := fun h1 hh1 hv0 e => by
        obtain ⟨u, k1, k2⟩ := evLoad_sound (P := E.P) (ρ := fun _ => some y) (ve := fun _ => a.eval p) (o := ⟨o.dst, .load t p, o.type, o.pos, o.after, o.guard⟩) hh1 (fun q x hx => by injection hx with hx; subst hx; exact hv0) (a := p) rfl rfl e
        refine ⟨u, k1.mono (fun b hb => hgr.block b (hh0.zlt b hb) (by simp)) (fun _ h => h) st.r, fun w' hw' => ?_⟩
        have k3 := k2 w' (fun _ => Same.of_grown hw')
        simp only [execOp, ho] at k3 ⊢
        exact k3
      simp only [ldOk, hy] at hld
      split at hld
      · next b i off hyb =>
        have hyb := Option.some.inj hyb
        subst hyb
        have hlt : b < h0.length := by simpa [Nat.blt_eq] using hld
        have hv0 : VR w0 Z R0 (.pt b i off) (a.eval p) := by
          generalize hva : a.eval p = va at hv
          cases hv with
          | pt hr =>
            have hbR : b < R0.length := by rw [hh0.len]; exact hlt
            have h1 := st.r b _ (List.getElem?_eq_getElem hbR)
            rw [hr] at h1
            injection h1 with h1
            rw [h1]
            exact .pt (List.getElem?_eq_getElem hbR)
        refine main h0 hh0 hv0 ?_
        have hb0 := hpre b _ (List.getElem?_eq_getElem hlt)
        rw [← e]
        exact evLoad_congr (by rw [hb0, List.getElem?_eq_getElem hlt])
      · next y' off hyb =>
        have hyb := Option.some.inj hyb
        subst hyb
        have hv0 : VR w0 Z R0 (.pe y' off) (a.eval p) := by
          generalize hva : a.eval p = va at hv
          cases hv with
          | pe hs hz h1 hu hx =>
            refine .pe hs hz h1 (fun j q hq => ?_) (hx.mono (fun b hb => (hgr.block b (hh0.zlt b hb) (by simp)).symm) (fun _ h => h) (fun _ _ h => h))
            exact (World.cell?_of_block (w := w) (w' := w0) (by exact (hgr.block _ (hh0.zlt _ hz) (by simp)).symm)).trans (hu j q hq)
        refine main h0 hh0 hv0 ?_
        rw [← e]
        rfl
      · cases hld
    · cases e
  · cases hl
/-- The operations ahead of the first write. -/
theorem mix_sound (hE : EnvOk E) (hCS : CS E n) {ops : Array Oper} {T : Nat} {Q : Act → World → Prop} {w0 : World} {Z : Nat → Prop} {R0 : List RI} {h0 : Hp} (hh0 : HR w0 Z R0 h0) (hT : T ≤ ops.size) :
    ∀ {rest : List Oper} {s : St} {a : Act} {w : World} {R : List RI} {k : Nat}, opsD E (evC E n) cx ops h0.length rest s = some s' → SR E base w Z R s a → w0.grownBy w none → Step w0 Z R0 h0 w Z R s.hp → (∀ (b : Nat) (B : Option Blk), h0[b]? = some B → s.hp[b]? = some B) → T = tailGo rest k → k + rest.length = ops.size → (∀ j, rest[j]? = ops[k + j]?) →
    (∀ a' w' Z' R', SR E base w' Z' R' s' a' → Step w0 Z R0 h0 w' Z' R' s'.hp → Q a' w') →
    wpMix E.P ops (fun w' => w0.grownBy w' none) (fun k => !((ops[k]?).any fun o => isQ o.op) || Nat.ble T k) T Q k rest a w
  | [], s, a, w, R, k, e, sr, hgr, st, hpre, hTk, hlen, hops, q => by
    injection e with e; subst e
    exact ⟨fun _ => hgr, q a w Z R sr st⟩
  | o :: rest, s, a, w, R, k, e, sr, hgr, st, hpre, hTk, hlen, hops, q => by
    have hok : ops[k]? = some o := by have := hops 0; simpa using this.symm
    have hops' : ∀ j, rest[j]? = ops[k + 1 + j]? := fun j => by have := hops (j + 1); simpa [Nat.add_assoc, Nat.add_comm 1 j] using this
    simp only [List.length_cons] at hlen
    unfold opsD at e
    split at e
    · next hW =>
      have hTk' : T = k := by rw [hTk]; unfold tailGo; rw [if_pos hW]
      refine tail_sound hE hCS e sr (by omega) (fun _ => hgr) (fun j hj => ?_) fun a' w' Z' R' sr' st' => q a' w' Z' R' sr' (st.trans st')
      have : Nat.ble T j = true := by rw [Nat.ble_eq]; omega
      simp [this]
    · next hW =>
      have hTk' : T = tailGo rest (k + 1) := by rw [hTk]; conv => lhs; unfold tailGo; rw [if_neg hW]
      have hkT : ¬ T ≤ k := by have := tailGo_ge rest (k + 1); omega
      have hble : Nat.ble T k = false := by
        cases hb : Nat.ble T k with
        | false => rfl
        | true => exact absurd (Nat.le_of_ble_eq_true hb) hkT
      refine ⟨fun _ => hgr, ?_⟩
      split at e
      · cases e
      · next hw =>
        have hw' := wantedA_eq sr hw
        rw [if_neg (by rw [hw']; simp)]
        exact mix_sound hE hCS hh0 hT e (sr.put undef_vr) hgr st hpre hTk' (by omega) hops' q
      · next hw =>
        have hw' := wantedA_eq sr hw
        rw [if_pos hw']
        have hρ : ∀ o x, opA E s.fr o = some x → VR w Z R x (a.eval o) := fun o x e => opA_vr sr o x e
        split at e
        · next x hx =>
          split at e
          · next hld =>
            have hq := isQ_of hx
            rw [if_neg (by simp [hok, hq, hble])]
            obtain ⟨u, hu, hrun⟩ := evOpQ_sound sr.hh hρ hx
            have hquiet : ∃ u, VR w Z R x u ∧ QuietAt E.P (fun w' => w0.grownBy w' none) o u a := by
              cases hl : isLd o.op with
              | false => exact ⟨u, hu, fun w' hw1 => hrun w' fun h => by rw [hl] at h; cases h⟩
              | true => exact load_quiet hh0 sr hgr st hpre hl hld hx
            obtain ⟨u, hu, hquiet⟩ := hquiet
            exact ⟨u, hquiet, mix_sound hE hCS hh0 hT e (sr.put hu) hgr st hpre hTk' (by omega) hops' q⟩
          · cases e
        · split at e
          · next x h' hx =>
            have hq := isQ_of_N hx
            rw [if_pos (by simp [hok, hq])]
            obtain ⟨u, w', R', h1, h2, h3, h4, h5⟩ := evOpN_sound hρ sr.hh hx
            refine lw_val h1 (mix_sound hE hCS hh0 hT e ((sr.step h2 h4).put h3) (pu_trans hgr h5) (st.trans h4) (fun b B hb => evOpN_pre hx (hpre b B hb)) hTk' (by omega) hops' q)
          · split at e
            · next f args tys ho =>
              split at e
              · next fv xs hf hxs =>
                split at e
                · next r hr =>
                  obtain ⟨x, h'⟩ := r
                  have hq : isQ o.op = false := by rw [ho]; rfl
                  rw [if_pos (by simp [hok, hq])]
                  obtain ⟨g, hva, hcl, hret⟩ := callP_sound hE hCS (hρ _ _ hf) (opds_vr hρ hxs) sr.hh sr.gl hr
                  unfold Lw
                  rw [run_call (uf := []) (uc := []) ho hva rfl hcl w]
                  simp only [List.nil_append, List.append_nil]
                  refine Ret.mono hret fun v w' hS => ?_
                  obtain ⟨hg1, R', k1, k2, k3⟩ := hS
                  refine mix_sound hE hCS hh0 hT e ((sr.step k1 k3).put k2) (pu_trans hgr hg1) (st.trans k3) (fun b B hb => callP_pre hr (hpre b B hb)) hTk' (by omega) hops' q
                · cases e
              · cases e
            · cases e

theorem tailGo_le : ∀ (l : List Oper) (n : Nat), tailGo l n ≤ n + l.length
  | [], n => Nat.le_refl _
  | o :: l, n => by
    unfold tailGo
    split
    · omega
    · have := tailGo_le l (n + 1); simp; omega

/-- A region that draws its order. -/
theorem draw_sound (hE : EnvOk E) (hCS : CS E n) {id : Nat} {ops : Array Oper} {Q : Exit → Act → World → Prop} (hd : drawOk (.region id ops true) = true) (e : opsD E (evC E n) cx ops s.hp.length ops.toList s = some s') (sr : SR E base w Z R s a)
    (k : ∀ a' w' Z' R', SR E base w' Z' R' s' a' → Step w Z R s.hp w' Z' R' s'.hp → Q .normal a' w') : (Code.region id ops true).wpIn (Fw ro) 0 E.P Q a w := by
  simp only [drawOk, Bool.not_true, Bool.false_or, Bool.and_eq_true] at hd
  have hgd : w.grownBy w.drew none := ch_drew w
  have hops : ops.toList.toArray = ops := by simp
  have st0 : Step w Z R s.hp w.drew Z R s.hp := ⟨rfl, rfl, rfl, Nat.le_refl _, fun c hc _ => rfl, fun _ h => .inl h, fun _ h => h, fun _ h => .inl h, fun _ _ h => h⟩
  have hsrd : SR E base w.drew Z R s a := ⟨sr.hh.keep (Nat.le_refl _) (fun c hc => hgd.block c hc (by simp)), sr.fr.off (fun c hc => rfl), sr.mks.step st0, sr.gl.off (fun c hc => rfl), sr.bs⟩
  have hm := mix_sound (cx := cx) hE hCS (ops := ops) (T := tailAt ops) (Q := fun a w => Q .normal a w) (w0 := w.drew) (h0 := s.hp) hsrd.hh (by have := tailGo_le ops.toList 0; unfold tailAt; simpa using this) (rest := ops.toList) (k := 0) e hsrd (pu_refl _) (Step.refl _ _ _ _) (fun b B hb => hb) rfl (by simp) (fun j => by simp) (fun a' w' Z' R' sr' st => k a' w' Z' R' sr' (st0.trans st))
  have := wp_region_mix (P := E.P) (id := id) (l := ops.toList) (a := a) (w := w) (C := fun w' => w.drew.grownBy w' none) (loud := fun k => !((ops[k]?).any fun o => isQ o.op) || Nat.ble (tailAt ops) k) (T := tailAt ops) (Q' := Q) ro 0 hE.mixed (by rw [hops]; exact hd.1) (by rw [hops]; exact hd.2) (by rw [hops]; exact hm)
  rw [hops] at this
  exact this
end
end Go.Proofs.YthofgamegondnaaDoor

namespace Go.Proofs.YthofgamegondnaaDoor
open Go.RowKit

section
variable {E : Env} {w w' : World} {Z Z' : Nat → Prop} {R R' : List RI} {h h' : Hp} {base : Nat} {s s' : St} {a : Act} {n : Nat} {cx : Cx} {ro : Option Nat}

theorem code_step (hE : EnvOk E) (hCS : CS E n) (hLS : LS E n) : CS E (n + 1) := by
    intro cx c s e s' hd he ro base Q a w Z R hro sr hy k
    have he0 := he
    unfold evC evStep at he
    cases c with
    | skip =>
      simp only at he
      injection he with he; injection he with h1 h2; subst h1 h2
      exact wpIn_skip (k _ _ Z R sr (Step.refl _ _ _ _))
    | exit id =>
      simp only at he
      injection he with he; injection he with h1 h2; subst h1 h2
      exact wpIn_exit (k _ _ Z R sr (Step.refl _ _ _ _))
    | ret =>
      simp only at he
      injection he with he; injection he with h1 h2; subst h1 h2
      exact wpIn_ret (k _ _ Z R sr (Step.refl _ _ _ _))
    | region id ops draw =>
      simp only at he
      obtain ⟨s1, hs1, he⟩ := Option.map_eq_some_iff.1 he
      injection he with h1 h2; subst h1 h2
      cases draw with
      | false =>
        simp only [Bool.false_eq_true, if_false] at hs1
        exact wpIn_region_list (opsA_sound hE hCS hro hs1 sr hy k)
      | true =>
        simp only [if_true] at hs1
        exact draw_sound hE hCS hd hs1 sr k
    | seq x y =>
      simp only at he
      simp only [drawOk, Bool.and_eq_true] at hd
      refine wpIn_seq ?_
      split at he
      · next s1 h1 =>
        exact hCS cx x s _ s1 hd.1 h1 ro base _ a w Z R hro sr hy fun a' w' Z' R' sr' st => hCS cx y s1 e s' hd.2 he ro base Q a' w' Z' R' hro sr' (hy.step sr.hh st) fun a'' w'' Z'' R'' sr'' st' => k a'' w'' Z'' R'' sr'' (st.trans st')
      · next hne =>
        refine hCS cx x s e s' hd.1 he ro base _ a w Z R hro sr hy fun a' w' Z' R' sr' st => ?_
        cases e with
        | normal => exact (hne s' he).elim
        | exit id => exact k a' w' Z' R' sr' st
        | ret => exact k a' w' Z' R' sr' st
    | cond c x y =>
      simp only at he
      simp only [drawOk, Bool.and_eq_true] at hd
      split at he
      · next hc => exact wpIn_cond_true (opA_vr sr _ _ hc).v_inv (hCS cx x s e s' hd.1 he ro base Q a w Z R hro sr hy k)
      · next hc => exact wpIn_cond_false (opA_vr sr _ _ hc).v_inv (hCS cx y s e s' hd.2 he ro base Q a w Z R hro sr hy k)
      · cases he
    | block id x =>
      simp only at he
      simp only [drawOk] at hd
      refine wpIn_block ?_
      split at he
      · next id' s1 h1 =>
        refine hCS cx x s _ s1 hd h1 ro base _ a w Z R hro sr hy fun a' w' Z' R' sr' st => ?_
        show if id' = id then Q .normal a' w' else Q (.exit id') a' w'
        split at he
        · next hid =>
          injection he with he; injection he with h2 h3; subst h2 h3
          rw [if_pos hid]
          exact k a' w' Z' R' sr' st
        · next hid =>
          injection he with he; injection he with h2 h3; subst h2 h3
          rw [if_neg hid]
          exact k a' w' Z' R' sr' st
      · next hne =>
        refine hCS cx x s e s' hd he ro base _ a w Z R hro sr hy fun a' w' Z' R' sr' st => ?_
        cases e with
        | normal => exact k a' w' Z' R' sr' st
        | exit id' => exact (hne id' s' he).elim
        | ret => exact k a' w' Z' R' sr' st
    | loop x =>
      simp only [drawOk] at hd
      exact wpIn_loop_rounds (n + 1) (loop_sound hCS hLS cx x s e s' hd he0 ro base Q a w Z R hro sr hy k)
    | rangeFunc f ps assign body =>
      simp only at he
      simp only [drawOk, Bool.and_eq_true] at hd
      split at he
      · cases he
      · next hin =>
        have hro' := hro (by simpa using hin)
        subst hro'
        split at he
        · next g first caps hf =>
          split at he
          · next x h' hent =>
            injection he with he; injection he with h1 h2; subst h1 h2
            exact range_sound hE hCS hd.1 hd.2 sr (opA_vr sr _ _ hf) hent (k := fun a' w' Z' R' sr' st => k a' w' Z' R' sr' st)
          · cases he
        · cases he
    | scope c => cases he
    | label l => cases he
    | goto l => cases he
    | refuse why => cases he
theorem code_sound (hE : EnvOk E) : ∀ n, CS E n ∧ LS E n
  | 0 => ⟨(fun cx c s e s' _ he => by cases he), (fun cx c s e s' _ he => by cases he)⟩
  | n + 1 => ⟨code_step hE (code_sound hE n).1 (code_sound hE n).2, loop_sound (code_sound hE n).1 (code_sound hE n).2⟩
end
end Go.Proofs.YthofgamegondnaaDoor
