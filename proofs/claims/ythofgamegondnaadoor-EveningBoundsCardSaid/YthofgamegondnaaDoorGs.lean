/- What the printed proofs want: selecting blocks, closed facts of types, parts that end in several ways. -/
import Derived.Test.YthofgamegondnaaDoorFz
namespace Go.Proofs.YthofgamegondnaaDoor
open Go.RowKit

def BkUp (ι : List Nat) (o o' : Option Blk) : Prop := o' = none ∨ (o = o' ∧ ∀ B, o' = some B → ∀ x ∈ B.es, noRf2 x = true) ∨ ∃ k t fz es es', o = some ⟨k, t, es, fz⟩ ∧ o' = some ⟨k, t, es', fz⟩ ∧ es = es'.map (up ι) ∧ ∀ x ∈ es', flat2 x = true
def HpUp (ι : List Nat) (h : Hp) : List Nat → Hp → Prop
  | [], [] => True
  | b :: bs, o' :: r => (∃ o, h[b]? = some o ∧ BkUp ι o o') ∧ HpUp ι h bs r
  | _, _ => False
theorem HpUp.at_ {ι : List Nat} {h : Hp} : ∀ {bs : List Nat} {h' : Hp}, HpUp ι h bs h' → h'.length = bs.length ∧ ∀ (j : Nat) (B : Blk), h'[j]? = some (some B) → ∃ b, bs[j]? = some b ∧ h[b]? = some (some { B with es := B.es.map (up ι) }) ∧ ∀ x ∈ B.es, flat2 x = true
  | [], [], _ => ⟨rfl, fun j B hB => by simp at hB⟩
  | b :: bs, o' :: r, ⟨⟨o, h1, h2⟩, h3⟩ => by
    obtain ⟨k1, k2⟩ := h3.at_
    refine ⟨by simp [k1], fun j B hB => ?_⟩
    cases j with
    | zero =>
      simp at hB
      subst hB
      refine ⟨b, rfl, ?_⟩
      rcases h2 with h2 | ⟨rfl, h2⟩ | ⟨k, t, fz, es, es', rfl, h2, rfl, h4⟩
      · cases h2
      · have hx := h2 B rfl
        have hes : B.es.map (up ι) = B.es := by
          conv => rhs; rw [← List.map_id B.es]
          exact List.map_congr_left fun c hc => (up_noRf2 (hx c hc)).1
        exact ⟨by rw [hes]; exact h1, fun x hx' => (up_noRf2 (ι := ι) (hx x hx')).2⟩
      · have h2 := Option.some.inj h2
        subst h2
        exact ⟨h1, h4⟩
    | succ j => simpa using k2 j B (by simpa using hB)
  | [], _ :: _, h => h.elim
  | _ :: _, [], h => h.elim
/-- Only the blocks of ι stay, under new numbers. -/
theorem Wk.sel2 {E : Env} {n : Nat} {l l' : List (Nat × AV)} {h h' : Hp} (ι : List Nat) (hlt : (ι.all fun b => Nat.blt b h.length) = true) (hnd : ndB ι = true) (hbig : Nat.ble h.length 1000000000 = true) (hk : HpUp ι h ι h') (hl : LkUp ι l l') : Wk E ⟨Fr n l, h⟩ ⟨Fr n l', h'⟩ := by
  obtain ⟨k1, k2⟩ := hk.at_
  exact Wk.ren ι ⟨k1, fun i hi => Nat.le_of_ble_eq_true (List.all_eq_true.1 hlt i hi), ndB_inj hnd, k2, Nat.le_of_ble_eq_true hbig⟩ hl.at_
theorem bu_none {ι : List Nat} {o : Option Blk} : BkUp ι o none := .inl rfl
theorem bu_mk {ι : List Nat} {α : Type} {c : Cd α} {k : Nat} {t : TypeId} {xs : List α} : BkUp ι (mk k t (xs.map c.enc)) (mk k t (xs.map c.enc)) := .inr (.inl ⟨rfl, mk_ok enc_ok⟩)
theorem bu_own {ι : List Nat} {α : Type} {c : Cd α} {k : Nat} {t : TypeId} {fz : Bool} {xs : List α} : BkUp ι (some ⟨k, t, xs.map c.enc, fz⟩) (some ⟨k, t, xs.map c.enc, fz⟩) := .inr (.inl ⟨rfl, fun B hB => by injection hB with hB; subst hB; exact enc_ok⟩)
theorem bu_c {ι : List Nat} {k : Nat} {t : TypeId} {fz : Bool} {es es' : List AV} (h : es = es'.map (up ι)) (hf : es'.all flat2 = true) : BkUp ι (some ⟨k, t, es, fz⟩) (some ⟨k, t, es', fz⟩) := .inr (.inr ⟨k, t, fz, es, es', rfl, rfl, h, List.all_eq_true.1 hf⟩)
theorem lu {ι : List Nat} {l : List (Nat × AV)} {t : Nat} {x : AV} (h : lk l t = some (up ι x)) (hf : flat2 x = true) : lk l t = some (up ι x) ∧ flat2 x = true := ⟨h, hf⟩
theorem lu_hd {ι : List Nat} {l : List (Nat × AV)} {t b b' : Nat} {es : List AV} (h : lk l t = some (hd b' es)) (hb : ι.getD b 1000000000 = b') : lk l t = some (up ι (hd b es)) ∧ flat2 (hd b es) = true := ⟨by rw [h, (up_hd (ι := ι) (b := b)).1, hb], (up_hd (ι := ι) (b := b)).2⟩

theorem lu_rl {ι : List Nat} {l : List (Nat × AV)} {t b b' n n' : Nat} (h : lk l t = some (.rf b' 0 n n)) (hn : n = n') (hb : ι.getD b 1000000000 = b') : lk l t = some (up ι (.rf b 0 n' n')) ∧ flat2 (.rf b 0 n' n') = true := by
  subst hn
  exact ⟨by rw [h]; show _ = some (AV.rf (ι.getD b 1000000000) 0 n n); rw [hb], rfl⟩
theorem fz_rlT {α : Type} {c : Cd α} {xs : List α} {h : Hp} {b k : Nat} {t : TypeId} (hb : h[b]? = some (some ⟨k, t, xs.map c.enc, false⟩)) : Fr1 h b (.rf b 0 xs.length xs.length) (.sl k (xs.map c.enc)) := by
  have := fz_rl hb enc_ok
  rwa [List.length_map] at this
theorem fz_rfT {α : Type} {c : Cd α} {xs : List α} {h : Hp} {b k n m : Nat} {t : TypeId} (hb : h[b]? = some (some ⟨k, t, xs.map c.enc, false⟩)) (hn : n ≤ xs.length) : Fr1 h b (.rf b 0 n m) (.sl k ((xs.take n).map c.enc)) := by
  have := fz_rf (m := m) hb enc_ok (n := n) (by rw [List.length_map]; exact hn)
  rwa [← List.map_take] at this
/-- Closed facts of types, as one check. -/
def apB (P : Program) (t el : TypeId) (k bytes : Nat) : Bool :=
  match tyElem P t, P.info? el, tyZero P el with
  | some e, some i, some z => Nat.beq e el && Nat.beq i.size k && Nat.blt 0 k && Nat.beq z.nc k && z.notTp && Nat.beq i.bytes bytes
  | _, _, _ => false
theorem apB_inv {P : Program} {t el : TypeId} {k bytes : Nat} (h : apB P t el k bytes = true) : ∃ i z, tyElem P t = some el ∧ P.info? el = some i ∧ tyZero P el = some z ∧ i.size = k ∧ 0 < k ∧ z.nc = k ∧ z.notTp = true ∧ i.bytes = bytes := by
  unfold apB at h
  split at h
  · next e i z h1 h2 h3 =>
    simp only [Bool.and_eq_true] at h
    obtain ⟨⟨⟨⟨⟨a1, a2⟩, a3⟩, a4⟩, a5⟩, a6⟩ := h
    exact ⟨i, z, by rw [h1, Nat.eq_of_beq_eq_true a1], h2, h3, Nat.eq_of_beq_eq_true a2, Nat.le_of_ble_eq_true a3, Nat.eq_of_beq_eq_true a4, a5, Nat.eq_of_beq_eq_true a6⟩
  · cases h
theorem append_B {α : Type} {c : Cd α} {xs vs : List α} {P : Program} {h : Hp} {t t2 el : TypeId} {k b bytes : Nat} {y : AV} (ha : apB P t el k bytes = true) (hs : srcOk P t2 y = true)
    (he : elems h k y = some (vs.map c.enc)) (hy : vs ≠ []) (hb : h[b]? = some (mk k el (xs.map c.enc))) (hc : capOk bytes (xs.length + vs.length) = true) :
    evAppend P h t t2 (hd b (xs.map c.enc)) y = some (hd h.length ((xs ++ vs).map c.enc), h.set b none ++ [mk k el ((xs ++ vs).map c.enc)]) := by
  obtain ⟨i, z, a1, a2, a3, a4, a5, a6, a7, a8⟩ := apB_inv ha
  exact append_T hs a1 a2 a3 a4 (Nat.ble_eq_true_of_le a5) a6 a7 he hy hb a8 hc
/-- .. to nothing. -/
theorem append_E {α : Type} {c : Cd α} {vs : List α} {P : Program} {h : Hp} {t t2 el : TypeId} {k bytes : Nat} {y : AV} (ha : apB P t el k bytes = true) (hs : srcOk P t2 y = true)
    (he : elems h k y = some (vs.map c.enc)) (hy : vs ≠ []) (hc : capOk bytes vs.length = true) :
    evAppend P h t t2 .e0 y = some (hd h.length (vs.map c.enc), h ++ [mk k el (vs.map c.enc)]) := by
  obtain ⟨i, z, a1, a2, a3, a4, a5, a6, a7, a8⟩ := apB_inv ha
  obtain ⟨c1, c2⟩ := capOk_inv hc
  obtain ⟨q, vs', rfl⟩ : ∃ q ys', vs = q :: ys' := by cases vs with | nil => exact absurd rfl hy | cons q ys' => exact ⟨q, ys', rfl⟩
  unfold evAppend
  rw [if_neg (by rw [hs]; simp), a1]
  simp only [a2, a3, a4, he, List.map_cons, List.isEmpty_cons, Bool.false_eq_true, if_false]
  rw [if_pos ⟨a5, a6, a7⟩, if_pos ⟨by rw [a8]; simpa using c1, by simpa using c2⟩]
  rfl
/-- .. to a whole block of its own. -/
theorem append_R {α : Type} {c : Cd α} {xs vs : List α} {P : Program} {h : Hp} {t t2 el : TypeId} {k b bytes : Nat} {y : AV} (ha : apB P t el k bytes = true) (hs : srcOk P t2 y = true)
    (he : elems h k y = some (vs.map c.enc)) (hy : vs ≠ []) (hb : h[b]? = some (some ⟨k, el, xs.map c.enc, false⟩)) (hc : capOk bytes (xs.length + vs.length) = true) :
    evAppend P h t t2 (.rf b 0 xs.length xs.length) y = some (.rf h.length 0 (xs ++ vs).length (xs ++ vs).length, h.set b none ++ [some ⟨k, el, (xs ++ vs).map c.enc, false⟩]) := by
  obtain ⟨i, z, a1, a2, a3, a4, a5, a6, a7, a8⟩ := apB_inv ha
  obtain ⟨c1, c2⟩ := capOk_inv hc
  obtain ⟨q, vs', rfl⟩ : ∃ q ys', vs = q :: ys' := by cases vs with | nil => exact absurd rfl hy | cons q ys' => exact ⟨q, ys', rfl⟩
  unfold evAppend
  rw [if_neg (by rw [hs]; simp), a1]
  simp only [a2, a3, a4, he, List.map_cons, List.isEmpty_cons, Bool.false_eq_true, if_false]
  rw [if_pos ⟨a5, a6, a7⟩]
  simp only [hb]
  rw [if_neg (by simp)]
  rw [if_neg (by simp)]
  rw [if_pos ⟨trivial, by simp, by rw [a8]; simpa using c1, by simpa using c2⟩]
  simp
def miB (P : Program) (t el : TypeId) (k bytes : Nat) : Bool := apB P t el k bytes
theorem make_B {P : Program} {h : Hp} {α : Type} {c : Cd α} {t el : TypeId} {k bytes : Nat} {n : Int} {kn kc : IntKind} {z : α} (ha : apB P t el k bytes = true) (hz : tyZero P el = some (c.enc z)) (hc : mkOk bytes n = true) :
    evMake P h t (.v (.int kn n)) (.v (.int kc n)) = some (.rf h.length 0 (List.replicate n.toNat z).length (List.replicate n.toNat z).length, h ++ [some ⟨k, el, (List.replicate n.toNat z).map c.enc, false⟩]) := by
  obtain ⟨i, z', a1, a2, a3, a4, a5, a6, a7, a8⟩ := apB_inv ha
  rw [hz] at a3
  injection a3 with a3
  subst a3
  exact mk_T a1 a2 hz a4 a6 a7 a8 hc
theorem len_hd' {P : Program} {α : Type} {e : α → AV} {xs : List α} {t el : TypeId} {b : Nat} (hu : P.underlying t = some (.slice el)) : evLen P t (hd b (xs.map e)) = some (eI xs.length) := by
  rw [len_hd hu, List.length_map]
/-- Elements of an own slice. -/
theorem elems_hd {h : Hp} {k b : Nat} {t : TypeId} {es : List AV} (hb : h[b]? = some (mk k t es)) : elems h k (hd b es) = some es := by
  cases es with
  | nil => rfl
  | cons x es => simp [elems, hd, hb, mk]
theorem elems_sl {h : Hp} {k : Nat} {es : List AV} : elems h k (.sl k es) = some es := by simp [elems]
theorem elems_rl {h : Hp} {k b : Nat} {t : TypeId} {α : Type} {e : α → AV} {xs : List α} (hb : h[b]? = some (some ⟨k, t, xs.map e, false⟩)) : elems h k (.rf b 0 xs.length xs.length) = some (xs.map e) := by
  simp only [elems, hb, List.length_map]
  rw [if_pos ⟨trivial, by simp⟩, List.drop_zero, List.take_of_length_le (by simp)]
/-- Cuts. -/
def cutOk (lo hi : Int) (n : Nat) : Bool := decide (0 ≤ lo) && decide (lo ≤ hi) && decide (hi ≤ n)
theorem cutOk_inv {lo hi : Int} {n : Nat} (h : cutOk lo hi n = true) : 0 ≤ lo ∧ 0 ≤ hi ∧ lo.toNat ≤ hi.toNat ∧ hi.toNat ≤ n := by
  simp only [cutOk, Bool.and_eq_true, decide_eq_true_eq] at h
  omega
theorem slice_sl {P : Program} {h : Hp} {α : Type} {e : α → AV} {xs : List α} {t el : TypeId} {k : Nat} {lo hi : Int} {a b : Option AV} (hu : P.underlying t = some (.slice el)) (hs : tySize P el = some k) (ha : natB a 0 = some lo.toNat) (hb : natB b xs.length = some hi.toNat) (hc : cutOk lo hi xs.length = true) :
    evSlice P h t (.sl k (xs.map e)) a b none = some (.sl k (((xs.take hi.toNat).drop lo.toNat).map e)) := by
  obtain ⟨_, _, h1, h2⟩ := cutOk_inv hc
  unfold evSlice
  simp only [hu, List.length_map, ha, hb]
  rw [show natB none xs.length = some xs.length from rfl]
  simp only
  rw [if_pos ⟨h1, h2, Nat.le_refl _, .inl rfl, hs⟩]
  simp
theorem slice_st {P : Program} {h : Hp} {bs : List UInt8} {t : TypeId} {lo hi : Int} {a b : Option AV} (hu : P.underlying t = some .string) (ha : natB a 0 = some lo.toNat) (hb : natB b bs.length = some hi.toNat) (hc : cutOk lo hi bs.length = true) :
    evSlice P h t (.st bs) a b none = some (.st ((bs.take hi.toNat).drop lo.toNat)) := by
  obtain ⟨_, _, h1, h2⟩ := cutOk_inv hc
  unfold evSlice
  simp only [hu, ha, hb]
  rw [if_pos ⟨h1, h2⟩]
theorem natB_i {k : IntKind} {n : Int} {d : Nat} (h : 0 ≤ n) : natB (some (.v (.int k n))) d = some n.toNat := by
  simp only [natB]; rw [if_neg (by omega)]
theorem natB_len {n : Nat} : natB none n = some (n : Int).toNat := rfl
/-- The beginning of a whole block of its own. -/
theorem slice_rl {P : Program} {h : Hp} {α : Type} {e : α → AV} {xs : List α} {t t' el : TypeId} {b k : Nat} {hi : Int} {ki : IntKind} (hu : P.underlying t = some (.slice el)) (hs : tySize P el = some k) (hb : h[b]? = some (some ⟨k, t', xs.map e, false⟩)) (hc : cutOk 0 hi xs.length = true) (h0 : xs ≠ []) :
    evSlice P h t (.rf b 0 xs.length xs.length) none (some (.v (.int ki hi))) none = some (.rf b 0 hi.toNat xs.length) := by
  obtain ⟨_, h2, _, h3⟩ := cutOk_inv hc
  have hp : 0 < xs.length := List.length_pos_iff.2 h0
  unfold evSlice
  simp only [hu, hb, natB_i h2]
  rw [show natB none xs.length = some xs.length from rfl, show natB none 0 = some 0 from rfl]
  simp only
  rw [if_pos ⟨Nat.zero_le _, h3, Nat.le_refl _, .inl rfl, hs⟩, if_pos hp]
  simp
theorem cut_lo {lo hi : Int} {n : Nat} (h : cutOk lo hi n = true) : 0 ≤ lo := (cutOk_inv h).1
theorem cut_hi {lo hi : Int} {n : Nat} (h : cutOk lo hi n = true) : 0 ≤ hi := (cutOk_inv h).2.1
theorem q_slice {P : Program} {h : Hp} {ρ : Operand → Option AV} {t : TypeId} {x : Operand} {lo hi mx : Option Operand} {a r : AV} {l u m : Option AV} (hx : ρ x = some a) (hl : opdo ρ lo = some l) (hh : opdo ρ hi = some u) (hm : opdo ρ mx = some m) (he : evSlice P h t a l u m = some r) : evOpQ P ρ h (.slice t x lo hi mx) = some r := by
  show (match ρ x, opdo ρ lo, opdo ρ hi, opdo ρ mx with | some x, some lo, some hi, some mx => evSlice P h t x lo hi mx | _, _, _, _ => none) = some r
  rw [hx, hl, hh, hm]; exact he
/-- A byte of a string. -/
theorem q_index {P : Program} {h : Hp} {ρ : Operand → Option AV} {t : TypeId} {x i : Operand} {a b r : AV} (hx : ρ x = some a) (hi : ρ i = some b) (he : evIndex P t a b = some r) : evOpQ P ρ h (.index t x i) = some r := by
  show (match ρ x, ρ i with | some x, some i => evIndex P t x i | _, _ => none) = some r
  rw [hx, hi]; exact he
theorem index_st {P : Program} {bs : List UInt8} {t : TypeId} {ki : IntKind} {i : Int} {v : UInt8} (hu : P.underlying t = some .string) (hv : idx bs i = some v) : evIndex P t (.st bs) (.v (.int ki i)) = some (.v (.int .u8 v.toNat)) := by
  obtain ⟨h0, h1⟩ := idx_at hv
  unfold evIndex
  simp only [intOfA]
  rw [if_neg (by omega)]
  simp only [hu, h1, Option.map_some]
theorem cat_st {a b : List UInt8} (h : okB (a ++ b) = true) : evBin .add (.st a) (.st b) = some (.st (a ++ b)) := by
  simp [evBin, strBin, h]
section
variable {E : Env} {ops : Array Oper} {rest rest' : List Oper} {K : St → Prop} {n n0 k : Nat} {l : List (Nat × AV)} {hp hp' : Hp} {α β : Type} {s : Cs α} {F : α → Option β} {er : β → AV} {a : α} {b : β} {xs : List AV}
theorem RunS.call (hE : EnvOk E) {d : Nat} {f : Operand} {args : Array Operand} {tys : Array TypeId} {ty : TypeId} {pos : String} {af : Array Edge} {g : Option (Nat × Bool)} {fid : FuncId} (hr : rest = ⟨some d, .call ⟨.value f, args, tys⟩, ty, pos, af, g⟩ :: rest') (hw : wantedA ops (Fr n l) ⟨some d, .call ⟨.value f, args, tys⟩, ty, pos, af, g⟩ = some true)
    (hf : opA E (Fr n l) f = some (.fn fid [] [])) (hi : E.I fid = false) (hX : E.X fid = some (told s F er)) (ha : opds (opA E (Fr n l)) args.toList = some xs) (hv : Sns hp s xs a) (hok : xs.all noRf2 = true ∨ flatTp (er b) = true) (hF : F a = some b) (k : RunS E ops rest' ⟨Fr n ((d, er b) :: l), hp⟩ K) : RunS E ops rest ⟨Fr n l, hp⟩ K :=
  RunS.one hE 0 hr (op_call hw hf hi hX ha hv hok hF) k
theorem RunDS.call (hE : EnvOk E) {d : Nat} {f : Operand} {args : Array Operand} {tys : Array TypeId} {ty : TypeId} {pos : String} {af : Array Edge} {g : Option (Nat × Bool)} {fid : FuncId} (hr : rest = ⟨some d, .call ⟨.value f, args, tys⟩, ty, pos, af, g⟩ :: rest') (hw : wantedA ops (Fr n l) ⟨some d, .call ⟨.value f, args, tys⟩, ty, pos, af, g⟩ = some true)
    (hf : opA E (Fr n l) f = some (.fn fid [] [])) (hX : E.X fid = some (told s F er)) (ha : opds (opA E (Fr n l)) args.toList = some xs) (hv : Sns hp s xs a) (hfl : flatTp (er b) = true) (hF : F a = some b) (kk : RunDS E ops n0 (k + 1) rest' ⟨Fr n ((d, er b) :: l), hp⟩ K) : RunDS E ops n0 k rest ⟨Fr n l, hp⟩ K :=
  RunDS.one hE hr rfl (opd_call hw hf hX ha hv hfl hF) kk
theorem RunS.store (hE : EnvOk E) {t : TypeId} {p q : Operand} {y z : AV} {ty : TypeId} {pos : String} {af : Array Edge} {g : Option (Nat × Bool)} (hr : rest = ⟨none, .store t p q, ty, pos, af, g⟩ :: rest') (hw : wantedA ops (Fr n l) ⟨none, .store t p q, ty, pos, af, g⟩ = some true) (hp1 : opA E (Fr n l) p = some y) (hq1 : opA E (Fr n l) q = some z) (h : evStore E.P hp t y z = some hp') (k : RunS E ops rest' ⟨Fr n l, hp'⟩ K) : RunS E ops rest ⟨Fr n l, hp⟩ K :=
  RunS.one hE 0 hr (op_st hw hp1 hq1 h) k
/-- Is a slice nil? If it is, it is empty. -/
theorem RunS.isnil {d k el : Nat} {t t' : TypeId} {x : Operand} {es : List AV} {ty : TypeId} {pos : String} {af : Array Edge} {g : Option (Nat × Bool)} (hr : rest = ⟨some d, .binOp .eql t x (.const (.slice none 0 0)) t', ty, pos, af, g⟩ :: rest') (hw : wantedA ops (Fr n l) ⟨some d, .binOp .eql t x (.const (.slice none 0 0)) t', ty, pos, af, g⟩ = some true)
    (hx : opA E (Fr n l) x = some (.sl k es)) (hu : E.P.underlying t = some (.slice el)) (kk : ∀ b : Bool, (b = true → es = []) → RunS E ops rest' ⟨Fr n ((d, .v (.bool b)) :: l), hp⟩ K) : RunS E ops rest ⟨Fr n l, hp⟩ K := by
  subst hr
  intro base Q a w Z R sr q
  have hv := opA_vr sr x _ hx
  generalize hva : a.eval x = va at hv
  cases hv with
  | sl hn hl hc hm ha hxs =>
    rename_i c m A us
    have hrun : (execOp a.eval ⟨some d, .binOp .eql t x (.const (.slice none 0 0)) t', ty, pos, af, g⟩).run E.P w = .ok (.value (.bool A.isNone)) w := by
      have h1 : ∀ d w', (Op.equalIn (d + 1) t (.slice A m c) (.slice none 0 0)).run E.P w' = .ok A.isNone w' := fun d w' => by
        cases A <;> simp [Op.equalIn, run_underlying hu]
      have h2 : (Op.equal t (.slice A m c) (.slice none 0 0)).run E.P w = .ok A.isNone w := h1 9999 w
      have h3 : a.eval (.const (.slice none 0 0)) = .slice none 0 0 := rfl
      simp [execOp, hva, h3, eqGuard, binOp, h2]
    unfold LwL
    rw [if_pos (wantedA_eq sr hw)]
    unfold Lw
    rw [hrun]
    have hb : A.isNone = true → es = [] := fun h => by
      cases A with
      | some ad => cases h
      | none =>
        rcases Nat.eq_zero_or_pos m with h0 | h0
        · subst h0; exact List.eq_nil_of_length_eq_zero hn
        · obtain ⟨ad, h1, _⟩ := ha h0; cases h1
    have sr' := sr.put (d := some d) (x := .v (.bool A.isNone)) (u := .bool A.isNone) (.v rfl)
    have e1 : putA (Fr n l) (some d) (.v (.bool A.isNone)) = Fr n ((d, .v (.bool A.isNone)) :: l) := putA_Fr n l d _
    rw [show (⟨putA (⟨Fr n l, hp⟩ : St).fr (some d) (.v (.bool A.isNone)), (⟨Fr n l, hp⟩ : St).hp⟩ : St) = ⟨Fr n ((d, .v (.bool A.isNone)) :: l), hp⟩ by rw [← e1]] at sr'
    exact kk A.isNone hb base Q _ w Z R sr' q
end
section
variable {E : Env} {cx : Cx} {c : Code} {s s1 : St} {Q P : Ex → St → Prop}
theorem Sem.runQ {id : Nat} {ops : Array Oper} (h : RunS E ops ops.toList s fun s' => Q .normal s') : Sem E cx (.region id ops false) s Q := by
  intro ro base Qm a w Z R _ h2 _ kk
  exact wpIn_region_list (lwl_list ro (h base _ a w Z R h2 fun s' a' w' Z' R' hq sr st => kk .normal s' a' w' Z' R' hq sr st))
theorem Sem.part (h : Sem E cx c s P) (k : ∀ e s', P e s' → ∃ s2, Wk E s' s2 ∧ Q e s2) : Sem E cx c s Q := Sem.wkQ (Sem.mono h k)
end
end Go.Proofs.YthofgamegondnaaDoor
