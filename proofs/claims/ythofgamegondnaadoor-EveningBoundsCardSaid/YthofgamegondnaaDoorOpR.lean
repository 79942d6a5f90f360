/- The abstract interpreter: operations that only read are sound (2). -/
import Derived.Test.YthofgamegondnaaDoorOpQ
import Derived.Lib.Builder
import Derived.Laws.StructEq
namespace Go.Proofs.YthofgamegondnaaDoor
open Go.RowKit

section
variable {P : Program} {w : World} {Z : Nat → Prop} {R : List RI} {h : Hp} {ρ : Operand → Option AV} {ve : Operand → Value} {o : Oper} {x : AV}

theorem VR.v_inv {y : Value} {u : Value} (hv : VR w Z R (.v y) u) : u = y := by cases hv; rfl
theorem VR.st_inv {bs : List UInt8} {u : Value} (hv : VR w Z R (.st bs) u) : ∃ s : ByteArray, u = .string s ∧ s.data.toList = bs ∧ bs.length ≤ maxLen := by
  cases hv with
  | st h hn => exact ⟨_, rfl, h, hn⟩

theorem toList_data' (s : ByteArray) : s.toList = s.data.toList := ByteArray.toList_eq s

theorem run_eqGuard_int {op : BinOp} {t : TypeId} {x y : Operand} {k k' : IntKind} {a b : Int} : (eqGuard op t x y (.int k a) (.int k' b)) = pure () := by
  unfold eqGuard; cases op <;> rfl
theorem run_eqGuard_str {op : BinOp} {t : TypeId} {x y : Operand} {a b : ByteArray} : (eqGuard op t x y (.string a) (.string b)) = pure () := by
  unfold eqGuard; cases op <;> rfl

theorem intBin_run {op : BinOp} {t : TypeId} {k : IntKind} {a b : Int} {u : Value} (hs : isShift op = false) (e : intBin op k a b = some u) (w : World) : (binOp op t (.int k a) (.int k b)).run P w = .ok u w ∧ u.oneCell' = true := by
  unfold intBin at e
  cases op <;> simp only [isShift] at hs <;> simp only at e <;> first
    | (cases e; done)
    | (injection e with e; subst e; refine ⟨?_, rfl⟩; simp [binOp, Op.intArith, Op.intCmp, Op.intBits, wr_eq]; done)
    | (split at e
       · cases e
       · next hb => injection e with e; subst e; refine ⟨?_, rfl⟩; simp [binOp, Op.intDiv, hb, wr_eq])
theorem shiftBin_run {op : BinOp} {t : TypeId} {k k' : IntKind} {a b : Int} {u : Value} (e : shiftBin op k a b = some u) (w : World) : (binOp op t (.int k a) (.int k' b)).run P w = .ok u w ∧ u.oneCell' = true := by
  unfold shiftBin at e
  split at e
  · cases e
  · next hb =>
    cases op <;> simp only at e <;> first
      | (cases e; done)
      | (injection e with e; subst e; refine ⟨?_, rfl⟩; simp [binOp, Op.shift, hb, wr_eq])
theorem strBin_run {op : BinOp} {t : TypeId} {a b : List UInt8} {sa sb : ByteArray} (ha : sa.data.toList = a) (hb : sb.data.toList = b) (e : strBin op a b = some x) : ∃ u, VR w Z R x u ∧ ∀ w', (binOp op t (.string sa) (.string sb)).run P w' = .ok u w' := by
  subst ha hb
  unfold strBin at e
  cases op <;> simp only at e <;> first
    | (cases e; done)
    | (injection e with e; subst e; exact ⟨_, .v rfl, fun w' => by simp [binOp, Op.stringOp, toList_data']⟩)
    | (split at e
       · next hk =>
         injection e with e
         subst e
         have h1 := Nat.le_of_ble_eq_true hk
         have h2 : (sa ++ sb).data.toList = sa.data.toList ++ sb.data.toList := by simp
         refine ⟨.string (sa ++ sb), .st h2 h1, fun w' => ?_⟩
         have h3 : sa.size + sb.size ≤ maxLen := by
           have e1 : sa.data.toList.length = sa.size := Array.length_toList
           have e2 : sb.data.toList.length = sb.size := Array.length_toList
           rw [List.length_append] at h1; omega
         unfold maxLen at h3
         have h4 : ¬ (((sa.size + sb.size : Nat) : Int) > IntKind.i64.max) := by
           show ¬ (_ > (9223372036854775807 : Int)); omega
         show (Op.stringOp .add sa sb).run P w' = _
         unfold Op.stringOp
         simp only
         rw [if_neg h4]
         rfl
       · cases e)

theorem evBin_sound (hρ : ∀ o x, ρ o = some x → VR w Z R x (ve o)) {op : BinOp} {t t' : TypeId} {p q : Operand} {y z : AV} (hp : ρ p = some y) (hq : ρ q = some z) (ho : o.op = .binOp op t p q t') (e : evBin op y z = some x) : Qt P w Z R x ve o := by
  have hv := hρ _ _ hp
  have hv' := hρ _ _ hq
  unfold evBin at e
  split at e
  · next k a k' b =>
    have e1 := hv.v_inv
    have e2 := hv'.v_inv
    split at e
    · obtain ⟨u, hu, rfl⟩ := Option.map_eq_some_iff.1 e
      exact ⟨u, .v (shiftBin_run (P := P) (t := t) (k' := k') hu w).2, fun w' _ => by
        simp only [execOp, ho, e1, e2, run_eqGuard_int]
        simp [(shiftBin_run (P := P) (t := t) (k' := k') hu w').1]⟩
    · next hs =>
      split at e
      · next hk =>
        subst hk
        obtain ⟨u, hu, rfl⟩ := Option.map_eq_some_iff.1 e
        have hs' : isShift op = false := by simpa using hs
        exact ⟨u, .v (intBin_run (P := P) (t := t) hs' hu w).2, fun w' _ => by
          simp only [execOp, ho, e1, e2, run_eqGuard_int]
          simp [(intBin_run (P := P) (t := t) hs' hu w').1]⟩
      · cases e
  · next a b =>
    obtain ⟨sa, e1, h1, _⟩ := hv.st_inv
    obtain ⟨sb, e2, h2, _⟩ := hv'.st_inv
    obtain ⟨u, k1, k2⟩ := strBin_run (P := P) (w := w) (Z := Z) (R := R) (t := t) h1 h2 e
    exact ⟨u, k1, fun w' _ => by
      simp only [execOp, ho, e1, e2, run_eqGuard_str]
      simp [k2 w']⟩
  · cases e

theorem eqV_run {op : BinOp} {t t' : TypeId} {p q : Operand} {b : Bool} {va vb : Value} (hg : eqGuard op t p q va vb = pure ()) (hop : op = .eql ∨ op = .neq → ∀ w', (binOp op t va vb).run P w' = .ok (.bool (if op = .eql then b else !b)) w') (hva : ve p = va) (hvb : ve q = vb)
    (ho : o.op = .binOp op t p q t') (e : eqV op b = some x) : Qt P w Z R x ve o := by
  cases op <;> simp only [eqV] at e <;> first
    | (cases e; done)
    | (injection e with e; subst e
       refine ⟨.bool _, .v rfl, fun w' _ => ?_⟩
       simp only [execOp, ho, hva, hvb, hg]
       have := hop (by simp) w'
       simp at this
       simp [this])
theorem eq_run_bool {op : BinOp} {t : TypeId} {va vb b : Bool} (hop : op = .eql ∨ op = .neq) (h : ∀ d w', (Op.equalIn (d + 1) t (.bool va) (.bool vb)).run P w' = .ok b w') (w' : World) :
    (binOp op t (.bool va) (.bool vb)).run P w' = .ok (.bool (if op = .eql then b else !b)) w' := by
  have h1 : (Op.equal t (.bool va) (.bool vb)).run P w' = .ok b w' := h 9999 w'
  rcases hop with rfl | rfl <;> simp [binOp, h1]
theorem eq_run_ptr {op : BinOp} {t : TypeId} {va vb : Option Addr} {b : Bool} (hop : op = .eql ∨ op = .neq) (h : ∀ d w', (Op.equalIn (d + 1) t (.pointer va) (.pointer vb)).run P w' = .ok b w') (w' : World) :
    (binOp op t (.pointer va) (.pointer vb)).run P w' = .ok (.bool (if op = .eql then b else !b)) w' := by
  have h1 : (Op.equal t (.pointer va) (.pointer vb)).run P w' = .ok b w' := h 9999 w'
  rcases hop with rfl | rfl <;> simp [binOp, h1]
theorem evEq_sound (hρ : ∀ o x, ρ o = some x → VR w Z R x (ve o)) {op : BinOp} {t t' : TypeId} {p q : Operand} {y z : AV} (hp : ρ p = some y) (hq : ρ q = some z) (ho : o.op = .binOp op t p q t') (e : evEq P op t y z = some x) : Qt P w Z R x ve o := by
  have hv := hρ _ _ hp
  have hv' := hρ _ _ hq
  have ptr : isPtr P t = true → ∃ te j, P.underlying t = some (.pointer te) ∧ P.info? te = some j := fun h => by
    unfold isPtr at h
    split at h
    · next te hte => obtain ⟨j, hj⟩ := Option.isSome_iff_exists.1 h; exact ⟨te, j, hte, hj⟩
    · cases h
  have pn : ∀ {a b : Option Addr} {r : Bool}, (∀ te j, P.underlying t = some (.pointer te) → P.info? te = some j → ∀ d w', (Op.equalIn (d + 1) t (.pointer a) (.pointer b)).run P w' = .ok r w') → ve p = .pointer a → ve q = .pointer b → isPtr P t = true → eqV op r = some x → Qt P w Z R x ve o := fun {a b r} hrun h1 h2 h3 h4 => by
    obtain ⟨te, j, k1, k2⟩ := ptr h3
    exact eqV_run (va := .pointer a) (vb := .pointer b) (by simp [eqGuard]) (fun hop => eq_run_ptr hop (hrun te j k1 k2)) h1 h2 ho h4
  unfold evEq at e
  split at e
  · next a b =>
    have e1 := hv.v_inv
    have e2 := hv'.v_inv
    split at e
    · next hb =>
      exact eqV_run (va := .bool a) (vb := .bool b) (by simp [eqGuard]) (fun hop => eq_run_bool hop (fun d w' => run_equalIn_bool' (P := P) (w := w') d t a b hb)) e1 e2 ho e
    · cases e
  · next b i f b' i' f' =>
    split at e
    · next hc =>
      obtain ⟨rfl, rfl, rfl, hc⟩ := hc
      generalize hva : ve p = va at hv
      generalize hvb : ve q = vb at hv'
      cases hv with
      | pt hr =>
        cases hv' with
        | pt hr' =>
          rw [hr] at hr'
          injection hr' with hr'
          subst hr'
          exact pn (fun te j k1 k2 d w' => by simp [Op.equalIn, run_underlying k1, sizeOf, typeInfo, k2, run_sameAddr_same]) hva hvb hc e
    · cases e
  · split at e
    · next hc => exact pn (fun te j k1 k2 d w' => by simp [Op.equalIn, run_underlying k1, sizeOf, typeInfo, k2]) hv.v_inv hv'.v_inv hc e
    · cases e
  · split at e
    · next hc =>
      generalize hvb : ve q = vb at hv'
      cases hv' with
      | pt hr' => exact pn (fun te j k1 k2 d w' => by simp [Op.equalIn, run_underlying k1, sizeOf, typeInfo, k2]) hv.v_inv hvb hc e
    · cases e
  · split at e
    · next hc =>
      generalize hva : ve p = va at hv
      cases hv with
      | pt hr => exact pn (fun te j k1 k2 d w' => by simp [Op.equalIn, run_underlying k1, sizeOf, typeInfo, k2]) hva hv'.v_inv hc e
    · cases e
  · cases e

theorem evUn_sound (hρ : ∀ o x, ρ o = some x → VR w Z R x (ve o)) {op : UnOp} {t : TypeId} {p : Operand} {y : AV} (hp : ρ p = some y) (ho : o.op = .unOp op t p) (e : evUn op y = some x) : Qt P w Z R x ve o := by
  have hv := hρ _ _ hp
  unfold evUn at e
  split at e
  · injection e with e
    subst e
    exact ⟨_, .v rfl, fun w' _ => by simp [execOp, ho, hv.v_inv, Op.unary]⟩
  · injection e with e
    subst e
    exact ⟨_, .v rfl, fun w' _ => by simp [execOp, ho, hv.v_inv, Op.unary, Op.intArith, wr_eq]⟩
  · cases e

theorem evConv_sound (hρ : ∀ o x, ρ o = some x → VR w Z R x (ve o)) {a b : TypeId} {p : Operand} {y : AV} (hp : ρ p = some y) (ho : o.op = .convert a b p) (e : evConv P a b y = some x) : Qt P w Z R x ve o := by
  have hv := hρ _ _ hp
  unfold evConv at e
  split at e
  · next d k k' n hd hk =>
    injection e with e
    subst e
    exact ⟨_, .v rfl, fun w' _ => by simp [execOp, ho, hv.v_inv, convert, run_underlying hd, run_underlying hk, Conv.intToInt, wr_eq]⟩
  · next bs hd hk =>
    injection e with e
    subst e
    obtain ⟨s, e1, h1, h2⟩ := hv.st_inv
    exact ⟨_, .st h1 h2, fun w' _ => by simp [execOp, ho, e1, convert, run_underlying hd, run_underlying hk]⟩
  · cases e

theorem intOfA_inv {y : AV} {i : Int} {u : Value} (e : intOfA y = some i) (hv : VR w Z R y u) : ∃ k, u = .int k i := by
  unfold intOfA at e
  split at e
  · injection e with e; subst e; exact ⟨_, hv.v_inv⟩
  · cases e

theorem addr_add (b o n : Nat) : (⟨b, o, none⟩ : Addr).add n = ⟨b, o + n, none⟩ := by unfold Addr.add; split <;> simp_all

theorem evIndexAddr_sound (hρ : ∀ o x, ρ o = some x → VR w Z R x (ve o)) (hh : HR w Z R h) {t : TypeId} {p q : Operand} {y z : AV} (hp : ρ p = some y) (hq : ρ q = some z) (ho : o.op = .indexAddr t p q) (e : evIndexAddr P h t y z = some x) : Qt P w Z R x ve o := by
  have hv := hρ _ _ hp
  have hv' := hρ _ _ hq
  unfold evIndexAddr at e
  split at e
  · cases e
  · next i hi =>
    obtain ⟨K, e2⟩ := intOfA_inv hi hv'
    split at e
    · cases e
    · next hneg =>
      have h0 : 0 ≤ i := by omega
      split at e
      · next el hund =>
        generalize hva : ve p = va at hv
        split at e
        · next b lo n m =>
          split at e
          · next B hB =>
            split at e
            · next hlt =>
              injection e with e
              subst e
              cases hv with
              | rf hr g0 g1 g2 g3 =>
              rename_i c r
              obtain ⟨r', _, _, k1, k2, _⟩ := hh.blk b B hB
              rw [hr] at k1
              injection k1 with k1
              subst k1
              have hs := hlt.2
              rw [← k2] at hs
              refine ⟨_, .pt hr, fun w' _ => ?_⟩
              have hcond : 0 ≤ i ∧ i < (n : Int) := ⟨h0, by omega⟩
              simp only [execOp, ho, hva, e2, Instr.indexAt, asIntOf]
              simp [run_underlying hund, hcond, run_size' hs, addr_add]
              rw [Nat.add_mul]
            · cases e
          · cases e
        · next k ys =>
          split at e
          · next yy hyy =>
            split at e
            case isFalse => cases e
            next hs' =>
            injection e with e
            subst e
            cases hv with
            | sl hn hl hc hm ha hx =>
              rename_i c n A us
              have hlt : i.toNat < ys.length := (List.getElem?_eq_some_iff.1 hyy).1
              obtain ⟨a, rfl, hs, hz, hcell⟩ := ha (by omega)
              have hul : i.toNat < us.length := by omega
              obtain ⟨g1, g2, g3⟩ := hcell _ _ (List.getElem?_eq_getElem hul)
              refine ⟨_, VR.pe (a := ⟨a.block, a.off + i.toNat * k, none⟩) rfl hz g2 (fun j q hq => ?_) (hx _ _ _ hyy (List.getElem?_eq_getElem hul)), fun w' _ => ?_⟩
              · have := g3 j q hq
                rw [← Nat.add_assoc] at this
                exact this
              · have hcond : 0 ≤ i ∧ i < (n : Int) := ⟨h0, by omega⟩
                obtain ⟨ab, ao, asp⟩ := a
                simp only at hs
                subst hs
                simp only [execOp, ho, hva, e2, Instr.indexAt, asIntOf]
                simp [run_underlying hund, hcond, run_size' hs', addr_add]
          · cases e
        · cases e
      · next len el hund =>
        split at e
        · next hlt =>
          have hcond : 0 ≤ i ∧ i < (len : Int) := ⟨h0, by omega⟩
          generalize hva : ve p = va at hv
          split at e
          · next s b j off hs =>
            injection e with e
            subst e
            cases hv with
            | pt hr =>
              rename_i r
              refine ⟨_, .pt hr, fun w' _ => ?_⟩
              simp only [execOp, ho, hva, e2, Instr.indexAt, asIntOf]
              simp [run_underlying hund, hcond, run_size' hs, addr_add, Instr.sureAddr, Nat.add_assoc]
          · next s yy off hs =>
            injection e with e
            subst e
            cases hv with
            | pe hsp hz h1 hu hx =>
              rename_i a u
              refine ⟨_, .pe hsp hz h1 hu hx, fun w' _ => ?_⟩
              simp only [execOp, ho, hva, e2, Instr.indexAt, asIntOf]
              simp [run_underlying hund, hcond, run_size' hs, addr_add, Instr.sureAddr, Nat.add_assoc]
          · cases e
        · cases e
      · cases e

theorem run_fieldPlace' {fd : Field} {m : Nat} (hft : tySize P fd.type = some (m + 1)) (a : Addr) (w : World) : (fieldPlace a fd).run P w = .ok (a.add fd.offset) w := by
  unfold fieldPlace
  rw [Sem.run_bind, run_size' hft]
  simp
theorem evFieldAddr_sound (hρ : ∀ o x, ρ o = some x → VR w Z R x (ve o)) {t : TypeId} {p : Operand} {f : Nat} {y : AV} (hp : ρ p = some y) (ho : o.op = .fieldAddr t p f) (e : evFieldAddr P t y f = some x) : Qt P w Z R x ve o := by
  have hv := hρ _ _ hp
  unfold evFieldAddr at e
  split at e
  · next fs hund =>
    split at e
    · next fd hfd =>
      split at e
      · next m hm =>
        generalize hva : ve p = va at hv
        split at e
        · next b i off =>
          injection e with e
          subst e
          cases hv with
          | pt hr =>
            refine ⟨_, .pt hr, fun w' _ => ?_⟩
            simp [execOp, ho, hva, Instr.fieldAt, Instr.sureAddr, run_underlying hund, hfd, run_fieldPlace' hm, addr_add, Nat.add_assoc]
        · next yy off =>
          injection e with e
          subst e
          cases hv with
          | pe hsp hz h1 hu hx =>
            refine ⟨_, .pe hsp hz h1 hu hx, fun w' _ => ?_⟩
            simp [execOp, ho, hva, Instr.fieldAt, Instr.sureAddr, run_underlying hund, hfd, run_fieldPlace' hm, addr_add, Nat.add_assoc]
        · cases e
      · cases e
    · cases e
  · cases e

theorem evPart_sound {t : TypeId} {cs : List AV} {off : Nat} {us : List Value} (hl : VRs w Z R cs us) (h1 : us.all Value.oneCell' = true) (e : evPart P t cs off = some x) : ∃ v, VR w Z R x v ∧ ∀ w', (part t us.toArray off).run P w' = .ok v w' := by
  unfold evPart at e
  split at e
  · next m g hm hg =>
    split at e
    · next hgt =>
      subst hgt
      split at e
      · next hle =>
        injection e with e
        subst e
        have hvs := (hl.drop off).take m
        refine ⟨.agg ((us.drop off).take m).toArray, .ag hvs.len (List.all_eq_true.2 fun q hq => List.all_eq_true.1 h1 q (List.mem_of_mem_drop (List.mem_of_mem_take hq))) hvs.at_, fun w' => ?_⟩
        unfold part
        rw [Sem.run_bind, run_agg' hg]
        simp [run_size' hm]
      · cases e
    · next hgf =>
      have hgf' : g = false := by simpa using hgf
      subst hgf'
      obtain ⟨v, k1, k2⟩ := hl.get e
      refine ⟨v, k2, fun w' => ?_⟩
      unfold part
      rw [Sem.run_bind, run_agg' hg]
      simp [k1]
  · cases e
theorem evField_sound (hρ : ∀ o x, ρ o = some x → VR w Z R x (ve o)) {t : TypeId} {p : Operand} {f : Nat} {y : AV} (hp : ρ p = some y) (ho : o.op = .field t p f) (e : evField P t y f = some x) : Qt P w Z R x ve o := by
  have hv := hρ _ _ hp
  unfold evField at e
  split at e
  · next fs cs hund =>
    split at e
    · next fd hfd =>
      generalize hva : ve p = va at hv
      cases hv with
      | ag hl h1 hx =>
        obtain ⟨v, k1, k2⟩ := evPart_sound (P := P) ⟨hl, hx⟩ h1 e
        exact ⟨v, k1, fun w' _ => by simp [execOp, ho, hva, Instr.field, run_underlying hund, hfd, asAgg, k2 w']⟩
    · cases e
  · cases e
theorem evIndex_sound (hρ : ∀ o x, ρ o = some x → VR w Z R x (ve o)) {t : TypeId} {p q : Operand} {y z : AV} (hp : ρ p = some y) (hq : ρ q = some z) (ho : o.op = .index t p q) (e : evIndex P t y z = some x) : Qt P w Z R x ve o := by
  have hv := hρ _ _ hp
  have hv' := hρ _ _ hq
  unfold evIndex at e
  split at e
  · cases e
  · next i hi =>
    obtain ⟨K, e2⟩ := intOfA_inv hi hv'
    split at e
    · cases e
    · next hneg =>
      have h0 : 0 ≤ i := by omega
      generalize hva : ve p = va at hv
      split at e
      · next n el cs hund =>
        split at e
        · next hlt =>
          split at e
          · next s hs =>
            cases hv with
            | ag hl h1 hx =>
              obtain ⟨v, k1, k2⟩ := evPart_sound (P := P) ⟨hl, hx⟩ h1 e
              have hcond : 0 ≤ i ∧ i < (n : Int) := ⟨h0, by omega⟩
              exact ⟨v, k1, fun w' _ => by
                simp only [execOp, ho, hva, e2, Instr.index, asIntOf]
                simp [run_underlying hund, hcond, run_size' hs, k2 w']⟩
          · cases e
        · cases e
      · next bs hund =>
        obtain ⟨b, hb, rfl⟩ := Option.map_eq_some_iff.1 e
        obtain ⟨s, rfl, h1, h2⟩ := hv.st_inv
        refine ⟨_, .v rfl, fun w' _ => ?_⟩
        have hb' : s[i.toNat]? = some b := by
          subst h1
          rw [← hb]
          obtain ⟨h3, h4⟩ := List.getElem?_eq_some_iff.1 hb
          have h5 : i.toNat < s.size := by rw [Array.length_toList] at h3; exact h3
          rw [getElem?_pos s i.toNat h5, List.getElem?_eq_getElem h3]
          rfl
        simp only [execOp, ho, hva, e2, Instr.index, asIntOf]
        simp [run_underlying hund, h0, hb']
      · cases e
end
end Go.Proofs.YthofgamegondnaaDoor
