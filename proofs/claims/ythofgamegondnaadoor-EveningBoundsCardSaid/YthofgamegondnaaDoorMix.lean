/- Regions that draw their order and hold calls (or other operations that turn the world): if the loud operations stand in one order among themselves, and what the quiet ones yield hangs on nothing that the loud ones turn, one walk in the order of the text serves every order. -/
import Derived.Test.YthofgamegondnaaDoorRep
import Derived.StillTail
namespace Go.Proofs.YthofgamegondnaaDoor
open Go.RowKit

section
variable {P : Program} {ops : Array Oper} {C : World → Prop} {Q : Act → World → Prop} {loud : Nat → Bool} {T : Nat}

/-- One operation, carried out: a value; nothing; or a call that returns. -/
def Lw (P : Program) (o : Oper) (a : Act) (w : World) (K : Act → World → Prop) : Prop :=
  match (execOp a.eval o).run P w with
  | .ok (.value v) w' => K (a.put o.dst v) w'
  | .ok .skip w' => K (a.put o.dst undef) w'
  | .ok (.enter f args) w' => Ret P f args w' fun v w'' => K (a.put o.dst v) w''
  | _ => False

theorem Lw.mono {o : Oper} {a : Act} {w : World} {K K' : Act → World → Prop} (h : Lw P o a w K) (hK : ∀ a w, K a w → K' a w) : Lw P o a w K' := by
  unfold Lw at *
  generalize (execOp a.eval o).run P w = r at *
  cases r with
  | ok n w' =>
    cases n <;> simp only at h ⊢ <;> first | exact hK _ _ h | exact Ret.mono h (fun v w'' hh => hK _ _ hh) | exact h
  | halt x w' => exact h

theorem Lw.wpIn {o : Oper} {a : Act} {w : World} {K : Act → World → Prop} {Q' : Exit → Act → World → Prop} (ro : Option Nat) (n : Nat) (h : Lw P o a w K) : o.wpIn (Fw ro) n P a w K Q' := by
  refine ⟨fun _ _ => trivial, ?_⟩
  unfold Lw at h
  cases hr : (execOp a.eval o).run P w with
  | ok x w' =>
    rw [hr] at h
    cases x <;> simp only at h <;> try exact h.elim
    case value v =>
      rw [show (Fw ro).round = ro from rfl, semAt_run ro hr (by simp)]
      exact h
    case skip =>
      rw [show (Fw ro).round = ro from rfl, semAt_run ro hr (by simp)]
      exact h
    case enter f args =>
      rw [show (Fw ro).round = ro from rfl, semAt_run ro hr (by simp)]
      refine ⟨(fun h => by cases h), CallsIn.mono (callsIn_fw ro _ h) fun e w'' hh => ?_⟩
      cases e with
      | returned v => exact hh
      | panicked c => exact hh.elim
      | outgrown => exact hh.elim
  | halt x w' => rw [hr] at h; exact h.elim

def QuietAt (P : Program) (C : World → Prop) (o : Oper) (v : Value) (a : Act) : Prop := ∀ w, C w → (execOp a.eval o).run P w = .ok (.value v) w

/-- Operation i, quiet or loud. -/
def mOp (P : Program) (ops : Array Oper) (C : World → Prop) (loud : Nat → Bool) (i : Nat) (K : Act → World → Prop) (a : Act) (w : World) : Prop :=
  match ops[i]? with
  | none => False
  | some o =>
    if Region.wanted o (yielded ops a.tmps) then
      (if loud i then Lw P o a w K else ∃ v, QuietAt P C o v a ∧ K (a.put o.dst v) w)
    else K (a.put o.dst undef) w

/-- No operation of the tail (from T on) has come up. -/
def Need (ops : Array Oper) (T : Nat) (listed : Array Bool) : Prop := ∀ j, T ≤ j → j < ops.size → listed.getD j true = false

def wpM (P : Program) (ops : Array Oper) (C : World → Prop) (loud : Nat → Bool) (T : Nat) (Q : Act → World → Prop) : Nat → Array Bool → Act → World → Prop
  | 0, listed, a, w => (Need ops T listed → C w) ∧ Region.ready .any ops listed = [] ∧ Q a w
  | fuel + 1, listed, a, w => (Need ops T listed → C w) ∧ (Region.ready .any ops listed = [] → Q a w) ∧
    ∀ i ∈ Region.ready .any ops listed, mOp P ops C loud i (wpM P ops C loud T Q fuel (listed.setIfInBounds i true)) a w

theorem wpM.c {fuel : Nat} {listed : Array Bool} {a : Act} {w : World} (h : wpM P ops C loud T Q fuel listed a w) : Need ops T listed → C w := by
  cases fuel <;> exact h.1

theorem wpOp_of_mOp {i : Nat} {a : Act} {w : World} {K : Act → World → Prop} {Q' : Exit → Act → World → Prop} (ro : Option Nat) (n : Nat) (hC : loud i = false → C w) (h : mOp P ops C loud i K a w) : wpOpIn (Fw ro) n P ops Q' i K a w := by
  unfold mOp at h
  unfold wpOpIn
  cases ho : ops[i]? with
  | none => rw [ho] at h; exact h.elim
  | some o =>
    rw [ho] at h
    dsimp only at h ⊢
    split at h
    · next hw =>
      rw [if_pos hw]
      split at h
      · exact h.wpIn ro n
      · next hl =>
        obtain ⟨v, hv, hK⟩ := h
        refine ⟨fun _ _ => trivial, ?_⟩
        rw [show (Fw ro).round = ro from rfl, semAt_run ro (hv w (hC (by simpa using hl))) (by simp)]
        exact hK
    · next hw =>
      rw [if_neg hw]
      exact ⟨fun _ _ => trivial, h⟩

theorem mOp_mono {j : Nat} {a : Act} {w : World} {K K' : Act → World → Prop} (hK : ∀ a w, K a w → K' a w) (h : mOp P ops C loud j K a w) : mOp P ops C loud j K' a w := by
  unfold mOp at *
  cases ho : ops[j]? with
  | none => rw [ho] at h; exact h.elim
  | some o =>
    rw [ho] at h
    dsimp only at h ⊢
    split at h
    · next hw =>
      rw [if_pos hw]
      split at h
      · next hl => rw [if_pos hl]; exact h.mono hK
      · next hl => rw [if_neg hl]; obtain ⟨v, hv, h⟩ := h; exact ⟨v, hv, hK _ _ h⟩
    · next hw => rw [if_neg hw]; exact hK _ _ h

/-- What is listed lies behind nothing that is not. -/
def Closed (ops : Array Oper) (listed : Array Bool) : Prop := ∀ k o, ops[k]? = some o → listed.getD k false = true → ∀ e ∈ o.after, Region.binds .any e = true → listed.getD e.on false = true

/-- j waits for i, directly or through others. -/
def waitsT (ops : Array Oper) : Nat → Nat → Nat → Bool
  | 0, _, _ => false
  | n + 1, j, i => match ops[j]? with
    | some o => o.after.any fun e => Region.binds .any e && (e.on == i || waitsT ops n e.on i)
    | none => false

theorem waitsT_spec {listed : Array Bool} (hc : Closed ops listed) : ∀ (n j i : Nat), waitsT ops n j i = true → (∀ o, ops[j]? = some o → ∀ e ∈ o.after, Region.binds .any e = true → listed.getD e.on false = true) → listed.getD i false = true
  | 0, _, _, h, _ => by cases h
  | n + 1, j, i, h, hj => by
    unfold waitsT at h
    cases ho : ops[j]? with
    | none => rw [ho] at h; cases h
    | some o =>
      rw [ho] at h
      obtain ⟨e, he, hb⟩ := Array.any_eq_true'.1 h
      simp only [Bool.and_eq_true, Bool.or_eq_true, beq_iff_eq] at hb
      have h1 := hj o ho e he hb.1
      rcases hb.2 with h2 | h2
      · rw [← h2]; exact h1
      · exact waitsT_spec hc n e.on i h2 fun o' ho' e' he' hb' => hc e.on o' ho' h1 e' he' hb'

theorem Closed.set {listed : Array Bool} (hc : Closed ops listed) {i : Nat} (hi : i ∈ Region.ready .any ops listed) : Closed ops (listed.setIfInBounds i true) := by
  obtain ⟨hun, oi, hoi, hall⟩ := mem_ready.1 hi
  have hmono : ∀ m, listed.getD m false = true → (listed.setIfInBounds i true).getD m false = true := by
    intro m hm
    by_cases him : i = m
    · subst him
      have hlt : i < listed.size := by
        rcases Nat.lt_or_ge i listed.size with h' | h'
        · exact h'
        · simp [Array.getElem?_eq_none h'] at hm
      simp [hlt]
    · rw [getD_set_ne false him]; exact hm
  intro k o hk hl e he hb
  by_cases hik : i = k
  · subst hik
    rw [hoi] at hk
    injection hk with hk
    subst hk
    exact hmono _ (hall e he hb)
  · rw [getD_set_ne false hik] at hl
    exact hmono _ (hc k o hk hl e he hb)

/-- The tail stands behind every quiet operation. -/
def TailOk (ops : Array Oper) (loud : Nat → Bool) (T n : Nat) : Prop := ∀ j, T ≤ j → j < ops.size → ∀ i, i < ops.size → loud i = false → waitsT ops n j i = true

theorem need_of_quiet {listed : Array Bool} {n i : Nat} (ht : TailOk ops loud T n) (hc : Closed ops listed) (hsz : listed.size = ops.size) (hi : i < ops.size) (hl : loud i = false) (hun : listed.getD i true = false) : Need ops T listed := by
  intro j hTj hj
  cases hv : listed.getD j true with
  | false => rfl
  | true =>
    exfalso
    have hjs : j < listed.size := by omega
    have his : i < listed.size := by omega
    have h1 : listed.getD j false = true := by
      simp [hjs] at hv ⊢; exact hv
    have hoj : ∃ o, ops[j]? = some o := ⟨ops[j], by simp [hj]⟩
    obtain ⟨o, ho⟩ := hoj
    have h2 := waitsT_spec hc n j i (ht j hTj hj i hi hl) fun o' ho' e he hb => hc j o' ho' h1 e he hb
    simp [his] at hun h2
    rw [hun] at h2
    cases h2

theorem wpAny_of_wpM {n : Nat} {Q' : Exit → Act → World → Prop} (ro : Option Nat) (m : Nat) (ht : TailOk ops loud T n) (hQ : ∀ a w, Q a w → Q' .normal a w) : ∀ (fuel : Nat) (listed : Array Bool) (a : Act) (w : World), Closed ops listed → listed.size = ops.size → wpM P ops C loud T Q fuel listed a w → wpAnyIn (Fw ro) m P .any ops Q' fuel listed a w
  | 0, _, _, _, _, _, h => ⟨h.2.1, hQ _ _ h.2.2⟩
  | fuel + 1, listed, _, _, hc, hsz, h => ⟨fun h0 => hQ _ _ (h.2.1 h0), fun i hi => by
    refine wpOp_of_mOp (loud := loud) ro m (fun hl => h.1 ?_) (mOp_mono (fun a w h => wpAny_of_wpM ro m ht hQ fuel _ a w (hc.set hi) (by simpa using hsz) h) (h.2.2 i hi))
    obtain ⟨hun, o, ho, _⟩ := mem_ready.1 hi
    exact need_of_quiet ht hc hsz (Array.getElem?_eq_some_iff.1 ho).1 hl hun⟩

/-- What one operation yields, told of a quiet one (or of one that is not wanted). -/
def YieldsM (P : Program) (ops : Array Oper) (C : World → Prop) (o : Oper) (v : Value) (a : Act) : Prop :=
  (Region.wanted o (yielded ops a.tmps) = true ∧ QuietAt P C o v a) ∨ (Region.wanted o (yielded ops a.tmps) = false ∧ v = undef)

theorem YieldsM.same {o : Oper} {v : Value} {a a' : Act} (hy : YieldsM P ops C o v a) (he : execOp a'.eval o = execOp a.eval o)
    (hw : Region.wanted o (yielded ops a'.tmps) = Region.wanted o (yielded ops a.tmps)) : YieldsM P ops C o v a' := by
  unfold YieldsM QuietAt at *
  rw [he, hw]
  exact hy

theorem YieldsM.mOp {i : Nat} {o : Oper} {v : Value} {a : Act} {w : World} {K : Act → World → Prop} (hi : ops[i]? = some o) (hl : loud i = false) (hy : YieldsM P ops C o v a) (h : K (a.put o.dst v) w) : mOp P ops C loud i K a w := by
  unfold Go.Proofs.YthofgamegondnaaDoor.mOp
  rw [hi]
  dsimp only
  rcases hy with ⟨hw, hv⟩ | ⟨hw, rfl⟩
  · rw [if_pos hw, hl]; exact ⟨v, hv, h⟩
  · rw [hw]; exact h

theorem yields_of_mOp {i : Nat} {o : Oper} {a : Act} {w : World} {K : Act → World → Prop} (hi : ops[i]? = some o) (hl : loud i = false) (h : mOp P ops C loud i K a w) : ∃ v, YieldsM P ops C o v a ∧ K (a.put o.dst v) w := by
  unfold mOp at h
  rw [hi] at h
  dsimp only at h
  split at h
  · next hw =>
    rw [hl] at h
    obtain ⟨v, hv, hK⟩ := h
    exact ⟨v, .inl ⟨hw, hv⟩, hK⟩
  · next hw => exact ⟨undef, .inr ⟨by simpa using hw, rfl⟩, h⟩

theorem YieldsM.unique {o : Oper} {v v' : Value} {a : Act} {w : World} (hC : C w) (h : YieldsM P ops C o v a) (h' : YieldsM P ops C o v' a) : v = v' := by
  rcases h with ⟨h1, h2⟩ | ⟨h1, h2⟩ <;> rcases h' with ⟨h3, h4⟩ | ⟨h3, h4⟩
  · have := (h2 w hC).symm.trans (h4 w hC)
    injection this with this
    injection this with this
  · rw [h1] at h3; cases h3
  · rw [h1] at h3; cases h3
  · rw [h2, h4]

/-- An operation apart from 'oi' does not see whether oi's value is in its temporary. -/
theorem lw_put {oi oj : Oper} {a : Act} {w : World} {v : Value} {K : Act → World → Prop} (h1 : ∀ d, oi.dst = some d → d ∉ oj.looksAt ops) (h2 : ∀ d, oi.dst = some d → oj.dst ≠ some d) (hs : ∀ cs b, oj.op ≠ .select cs b) :
    Lw P oj (a.put oi.dst v) w K ↔ Lw P oj a w (fun a' w' => K (a'.put oi.dst v) w') := by
  unfold Lw
  rw [execOp_put oj hs a oi.dst v h1]
  generalize (execOp a.eval oj).run P w = r
  cases r with
  | ok n w' =>
    cases n <;> simp only
    case value u => rw [Act.put_comm a v u h2]
    case skip => rw [Act.put_comm a v undef h2]
    case enter f args =>
      constructor <;>
        (intro h
         refine Ret.mono h fun u w'' hh => ?_
         first | (rw [Act.put_comm a v u h2] at hh; exact hh) | (rw [Act.put_comm a v u h2]; exact hh))
  | halt x w' => exact Iff.rfl

theorem mOp_put {j : Nat} {oi oj : Oper} {v : Value} {a : Act} {w : World} {K : Act → World → Prop} (hj : ops[j]? = some oj) (h1 : ∀ d, oi.dst = some d → d ∉ oj.looksAt ops) (h2 : ∀ d, oi.dst = some d → oj.dst ≠ some d) (hs : ∀ cs b, oj.op ≠ .select cs b) :
    mOp P ops C loud j K (a.put oi.dst v) w ↔ mOp P ops C loud j (fun a' w' => K (a'.put oi.dst v) w') a w := by
  unfold mOp
  rw [hj]
  dsimp only
  rw [wanted_put oj a oi.dst v h1]
  split
  · split
    · exact lw_put h1 h2 hs
    · unfold QuietAt
      rw [execOp_put oj hs a oi.dst v h1]
      constructor <;> (rintro ⟨u, hu, hK⟩; exact ⟨u, hu, by first | (rw [Act.put_comm a v u h2] at hK; exact hK) | (rw [Act.put_comm a v u h2]; exact hK)⟩)
  · rw [Act.put_comm a v undef h2]

/-- Something comes of a loud operation: its post is met somewhere. -/
theorem lw_meets {o : Oper} {a : Act} {w : World} {K : Act → World → Prop} (h : Lw P o a w K) : ∃ (u : Value) (w' : World), K (a.put o.dst u) w' := by
  unfold Lw at h
  generalize (execOp a.eval o).run P w = r at *
  cases r with
  | ok n w' =>
    cases n <;> simp only at h <;> try exact h.elim
    case value u => exact ⟨u, w', h⟩
    case skip => exact ⟨undef, w', h⟩
    case enter f args =>
      obtain ⟨e, w'', fr, hR, _⟩ := h []
      cases e with
      | returned v => exact ⟨v, w'', hR⟩
      | panicked c => exact hR.elim
      | outgrown => exact hR.elim
  | halt x w' => exact h.elim

theorem mOp_meets {i : Nat} {o : Oper} {a : Act} {w : World} {K : Act → World → Prop} (hi : ops[i]? = some o) (h : mOp P ops C loud i K a w) : ∃ (u : Value) (w' : World), K (a.put o.dst u) w' := by
  unfold mOp at h
  rw [hi] at h
  dsimp only at h
  split at h
  · split at h
    · exact lw_meets h
    · obtain ⟨v, _, hK⟩ := h; exact ⟨v, w, hK⟩
  · exact ⟨undef, w, h⟩

/-- What an operation leaves in the frame, told of all frames that it may leave. -/
theorem mOp_and {j : Nat} {oj : Oper} {a : Act} {w : World} {K : Act → World → Prop} {G : Act → Prop} (hj : ops[j]? = some oj) (hG : ∀ u, G (a.put oj.dst u)) (h : mOp P ops C loud j K a w) : mOp P ops C loud j (fun a' w' => G a' ∧ K a' w') a w := by
  unfold mOp at *
  rw [hj] at h ⊢
  dsimp only at h ⊢
  split at h
  · next hw =>
    rw [if_pos hw]
    split at h
    · next hl =>
      rw [if_pos hl]
      unfold Lw at *
      generalize (execOp a.eval oj).run P w = r at *
      cases r with
      | ok n w' =>
        cases n <;> simp only at h ⊢ <;> first | exact ⟨hG _, h⟩ | exact Ret.mono h (fun v w'' hh => ⟨hG _, hh⟩) | exact h
      | halt x w' => exact h
    · next hl =>
      rw [if_neg hl]
      obtain ⟨u, hu, hK⟩ := h
      exact ⟨u, hu, hG _, hK⟩
  · next hw =>
    rw [if_neg hw]
    exact ⟨hG _, h⟩

/-- A quiet operation that may come up now may be taken first. -/
theorem wpM_first {n i : Nat} {oi : Oper} {v : Value} (ht : TailOk ops loud T n) (hi : ops[i]? = some oi) (hli : loud i = false) (hsel : ∀ (j : Nat) (o : Oper) cs b, ops[j]? = some o → o.op ≠ .select cs b) :
    ∀ (fuel : Nat) (listed : Array Bool) (a : Act) (w : World), C w → Closed ops listed → listed.size = ops.size →
      (∀ j oj, ops[j]? = some oj → j ≠ i → listed.getD j true = false → (∀ e ∈ oj.after, Region.binds .any e = true → e.on ≠ i) → oi.apart ops oj = true) →
      i ∈ Region.ready .any ops listed → YieldsM P ops C oi v a →
      wpM P ops C loud T Q fuel (listed.setIfInBounds i true) (a.put oi.dst v) w → wpM P ops C loud T Q (fuel + 1) listed a w := by
  have hilt : i < ops.size := (Array.getElem?_eq_some_iff.1 hi).1
  intro fuel
  induction fuel with
  | zero =>
    intro listed a w hC _ _ _ hr hy H
    refine ⟨fun _ => hC, fun h => (by rw [h] at hr; cases hr), fun j hj => ?_⟩
    by_cases hji : j = i
    · subst hji; exact hy.mOp hi hli H
    · have := ready_mono hj hji
      rw [H.2.1] at this
      cases this
  | succ fuel ih =>
    intro listed a w hC hcl hsz hfree hr hy H
    refine ⟨fun _ => hC, fun h => (by rw [h] at hr; cases hr), fun j hj => ?_⟩
    by_cases hji : j = i
    · subst hji; exact hy.mOp hi hli H
    · have h1 := H.2.2 j (ready_mono hj hji)
      obtain ⟨hjun, oj, hoj, hall⟩ := mem_ready.1 hj
      have hiun := (mem_ready.1 hr).1
      have hnl : ¬ listed.getD i false = true := fun h1 => by
        have h' : i < listed.size := by omega
        simp [h'] at hiun h1; rw [hiun] at h1; cases h1
      have hnot : ∀ e ∈ oj.after, Region.binds .any e = true → e.on ≠ i := fun e he hb heq => hnl (by rw [← heq]; exact hall e he hb)
      obtain ⟨ap1, ap2, ap3⟩ := Oper.apart_spec (hfree j oj hoj hji hjun hnot)
      have h2 := (mOp_put hoj ap1 ap2 (fun cs b => hsel j oj cs b hoj)).1 h1
      have hfree' : ∀ k ok, ops[k]? = some ok → k ≠ i → (listed.setIfInBounds j true).getD k true = false →
          (∀ e ∈ ok.after, Region.binds .any e = true → e.on ≠ i) → oi.apart ops ok = true := fun k ok hk hki hun hno => by
        refine hfree k ok hk hki ?_ hno
        by_cases hjk : j = k
        · subst hjk; exact hjun
        · rw [getD_set_ne true hjk] at hun; exact hun
      have hG : ∀ u, YieldsM P ops C oi v (a.put oj.dst u) := fun u => hy.same (execOp_put oi (fun cs b => hsel i oi cs b hi) a oj.dst u ap3) (wanted_put oi a oj.dst u ap3)
      have hr2 : i ∈ Region.ready .any ops (listed.setIfInBounds j true) := ready_mono hr (Ne.symm hji)
      have hneed : Need ops T ((listed.setIfInBounds j true).setIfInBounds i true) := by
        have h0 := need_of_quiet ht (hcl.set hj) (by simpa using hsz) hilt hli (mem_ready.1 hr2).1
        have hTi : ¬ T ≤ i := fun hTi => by
          have h5 := need_of_quiet ht hcl hsz hilt hli hiun
          have h6 := waitsT_spec (listed := listed) hcl n i i (ht i hTi hilt i hilt hli) fun o ho e he hb => by
            obtain ⟨_, o', ho', hall'⟩ := mem_ready.1 hr
            rw [ho'] at ho
            injection ho with ho
            subst ho
            exact hall' e he hb
          exact hnl h6
        intro k hTk hk
        have hki : i ≠ k := fun e => hTi (by omega)
        rw [getD_set_ne true hki]
        exact h0 k hTk hk
      refine mOp_mono (fun a' w' h4 => ?_) (mOp_and hoj hG h2)
      have h5 : wpM P ops C loud T Q fuel ((listed.setIfInBounds j true).setIfInBounds i true) (a'.put oi.dst v) w' := by
        rw [Array.setIfInBounds_comm _ _ hji]
        exact h4.2
      exact ih (listed.setIfInBounds j true) a' w' (h5.c hneed) (hcl.set hj) (by simpa using hsz) hfree' hr2 h4.1 h5

/-- A loud operation that may come up now may be taken first, if every other loud one is behind it. -/
theorem wpM_loud {n i : Nat} {oi : Oper} (ht : TailOk ops loud T n) (hi : ops[i]? = some oi) (hsel : ∀ (j : Nat) (o : Oper) cs b, ops[j]? = some o → o.op ≠ .select cs b) :
    ∀ (fuel : Nat) (listed : Array Bool) (a : Act) (w : World), (∀ j, j < ops.size → j ≠ i → loud j = true → listed.getD j true = false → waitsT ops n j i = true) → Closed ops listed → listed.size = ops.size → (Need ops T listed → C w) →
      (∀ j oj, ops[j]? = some oj → j ≠ i → listed.getD j true = false → (∀ e ∈ oj.after, Region.binds .any e = true → e.on ≠ i) → oi.apart ops oj = true) →
      i ∈ Region.ready .any ops listed →
      mOp P ops C loud i (wpM P ops C loud T Q fuel (listed.setIfInBounds i true)) a w → wpM P ops C loud T Q (fuel + 1) listed a w := by
  intro fuel
  induction fuel with
  | zero =>
    intro listed a w _ _ _ hC _ hr H
    refine ⟨hC, fun h => (by rw [h] at hr; cases hr), fun j hj => ?_⟩
    by_cases hji : j = i
    · subst hji; exact H
    · obtain ⟨u, w', h1⟩ := mOp_meets hi H
      have := ready_mono hj hji
      rw [h1.2.1] at this
      cases this
  | succ fuel ih =>
    intro listed a w hT hcl hsz hC hfree hr H
    refine ⟨hC, fun h => (by rw [h] at hr; cases hr), fun j hj => ?_⟩
    by_cases hji : j = i
    · subst hji; exact H
    · obtain ⟨hjun, oj, hoj, hall⟩ := mem_ready.1 hj
      have hiun := (mem_ready.1 hr).1
      have hilt : i < ops.size := (Array.getElem?_eq_some_iff.1 hi).1
      have hnl : ¬ listed.getD i false = true := fun h1 => by
        have h' : i < listed.size := by omega
        simp [h'] at hiun h1; rw [hiun] at h1; cases h1
      have hnot : ∀ e ∈ oj.after, Region.binds .any e = true → e.on ≠ i := fun e he hb heq => hnl (by rw [← heq]; exact hall e he hb)
      have hjlt : j < ops.size := (Array.getElem?_eq_some_iff.1 hoj).1
      have hlj : loud j = false := by
        cases hlj : loud j with
        | false => rfl
        | true =>
          exact absurd (waitsT_spec hcl n j i (hT j hjlt hji hlj hjun) fun o ho e he hb => by rw [hoj] at ho; injection ho with ho; subst ho; exact hall e he hb) hnl
      obtain ⟨ap1, ap2, ap3⟩ := Oper.apart_spec (hfree j oj hoj hji hjun hnot)
      have hCw : C w := hC (need_of_quiet ht hcl hsz hjlt hlj hjun)
      -- what j yields
      obtain ⟨u, w', h1⟩ := mOp_meets hi H
      obtain ⟨v, hy, _⟩ := yields_of_mOp hoj hlj (h1.2.2 j (ready_mono hj hji))
      have hya : YieldsM P ops C oj v a := hy.same (execOp_put oj (fun cs b => hsel j oj cs b hoj) _ oi.dst u ap1).symm (wanted_put oj _ oi.dst u ap1).symm
      refine hya.mOp hoj hlj ?_
      have hfree' : ∀ k ok, ops[k]? = some ok → k ≠ i → (listed.setIfInBounds j true).getD k true = false →
          (∀ e ∈ ok.after, Region.binds .any e = true → e.on ≠ i) → oi.apart ops ok = true := fun k ok hk hki hun hno => by
        refine hfree k ok hk hki ?_ hno
        by_cases hjk : j = k
        · subst hjk; exact hjun
        · rw [getD_set_ne true hjk] at hun; exact hun
      have hT' : ∀ k, k < ops.size → k ≠ i → loud k = true → (listed.setIfInBounds j true).getD k true = false → waitsT ops n k i = true := fun k hk hki hkl hun => by
        refine hT k hk hki hkl ?_
        by_cases hjk : j = k
        · subst hjk; exact hjun
        · rw [getD_set_ne true hjk] at hun; exact hun
      refine ih (listed.setIfInBounds j true) (a.put oj.dst v) w hT' (hcl.set hj) (by simpa using hsz) (fun _ => hCw) hfree' (ready_mono hr (Ne.symm hji)) ?_
      have ap2' : ∀ d, oj.dst = some d → oi.dst ≠ some d := fun d hd hd' => ap2 d hd' hd
      rw [mOp_put hi ap3 ap2' (fun cs b => hsel i oi cs b hi)]
      have hG : ∀ u, YieldsM P ops C oj v (a.put oi.dst u) := fun u => hya.same (execOp_put oj (fun cs b => hsel j oj cs b hoj) a oi.dst u ap1) (wanted_put oj a oi.dst u ap1)
      have hr2 := ready_mono (md := .any) (ops := ops) hj hji
      have hneed : Need ops T (listed.setIfInBounds i true) := need_of_quiet ht (hcl.set hr) (by simpa using hsz) hjlt hlj (mem_ready.1 hr2).1
      refine mOp_mono (fun a' w'' h2 => ?_) (mOp_and hi hG H)
      obtain ⟨v', hy', h3⟩ := yields_of_mOp hoj hlj (h2.2.2.2 j hr2)
      rw [YieldsM.unique (h2.2.c hneed) h2.1 hy', Array.setIfInBounds_comm _ _ hji]
      exact h3
end
section
variable {P : Program} {ops : Array Oper} {C : World → Prop} {Q : Act → World → Prop} {loud : Nat → Bool} {T : Nat}
/-- One walk in the order of the text. -/
def wpMix (P : Program) (ops : Array Oper) (C : World → Prop) (loud : Nat → Bool) (T : Nat) (Q : Act → World → Prop) : Nat → List Oper → Act → World → Prop
  | k, [], a, w => (k ≤ T → C w) ∧ Q a w
  | k, o :: rest, a, w => (k ≤ T → C w) ∧
    (if Region.wanted o (yielded ops a.tmps) then
      (if loud k then Lw P o a w (wpMix P ops C loud T Q (k + 1) rest) else ∃ v, QuietAt P C o v a ∧ wpMix P ops C loud T Q (k + 1) rest (a.put o.dst v) w)
    else wpMix P ops C loud T Q (k + 1) rest (a.put o.dst undef) w)

def loudB (ops : Array Oper) (loud : Nat → Bool) (T : Nat) : Bool :=
  ((List.range ops.size).all fun k => !loud k || (List.range ops.size).all fun j => !(decide (k < j) && loud j) || waitsT ops ops.size j k) &&
  ((List.range ops.size).all fun j => !decide (T ≤ j) || (loud j && (List.range ops.size).all fun i => loud i || waitsT ops ops.size j i))

theorem loudB_spec (h : loudB ops loud T = true) {k j : Nat} (hk : k < ops.size) (hj : j < ops.size) (hlk : loud k = true) (hlj : loud j = true) (hkj : k < j) : waitsT ops ops.size j k = true := by
  unfold loudB at h
  rw [Bool.and_eq_true] at h
  have h1 := List.all_eq_true.1 h.1 k (by simpa using hk)
  simp only [hlk, Bool.not_true, Bool.false_or] at h1
  have h2 := List.all_eq_true.1 h1 j (by simpa using hj)
  simpa [hkj, hlj] using h2
theorem loudB_tail (h : loudB ops loud T = true) : TailOk ops loud T ops.size := by
  unfold loudB at h
  rw [Bool.and_eq_true] at h
  intro j hTj hj i hi hli
  have h1 := List.all_eq_true.1 h.2 j (by simpa using hj)
  simp only [hTj, decide_true, Bool.not_true, Bool.false_or, Bool.and_eq_true] at h1
  have h2 := List.all_eq_true.1 h1.2 i (by simpa using hi)
  simpa [hli] using h2
theorem loudB_T (h : loudB ops loud T = true) {j : Nat} (hTj : T ≤ j) (hj : j < ops.size) : loud j = true := by
  unfold loudB at h
  rw [Bool.and_eq_true] at h
  have h1 := List.all_eq_true.1 h.2 j (by simpa using hj)
  simp only [hTj, decide_true, Bool.not_true, Bool.false_or, Bool.and_eq_true] at h1
  exact h1.1

theorem wpM_lex (hs : Region.noSelect ops = true) (hb : loudB ops loud T = true) : ∀ (l : List Oper) (k : Nat) (listed : Array Bool) (a : Act) (w : World), k + l.length = ops.size → (∀ j, l[j]? = ops[k + j]?) →
    Region.lexFrom .any ops l.length k listed = true → Closed ops listed → listed.size = ops.size → (∀ j, j < k → listed.getD j true = true) → wpMix P ops C loud T Q k l a w → wpM P ops C loud T Q l.length listed a w
  | [], k, listed, a, w, hkl, _, hB, _, _, hlt, h => by
    refine ⟨fun hn => h.1 ?_, by simpa [Region.lexFrom] using hB, h.2⟩
    rcases Nat.lt_or_ge T k with h1 | h1
    · exfalso
      have h2 := hn T (Nat.le_refl _) (by simp at hkl; omega)
      rw [hlt T h1] at h2
      cases h2
    · exact h1
  | o :: l, k, listed, a, w, hkl, hl, hB, hcl, hsz, hlt, h => by
    have h0 : ops[k]? = some o := by simpa using (hl 0).symm
    have hk : k < ops.size := (Array.getElem?_eq_some_iff.1 h0).1
    simp only [List.length_cons, Region.lexFrom, Bool.and_eq_true] at hB
    obtain ⟨⟨hr, hf⟩, hB'⟩ := hB
    have hr' : k ∈ Region.ready .any ops listed := by simpa using hr
    have rec_ : ∀ a w, wpMix P ops C loud T Q (k + 1) l a w → wpM P ops C loud T Q l.length (listed.setIfInBounds k true) a w := fun a w hh =>
      wpM_lex hs hb l (k + 1) _ a w (by simp at hkl; omega) (fun j => by have := hl (j + 1); simpa [Nat.add_assoc, Nat.add_comm 1 j] using this) hB' (hcl.set hr') (by simpa using hsz) (fun j hj => by
        by_cases hjk : k = j
        · subst hjk
          have hlt' : k < listed.size := by omega
          simp [hlt']
        · rw [getD_set_ne true hjk]; exact hlt j (by omega)) hh
    obtain ⟨hC, hh⟩ := h
    have hst : mOp P ops C loud k (wpMix P ops C loud T Q (k + 1) l) a w := by
      unfold mOp
      rw [h0]
      dsimp only
      exact hh
    cases hlk : loud k with
    | false =>
      obtain ⟨v, hy, hK⟩ := yields_of_mOp h0 hlk hst
      have hkT : k ≤ T := by
        rcases Nat.lt_or_ge T k with h1 | h1
        · rw [loudB_T hb (by omega) hk] at hlk; cases hlk
        · exact h1
      exact wpM_first (loudB_tail hb) h0 hlk (Region.noSelect_spec hs) l.length listed a w (hC hkT) hcl hsz (Region.free_spec h0 hf) hr' hy (rec_ _ _ hK)
    | true =>
      refine wpM_loud (n := ops.size) (loudB_tail hb) h0 (Region.noSelect_spec hs) l.length listed a w (fun j hj hjk hlj hun => ?_) hcl hsz (fun hn => hC ?_) (Region.free_spec h0 hf) hr' (mOp_mono rec_ hst)
      · have hkj : k < j := by
          rcases Nat.lt_trichotomy k j with h1 | h1 | h1
          · exact h1
          · exact absurd h1.symm hjk
          · rw [hlt j h1] at hun; cases hun
        exact loudB_spec hb hk hj hlk hlj hkj
      · rcases Nat.lt_or_ge T k with h1 | h1
        · exfalso
          have h2 := hn T (Nat.le_refl _) (by omega)
          rw [hlt T h1] at h2
          cases h2
        · exact h1

theorem wp_region_mix {id : Nat} {Q' : Exit → Act → World → Prop} {a : Act} {w : World} {l : List Oper} (ro : Option Nat) (m : Nat) (hm : P.follows .mixedOrders = true) (hB : Region.lexB .any l.toArray = true) (hb : loudB l.toArray loud T = true)
    (h : wpMix P l.toArray C loud T (fun a w => Q' .normal a w) 0 l a w.drew) : (Code.region id l.toArray true).wpIn (Fw ro) m P Q' a w := by
  simp only [Region.lexB, Bool.and_eq_true] at hB
  have hcl : Closed l.toArray (Array.replicate l.toArray.size false) := fun k o hk hlis => by
    rw [getD_replicate_false] at hlis; cases hlis
  refine wpIn_region_any hm (wpAny_of_wpM (C := C) (loud := loud) (T := T) (n := l.toArray.size) (Q := fun a w => Q' .normal a w) ro m (loudB_tail hb) (fun _ _ h => h) _ _ _ _ hcl (by simp) ?_)
  have := wpM_lex (P := P) (C := C) (loud := loud) (T := T) (Q := fun a w => Q' .normal a w) (ops := l.toArray) hB.1 hb l 0 (Array.replicate l.toArray.size false) a w.drew (by simp) (by simp) (by simpa using hB.2) hcl (by simp) (fun j hj => by omega) h
  simpa using this
end

section rules
variable {P : Program} {Q : Exit → Act → World → Prop} {F : Frm} {l : List (Nat × Value)} {w : World} {ops : Array Oper} {rest : List Oper} {C : World → Prop} {loud : Nat → Bool} {T : Nat}

/-- The walk in a region that draws its order: quiet operations, loud ones, and a tail of loud ones (from T on) that may turn what the quiet ones read. -/
def WM (P : Program) (ops : Array Oper) (C : World → Prop) (loud : Nat → Bool) (T : Nat) (Q : Exit → Act → World → Prop) (k : Nat) (rest : List Oper) (F : Frm) (l : List (Nat × Value)) (w : World) : Prop :=
  ∀ a, Ag F l a → wpMix P ops C loud T (fun a w => Q .normal a w) k rest a w

theorem wc_region_mix {id : Nat} {oplist : List Oper} (C : World → Prop) (loud : Nat → Bool) (T : Nat) (hm : P.follows .mixedOrders = true) (hB : Region.lexB .any oplist.toArray = true) (hb : loudB oplist.toArray loud T = true) (h : WM P oplist.toArray C loud T Q 0 oplist F l w.drew) : WC P (.region id oplist.toArray true) Q F l w :=
  fun a ha => wp_region_mix F.ro 0 hm hB hb (h a ha)
theorem wm_nil {k : Nat} (hC : k ≤ T → C w) (h : WQ Q .normal F l w) : WM P ops C loud T Q k [] F l w := fun a ha => ⟨hC, h a ha⟩
theorem wm_v {k d : Nat} {o : Oper} {v : Value} (hk : loud k = false) (hC : k ≤ T → C w) (h : ∀ w', C w' → Rn P l F.s w' o v) (hg : o.guard = none) (hd : o.dst = some d) (hN : Nat.blt d F.N = true) (h' : WM P ops C loud T Q (k + 1) rest F ((d, v) :: l) w) : WM P ops C loud T Q k (o :: rest) F l w := fun a ha => by
  refine ⟨hC, ?_⟩
  rw [if_pos (by simp [Region.wanted, hg]), if_neg (by rw [hk]; simp)]
  exact ⟨v, fun w' hw' => by rw [ha.eval]; exact h w' hw', by rw [hd]; exact h' _ (ha.put hN v)⟩
/-- A quiet operation whose value is not written out. -/
theorem wm_e {k d : Nat} {o : Oper} {G : Value → Prop} (hk : loud k = false) (hC : k ≤ T → C w) (h : ∃ v, G v ∧ ∀ w', Rn P l F.s w' o v) (hg : o.guard = none) (hd : o.dst = some d) (hN : Nat.blt d F.N = true) (h' : ∀ v, G v → WM P ops C loud T Q (k + 1) rest F ((d, v) :: l) w) : WM P ops C loud T Q k (o :: rest) F l w := by
  obtain ⟨v, hG, hr⟩ := h
  exact wm_v hk hC (fun w' _ => hr w') hg hd hN (h' v hG)
theorem wm_run {k d : Nat} {o : Oper} {v : Value} {w' : World} (hk : loud k = true) (hC : k ≤ T → C w) (hg : o.guard = none) (hd : o.dst = some d) (hN : Nat.blt d F.N = true) (h : (execOp (ev l F.s) o).run P w = .ok (.value v) w') (h' : WM P ops C loud T Q (k + 1) rest F ((d, v) :: l) w') : WM P ops C loud T Q k (o :: rest) F l w := fun a ha => by
  refine ⟨hC, ?_⟩
  rw [if_pos (by simp [Region.wanted, hg]), if_pos hk]
  unfold Lw
  rw [ha.eval, h]
  show wpMix P ops C loud T _ (k + 1) rest (a.put o.dst v) w'
  rw [hd]
  exact h' _ (ha.put hN v)
theorem wm_enter {k d : Nat} {o : Oper} {f : FuncId} {vs : Array Value} {S : Value → World → Prop} (hk : loud k = true) (hC : k ≤ T → C w) (hg : o.guard = none) (hd : o.dst = some d) (hN : Nat.blt d F.N = true) (hrun : (execOp (ev l F.s) o).run P w = .ok (.enter f vs) w) (h : Ret P f vs w S)
    (h' : ∀ v w', S v w' → WM P ops C loud T Q (k + 1) rest F ((d, v) :: l) w') : WM P ops C loud T Q k (o :: rest) F l w := fun a ha => by
  refine ⟨hC, ?_⟩
  rw [if_pos (by simp [Region.wanted, hg]), if_pos hk]
  unfold Lw
  rw [ha.eval, hrun]
  refine Ret.mono h fun v w' hS => ?_
  show wpMix P ops C loud T _ (k + 1) rest (a.put o.dst v) w'
  rw [hd]
  exact h' v w' hS _ (ha.put hN v)
theorem wm_call {k d : Nat} {ty : TypeId} {pos : String} {af : Array Edge} {f : FuncId} {args : Array Operand} {tys : Array TypeId} {vs : List Value} {S : Value → World → Prop} (hk : loud k = true) (hC : k ≤ T → C w) (hc : Callable P f) (hargs : args.toList.map (ev l F.s) = vs) (hN : Nat.blt d F.N = true) (h : Ret P f vs.toArray w S)
    (h' : ∀ v w', S v w' → WM P ops C loud T Q (k + 1) rest F ((d, v) :: l) w') : WM P ops C loud T Q k (⟨some d, .call ⟨.value (.func f), args, tys⟩, ty, pos, af, none⟩ :: rest) F l w :=
  wm_enter hk hC rfl rfl hN (by
    have e : args.map (ev l F.s) = vs.toArray := by
      apply Array.ext'
      rw [← hargs, Array.toList_map]
    simp [execOp, resolve, ev, Deferred.ofValue, invoke, e, hc.run]) h h'
theorem wm_bool {k : Nat} (b : Bool) (ht : b = true → WM P ops C loud T Q k rest F l w) (hf : b = false → WM P ops C loud T Q k rest F l w) : WM P ops C loud T Q k rest F l w := by
  cases b
  · exact hf rfl
  · exact ht rfl
theorem wm_guard_no {k d : Nat} {o : Oper} {j : Nat} {want b : Bool} {oj : Oper} {dj : Nat} (hC : k ≤ T → C w) (hg : o.guard = some (j, want)) (hj : ops[j]? = some oj) (hdj : oj.dst = some dj) (hb : fr l F.s dj = .bool b) (hbw : (b == want) = false) (hd : o.dst = some d) (hN : Nat.blt d F.N = true)
    (h : WM P ops C loud T Q (k + 1) rest F ((d, undef) :: l) w) : WM P ops C loud T Q k (o :: rest) F l w := fun a ha => by
  refine ⟨hC, ?_⟩
  rw [if_neg (by rw [(wanted_of hg hj hdj ha hb).trans hbw]; simp), hd]
  exact h _ (ha.put hN _)
theorem wm_guard_yes {k : Nat} {o : Oper} {j : Nat} {want b : Bool} {oj : Oper} {dj : Nat} (hg : o.guard = some (j, want)) (hj : ops[j]? = some oj) (hdj : oj.dst = some dj) (hb : fr l F.s dj = .bool b) (hbw : (b == want) = true)
    (h : WM P ops C loud T Q k ({ o with guard := none } :: rest) F l w) : WM P ops C loud T Q k (o :: rest) F l w := fun a ha => by
  obtain ⟨hC, h1⟩ := h a ha
  have hw : Region.wanted o (yielded ops a.tmps) = true := (wanted_of hg hj hdj ha hb).trans hbw
  rw [if_pos (by simp [Region.wanted])] at h1
  refine ⟨hC, ?_⟩
  rw [if_pos hw]
  exact h1
theorem wm_lit {T' e ty d k : Nat} {pos : String} {af : Array Edge} {ds : TypeDesc} {by_ sT bT : Nat} {z zT : Value} {α : Type} {r : Rep α} {lo n : Nat} {parts : Array (Nat × Operand)} {us : List Value} {xs : List α} (hk : loud k = true) (hC : k ≤ T → C w) (hT : Ty P T' (.slice e) sT bT zT) (hE : Ty P e ds 1 by_ z) (hz : z.oneCell' = true)
    (hparts : parts.toList.map (fun p => (p.1, ev l F.s p.2)) = frameOf 0 us) (hn : us.length = n) (hlt : n ≤ 65536) (hr : AllR r w (fun b => lo ≤ b) us xs) (hlo : lo ≤ w.heap.size) (hN : Nat.blt d F.N = true)
    (kk : ∀ (w' : World) (g : Nat), g = w.heap.size → w'.heap.size = w.heap.size + 1 → Bl r e w' lo w'.heap.size (.slice (some ⟨g, 0, none⟩) n n) xs → w.grownBy w' none → WM P ops C loud T Q (k + 1) rest F ((d, .slice (some ⟨g, 0, none⟩) n n) :: l) w') :
    WM P ops C loud T Q k (⟨some d, .buildSlice T' n parts, ty, pos, af, none⟩ :: rest) F l w := by
  obtain ⟨w', g, h1, h2, h3, h4, h5⟩ := lit_run (P := P) (ty := ty) (pos := pos) (af := af) (d := d) (F := F) hT hE hz hparts hn hlt hr hlo
  exact wm_run hk hC rfl rfl hN h1 (kk w' g h2 h3 h4 h5)
/-- The tail of such a region: the plain walk's rules. -/
def WT (P : Program) (ops : Array Oper) (C : World → Prop) (loud : Nat → Bool) (T : Nat) (Q : Exit → Act → World → Prop) (rest : List Oper) (F : Frm) (l : List (Nat × Value)) (w : World) : Prop :=
  ∀ k, T ≤ k → (k ≤ T → C w) → (∀ j, k ≤ j → loud j = true) → WM P ops C loud T Q k rest F l w
instance : Runs P (WT P ops C loud T Q) where
  run := fun hg hd hN h hk k hT hC hl a ha => ⟨hC, by
    rw [if_pos (by simp [Region.wanted, hg]), if_pos (hl k (Nat.le_refl _))]
    unfold Lw
    rw [ha.eval, h]
    dsimp only
    rw [hd]
    exact hk (k + 1) (by omega) (fun h => absurd h (by omega)) (fun j hj => hl j (by omega)) _ (ha.put hN _)⟩
  runNone := fun hg hd h hk k hT hC hl a ha => ⟨hC, by
    rw [if_pos (by simp [Region.wanted, hg]), if_pos (hl k (Nat.le_refl _))]
    unfold Lw
    rw [ha.eval, h]
    dsimp only
    rw [hd]
    exact hk (k + 1) (by omega) (fun h => absurd h (by omega)) (fun j hj => hl j (by omega)) _ ha⟩
  skip := fun hg hd h hk k hT hC hl a ha => ⟨hC, by
    rw [if_pos (by simp [Region.wanted, hg]), if_pos (hl k (Nat.le_refl _))]
    unfold Lw
    rw [ha.eval, h]
    dsimp only
    rw [hd]
    exact hk (k + 1) (by omega) (fun h => absurd h (by omega)) (fun j hj => hl j (by omega)) _ ha⟩
  enter := fun hg hd hN hr h hk k hT hC hl a ha => ⟨hC, by
    rw [if_pos (by simp [Region.wanted, hg]), if_pos (hl k (Nat.le_refl _))]
    unfold Lw
    rw [ha.eval, hr]
    refine Ret.mono h fun v w' hS => ?_
    rw [hd]
    exact hk v w' hS (k + 1) (by omega) (fun h => absurd h (by omega)) (fun j hj => hl j (by omega)) _ (ha.put hN v)⟩
  enterNone := fun hg hd hr h hk k hT hC hl a ha => ⟨hC, by
    rw [if_pos (by simp [Region.wanted, hg]), if_pos (hl k (Nat.le_refl _))]
    unfold Lw
    rw [ha.eval, hr]
    refine Ret.mono h fun v w' hS => ?_
    rw [hd]
    exact hk v w' hS (k + 1) (by omega) (fun h => absurd h (by omega)) (fun j hj => hl j (by omega)) _ ha⟩
theorem wt_nil (hq : WQ Q .normal F l w) : WT P ops C loud T Q [] F l w := fun _ _ hC _ a ha => ⟨hC, hq a ha⟩
theorem wm_tail {k : Nat} (hT : T ≤ k) (hC : k ≤ T → C w) (hl : ∀ j, k ≤ j → loud j = true) (h : WT P ops C loud T Q rest F l w) : WM P ops C loud T Q k rest F l w := h k hT hC hl
end rules
end Go.Proofs.YthofgamegondnaaDoor
