/- Values of Lean types as abstract values; contracts of functions. -/
import Derived.Test.YthofgamegondnaaDoorEnc
namespace Go.Proofs.YthofgamegondnaaDoor
open Go.RowKit

/-- How a Lean type's values are told as abstract ones. -/
structure Cd (α : Type) where
  enc : α → AV
  dec : AV → Option α
  de : ∀ x, dec (enc x) = some x
  vr : ∀ {w : World} {Z : Nat → Prop} {a : AV} {x : α} {u : Value}, dec a = some x → VR w Z [] a u → VR w Z [] (enc x) u
  nr : ∀ x, noRf2 (enc x) = true
def cdK (k : IntKind) : Cd Int where
  enc n := .v (.int k n)
  dec a := match a with
    | .v (.int k' n) => if k' = k then some n else none
    | _ => none
  de x := by simp
  vr := fun {w Z a x u} h hv => by
    split at h
    · split at h
      · next hk => injection h with h; subst h hk; exact hv
      · cases h
    · cases h
  nr _ := rfl
def cdI : Cd Int := cdK .i64
def cdB : Cd Bool where
  enc b := .v (.bool b)
  dec a := match a with
    | .v (.bool b) => some b
    | _ => none
  de _ := rfl
  vr := fun {w Z a x u} h hv => by
    split at h
    · injection h with h; subst h; exact hv
    · cases h
  nr _ := rfl
def cdS : Cd (List UInt8) where
  enc b := .st b
  dec a := match a with
    | .st b => some b
    | _ => none
  de _ := rfl
  vr := fun {w Z a x u} h hv => by
    split at h
    · injection h with h; subst h; exact hv
    · cases h
  nr _ := rfl
def decs {α : Type} (c : Cd α) : List AV → Option (List α)
  | [] => some []
  | a :: r => match c.dec a, decs c r with
    | some x, some l => some (x :: l)
    | _, _ => none
theorem decs_enc {α : Type} (c : Cd α) : ∀ xs : List α, decs c (xs.map c.enc) = some xs
  | [] => rfl
  | x :: xs => by
    show (match c.dec (c.enc x), decs c (xs.map c.enc) with | some x, some l => some (x :: l) | _, _ => none) = _
    rw [c.de, decs_enc c xs]
theorem decs_at {α : Type} {c : Cd α} : ∀ {ys : List AV} {xs : List α}, decs c ys = some xs → ys.length = xs.length ∧ ∀ (i : Nat) (x : α), xs[i]? = some x → ∃ y, ys[i]? = some y ∧ c.dec y = some x
  | [], xs, h => by injection h with h; subst h; exact ⟨rfl, fun i x hx => by simp at hx⟩
  | y :: ys, xs, h => by
    unfold decs at h
    split at h
    · next x l h1 h2 =>
      injection h with h; subst h
      obtain ⟨k1, k2⟩ := decs_at h2
      refine ⟨by simp [k1], fun i z hz => ?_⟩
      cases i with
      | zero => simp at hz; subst hz; exact ⟨y, rfl, h1⟩
      | succ i => simpa using k2 i z (by simpa using hz)
    · cases h
def cdL {α : Type} (k : Nat) (c : Cd α) : Cd (List α) where
  enc xs := .sl k (xs.map c.enc)
  dec a := match a with
    | .e0 => some []
    | .sl k' ys => if ys.isEmpty then some [] else if k' = k then decs c ys else none
    | _ => none
  de xs := by
    cases xs with
    | nil => rfl
    | cons x xs => simpa using decs_enc c (x :: xs)
  vr := fun {w Z a x u} h hv => by
    split at h
    · injection h with h; subst h
      cases hv
      exact .sl (us := []) rfl rfl (Nat.le_refl _) (by unfold maxLen; omega) (fun h => by omega) (fun i x u hx => by simp at hx)
    · next k' ys =>
      split at h
      · next hy =>
        injection h with h; subst h
        have : ys = [] := by simpa using hy
        subst this
        cases hv with
        | sl hn hl hc hm ha hx =>
          simp at hn
          subst hn
          exact .sl (us := []) rfl rfl hc hm (fun h => by omega) (fun i x u hx => by simp at hx)
      · split at h
        · next hk =>
          subst hk
          obtain ⟨k1, k2⟩ := decs_at h
          cases hv with
          | sl hn hl hc hm ha hx =>
            refine .sl (by rw [List.length_map, ← k1, hn]) (by rw [List.length_map, ← k1, hl]) hc hm ha fun i y u hy hu => ?_
            rw [List.getElem?_map] at hy
            obtain ⟨z, hz, rfl⟩ := Option.map_eq_some_iff.1 hy
            obtain ⟨q, q1, q2⟩ := k2 i z hz
            exact c.vr q2 (hx i q u q1 hu)
        · cases h
    · cases h
  nr _ := rfl

/-- Lists of arguments. -/
structure Cs (α : Type) where
  enc : α → List AV
  dec : List AV → Option α
  de : ∀ x, dec (enc x) = some x
  vr : ∀ {w : World} {Z : Nat → Prop} {a : List AV} {x : α} {u : List Value}, dec a = some x → VRs w Z [] a u → VRs w Z [] (enc x) u
  nr : ∀ x, (enc x).all noRf2 = true
def csN : Cs Unit where
  enc _ := []
  dec l := match l with
    | [] => some ()
    | _ => none
  de _ := rfl
  vr := fun {w Z a x u} h hv => by
    split at h
    · exact hv
    · cases h
  nr _ := rfl
def csC {α β : Type} (c : Cd α) (s : Cs β) : Cs (α × β) where
  enc x := c.enc x.1 :: s.enc x.2
  dec l := match l with
    | a :: r => (c.dec a).bind fun x => (s.dec r).map fun y => (x, y)
    | [] => none
  de x := by simp [c.de, s.de]
  vr := fun {w Z a x u} h hv => by
    split at h
    · next a r =>
      obtain ⟨x1, h1, h⟩ := Option.bind_eq_some_iff.1 h
      obtain ⟨x2, h2, rfl⟩ := Option.map_eq_some_iff.1 h
      obtain ⟨u, us, rfl, k1, k2⟩ := hv.head
      exact .cons (c.vr h1 k1) (s.vr h2 k2)
    · cases h
  nr x := by simp [c.nr, s.nr]

/-- What a function is told by. -/
def told {α β : Type} (s : Cs α) (F : α → Option β) (er : β → AV) : List AV → Option AV := fun xs => (s.dec xs).bind fun a => (F a).map er
theorem told_enc {α β : Type} {s : Cs α} {F : α → Option β} {er : β → AV} {a : α} {b : β} (h : F a = some b) : told s F er (s.enc a) = some (er b) := by
  unfold told; rw [s.de, Option.bind_some, h]; rfl
def noRfT : AV → Bool
  | .tp vs => vs.all noRf2
  | x => noRf2 x
theorem noRfT_vr {w : World} {Z : Nat → Prop} {R : List RI} {x : AV} {v : Value} (hn : noRfT x = true) (hv : VR w Z R x v) : VR w Z [] x v := by
  have hv' := hv
  cases hv with
  | tp hl hx => exact .tp hl fun i x u hx' hu => noRf2_vr (List.all_eq_true.1 hn x (List.mem_of_getElem? hx')) (hx i x u hx' hu)
  | _ => exact noRf2_vr hn hv'
/-- A contract out of what the body does. -/
theorem contract_ok {E : Env} (hE : EnvOk E) {f : FuncId} {fn : Func} {c : Code} (hf : E.fn f = some fn) (hc : fn.body = some c) (hcall : Callable E.P f) {α β : Type} (s : Cs α) (F : α → Option β) (er : β → AV) (hle : ∀ a, (s.enc a).length ≤ fn.ntmps) (hnr : ∀ b, noRfT (er b) = true)
    (sem : ∀ a b, F a = some b → Sem E ⟨none, false⟩ c ⟨Fr fn.ntmps (pairs0 0 (s.enc a)), []⟩ fun e s' => (e = .normal ∨ e = .ret) ∧ ∃ xs, resA E.P s'.fr s'.hp fn.results.toList = some xs ∧ retA xs = er b) :
    EnvOk (E.withX f (told s F er)) := by
  refine hE.withX hcall fun xs x h w Z us hz hg hv => ?_
  obtain ⟨a, ha, h⟩ := Option.bind_eq_some_iff.1 h
  obtain ⟨b, hb, rfl⟩ := Option.map_eq_some_iff.1 h
  have hh : HR w Z [] [] := ⟨rfl, fun b B hB => by simp at hB, fun b b' B B' r r' hB => by simp at hB, hz⟩
  refine Ret.mono (ret_sem hE hf hc (hle a) (Q := fun _ s => s.fr = [some (er b)]) (Sem.mono (Sem.wk (Wk.enter (hle a)) (sem a b hb)) fun e s' hs => ?_) hh (s.vr ha hv) hg) fun v w' hS => ?_
  · obtain ⟨h1, xs, h2, h3⟩ := hs
    exact ⟨h1, xs, h2, by rw [h3]⟩
  · obtain ⟨Z', R', x, h', hQ, k1, k2, st⟩ := hS
    have hx : x = er b := by simpa using hQ
    subst hx
    refine ⟨⟨st.os, st.tape, st.output, st.size, fun c hc _ => st.block c hc (fun ⟨b, B, r, hb, _⟩ => by simp at hb)⟩, (noRfT_vr (hnr b) k2).mono (fun _ _ => rfl) (fun c hc => ?_) (fun _ _ h => h)⟩
    rcases st.z' c hc with h1 | ⟨b, B, r, hb, _⟩ | h1
    · exact .inl h1
    · simp at hb
    · exact .inr ⟨h1, k1.zlt c hc⟩

theorem views_id {h : Hp} : ∀ {xs : List AV}, xs.all noRf2 = true → views h xs = some xs
  | [], _ => rfl
  | x :: xs, hn => by
    simp only [List.all_cons, Bool.and_eq_true] at hn
    have h1 : ∀ y, noRf y = true → view1 h y = some y := fun y hy => by cases y <;> first | rfl | (simp [noRf] at hy)
    have hL : ∀ cs : List AV, cs.all noRf = true → viewL h cs = some cs := fun cs => by
      induction cs with
      | nil => intro _; rfl
      | cons c cs ih =>
        intro hc
        simp only [List.all_cons, Bool.and_eq_true] at hc
        unfold viewL
        rw [h1 c hc.1, ih hc.2]
    have h2 : view2 h x = some x := by
      have hx := hn.1
      cases x with
      | ag cs => show (viewL h cs).map AV.ag = _; rw [hL cs hx]; rfl
      | v y => exact h1 (.v y) hx
      | st y => exact h1 (.st y) hx
      | e0 => exact h1 .e0 hx
      | sl k y => exact h1 (.sl k y) hx
      | pe y o => exact h1 (.pe y o) hx
      | _ => cases hx
    unfold views
    rw [h2, views_id hn.2]
section
variable {E : Env} {cx : Cx} {ops : Array Oper} {rest rest' : List Oper} {K : St → Prop} {n n0 : Nat} {l : List (Nat × AV)} {hp : Hp} {α β : Type} {s : Cs α} {F : α → Option β} {er : β → AV} {a : α} {b : β}
theorem callX2_told (hF : F a = some b) : callX2 (told s F er) ([] ++ s.enc a ++ []) hp = some (er b, hp) := by
  unfold callX2
  rw [List.nil_append, List.append_nil, if_pos (s.nr a), told_enc hF]; rfl
/-- A call that is told. -/
theorem Runs'.call {d : Nat} {f : Operand} {args : Array Operand} {tys : Array TypeId} {ty : TypeId} {pos : String} {af : Array Edge} {g : Option (Nat × Bool)} {fid : FuncId} (hr : rest = ⟨some d, .call ⟨.value f, args, tys⟩, ty, pos, af, g⟩ :: rest') (hw : wantedA ops (Fr n l) ⟨some d, .call ⟨.value f, args, tys⟩, ty, pos, af, g⟩ = some true)
    (hf : opA E (Fr n l) f = some (.fn fid [] [])) (hi : E.I fid = false) (hX : E.X fid = some (told s F er)) (ha : opds (opA E (Fr n l)) args.toList = some (s.enc a)) (hF : F a = some b) (k : Runs' E cx ops rest' ⟨Fr n ((d, er b) :: l), hp⟩ K) : Runs' E cx ops rest ⟨Fr n l, hp⟩ K := by
  obtain ⟨s', h1, h2⟩ := k
  refine ⟨s', ?_, h2⟩
  subst hr
  have e1 : evOpX E.P E.I (opA E (Fr n l)) hp (.call ⟨.value f, args, tys⟩) = none := by
    show (match opA E (Fr n l) f, opds (opA E (Fr n l)) args.toList with | some (.fn g [] []), some [x] => if E.I g then some x else none | _, _ => none) = none
    rw [hf, ha]
    split
    · next g x h1 _ =>
      injection h1 with h1
      injection h1 with h1
      subst h1
      rw [hi]; rfl
    · rfl
  have e2 : op1 E (evC E 0) cx ⟨some d, .call ⟨.value f, args, tys⟩, ty, pos, af, g⟩ ⟨Fr n l, hp⟩ = some ⟨Fr n ((d, er b) :: l), hp⟩ := by
    unfold op1
    simp only [evOpQ, evOpN, evOpW, e1, hf, ha, callA, hX, callX2_told hF, Option.map_some, putA_Fr]
  unfold opsA
  rw [hw]
  simp only [e2]
  exact h1
/-- .. in a region that draws its order. -/
theorem RunsD.call {d : Nat} {f : Operand} {args : Array Operand} {tys : Array TypeId} {ty : TypeId} {pos : String} {af : Array Edge} {g : Option (Nat × Bool)} {fid : FuncId} (hr : rest = ⟨some d, .call ⟨.value f, args, tys⟩, ty, pos, af, g⟩ :: rest') (hw : wantedA ops (Fr n l) ⟨some d, .call ⟨.value f, args, tys⟩, ty, pos, af, g⟩ = some true)
    (hf : opA E (Fr n l) f = some (.fn fid [] [])) (hX : E.X fid = some (told s F er)) (ha : opds (opA E (Fr n l)) args.toList = some (s.enc a)) (hF : F a = some b) (hfl : flatTp (er b) = true) (k : RunsD E cx ops n0 rest' ⟨Fr n ((d, er b) :: l), hp⟩ K) : RunsD E cx ops n0 rest ⟨Fr n l, hp⟩ K := by
  obtain ⟨s', h1, h2⟩ := k
  refine ⟨s', ?_, h2⟩
  subst hr
  have e2 : callP E (evC E 0) (.fn fid [] []) (s.enc a) hp = some (er b, hp) := by
    simp only [callP, views_id (s.nr a), hX, told_enc hF, hfl, if_true]
  unfold opsD
  simp only [isW, hw, evOpQ, evOpN, hf, ha, e2, putA_Fr, Bool.false_eq_true, if_false]
  exact h1
end
end Go.Proofs.YthofgamegondnaaDoor
