/- Lemmas for the proof. -/
import Derived.Test.YtiphapnckldpbaaGreatDoorCourtComparesM1
import Derived.Test.YtiphapnckldpbaaGreatDoorCourtComparesM2
import Derived.Test.YtiphapnckldpbaaGreatDoorCourtComparesM3
namespace Go.Proofs.YtiphapnckldpbaaGreatDoor
open Go.RowKit
/-- A call of a function that defers one closure: the closure, how many captures it has, what is handed back. -/
def dfRun (E : Env) (n : Nat) (fn : Func) (args : List AV) : Option (FuncId × Nat × AV × Hp) := match fn.body with
 | some (.seq A (.seq B (.seq (.region _ ops false) rest))) => match ops.toList with
  | [o1, o2] => match o1.guard, o2.guard, o2.dst, o2.op with
   | none, none, none, .defer ⟨.value p, dargs, _⟩ =>
    if dargs.size = 0 ∧ drawOk A = true ∧ drawOk B = true ∧ drawOk rest = true then
     match evC E n ⟨none, false⟩ A ⟨args.map some ++ List.replicate (fn.ntmps - args.length) (some (.tp [])), []⟩ with
     | some (.normal, s1) => match evC E n ⟨none, false⟩ B s1 with
      | some (.normal, s2) => match op1 E (evC E n) ⟨none, false⟩ o1 s2 with
       | some s3 => match opA E s3.fr p with
        | some (.fn g [] cs) => match evC E n ⟨none, false⟩ rest s3 with
         | some (.normal, s4) => (resA E.P s4.fr s4.hp fn.results.toList).map fun xs => (g, cs.length, retA xs, s4.hp)
         | some (.ret, s4) => (resA E.P s4.fr s4.hp fn.results.toList).map fun xs => (g, cs.length, retA xs, s4.hp)
         | _ => none
        | _ => none
       | none => none
      | _ => none
     | _ => none
    else none
   | _, _, _, _ => none
  | _ => none
 | _ => none
theorem dfRun_sound {E : Env} (hE : EnvOk E) {n : Nat} {f : FuncId} {fn : Func} {args : List AV} {g m : Nat} {x : AV} {h' : Hp} (hf : E.P.funcs[f]? = some fn) (hcl : Callable E.P g) (hdef : ∀ us : List Value, us.length = m → DefOk E.P g us) (e : dfRun E n fn args = some (g, m, x, h')) {w : World} {Z : Nat → Prop} {us : List Value} (hz : ∀ c, Z c → c < w.heap.size) (hg : GI E w Z) (hv : VRs w Z [] args us) : RetTo E f us w Z [] [] x h' := by
 unfold dfRun at e
 split at e
 ·next A B id ops rest hb =>
  split at e
  ·next o1 o2 hops =>
   split at e
   ·next p dargs tys hg1 hg2 hd2 ho2 =>
    split at e
    ·next hc =>
     obtain ⟨c1, c2, c3, c4⟩ := hc
     have hops' : ops = #[o1, o2] := by apply Array.ext'; exact hops
     have hda : dargs = #[] := Array.eq_empty_of_size_eq_zero c1
     subst hops' hda
     split at e
     ·next s1 e1 =>
      split at e
      ·next s2 e2 =>
       split at e
       ·next s3 e3 =>
        split at e
        ·next g' cs hp =>
         split at e
         ·next s4 e4 =>
          obtain ⟨xs, hxs, hxe⟩ := Option.map_eq_some_iff.1 e
          injection hxe with k1 k2; injection k2 with k2 k3; injection k3 with k3 k4
          subst k1 k2 k3 k4
          exact defer_ret hE hf hb c2 c3 c4 e1 e2 hg1 e3 hg2 ho2 hd2 hp e4 (.inl rfl) hxs hcl hdef (hr_nil hz) hv hg
         ·next s4 e4 =>
          obtain ⟨xs, hxs, hxe⟩ := Option.map_eq_some_iff.1 e
          injection hxe with k1 k2; injection k2 with k2 k3; injection k3 with k3 k4
          subst k1 k2 k3 k4
          exact defer_ret hE hf hb c2 c3 c4 e1 e2 hg1 e3 hg2 ho2 hd2 hp e4 (.inr rfl) hxs hcl hdef (hr_nil hz) hv hg
         ·cases e
        ·cases e
       ·cases e
      ·cases e
     ·cases e
    ·cases e
   ·cases e
  ·cases e
 ·cases e
/-- .. as a contract. -/
def dfX (E : Env) (n : Nat) (fn : Func) (g m : Nat) (args : List AV) : Option AV := match dfRun E n fn args with
 | some (g', m', x, h') => if g' = g ∧ m' = m then viewT h' x else none
 | none => none
theorem dfX_ok {E : Env} (hE : EnvOk E) {n : Nat} {f : FuncId} {fn : Func} {g m : Nat} (hf : E.P.funcs[f]? = some fn) (hc : Callable E.P f) (hcl : Callable E.P g) (hdef : ∀ us : List Value, us.length = m → DefOk E.P g us) : EnvOk (E.withX f (dfX E n fn g m)) := by
 refine hE.withX hc fun xs y h w Z us hz hgi hv => ?_
 unfold dfX at h
 split at h
 ·next g' m' x h' e =>
  split at h
  ·next hgm =>
   obtain ⟨rfl, rfl⟩ := hgm
   exact frz_ret (dfRun_sound hE hf hcl hdef e hz hgi hv) h
  ·cases h
 ·cases h
/-- What a closed call hands back, frozen. -/
def closedRes (E : Env) (n : Nat) (f : FuncId) (args : List AV) : Option AV := match enterA E (evC E n) none f args [] with
 | some (x, h') => viewT h' x
 | none => none
/-- The same values? -/
def kB : IntKind → IntKind → Bool
 | .i64, .i64 => true
 | .u8, .u8 => true
 | _, _ => false
def vB : Value → Value → Bool
 | .int k a, .int k' b => kB k k' && a == b
 | .bool a, .bool b => a == b
 | .pointer none, .pointer none => true
 | _, _ => false
def bsB : List UInt8 → List UInt8 → Bool
 | [], [] => true
 | a :: l, b :: r => Nat.beq a.toNat b.toNat && bsB l r
 | _, _ => false
def allB (g : AV → AV → Bool) : List AV → List AV → Bool
 | [], [] => true
 | a :: l, b :: r => g a b && allB g l r
 | _, _ => false
def beqN : Nat → AV → AV → Bool
 | 0, _, _ => false
 | n + 1, x, y => match x, y with
  | .v a, .v b => vB a b
  | .st a, .st b => bsB a b
  | .e0, .e0 => true
  | .sl k a, .sl k' b => Nat.beq k k' && allB (beqN n) a b
  | .pe a o, .pe b o' => Nat.beq o o' && beqN n a b
  | .ag a, .ag b => allB (beqN n) a b
  | .tp a, .tp b => allB (beqN n) a b
  | .fn f a b, .fn f' a' b' => Nat.beq f f' && (allB (beqN n) a a' && allB (beqN n) b b')
  | _, _ => false
theorem kB_eq {a b : IntKind} (h : kB a b = true) : a = b := by
 unfold kB at h
 split at h
 ·rfl
 ·rfl
 ·cases h
theorem vB_eq {a b : Value} (h : vB a b = true) : a = b := by
 unfold vB at h
 split at h
 ·rw [Bool.and_eq_true] at h
  rw [kB_eq h.1, eq_of_beq h.2]
 ·rw [eq_of_beq h]
 ·rfl
 ·cases h
theorem bsB_eq : ∀ {a b : List UInt8}, bsB a b = true → a = b
 | [], [], _ => rfl
 | x :: l, y :: r, h => by
  unfold bsB at h
  rw [Bool.and_eq_true] at h
  rw [UInt8.toNat_inj.1 (Nat.eq_of_beq_eq_true h.1), bsB_eq h.2]
 | [], _ :: _, h => by cases h
 | _ :: _, [], h => by cases h
theorem allB_eq {g : AV → AV → Bool} (hg : ∀ x y, g x y = true → x = y) : ∀ {a b : List AV}, allB g a b = true → a = b
 | [], [], _ => rfl
 | x :: l, y :: r, h => by
  unfold allB at h
  rw [Bool.and_eq_true] at h
  rw [hg _ _ h.1, allB_eq hg h.2]
 | [], _ :: _, h => by cases h
 | _ :: _, [], h => by cases h
theorem beqN_eq : ∀ (n : Nat) (x y : AV), beqN n x y = true → x = y
 | 0, _, _, h => by cases h
 | n + 1, x, y, h => by
  have ih := beqN_eq n
  unfold beqN at h
  split at h
  ·rw [vB_eq h]
  ·rw [bsB_eq h]
  ·rfl
  ·rw [Bool.and_eq_true] at h
   rw [Nat.eq_of_beq_eq_true h.1, allB_eq ih h.2]
  ·rw [Bool.and_eq_true] at h
   rw [Nat.eq_of_beq_eq_true h.1, ih _ _ h.2]
  ·rw [allB_eq ih h]
  ·rw [allB_eq ih h]
  ·rw [Bool.and_eq_true, Bool.and_eq_true] at h
   rw [Nat.eq_of_beq_eq_true h.1, allB_eq ih h.2.1, allB_eq ih h.2.2]
  ·cases h
/-- A table. -/
def tabX : List (List AV × AV) → List AV → Option AV
 | [], _ => none
 | (a, r) :: l, xs => if allB (beqN 40) a xs = true then some r else tabX l xs
def TabOk (E : Env) (f : FuncId) : List (List AV × AV) → Prop
 | [] => True
 | (a, r) :: l => (∃ n, closedRes E n f a = some r) ∧ TabOk E f l
theorem tab_at {E : Env} {f : FuncId} : ∀ {l : List (List AV × AV)} {xs : List AV} {y : AV}, TabOk E f l → tabX l xs = some y → ∃ n, closedRes E n f xs = some y
 | (a, r) :: l, xs, y, h, e => by
  unfold tabX at e
  split at e
  ·next hb =>
   injection e with e
   subst e
   rw [← allB_eq (beqN_eq 40) hb]
   exact h.1
  ·exact tab_at h.2 e
theorem tab_ok {E : Env} (hE : EnvOk E) {f : FuncId} {l : List (List AV × AV)} (hc : Callable E.P f) (h : TabOk E f l) : EnvOk (E.withX f (tabX l)) := by
 refine closed_ok hE hc fun xs y e => ?_
 obtain ⟨n, hn⟩ := tab_at h e
 unfold closedRes at hn
 split at hn
 ·next x h' he => exact ⟨n, x, h', he, hn⟩
 ·cases hn
/-- Another contract, told by a table of its own values. -/
theorem tabG_ok {E : Env} {f : FuncId} {g : List AV → Option AV} {l : List (List AV × AV)} (hE : EnvOk (E.withX f g)) (h : ∀ p ∈ l, g p.1 = some p.2) : EnvOk (E.withX f (tabX l)) := by
 have hl : ∀ {l : List (List AV × AV)} {xs : List AV} {y : AV}, (∀ p ∈ l, g p.1 = some p.2) → tabX l xs = some y → g xs = some y := by
  intro l
  induction l with
  | nil => intro xs y _ e; cases e
  | cons p l ih =>
   intro xs y h e
   obtain ⟨a, r⟩ := p
   unfold tabX at e
   split at e
   ·next hb =>
    injection e with e
    subst e
    rw [← allB_eq (beqN_eq 40) hb]
    exact h (a, r) (by simp)
   ·exact ih (fun p hp => h p (List.mem_cons_of_mem _ hp)) e
 refine ⟨hE.fn, hE.mixed, hE.I, fun k q hk => ?_⟩
 change (if k = f then some (tabX l) else E.X k) = some q at hk
 split at hk
 ·next hkf =>
  injection hk with hk
  subst hk hkf
  obtain ⟨h1, h2⟩ := hE.X k g (if_pos rfl)
  exact ⟨h1, fun xs x hx w Z us hz hg hv => h2 xs x (hl h hx) w Z us hz hg hv⟩
 ·next hkf => exact hE.X k q ((if_neg hkf).trans hk)
/-- What is told in one environment may be told in another of the same program. -/
theorem withX_of {E E' : Env} {f : FuncId} {g : List AV → Option AV} (hE : EnvOk E) (h : EnvOk (E'.withX f g)) (hP : E'.P = E.P) (hG : E'.G = E.G) : EnvOk (E.withX f g) := by
 obtain ⟨h1, h2⟩ := h.X f g (if_pos rfl)
 have e1 : (E'.withX f g).P = E.P := hP
 refine hE.withX (e1 ▸ h1) fun xs x hx w Z us hz hg hv => ?_
 have := h2 xs x hx w Z us hz (fun q y hy => hg q y (by rw [← hG]; exact hy)) hv
 exact e1 ▸ this
noncomputable def E1 : Env := (E0.withX 145 ixB).withX 30 cntB
theorem E1_ok : EnvOk E1 := cntB_ok (ixB_ok E0_ok rfl) rfl
theorem pa_def (us : List Value) (hl : us.length = 2) : DefOk E1.P 75 us :=
 def_rc (E := E1) (s1 := (dfOps E1 (match Tryz.f75.body with | some (.seq (.region _ ops _) _) => ops.toList | _ => []) ⟨List.replicate Tryz.f75.ntmps none, []⟩).getD ⟨[], []⟩) (s2 := (dfOps E1 (match Tryz.f75.body with | some (.seq _ (.seq (.region _ ops _) _)) => ops.toList | _ => []) ((dfOps E1 (match Tryz.f75.body with | some (.seq (.region _ ops _) _) => ops.toList | _ => []) ⟨List.replicate Tryz.f75.ntmps none, []⟩).getD ⟨[], []⟩)).getD ⟨[], []⟩)
  (fun _ => rfl) Tryz.func75 rfl rfl (by kernel_rfl) (by kernel_rfl) (by kernel_rfl) (by rw [hl]; decide)
noncomputable def E2 : Env := E1.withX 28 (dfX E1 3000 Tryz.f28 75 2)
theorem E2_ok : EnvOk E2 := dfX_ok E1_ok Tryz.func28 ⟨Tryz.call28⟩ ⟨Tryz.call75⟩ pa_def
def exC : List AV := [.ag [.v (.int .u8 1), .st [], .v (.bool false), .sl 1 [.st [100, 117, 107, 101], .st [99, 111, 117, 110, 116]], .v (.int .i64 0)], .ag [.v (.int .u8 2), .st [100, 117, 107, 101], .v (.bool false), .e0, .v (.int .i64 0)], .ag [.v (.int .u8 4), .st [], .v (.bool false), .e0, .v (.int .i64 1)], .ag [.v (.int .u8 8), .st [], .v (.bool false), .e0, .v (.int .i64 0)]]
def exG : List AV := [.ag [.st [97, 100, 97], .st [99, 111, 117, 110, 116], .st [], .v (.int .i64 0), .v (.int .i64 2), .st [], .v (.bool false), .v (.bool false), .e0], .ag [.st [98, 101, 97], .st [100, 117, 107, 101], .st [], .v (.int .i64 1700), .v (.int .i64 0), .st [], .v (.bool false), .v (.bool false), .e0], .ag [.st [99, 121, 114], .st [100, 117, 107, 101], .st [], .v (.int .i64 1650), .v (.int .i64 0), .st [], .v (.bool false), .v (.bool false), .e0], .ag [.st [100, 97, 110], .st [], .st [], .v (.int .i64 0), .v (.int .i64 1), .st [], .v (.bool false), .v (.bool false), .e0], .ag [.st [101, 118, 97], .st [99, 111, 117, 110, 116], .st [], .v (.int .i64 0), .v (.int .i64 1), .st [], .v (.bool false), .v (.bool false), .e0]]
def i4 (n : Int) : AV := .v (.int .i64 n)
def exT : List UInt8 := [114, 97, 110, 107, 32, 100, 117, 107, 101, 32, 99, 111, 117, 110, 116, 10, 97, 109, 111, 110, 103, 32, 100, 117, 107, 101, 32, 101, 108, 100, 101, 114, 10, 115, 105, 100, 101, 32, 49, 32, 102, 105, 114, 115, 116, 10, 110, 97, 109, 101, 10]
end Go.Proofs.YtiphapnckldpbaaGreatDoor
