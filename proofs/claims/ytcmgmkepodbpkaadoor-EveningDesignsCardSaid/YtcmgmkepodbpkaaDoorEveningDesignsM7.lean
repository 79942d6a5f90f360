/- Lemmas for the proof. -/
import Derived.Test.YtcmgmkepodbpkaaDoorEveningDesignsM1
import Derived.Test.YtcmgmkepodbpkaaDoorEveningDesignsM2
import Derived.Test.YtcmgmkepodbpkaaDoorEveningDesignsM3
import Derived.Test.YtcmgmkepodbpkaaDoorEveningDesignsM4
import Derived.Test.YtcmgmkepodbpkaaDoorEveningDesignsM5
import Derived.Test.YtcmgmkepodbpkaaDoorEveningDesignsM6
namespace Go.Proofs.YtcmgmkepodbpkaaDoor
open Go.RowKit
/- trestle/trestlelaw09.EveningDesigns -/
noncomputable def e_law09_EveningDesigns : Env := ((E0.withX 19 t_law09_designs).withX 13 t_law09_awake)
theorem e_law09_EveningDesigns_ok : EnvOk e_law09_EveningDesigns := (EnvOk.withX (EnvOk.withX E0_ok x_law09_designs.1 x_law09_designs.2) x_law09_awake.1 x_law09_awake.2)
noncomputable def cb_law09_EveningDesigns : Code := codeOf Tryd.f4
def law09_EveningDesigns (x0 : Int) (x1 : Int) (x2 : Int) : Option (Bool) :=
 (law09_designs x0 x1 x2).bind fun v1 =>
 (if v1 = true then law09_awake.bind fun v2 =>
 some v2 else some false).bind fun j3 =>
 some j3
set_option maxHeartbeats 4000000 in
set_option maxRecDepth 100000 in
theorem law09_EveningDesigns_sem {L : List Asn} {hp : Hp} (x0 : Int) (x1 : Int) (x2 : Int) (r : Bool) (h : law09_EveningDesigns x0 x1 x2 = some r) (hT : T hp (L)) : SemY e_law09_EveningDesigns ⟨none, false⟩ cb_law09_EveningDesigns ⟨Fr 14 (pairs0 0 [.v (.int .i64 x0), .v (.int .i64 x1), .v (.int .i64 x2)]), hp⟩ fun x s' => (x = .normal ∨ x = .ret) ∧ ∃ ys, resA e_law09_EveningDesigns.P s'.fr s'.hp Tryd.f4.results.toList = some ys ∧ (fun v h' => v = .v (.bool r) ∧ T h' (L)) (retA ys) s'.hp := by
 have he := e_law09_EveningDesigns_ok
 unfold law09_EveningDesigns at h
 refine SemY.wkQ (SemY.wk (s1 := ⟨Fr 14 [(0, .v (.int .i64 x0)), (1, .v (.int .i64 x1)), (2, .v (.int .i64 x2))], hp⟩) (WkY.fr kr) ?_)
 refine SemY.sq he [(0, .v (.int .i64 x0)), (1, .v (.int .i64 x1)), (2, .v (.int .i64 x2))] ?_
 refine SemY.seq ?_
 obtain ⟨v1, hv1, h⟩ := Option.bind_eq_some_iff.1 h
 obtain ⟨j3, hj3, h⟩ := Option.bind_eq_some_iff.1 h
 refine SemY.regT (A := fun s1 => ∃ (h' : Hp), T h' (L) ∧ s1 = ⟨Fr 14 [(6, .v (.bool j3))], h'⟩) ?_ ?_
 ·refine RunL.sg he 3 ?_
  refine RunL.call he (fid := 19) (b := v1) (s := cs_law09_designs) (F := fun a => law09_designs a.1 a.2.1 a.2.2.1) (er := er_law09_designs) (xs := [.v (.int .i64 x0), .v (.int .i64 x1), .v (.int .i64 x2)]) (a := (x0, x1, x2, ())) rfl (wantedA_none rfl) kr kr kr kr (Sns.cons (Sn.enc (c := cdI) (v := x0)) (Sns.cons (Sn.enc (c := cdI) (v := x1)) (Sns.cons (Sn.enc (c := cdI) (v := x2)) Sns.nil))) (.inl kr) hv1 ?_
  refine RunL.segF (n := 14) he 1 [(11, .v (.bool v1))] hp kr ?_
  rcases Bool.eq_false_or_eq_true v1 with hc7 | hc7
  ·rw [if_pos hc7] at hj3
   rw [hc7]
   obtain ⟨v2, hv2, hj3⟩ := Option.bind_eq_some_iff.1 hj3
   refine RunL.call he (fid := 13) (b := v2) (s := cs_law09_awake) (F := fun a => law09_awake ) (er := er_law09_awake) (xs := []) (a := (())) rfl kr kr kr kr kr Sns.nil (.inl kr) hv2 ?_
   refine RunL.sg he 2 ?_
   have hq := Option.some.inj hj3; subst hq
   exact RunL.done rfl ⟨_, ⟨hp, hT, rfl⟩, (WkY.fr kr)⟩
  ·rw [if_f hc7] at hj3
   rw [hc7]
   refine RunL.sg he 3 ?_
   have hq := Option.some.inj hj3; subst hq
   exact RunL.done rfl ⟨_, ⟨hp, hT, rfl⟩, (WkY.fr kr)⟩
 rintro _ ⟨hp5, hT6, rfl⟩
 refine SemY.ret ?_
 have hq := Option.some.inj h; subst hq
 exact ⟨⟨Fr 14 [(6, .v (.bool j3))], hp5⟩, (WkY.fr kr), .inr rfl, [.v (.bool j3)], kr, ⟨rfl, hT6⟩⟩
def cs_law09_EveningDesigns : Cs (Int × Int × Int × Unit) := (csC cdI (csC cdI (csC cdI csN)))
def er_law09_EveningDesigns (r : Bool) : AV := cdB.enc r
def t_law09_EveningDesigns : List AV → Option AV := told cs_law09_EveningDesigns (fun a => law09_EveningDesigns a.1 a.2.1 a.2.2.1) er_law09_EveningDesigns
theorem x_law09_EveningDesigns : XOk 4 t_law09_EveningDesigns := by
 refine EnvOk.x (E := e_law09_EveningDesigns) (contract_ok e_law09_EveningDesigns_ok (fn := Tryd.f4) (c := cb_law09_EveningDesigns) ?h1 ?h2 ⟨Tryd.call4⟩ cs_law09_EveningDesigns (fun a => law09_EveningDesigns a.1 a.2.1 a.2.2.1) er_law09_EveningDesigns (fun a => (by show 3 ≤ 14; decide)) ?h3 ?h4) rfl rfl
 case h1 => kernel_rfl
 case h2 => kernel_rfl
 case h3 => intro b; kernel_rfl
 case h4 =>
  intro a b h
  refine Sem.mono (Sem.ofY (law09_EveningDesigns_sem (L := []) (hp := []) a.1 a.2.1 a.2.2.1 b h T.nil)) fun e s' hs => ?_
  obtain ⟨h1, ys, h2, h3, -⟩ := hs
  exact ⟨h1, ys, h2, h3⟩
theorem wr_i {n : Int} (h1 : -9223372036854775808 ≤ n) (h2 : n ≤ 9223372036854775807) : wr .i64 n = n := by
 show (if _ then n else _) = n
 rw [if_pos ⟨h1, h2⟩]
theorem idx_app {α : Type} (pre : List α) (v : α) (r : List α) : idx (pre ++ v :: r) (pre.length : Int) = some v := by
 unfold idx
 rw [if_pos (by omega)]
 simp
theorem wr_snoc {α : Type} (pre : List α) (v : α) (r : List α) (h : (pre ++ v :: r).length ≤ 1000000000) : wr .i64 ((pre.length : Int) + 1) = ((pre ++ [v]).length : Int) := by
 simp at h
 rw [wr_i (by omega) (by omega)]; simp
theorem lt_len {α : Type} (pre : List α) (v : α) (r : List α) : decide ((pre.length : Int) < ((pre ++ v :: r).length : Int)) = true := by
 simp; omega
theorem nlt_len {α : Type} (pre : List α) : decide ((pre.length : Int) < ((pre ++ []).length : Int)) = false := by simp
theorem capOk_le {b n : Nat} (hb : b ≤ 1000) (h : n ≤ 1000000000) : capOk b n = true := by
 have h1 : n * b ≤ 1000000000 * 1000 := Nat.mul_le_mul h hb
 unfold capOk
 rw [Bool.and_eq_true]
 exact ⟨Nat.ble_eq_true_of_le (by omega), Nat.ble_eq_true_of_le (by omega)⟩
theorem tdiv2 (n : Int) (h : 0 ≤ n) : n.tdiv 2 = n / 2 := Int.tdiv_eq_ediv_of_nonneg h
/-- A bit of a number. -/
def tb (m i : Nat) : Bool := Nat.beq (Nat.mod (Nat.shiftRight m i) 2) 1
/-- The numbers of a list as bits; none if one stands there twice. -/
def bits : List Nat → Nat → Option Nat
 | [], m => some m
 | i :: L, m => bif tb m i then none else bits L (Nat.lor m (Nat.shiftLeft 1 i))
def diag (n : Nat) : Nat → List Nat
 | 0 => []
 | k + 1 => Nat.add (Nat.mul k n) k :: diag n k
def allL (p : Nat → Bool) : Nat → Bool
 | 0 => true
 | k + 1 => p k && allL p k
theorem allL_at {p : Nat → Bool} : ∀ {k : Nat}, allL p k = true → ∀ i, i < k → p i = true
 | 0, _, i, hi => by omega
 | k + 1, h, i, hi => by
  simp only [allL, Bool.and_eq_true] at h
  by_cases e : i = k
  ·subst e; exact h.1
  ·exact allL_at h.2 i (by omega)
def okF (o : Option Int) (v : Nat) : Bool := match o with
 | some n => decide (n = Int.ofNat v)
 | none => false
theorem okF_eq {o : Option Int} {v : Nat} (h : okF o v = true) : o = some (v : Int) := by
 unfold okF at h
 split at h
 ·next n => rw [of_decide_eq_true h]; rfl
 ·cases h
/- trestle/evening.check -/
/- trestle/evening.fit -/
/- trestle/evening.Check -/
/- trestle/trestleref09.times -/
/- trestle/trestleref09.CheckEvening -/
/- trestle/trestleref09.Fit -/
/- trestle/trestleref09.Check -/
/- slices.Equal[[]int,int] -/
/- trestle/evening.met -/
abbrev CSt := Int × Bool × Bool × List Bool
def stepC (n : Int) (s : CSt) (v : Int) : CSt := if v < 0 ∨ v ≥ n then (s.1, s.2.1, true, s.2.2.2) else ((if (s.2.2.2)[v.toNat]?.getD false then s.1 else s.1 + 1), s.2.1 || (s.2.2.2)[v.toNat]?.getD false, s.2.2.1, s.2.2.2.set v.toNat true)
structure InvC (N : Nat) (P : List Int) (s : CSt) : Prop where
 len : s.2.2.2.length = N
 seen : ∀ k, k < N → s.2.2.2[k]?.getD false = decide ((k : Int) ∈ P)
 tw : s.2.1 = true ↔ ∃ x, 2 ≤ P.count x
 many : s.1 = (s.2.2.2.count true : Int)
theorem count_set : ∀ (l : List Bool) (k : Nat), k < l.length → ((l.set k true).count true : Int) = l.count true + (if l[k]?.getD false then 0 else 1)
 | [], k, h => by simp at h
 | b :: l, 0, _ => by cases b <;> simp
 | b :: l, k + 1, h => by
  have := count_set l k (by simpa using h)
  simp only [List.set_cons_succ, List.getElem?_cons_succ]
  cases b
  ·simpa using this
  ·simp only [List.count_cons_self]; push_cast; omega
theorem InvC.step {n : Int} {P : List Int} {s : CSt} (i : InvC n.toNat P s) {v : Int} (h0 : 0 ≤ v) (h1 : v < n) : InvC n.toNat (P ++ [v]) (stepC n s v) := by
 obtain ⟨m, tw, un, seen⟩ := s
 obtain ⟨i1, i2, i3, i4⟩ := i
 simp only at i1 i2 i3 i4
 have hst : stepC n (m, tw, un, seen) v = ((if seen[v.toNat]?.getD false then m else m + 1), tw || seen[v.toNat]?.getD false, un, seen.set v.toNat true) := by
  unfold stepC; rw [if_neg (by omega)]
 have hlt : v.toNat < seen.length := by clear i3; omega
 have hv := i2 v.toNat (by clear i3; omega)
 have hvv : ((v.toNat : Nat) : Int) = v := by clear i3; omega
 rw [hvv] at hv
 rw [hst]
 refine ⟨by simpa using i1, fun k hk => ?_, ?_, ?_⟩
 ·simp only [List.getElem?_set]
  by_cases hkv : v.toNat = k
  ·subst hkv
   simp [hlt, hvv]
  ·rw [if_neg hkv, i2 k hk]
   have : ¬ (k : Int) = v := by clear i3; omega
   simp [this]
 ·simp only [Bool.or_eq_true, i3, hv, decide_eq_true_eq]
  clear i3 i4
  constructor
  ·rintro (⟨x, hx⟩ | hm)
   ·exact ⟨x, by rw [List.count_append]; omega⟩
   ·exact ⟨v, by rw [List.count_append]; have := List.count_pos_iff.2 hm; have e : [v].count v = 1 := (by simp); omega⟩
  ·rintro ⟨x, hx⟩
   rw [List.count_append] at hx
   by_cases hxv : v = x
   ·subst hxv
    have e : [v].count v = 1 := by simp
    rw [e] at hx
    exact .inr (List.count_pos_iff.1 (by omega))
   ·rw [List.count_cons_of_ne hxv] at hx
    exact .inl ⟨x, by simpa using hx⟩
 ·simp only
  rw [count_set seen v.toNat hlt, i4]
  split <;> simp
def toI1 (t : List Nat) : List Int := t.map Int.ofNat
def toI2 (ev : List (List Nat)) : List (List Int) := ev.map toI1
def toI3 (s : List (List (List Nat))) : List (List (List Int)) := s.map toI2
theorem toI1_len (t : List Nat) : (toI1 t).length = t.length := by simp [toI1]
theorem toI2_len (t : List (List Nat)) : (toI2 t).length = t.length := by simp [toI2]
theorem toI3_len (t : List (List (List Nat))) : (toI3 t).length = t.length := by simp [toI3]
/- (trestle/evening.square[int]).rows -/
/- trestle/evening.valid -/
theorem wr_nat {k : Nat} (h : k ≤ 1000000000) : wr .i64 ((k : Int) + 1) = ((k + 1 : Nat) : Int) := by
 rw [wr_i (by omega) (by omega)]; simp
/- trestle/evening.meetings -/
/- trestle/evening.Meet -/
/-- Where guests who meet are counted. -/
def meetT (n : Nat) : List Nat → List Nat → List Nat
 | _, [] => []
 | pre, x :: r => (pre ++ r).map (fun y => Nat.add (Nat.mul x n) y) ++ meetT n (pre ++ [x]) r
def meetE (n : Nat) : List (List Nat) → List Nat
 | [] => []
 | t :: ev => meetT n [] t ++ meetE n ev
def meetS (n : Nat) : List (List (List Nat)) → List Nat
 | [] => []
 | ev :: s => meetE n ev ++ meetS n s
/- Meetings. -/
end Go.Proofs.YtcmgmkepodbpkaaDoor
namespace Go.Proofs.YtcmgmkepodbpkaaDoor
/-! ## Round robins -/
/-! ## Nets -/
/-! ## Schedules that are valid -/
/-! ## Meetings: the pairs of an evening, in order -/
def tA (q : Nat) : Nat :=
 if Nat.beq q 2 then 18446744073709551632
 else if Nat.beq q 3 then 87792850665602123574159391271828613759504
 else if Nat.beq q 4 then 1826636604997524103687025415407641796770237830395656339993104
 else if Nat.beq q 5 then 23744325819004059034406350039066560157511542246644346540764386605092696850526646800
 else if Nat.beq q 7 then 3478623690343450189344135562249338476532584588467764427001429982800215446745271625268546827762217480443917131115877490766352
 else if Nat.beq q 8 then 13874437610526695973432030937281792794508753341615275460032961883811228700950539972536064596195808715573671356327488034696840624189815766921744
 else if Nat.beq q 9 then 242280702199725469974352990928395429226526593484772418668161944328841606494906220325586153284455581685689327813808656503597945483892057202906626319625518304218853904
 else if Nat.beq q 11 then 47801256700862043884254755031597379698302990695283899141412257882146020190621083950061315865283666969764863811388089464880391574791307388108407416765586075869961916621518697839661709194056553661440086782480
 else if Nat.beq q 13 then 5096332728548082069550025266041584509188004531269844101955021339290952149362303233226047325008983535190781031862781861491610551473830180381547968324462846126141658343850264751256541395366141382817658748651597524911171831391961899910866176572666384
 else if Nat.beq q 16 then 798974726605473726946832238011593618400339158202517049033210936078539962612148351302787556971974837864606271200763683943951953866025539096785282858647326000342156170857478456413950631519959977197563975844721619162716127815821009475742892049151496040916675244806998969647283770674449648040311876430683451920
 else 0
def tM (q : Nat) : Nat :=
 if Nat.beq q 2 then 295147905179352825856
 else if Nat.beq q 3 then 98001321673230277487191767811267888152576
 else if Nat.beq q 4 then 53330256343845239771214889408017248588558707406201035998363648
 else if Nat.beq q 5 then 8633458173534295531708957194668506359272841672193293788818684081649949418234839040
 else if Nat.beq q 7 then 752134494153338365622163830121678227156171018913178456748888587115968116127437694089971613802901525030371665776032251641856
 else if Nat.beq q 8 then 638732648260906949777959678038565379125696596219037394524801015071477239970190909606175165633671146960191918252948923319017128185934182682198016
 else if Nat.beq q 9 then 350271593073168926145148751542696170272942420121852288454124347193083665193360404733703433787666620839746384371830655548203159746643362737104589857648376464715808768
 else if Nat.beq q 11 then 5707612740341513482889274215300219212607810937975125163326021618047279574149327542673081591604818746784293751015793188419071153316961378705602856340041906233280890908852574691014268478255257506201311641600
 else if Nat.beq q 13 then 497203193029057548978455390703706481544668932005568052453289575683692794108682690124607659936678962065035569766277507777915876887660390400113997489778725659446389730475565544531550620901614322287356732407761353473585146035747697513696149221933056
 else if Nat.beq q 16 then 116196760129267793630862849262464326346044543732748708940920453221664288556434379745879494961270582141731748813355742142288220638766218855867759359510984593843506004200114943278699875244065120512813025380665946106619127097398772031257643617143689515450995722003729973585221105779229319991106539050771048038400
 else 0
/-- An entry of a table. -/
def lkT (T a b : Nat) : Nat := (T >>> (4 * (16 * a + b))) % 16
def fldN : List Nat := [2, 3, 4, 5, 7, 8, 9, 11, 13, 16]
def ntT (q a b : Nat) : Nat → Nat → List Nat
 | 0, _ => []
 | f + 1, r => Nat.add (Nat.mul r q) (lkT (tA q) (lkT (tM q) a r) b) :: ntT q a b f (Nat.succ r)
def ntE (k q a : Nat) : Nat → Nat → List (List Nat)
 | 0, _ => []
 | f + 1, b => ntT q a b k 0 :: ntE k q a f (Nat.succ b)
def ntS (k q : Nat) : Nat → Nat → List (List (List Nat))
 | 0, _ => []
 | f + 1, a => ntE k q a q 0 :: ntS k q f (Nat.succ a)
def ntN (k q : Nat) : List (List (List Nat)) := ntS k q q 0
def pairT (m e : Nat) : Nat → Nat → List (List Nat)
 | 0, _ => []
 | f + 1, i => [Nat.mod (Nat.add e i) m, Nat.mod (Nat.sub (Nat.add e m) i) m] :: pairT m e f (Nat.succ i)
def pairsGo (n m : Nat) : Nat → Nat → List (List (List Nat))
 | 0, _ => []
 | f + 1, e => ((bif Nat.beq (n % 2) 1 then [e] else [m - 1, e]) :: pairT (m - 1) e (m / 2 - 1) 1) :: pairsGo n m f (Nat.succ e)
def pairsN (n : Nat) : List (List (List Nat)) := pairsGo n (n + n % 2) (n + n % 2 - 1) 0
def kirkN : List (List (List Nat)) := [[[14, 0, 7], [1, 6, 12], [2, 5, 10], [3, 4, 13], [8, 9, 11]], [[14, 1, 8], [2, 0, 13], [3, 6, 11], [4, 5, 7], [9, 10, 12]], [[14, 2, 9], [3, 1, 7], [4, 0, 12], [5, 6, 8], [10, 11, 13]], [[14, 3, 10], [4, 2, 8], [5, 1, 13], [6, 0, 9], [11, 12, 7]], [[14, 4, 11], [5, 3, 9], [6, 2, 7], [0, 1, 10], [12, 13, 8]], [[14, 5, 12], [6, 4, 10], [0, 3, 8], [1, 2, 11], [13, 7, 9]], [[14, 6, 13], [0, 5, 11], [1, 4, 9], [2, 3, 12], [7, 8, 10]]]
def spN (a : Nat) : Nat → List Nat
 | 0 => []
 | f + 1 => spN a f ++ [Nat.add a f]
def plL (q : Nat) : Nat → List (List Nat)
 | 0 => []
 | f + 1 => plL q f ++ [spN (Nat.mul f q) q]
def planeN (q : Nat) : List (List (List Nat)) := ntN q q ++ [plL q q]
set_option linter.unusedSimpArgs false
set_option linter.unusedVariables false
section
variable {E : Env} {ops : Array Oper} {rest rest' : List Oper} {K : St → Prop} {n n0 k : Nat} {l : List (Nat × AV)} {hp : Hp}
end
/- trestle/evening.extremes -/
/- trestle/evening.Most -/
/- trestle/evening.Least -/
/- trestle/evening.Strain -/
def fldT (q : Nat) : Int × Int × List Int :=
 if Nat.beq q 4 then (2, 2, [1, 1]) else if Nat.beq q 8 then (2, 3, [1, 1, 0]) else if Nat.beq q 9 then (3, 2, [2, 0]) else if Nat.beq q 16 then (2, 4, [1, 1, 0, 0]) else (Int.ofNat q, 1, [0])
def fT (q a b : Nat) : Bool := okF (evening_field_mul (fldT q) (Int.ofNat a) (Int.ofNat b)) (lkT (tM q) a b) && okF (evening_field_add (fldT q) (Int.ofNat a) (Int.ofNat b)) (lkT (tA q) a b) && Nat.blt (lkT (tM q) a b) q && Nat.blt (lkT (tA q) a b) q
theorem fT_all : (fldN.all fun q => allL (fun a => allL (fun b => fT q a b) q) q) = true := by kernel_rfl
theorem fO_all : (fldN.all fun q => match evening_fieldOf (Int.ofNat q) with | some ((p, m, l), true) => decide (p = (fldT q).1) && decide (m = (fldT q).2.1) && decide (l = (fldT q).2.2) | _ => false) = true := by kernel_rfl
theorem fldOf {q : Nat} (hq : q ∈ fldN) : evening_fieldOf (q : Int) = some (fldT q, true) := by
 have := List.all_eq_true.1 fO_all q hq
 split at this
 ·next p m l h =>
  simp only [Bool.and_eq_true, decide_eq_true_eq] at this
  obtain ⟨⟨rfl, rfl⟩, rfl⟩ := this
  exact h
 ·cases this
theorem fld_at {q a b : Nat} (hq : q ∈ fldN) (ha : a < q) (hb : b < q) : evening_field_mul (fldT q) a b = some ((lkT (tM q) a b : Nat) : Int) ∧ evening_field_add (fldT q) a b = some ((lkT (tA q) a b : Nat) : Int) ∧ lkT (tM q) a b < q ∧ lkT (tA q) a b < q := by
 have := allL_at (allL_at (List.all_eq_true.1 fT_all q hq) a ha) b hb
 simp only [fT, Bool.and_eq_true] at this
 obtain ⟨⟨⟨h1, h2⟩, h3⟩, h4⟩ := this
 exact ⟨okF_eq h1, okF_eq h2, Nat.le_of_ble_eq_true h3, Nat.le_of_ble_eq_true h4⟩
theorem net_3 (k q a b : Nat) (hq : q ∈ fldN) (hq16 : q ≤ 16) (hk : k ≤ q) (ha : a < q) (hb : b < q) (c8 : List (List (List Int))) (c11 : List (List Int)) (j6 : Int × Int × List Int × Bool) (hj : (j6.1, j6.2.1, j6.2.2.1) = fldT q) : ∀ (s r f : Nat) (acc : List Nat), r + s = k → s < f → acc.length = r → evening_Net_3 k q j6 c8 a c11 b f (toI1 acc) r = some (toI1 (acc ++ ntT q a b s r))
 | 0, r, f + 1, acc, h, _, _ => by
  unfold evening_Net_3
  rw [if_neg (by simp; omega)]
  simp [ntT]
 | s + 1, r, f + 1, acc, h, hf, hl => by
  obtain ⟨e1, _, e3, _⟩ := fld_at hq ha (show r < q by omega)
  obtain ⟨_, e2, _, e4⟩ := fld_at hq e3 hb
  have ih := net_3 k q a b hq hq16 hk ha hb c8 c11 j6 hj s (r + 1) f (acc ++ [r * q + lkT (tA q) (lkT (tM q) a r) b]) (by omega) (by omega) (by simp; omega)
  have hrq : r * q ≤ 16 * 16 := Nat.mul_le_mul (by omega) hq16
  have e5 : wr .i64 ((r : Int) * (q : Int)) = ((r * q : Nat) : Int) := by
   have e : (r : Int) * (q : Int) = ((r * q : Nat) : Int) := by simp
   rw [e, wr_i (by omega) (by omega)]
  unfold evening_Net_3
  rw [if_pos (by simp; omega), hj, e1]
  simp only [Option.bind_some]
  rw [e2]
  simp only [Option.bind_some]
  rw [if_pos (capOk_le (by omega) (by rw [toI1_len]; omega)), wr_nat (by omega), e5, wr_i (by omega) (by omega)]
  have : toI1 acc ++ [((r * q : Nat) : Int) + ((lkT (tA q) (lkT (tM q) a r) b : Nat) : Int)] = toI1 (acc ++ [r * q + lkT (tA q) (lkT (tM q) a r) b]) := by simp [toI1]
  rw [this, ih]
  simp [ntT]
theorem net_2 (k q a : Nat) (hq : q ∈ fldN) (hq16 : q ≤ 16) (hk : k ≤ q) (ha : a < q) (c8 : List (List (List Int))) (j6 : Int × Int × List Int × Bool) (hj : (j6.1, j6.2.1, j6.2.2.1) = fldT q) : ∀ (s b f : Nat) (acc : List (List Nat)), b + s = q → s < f → acc.length = b → evening_Net_2 k q j6 c8 a f (toI2 acc) b = some (toI2 (acc ++ ntE k q a s b))
 | 0, b, f + 1, acc, h, _, _ => by
  unfold evening_Net_2
  rw [if_neg (by simp; omega)]
  simp [ntE]
 | s + 1, b, f + 1, acc, h, hf, hl => by
  have ih := net_2 k q a hq hq16 hk ha c8 j6 hj s (b + 1) f (acc ++ [ntT q a b k 0]) (by omega) (by omega) (by simp; omega)
  have h3 := net_3 k q a b hq hq16 hk ha (by omega) c8 (toI2 acc) j6 hj k 0 100000 [] (by omega) (by omega) rfl
  rw [show toI1 [] = [] from rfl, show ((0 : Nat) : Int) = 0 from rfl, List.nil_append] at h3
  unfold evening_Net_2
  rw [if_pos (by simp; omega), h3]
  simp only [Option.bind_some]
  rw [if_pos (capOk_le (by omega) (by rw [toI2_len]; omega)), wr_nat (by omega)]
  have : toI2 acc ++ [toI1 (ntT q a b k 0)] = toI2 (acc ++ [ntT q a b k 0]) := by simp [toI2]
  rw [this, ih]
  simp [ntE]
theorem net_1 (k q : Nat) (hq : q ∈ fldN) (hq16 : q ≤ 16) (hk : k ≤ q) (j6 : Int × Int × List Int × Bool) (hj : (j6.1, j6.2.1, j6.2.2.1) = fldT q) : ∀ (s a f : Nat) (acc : List (List (List Nat))), a + s = q → s < f → acc.length = a → evening_Net_1 k q j6 f (toI3 acc) a = some (toI3 (acc ++ ntS k q s a))
 | 0, a, f + 1, acc, h, _, _ => by
  unfold evening_Net_1
  rw [if_neg (by simp; omega)]
  simp [ntS]
 | s + 1, a, f + 1, acc, h, hf, hl => by
  have ih := net_1 k q hq hq16 hk j6 hj s (a + 1) f (acc ++ [ntE k q a q 0]) (by omega) (by omega) (by simp; omega)
  have h3 := net_2 k q a hq hq16 hk (by omega) (toI3 acc) j6 hj q 0 100000 [] (by omega) (by omega) rfl
  rw [show toI2 [] = [] from rfl, show ((0 : Nat) : Int) = 0 from rfl, List.nil_append] at h3
  unfold evening_Net_1
  rw [if_pos (by simp; omega), h3]
  simp only [Option.bind_some]
  rw [if_pos (capOk_le (by omega) (by rw [toI3_len]; omega)), wr_nat (by omega)]
  have : toI3 acc ++ [toI2 (ntE k q a q 0)] = toI3 (acc ++ [ntE k q a q 0]) := by simp [toI3]
  rw [this, ih]
  simp [ntS]
theorem fldN_b {q : Nat} (hq : q ∈ fldN) : 2 ≤ q ∧ q ≤ 16 := by
 have : ∀ q ∈ fldN, 2 ≤ q ∧ q ≤ 16 := by decide
 exact this q hq
theorem mulq {k q : Nat} (hk : k ≤ 100) (hq : q ≤ 16) : wr .i64 ((k : Int) * (q : Int)) = ((k * q : Nat) : Int) := by
 have e : (k : Int) * (q : Int) = ((k * q : Nat) : Int) := by simp
 have : k * q ≤ 100 * 16 := Nat.mul_le_mul hk hq
 rw [e, wr_i (by omega) (by omega)]
theorem net_eq {k q : Nat} (hq : q ∈ fldN) (hk : k ≤ 100) : evening_Net k q = some (if 1 ≤ k ∧ k ≤ q ∧ k * q ≤ 64 then (toI3 (ntN k q), 0) else ([], 90)) := by
 obtain ⟨q2, q16⟩ := fldN_b hq
 unfold evening_Net
 rw [fldOf hq]
 simp only [Option.bind_some, Bool.not_true, Bool.false_eq_true, if_false]
 rw [mulq hk q16]
 by_cases h1 : k < 1
 ·rw [if_neg (show ¬ (1 ≤ k ∧ k ≤ q ∧ k * q ≤ 64) by omega)]
  have : decide ((k : Int) < 1) = true := by simp; omega
  simp [this]
 ·have e1 : decide ((k : Int) < 1) = false := by simp; omega
  by_cases h2 : k > q
  ·rw [if_neg (show ¬ (1 ≤ k ∧ k ≤ q ∧ k * q ≤ 64) by omega)]
   have e2 : decide ((k : Int) > (q : Int)) = true := by simp; omega
   simp only [e1, e2, Bool.false_eq_true, if_false, if_true, Option.bind_some]
  ·have e2 : decide ((k : Int) > (q : Int)) = false := by simp; omega
   by_cases h3 : k * q ≤ 64
   ·have e3 : decide (((k * q : Nat) : Int) > 64) = false := by rw [decide_eq_false_iff_not]; omega
    rw [if_pos (show 1 ≤ k ∧ k ≤ q ∧ k * q ≤ 64 from ⟨by omega, by omega, h3⟩)]
    simp only [e1, e2, e3, Bool.false_eq_true, if_false, Option.bind_some]
    have h4 := net_1 k q hq q16 (by omega) ((fldT q).1, (fldT q).2.1, (fldT q).2.2, false) rfl q 0 100000 [] (by omega) (by omega) rfl
    rw [show toI3 [] = [] from rfl, show ((0 : Nat) : Int) = 0 from rfl, List.nil_append] at h4
    rw [h4]
    rfl
   ·have e3 : decide (((k * q : Nat) : Int) > 64) = true := by rw [decide_eq_true_eq]; omega
    rw [if_neg (show ¬ (1 ≤ k ∧ k ≤ q ∧ k * q ≤ 64) by omega)]
    simp only [e1, e2, e3, Bool.false_eq_true, if_false, if_true, Option.bind_some]
theorem ntS_len (k q : Nat) : ∀ (b i : Nat), (ntS k q b i).length = b
 | 0, _ => rfl
 | b + 1, i => by simp [ntS, ntS_len k q b (i + 1)]
/- Round robins. -/
theorem pr_m {n : Nat} (hn : n ≤ 64) : (n : Int).tmod 2 = ((n % 2 : Nat) : Int) ∧ wr .i64 ((n : Int) + ((n % 2 : Nat) : Int)) = ((n + n % 2 : Nat) : Int) := by
 refine ⟨?_, ?_⟩
 ·rw [Int.tmod_eq_emod_of_nonneg (by omega)]; simp
 ·rw [wr_i (by omega) (by omega)]; simp
theorem pr_k {n m e i : Nat} (hn : n ≤ 64) (hm : n + n % 2 = m) (h2 : 2 ≤ n) (he : e < m - 1) (hi : i < m / 2) : wr .i64 ((m : Int) - 1) = ((m - 1 : Nat) : Int) ∧ wr .i64 ((m : Int).tdiv 2) = ((m / 2 : Nat) : Int) ∧ (wr .i64 ((e : Int) + (i : Int))).tmod ((m - 1 : Nat) : Int) = (((e + i) % (m - 1) : Nat) : Int) ∧ (wr .i64 ((wr .i64 ((wr .i64 ((e : Int) - (i : Int))) + (m : Int))) - 1)).tmod ((m - 1 : Nat) : Int) = (((e + (m - 1) - i) % (m - 1) : Nat) : Int) := by
 refine ⟨?_, ?_, ?_, ?_⟩
 ·rw [wr_i (by omega) (by omega)]; omega
 ·rw [tdiv2 _ (by omega), wr_i (by omega) (by omega)]; omega
 ·rw [wr_i (by omega) (by omega), Int.tmod_eq_emod_of_nonneg (by omega)]; simp
 ·rw [wr_i (n := (e : Int) - (i : Int)) (by omega) (by omega), wr_i (n := (e : Int) - (i : Int) + (m : Int)) (by omega) (by omega), wr_i (by omega) (by omega)]
  have : (e : Int) - (i : Int) + (m : Int) - 1 = ((e + (m - 1) - i : Nat) : Int) := by omega
  rw [this, Int.tmod_eq_emod_of_nonneg (by omega)]; simp
theorem pairs_3 (n m e : Nat) (hn : n ≤ 64) (hm : n + n % 2 = m) (h2 : 2 ≤ n) (he : e < m - 1) (c4 : List (List (List Int))) : ∀ (b i f : Nat) (acc : List (List Nat)), i + b = m / 2 → 1 ≤ i → b < f → acc.length ≤ i → evening_Pairs_3 n c4 e f (toI2 acc) i = some (toI2 (acc ++ pairT (m - 1) e b i))
 | 0, i, f + 1, acc, h, hi, _, _ => by
  obtain ⟨p1, p2⟩ := pr_m hn
  obtain ⟨e1, e2, _, _⟩ := pr_k (e := e) (i := 0) hn hm h2 he (by omega)
  unfold evening_Pairs_3
  rw [p1, p2, hm, e2, if_neg (by simp; omega)]
  simp [pairT]
 | b + 1, i, f + 1, acc, h, hi, hf, ha => by
  obtain ⟨p1, p2⟩ := pr_m hn
  obtain ⟨e1, e2, e3, e4⟩ := pr_k (e := e) (i := i) hn hm h2 he (by omega)
  have ih := pairs_3 n m e hn hm h2 he c4 b (i + 1) f (acc ++ [[(e + i) % (m - 1), (e + (m - 1) - i) % (m - 1)]]) (by omega) (by omega) (by omega) (by simp; omega)
  have hz : ¬ ((m - 1 : Nat) : Int) = 0 := by omega
  unfold evening_Pairs_3
  rw [p1, p2, hm, e2, e1, e3, e4, if_pos (by simp; omega), if_neg hz, if_neg hz, if_pos (capOk_le (by omega) (by rw [toI2_len]; omega)), wr_nat (by omega)]
  have : toI2 acc ++ [[(((e + i) % (m - 1) : Nat) : Int), (((e + (m - 1) - i) % (m - 1) : Nat) : Int)]] = toI2 (acc ++ [[(e + i) % (m - 1), (e + (m - 1) - i) % (m - 1)]]) := by simp [toI2, toI1]
  rw [this, ih]
  have : acc ++ pairT (m - 1) e (b + 1) i = acc ++ [[(e + i) % (m - 1), (e + (m - 1) - i) % (m - 1)]] ++ pairT (m - 1) e b (i + 1) := by
   simp only [pairT, List.append_assoc, List.cons_append, List.nil_append]
   rfl
  rw [this]
theorem pairs_1' (n m : Nat) (hn : n ≤ 64) (hm : n + n % 2 = m) (h2 : 2 ≤ n) : ∀ (b e f : Nat) (acc : List (List (List Nat))), e + b = m - 1 → b < f → acc.length = e → evening_Pairs_1 n f (toI3 acc) e = some (toI3 (acc ++ pairsGo n m b e))
 | 0, e, f + 1, acc, h, _, _ => by
  obtain ⟨p1, p2⟩ := pr_m hn
  obtain ⟨e1, _, _, _⟩ := pr_k (e := 0) (i := 0) hn hm h2 (by omega) (by omega)
  unfold evening_Pairs_1
  rw [p1, p2, hm, e1, if_neg (by simp; omega)]
  simp [pairsGo]
 | b + 1, e, f + 1, acc, h, hf, ha => by
  obtain ⟨p1, p2⟩ := pr_m hn
  obtain ⟨e1, _, _, _⟩ := pr_k (e := e) (i := 0) hn hm h2 (by omega) (by omega)
  have ih := pairs_1' n m hn hm h2 b (e + 1) f (acc ++ [(bif Nat.beq (n % 2) 1 then [e] else [m - 1, e]) :: pairT (m - 1) e (m / 2 - 1) 1]) (by omega) (by omega) (by simp; omega)
  have h3 := pairs_3 n m e hn hm h2 (by omega) (toI3 acc) (m / 2 - 1) 1 100000 [bif Nat.beq (n % 2) 1 then [e] else [m - 1, e]] (by omega) (by omega) (by omega) (by simp)
  have hj : evening_Pairs_j2 n (toI3 acc) e = some (toI2 [bif Nat.beq (n % 2) 1 then [e] else [m - 1, e]]) := by
   unfold evening_Pairs_j2
   rw [p1, p2, hm, e1]
   by_cases ho : n % 2 = 1
   ·rw [ho]; rfl
   ·have : n % 2 = 0 := by omega
    rw [this]; rfl
  unfold evening_Pairs_1
  rw [p1, p2, hm, e1, if_pos (by simp; omega), hj]
  simp only [Option.bind_some]
  rw [show ((1 : Nat) : Int) = 1 from rfl] at h3
  rw [h3]
  simp only [Option.bind_some]
  rw [if_pos (capOk_le (by omega) (by rw [toI3_len]; omega)), wr_nat (by omega)]
  have e7 : toI3 acc ++ [toI2 ([bif Nat.beq (n % 2) 1 then [e] else [m - 1, e]] ++ pairT (m - 1) e (m / 2 - 1) 1)] = toI3 (acc ++ [(bif Nat.beq (n % 2) 1 then [e] else [m - 1, e]) :: pairT (m - 1) e (m / 2 - 1) 1]) := by simp [toI3]
  rw [e7, ih]
  simp [pairsGo]
theorem pairs_eq {n : Nat} (h2 : 2 ≤ n) (hn : n ≤ 64) : evening_Pairs n = some (toI3 (pairsN n), 0) := by
 have h := pairs_1' n (n + n % 2) hn rfl h2 (n + n % 2 - 1) 0 100000 [] (by omega) (by omega) rfl
 rw [show toI3 [] = [] from rfl, show ((0 : Nat) : Int) = 0 from rfl, List.nil_append] at h
 unfold evening_Pairs
 have e1 : (if decide ((n : Int) < 2) = true then some true else some (decide ((n : Int) > 64))) = some false := by
  rw [if_neg (by simp; omega)]
  congr 1
  simp; omega
 rw [e1]
 simp only [Option.bind_some, Bool.false_eq_true, if_false]
 rw [h]
 rfl
/- Planes. -/
theorem span_1 (a k : Nat) (ha : a ≤ 1000) (hk : k ≤ 64) : ∀ (b i f : Nat), i + b = k → b < f → evening_span_1 a k f (toI1 (spN a i)) i = some (toI1 (spN a k))
 | 0, i, f + 1, h, _ => by
  unfold evening_span_1
  rw [if_neg (by simp; omega), show i = k by omega]
 | b + 1, i, f + 1, h, hf => by
  have ih := span_1 a k ha hk b (i + 1) f (by omega) (by omega)
  have hl : ∀ i, (spN a i).length = i := fun i => by
   induction i with
   | zero => rfl
   | succ i ih => simp [spN, ih]
  unfold evening_span_1
  rw [if_pos (by simp; omega), if_pos (capOk_le (by omega) (by rw [toI1_len, hl]; omega)), wr_i (by omega) (by omega), wr_nat (by omega)]
  have : toI1 (spN a i) ++ [(a : Int) + (i : Int)] = toI1 (spN a (i + 1)) := by simp [toI1, spN]
  rw [this, ih]
theorem span_eq {a k : Nat} (ha : a ≤ 1000) (hk : k ≤ 64) : evening_span a k = some (toI1 (spN a k)) := by
 unfold evening_span
 have := span_1 a k ha hk k 0 100000 (by omega) (by omega)
 rw [show toI1 (spN a 0) = [] from rfl, show ((0 : Nat) : Int) = 0 from rfl] at this
 rw [this]
 rfl
theorem plane_1 (q : Nat) (hq : q ≤ 16) (v1 : List (List (List Int)) × Int) : ∀ (b i f : Nat), i + b = q → b < f → evening_Plane_1 q v1 f (toI2 (plL q i)) i = some (toI2 (plL q q))
 | 0, i, f + 1, h, _ => by
  unfold evening_Plane_1
  rw [if_neg (by simp; omega), show i = q by omega]
 | b + 1, i, f + 1, h, hf => by
  have ih := plane_1 q hq v1 b (i + 1) f (by omega) (by omega)
  have hl : ∀ i, (plL q i).length = i := fun i => by
   induction i with
   | zero => rfl
   | succ i ih => simp [plL, ih]
  have hiq : i * q ≤ 16 * 16 := Nat.mul_le_mul (by omega) hq
  unfold evening_Plane_1
  rw [if_pos (by simp; omega), mulq (by omega) hq, span_eq (by omega) (by omega)]
  simp only [Option.bind_some]
  rw [if_pos (capOk_le (by omega) (by rw [toI2_len, hl]; omega)), wr_nat (by omega)]
  have : toI2 (plL q i) ++ [toI1 (spN (i * q) q)] = toI2 (plL q (i + 1)) := by simp [toI2, plL]
  rw [this, ih]
theorem plane_eq {q : Nat} (hq : q ∈ fldN) (h8 : q ≤ 8) : evening_Plane q = some (toI3 (planeN q), 0) := by
 obtain ⟨q2, q16⟩ := fldN_b hq
 have hqq : q * q ≤ 8 * 8 := Nat.mul_le_mul h8 h8
 have h := plane_1 q q16 (toI3 (ntN q q), 0) q 0 100000 (by omega) (by omega)
 rw [show toI2 (plL q 0) = [] from rfl, show ((0 : Nat) : Int) = 0 from rfl] at h
 unfold evening_Plane
 rw [net_eq hq (by omega), if_pos ⟨by omega, by omega, by omega⟩]
 simp only [Option.bind_some, bne_self_eq_false, Bool.false_eq_true, if_false]
 rw [h]
 simp only [Option.bind_some]
 rw [if_pos (capOk_le (by omega) (by rw [toI3_len]; unfold ntN; rw [ntS_len]; omega))]
 simp [planeN, toI3]
/- Kirkman. -/
theorem kirkman_eq : evening_Kirkman = some (toI3 kirkN) := by kernel_rfl
/-- An evening of these sizes, everybody once. -/
structure Evn (n : Nat) (sz : List Nat) (ev : List (List Nat)) : Prop where
 sz_ : ev.map List.length = sz
 ne : ∀ t ∈ ev, t.length ≠ 0
 cnt : ∀ j, ev.flatten.count j = if j < n then 1 else 0
section
variable {n : Nat} {sz : List Nat} {ev : List (List Nat)} {s : List (List (List Nat))}
theorem Evn.len (h : Evn n sz ev) : ev.flatten.length = sz.sum := by rw [List.length_flatten, h.sz_]
end
/- slices.Index[[]int,int] -/
/- slices.Contains[[]int,int] -/
/- trestle/evening.Together -/
theorem cnt_le {x : Nat} {t : List Nat} {ev : List (List Nat)} (ht : t ∈ ev) (h : ev.flatten.count x ≤ 1) : t.count x ≤ 1 := by
 induction ev with
 | nil => cases ht
 | cons u ev ih =>
  rw [List.flatten_cons, List.count_append] at h
  rcases List.mem_cons.1 ht with rfl | ht
  ·omega
  ·exact ih ht (by omega)
theorem Evn.le1 {n : Nat} {sz : List Nat} {ev : List (List Nat)} (h : Evn n sz ev) {t : List Nat} (ht : t ∈ ev) (x : Nat) : t.count x ≤ 1 := by
 refine cnt_le ht ?_
 rw [h.cnt]; split <;> omega
/- Together. -/
/- trestle/evening.MostEvenings -/
/- The bounds, told by numbers. -/
/-- A schedule at which no two guests meet twice. -/
structure GoodS (n : Nat) (sz : List Nat) (s : List (List (List Nat))) : Prop where
 ev : ∀ ev ∈ s, Evn n sz ev
 le1 : ∀ j, (meetS n s).count j ≤ 1
theorem meetS_app (n : Nat) : ∀ (a b : List (List (List Nat))), meetS n (a ++ b) = meetS n a ++ meetS n b
 | [], _ => rfl
 | e :: a, b => by
  show meetE n e ++ meetS n (a ++ b) = meetE n e ++ meetS n a ++ meetS n b
  rw [meetS_app n a b, List.append_assoc]
theorem GoodS.take {n : Nat} {sz : List Nat} {s : List (List (List Nat))} (h : GoodS n sz s) (E : Nat) : GoodS n sz (s.take E) := by
 refine ⟨fun ev he => h.ev ev (List.mem_of_mem_take he), fun j => ?_⟩
 have := h.le1 j
 rw [← List.take_append_drop E s, meetS_app, List.count_append] at this
 omega
theorem spN_range : ∀ k, spN 0 k = List.range k
 | 0 => rfl
 | k + 1 => by
  rw [List.range_succ, ← spN_range k]
  show spN 0 k ++ [Nat.add 0 k] = _
  rw [show Nat.add 0 k = k from Nat.zero_add k]
def sing (n : Nat) : List (List Nat) := (List.range n).map fun x => [x]
theorem alone_2 (n : Nat) (hn : n ≤ 64) (c1 : List (List (List Int))) (c2 : Int) : ∀ (b i f : Nat), i + b = n → b < f → evening_alone_2 n c1 c2 f (toI2 ((List.range i).map fun x => [x])) i = some (toI2 (sing n))
 | 0, i, f + 1, h, _ => by
  unfold evening_alone_2
  rw [if_neg (by simp; omega), show i = n by omega]
  rfl
 | b + 1, i, f + 1, h, hf => by
  have ih := alone_2 n hn c1 c2 b (i + 1) f (by omega) (by omega)
  unfold evening_alone_2
  rw [if_pos (by simp; omega), if_pos (capOk_le (by omega) (by rw [toI2_len]; simp; omega)), wr_nat (by omega)]
  have : toI2 ((List.range i).map fun x => [x]) ++ [[(i : Int)]] = toI2 ((List.range (i + 1)).map fun x => [x]) := by
   rw [List.range_succ]; simp [toI2, toI1]
  rw [this, ih]
theorem alone_1 (n : Nat) (hn : n ≤ 64) : ∀ (b i f : Nat), i + b = 64 → b < f → evening_alone_1 n f (toI3 (List.replicate i (sing n))) i = some (toI3 (List.replicate 64 (sing n)))
 | 0, i, f + 1, h, _ => by
  unfold evening_alone_1
  rw [if_neg (by simp; omega), show i = 64 by omega]
 | b + 1, i, f + 1, h, hf => by
  have ih := alone_1 n hn b (i + 1) f (by omega) (by omega)
  have h2 := alone_2 n hn (toI3 (List.replicate i (sing n))) i n 0 100000 (by omega) (by omega)
  rw [show toI2 ((List.range 0).map fun x => [x]) = [] from rfl, show ((0 : Nat) : Int) = 0 from rfl] at h2
  unfold evening_alone_1
  rw [if_pos (by simp; omega), h2]
  simp only [Option.bind_some]
  rw [if_pos (capOk_le (by omega) (by rw [toI3_len]; simp; omega)), wr_nat (by omega)]
  have : toI3 (List.replicate i (sing n)) ++ [toI2 (sing n)] = toI3 (List.replicate (i + 1) (sing n)) := by
   rw [List.replicate_succ']; simp [toI3]
  rw [this, ih]
theorem alone_eq {n : Nat} (hn : n ≤ 64) : evening_alone n = some (toI3 (List.replicate 64 (sing n))) := by
 unfold evening_alone
 have := alone_1 n hn 64 0 100000 (by omega) (by omega)
 rw [show toI3 (List.replicate 0 (sing n)) = [] from rfl, show ((0 : Nat) : Int) = 0 from rfl] at this
 rw [this]
 rfl
/- trestle/evening.Beside -/
def ringTail (m i : Nat) : Nat → Nat → List Nat
 | 0, _ => []
 | f + 1, k => (Nat.mod (Nat.add i k) (Nat.mul 2 m)) :: ((bif Nat.ble m k then [] else [Nat.mod (Nat.sub (Nat.add i (Nat.mul 2 m)) k) (Nat.mul 2 m)]) ++ ringTail m i f (Nat.succ k))
def rings (n m : Nat) : Nat → Nat → List (List (List Nat))
 | 0, _ => []
 | f + 1, i => [((n - 1) :: i :: ringTail m i m 1)] :: rings n m f (Nat.succ i)
def ringsN (n : Nat) : List (List (List Nat)) := rings n (n / 2) (n / 2) 0
end Go.Proofs.YtcmgmkepodbpkaaDoor
