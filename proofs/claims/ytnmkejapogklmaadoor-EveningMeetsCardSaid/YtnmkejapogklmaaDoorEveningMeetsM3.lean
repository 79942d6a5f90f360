/- Lemmas for the proof. -/
import Derived.Test.YtnmkejapogklmaaDoorEveningMeetsM1
import Derived.Test.YtnmkejapogklmaaDoorEveningMeetsM2
import Derived.Test.YtnmkejapogklmaaDoorProg
namespace Go.Proofs.YtnmkejapogklmaaDoor
open Go.RowKit
noncomputable def fnT : Nat → Option Func
  | 2 => some Tryd.f2
  | 3 => some Tryd.f3
  | 4 => some Tryd.f4
  | 5 => some Tryd.f5
  | 6 => some Tryd.f6
  | 7 => some Tryd.f7
  | 8 => some Tryd.f8
  | 9 => some Tryd.f9
  | 10 => some Tryd.f10
  | 11 => some Tryd.f11
  | 12 => some Tryd.f12
  | 13 => some Tryd.f13
  | 14 => some Tryd.f14
  | 15 => some Tryd.f15
  | 16 => some Tryd.f16
  | 17 => some Tryd.f17
  | 18 => some Tryd.f18
  | 19 => some Tryd.f19
  | 20 => some Tryd.f20
  | 21 => some Tryd.f21
  | 22 => some Tryd.f22
  | 23 => some Tryd.f23
  | 24 => some Tryd.f24
  | 25 => some Tryd.f25
  | 26 => some Tryd.f26
  | 27 => some Tryd.f27
  | 28 => some Tryd.f28
  | 29 => some Tryd.f29
  | 30 => some Tryd.f30
  | 31 => some Tryd.f31
  | 32 => some Tryd.f32
  | 33 => some Tryd.f33
  | 34 => some Tryd.f34
  | 35 => some Tryd.f35
  | 36 => some Tryd.f36
  | 37 => some Tryd.f37
  | 38 => some Tryd.f38
  | 39 => some Tryd.f39
  | 40 => some Tryd.f40
  | 41 => some Tryd.f41
  | 42 => some Tryd.f42
  | 43 => some Tryd.f43
  | 44 => some Tryd.f44
  | 45 => some Tryd.f45
  | 46 => some Tryd.f46
  | 47 => some Tryd.f47
  | 48 => some Tryd.f48
  | 49 => some Tryd.f49
  | 50 => some Tryd.f50
  | 51 => some Tryd.f51
  | 52 => some Tryd.f52
  | 53 => some Tryd.f53
  | 54 => some Tryd.f54
  | 55 => some Tryd.f55
  | 56 => some Tryd.f56
  | 57 => some Tryd.f57
  | 58 => some Tryd.f58
  | 59 => some Tryd.f59
  | 60 => some Tryd.f60
  | 61 => some Tryd.f61
  | 62 => some Tryd.f62
  | 63 => some Tryd.f63
  | 64 => some Tryd.f64
  | 65 => some Tryd.f65
  | 66 => some Tryd.f66
  | 67 => some Tryd.f67
  | 68 => some Tryd.f68
  | 69 => some Tryd.f69
  | 70 => some Tryd.f70
  | 71 => some Tryd.f71
  | 72 => some Tryd.f72
  | 73 => some Tryd.f73
  | 74 => some Tryd.f74
  | 75 => some Tryd.f75
  | 76 => some Tryd.f76
  | 77 => some Tryd.f77
  | 78 => some Tryd.f78
  | 80 => some Tryd.f80
  | 81 => some Tryd.f81
  | 82 => some Tryd.f82
  | 84 => some Tryd.f84
  | 85 => some Tryd.f85
  | 86 => some Tryd.f86
  | 87 => some Tryd.f87
  | 88 => some Tryd.f88
  | 89 => some Tryd.f89
  | 90 => some Tryd.f90
  | 91 => some Tryd.f91
  | 114 => some Tryd.f114
  | _ => none
def idT : Nat → Bool
  | 79 => true
  | _ => false
noncomputable def E0 : Env := ⟨Tryd.prog, fnT, fun _ => none, fun _ => none, idT⟩
def bodyOk (fn : Func) : Bool := match fn.body with
  | some c => drawOk c
  | none => false
theorem bodyOk_inv {fn : Func} (h : bodyOk fn = true) : ∀ c, fn.body = some c → drawOk c = true := fun c hc => by unfold bodyOk at h; rw [hc] at h; exact h
theorem dk2 : bodyOk Tryd.f2 = true := by kernel_rfl
theorem dk3 : bodyOk Tryd.f3 = true := by kernel_rfl
theorem dk4 : bodyOk Tryd.f4 = true := by kernel_rfl
theorem dk5 : bodyOk Tryd.f5 = true := by kernel_rfl
theorem dk6 : bodyOk Tryd.f6 = true := by kernel_rfl
theorem dk7 : bodyOk Tryd.f7 = true := by kernel_rfl
theorem dk8 : bodyOk Tryd.f8 = true := by kernel_rfl
theorem dk9 : bodyOk Tryd.f9 = true := by kernel_rfl
theorem dk10 : bodyOk Tryd.f10 = true := by kernel_rfl
theorem dk11 : bodyOk Tryd.f11 = true := by kernel_rfl
theorem dk12 : bodyOk Tryd.f12 = true := by kernel_rfl
theorem dk13 : bodyOk Tryd.f13 = true := by kernel_rfl
theorem dk14 : bodyOk Tryd.f14 = true := by kernel_rfl
theorem dk15 : bodyOk Tryd.f15 = true := by kernel_rfl
theorem dk16 : bodyOk Tryd.f16 = true := by kernel_rfl
theorem dk17 : bodyOk Tryd.f17 = true := by kernel_rfl
theorem dk18 : bodyOk Tryd.f18 = true := by kernel_rfl
theorem dk19 : bodyOk Tryd.f19 = true := by kernel_rfl
theorem dk20 : bodyOk Tryd.f20 = true := by kernel_rfl
theorem dk21 : bodyOk Tryd.f21 = true := by kernel_rfl
theorem dk22 : bodyOk Tryd.f22 = true := by kernel_rfl
theorem dk23 : bodyOk Tryd.f23 = true := by kernel_rfl
theorem dk24 : bodyOk Tryd.f24 = true := by kernel_rfl
theorem dk25 : bodyOk Tryd.f25 = true := by kernel_rfl
theorem dk26 : bodyOk Tryd.f26 = true := by kernel_rfl
theorem dk27 : bodyOk Tryd.f27 = true := by kernel_rfl
theorem dk28 : bodyOk Tryd.f28 = true := by kernel_rfl
theorem dk29 : bodyOk Tryd.f29 = true := by kernel_rfl
theorem dk30 : bodyOk Tryd.f30 = true := by kernel_rfl
theorem dk31 : bodyOk Tryd.f31 = true := by kernel_rfl
theorem dk32 : bodyOk Tryd.f32 = true := by kernel_rfl
theorem dk33 : bodyOk Tryd.f33 = true := by kernel_rfl
theorem dk34 : bodyOk Tryd.f34 = true := by kernel_rfl
theorem dk35 : bodyOk Tryd.f35 = true := by kernel_rfl
theorem dk36 : bodyOk Tryd.f36 = true := by kernel_rfl
theorem dk37 : bodyOk Tryd.f37 = true := by kernel_rfl
theorem dk38 : bodyOk Tryd.f38 = true := by kernel_rfl
theorem dk39 : bodyOk Tryd.f39 = true := by kernel_rfl
theorem dk40 : bodyOk Tryd.f40 = true := by kernel_rfl
theorem dk41 : bodyOk Tryd.f41 = true := by kernel_rfl
theorem dk42 : bodyOk Tryd.f42 = true := by kernel_rfl
theorem dk43 : bodyOk Tryd.f43 = true := by kernel_rfl
theorem dk44 : bodyOk Tryd.f44 = true := by kernel_rfl
theorem dk45 : bodyOk Tryd.f45 = true := by kernel_rfl
theorem dk46 : bodyOk Tryd.f46 = true := by kernel_rfl
theorem dk47 : bodyOk Tryd.f47 = true := by kernel_rfl
theorem dk48 : bodyOk Tryd.f48 = true := by kernel_rfl
theorem dk49 : bodyOk Tryd.f49 = true := by kernel_rfl
theorem dk50 : bodyOk Tryd.f50 = true := by kernel_rfl
theorem dk51 : bodyOk Tryd.f51 = true := by kernel_rfl
theorem dk52 : bodyOk Tryd.f52 = true := by kernel_rfl
theorem dk53 : bodyOk Tryd.f53 = true := by kernel_rfl
theorem dk54 : bodyOk Tryd.f54 = true := by kernel_rfl
theorem dk55 : bodyOk Tryd.f55 = true := by kernel_rfl
theorem dk56 : bodyOk Tryd.f56 = true := by kernel_rfl
theorem dk57 : bodyOk Tryd.f57 = true := by kernel_rfl
theorem dk58 : bodyOk Tryd.f58 = true := by kernel_rfl
theorem dk59 : bodyOk Tryd.f59 = true := by kernel_rfl
theorem dk60 : bodyOk Tryd.f60 = true := by kernel_rfl
theorem dk61 : bodyOk Tryd.f61 = true := by kernel_rfl
theorem dk62 : bodyOk Tryd.f62 = true := by kernel_rfl
theorem dk63 : bodyOk Tryd.f63 = true := by kernel_rfl
theorem dk64 : bodyOk Tryd.f64 = true := by kernel_rfl
theorem dk65 : bodyOk Tryd.f65 = true := by kernel_rfl
theorem dk66 : bodyOk Tryd.f66 = true := by kernel_rfl
theorem dk67 : bodyOk Tryd.f67 = true := by kernel_rfl
theorem dk68 : bodyOk Tryd.f68 = true := by kernel_rfl
theorem dk69 : bodyOk Tryd.f69 = true := by kernel_rfl
theorem dk70 : bodyOk Tryd.f70 = true := by kernel_rfl
theorem dk71 : bodyOk Tryd.f71 = true := by kernel_rfl
theorem dk72 : bodyOk Tryd.f72 = true := by kernel_rfl
theorem dk73 : bodyOk Tryd.f73 = true := by kernel_rfl
theorem dk74 : bodyOk Tryd.f74 = true := by kernel_rfl
theorem dk75 : bodyOk Tryd.f75 = true := by kernel_rfl
theorem dk76 : bodyOk Tryd.f76 = true := by kernel_rfl
theorem dk77 : bodyOk Tryd.f77 = true := by kernel_rfl
theorem dk78 : bodyOk Tryd.f78 = true := by kernel_rfl
theorem dk80 : bodyOk Tryd.f80 = true := by kernel_rfl
theorem dk81 : bodyOk Tryd.f81 = true := by kernel_rfl
theorem dk82 : bodyOk Tryd.f82 = true := by kernel_rfl
theorem dk84 : bodyOk Tryd.f84 = true := by kernel_rfl
theorem dk85 : bodyOk Tryd.f85 = true := by kernel_rfl
theorem dk86 : bodyOk Tryd.f86 = true := by kernel_rfl
theorem dk87 : bodyOk Tryd.f87 = true := by kernel_rfl
theorem dk88 : bodyOk Tryd.f88 = true := by kernel_rfl
theorem dk89 : bodyOk Tryd.f89 = true := by kernel_rfl
theorem dk90 : bodyOk Tryd.f90 = true := by kernel_rfl
theorem dk91 : bodyOk Tryd.f91 = true := by kernel_rfl
theorem dk114 : bodyOk Tryd.f114 = true := by kernel_rfl
theorem fk2 : Tryd.prog.funcs[2]? = some Tryd.f2 := Tryd.func2
theorem fk3 : Tryd.prog.funcs[3]? = some Tryd.f3 := Tryd.func3
theorem fk4 : Tryd.prog.funcs[4]? = some Tryd.f4 := Tryd.func4
theorem fk5 : Tryd.prog.funcs[5]? = some Tryd.f5 := Tryd.func5
theorem fk6 : Tryd.prog.funcs[6]? = some Tryd.f6 := Tryd.func6
theorem fk7 : Tryd.prog.funcs[7]? = some Tryd.f7 := Tryd.func7
theorem fk8 : Tryd.prog.funcs[8]? = some Tryd.f8 := Tryd.func8
theorem fk9 : Tryd.prog.funcs[9]? = some Tryd.f9 := Tryd.func9
theorem fk10 : Tryd.prog.funcs[10]? = some Tryd.f10 := Tryd.func10
theorem fk11 : Tryd.prog.funcs[11]? = some Tryd.f11 := Tryd.func11
theorem fk12 : Tryd.prog.funcs[12]? = some Tryd.f12 := Tryd.func12
theorem fk13 : Tryd.prog.funcs[13]? = some Tryd.f13 := Tryd.func13
theorem fk14 : Tryd.prog.funcs[14]? = some Tryd.f14 := Tryd.func14
theorem fk15 : Tryd.prog.funcs[15]? = some Tryd.f15 := Tryd.func15
theorem fk16 : Tryd.prog.funcs[16]? = some Tryd.f16 := Tryd.func16
theorem fk17 : Tryd.prog.funcs[17]? = some Tryd.f17 := Tryd.func17
theorem fk18 : Tryd.prog.funcs[18]? = some Tryd.f18 := Tryd.func18
theorem fk19 : Tryd.prog.funcs[19]? = some Tryd.f19 := Tryd.func19
theorem fk20 : Tryd.prog.funcs[20]? = some Tryd.f20 := Tryd.func20
theorem fk21 : Tryd.prog.funcs[21]? = some Tryd.f21 := Tryd.func21
theorem fk22 : Tryd.prog.funcs[22]? = some Tryd.f22 := Tryd.func22
theorem fk23 : Tryd.prog.funcs[23]? = some Tryd.f23 := Tryd.func23
theorem fk24 : Tryd.prog.funcs[24]? = some Tryd.f24 := Tryd.func24
theorem fk25 : Tryd.prog.funcs[25]? = some Tryd.f25 := Tryd.func25
theorem fk26 : Tryd.prog.funcs[26]? = some Tryd.f26 := Tryd.func26
theorem fk27 : Tryd.prog.funcs[27]? = some Tryd.f27 := Tryd.func27
theorem fk28 : Tryd.prog.funcs[28]? = some Tryd.f28 := Tryd.func28
theorem fk29 : Tryd.prog.funcs[29]? = some Tryd.f29 := Tryd.func29
theorem fk30 : Tryd.prog.funcs[30]? = some Tryd.f30 := Tryd.func30
theorem fk31 : Tryd.prog.funcs[31]? = some Tryd.f31 := Tryd.func31
theorem fk32 : Tryd.prog.funcs[32]? = some Tryd.f32 := Tryd.func32
theorem fk33 : Tryd.prog.funcs[33]? = some Tryd.f33 := Tryd.func33
theorem fk34 : Tryd.prog.funcs[34]? = some Tryd.f34 := Tryd.func34
theorem fk35 : Tryd.prog.funcs[35]? = some Tryd.f35 := Tryd.func35
theorem fk36 : Tryd.prog.funcs[36]? = some Tryd.f36 := Tryd.func36
theorem fk37 : Tryd.prog.funcs[37]? = some Tryd.f37 := Tryd.func37
theorem fk38 : Tryd.prog.funcs[38]? = some Tryd.f38 := Tryd.func38
theorem fk39 : Tryd.prog.funcs[39]? = some Tryd.f39 := Tryd.func39
theorem fk40 : Tryd.prog.funcs[40]? = some Tryd.f40 := Tryd.func40
theorem fk41 : Tryd.prog.funcs[41]? = some Tryd.f41 := Tryd.func41
theorem fk42 : Tryd.prog.funcs[42]? = some Tryd.f42 := Tryd.func42
theorem fk43 : Tryd.prog.funcs[43]? = some Tryd.f43 := Tryd.func43
theorem fk44 : Tryd.prog.funcs[44]? = some Tryd.f44 := Tryd.func44
theorem fk45 : Tryd.prog.funcs[45]? = some Tryd.f45 := Tryd.func45
theorem fk46 : Tryd.prog.funcs[46]? = some Tryd.f46 := Tryd.func46
theorem fk47 : Tryd.prog.funcs[47]? = some Tryd.f47 := Tryd.func47
theorem fk48 : Tryd.prog.funcs[48]? = some Tryd.f48 := Tryd.func48
theorem fk49 : Tryd.prog.funcs[49]? = some Tryd.f49 := Tryd.func49
theorem fk50 : Tryd.prog.funcs[50]? = some Tryd.f50 := Tryd.func50
theorem fk51 : Tryd.prog.funcs[51]? = some Tryd.f51 := Tryd.func51
theorem fk52 : Tryd.prog.funcs[52]? = some Tryd.f52 := Tryd.func52
theorem fk53 : Tryd.prog.funcs[53]? = some Tryd.f53 := Tryd.func53
theorem fk54 : Tryd.prog.funcs[54]? = some Tryd.f54 := Tryd.func54
theorem fk55 : Tryd.prog.funcs[55]? = some Tryd.f55 := Tryd.func55
theorem fk56 : Tryd.prog.funcs[56]? = some Tryd.f56 := Tryd.func56
theorem fk57 : Tryd.prog.funcs[57]? = some Tryd.f57 := Tryd.func57
theorem fk58 : Tryd.prog.funcs[58]? = some Tryd.f58 := Tryd.func58
theorem fk59 : Tryd.prog.funcs[59]? = some Tryd.f59 := Tryd.func59
theorem fk60 : Tryd.prog.funcs[60]? = some Tryd.f60 := Tryd.func60
theorem fk61 : Tryd.prog.funcs[61]? = some Tryd.f61 := Tryd.func61
theorem fk62 : Tryd.prog.funcs[62]? = some Tryd.f62 := Tryd.func62
theorem fk63 : Tryd.prog.funcs[63]? = some Tryd.f63 := Tryd.func63
theorem fk64 : Tryd.prog.funcs[64]? = some Tryd.f64 := Tryd.func64
theorem fk65 : Tryd.prog.funcs[65]? = some Tryd.f65 := Tryd.func65
theorem fk66 : Tryd.prog.funcs[66]? = some Tryd.f66 := Tryd.func66
theorem fk67 : Tryd.prog.funcs[67]? = some Tryd.f67 := Tryd.func67
theorem fk68 : Tryd.prog.funcs[68]? = some Tryd.f68 := Tryd.func68
theorem fk69 : Tryd.prog.funcs[69]? = some Tryd.f69 := Tryd.func69
theorem fk70 : Tryd.prog.funcs[70]? = some Tryd.f70 := Tryd.func70
theorem fk71 : Tryd.prog.funcs[71]? = some Tryd.f71 := Tryd.func71
theorem fk72 : Tryd.prog.funcs[72]? = some Tryd.f72 := Tryd.func72
theorem fk73 : Tryd.prog.funcs[73]? = some Tryd.f73 := Tryd.func73
theorem fk74 : Tryd.prog.funcs[74]? = some Tryd.f74 := Tryd.func74
theorem fk75 : Tryd.prog.funcs[75]? = some Tryd.f75 := Tryd.func75
theorem fk76 : Tryd.prog.funcs[76]? = some Tryd.f76 := Tryd.func76
theorem fk77 : Tryd.prog.funcs[77]? = some Tryd.f77 := Tryd.func77
theorem fk78 : Tryd.prog.funcs[78]? = some Tryd.f78 := Tryd.func78
theorem fk80 : Tryd.prog.funcs[80]? = some Tryd.f80 := Tryd.func80
theorem fk81 : Tryd.prog.funcs[81]? = some Tryd.f81 := Tryd.func81
theorem fk82 : Tryd.prog.funcs[82]? = some Tryd.f82 := Tryd.func82
theorem fk84 : Tryd.prog.funcs[84]? = some Tryd.f84 := Tryd.func84
theorem fk85 : Tryd.prog.funcs[85]? = some Tryd.f85 := Tryd.func85
theorem fk86 : Tryd.prog.funcs[86]? = some Tryd.f86 := Tryd.func86
theorem fk87 : Tryd.prog.funcs[87]? = some Tryd.f87 := Tryd.func87
theorem fk88 : Tryd.prog.funcs[88]? = some Tryd.f88 := Tryd.func88
theorem fk89 : Tryd.prog.funcs[89]? = some Tryd.f89 := Tryd.func89
theorem fk90 : Tryd.prog.funcs[90]? = some Tryd.f90 := Tryd.func90
theorem fk91 : Tryd.prog.funcs[91]? = some Tryd.f91 := Tryd.func91
theorem fk114 : Tryd.prog.funcs[114]? = some Tryd.f114 := Tryd.func114
theorem id79 : ∀ v w, (callFunc 79 #[v]).run Tryd.prog w = .ok (.value v) w := fun v w => run_callFunc_extern (fn := Tryd.f79) (e := Extern.AbiNoEscape.same) Tryd.func79 (by kernel_rfl) (by kernel_rfl) (by kernel_rfl) (by kernel_rfl) #[v] w
theorem E0_ok : EnvOk E0 := by
  refine ⟨fun f fn h => ?_, by kernel_rfl, fun f h => ?_, fun f g h => (by cases h)⟩
  · change fnT f = some fn at h
    unfold fnT at h
    split at h
    · injection h with h; subst h; exact ⟨fk2, ⟨Tryd.call2⟩, bodyOk_inv dk2⟩
    · injection h with h; subst h; exact ⟨fk3, ⟨Tryd.call3⟩, bodyOk_inv dk3⟩
    · injection h with h; subst h; exact ⟨fk4, ⟨Tryd.call4⟩, bodyOk_inv dk4⟩
    · injection h with h; subst h; exact ⟨fk5, ⟨Tryd.call5⟩, bodyOk_inv dk5⟩
    · injection h with h; subst h; exact ⟨fk6, ⟨Tryd.call6⟩, bodyOk_inv dk6⟩
    · injection h with h; subst h; exact ⟨fk7, ⟨Tryd.call7⟩, bodyOk_inv dk7⟩
    · injection h with h; subst h; exact ⟨fk8, ⟨Tryd.call8⟩, bodyOk_inv dk8⟩
    · injection h with h; subst h; exact ⟨fk9, ⟨Tryd.call9⟩, bodyOk_inv dk9⟩
    · injection h with h; subst h; exact ⟨fk10, ⟨Tryd.call10⟩, bodyOk_inv dk10⟩
    · injection h with h; subst h; exact ⟨fk11, ⟨Tryd.call11⟩, bodyOk_inv dk11⟩
    · injection h with h; subst h; exact ⟨fk12, ⟨Tryd.call12⟩, bodyOk_inv dk12⟩
    · injection h with h; subst h; exact ⟨fk13, ⟨Tryd.call13⟩, bodyOk_inv dk13⟩
    · injection h with h; subst h; exact ⟨fk14, ⟨Tryd.call14⟩, bodyOk_inv dk14⟩
    · injection h with h; subst h; exact ⟨fk15, ⟨Tryd.call15⟩, bodyOk_inv dk15⟩
    · injection h with h; subst h; exact ⟨fk16, ⟨Tryd.call16⟩, bodyOk_inv dk16⟩
    · injection h with h; subst h; exact ⟨fk17, ⟨Tryd.call17⟩, bodyOk_inv dk17⟩
    · injection h with h; subst h; exact ⟨fk18, ⟨Tryd.call18⟩, bodyOk_inv dk18⟩
    · injection h with h; subst h; exact ⟨fk19, ⟨Tryd.call19⟩, bodyOk_inv dk19⟩
    · injection h with h; subst h; exact ⟨fk20, ⟨Tryd.call20⟩, bodyOk_inv dk20⟩
    · injection h with h; subst h; exact ⟨fk21, ⟨Tryd.call21⟩, bodyOk_inv dk21⟩
    · injection h with h; subst h; exact ⟨fk22, ⟨Tryd.call22⟩, bodyOk_inv dk22⟩
    · injection h with h; subst h; exact ⟨fk23, ⟨Tryd.call23⟩, bodyOk_inv dk23⟩
    · injection h with h; subst h; exact ⟨fk24, ⟨Tryd.call24⟩, bodyOk_inv dk24⟩
    · injection h with h; subst h; exact ⟨fk25, ⟨Tryd.call25⟩, bodyOk_inv dk25⟩
    · injection h with h; subst h; exact ⟨fk26, ⟨Tryd.call26⟩, bodyOk_inv dk26⟩
    · injection h with h; subst h; exact ⟨fk27, ⟨Tryd.call27⟩, bodyOk_inv dk27⟩
    · injection h with h; subst h; exact ⟨fk28, ⟨Tryd.call28⟩, bodyOk_inv dk28⟩
    · injection h with h; subst h; exact ⟨fk29, ⟨Tryd.call29⟩, bodyOk_inv dk29⟩
    · injection h with h; subst h; exact ⟨fk30, ⟨Tryd.call30⟩, bodyOk_inv dk30⟩
    · injection h with h; subst h; exact ⟨fk31, ⟨Tryd.call31⟩, bodyOk_inv dk31⟩
    · injection h with h; subst h; exact ⟨fk32, ⟨Tryd.call32⟩, bodyOk_inv dk32⟩
    · injection h with h; subst h; exact ⟨fk33, ⟨Tryd.call33⟩, bodyOk_inv dk33⟩
    · injection h with h; subst h; exact ⟨fk34, ⟨Tryd.call34⟩, bodyOk_inv dk34⟩
    · injection h with h; subst h; exact ⟨fk35, ⟨Tryd.call35⟩, bodyOk_inv dk35⟩
    · injection h with h; subst h; exact ⟨fk36, ⟨Tryd.call36⟩, bodyOk_inv dk36⟩
    · injection h with h; subst h; exact ⟨fk37, ⟨Tryd.call37⟩, bodyOk_inv dk37⟩
    · injection h with h; subst h; exact ⟨fk38, ⟨Tryd.call38⟩, bodyOk_inv dk38⟩
    · injection h with h; subst h; exact ⟨fk39, ⟨Tryd.call39⟩, bodyOk_inv dk39⟩
    · injection h with h; subst h; exact ⟨fk40, ⟨Tryd.call40⟩, bodyOk_inv dk40⟩
    · injection h with h; subst h; exact ⟨fk41, ⟨Tryd.call41⟩, bodyOk_inv dk41⟩
    · injection h with h; subst h; exact ⟨fk42, ⟨Tryd.call42⟩, bodyOk_inv dk42⟩
    · injection h with h; subst h; exact ⟨fk43, ⟨Tryd.call43⟩, bodyOk_inv dk43⟩
    · injection h with h; subst h; exact ⟨fk44, ⟨Tryd.call44⟩, bodyOk_inv dk44⟩
    · injection h with h; subst h; exact ⟨fk45, ⟨Tryd.call45⟩, bodyOk_inv dk45⟩
    · injection h with h; subst h; exact ⟨fk46, ⟨Tryd.call46⟩, bodyOk_inv dk46⟩
    · injection h with h; subst h; exact ⟨fk47, ⟨Tryd.call47⟩, bodyOk_inv dk47⟩
    · injection h with h; subst h; exact ⟨fk48, ⟨Tryd.call48⟩, bodyOk_inv dk48⟩
    · injection h with h; subst h; exact ⟨fk49, ⟨Tryd.call49⟩, bodyOk_inv dk49⟩
    · injection h with h; subst h; exact ⟨fk50, ⟨Tryd.call50⟩, bodyOk_inv dk50⟩
    · injection h with h; subst h; exact ⟨fk51, ⟨Tryd.call51⟩, bodyOk_inv dk51⟩
    · injection h with h; subst h; exact ⟨fk52, ⟨Tryd.call52⟩, bodyOk_inv dk52⟩
    · injection h with h; subst h; exact ⟨fk53, ⟨Tryd.call53⟩, bodyOk_inv dk53⟩
    · injection h with h; subst h; exact ⟨fk54, ⟨Tryd.call54⟩, bodyOk_inv dk54⟩
    · injection h with h; subst h; exact ⟨fk55, ⟨Tryd.call55⟩, bodyOk_inv dk55⟩
    · injection h with h; subst h; exact ⟨fk56, ⟨Tryd.call56⟩, bodyOk_inv dk56⟩
    · injection h with h; subst h; exact ⟨fk57, ⟨Tryd.call57⟩, bodyOk_inv dk57⟩
    · injection h with h; subst h; exact ⟨fk58, ⟨Tryd.call58⟩, bodyOk_inv dk58⟩
    · injection h with h; subst h; exact ⟨fk59, ⟨Tryd.call59⟩, bodyOk_inv dk59⟩
    · injection h with h; subst h; exact ⟨fk60, ⟨Tryd.call60⟩, bodyOk_inv dk60⟩
    · injection h with h; subst h; exact ⟨fk61, ⟨Tryd.call61⟩, bodyOk_inv dk61⟩
    · injection h with h; subst h; exact ⟨fk62, ⟨Tryd.call62⟩, bodyOk_inv dk62⟩
    · injection h with h; subst h; exact ⟨fk63, ⟨Tryd.call63⟩, bodyOk_inv dk63⟩
    · injection h with h; subst h; exact ⟨fk64, ⟨Tryd.call64⟩, bodyOk_inv dk64⟩
    · injection h with h; subst h; exact ⟨fk65, ⟨Tryd.call65⟩, bodyOk_inv dk65⟩
    · injection h with h; subst h; exact ⟨fk66, ⟨Tryd.call66⟩, bodyOk_inv dk66⟩
    · injection h with h; subst h; exact ⟨fk67, ⟨Tryd.call67⟩, bodyOk_inv dk67⟩
    · injection h with h; subst h; exact ⟨fk68, ⟨Tryd.call68⟩, bodyOk_inv dk68⟩
    · injection h with h; subst h; exact ⟨fk69, ⟨Tryd.call69⟩, bodyOk_inv dk69⟩
    · injection h with h; subst h; exact ⟨fk70, ⟨Tryd.call70⟩, bodyOk_inv dk70⟩
    · injection h with h; subst h; exact ⟨fk71, ⟨Tryd.call71⟩, bodyOk_inv dk71⟩
    · injection h with h; subst h; exact ⟨fk72, ⟨Tryd.call72⟩, bodyOk_inv dk72⟩
    · injection h with h; subst h; exact ⟨fk73, ⟨Tryd.call73⟩, bodyOk_inv dk73⟩
    · injection h with h; subst h; exact ⟨fk74, ⟨Tryd.call74⟩, bodyOk_inv dk74⟩
    · injection h with h; subst h; exact ⟨fk75, ⟨Tryd.call75⟩, bodyOk_inv dk75⟩
    · injection h with h; subst h; exact ⟨fk76, ⟨Tryd.call76⟩, bodyOk_inv dk76⟩
    · injection h with h; subst h; exact ⟨fk77, ⟨Tryd.call77⟩, bodyOk_inv dk77⟩
    · injection h with h; subst h; exact ⟨fk78, ⟨Tryd.call78⟩, bodyOk_inv dk78⟩
    · injection h with h; subst h; exact ⟨fk80, ⟨Tryd.call80⟩, bodyOk_inv dk80⟩
    · injection h with h; subst h; exact ⟨fk81, ⟨Tryd.call81⟩, bodyOk_inv dk81⟩
    · injection h with h; subst h; exact ⟨fk82, ⟨Tryd.call82⟩, bodyOk_inv dk82⟩
    · injection h with h; subst h; exact ⟨fk84, ⟨Tryd.call84⟩, bodyOk_inv dk84⟩
    · injection h with h; subst h; exact ⟨fk85, ⟨Tryd.call85⟩, bodyOk_inv dk85⟩
    · injection h with h; subst h; exact ⟨fk86, ⟨Tryd.call86⟩, bodyOk_inv dk86⟩
    · injection h with h; subst h; exact ⟨fk87, ⟨Tryd.call87⟩, bodyOk_inv dk87⟩
    · injection h with h; subst h; exact ⟨fk88, ⟨Tryd.call88⟩, bodyOk_inv dk88⟩
    · injection h with h; subst h; exact ⟨fk89, ⟨Tryd.call89⟩, bodyOk_inv dk89⟩
    · injection h with h; subst h; exact ⟨fk90, ⟨Tryd.call90⟩, bodyOk_inv dk90⟩
    · injection h with h; subst h; exact ⟨fk91, ⟨Tryd.call91⟩, bodyOk_inv dk91⟩
    · injection h with h; subst h; exact ⟨fk114, ⟨Tryd.call114⟩, bodyOk_inv dk114⟩
    · cases h
  · change idT f = true at h
    unfold idT at h
    split at h
    · exact id79
    · cases h
def isT (r : Option (AV × Hp)) : Bool := match r with
  | some (.v (.bool true), _) => true
  | _ => false
theorem isT_inv {r : Option (AV × Hp)} (h : isT r = true) : ∃ h', r = some (.v (.bool true), h') := by
  unfold isT at h
  split at h
  · exact ⟨_, rfl⟩
  · cases h
set_option maxRecDepth 1000000 in
theorem awakeT : isT (evCall E0 1000 7 [] []) = true := by kernel_rfl
theorem awake_ev : ∃ h, evCall E0 1000 7 [] [] = some (.v (.bool true), h) := isT_inv awakeT
theorem awake_ret (w : World) : Ret Tryd.prog 7 #[] w fun v w' => v = .bool true ∧ w.grownBy w' none := by
  obtain ⟨h, e⟩ := awake_ev
  exact ret_true (Z := fun _ => False) (us := []) E0_ok e (fun c hc => hc.elim) (fun g x h => by cases h) .nil
theorem vr_true {w : World} {Z : Nat → Prop} : VR w Z [] (.v (.bool true)) (.bool true) := .v rfl
def codeOf (f : Func) : Code := match f.body with
  | some c => c
  | none => .skip
/-- A part of code, by its way. -/
def pc : Code → List Nat → Code
  | c, [] => c
  | .seq a _, 0 :: l => pc a l
  | .seq _ b, _ :: l => pc b l
  | .cond _ a _, 0 :: l => pc a l
  | .cond _ _ b, _ :: l => pc b l
  | .block _ a, _ :: l => pc a l
  | .loop a, _ :: l => pc a l
  | c, _ :: _ => c
/-- What is told of a function, in no environment of its own. -/
def XOk (f : FuncId) (g : List AV → Option AV) : Prop := Callable E0.P f ∧ ∀ xs x, g xs = some x → ∀ w Z us, (∀ c, Z c → c < w.heap.size) → GI E0 w Z → VRs w Z [] xs us → Ret E0.P f us.toArray w fun v w' => w.grownBy w' none ∧ VR w' (fun c => Z c ∨ (w.heap.size ≤ c ∧ c < w'.heap.size)) [] x v
section
variable {E : Env} {cx : Cx} {c : Code} {s s1 : St} {Q : Ex → St → Prop} {n : Nat} {e0 : Ex}
theorem SemN.mono {Q' : Ex → St → Prop} (h : SemN E cx c n s Q) (hq : ∀ e s, Q e s → Q' e s) : SemN E cx c n s Q' :=
  fun ro base Qm a w Z R h1 h2 h3 k => h ro base Qm a w Z R h1 h2 h3 fun e s' a' w' Z' R' hQ => k e s' a' w' Z' R' (hq e s' hQ)
theorem SemN.wkQ (h : SemN E cx c n s fun e s' => ∃ s2, Wk E s' s2 ∧ Q e s2) : SemN E cx c n s Q := by
  intro ro base Qm a w Z R h1 h2 h3 k
  refine h ro base Qm a w Z R h1 h2 h3 fun e s' a' w' Z' R' hQ sr st => ?_
  obtain ⟨s2, hw, hq⟩ := hQ
  obtain ⟨Z2, R2, sr2, st2⟩ := hw _ w' Z' R' a' sr
  exact k e s2 a' w' Z2 R2 hq sr2 (st.trans st2)
theorem Sem.cutN (h : SemN E cx c n s fun e s' => e = e0 ∧ Wk E s' s1) (k : Q e0 s1) : SemN E cx c n s Q :=
  SemN.wkQ (SemN.mono h fun e s' h => ⟨s1, h.2, by rw [h.1]; exact k⟩)
end
theorem EnvOk.x {E : Env} {f : FuncId} {g : List AV → Option AV} (h : EnvOk (E.withX f g)) (hP : E.P = E0.P) (hG : E.G = E0.G) : XOk f g := by
  obtain ⟨h1, h2⟩ := h.X f g (if_pos rfl)
  have e1 : (E.withX f g).P = E0.P := hP
  refine ⟨e1 ▸ h1, fun xs x hx w Z us hz hg hv => ?_⟩
  have := h2 xs x hx w Z us hz (fun q y hy => hg q y (by rw [← hG]; exact hy)) hv
  exact e1 ▸ this
/- trestle/trestlelaw09.Few -/
noncomputable def e_law09_Few : Env := E0
theorem e_law09_Few_ok : EnvOk e_law09_Few := E0_ok
noncomputable def cb_law09_Few : Code := codeOf Tryd.f5
def law09_Few_2 (x0 : (List (List (List Int)))) (x1 : Int) (c3 : Int) (v5 : (List (List Int))) : Nat → Int → Int → Option ((Int) ⊕ (Bool))
  | 0, _, _ => none
  | f + 1, c8, c9 =>
    if (decide (c9 < (v5.length : Int))) = true then
    (idx v5 c9).bind fun v11 =>
    if (decide ((wr .i64 (c8 + (v11.length : Int))) > x1)) = true then
    some (.inr false)
    else
    law09_Few_2 x0 x1 c3 v5 f (wr .i64 (c8 + (v11.length : Int))) (wr .i64 (c9 + 1))
    else
    some (.inl c8)
def law09_Few_1 (x0 : (List (List (List Int)))) (x1 : Int) : Nat → Int → Int → Option ((Unit) ⊕ (Bool))
  | 0, _, _ => none
  | f + 1, c2, c3 =>
    if (decide (c3 < (x0.length : Int))) = true then
    (idx x0 c3).bind fun v5 =>
    if (decide ((v5.length : Int) > 12)) = true then
    some (.inr false)
    else
    (law09_Few_2 x0 x1 c3 v5 100000 c2 0).bind fun r15 =>
    match r15 with
    | (.inl w16) =>
      law09_Few_1 x0 x1 f w16 (wr .i64 (c3 + 1))
    | (.inr w17) =>
      some (.inr w17)
    else
    some (.inl ())
def law09_Few (x0 : (List (List (List Int)))) (x1 : Int) : Option (Bool) :=
  if (decide ((x0.length : Int) > 70)) = true then
  some false
  else
  (law09_Few_1 x0 x1 100000 0 0).bind fun r18 =>
  match r18 with
  | (.inl w19) =>
    some true
  | (.inr w20) =>
    some w20
def cs_law09_Few : Cs ((List (List (List Int))) × Int × Unit) := (csC (cdL 1 (cdL 1 (cdL 1 cdI))) (csC cdI csN))
def er_law09_Few (r : Bool) : AV := cdB.enc r
set_option maxHeartbeats 4000000 in
set_option maxRecDepth 100000 in
theorem law09_Few_2_ok (x0 : (List (List (List Int)))) (x1 : Int) (c3 : Int) (v5 : (List (List Int))) : ∀ (f : Nat) (c8 : Int) (c9 : Int) (r : (Int) ⊕ (Bool)), law09_Few_2 x0 x1 c3 v5 f c8 c9 = some r → SemN e_law09_Few ⟨none, false⟩ (pc cb_law09_Few [1, 1, 1, 0, 1, 0, 0, 1, 1, 0, 0, 1, 1, 1, 0, 0]) f ⟨Fr 37 [(1, .v (.int .i64 x1)), (5, .v (.int .i64 c8)), (13, .sl 1 (x0.map (cdL 1 (cdL 1 cdI)).enc)), (14, .v (.int .i64 (x0.length : Int))), (15, .v (.int .i64 c3)), (22, .sl 1 (v5.map (cdL 1 cdI).enc)), (23, .v (.int .i64 (v5.length : Int))), (24, .v (.int .i64 c9))], []⟩ (fun e s => match r with
  | (.inl w) => e = (.exit 2) ∧ Wk e_law09_Few s ⟨Fr 37 [(1, .v (.int .i64 x1)), (5, .v (.int .i64 w)), (13, .sl 1 (x0.map (cdL 1 (cdL 1 cdI)).enc)), (14, .v (.int .i64 (x0.length : Int))), (15, .v (.int .i64 c3))], []⟩
  | (.inr w) => e = .ret ∧ Wk e_law09_Few s ⟨Fr 37 [(4, .v (.bool w))], []⟩) := by
  intro f
  induction f with
  | zero => intro c8 c9 r h; cases h
  | succ f ih0 =>
    intro c8 c9 r h
    have ih := fun (c8 : Int) (c9 : Int) => ih0 c8 c9 r
    unfold law09_Few_2 at h
    refine SemN.succ ?_
    refine Sem.seq ?_
    refine Sem.runS (s1 := ⟨Fr 37 [(1, .v (.int .i64 x1)), (5, .v (.int .i64 c8)), (13, .sl 1 (x0.map (cdL 1 (cdL 1 cdI)).enc)), (14, .v (.int .i64 (x0.length : Int))), (15, .v (.int .i64 c3)), (22, .sl 1 (v5.map (cdL 1 cdI).enc)), (23, .v (.int .i64 (v5.length : Int))), (24, .v (.int .i64 c9)), (25, .v (.bool (decide (c9 < (v5.length : Int)))))], []⟩) ?_ ?_
    · refine RunS.segF (n := 37) e_law09_Few_ok 1 [(1, .v (.int .i64 x1)), (5, .v (.int .i64 c8)), (13, .sl 1 (x0.map (cdL 1 (cdL 1 cdI)).enc)), (14, .v (.int .i64 (x0.length : Int))), (15, .v (.int .i64 c3)), (22, .sl 1 (v5.map (cdL 1 cdI).enc)), (23, .v (.int .i64 (v5.length : Int))), (24, .v (.int .i64 c9)), (25, .v (.bool (decide (c9 < (v5.length : Int)))))] [] (by kernel_rfl) ?_
      exact RunS.done rfl Wk.f1
    refine Sem.seq ?_
    refine Sem.cond (b := (decide (c9 < (v5.length : Int)))) (by kernel_rfl) (fun hb10 => ?_) (fun hb10 => ?_)
    · rw [if_pos hb10] at h
      refine Sem.skip ?_
      refine Sem.seq ?_
      refine Sem.block ?_
      refine Sem.seq ?_
      obtain ⟨v11, hv11, h⟩ := Option.bind_eq_some_iff.1 h
      refine Sem.runS (s1 := ⟨Fr 37 [(1, .v (.int .i64 x1)), (5, .v (.int .i64 c8)), (9, .sl 1 (v11.map cdI.enc)), (13, .sl 1 (x0.map (cdL 1 (cdL 1 cdI)).enc)), (14, .v (.int .i64 (x0.length : Int))), (15, .v (.int .i64 c3)), (22, .sl 1 (v5.map (cdL 1 cdI).enc)), (23, .v (.int .i64 (v5.length : Int))), (24, .v (.int .i64 c9))], []⟩) ?_ ?_
      · refine RunS.one e_law09_Few_ok 0 rfl (op_q (wantedA_none rfl) rfl (q_indexAddr (a := .sl 1 (v5.map (cdL 1 cdI).enc)) (b := .v (.int .i64 c9)) (by kernel_rfl) (by kernel_rfl) (ix_sl (e := (cdL 1 cdI).enc) (el := 29) (k := 1) (ki := .i64) (by kernel_rfl) (by kernel_rfl) hv11))) ?_
        refine RunS.segF (n := 37) e_law09_Few_ok 2 [(1, .v (.int .i64 x1)), (5, .v (.int .i64 c8)), (9, .sl 1 (v11.map cdI.enc)), (13, .sl 1 (x0.map (cdL 1 (cdL 1 cdI)).enc)), (14, .v (.int .i64 (x0.length : Int))), (15, .v (.int .i64 c3)), (22, .sl 1 (v5.map (cdL 1 cdI).enc)), (23, .v (.int .i64 (v5.length : Int))), (24, .v (.int .i64 c9))] [] (by kernel_rfl) ?_
        exact RunS.done rfl Wk.f1
      refine Sem.seq ?_
      refine Sem.runS (s1 := ⟨Fr 37 [(1, .v (.int .i64 x1)), (5, .v (.int .i64 (wr .i64 (c8 + (v11.length : Int))))), (13, .sl 1 (x0.map (cdL 1 (cdL 1 cdI)).enc)), (14, .v (.int .i64 (x0.length : Int))), (15, .v (.int .i64 c3)), (22, .sl 1 (v5.map (cdL 1 cdI).enc)), (23, .v (.int .i64 (v5.length : Int))), (24, .v (.int .i64 c9))], []⟩) ?_ ?_
      · refine RunS.segF (n := 37) e_law09_Few_ok 2 [(1, .v (.int .i64 x1)), (13, .sl 1 (x0.map (cdL 1 (cdL 1 cdI)).enc)), (14, .v (.int .i64 (x0.length : Int))), (15, .v (.int .i64 c3)), (22, .sl 1 (v5.map (cdL 1 cdI).enc)), (23, .v (.int .i64 (v5.length : Int))), (24, .v (.int .i64 c9)), (28, .v (.int .i64 c8)), (29, .sl 1 (v11.map cdI.enc))] [] (by kernel_rfl) ?_
        refine RunS.one e_law09_Few_ok 0 rfl (op_q (wantedA_none rfl) rfl (q_len (a := .sl 1 (v11.map cdI.enc)) (by kernel_rfl) (len_sl (el := 3) (by kernel_rfl)))) ?_
        refine RunS.segF (n := 37) e_law09_Few_ok 2 [(1, .v (.int .i64 x1)), (5, .v (.int .i64 (wr .i64 (c8 + (v11.length : Int))))), (13, .sl 1 (x0.map (cdL 1 (cdL 1 cdI)).enc)), (14, .v (.int .i64 (x0.length : Int))), (15, .v (.int .i64 c3)), (22, .sl 1 (v5.map (cdL 1 cdI).enc)), (23, .v (.int .i64 (v5.length : Int))), (24, .v (.int .i64 c9))] [] (by kernel_rfl) ?_
        exact RunS.done rfl Wk.f1
      refine Sem.seq ?_
      refine Sem.runS (s1 := ⟨Fr 37 [(1, .v (.int .i64 x1)), (5, .v (.int .i64 (wr .i64 (c8 + (v11.length : Int))))), (13, .sl 1 (x0.map (cdL 1 (cdL 1 cdI)).enc)), (14, .v (.int .i64 (x0.length : Int))), (15, .v (.int .i64 c3)), (22, .sl 1 (v5.map (cdL 1 cdI).enc)), (23, .v (.int .i64 (v5.length : Int))), (24, .v (.int .i64 c9)), (34, .v (.bool (decide ((wr .i64 (c8 + (v11.length : Int))) > x1))))], []⟩) ?_ ?_
      · refine RunS.segF (n := 37) e_law09_Few_ok 3 [(1, .v (.int .i64 x1)), (5, .v (.int .i64 (wr .i64 (c8 + (v11.length : Int))))), (13, .sl 1 (x0.map (cdL 1 (cdL 1 cdI)).enc)), (14, .v (.int .i64 (x0.length : Int))), (15, .v (.int .i64 c3)), (22, .sl 1 (v5.map (cdL 1 cdI).enc)), (23, .v (.int .i64 (v5.length : Int))), (24, .v (.int .i64 c9)), (34, .v (.bool (decide ((wr .i64 (c8 + (v11.length : Int))) > x1))))] [] (by kernel_rfl) ?_
        exact RunS.done rfl Wk.f1
      refine Sem.cond (b := (decide ((wr .i64 (c8 + (v11.length : Int))) > x1))) (by kernel_rfl) (fun hb12 => ?_) (fun hb12 => ?_)
      · rw [if_pos hb12] at h
        refine Sem.seq ?_
        refine Sem.runS (s1 := ⟨Fr 37 [(4, .v (.bool false))], []⟩) ?_ ?_
        · refine RunS.segF (n := 37) e_law09_Few_ok 1 [(4, .v (.bool false))] [] (by kernel_rfl) ?_
          exact RunS.done rfl Wk.f1
        refine Sem.ret ?_
        have hq := Option.some.inj h; subst hq
        exact ⟨rfl, Wk.f1⟩
      · rw [if_f hb12] at h
        refine Sem.skip ?_
        refine Sem.runS (s1 := ⟨Fr 37 [(1, .v (.int .i64 x1)), (5, .v (.int .i64 (wr .i64 (c8 + (v11.length : Int))))), (13, .sl 1 (x0.map (cdL 1 (cdL 1 cdI)).enc)), (14, .v (.int .i64 (x0.length : Int))), (15, .v (.int .i64 c3)), (22, .sl 1 (v5.map (cdL 1 cdI).enc)), (23, .v (.int .i64 (v5.length : Int))), (24, .v (.int .i64 (wr .i64 (c9 + 1))))], []⟩) ?_ ?_
        · refine RunS.segF (n := 37) e_law09_Few_ok 2 [(1, .v (.int .i64 x1)), (5, .v (.int .i64 (wr .i64 (c8 + (v11.length : Int))))), (13, .sl 1 (x0.map (cdL 1 (cdL 1 cdI)).enc)), (14, .v (.int .i64 (x0.length : Int))), (15, .v (.int .i64 c3)), (22, .sl 1 (v5.map (cdL 1 cdI).enc)), (23, .v (.int .i64 (v5.length : Int))), (24, .v (.int .i64 (wr .i64 (c9 + 1))))] [] (by kernel_rfl) ?_
          exact RunS.done rfl Wk.f1
        exact SemN.wk (s1 := ⟨Fr 37 [(1, .v (.int .i64 x1)), (5, .v (.int .i64 (wr .i64 (c8 + (v11.length : Int))))), (13, .sl 1 (x0.map (cdL 1 (cdL 1 cdI)).enc)), (14, .v (.int .i64 (x0.length : Int))), (15, .v (.int .i64 c3)), (22, .sl 1 (v5.map (cdL 1 cdI).enc)), (23, .v (.int .i64 (v5.length : Int))), (24, .v (.int .i64 (wr .i64 (c9 + 1))))], []⟩) Wk.f1 (ih (wr .i64 (c8 + (v11.length : Int))) (wr .i64 (c9 + 1)) h)
    · rw [if_f hb10] at h
      refine Sem.exit ?_
      have hq := Option.some.inj h; subst hq
      exact ⟨rfl, Wk.f1⟩
set_option maxHeartbeats 4000000 in
set_option maxRecDepth 100000 in
theorem law09_Few_1_ok (x0 : (List (List (List Int)))) (x1 : Int) : ∀ (f : Nat) (c2 : Int) (c3 : Int) (r : (Unit) ⊕ (Bool)), law09_Few_1 x0 x1 f c2 c3 = some r → SemN e_law09_Few ⟨none, false⟩ (pc cb_law09_Few [1, 1, 1, 0, 1, 0, 0]) f ⟨Fr 37 [(1, .v (.int .i64 x1)), (5, .v (.int .i64 c2)), (13, .sl 1 (x0.map (cdL 1 (cdL 1 cdI)).enc)), (14, .v (.int .i64 (x0.length : Int))), (15, .v (.int .i64 c3))], []⟩ (fun e s => match r with
  | (.inl w) => e = (.exit 0) ∧ Wk e_law09_Few s ⟨Fr 37 [], []⟩
  | (.inr w) => e = .ret ∧ Wk e_law09_Few s ⟨Fr 37 [(4, .v (.bool w))], []⟩) := by
  intro f
  induction f with
  | zero => intro c2 c3 r h; cases h
  | succ f ih0 =>
    intro c2 c3 r h
    have ih := fun (c2 : Int) (c3 : Int) => ih0 c2 c3 r
    unfold law09_Few_1 at h
    refine SemN.succ ?_
    refine Sem.seq ?_
    refine Sem.runS (s1 := ⟨Fr 37 [(1, .v (.int .i64 x1)), (5, .v (.int .i64 c2)), (13, .sl 1 (x0.map (cdL 1 (cdL 1 cdI)).enc)), (14, .v (.int .i64 (x0.length : Int))), (15, .v (.int .i64 c3)), (16, .v (.bool (decide (c3 < (x0.length : Int)))))], []⟩) ?_ ?_
    · refine RunS.segF (n := 37) e_law09_Few_ok 1 [(1, .v (.int .i64 x1)), (5, .v (.int .i64 c2)), (13, .sl 1 (x0.map (cdL 1 (cdL 1 cdI)).enc)), (14, .v (.int .i64 (x0.length : Int))), (15, .v (.int .i64 c3)), (16, .v (.bool (decide (c3 < (x0.length : Int)))))] [] (by kernel_rfl) ?_
      exact RunS.done rfl Wk.f1
    refine Sem.seq ?_
    refine Sem.cond (b := (decide (c3 < (x0.length : Int)))) (by kernel_rfl) (fun hb4 => ?_) (fun hb4 => ?_)
    · rw [if_pos hb4] at h
      refine Sem.skip ?_
      refine Sem.seq ?_
      refine Sem.block ?_
      refine Sem.seq ?_
      obtain ⟨v5, hv5, h⟩ := Option.bind_eq_some_iff.1 h
      refine Sem.runS (s1 := ⟨Fr 37 [(1, .v (.int .i64 x1)), (5, .v (.int .i64 c2)), (7, .sl 1 (v5.map (cdL 1 cdI).enc)), (13, .sl 1 (x0.map (cdL 1 (cdL 1 cdI)).enc)), (14, .v (.int .i64 (x0.length : Int))), (15, .v (.int .i64 c3))], []⟩) ?_ ?_
      · refine RunS.one e_law09_Few_ok 0 rfl (op_q (wantedA_none rfl) rfl (q_indexAddr (a := .sl 1 (x0.map (cdL 1 (cdL 1 cdI)).enc)) (b := .v (.int .i64 c3)) (by kernel_rfl) (by kernel_rfl) (ix_sl (e := (cdL 1 (cdL 1 cdI)).enc) (el := 36) (k := 1) (ki := .i64) (by kernel_rfl) (by kernel_rfl) hv5))) ?_
        refine RunS.segF (n := 37) e_law09_Few_ok 2 [(1, .v (.int .i64 x1)), (5, .v (.int .i64 c2)), (7, .sl 1 (v5.map (cdL 1 cdI).enc)), (13, .sl 1 (x0.map (cdL 1 (cdL 1 cdI)).enc)), (14, .v (.int .i64 (x0.length : Int))), (15, .v (.int .i64 c3))] [] (by kernel_rfl) ?_
        exact RunS.done rfl Wk.f1
      refine Sem.seq ?_
      refine Sem.seq ?_
      refine Sem.runS (s1 := ⟨Fr 37 [(1, .v (.int .i64 x1)), (5, .v (.int .i64 c2)), (7, .sl 1 (v5.map (cdL 1 cdI).enc)), (13, .sl 1 (x0.map (cdL 1 (cdL 1 cdI)).enc)), (14, .v (.int .i64 (x0.length : Int))), (15, .v (.int .i64 c3)), (21, .v (.bool (decide ((v5.length : Int) > 12))))], []⟩) ?_ ?_
      · refine RunS.segF (n := 37) e_law09_Few_ok 1 [(1, .v (.int .i64 x1)), (5, .v (.int .i64 c2)), (7, .sl 1 (v5.map (cdL 1 cdI).enc)), (13, .sl 1 (x0.map (cdL 1 (cdL 1 cdI)).enc)), (14, .v (.int .i64 (x0.length : Int))), (15, .v (.int .i64 c3)), (19, .sl 1 (v5.map (cdL 1 cdI).enc))] [] (by kernel_rfl) ?_
        refine RunS.one e_law09_Few_ok 0 rfl (op_q (wantedA_none rfl) rfl (q_len (a := .sl 1 (v5.map (cdL 1 cdI).enc)) (by kernel_rfl) (len_sl (el := 29) (by kernel_rfl)))) ?_
        refine RunS.segF (n := 37) e_law09_Few_ok 1 [(1, .v (.int .i64 x1)), (5, .v (.int .i64 c2)), (7, .sl 1 (v5.map (cdL 1 cdI).enc)), (13, .sl 1 (x0.map (cdL 1 (cdL 1 cdI)).enc)), (14, .v (.int .i64 (x0.length : Int))), (15, .v (.int .i64 c3)), (21, .v (.bool (decide ((v5.length : Int) > 12))))] [] (by kernel_rfl) ?_
        exact RunS.done rfl Wk.f1
      refine Sem.cond (b := (decide ((v5.length : Int) > 12))) (by kernel_rfl) (fun hb6 => ?_) (fun hb6 => ?_)
      · rw [if_pos hb6] at h
        refine Sem.seq ?_
        refine Sem.runS (s1 := ⟨Fr 37 [(4, .v (.bool false))], []⟩) ?_ ?_
        · refine RunS.segF (n := 37) e_law09_Few_ok 1 [(4, .v (.bool false))] [] (by kernel_rfl) ?_
          exact RunS.done rfl Wk.f1
        refine Sem.ret ?_
        have hq := Option.some.inj h; subst hq
        exact ⟨rfl, Wk.f1⟩
      · rw [if_f hb6] at h
        refine Sem.skip ?_
        refine Sem.seq ?_
        refine Sem.runS (s1 := ⟨Fr 37 [(1, .v (.int .i64 x1)), (5, .v (.int .i64 c2)), (13, .sl 1 (x0.map (cdL 1 (cdL 1 cdI)).enc)), (14, .v (.int .i64 (x0.length : Int))), (15, .v (.int .i64 c3)), (22, .sl 1 (v5.map (cdL 1 cdI).enc)), (23, .v (.int .i64 (v5.length : Int))), (24, .v (.int .i64 0))], []⟩) ?_ ?_
        · refine RunS.segF (n := 37) e_law09_Few_ok 1 [(1, .v (.int .i64 x1)), (5, .v (.int .i64 c2)), (13, .sl 1 (x0.map (cdL 1 (cdL 1 cdI)).enc)), (14, .v (.int .i64 (x0.length : Int))), (15, .v (.int .i64 c3)), (22, .sl 1 (v5.map (cdL 1 cdI).enc))] [] (by kernel_rfl) ?_
          refine RunS.one e_law09_Few_ok 0 rfl (op_q (wantedA_none rfl) rfl (q_len (a := .sl 1 (v5.map (cdL 1 cdI).enc)) (by kernel_rfl) (len_sl (el := 29) (by kernel_rfl)))) ?_
          refine RunS.segF (n := 37) e_law09_Few_ok 1 [(1, .v (.int .i64 x1)), (5, .v (.int .i64 c2)), (13, .sl 1 (x0.map (cdL 1 (cdL 1 cdI)).enc)), (14, .v (.int .i64 (x0.length : Int))), (15, .v (.int .i64 c3)), (22, .sl 1 (v5.map (cdL 1 cdI).enc)), (23, .v (.int .i64 (v5.length : Int))), (24, .v (.int .i64 0))] [] (by kernel_rfl) ?_
          exact RunS.done rfl Wk.f1
        refine Sem.block ?_
        obtain ⟨r15, hr15, h⟩ := Option.bind_eq_some_iff.1 h
        refine Sem.loop (n := 100000) ?_
        rcases r15 with w16 | w17
        · try dsimp only at h
          refine Sem.cutN (SemN.wk (s1 := ⟨Fr 37 [(1, .v (.int .i64 x1)), (5, .v (.int .i64 c2)), (13, .sl 1 (x0.map (cdL 1 (cdL 1 cdI)).enc)), (14, .v (.int .i64 (x0.length : Int))), (15, .v (.int .i64 c3)), (22, .sl 1 (v5.map (cdL 1 cdI).enc)), (23, .v (.int .i64 (v5.length : Int))), (24, .v (.int .i64 0))], []⟩) Wk.f1 (law09_Few_2_ok x0 x1 c3 v5 _ c2 0 _ hr15)) ?_
          refine Sem.runS (s1 := ⟨Fr 37 [(1, .v (.int .i64 x1)), (5, .v (.int .i64 w16)), (13, .sl 1 (x0.map (cdL 1 (cdL 1 cdI)).enc)), (14, .v (.int .i64 (x0.length : Int))), (15, .v (.int .i64 (wr .i64 (c3 + 1))))], []⟩) ?_ ?_
          · refine RunS.segF (n := 37) e_law09_Few_ok 2 [(1, .v (.int .i64 x1)), (5, .v (.int .i64 w16)), (13, .sl 1 (x0.map (cdL 1 (cdL 1 cdI)).enc)), (14, .v (.int .i64 (x0.length : Int))), (15, .v (.int .i64 (wr .i64 (c3 + 1))))] [] (by kernel_rfl) ?_
            exact RunS.done rfl Wk.f1
          exact SemN.wk (s1 := ⟨Fr 37 [(1, .v (.int .i64 x1)), (5, .v (.int .i64 w16)), (13, .sl 1 (x0.map (cdL 1 (cdL 1 cdI)).enc)), (14, .v (.int .i64 (x0.length : Int))), (15, .v (.int .i64 (wr .i64 (c3 + 1))))], []⟩) Wk.f1 (ih w16 (wr .i64 (c3 + 1)) h)
        · try dsimp only at h
          refine Sem.cutN (SemN.wk (s1 := ⟨Fr 37 [(1, .v (.int .i64 x1)), (5, .v (.int .i64 c2)), (13, .sl 1 (x0.map (cdL 1 (cdL 1 cdI)).enc)), (14, .v (.int .i64 (x0.length : Int))), (15, .v (.int .i64 c3)), (22, .sl 1 (v5.map (cdL 1 cdI).enc)), (23, .v (.int .i64 (v5.length : Int))), (24, .v (.int .i64 0))], []⟩) Wk.f1 (law09_Few_2_ok x0 x1 c3 v5 _ c2 0 _ hr15)) ?_
          have hq := Option.some.inj h; subst hq
          exact ⟨rfl, Wk.f1⟩
    · rw [if_f hb4] at h
      refine Sem.exit ?_
      have hq := Option.some.inj h; subst hq
      exact ⟨rfl, Wk.f1⟩
set_option maxHeartbeats 4000000 in
set_option maxRecDepth 100000 in
theorem law09_Few_sem (x0 : (List (List (List Int)))) (x1 : Int) (r : Bool) (h : law09_Few x0 x1 = some r) : Sem e_law09_Few ⟨none, false⟩ cb_law09_Few ⟨Fr 37 (pairs0 0 (cs_law09_Few.enc (x0, x1, ()))), []⟩ fun e s' => (e = .normal ∨ e = .ret) ∧ ∃ xs, resA e_law09_Few.P s'.fr s'.hp Tryd.f5.results.toList = some xs ∧ retA xs = er_law09_Few r := by
  unfold law09_Few at h
  refine Sem.wkQ (Sem.wk (s1 := ⟨Fr 37 [(0, .sl 1 (x0.map (cdL 1 (cdL 1 cdI)).enc)), (1, .v (.int .i64 x1))], []⟩) Wk.f1 ?_)
  refine Sem.seq ?_
  refine Sem.runS (s1 := ⟨Fr 37 [(0, .sl 1 (x0.map (cdL 1 (cdL 1 cdI)).enc)), (1, .v (.int .i64 x1))], []⟩) ?_ ?_
  · refine RunS.segF (n := 37) e_law09_Few_ok 1 [(0, .sl 1 (x0.map (cdL 1 (cdL 1 cdI)).enc)), (1, .v (.int .i64 x1))] [] (by kernel_rfl) ?_
    exact RunS.done rfl Wk.f1
  refine Sem.seq ?_
  refine Sem.seq ?_
  refine Sem.runS (s1 := ⟨Fr 37 [(0, .sl 1 (x0.map (cdL 1 (cdL 1 cdI)).enc)), (1, .v (.int .i64 x1)), (12, .v (.bool (decide ((x0.length : Int) > 70))))], []⟩) ?_ ?_
  · refine RunS.segF (n := 37) e_law09_Few_ok 1 [(0, .sl 1 (x0.map (cdL 1 (cdL 1 cdI)).enc)), (1, .v (.int .i64 x1)), (10, .sl 1 (x0.map (cdL 1 (cdL 1 cdI)).enc))] [] (by kernel_rfl) ?_
    refine RunS.one e_law09_Few_ok 0 rfl (op_q (wantedA_none rfl) rfl (q_len (a := .sl 1 (x0.map (cdL 1 (cdL 1 cdI)).enc)) (by kernel_rfl) (len_sl (el := 36) (by kernel_rfl)))) ?_
    refine RunS.segF (n := 37) e_law09_Few_ok 1 [(0, .sl 1 (x0.map (cdL 1 (cdL 1 cdI)).enc)), (1, .v (.int .i64 x1)), (12, .v (.bool (decide ((x0.length : Int) > 70))))] [] (by kernel_rfl) ?_
    exact RunS.done rfl Wk.f1
  refine Sem.cond (b := (decide ((x0.length : Int) > 70))) (by kernel_rfl) (fun hb1 => ?_) (fun hb1 => ?_)
  · rw [if_pos hb1] at h
    refine Sem.seq ?_
    refine Sem.runS (s1 := ⟨Fr 37 [(4, .v (.bool false))], []⟩) ?_ ?_
    · refine RunS.segF (n := 37) e_law09_Few_ok 1 [(4, .v (.bool false))] [] (by kernel_rfl) ?_
      exact RunS.done rfl Wk.f1
    refine Sem.ret ?_
    have hq := Option.some.inj h; subst hq
    exact ⟨⟨Fr 37 [(4, .v (.bool false))], []⟩, Wk.f1, .inr rfl, [.v (.bool false)], (by kernel_rfl), (by kernel_rfl)⟩
  · rw [if_f hb1] at h
    refine Sem.skip ?_
    refine Sem.seq ?_
    refine Sem.runS (s1 := ⟨Fr 37 [(0, .sl 1 (x0.map (cdL 1 (cdL 1 cdI)).enc)), (1, .v (.int .i64 x1)), (5, .v (.int .i64 0))], []⟩) ?_ ?_
    · refine RunS.segF (n := 37) e_law09_Few_ok 1 [(0, .sl 1 (x0.map (cdL 1 (cdL 1 cdI)).enc)), (1, .v (.int .i64 x1)), (5, .v (.int .i64 0))] [] (by kernel_rfl) ?_
      exact RunS.done rfl Wk.f1
    refine Sem.seq ?_
    refine Sem.seq ?_
    refine Sem.runS (s1 := ⟨Fr 37 [(1, .v (.int .i64 x1)), (5, .v (.int .i64 0)), (13, .sl 1 (x0.map (cdL 1 (cdL 1 cdI)).enc)), (14, .v (.int .i64 (x0.length : Int))), (15, .v (.int .i64 0))], []⟩) ?_ ?_
    · refine RunS.segF (n := 37) e_law09_Few_ok 1 [(1, .v (.int .i64 x1)), (5, .v (.int .i64 0)), (13, .sl 1 (x0.map (cdL 1 (cdL 1 cdI)).enc))] [] (by kernel_rfl) ?_
      refine RunS.one e_law09_Few_ok 0 rfl (op_q (wantedA_none rfl) rfl (q_len (a := .sl 1 (x0.map (cdL 1 (cdL 1 cdI)).enc)) (by kernel_rfl) (len_sl (el := 36) (by kernel_rfl)))) ?_
      refine RunS.segF (n := 37) e_law09_Few_ok 1 [(1, .v (.int .i64 x1)), (5, .v (.int .i64 0)), (13, .sl 1 (x0.map (cdL 1 (cdL 1 cdI)).enc)), (14, .v (.int .i64 (x0.length : Int))), (15, .v (.int .i64 0))] [] (by kernel_rfl) ?_
      exact RunS.done rfl Wk.f1
    refine Sem.block ?_
    obtain ⟨r18, hr18, h⟩ := Option.bind_eq_some_iff.1 h
    refine Sem.loop (n := 100000) ?_
    rcases r18 with w19 | w20
    · try dsimp only at h
      refine Sem.cutN (SemN.wk (s1 := ⟨Fr 37 [(1, .v (.int .i64 x1)), (5, .v (.int .i64 0)), (13, .sl 1 (x0.map (cdL 1 (cdL 1 cdI)).enc)), (14, .v (.int .i64 (x0.length : Int))), (15, .v (.int .i64 0))], []⟩) Wk.f1 (law09_Few_1_ok x0 x1 _ 0 0 _ hr18)) ?_
      refine Sem.seq ?_
      refine Sem.runS (s1 := ⟨Fr 37 [(4, .v (.bool true))], []⟩) ?_ ?_
      · refine RunS.segF (n := 37) e_law09_Few_ok 1 [(4, .v (.bool true))] [] (by kernel_rfl) ?_
        exact RunS.done rfl Wk.f1
      refine Sem.ret ?_
      have hq := Option.some.inj h; subst hq
      exact ⟨⟨Fr 37 [(4, .v (.bool true))], []⟩, Wk.f1, .inr rfl, [.v (.bool true)], (by kernel_rfl), (by kernel_rfl)⟩
    · try dsimp only at h
      refine Sem.cutN (SemN.wk (s1 := ⟨Fr 37 [(1, .v (.int .i64 x1)), (5, .v (.int .i64 0)), (13, .sl 1 (x0.map (cdL 1 (cdL 1 cdI)).enc)), (14, .v (.int .i64 (x0.length : Int))), (15, .v (.int .i64 0))], []⟩) Wk.f1 (law09_Few_1_ok x0 x1 _ 0 0 _ hr18)) ?_
      have hq := Option.some.inj h; subst hq
      exact ⟨⟨Fr 37 [(4, .v (.bool w20))], []⟩, Wk.f1, .inr rfl, [.v (.bool w20)], (by kernel_rfl), (by kernel_rfl)⟩
def t_law09_Few : List AV → Option AV := told cs_law09_Few (fun a => law09_Few a.1 a.2.1) er_law09_Few
theorem x_law09_Few : XOk 5 t_law09_Few := by
  refine EnvOk.x (E := e_law09_Few) (contract_ok e_law09_Few_ok (fn := Tryd.f5) (c := cb_law09_Few) ?h1 ?h2 ⟨Tryd.call5⟩ cs_law09_Few (fun a => law09_Few a.1 a.2.1) er_law09_Few (fun a => (by show 2 ≤ 37; decide)) ?h3 ?h4) rfl rfl
  case h1 => kernel_rfl
  case h2 => kernel_rfl
  case h3 => intro b; kernel_rfl
  case h4 => exact fun a b h => law09_Few_sem a.1 a.2.1 b h
def law09_awake : Option Bool := some true
def cs_law09_awake : Cs Unit := csN
def er_law09_awake (b : Bool) : AV := cdB.enc b
def t_law09_awake : List AV → Option AV := told cs_law09_awake (fun _ => law09_awake) er_law09_awake
theorem x_law09_awake : XOk 7 t_law09_awake := by
  refine ⟨⟨Tryd.call7⟩, fun xs x h w Z us _ _ hv => ?_⟩
  obtain ⟨a, ha, h⟩ := Option.bind_eq_some_iff.1 h
  obtain ⟨b, hb, rfl⟩ := Option.map_eq_some_iff.1 h
  have hb := Option.some.inj hb
  subst hb
  have : xs = [] := by
    cases xs with
    | nil => rfl
    | cons x xs => cases ha
  subst this
  have : us = [] := by have := hv.len; simpa using this
  subst this
  exact Ret.mono (awake_ret w) fun v w' h => ⟨h.2, by rw [h.1]; exact vr_true⟩
/-- slices.Clone: nil for nil, else a new slice. -/
noncomputable def cb_clone : Code := codeOf Tryd.f45
def own1 (xs : List Int) : Option Blk := some ⟨1, 3, xs.map cdI.enc, false⟩
set_option maxRecDepth 100000 in
theorem clone_sem (xs : List Int) (hc : capOk 8 xs.length = true) : Sem E0 ⟨none, false⟩ cb_clone ⟨Fr 8 [(0, .sl 1 (xs.map cdI.enc))], []⟩ fun e s' => (e = .normal ∨ e = .ret) ∧ ((xs = [] ∧ s' = ⟨Fr 8 [(2, .e0)], []⟩) ∨ s' = ⟨Fr 8 [(2, .rf 0 0 xs.length xs.length)], [own1 xs]⟩) := by
  refine Sem.seq ?_
  refine Sem.runS (s1 := ⟨Fr 8 [(0, .sl 1 (xs.map cdI.enc)), (2, .e0)], []⟩) ?_ ?_
  · refine RunS.seg E0_ok 1 (s1 := ⟨Fr 8 [(0, .sl 1 (xs.map cdI.enc)), (2, .e0)], []⟩) (by kernel_rfl) ?_
    exact RunS.done rfl Wk.f1
  refine Sem.seq ?_
  refine Sem.seq (Sem.runQ ?_)
  refine RunS.seg E0_ok 1 (s1 := ⟨Fr 8 [(0, .sl 1 (xs.map cdI.enc)), (2, .e0), (3, .sl 1 (xs.map cdI.enc))], []⟩) (by kernel_rfl) ?_
  refine RunS.isnil (k := 1) (el := 3) (es := xs.map cdI.enc) rfl (wantedA_none rfl) (by kernel_rfl) (by kernel_rfl) fun b hb => RunS.done rfl ?_
  have hb : b = true → xs = [] := fun h => List.map_eq_nil_iff.1 (hb h)
  refine Sem.cond (b := b) (by kernel_rfl) (fun hb1 => ?_) (fun hb1 => ?_)
  · have hx := hb hb1
    refine Sem.wkQ ?_
    refine Sem.seq (Sem.runS (s1 := ⟨Fr 8 [(2, .e0)], []⟩) ?_ (Sem.ret ?_))
    · refine RunS.seg E0_ok 1 (s1 := ⟨Fr 8 [(0, .sl 1 (xs.map cdI.enc)), (2, .e0), (3, .sl 1 (xs.map cdI.enc)), (4, .v (.bool b))], []⟩) (by kernel_rfl) ?_
      exact RunS.done rfl Wk.f1
    · exact ⟨_, Wk.refl, .inr rfl, .inl ⟨hx, rfl⟩⟩
  · refine Sem.skip ?_
    refine Sem.wkQ (Sem.seq (Sem.runQ ?_))
    refine RunS.seg E0_ok 2 (s1 := ⟨Fr 8 [(0, .sl 1 (xs.map cdI.enc)), (2, .e0), (3, .sl 1 (xs.map cdI.enc)), (4, .v (.bool b)), (5, .rf 0 0 0 0), (6, .sl 1 (xs.map cdI.enc))], [own1 []]⟩) (by kernel_rfl) ?_
    cases xs with
    | nil =>
      refine RunS.one E0_ok 0 rfl (op_w (x := .rf 0 0 0 0) (hp' := [own1 []]) (wantedA_none rfl) rfl (by kernel_rfl) (by kernel_rfl) (by kernel_rfl)) ?_
      refine RunS.seg E0_ok 1 (s1 := ⟨Fr 8 [(0, .sl 1 []), (2, .rf 0 0 0 0), (3, .sl 1 []), (4, .v (.bool b)), (5, .rf 0 0 0 0), (6, .sl 1 []), (7, .rf 0 0 0 0)], [own1 []]⟩) (by kernel_rfl) (RunS.done rfl (Sem.ret ?_))
      exact ⟨⟨Fr 8 [(2, .rf 0 0 0 0)], [own1 []]⟩, Wk.f1, .inr rfl, .inr rfl⟩
    | cons y ys =>
      refine RunS.one E0_ok 0 rfl (op_w (wantedA_none rfl) rfl (by kernel_rfl) (by kernel_rfl) (w_append (a := .rf 0 0 0 0) (b := .sl 1 ((y :: ys).map cdI.enc)) (by kernel_rfl) (by kernel_rfl) (append_R (c := cdI) (xs := []) (vs := y :: ys) (k := 1) (bytes := 8) (el := 3) (by kernel_rfl) (by kernel_rfl) elems_sl (List.cons_ne_nil _ _) (by kernel_rfl) (by rw [List.length_nil, Nat.zero_add]; exact hc)))) ?_
      refine RunS.seg E0_ok 1 (s1 := ⟨Fr 8 [(0, .sl 1 ((y :: ys).map cdI.enc)), (2, .rf 1 0 (y :: ys).length (y :: ys).length), (3, .sl 1 ((y :: ys).map cdI.enc)), (4, .v (.bool b)), (5, .rf 0 0 0 0), (6, .sl 1 ((y :: ys).map cdI.enc)), (7, .rf 1 0 (y :: ys).length (y :: ys).length)], [none, own1 (y :: ys)]⟩) (by kernel_rfl) (RunS.done rfl (Sem.ret ?_))
      exact ⟨⟨Fr 8 [(2, .rf 0 0 (y :: ys).length (y :: ys).length)], [own1 (y :: ys)]⟩, Wk.s3 [1] ⟨⟨_, rfl, bu_own⟩, trivial⟩ ⟨lv, trivial⟩, .inr rfl, .inr rfl⟩
/-- .. as it is told to those who only read. -/
def slices_Clone_L_int (xs : List Int) : Option (List Int) := if capOk 8 xs.length = true then some xs else none
def cs_slices_Clone_L_int : Cs (List Int × Unit) := csC (cdL 1 cdI) csN
def er_slices_Clone_L_int (r : List Int) : AV := (cdL 1 cdI).enc r
def t_slices_Clone_L_int : List AV → Option AV := told cs_slices_Clone_L_int (fun a => slices_Clone_L_int a.1) er_slices_Clone_L_int
theorem x_slices_Clone_L_int : XOk 45 t_slices_Clone_L_int := by
  refine EnvOk.x (E := E0) (contract_ok E0_ok (fn := Tryd.f45) (c := cb_clone) ?h1 ?h2 ⟨Tryd.call45⟩ cs_slices_Clone_L_int (fun a => slices_Clone_L_int a.1) er_slices_Clone_L_int (fun a => (by show 1 ≤ 8; decide)) ?h3 ?h4) rfl rfl
  case h1 => kernel_rfl
  case h2 => kernel_rfl
  case h3 => intro b; kernel_rfl
  case h4 =>
    intro a r h
    have h : slices_Clone_L_int a.1 = some r := h
    unfold slices_Clone_L_int at h
    by_cases hc : capOk 8 a.1.length = true
    · rw [if_pos hc] at h
      injection h with h
      subst h
      refine Sem.wkQ (Sem.mono (clone_sem a.1 hc) ?_)
      rintro e s' ⟨he, ⟨hx, rfl⟩ | rfl⟩
      · rw [hx]
        exact ⟨⟨Fr 8 [(2, .sl 1 [])], [none]⟩, Wk.trans (s1 := ⟨Fr 8 [(2, .e0)], [none]⟩) Wk.none (Wk.frzG 0 (.inl (by kernel_rfl)) ⟨.inl rfl, trivial⟩ ⟨⟨.e0, (by kernel_rfl), fz_e0⟩, trivial⟩), he, [.sl 1 []], by kernel_rfl, by kernel_rfl⟩
      · exact ⟨⟨Fr 8 [(2, .sl 1 (a.1.map cdI.enc))], [none]⟩, Wk.frzG 0 (.inl (by kernel_rfl)) ⟨.inl rfl, trivial⟩ ⟨⟨.rf 0 0 a.1.length a.1.length, (by kernel_rfl), fz_rlT (c := cdI) (xs := a.1) (t := 3) (by kernel_rfl)⟩, trivial⟩, he, [.sl 1 (a.1.map cdI.enc)], by kernel_rfl, by kernel_rfl⟩
    · rw [if_neg hc] at h; cases h
def flatO : AV → Bool
  | .v _ => true
  | .st _ => true
  | .e0 => true
  | .rf _ _ _ _ => true
  | .pt _ _ _ => true
  | _ => false
/-- Flat, but for names of own blocks. -/
def ownFlat : AV → Bool
  | .ag cs => cs.all flatO
  | .tp cs => cs.all flatO
  | x => flatO x
def sh1 (n : Nat) : AV → AV
  | .rf b lo k m => .rf (n + b) lo k m
  | .pt b i o => .pt (n + b) i o
  | x => x
def shN (n : Nat) : AV → AV
  | .ag cs => .ag (cs.map (sh1 n))
  | .tp cs => .tp (cs.map (sh1 n))
  | x => sh1 n x
def flatH : Hp → Bool
  | [] => true
  | none :: r => flatH r
  | some B :: r => !B.fz && B.es.all isFlat && flatH r
theorem flatH_at : ∀ {h : Hp}, flatH h = true → ∀ (b : Nat) (B : Blk), h[b]? = some (some B) → B.fz = false ∧ B.es.all isFlat = true
  | [], _, b, B, hb => by simp at hb
  | none :: r, h, 0, B, hb => by simp at hb
  | none :: r, h, b + 1, B, hb => flatH_at (h := r) h b B (by simpa using hb)
  | some C :: r, h, 0, B, hb => by
    simp at hb; subst hb
    simp only [flatH, Bool.and_eq_true, Bool.not_eq_true'] at h
    exact h.1
  | some C :: r, h, b + 1, B, hb => by
    simp only [flatH, Bool.and_eq_true] at h
    exact flatH_at h.2 b B (by simpa using hb)
section
variable {w w' : World} {Z Z' : Nat → Prop} {R R' : List RI} {h h' : Hp}
theorem sh1_vr {n : Nat} (hn : R.length = n) {x : AV} {u : Value} (hf : flatO x = true) (hv : VR w Z R' x u) : VR w Z' (R ++ R') (sh1 n x) u := by
  have hg : ∀ {b : Nat} {r : RI}, R'[b]? = some r → (R ++ R')[n + b]? = some r := fun {b r} hr => by
    rw [List.getElem?_append_right (by omega), ← hn, Nat.add_sub_cancel_left]; exact hr
  cases hv with
  | v h => exact .v h
  | st h hn => exact .st h hn
  | e0 => exact .e0
  | rf hr h0 h1 h2 hm => exact .rf (hg hr) h0 h1 h2 hm
  | pt hr => exact .pt (hg hr)
  | _ => simp [flatO] at hf
theorem shN_vr {n : Nat} (hn : R.length = n) {x : AV} {u : Value} (hf : ownFlat x = true) (hv : VR w Z R' x u) : VR w Z' (R ++ R') (shN n x) u := by
  have hl : ∀ {cs : List AV} {us : List Value}, cs.all flatO = true → (∀ (i : Nat) (x : AV) (u : Value), cs[i]? = some x → us[i]? = some u → VR w Z R' x u) → ∀ (i : Nat) (x : AV) (u : Value), (cs.map (sh1 n))[i]? = some x → us[i]? = some u → VR w Z' (R ++ R') x u := fun {cs us} hc hx i x u hi hu => by
    rw [List.getElem?_map] at hi
    obtain ⟨y, hy, rfl⟩ := Option.map_eq_some_iff.1 hi
    exact sh1_vr hn (List.all_eq_true.1 hc y (List.mem_of_getElem? hy)) (hx i y u hy hu)
  cases hv with
  | ag h1 h2 hx => exact .ag (by simpa using h1) h2 (hl hf hx)
  | tp h1 hx => exact .tp (by simpa using h1) (hl hf hx)
  | v h => exact sh1_vr (Z := Z) hn rfl (.v h)
  | st h hn' => exact sh1_vr (Z := Z) hn rfl (.st h hn')
  | e0 => exact sh1_vr (Z := Z) hn rfl .e0
  | rf hr h0 h1 h2 hm => exact sh1_vr (Z := Z) hn rfl (.rf hr h0 h1 h2 hm)
  | pt hr => exact sh1_vr (Z := Z) hn rfl (.pt hr)
  | _ => simp [ownFlat, flatO] at hf
/-- What a call made stands beside what was there. -/
theorem HR.join {Z0 : Nat → Prop} (hh : HR w Z R h) (hz : ∀ c, Z0 c → c < w.heap.size) (st : StepW w Z0 [] [] w' Z' R' h') (hh' : HR w' Z' R' h') (hf : flatH h' = true) : HR w' Z (R ++ R') (h ++ h') ∧ Step w Z R h w' Z (R ++ R') (h ++ h') := by
  have hold : ∀ c, c < w.heap.size → w'.heap[c]? = w.heap[c]? := fun c hc => st.block c hc fun ⟨b, B, r, hb, _⟩ => by simp at hb
  have hr : ∀ (i : Nat) (x : RI), R[i]? = some x → (R ++ R')[i]? = some x := fun i x hx => by
    rw [List.getElem?_append_left (List.getElem?_eq_some_iff.1 hx).1]; exact hx
  have hnew : ∀ c, own R' h' c → w.heap.size ≤ c := fun c hc => (st.own_ c hc).resolve_left fun ⟨b, B, r, hb, _⟩ => by simp at hb
  have hlen := hh.len
  -- where a block lies
  have hat : ∀ (b : Nat) (B : Blk), (h ++ h')[b]? = some (some B) → (b < h.length ∧ h[b]? = some (some B) ∧ (R ++ R')[b]? = R[b]?) ∨ (∃ j, b = h.length + j ∧ h'[j]? = some (some B) ∧ (R ++ R')[b]? = R'[j]?) := fun b B hb => by
    by_cases hlt : b < h.length
    · rw [List.getElem?_append_left hlt] at hb
      exact .inl ⟨hlt, hb, List.getElem?_append_left (by omega)⟩
    · rw [List.getElem?_append_right (by omega)] at hb
      exact .inr ⟨b - h.length, by omega, hb, by rw [List.getElem?_append_right (by omega), hlen]⟩
  have hRb : ∀ (b : Nat) (B : Blk) (r : RI), h[b]? = some (some B) → R[b]? = some r → r.c < w.heap.size := fun b B r h1 h2 => hh.rltL h1 h2
  have hRn : ∀ (j : Nat) (B : Blk) (r : RI), h'[j]? = some (some B) → R'[j]? = some r → w.heap.size ≤ r.c := fun j B r h1 h2 => hnew _ ⟨j, B, r, h1, (flatH_at hf j B h1).1, h2, rfl⟩
  refine ⟨⟨by simp [hh.len, hh'.len], fun b B hB => ?_, fun b b' B B' r r' hB hfz hB' hfz' h1 h2 e => ?_, fun c hc => Nat.lt_of_lt_of_le (hh.zlt c hc) st.size⟩, ⟨st.os, st.tape, st.output, st.size, fun c hc _ => hold c hc, fun c hc => ?_, fun _ h => h, fun _ h => .inl h, hr⟩⟩
  · rcases hat b B hB with ⟨hlt, hb, hRR⟩ | ⟨j, rfl, hb, hRR⟩
    · obtain ⟨r, arr, us, g1, g2, g3, g4, g5, g6, g7, g8, g9, g10⟩ := hh.blk b B hb
      exact ⟨r, arr, us, hRR.trans g1, g2, (hold _ (hRb b B r hb g1)).trans g3, g4, g5, g6, g7, g8, ⟨g9.len, fun i x u hx hu => (g9.at_ i x u hx hu).mono (fun c hc => hold c (hh.zlt c hc)) (fun _ h => h) hr⟩, g10⟩
    · obtain ⟨r, arr, us, g1, g2, g3, g4, g5, g6, g7, g8, g9, g10⟩ := hh'.blk j B hb
      obtain ⟨f1, f2⟩ := flatH_at hf j B hb
      exact ⟨r, arr, us, hRR.trans g1, g2, g3, g4, g5, g6, (fun h => by rw [f1] at h; cases h), (fun _ hz' => by have := hh.zlt _ hz'; have := hRn j B r hb g1; omega), ⟨g9.len, fun i x u hx hu => flat_vr (by have := List.all_eq_true.1 f2 x (List.mem_of_getElem? hx); cases x <;> first | exact this | (simp [isFlat] at this)) (g9.at_ i x u hx hu)⟩, g10⟩
  · rcases hat b B hB with ⟨_, hb, hRR⟩ | ⟨j, rfl, hb, hRR⟩ <;> rcases hat b' B' hB' with ⟨_, hb', hRR'⟩ | ⟨j', rfl, hb', hRR'⟩ <;> rw [hRR] at h1 <;> rw [hRR'] at h2
    · exact hh.inj b b' B B' r r' hb hfz hb' hfz' h1 h2 e
    · have := hRb b B r hb h1; have := hRn j' B' r' hb' h2; omega
    · have := hRb b' B' r' hb' h2; have := hRn j B r hb h1; omega
    · rw [hh'.inj j j' B B' r r' hb hfz hb' hfz' h1 h2 e]
  · obtain ⟨b, B, r, h1, h2, h3, rfl⟩ := hc
    rcases hat b B h1 with ⟨_, hb, hRR⟩ | ⟨j, rfl, hb, hRR⟩ <;> rw [hRR] at h3
    · exact .inl ⟨b, B, r, hb, h2, h3, rfl⟩
    · exact .inr (hRn j B r hb h3)
end
/-- What a call may hand back, and the blocks that come with it. -/
def SOk (f : FuncId) (ys : List AV) (Out : AV → Hp → Prop) : Prop := Callable E0.P f ∧ ∀ w Z us, (∀ c, Z c → c < w.heap.size) → GI E0 w Z → VRs w Z [] ys us → Ret E0.P f us.toArray w fun v w' => ∃ Z' R' x h', Out x h' ∧ HR w' Z' R' h' ∧ VR w' Z' R' x v ∧ StepW w Z [] [] w' Z' R' h'
theorem sok_of_sem {e : Env} (hE : EnvOk e) (hP : e.P = E0.P) (hG : e.G = E0.G) {f : FuncId} {fn : Func} {c : Code} (hf : e.fn f = some fn) (hc : fn.body = some c) (hcall : Callable E0.P f) {ys : List AV} (hle : ys.length ≤ fn.ntmps) {Out : AV → Hp → Prop}
    (sem : Sem e ⟨none, false⟩ c ⟨Fr fn.ntmps (pairs0 0 ys), []⟩ fun x s' => (x = .normal ∨ x = .ret) ∧ ∃ xs, resA e.P s'.fr s'.hp fn.results.toList = some xs ∧ Out (retA xs) s'.hp) : SOk f ys Out := by
  obtain ⟨P, fns, G, X, I⟩ := e
  simp only at hP hG
  subst hP hG
  refine ⟨hcall, fun w Z us hz hg hv => ?_⟩
  have hh : HR w Z [] [] := ⟨rfl, fun b B hB => by simp at hB, fun b b' B B' r r' hB => by simp at hB, hz⟩
  refine Ret.mono (ret_sem hE hf hc hle (Q := fun _ s => ∃ x, s.fr = [some x] ∧ Out x s.hp) (Sem.mono (Sem.wk (Wk.enter hle) sem) fun e s' hs => ?_) hh hv hg) fun v w' hS => ?_
  · obtain ⟨h1, xs, h2, h3⟩ := hs
    exact ⟨h1, xs, h2, _, rfl, h3⟩
  · obtain ⟨Z', R', x, h', ⟨y, hy, hO⟩, k1, k2, st⟩ := hS
    have hy : x = y := by simpa using hy
    subst hy
    exact ⟨Z', R', x, h', hO, k1, k2, st⟩
def viewF (h : Hp) : AV → Option AV
  | .fn f [] [] => some (.fn f [] [])
  | x => view2 h x
def viewsF (h : Hp) : List AV → Option (List AV)
  | [] => some []
  | x :: l => match viewF h x, viewsF h l with
    | some y, some r => some (y :: r)
    | _, _ => none
theorem viewsF_vr {w : World} {Z : Nat → Prop} {R : List RI} {h : Hp} (hh : HR w Z R h) : ∀ {xs ys : List AV} {us : List Value}, VRs w Z R xs us → viewsF h xs = some ys → VRs w (fun c => Z c ∨ own R h c) [] ys us
  | [], ys, us, hv, e => by
    injection e with e; subst e
    have : us = [] := by have := hv.len; simpa using this
    subst this
    exact .nil
  | x :: xs, ys, us, hv, e => by
    obtain ⟨u, us', rfl, hu, hn⟩ := hv.head
    unfold viewsF at e
    split at e
    · next y r h1 h2 =>
      injection e with e; subst e
      refine .cons ?_ (viewsF_vr hh hn h2)
      unfold viewF at h1
      split at h1
      · injection h1 with h1; subst h1
        cases hu with
        | fn hl hl' hx hy =>
          rename_i u1 u2
          have e1 : u1 = [] := by simpa using hl
          have e2 : u2 = [] := by simpa using hl'
          subst e1 e2
          exact .fn (us := []) (vs := []) rfl rfl (fun i x u hx => by simp at hx) (fun i x u hx => by simp at hx)
      · exact view2_vr hh hu h1
    · cases e
section
variable {E : Env} {ops : Array Oper} {rest rest' : List Oper} {K : St → Prop} {n : Nat} {l : List (Nat × AV)} {hp : Hp} {xs ys : List AV} {Out : AV → Hp → Prop}
theorem RunS.callS (hP : E.P = E0.P) (hG : E.G = E0.G) {d : Nat} {f : Operand} {args : Array Operand} {tys : Array TypeId} {ty : TypeId} {pos : String} {af : Array Edge} {g : Option (Nat × Bool)} {fid : FuncId} (hs : SOk fid ys Out) (hr : rest = ⟨some d, .call ⟨.value f, args, tys⟩, ty, pos, af, g⟩ :: rest') (hw : wantedA ops (Fr n l) ⟨some d, .call ⟨.value f, args, tys⟩, ty, pos, af, g⟩ = some true)
    (hf : opA E (Fr n l) f = some (.fn fid [] [])) (ha : opds (opA E (Fr n l)) args.toList = some xs) (hv : viewsF hp xs = some ys) (hfl : ∀ x h', Out x h' → ownFlat x = true ∧ flatH h' = true) (k : ∀ x h', Out x h' → RunS E ops rest' ⟨Fr n ((d, shN hp.length x) :: l), hp ++ h'⟩ K) : RunS E ops rest ⟨Fr n l, hp⟩ K := by
  obtain ⟨P, fns, G, X, I⟩ := E
  simp only at hP hG
  subst hP hG
  subst hr
  intro base Q a w Z R sr q
  have hρ : ∀ o x, opA ⟨E0.P, fns, E0.G, X, I⟩ (Fr n l) o = some x → VR w Z R x (a.eval o) := fun o x e => opA_vr sr o x e
  unfold LwL
  rw [if_pos (wantedA_eq sr hw)]
  have hva : a.eval f = .func (.func fid) ([] : List Value).toArray ([] : List Value).toArray := by
    have := hρ _ _ hf
    generalize a.eval f = vf at this
    cases this with
    | fn hl hl' hx hy =>
      rename_i u1 u2
      have e1 : u1 = [] := by simpa using hl
      have e2 : u2 = [] := by simpa using hl'
      subst e1 e2; rfl
  unfold Lw
  rw [run_call (uf := []) (uc := []) rfl hva rfl hs.1 w]
  simp only [List.nil_append, List.append_nil]
  have hz1 : ∀ c, (Z c ∨ own R hp c) → c < w.heap.size := fun c hc => hc.elim (sr.hh.zlt c) (fun ⟨b, B, r, h1, _, h3, h4⟩ => h4 ▸ sr.hh.rltL h1 h3)
  have hg1 : GI E0 w (fun c => Z c ∨ own R hp c) := fun q y hy => (sr.gl q y hy).mono (fun _ _ => rfl) (fun _ h => .inl h) (fun _ _ h => h)
  refine Ret.mono (hs.2 w _ _ hz1 hg1 (viewsF_vr sr.hh (opds_vr hρ ha) hv)) fun v w' hS => ?_
  obtain ⟨Z', R', x, h', hO, h1, h2, st⟩ := hS
  obtain ⟨f1, f2⟩ := hfl x h' hO
  obtain ⟨j1, j2⟩ := sr.hh.join hz1 st h1 f2
  have hlen : R.length = hp.length := sr.hh.len
  have hx := shN_vr (w := w') (Z' := Z) (R := R) hlen f1 h2
  have sr' := (sr.step j1 j2).put (d := some d) hx
  rw [show putA (⟨Fr n l, hp⟩ : St).fr (some d) (shN hp.length x) = Fr n ((d, shN hp.length x) :: l) from putA_Fr n l d _] at sr'
  exact k x h' hO base Q _ w' Z (R ++ R') sr' fun s' a' w'' Z'' R'' hK sr'' st' => q s' a' w'' Z'' R'' hK sr'' (j2.w.trans st')
end
def OutClone (xs : List Int) (x : AV) (h' : Hp) : Prop := (xs = [] ∧ x = .e0 ∧ h' = []) ∨ (x = .rf 0 0 xs.length xs.length ∧ h' = [own1 xs])
theorem s_clone (xs : List Int) (hc : capOk 8 xs.length = true) : SOk 45 [.sl 1 (xs.map cdI.enc)] (OutClone xs) := by
  refine sok_of_sem E0_ok rfl rfl (fn := Tryd.f45) (c := cb_clone) (by kernel_rfl) (by kernel_rfl) ⟨Tryd.call45⟩ (by show 1 ≤ 8; decide) (Sem.mono (clone_sem xs hc) ?_)
  rintro e s' ⟨he, ⟨hx, rfl⟩ | rfl⟩
  · exact ⟨he, [.e0], by kernel_rfl, .inl ⟨hx, rfl, rfl⟩⟩
  · exact ⟨he, [.rf 0 0 xs.length xs.length], by kernel_rfl, .inr ⟨rfl, rfl⟩⟩
theorem flat_ints (xs : List Int) : (xs.map cdI.enc).all isFlat = true := by
  rw [List.all_eq_true]
  intro x hx
  obtain ⟨y, _, rfl⟩ := List.mem_map.1 hx
  rfl
theorem clone_flat {xs : List Int} : ∀ x h', OutClone xs x h' → ownFlat x = true ∧ flatH h' = true := by
  rintro x h' (⟨_, rfl, rfl⟩ | ⟨rfl, rfl⟩)
  · exact ⟨rfl, rfl⟩
  · refine ⟨rfl, ?_⟩
    show (!false && (xs.map cdI.enc).all isFlat && true) = true
    rw [flat_ints]; rfl
/- trestle/trestlelaw09.Copy -/
noncomputable def e_law09_Copy : Env := E0
theorem e_law09_Copy_ok : EnvOk e_law09_Copy := E0_ok
noncomputable def cb_law09_Copy : Code := codeOf Tryd.f13
def law09_Copy_2 (x0 : (List (List (List Int)))) (c1 : (List (List (List Int)))) (c2 : Int) (v4 : (List (List Int))) : Nat → (List (List Int)) → Int → Option (((List (List Int))))
  | 0, _, _ => none
  | f + 1, c5, c6 =>
    if (decide (c6 < (v4.length : Int))) = true then
    (idx v4 c6).bind fun v8 =>
    if (capOk 8 v8.length) = true then
    if (capOk 8 (v8.length + 1)) = true then
    if (cutOk 0 (v8.length : Int) (v8 ++ [(-9)]).length) = true then
    if (capOk 24 (c5.length + 1)) = true then
    law09_Copy_2 x0 c1 c2 v4 f (c5 ++ [((v8 ++ [(-9)]).take ((v8.length : Int).toNat))]) (wr .i64 (c6 + 1))
    else none
    else none
    else none
    else none
    else
    some c5
def law09_Copy_1 (x0 : (List (List (List Int)))) : Nat → (List (List (List Int))) → Int → Option (((List (List (List Int)))))
  | 0, _, _ => none
  | f + 1, c1, c2 =>
    if (decide (c2 < (x0.length : Int))) = true then
    (idx x0 c2).bind fun v4 =>
    (law09_Copy_2 x0 c1 c2 v4 100000 [] 0).bind fun r17 =>
    if (capOk 24 (c1.length + 1)) = true then
    law09_Copy_1 x0 f (c1 ++ [r17]) (wr .i64 (c2 + 1))
    else none
    else
    some c1
def law09_Copy (x0 : (List (List (List Int)))) : Option ((List (List (List Int)))) :=
  (law09_Copy_1 x0 100000 [] 0).bind fun r20 =>
  some r20
def cs_law09_Copy : Cs ((List (List (List Int))) × Unit) := (csC (cdL 1 (cdL 1 (cdL 1 cdI))) csN)
def er_law09_Copy (r : (List (List (List Int)))) : AV := (cdL 1 (cdL 1 (cdL 1 cdI))).enc r
set_option maxHeartbeats 4000000 in
set_option maxRecDepth 100000 in
theorem law09_Copy_2_ok (x0 : (List (List (List Int)))) (c1 : (List (List (List Int)))) (c2 : Int) (v4 : (List (List Int))) : ∀ (f : Nat) (c5 : (List (List Int))) (c6 : Int) (r : ((List (List Int)))), law09_Copy_2 x0 c1 c2 v4 f c5 c6 = some r → SemN e_law09_Copy ⟨none, false⟩ (pc cb_law09_Copy [1, 1, 0, 1, 0, 0, 1, 1, 0, 0, 1, 1, 0, 1, 0, 0]) f ⟨Fr 38 [(3, hd 0 (c1.map (cdL 1 (cdL 1 cdI)).enc)), (6, hd 1 (c5.map (cdL 1 cdI).enc)), (9, .sl 1 (x0.map (cdL 1 (cdL 1 cdI)).enc)), (10, .v (.int .i64 (x0.length : Int))), (11, .v (.int .i64 c2)), (15, .sl 1 (v4.map (cdL 1 cdI).enc)), (16, .v (.int .i64 (v4.length : Int))), (17, .v (.int .i64 c6))], [mk 1 36 (c1.map (cdL 1 (cdL 1 cdI)).enc), mk 1 29 (c5.map (cdL 1 cdI).enc)]⟩ (fun e s => e = (.exit 2) ∧ Wk e_law09_Copy s ⟨Fr 38 [(3, hd 0 (c1.map (cdL 1 (cdL 1 cdI)).enc)), (6, hd 1 (r.map (cdL 1 cdI).enc)), (9, .sl 1 (x0.map (cdL 1 (cdL 1 cdI)).enc)), (10, .v (.int .i64 (x0.length : Int))), (11, .v (.int .i64 c2))], [mk 1 36 (c1.map (cdL 1 (cdL 1 cdI)).enc), mk 1 29 (r.map (cdL 1 cdI).enc)]⟩) := by
  intro f
  induction f with
  | zero => intro c5 c6 r h; cases h
  | succ f ih0 =>
    intro c5 c6 r h
    have ih := fun (c5 : (List (List Int))) (c6 : Int) => ih0 c5 c6 r
    unfold law09_Copy_2 at h
    refine SemN.succ ?_
    refine Sem.seq ?_
    refine Sem.runS (s1 := ⟨Fr 38 [(3, hd 0 (c1.map (cdL 1 (cdL 1 cdI)).enc)), (6, hd 1 (c5.map (cdL 1 cdI).enc)), (9, .sl 1 (x0.map (cdL 1 (cdL 1 cdI)).enc)), (10, .v (.int .i64 (x0.length : Int))), (11, .v (.int .i64 c2)), (15, .sl 1 (v4.map (cdL 1 cdI).enc)), (16, .v (.int .i64 (v4.length : Int))), (17, .v (.int .i64 c6)), (18, .v (.bool (decide (c6 < (v4.length : Int)))))], [mk 1 36 (c1.map (cdL 1 (cdL 1 cdI)).enc), mk 1 29 (c5.map (cdL 1 cdI).enc)]⟩) ?_ ?_
    · refine RunS.segF (n := 38) e_law09_Copy_ok 1 [(3, hd 0 (c1.map (cdL 1 (cdL 1 cdI)).enc)), (6, hd 1 (c5.map (cdL 1 cdI).enc)), (9, .sl 1 (x0.map (cdL 1 (cdL 1 cdI)).enc)), (10, .v (.int .i64 (x0.length : Int))), (11, .v (.int .i64 c2)), (15, .sl 1 (v4.map (cdL 1 cdI).enc)), (16, .v (.int .i64 (v4.length : Int))), (17, .v (.int .i64 c6)), (18, .v (.bool (decide (c6 < (v4.length : Int)))))] [mk 1 36 (c1.map (cdL 1 (cdL 1 cdI)).enc), mk 1 29 (c5.map (cdL 1 cdI).enc)] (by kernel_rfl) ?_
      exact RunS.done rfl (Wk.s3 [0, 1] ⟨⟨_, rfl, bu_mk⟩, ⟨_, rfl, bu_mk⟩, trivial⟩ ⟨lu_hd (b' := 0) (by kernel_rfl) (by kernel_rfl), lu_hd (b' := 1) (by kernel_rfl) (by kernel_rfl), lv, lv, lv, lv, lv, lv, lv, trivial⟩)
    refine Sem.seq ?_
    refine Sem.cond (b := (decide (c6 < (v4.length : Int)))) (by kernel_rfl) (fun hb7 => ?_) (fun hb7 => ?_)
    · rw [if_pos hb7] at h
      refine Sem.skip ?_
      refine Sem.seq ?_
      refine Sem.block ?_
      refine Sem.seq ?_
      obtain ⟨v8, hv8, h⟩ := Option.bind_eq_some_iff.1 h
      refine Sem.runS (s1 := ⟨Fr 38 [(3, hd 0 (c1.map (cdL 1 (cdL 1 cdI)).enc)), (6, hd 1 (c5.map (cdL 1 cdI).enc)), (8, .sl 1 (v8.map cdI.enc)), (9, .sl 1 (x0.map (cdL 1 (cdL 1 cdI)).enc)), (10, .v (.int .i64 (x0.length : Int))), (11, .v (.int .i64 c2)), (15, .sl 1 (v4.map (cdL 1 cdI).enc)), (16, .v (.int .i64 (v4.length : Int))), (17, .v (.int .i64 c6))], [mk 1 36 (c1.map (cdL 1 (cdL 1 cdI)).enc), mk 1 29 (c5.map (cdL 1 cdI).enc)]⟩) ?_ ?_
      · refine RunS.one e_law09_Copy_ok 0 rfl (op_q (wantedA_none rfl) rfl (q_indexAddr (a := .sl 1 (v4.map (cdL 1 cdI).enc)) (b := .v (.int .i64 c6)) (by kernel_rfl) (by kernel_rfl) (ix_sl (e := (cdL 1 cdI).enc) (el := 29) (k := 1) (ki := .i64) (by kernel_rfl) (by kernel_rfl) hv8))) ?_
        refine RunS.segF (n := 38) e_law09_Copy_ok 2 [(3, hd 0 (c1.map (cdL 1 (cdL 1 cdI)).enc)), (6, hd 1 (c5.map (cdL 1 cdI).enc)), (8, .sl 1 (v8.map cdI.enc)), (9, .sl 1 (x0.map (cdL 1 (cdL 1 cdI)).enc)), (10, .v (.int .i64 (x0.length : Int))), (11, .v (.int .i64 c2)), (15, .sl 1 (v4.map (cdL 1 cdI).enc)), (16, .v (.int .i64 (v4.length : Int))), (17, .v (.int .i64 c6))] [mk 1 36 (c1.map (cdL 1 (cdL 1 cdI)).enc), mk 1 29 (c5.map (cdL 1 cdI).enc)] (by kernel_rfl) ?_
        exact RunS.done rfl (Wk.s3 [0, 1] ⟨⟨_, rfl, bu_mk⟩, ⟨_, rfl, bu_mk⟩, trivial⟩ ⟨lu_hd (b' := 0) (by kernel_rfl) (by kernel_rfl), lu_hd (b' := 1) (by kernel_rfl) (by kernel_rfl), lv, lv, lv, lv, lv, lv, lv, trivial⟩)
      by_cases hk9 : (capOk 8 v8.length) = true
      case neg => rw [if_neg hk9] at h; cases h
      rw [if_pos hk9] at h
      by_cases hk10 : (capOk 8 (v8.length + 1)) = true
      case neg => rw [if_neg hk10] at h; cases h
      rw [if_pos hk10] at h
      by_cases hk11 : (cutOk 0 (v8.length : Int) (v8 ++ [(-9)]).length) = true
      case neg => rw [if_neg hk11] at h; cases h
      rw [if_pos hk11] at h
      by_cases hk12 : (capOk 24 (c5.length + 1)) = true
      case neg => rw [if_neg hk12] at h; cases h
      rw [if_pos hk12] at h
      refine Sem.runS (s1 := ⟨Fr 38 [(3, hd 0 (c1.map (cdL 1 (cdL 1 cdI)).enc)), (6, hd 1 ((c5 ++ [((v8 ++ [(-9)]).take ((v8.length : Int).toNat))]).map (cdL 1 cdI).enc)), (9, .sl 1 (x0.map (cdL 1 (cdL 1 cdI)).enc)), (10, .v (.int .i64 (x0.length : Int))), (11, .v (.int .i64 c2)), (15, .sl 1 (v4.map (cdL 1 cdI).enc)), (16, .v (.int .i64 (v4.length : Int))), (17, .v (.int .i64 c6))], [mk 1 36 (c1.map (cdL 1 (cdL 1 cdI)).enc), mk 1 29 ((c5 ++ [((v8 ++ [(-9)]).take ((v8.length : Int).toNat))]).map (cdL 1 cdI).enc)]⟩) ?_ ?_
      · refine RunS.segF (n := 38) e_law09_Copy_ok 2 [(3, hd 0 (c1.map (cdL 1 (cdL 1 cdI)).enc)), (8, .sl 1 (v8.map cdI.enc)), (9, .sl 1 (x0.map (cdL 1 (cdL 1 cdI)).enc)), (10, .v (.int .i64 (x0.length : Int))), (11, .v (.int .i64 c2)), (15, .sl 1 (v4.map (cdL 1 cdI).enc)), (16, .v (.int .i64 (v4.length : Int))), (17, .v (.int .i64 c6)), (21, hd 1 (c5.map (cdL 1 cdI).enc)), (22, .sl 1 (v8.map cdI.enc))] [mk 1 36 (c1.map (cdL 1 (cdL 1 cdI)).enc), mk 1 29 (c5.map (cdL 1 cdI).enc)] (by kernel_rfl) ?_
        refine RunS.callS rfl rfl (s_clone v8 hk9) rfl (wantedA_none rfl) (by kernel_rfl) (xs := [.sl 1 (v8.map cdI.enc)]) (by kernel_rfl) (by kernel_rfl) clone_flat ?_
        rintro x h' (⟨hx, rfl, rfl⟩ | ⟨rfl, rfl⟩)
        · subst hx
          refine RunS.segF (n := 38) e_law09_Copy_ok 1 [(3, hd 0 (c1.map (cdL 1 (cdL 1 cdI)).enc)), (8, .sl 1 (([] : List Int).map cdI.enc)), (9, .sl 1 (x0.map (cdL 1 (cdL 1 cdI)).enc)), (10, .v (.int .i64 (x0.length : Int))), (11, .v (.int .i64 c2)), (15, .sl 1 (v4.map (cdL 1 cdI).enc)), (16, .v (.int .i64 (v4.length : Int))), (17, .v (.int .i64 c6)), (21, hd 1 (c5.map (cdL 1 cdI).enc)), (23, .e0), (24, hd 2 ([(-9)].map cdI.enc))] [mk 1 36 (c1.map (cdL 1 (cdL 1 cdI)).enc), mk 1 29 (c5.map (cdL 1 cdI).enc), mk 1 3 ([(-9)].map cdI.enc)] (by kernel_rfl) ?_
          refine RunS.one e_law09_Copy_ok 0 rfl (op_w (wantedA_none rfl) rfl (by kernel_rfl) (by kernel_rfl) (w_append (a := .e0) (b := hd 2 ([(-9)].map cdI.enc)) (by kernel_rfl) (by kernel_rfl) (append_E (c := cdI) (vs := [(-9)]) (k := 1) (bytes := 8) (el := 3) (by kernel_rfl) (by kernel_rfl) (elems_hd (t := 3) (by kernel_rfl)) (List.cons_ne_nil _ _) (by kernel_rfl)))) ?_
          refine RunS.segF (n := 38) e_law09_Copy_ok 1 [(3, hd 0 (c1.map (cdL 1 (cdL 1 cdI)).enc)), (9, .sl 1 (x0.map (cdL 1 (cdL 1 cdI)).enc)), (10, .v (.int .i64 (x0.length : Int))), (11, .v (.int .i64 c2)), (15, .sl 1 (v4.map (cdL 1 cdI).enc)), (16, .v (.int .i64 (v4.length : Int))), (17, .v (.int .i64 c6)), (21, hd 1 (c5.map (cdL 1 cdI).enc)), (25, hd 3 ([(-9)].map cdI.enc)), (26, .sl 1 (([] : List Int).map cdI.enc))] [mk 1 36 (c1.map (cdL 1 (cdL 1 cdI)).enc), mk 1 29 (c5.map (cdL 1 cdI).enc), mk 1 3 ([(-9)].map cdI.enc), mk 1 3 ([(-9)].map cdI.enc)] (by kernel_rfl) ?_
          refine RunS.one e_law09_Copy_ok 0 rfl (op_q (wantedA_none rfl) rfl (q_len (a := .sl 1 (([] : List Int).map cdI.enc)) (by kernel_rfl) (len_sl (el := 3) (by kernel_rfl)))) ?_
          refine RunS.segF (n := 38) e_law09_Copy_ok 2 [(3, hd 0 (c1.map (cdL 1 (cdL 1 cdI)).enc)), (9, .sl 1 (x0.map (cdL 1 (cdL 1 cdI)).enc)), (10, .v (.int .i64 (x0.length : Int))), (11, .v (.int .i64 c2)), (15, .sl 1 (v4.map (cdL 1 cdI).enc)), (16, .v (.int .i64 (v4.length : Int))), (17, .v (.int .i64 c6)), (21, hd 1 (c5.map (cdL 1 cdI).enc)), (29, .rf 4 0 1 1)] [mk 1 36 (c1.map (cdL 1 (cdL 1 cdI)).enc), mk 1 29 (c5.map (cdL 1 cdI).enc), mk 1 3 ([(-9)].map cdI.enc), mk 1 3 ([(-9)].map cdI.enc), some ⟨1, 29, [.rf 3 0 0 1], false⟩] (by kernel_rfl) ?_
          refine RunS.wk (s1 := ⟨Fr 38 [(3, hd 0 (c1.map (cdL 1 (cdL 1 cdI)).enc)), (9, .sl 1 (x0.map (cdL 1 (cdL 1 cdI)).enc)), (10, .v (.int .i64 (x0.length : Int))), (11, .v (.int .i64 c2)), (15, .sl 1 (v4.map (cdL 1 cdI).enc)), (16, .v (.int .i64 (v4.length : Int))), (17, .v (.int .i64 c6)), (21, hd 1 (c5.map (cdL 1 cdI).enc)), (29, hd 4 ([([(-9)].take 0)].map (cdL 1 cdI).enc))], [mk 1 36 (c1.map (cdL 1 (cdL 1 cdI)).enc), mk 1 29 (c5.map (cdL 1 cdI).enc), mk 1 3 ([(-9)].map cdI.enc), none, mk 1 29 ([([(-9)].take 0)].map (cdL 1 cdI).enc)]⟩) (Wk.frzG 3 (.inl (by kernel_rfl)) ⟨.inr (.inl rfl), .inr (.inl rfl), .inr (.inl rfl), .inl rfl, .inr (.inr ⟨_, _, _, _, rfl, rfl, ⟨fz_rfT (c := cdI) (xs := [(-9)]) (t := 3) (by kernel_rfl) (by decide), trivial⟩⟩), trivial⟩ ⟨⟨hd 0 (c1.map (cdL 1 (cdL 1 cdI)).enc), (by kernel_rfl), .inl rfl⟩, ⟨.sl 1 (x0.map (cdL 1 (cdL 1 cdI)).enc), (by kernel_rfl), .inl rfl⟩, ⟨.v (.int .i64 (x0.length : Int)), (by kernel_rfl), .inl rfl⟩, ⟨.v (.int .i64 c2), (by kernel_rfl), .inl rfl⟩, ⟨.sl 1 (v4.map (cdL 1 cdI).enc), (by kernel_rfl), .inl rfl⟩, ⟨.v (.int .i64 (v4.length : Int)), (by kernel_rfl), .inl rfl⟩, ⟨.v (.int .i64 c6), (by kernel_rfl), .inl rfl⟩, ⟨hd 1 (c5.map (cdL 1 cdI).enc), (by kernel_rfl), .inl rfl⟩, ⟨.rf 4 0 1 1, (by kernel_rfl), .inl rfl⟩, trivial⟩) ?_
          have hk15 := hk12
          refine RunS.one e_law09_Copy_ok 0 rfl (op_w (wantedA_none rfl) rfl (by kernel_rfl) (by kernel_rfl) (w_append (a := hd 1 (c5.map (cdL 1 cdI).enc)) (b := hd 4 ([([(-9)].take 0)].map (cdL 1 cdI).enc)) (by kernel_rfl) (by kernel_rfl) (append_B (c := (cdL 1 cdI)) (xs := c5) (vs := [([(-9)].take 0)]) (k := 1) (bytes := 24) (el := 29) (by kernel_rfl) (by kernel_rfl) (elems_hd (t := 29) (by kernel_rfl)) (List.cons_ne_nil _ _) (by kernel_rfl) hk15))) ?_
          refine RunS.segF (n := 38) e_law09_Copy_ok 1 [(3, hd 0 (c1.map (cdL 1 (cdL 1 cdI)).enc)), (6, hd 5 ((c5 ++ [([(-9)].take 0)]).map (cdL 1 cdI).enc)), (9, .sl 1 (x0.map (cdL 1 (cdL 1 cdI)).enc)), (10, .v (.int .i64 (x0.length : Int))), (11, .v (.int .i64 c2)), (15, .sl 1 (v4.map (cdL 1 cdI).enc)), (16, .v (.int .i64 (v4.length : Int))), (17, .v (.int .i64 c6))] [mk 1 36 (c1.map (cdL 1 (cdL 1 cdI)).enc), none, mk 1 3 ([(-9)].map cdI.enc), none, mk 1 29 ([([(-9)].take 0)].map (cdL 1 cdI).enc), mk 1 29 ((c5 ++ [([(-9)].take 0)]).map (cdL 1 cdI).enc)] (by kernel_rfl) ?_
          exact RunS.done rfl (Wk.s3 [0, 5] ⟨⟨_, rfl, bu_mk⟩, ⟨_, rfl, bu_mk⟩, trivial⟩ ⟨lu_hd (b' := 0) (by kernel_rfl) (by kernel_rfl), lu_hd (b' := 5) (by kernel_rfl) (by kernel_rfl), lv, lv, lv, lv, lv, lv, trivial⟩)
        · refine RunS.segF (n := 38) e_law09_Copy_ok 1 [(3, hd 0 (c1.map (cdL 1 (cdL 1 cdI)).enc)), (8, .sl 1 (v8.map cdI.enc)), (9, .sl 1 (x0.map (cdL 1 (cdL 1 cdI)).enc)), (10, .v (.int .i64 (x0.length : Int))), (11, .v (.int .i64 c2)), (15, .sl 1 (v4.map (cdL 1 cdI).enc)), (16, .v (.int .i64 (v4.length : Int))), (17, .v (.int .i64 c6)), (21, hd 1 (c5.map (cdL 1 cdI).enc)), (23, .rf 2 0 v8.length v8.length), (24, hd 3 ([(-9)].map cdI.enc))] [mk 1 36 (c1.map (cdL 1 (cdL 1 cdI)).enc), mk 1 29 (c5.map (cdL 1 cdI).enc), some ⟨1, 3, (v8.map cdI.enc), false⟩, mk 1 3 ([(-9)].map cdI.enc)] (by kernel_rfl) ?_
          refine RunS.one e_law09_Copy_ok 0 rfl (op_w (wantedA_none rfl) rfl (by kernel_rfl) (by kernel_rfl) (w_append (a := .rf 2 0 v8.length v8.length) (b := hd 3 ([(-9)].map cdI.enc)) (by kernel_rfl) (by kernel_rfl) (append_R (c := cdI) (xs := v8) (vs := [(-9)]) (k := 1) (bytes := 8) (el := 3) (by kernel_rfl) (by kernel_rfl) (elems_hd (t := 3) (by kernel_rfl)) (List.cons_ne_nil _ _) (by kernel_rfl) hk10))) ?_
          refine RunS.segF (n := 38) e_law09_Copy_ok 1 [(3, hd 0 (c1.map (cdL 1 (cdL 1 cdI)).enc)), (9, .sl 1 (x0.map (cdL 1 (cdL 1 cdI)).enc)), (10, .v (.int .i64 (x0.length : Int))), (11, .v (.int .i64 c2)), (15, .sl 1 (v4.map (cdL 1 cdI).enc)), (16, .v (.int .i64 (v4.length : Int))), (17, .v (.int .i64 c6)), (21, hd 1 (c5.map (cdL 1 cdI).enc)), (25, .rf 4 0 (v8 ++ [(-9)]).length (v8 ++ [(-9)]).length), (26, .sl 1 (v8.map cdI.enc))] [mk 1 36 (c1.map (cdL 1 (cdL 1 cdI)).enc), mk 1 29 (c5.map (cdL 1 cdI).enc), none, mk 1 3 ([(-9)].map cdI.enc), some ⟨1, 3, ((v8 ++ [(-9)]).map cdI.enc), false⟩] (by kernel_rfl) ?_
          refine RunS.one e_law09_Copy_ok 0 rfl (op_q (wantedA_none rfl) rfl (q_len (a := .sl 1 (v8.map cdI.enc)) (by kernel_rfl) (len_sl (el := 3) (by kernel_rfl)))) ?_
          refine RunS.one e_law09_Copy_ok 0 rfl (op_q (wantedA_none rfl) rfl (q_slice (a := .rf 4 0 (v8 ++ [(-9)]).length (v8 ++ [(-9)]).length) (l := none) (u := (some (.v (.int .i64 (v8.length : Int))))) (m := none) (by kernel_rfl) (by kernel_rfl) (by kernel_rfl) rfl (slice_rl (xs := (v8 ++ [(-9)])) (e := cdI.enc) (t' := 3) (k := 1) (el := 3) (by kernel_rfl) (by kernel_rfl) (by kernel_rfl) hk11 (by simp)))) ?_
          refine RunS.wk (s1 := ⟨Fr 38 [(3, hd 0 (c1.map (cdL 1 (cdL 1 cdI)).enc)), (9, .sl 1 (x0.map (cdL 1 (cdL 1 cdI)).enc)), (10, .v (.int .i64 (x0.length : Int))), (11, .v (.int .i64 c2)), (15, .sl 1 (v4.map (cdL 1 cdI).enc)), (16, .v (.int .i64 (v4.length : Int))), (17, .v (.int .i64 c6)), (21, hd 1 (c5.map (cdL 1 cdI).enc)), (25, .sl 1 ((v8 ++ [(-9)]).map cdI.enc)), (26, .sl 1 (v8.map cdI.enc)), (27, .v (.int .i64 (v8.length : Int))), (28, .sl 1 (((v8 ++ [(-9)]).take ((v8.length : Int).toNat)).map cdI.enc))], [mk 1 36 (c1.map (cdL 1 (cdL 1 cdI)).enc), mk 1 29 (c5.map (cdL 1 cdI).enc), none, mk 1 3 ([(-9)].map cdI.enc), none]⟩) (Wk.frzG 4 (.inl (by kernel_rfl)) ⟨.inr (.inl rfl), .inr (.inl rfl), .inl rfl, .inr (.inl rfl), .inl rfl, trivial⟩ ⟨⟨hd 0 (c1.map (cdL 1 (cdL 1 cdI)).enc), (by kernel_rfl), .inl rfl⟩, ⟨.sl 1 (x0.map (cdL 1 (cdL 1 cdI)).enc), (by kernel_rfl), .inl rfl⟩, ⟨.v (.int .i64 (x0.length : Int)), (by kernel_rfl), .inl rfl⟩, ⟨.v (.int .i64 c2), (by kernel_rfl), .inl rfl⟩, ⟨.sl 1 (v4.map (cdL 1 cdI).enc), (by kernel_rfl), .inl rfl⟩, ⟨.v (.int .i64 (v4.length : Int)), (by kernel_rfl), .inl rfl⟩, ⟨.v (.int .i64 c6), (by kernel_rfl), .inl rfl⟩, ⟨hd 1 (c5.map (cdL 1 cdI).enc), (by kernel_rfl), .inl rfl⟩, ⟨.rf 4 0 (v8 ++ [(-9)]).length (v8 ++ [(-9)]).length, (by kernel_rfl), fz_rlT (c := cdI) (xs := (v8 ++ [(-9)])) (t := 3) (by kernel_rfl)⟩, ⟨.sl 1 (v8.map cdI.enc), (by kernel_rfl), .inl rfl⟩, ⟨.v (.int .i64 (v8.length : Int)), (by kernel_rfl), .inl rfl⟩, ⟨.rf 4 0 ((v8.length : Int).toNat) ((v8 ++ [(-9)]).length), (by kernel_rfl), fz_rfT (c := cdI) (xs := (v8 ++ [(-9)])) (t := 3) (by kernel_rfl) (cutOk_inv hk11).2.2.2⟩, trivial⟩) ?_
          refine RunS.segF (n := 38) e_law09_Copy_ok 1 [(3, hd 0 (c1.map (cdL 1 (cdL 1 cdI)).enc)), (9, .sl 1 (x0.map (cdL 1 (cdL 1 cdI)).enc)), (10, .v (.int .i64 (x0.length : Int))), (11, .v (.int .i64 c2)), (15, .sl 1 (v4.map (cdL 1 cdI).enc)), (16, .v (.int .i64 (v4.length : Int))), (17, .v (.int .i64 c6)), (21, hd 1 (c5.map (cdL 1 cdI).enc)), (29, hd 5 ([((v8 ++ [(-9)]).take ((v8.length : Int).toNat))].map (cdL 1 cdI).enc))] [mk 1 36 (c1.map (cdL 1 (cdL 1 cdI)).enc), mk 1 29 (c5.map (cdL 1 cdI).enc), none, mk 1 3 ([(-9)].map cdI.enc), none, mk 1 29 ([((v8 ++ [(-9)]).take ((v8.length : Int).toNat))].map (cdL 1 cdI).enc)] (by kernel_rfl) ?_
          refine RunS.one e_law09_Copy_ok 0 rfl (op_w (wantedA_none rfl) rfl (by kernel_rfl) (by kernel_rfl) (w_append (a := hd 1 (c5.map (cdL 1 cdI).enc)) (b := hd 5 ([((v8 ++ [(-9)]).take ((v8.length : Int).toNat))].map (cdL 1 cdI).enc)) (by kernel_rfl) (by kernel_rfl) (append_B (c := (cdL 1 cdI)) (xs := c5) (vs := [((v8 ++ [(-9)]).take ((v8.length : Int).toNat))]) (k := 1) (bytes := 24) (el := 29) (by kernel_rfl) (by kernel_rfl) (elems_hd (t := 29) (by kernel_rfl)) (List.cons_ne_nil _ _) (by kernel_rfl) hk12))) ?_
          refine RunS.segF (n := 38) e_law09_Copy_ok 1 [(3, hd 0 (c1.map (cdL 1 (cdL 1 cdI)).enc)), (6, hd 6 ((c5 ++ [((v8 ++ [(-9)]).take ((v8.length : Int).toNat))]).map (cdL 1 cdI).enc)), (9, .sl 1 (x0.map (cdL 1 (cdL 1 cdI)).enc)), (10, .v (.int .i64 (x0.length : Int))), (11, .v (.int .i64 c2)), (15, .sl 1 (v4.map (cdL 1 cdI).enc)), (16, .v (.int .i64 (v4.length : Int))), (17, .v (.int .i64 c6))] [mk 1 36 (c1.map (cdL 1 (cdL 1 cdI)).enc), none, none, mk 1 3 ([(-9)].map cdI.enc), none, mk 1 29 ([((v8 ++ [(-9)]).take ((v8.length : Int).toNat))].map (cdL 1 cdI).enc), mk 1 29 ((c5 ++ [((v8 ++ [(-9)]).take ((v8.length : Int).toNat))]).map (cdL 1 cdI).enc)] (by kernel_rfl) ?_
          exact RunS.done rfl (Wk.s3 [0, 6] ⟨⟨_, rfl, bu_mk⟩, ⟨_, rfl, bu_mk⟩, trivial⟩ ⟨lu_hd (b' := 0) (by kernel_rfl) (by kernel_rfl), lu_hd (b' := 6) (by kernel_rfl) (by kernel_rfl), lv, lv, lv, lv, lv, lv, trivial⟩)
      refine Sem.runS (s1 := ⟨Fr 38 [(3, hd 0 (c1.map (cdL 1 (cdL 1 cdI)).enc)), (6, hd 1 ((c5 ++ [((v8 ++ [(-9)]).take ((v8.length : Int).toNat))]).map (cdL 1 cdI).enc)), (9, .sl 1 (x0.map (cdL 1 (cdL 1 cdI)).enc)), (10, .v (.int .i64 (x0.length : Int))), (11, .v (.int .i64 c2)), (15, .sl 1 (v4.map (cdL 1 cdI).enc)), (16, .v (.int .i64 (v4.length : Int))), (17, .v (.int .i64 (wr .i64 (c6 + 1))))], [mk 1 36 (c1.map (cdL 1 (cdL 1 cdI)).enc), mk 1 29 ((c5 ++ [((v8 ++ [(-9)]).take ((v8.length : Int).toNat))]).map (cdL 1 cdI).enc)]⟩) ?_ ?_
      · refine RunS.segF (n := 38) e_law09_Copy_ok 2 [(3, hd 0 (c1.map (cdL 1 (cdL 1 cdI)).enc)), (6, hd 1 ((c5 ++ [((v8 ++ [(-9)]).take ((v8.length : Int).toNat))]).map (cdL 1 cdI).enc)), (9, .sl 1 (x0.map (cdL 1 (cdL 1 cdI)).enc)), (10, .v (.int .i64 (x0.length : Int))), (11, .v (.int .i64 c2)), (15, .sl 1 (v4.map (cdL 1 cdI).enc)), (16, .v (.int .i64 (v4.length : Int))), (17, .v (.int .i64 (wr .i64 (c6 + 1))))] [mk 1 36 (c1.map (cdL 1 (cdL 1 cdI)).enc), mk 1 29 ((c5 ++ [((v8 ++ [(-9)]).take ((v8.length : Int).toNat))]).map (cdL 1 cdI).enc)] (by kernel_rfl) ?_
        exact RunS.done rfl (Wk.s3 [0, 1] ⟨⟨_, rfl, bu_mk⟩, ⟨_, rfl, bu_mk⟩, trivial⟩ ⟨lu_hd (b' := 0) (by kernel_rfl) (by kernel_rfl), lu_hd (b' := 1) (by kernel_rfl) (by kernel_rfl), lv, lv, lv, lv, lv, lv, trivial⟩)
      exact SemN.wk (s1 := ⟨Fr 38 [(3, hd 0 (c1.map (cdL 1 (cdL 1 cdI)).enc)), (6, hd 1 ((c5 ++ [((v8 ++ [(-9)]).take ((v8.length : Int).toNat))]).map (cdL 1 cdI).enc)), (9, .sl 1 (x0.map (cdL 1 (cdL 1 cdI)).enc)), (10, .v (.int .i64 (x0.length : Int))), (11, .v (.int .i64 c2)), (15, .sl 1 (v4.map (cdL 1 cdI).enc)), (16, .v (.int .i64 (v4.length : Int))), (17, .v (.int .i64 (wr .i64 (c6 + 1))))], [mk 1 36 (c1.map (cdL 1 (cdL 1 cdI)).enc), mk 1 29 ((c5 ++ [((v8 ++ [(-9)]).take ((v8.length : Int).toNat))]).map (cdL 1 cdI).enc)]⟩) (Wk.s3 [0, 1] ⟨⟨_, rfl, bu_mk⟩, ⟨_, rfl, bu_mk⟩, trivial⟩ ⟨lu_hd (b' := 0) (by kernel_rfl) (by kernel_rfl), lu_hd (b' := 1) (by kernel_rfl) (by kernel_rfl), lv, lv, lv, lv, lv, lv, trivial⟩) (ih (c5 ++ [((v8 ++ [(-9)]).take ((v8.length : Int).toNat))]) (wr .i64 (c6 + 1)) h)
    · rw [if_f hb7] at h
      refine Sem.exit ?_
      have hq := Option.some.inj h; subst hq
      exact ⟨rfl, (Wk.s3 [0, 1] ⟨⟨_, rfl, bu_mk⟩, ⟨_, rfl, bu_mk⟩, trivial⟩ ⟨lu_hd (b' := 0) (by kernel_rfl) (by kernel_rfl), lu_hd (b' := 1) (by kernel_rfl) (by kernel_rfl), lv, lv, lv, trivial⟩)⟩
set_option maxHeartbeats 4000000 in
set_option maxRecDepth 100000 in
theorem law09_Copy_1_ok (x0 : (List (List (List Int)))) : ∀ (f : Nat) (c1 : (List (List (List Int)))) (c2 : Int) (r : ((List (List (List Int))))), law09_Copy_1 x0 f c1 c2 = some r → SemN e_law09_Copy ⟨none, false⟩ (pc cb_law09_Copy [1, 1, 0, 1, 0, 0]) f ⟨Fr 38 [(3, hd 0 (c1.map (cdL 1 (cdL 1 cdI)).enc)), (9, .sl 1 (x0.map (cdL 1 (cdL 1 cdI)).enc)), (10, .v (.int .i64 (x0.length : Int))), (11, .v (.int .i64 c2))], [mk 1 36 (c1.map (cdL 1 (cdL 1 cdI)).enc)]⟩ (fun e s => e = (.exit 0) ∧ Wk e_law09_Copy s ⟨Fr 38 [(3, hd 0 (r.map (cdL 1 (cdL 1 cdI)).enc))], [mk 1 36 (r.map (cdL 1 (cdL 1 cdI)).enc)]⟩) := by
  intro f
  induction f with
  | zero => intro c1 c2 r h; cases h
  | succ f ih0 =>
    intro c1 c2 r h
    have ih := fun (c1 : (List (List (List Int)))) (c2 : Int) => ih0 c1 c2 r
    unfold law09_Copy_1 at h
    refine SemN.succ ?_
    refine Sem.seq ?_
    refine Sem.runS (s1 := ⟨Fr 38 [(3, hd 0 (c1.map (cdL 1 (cdL 1 cdI)).enc)), (9, .sl 1 (x0.map (cdL 1 (cdL 1 cdI)).enc)), (10, .v (.int .i64 (x0.length : Int))), (11, .v (.int .i64 c2)), (12, .v (.bool (decide (c2 < (x0.length : Int)))))], [mk 1 36 (c1.map (cdL 1 (cdL 1 cdI)).enc)]⟩) ?_ ?_
    · refine RunS.segF (n := 38) e_law09_Copy_ok 1 [(3, hd 0 (c1.map (cdL 1 (cdL 1 cdI)).enc)), (9, .sl 1 (x0.map (cdL 1 (cdL 1 cdI)).enc)), (10, .v (.int .i64 (x0.length : Int))), (11, .v (.int .i64 c2)), (12, .v (.bool (decide (c2 < (x0.length : Int)))))] [mk 1 36 (c1.map (cdL 1 (cdL 1 cdI)).enc)] (by kernel_rfl) ?_
      exact RunS.done rfl (Wk.s3 [0] ⟨⟨_, rfl, bu_mk⟩, trivial⟩ ⟨lu_hd (b' := 0) (by kernel_rfl) (by kernel_rfl), lv, lv, lv, lv, trivial⟩)
    refine Sem.seq ?_
    refine Sem.cond (b := (decide (c2 < (x0.length : Int)))) (by kernel_rfl) (fun hb3 => ?_) (fun hb3 => ?_)
    · rw [if_pos hb3] at h
      refine Sem.skip ?_
      refine Sem.seq ?_
      refine Sem.block ?_
      refine Sem.seq ?_
      obtain ⟨v4, hv4, h⟩ := Option.bind_eq_some_iff.1 h
      refine Sem.runS (s1 := ⟨Fr 38 [(3, hd 0 (c1.map (cdL 1 (cdL 1 cdI)).enc)), (5, .sl 1 (v4.map (cdL 1 cdI).enc)), (9, .sl 1 (x0.map (cdL 1 (cdL 1 cdI)).enc)), (10, .v (.int .i64 (x0.length : Int))), (11, .v (.int .i64 c2))], [mk 1 36 (c1.map (cdL 1 (cdL 1 cdI)).enc)]⟩) ?_ ?_
      · refine RunS.one e_law09_Copy_ok 0 rfl (op_q (wantedA_none rfl) rfl (q_indexAddr (a := .sl 1 (x0.map (cdL 1 (cdL 1 cdI)).enc)) (b := .v (.int .i64 c2)) (by kernel_rfl) (by kernel_rfl) (ix_sl (e := (cdL 1 (cdL 1 cdI)).enc) (el := 36) (k := 1) (ki := .i64) (by kernel_rfl) (by kernel_rfl) hv4))) ?_
        refine RunS.segF (n := 38) e_law09_Copy_ok 2 [(3, hd 0 (c1.map (cdL 1 (cdL 1 cdI)).enc)), (5, .sl 1 (v4.map (cdL 1 cdI).enc)), (9, .sl 1 (x0.map (cdL 1 (cdL 1 cdI)).enc)), (10, .v (.int .i64 (x0.length : Int))), (11, .v (.int .i64 c2))] [mk 1 36 (c1.map (cdL 1 (cdL 1 cdI)).enc)] (by kernel_rfl) ?_
        exact RunS.done rfl (Wk.s3 [0] ⟨⟨_, rfl, bu_mk⟩, trivial⟩ ⟨lu_hd (b' := 0) (by kernel_rfl) (by kernel_rfl), lv, lv, lv, lv, trivial⟩)
      refine Sem.seq ?_
      refine Sem.runS (s1 := ⟨Fr 38 [(3, hd 0 (c1.map (cdL 1 (cdL 1 cdI)).enc)), (5, .sl 1 (v4.map (cdL 1 cdI).enc)), (6, .e0), (9, .sl 1 (x0.map (cdL 1 (cdL 1 cdI)).enc)), (10, .v (.int .i64 (x0.length : Int))), (11, .v (.int .i64 c2))], [mk 1 36 (c1.map (cdL 1 (cdL 1 cdI)).enc)]⟩) ?_ ?_
      · refine RunS.segF (n := 38) e_law09_Copy_ok 1 [(3, hd 0 (c1.map (cdL 1 (cdL 1 cdI)).enc)), (5, .sl 1 (v4.map (cdL 1 cdI).enc)), (6, .e0), (9, .sl 1 (x0.map (cdL 1 (cdL 1 cdI)).enc)), (10, .v (.int .i64 (x0.length : Int))), (11, .v (.int .i64 c2))] [mk 1 36 (c1.map (cdL 1 (cdL 1 cdI)).enc)] (by kernel_rfl) ?_
        exact RunS.done rfl (Wk.s3 [0] ⟨⟨_, rfl, bu_mk⟩, trivial⟩ ⟨lu_hd (b' := 0) (by kernel_rfl) (by kernel_rfl), lv, lv, lv, lv, lv, trivial⟩)
      refine Sem.seq ?_
      refine Sem.seq ?_
      refine Sem.runS (s1 := ⟨Fr 38 [(3, hd 0 (c1.map (cdL 1 (cdL 1 cdI)).enc)), (6, .e0), (9, .sl 1 (x0.map (cdL 1 (cdL 1 cdI)).enc)), (10, .v (.int .i64 (x0.length : Int))), (11, .v (.int .i64 c2)), (15, .sl 1 (v4.map (cdL 1 cdI).enc)), (16, .v (.int .i64 (v4.length : Int))), (17, .v (.int .i64 0))], [mk 1 36 (c1.map (cdL 1 (cdL 1 cdI)).enc)]⟩) ?_ ?_
      · refine RunS.segF (n := 38) e_law09_Copy_ok 1 [(3, hd 0 (c1.map (cdL 1 (cdL 1 cdI)).enc)), (6, .e0), (9, .sl 1 (x0.map (cdL 1 (cdL 1 cdI)).enc)), (10, .v (.int .i64 (x0.length : Int))), (11, .v (.int .i64 c2)), (15, .sl 1 (v4.map (cdL 1 cdI).enc))] [mk 1 36 (c1.map (cdL 1 (cdL 1 cdI)).enc)] (by kernel_rfl) ?_
        refine RunS.one e_law09_Copy_ok 0 rfl (op_q (wantedA_none rfl) rfl (q_len (a := .sl 1 (v4.map (cdL 1 cdI).enc)) (by kernel_rfl) (len_sl (el := 29) (by kernel_rfl)))) ?_
        refine RunS.segF (n := 38) e_law09_Copy_ok 1 [(3, hd 0 (c1.map (cdL 1 (cdL 1 cdI)).enc)), (6, .e0), (9, .sl 1 (x0.map (cdL 1 (cdL 1 cdI)).enc)), (10, .v (.int .i64 (x0.length : Int))), (11, .v (.int .i64 c2)), (15, .sl 1 (v4.map (cdL 1 cdI).enc)), (16, .v (.int .i64 (v4.length : Int))), (17, .v (.int .i64 0))] [mk 1 36 (c1.map (cdL 1 (cdL 1 cdI)).enc)] (by kernel_rfl) ?_
        exact RunS.done rfl (Wk.s3 [0] ⟨⟨_, rfl, bu_mk⟩, trivial⟩ ⟨lu_hd (b' := 0) (by kernel_rfl) (by kernel_rfl), lv, lv, lv, lv, lv, lv, lv, trivial⟩)
      refine Sem.block ?_
      obtain ⟨r17, hr17, h⟩ := Option.bind_eq_some_iff.1 h
      refine Sem.loop (n := 100000) ?_
      refine Sem.cutN (SemN.wk (s1 := ⟨Fr 38 [(3, hd 0 (c1.map (cdL 1 (cdL 1 cdI)).enc)), (6, hd 1 ([].map (cdL 1 cdI).enc)), (9, .sl 1 (x0.map (cdL 1 (cdL 1 cdI)).enc)), (10, .v (.int .i64 (x0.length : Int))), (11, .v (.int .i64 c2)), (15, .sl 1 (v4.map (cdL 1 cdI).enc)), (16, .v (.int .i64 (v4.length : Int))), (17, .v (.int .i64 0))], [mk 1 36 (c1.map (cdL 1 (cdL 1 cdI)).enc), mk 1 29 ([].map (cdL 1 cdI).enc)]⟩) (Wk.trans (s1 := ⟨Fr 38 [(3, hd 0 (c1.map (cdL 1 (cdL 1 cdI)).enc)), (6, hd 1 ([].map (cdL 1 cdI).enc)), (9, .sl 1 (x0.map (cdL 1 (cdL 1 cdI)).enc)), (10, .v (.int .i64 (x0.length : Int))), (11, .v (.int .i64 c2)), (15, .sl 1 (v4.map (cdL 1 cdI).enc)), (16, .v (.int .i64 (v4.length : Int))), (17, .v (.int .i64 0))], [mk 1 36 (c1.map (cdL 1 (cdL 1 cdI)).enc), mk 1 29 ([].map (cdL 1 cdI).enc)]⟩) Wk.none (Wk.s3 [0, 1] ⟨⟨_, rfl, bu_mk⟩, ⟨_, rfl, bu_none⟩, trivial⟩ ⟨lu_hd (b' := 0) (by kernel_rfl) (by kernel_rfl), lv, lv, lv, lv, lv, lv, lv, trivial⟩)) (law09_Copy_2_ok x0 c1 c2 v4 _ [] 0 _ hr17)) ?_
      by_cases hk18 : (capOk 24 (c1.length + 1)) = true
      case neg => rw [if_neg hk18] at h; cases h
      rw [if_pos hk18] at h
      refine Sem.runS (s1 := ⟨Fr 38 [(3, hd 0 ((c1 ++ [r17]).map (cdL 1 (cdL 1 cdI)).enc)), (9, .sl 1 (x0.map (cdL 1 (cdL 1 cdI)).enc)), (10, .v (.int .i64 (x0.length : Int))), (11, .v (.int .i64 c2))], [mk 1 36 ((c1 ++ [r17]).map (cdL 1 (cdL 1 cdI)).enc)]⟩) ?_ ?_
      · refine RunS.segF (n := 38) e_law09_Copy_ok 2 [(9, .sl 1 (x0.map (cdL 1 (cdL 1 cdI)).enc)), (10, .v (.int .i64 (x0.length : Int))), (11, .v (.int .i64 c2)), (32, hd 0 (c1.map (cdL 1 (cdL 1 cdI)).enc)), (33, hd 1 (r17.map (cdL 1 cdI).enc))] [mk 1 36 (c1.map (cdL 1 (cdL 1 cdI)).enc), mk 1 29 (r17.map (cdL 1 cdI).enc)] (by kernel_rfl) ?_
        refine RunS.wk (s1 := ⟨Fr 38 [(9, .sl 1 (x0.map (cdL 1 (cdL 1 cdI)).enc)), (10, .v (.int .i64 (x0.length : Int))), (11, .v (.int .i64 c2)), (32, hd 0 (c1.map (cdL 1 (cdL 1 cdI)).enc)), (33, .sl 1 (r17.map (cdL 1 cdI).enc))], [mk 1 36 (c1.map (cdL 1 (cdL 1 cdI)).enc), none]⟩) (Wk.frzG 1 (.inl (by kernel_rfl)) ⟨.inr (.inl rfl), .inl rfl, trivial⟩ ⟨⟨.sl 1 (x0.map (cdL 1 (cdL 1 cdI)).enc), (by kernel_rfl), .inl rfl⟩, ⟨.v (.int .i64 (x0.length : Int)), (by kernel_rfl), .inl rfl⟩, ⟨.v (.int .i64 c2), (by kernel_rfl), .inl rfl⟩, ⟨hd 0 (c1.map (cdL 1 (cdL 1 cdI)).enc), (by kernel_rfl), .inl rfl⟩, ⟨hd 1 (r17.map (cdL 1 cdI).enc), (by kernel_rfl), fz_hd (t := 29) (by kernel_rfl) enc_ok⟩, trivial⟩) ?_
        refine RunS.segF (n := 38) e_law09_Copy_ok 1 [(9, .sl 1 (x0.map (cdL 1 (cdL 1 cdI)).enc)), (10, .v (.int .i64 (x0.length : Int))), (11, .v (.int .i64 c2)), (32, hd 0 (c1.map (cdL 1 (cdL 1 cdI)).enc)), (34, hd 2 ([r17].map (cdL 1 (cdL 1 cdI)).enc))] [mk 1 36 (c1.map (cdL 1 (cdL 1 cdI)).enc), none, mk 1 36 ([r17].map (cdL 1 (cdL 1 cdI)).enc)] (by kernel_rfl) ?_
        refine RunS.one e_law09_Copy_ok 0 rfl (op_w (wantedA_none rfl) rfl (by kernel_rfl) (by kernel_rfl) (w_append (a := hd 0 (c1.map (cdL 1 (cdL 1 cdI)).enc)) (b := hd 2 ([r17].map (cdL 1 (cdL 1 cdI)).enc)) (by kernel_rfl) (by kernel_rfl) (append_B (c := (cdL 1 (cdL 1 cdI))) (xs := c1) (vs := [r17]) (k := 1) (bytes := 24) (el := 36) (by kernel_rfl) (by kernel_rfl) (elems_hd (t := 36) (by kernel_rfl)) (List.cons_ne_nil _ _) (by kernel_rfl) hk18))) ?_
        refine RunS.segF (n := 38) e_law09_Copy_ok 1 [(3, hd 3 ((c1 ++ [r17]).map (cdL 1 (cdL 1 cdI)).enc)), (9, .sl 1 (x0.map (cdL 1 (cdL 1 cdI)).enc)), (10, .v (.int .i64 (x0.length : Int))), (11, .v (.int .i64 c2))] [none, none, mk 1 36 ([r17].map (cdL 1 (cdL 1 cdI)).enc), mk 1 36 ((c1 ++ [r17]).map (cdL 1 (cdL 1 cdI)).enc)] (by kernel_rfl) ?_
        exact RunS.done rfl (Wk.s3 [3] ⟨⟨_, rfl, bu_mk⟩, trivial⟩ ⟨lu_hd (b' := 3) (by kernel_rfl) (by kernel_rfl), lv, lv, lv, trivial⟩)
      refine Sem.runS (s1 := ⟨Fr 38 [(3, hd 0 ((c1 ++ [r17]).map (cdL 1 (cdL 1 cdI)).enc)), (9, .sl 1 (x0.map (cdL 1 (cdL 1 cdI)).enc)), (10, .v (.int .i64 (x0.length : Int))), (11, .v (.int .i64 (wr .i64 (c2 + 1))))], [mk 1 36 ((c1 ++ [r17]).map (cdL 1 (cdL 1 cdI)).enc)]⟩) ?_ ?_
      · refine RunS.segF (n := 38) e_law09_Copy_ok 2 [(3, hd 0 ((c1 ++ [r17]).map (cdL 1 (cdL 1 cdI)).enc)), (9, .sl 1 (x0.map (cdL 1 (cdL 1 cdI)).enc)), (10, .v (.int .i64 (x0.length : Int))), (11, .v (.int .i64 (wr .i64 (c2 + 1))))] [mk 1 36 ((c1 ++ [r17]).map (cdL 1 (cdL 1 cdI)).enc)] (by kernel_rfl) ?_
        exact RunS.done rfl (Wk.s3 [0] ⟨⟨_, rfl, bu_mk⟩, trivial⟩ ⟨lu_hd (b' := 0) (by kernel_rfl) (by kernel_rfl), lv, lv, lv, trivial⟩)
      exact SemN.wk (s1 := ⟨Fr 38 [(3, hd 0 ((c1 ++ [r17]).map (cdL 1 (cdL 1 cdI)).enc)), (9, .sl 1 (x0.map (cdL 1 (cdL 1 cdI)).enc)), (10, .v (.int .i64 (x0.length : Int))), (11, .v (.int .i64 (wr .i64 (c2 + 1))))], [mk 1 36 ((c1 ++ [r17]).map (cdL 1 (cdL 1 cdI)).enc)]⟩) (Wk.s3 [0] ⟨⟨_, rfl, bu_mk⟩, trivial⟩ ⟨lu_hd (b' := 0) (by kernel_rfl) (by kernel_rfl), lv, lv, lv, trivial⟩) (ih (c1 ++ [r17]) (wr .i64 (c2 + 1)) h)
    · rw [if_f hb3] at h
      refine Sem.exit ?_
      have hq := Option.some.inj h; subst hq
      exact ⟨rfl, (Wk.s3 [0] ⟨⟨_, rfl, bu_mk⟩, trivial⟩ ⟨lu_hd (b' := 0) (by kernel_rfl) (by kernel_rfl), trivial⟩)⟩
set_option maxHeartbeats 4000000 in
set_option maxRecDepth 100000 in
theorem law09_Copy_sem (x0 : (List (List (List Int)))) (r : (List (List (List Int)))) (h : law09_Copy x0 = some r) : Sem e_law09_Copy ⟨none, false⟩ cb_law09_Copy ⟨Fr 38 (pairs0 0 (cs_law09_Copy.enc (x0, ()))), []⟩ fun e s' => (e = .normal ∨ e = .ret) ∧ ∃ xs, resA e_law09_Copy.P s'.fr s'.hp Tryd.f13.results.toList = some xs ∧ retA xs = er_law09_Copy r := by
  unfold law09_Copy at h
  refine Sem.wkQ (Sem.wk (s1 := ⟨Fr 38 [(0, .sl 1 (x0.map (cdL 1 (cdL 1 cdI)).enc))], []⟩) Wk.f1 ?_)
  refine Sem.seq ?_
  refine Sem.runS (s1 := ⟨Fr 38 [(0, .sl 1 (x0.map (cdL 1 (cdL 1 cdI)).enc))], []⟩) ?_ ?_
  · refine RunS.segF (n := 38) e_law09_Copy_ok 1 [(0, .sl 1 (x0.map (cdL 1 (cdL 1 cdI)).enc))] [] (by kernel_rfl) ?_
    exact RunS.done rfl Wk.f1
  refine Sem.seq ?_
  refine Sem.runS (s1 := ⟨Fr 38 [(0, .sl 1 (x0.map (cdL 1 (cdL 1 cdI)).enc)), (3, .e0)], []⟩) ?_ ?_
  · refine RunS.segF (n := 38) e_law09_Copy_ok 1 [(0, .sl 1 (x0.map (cdL 1 (cdL 1 cdI)).enc)), (3, .e0)] [] (by kernel_rfl) ?_
    exact RunS.done rfl Wk.f1
  refine Sem.seq ?_
  refine Sem.seq ?_
  refine Sem.runS (s1 := ⟨Fr 38 [(3, .e0), (9, .sl 1 (x0.map (cdL 1 (cdL 1 cdI)).enc)), (10, .v (.int .i64 (x0.length : Int))), (11, .v (.int .i64 0))], []⟩) ?_ ?_
  · refine RunS.segF (n := 38) e_law09_Copy_ok 1 [(3, .e0), (9, .sl 1 (x0.map (cdL 1 (cdL 1 cdI)).enc))] [] (by kernel_rfl) ?_
    refine RunS.one e_law09_Copy_ok 0 rfl (op_q (wantedA_none rfl) rfl (q_len (a := .sl 1 (x0.map (cdL 1 (cdL 1 cdI)).enc)) (by kernel_rfl) (len_sl (el := 36) (by kernel_rfl)))) ?_
    refine RunS.segF (n := 38) e_law09_Copy_ok 1 [(3, .e0), (9, .sl 1 (x0.map (cdL 1 (cdL 1 cdI)).enc)), (10, .v (.int .i64 (x0.length : Int))), (11, .v (.int .i64 0))] [] (by kernel_rfl) ?_
    exact RunS.done rfl Wk.f1
  refine Sem.block ?_
  obtain ⟨r20, hr20, h⟩ := Option.bind_eq_some_iff.1 h
  refine Sem.loop (n := 100000) ?_
  refine Sem.cutN (SemN.wk (s1 := ⟨Fr 38 [(3, hd 0 ([].map (cdL 1 (cdL 1 cdI)).enc)), (9, .sl 1 (x0.map (cdL 1 (cdL 1 cdI)).enc)), (10, .v (.int .i64 (x0.length : Int))), (11, .v (.int .i64 0))], [mk 1 36 ([].map (cdL 1 (cdL 1 cdI)).enc)]⟩) (Wk.trans (s1 := ⟨Fr 38 [(3, hd 0 ([].map (cdL 1 (cdL 1 cdI)).enc)), (9, .sl 1 (x0.map (cdL 1 (cdL 1 cdI)).enc)), (10, .v (.int .i64 (x0.length : Int))), (11, .v (.int .i64 0))], [mk 1 36 ([].map (cdL 1 (cdL 1 cdI)).enc)]⟩) Wk.none (Wk.s3 [0] ⟨⟨_, rfl, bu_none⟩, trivial⟩ ⟨lv, lv, lv, lv, trivial⟩)) (law09_Copy_1_ok x0 _ [] 0 _ hr20)) ?_
  refine Sem.seq ?_
  refine Sem.runS (s1 := ⟨Fr 38 [(2, hd 0 (r20.map (cdL 1 (cdL 1 cdI)).enc))], [mk 1 36 (r20.map (cdL 1 (cdL 1 cdI)).enc)]⟩) ?_ ?_
  · refine RunS.segF (n := 38) e_law09_Copy_ok 2 [(2, hd 0 (r20.map (cdL 1 (cdL 1 cdI)).enc))] [mk 1 36 (r20.map (cdL 1 (cdL 1 cdI)).enc)] (by kernel_rfl) ?_
    exact RunS.done rfl (Wk.s3 [0] ⟨⟨_, rfl, bu_mk⟩, trivial⟩ ⟨lu_hd (b' := 0) (by kernel_rfl) (by kernel_rfl), trivial⟩)
  refine Sem.ret ?_
  have hq := Option.some.inj h; subst hq
  exact ⟨⟨Fr 38 [(2, .sl 1 (r20.map (cdL 1 (cdL 1 cdI)).enc))], []⟩, (Wk.trans (s1 := ⟨Fr 38 [(2, .sl 1 (r20.map (cdL 1 (cdL 1 cdI)).enc))], [none]⟩) (Wk.frzG 0 (.inl (by kernel_rfl)) ⟨.inl rfl, trivial⟩ ⟨⟨hd 0 (r20.map (cdL 1 (cdL 1 cdI)).enc), (by kernel_rfl), fz_hd (t := 36) (by kernel_rfl) enc_ok⟩, trivial⟩) (Wk.s3 [] trivial ⟨lv, trivial⟩)), .inr rfl, [.sl 1 (r20.map (cdL 1 (cdL 1 cdI)).enc)], (by kernel_rfl), (by kernel_rfl)⟩
def t_law09_Copy : List AV → Option AV := told cs_law09_Copy (fun a => law09_Copy a.1) er_law09_Copy
theorem x_law09_Copy : XOk 13 t_law09_Copy := by
  refine EnvOk.x (E := e_law09_Copy) (contract_ok e_law09_Copy_ok (fn := Tryd.f13) (c := cb_law09_Copy) ?h1 ?h2 ⟨Tryd.call13⟩ cs_law09_Copy (fun a => law09_Copy a.1) er_law09_Copy (fun a => (by show 1 ≤ 38; decide)) ?h3 ?h4) rfl rfl
  case h1 => kernel_rfl
  case h2 => kernel_rfl
  case h3 => intro b; kernel_rfl
  case h4 => exact fun a b h => law09_Copy_sem a.1 b h
/-- As Fr1, and in the cells of a struct. -/
def Fr2 (h : Hp) (b : Nat) (x x' : AV) : Prop := Fr1 h b x x' ∨ ∃ cs cs', x = .ag cs ∧ x' = .ag cs' ∧ EsFz h b cs cs'
theorem Fr2.vr {w : World} {Z : Nat → Prop} {R : List RI} {h : Hp} {b : Nat} {x x' : AV} {u : Value} (f : Fr2 h b x x') (hh : HR w Z R h) (hv : VR w Z R x u) : VR w (ZFr Z R h b) R x' u := by
  rcases f with f | ⟨cs, cs', rfl, rfl, f⟩
  · exact f.vr hh hv
  · obtain ⟨k1, k2⟩ := f.at_
    cases hv with
    | ag hl h1 hx =>
      refine .ag (hl.trans k1) h1 fun i y u hy hu => ?_
      obtain ⟨x, q1, q2⟩ := k2 i y hy
      exact q2.vr hh (hx i x u q1 hu)
def EsF2 (h : Hp) (b : Nat) : List AV → List AV → Prop
  | [], [] => True
  | x :: r, x' :: r' => Fr2 h b x x' ∧ EsF2 h b r r'
  | _, _ => False
theorem EsF2.at_ {h : Hp} {b : Nat} : ∀ {es es' : List AV}, EsF2 h b es es' → es.length = es'.length ∧ ∀ (i : Nat) (x' : AV), es'[i]? = some x' → ∃ x, es[i]? = some x ∧ Fr2 h b x x'
  | [], [], _ => ⟨rfl, fun i x' hx => by simp at hx⟩
  | x :: r, x' :: r', ⟨h1, h2⟩ => by
    obtain ⟨k1, k2⟩ := h2.at_
    refine ⟨by simp [k1], fun i y hy => ?_⟩
    cases i with
    | zero => simp at hy; subst hy; exact ⟨x, rfl, h1⟩
    | succ i => simpa using k2 i y (by simpa using hy)
  | [], _ :: _, h => h.elim
  | _ :: _, [], h => h.elim
def EnF2 (h : Hp) (b : Nat) (o o' : Option Blk) : Prop := o' = none ∨ o = o' ∨ ∃ k t es es', o = some ⟨k, t, es, false⟩ ∧ o' = some ⟨k, t, es', false⟩ ∧ EsF2 h b es es'
def HpF2 (h : Hp) (b : Nat) : Hp → Hp → Prop
  | [], [] => True
  | o :: r, o' :: r' => EnF2 h b o o' ∧ HpF2 h b r r'
  | _, _ => False
theorem HpF2.at_ {h : Hp} {b : Nat} : ∀ {q q' : Hp}, HpF2 h b q q' → q.length = q'.length ∧ ∀ (j : Nat) (B' : Blk), q'[j]? = some (some B') → ∃ es, q[j]? = some (some { B' with es := es }) ∧ es.length = B'.es.length ∧ ∀ (i : Nat) (x' : AV), B'.es[i]? = some x' → ∃ x, es[i]? = some x ∧ Fr2 h b x x'
  | [], [], _ => ⟨rfl, fun j B' hx => by simp at hx⟩
  | o :: r, o' :: r', ⟨h1, h2⟩ => by
    obtain ⟨k1, k2⟩ := h2.at_
    refine ⟨by simp [k1], fun j B' hB => ?_⟩
    cases j with
    | zero =>
      simp at hB
      subst hB
      rcases h1 with h1 | h1 | ⟨k, t, es, es', rfl, h1, h3⟩
      · cases h1
      · subst h1
        exact ⟨B'.es, rfl, rfl, fun i x' hx => ⟨x', hx, .inl (.inl rfl)⟩⟩
      · have h1 := Option.some.inj h1
        subst h1
        obtain ⟨q1, q2⟩ := h3.at_
        exact ⟨es, rfl, q1, q2⟩
    | succ j => simpa using k2 j B' (by simpa using hB)
  | [], _ :: _, h => h.elim
  | _ :: _, [], h => h.elim
def LkF2 (h : Hp) (b : Nat) (l : List (Nat × AV)) : List (Nat × AV) → Prop
  | [] => True
  | (t, x') :: r => (∃ x, lk l t = some x ∧ Fr2 h b x x') ∧ LkF2 h b l r
theorem LkF2.at_ {h : Hp} {b : Nat} {l : List (Nat × AV)} : ∀ {l' : List (Nat × AV)}, LkF2 h b l l' → ∀ t x', lk l' t = some x' → ∃ x, lk l t = some x ∧ Fr2 h b x x'
  | [], _, t, x, h => by cases h
  | (k, y) :: r, hk, t, x, h => by
    rw [lk_put] at h
    split at h
    · next e => injection h with h; subst e h; exact hk.1
    · exact hk.2.at_ t x h
/-- Block b is frozen, wherever it is named. -/
theorem Wk.frzG2 {E : Env} {n : Nat} {l l' : List (Nat × AV)} {h h' : Hp} (b : Nat) (hb : h'[b]? = some Option.none ∨ h[b]? = some Option.none) (hh : HpF2 h b h h') (hl : LkF2 h b l l') : Wk E ⟨Fr n l, h⟩ ⟨Fr n l', h'⟩ := by
  intro base w Z R a sr
  obtain ⟨hlen, hblk⟩ := hh.at_
  have hne : ∀ (j : Nat) (B' B r : _), h'[j]? = some (some B') → h[b]? = some (some B) → R[b]? = some r → B.fz = false → B'.fz = false → ∀ r', R[j]? = some r' → r'.c ≠ r.c := by
    intro j B' B r hj hB hr hf hf' r' hr' e
    obtain ⟨es, k1, _⟩ := hblk j B' hj
    have := sr.hh.inj j b _ B r' r k1 hf' hB hf hr' hr e
    subst this
    rcases hb with hb | hb
    · rw [hb] at hj; cases hj
    · rw [hb] at hB; cases hB
  have hown : ∀ c, own R h' c → own R h c := fun c ⟨j, B, r, h1, h2, h3, h4⟩ => by
    obtain ⟨es, k1, _⟩ := hblk j B h1
    exact ⟨j, _, r, k1, h2, h3, h4⟩
  have hzo : ∀ c, ZFr Z R h b c → Z c ∨ own R h c := fun c hc => hc.elim .inl fun ⟨B, r, h1, h2, h3, h4⟩ => .inr ⟨b, B, r, h1, h2, h3, h4.symm⟩
  refine ⟨ZFr Z R h b, R, ⟨⟨sr.hh.len.trans hlen, fun j B' hB' => ?_, fun j j' B B' r r' hB hf hB' hf' h1 h2 e => ?_, fun c hc => ?_⟩, ⟨?_, fun t x hx => ?_⟩, ?_, fun g x hx => (sr.gl g x hx).mono (fun _ _ => rfl) (fun _ h => .inl h) (fun _ _ h => h), sr.bs⟩, ⟨rfl, rfl, rfl, Nat.le_refl _, fun _ _ _ => rfl, fun c hc => .inl (hown c hc), fun _ h => .inl h, fun c hc => (hzo c hc).elim .inl (fun h => .inr (.inl h))⟩⟩
  · obtain ⟨es, k1, k2, k3⟩ := hblk j B' hB'
    obtain ⟨r, arr, us, g1, g2, g3, g4, g5, g6, g7, g8, g9, g10⟩ := sr.hh.blk j _ k1
    refine ⟨r, arr, us, g1, g2, g3, g4, by rw [← k2]; exact g5, g6, fun hf => .inl (g7 hf), fun hf hc => ?_, ⟨by rw [g9.len]; exact k2, fun i x' u hx hu => ?_⟩, g10⟩
    · rcases hc with hc | ⟨B, r2, q1, q2, q3, q4⟩
      · exact g8 hf hc
      · exact hne j B' B r2 hB' q1 q3 q2 hf r g1 q4
    · obtain ⟨x, q1, q2⟩ := k3 i x' hx
      exact q2.vr sr.hh (g9.at_ i x u q1 hu)
  · obtain ⟨es, k1, _⟩ := hblk j B hB
    obtain ⟨es', k1', _⟩ := hblk j' B' hB'
    exact sr.hh.inj j j' _ _ r r' k1 hf k1' hf' h1 h2 e
  · rcases hc with hc | ⟨B, r, q1, q2, q3, rfl⟩
    · exact sr.hh.zlt c hc
    · exact sr.hh.rltL q1 q3
  · rw [Fr_len]; have := sr.fr.1; rw [Fr_len] at this; exact this
  · rw [Fr_get] at hx
    split at hx
    · next ht =>
      injection hx with hx
      obtain ⟨y, h1, h2⟩ := hl.at_ t x hx
      exact h2.vr sr.hh (sr.fr.2 t y (by rw [Fr_get, if_pos ht, h1]))
    · cases hx
  · have : ∀ {D : List Deferred}, Mks base w Z R h D → Mks base w (ZFr Z R h b) R h' D := by
      intro D
      induction D with
      | nil => intro _; trivial
      | cons d D ih => exact fun ⟨⟨q, h1, h2, h3, h4, h5, h6⟩, hD⟩ => ⟨⟨q, h1, h2, h3, fun hc => (hzo q hc).elim h4 h5, fun ho => h5 (hown q ho), h6⟩, ih hD⟩
    exact this sr.mks
/-- Structs of values. -/
def cdG1 {α : Type} (c : Cd α) (hc : ∀ x, noRf (c.enc x) = true) : Cd α where
  enc x := .ag [c.enc x]
  dec a := match a with
    | .ag [y] => c.dec y
    | _ => none
  de x := c.de x
  vr := fun {w Z a x u} h hv => by
    split at h
    · cases hv with
      | ag hl h1 hx =>
        refine .ag (by simpa using hl) h1 fun i y u hy hu => ?_
        match i with
        | 0 => simp at hy; subst hy; exact c.vr h (hx 0 _ u rfl hu)
        | i + 1 => simp at hy
    · cases h
  nr x := by simp [noRf2, hc]
def cdG2 {α β : Type} (c : Cd α) (d : Cd β) (hc : ∀ x, noRf (c.enc x) = true) (hd : ∀ x, noRf (d.enc x) = true) : Cd (α × β) where
  enc x := .ag [c.enc x.1, d.enc x.2]
  dec a := match a with
    | .ag [y, z] => (c.dec y).bind fun p => (d.dec z).map fun q => (p, q)
    | _ => none
  de x := by simp [c.de, d.de]
  vr := fun {w Z a x u} h hv => by
    split at h
    · obtain ⟨p, h1, h⟩ := Option.bind_eq_some_iff.1 h
      obtain ⟨q, h2, rfl⟩ := Option.map_eq_some_iff.1 h
      cases hv with
      | ag hl hh hx =>
        refine .ag (by simpa using hl) hh fun i y u hy hu => ?_
        match i with
        | 0 => simp at hy; subst hy; exact c.vr h1 (hx 0 _ u rfl hu)
        | 1 => simp at hy; subst hy; exact d.vr h2 (hx 1 _ u rfl hu)
        | i + 2 => simp at hy
    · cases h
  nr x := by simp [noRf2, hc, hd]
/-- The two parts of a range over a function. -/
def asgOf : Code → Code
  | .rangeFunc _ _ a _ => a
  | c => c
def bdyOf : Code → Code
  | .rangeFunc _ _ _ b => b
  | c => c
/-- As Sem, but the numbers of the blocks are kept, and a range over a function may be under way. -/
def SemY (E : Env) (cx : Cx) (c : Code) (s : St) (Q : Ex → St → Prop) : Prop :=
  ∀ (ro : Option Nat) (base : Nat) (Qm : Exit → Act → World → Prop) (a : Act) (w : World) (Z : Nat → Prop) (R : List RI), (cx.inR = false → ro = none) → SR E base w Z R s a → YI cx w Z R s.hp →
    (∀ e s' a' w' Z' R', Q e s' → SR E base w' Z' R' s' a' → Step w Z R s.hp w' Z' R' s'.hp → Qm (exOf e) a' w') → c.wpIn (Fw ro) 0 E.P Qm a w
def SemYN (E : Env) (cx : Cx) (c : Code) (n : Nat) (s : St) (Q : Ex → St → Prop) : Prop :=
  ∀ (ro : Option Nat) (base : Nat) (Qm : Exit → Act → World → Prop) (a : Act) (w : World) (Z : Nat → Prop) (R : List RI), (cx.inR = false → ro = none) → SR E base w Z R s a → YI cx w Z R s.hp →
    (∀ e s' a' w' Z' R', Q e s' → SR E base w' Z' R' s' a' → Step w Z R s.hp w' Z' R' s'.hp → Qm (exOf e) a' w') → Code.roundsIn (Fw ro) 0 E.P c Qm n a w
def RunY (E : Env) (cx : Cx) (ops : Array Oper) (rest : List Oper) (s : St) (K : St → Prop) : Prop :=
  ∀ (ro : Option Nat) (base : Nat) (Q : Exit → Act → World → Prop) (a : Act) (w : World) (Z : Nat → Prop) (R : List RI), (cx.inR = false → ro = none) → SR E base w Z R s a → YI cx w Z R s.hp →
    (∀ s' a' w' Z' R', K s' → SR E base w' Z' R' s' a' → Step w Z R s.hp w' Z' R' s'.hp → Q .normal a' w') → wpListIn (Fw ro) 0 E.P ops Q rest a w
/-- A state that says less of the same worlds; the numbers are kept. -/
def WkY (E : Env) (s s' : St) : Prop := ∀ base w Z R a, SR E base w Z R s a → ∃ Z' R', SR E base w Z' R' s' a ∧ Step w Z R s.hp w Z' R' s'.hp
section
variable {E : Env} {cx : Cx} {ops : Array Oper} {pre rest rest' : List Oper} {s s1 : St} {K : St → Prop} {n m : Nat} {l l' : List (Nat × AV)} {hp hp' : Hp} {Q Q' : Ex → St → Prop} {id : Nat} {c c' : Code}
theorem SemY.skip (q : Q .normal s) : SemY E cx .skip s Q := fun _ _ _ a w Z R _ h2 _ k => wpIn_skip (k .normal s a w Z R q h2 (Step.refl _ _ _ _))
theorem SemY.exit {id : Nat} (q : Q (.exit id) s) : SemY E cx (.exit id) s Q := fun _ _ _ a w Z R _ h2 _ k => wpIn_exit (k (.exit id) s a w Z R q h2 (Step.refl _ _ _ _))
theorem SemY.ret (q : Q .ret s) : SemY E cx .ret s Q := fun _ _ _ a w Z R _ h2 _ k => wpIn_ret (k .ret s a w Z R q h2 (Step.refl _ _ _ _))
theorem SemY.seq (h : SemY E cx c s fun e s' => match e with | .normal => SemY E cx c' s' Q | e => Q e s') : SemY E cx (.seq c c') s Q := by
  intro ro base Qm a w Z R h1 h2 h3 k
  refine wpIn_seq (h ro base _ a w Z R h1 h2 h3 fun e s' a' w' Z' R' hQ sr st => ?_)
  cases e with
  | normal => exact hQ ro base Qm a' w' Z' R' h1 sr (h3.step h2.hh st) fun e2 s2 a2 w2 Z2 R2 hQ2 sr2 st2 => k e2 s2 a2 w2 Z2 R2 hQ2 sr2 (st.trans st2)
  | exit id => exact k _ s' a' w' Z' R' hQ sr st
  | ret => exact k _ s' a' w' Z' R' hQ sr st
theorem SemY.cond_true {x : Operand} (hx : opA E s.fr x = some (.v (.bool true))) (h : SemY E cx c s Q) : SemY E cx (.cond x c c') s Q :=
  fun ro base Qm a w Z R h1 h2 h3 k => wpIn_cond_true (opA_vr h2 _ _ hx).v_inv (h ro base Qm a w Z R h1 h2 h3 k)
theorem SemY.cond_false {x : Operand} (hx : opA E s.fr x = some (.v (.bool false))) (h : SemY E cx c' s Q) : SemY E cx (.cond x c c') s Q :=
  fun ro base Qm a w Z R h1 h2 h3 k => wpIn_cond_false (opA_vr h2 _ _ hx).v_inv (h ro base Qm a w Z R h1 h2 h3 k)
theorem SemY.cond {x : Operand} {b : Bool} (hx : opA E s.fr x = some (.v (.bool b))) (h : b = true → SemY E cx c s Q) (h' : b = false → SemY E cx c' s Q) : SemY E cx (.cond x c c') s Q := by
  cases b with
  | true => exact .cond_true hx (h rfl)
  | false => exact .cond_false hx (h' rfl)
theorem SemY.block {id : Nat} (h : SemY E cx c s fun e s' => match e with | .exit id' => if id' = id then Q .normal s' else Q (.exit id') s' | e => Q e s') : SemY E cx (.block id c) s Q := by
  intro ro base Qm a w Z R h1 h2 h3 k
  refine wpIn_block (h ro base _ a w Z R h1 h2 h3 fun e s' a' w' Z' R' hQ sr st => ?_)
  cases e with
  | normal => exact k _ s' a' w' Z' R' hQ sr st
  | exit id' =>
    show if id' = id then Qm .normal a' w' else Qm (.exit id') a' w'
    simp only at hQ
    split at hQ
    · next h => rw [if_pos h]; exact k .normal s' a' w' Z' R' hQ sr st
    · next h => rw [if_neg h]; exact k _ s' a' w' Z' R' hQ sr st
  | ret => exact k _ s' a' w' Z' R' hQ sr st
theorem SemY.loop (h : SemYN E cx c n s Q) : SemY E cx (.loop c) s Q :=
  fun ro base Qm a w Z R h1 h2 h3 k => wpIn_loop_rounds n (h ro base Qm a w Z R h1 h2 h3 k)
theorem SemYN.succ (h : SemY E cx c s fun e s' => match e with | .normal => SemYN E cx c n s' Q | e => Q e s') : SemYN E cx c (n + 1) s Q := by
  intro ro base Qm a w Z R h1 h2 h3 k
  show c.wpIn (Fw ro) 0 E.P (Exit.then (Code.roundsIn (Fw ro) 0 E.P c Qm n) Qm) a w
  refine h ro base _ a w Z R h1 h2 h3 fun e s' a' w' Z' R' hQ sr st => ?_
  cases e with
  | normal => exact hQ ro base Qm a' w' Z' R' h1 sr (h3.step h2.hh st) fun e2 s2 a2 w2 Z2 R2 hQ2 sr2 st2 => k e2 s2 a2 w2 Z2 R2 hQ2 sr2 (st.trans st2)
  | exit id => exact k _ s' a' w' Z' R' hQ sr st
  | ret => exact k _ s' a' w' Z' R' hQ sr st
theorem WkY.fr (h : lkAll l l' = xsAll l') : WkY E ⟨Fr n l, hp⟩ ⟨Fr n l', hp⟩ := fun base w Z R a sr => by
  refine ⟨Z, R, ⟨sr.hh, ⟨?_, fun t x hx => sr.fr.2 t x ?_⟩, sr.mks, sr.gl, sr.bs⟩, Step.refl _ _ _ _⟩
  · rw [Fr_len]; have := sr.fr.1; rw [Fr_len] at this; exact this
  · rw [Fr_get] at hx ⊢
    split at hx
    · next ht => rw [if_pos ht]; injection hx with hx; rw [lk_mem h hx]
    · cases hx
theorem SemY.wk (hw : WkY E s s1) (h : SemY E cx c s1 Q) : SemY E cx c s Q := by
  intro ro base Qm a w Z R h1 h2 h3 k
  obtain ⟨Z', R', h2', st⟩ := hw base w Z R a h2
  exact h ro base Qm a w Z' R' h1 h2' (h3.step h2.hh st) fun e s' a' w' Z2 R2 hQ sr st2 => k e s' a' w' Z2 R2 hQ sr (st.trans st2)
theorem SemYN.wk (hw : WkY E s s1) (h : SemYN E cx c n s1 Q) : SemYN E cx c n s Q := by
  intro ro base Qm a w Z R h1 h2 h3 k
  obtain ⟨Z', R', h2', st⟩ := hw base w Z R a h2
  exact h ro base Qm a w Z' R' h1 h2' (h3.step h2.hh st) fun e s' a' w' Z2 R2 hQ sr st2 => k e s' a' w' Z2 R2 hQ sr (st.trans st2)
theorem SemY.fr (h : lkAll l l' = xsAll l') (k : SemY E cx c ⟨Fr n l', hp⟩ Q) : SemY E cx c ⟨Fr n l, hp⟩ Q := SemY.wk (WkY.fr h) k
theorem SemY.cutN {e0 : Ex} {s2 : St} (h : SemYN E cx c n s fun e s' => e = e0 ∧ WkY E s' s2) (q : Q e0 s2) : SemYN E cx c n s Q := by
  intro ro base Qm a w Z R h1 h2 h3 k
  refine h ro base Qm a w Z R h1 h2 h3 fun e s' a' w' Z' R' hQ sr st => ?_
  obtain ⟨rfl, hw⟩ := hQ
  obtain ⟨Z2, R2, sr2, st2⟩ := hw base w' Z' R' a' sr
  exact k e s2 a' w' Z2 R2 q sr2 (st.trans st2)
theorem RunY.done (hr : rest = []) (k : K s) : RunY E cx ops rest s K := by
  subst hr
  exact fun ro base Q a w Z R _ sr _ q => q s a w Z R k sr (Step.refl _ _ _ _)
theorem RunY.app (hE : EnvOk E) (n : Nat) : ∀ {pre : List Oper} {s : St}, opsA E (evC E n) ⟨none, false⟩ ops pre s = some s1 → RunY E cx ops rest s1 K → RunY E cx ops (pre ++ rest) s K
  | [], s, e, k => by injection e with e; subst e; exact k
  | o :: pre, s, e, kk => by
    intro ro base Q a w Z R hro sr hy q
    show wpListIn (Fw ro) 0 E.P ops Q (o :: (pre ++ rest)) a w
    unfold opsA at e
    unfold wpListIn
    split at e
    · cases e
    · next hw =>
      rw [if_neg (by rw [wantedA_eq sr hw]; simp)]
      exact ⟨fun _ _ => trivial, RunY.app hE n e kk ro base Q _ w Z R hro (sr.put undef_vr) hy q⟩
    · next hw =>
      rw [if_pos (wantedA_eq sr hw)]
      split at e
      · next s2 hs2 => exact lw_wpIn ro (op1_lw hE (code_sound hE n).1 hs2 sr fun a' w' Z' R' sr' st => RunY.app hE n e kk ro base Q a' w' Z' R' hro sr' (hy.step sr.hh st) fun s'' a'' w'' Z'' R'' hK sr'' st' => q s'' a'' w'' Z'' R'' hK sr'' (st.trans st'))
      · cases e
theorem RunY.seg (hE : EnvOk E) (m : Nat) (h : opsA E (evC E 0) ⟨none, false⟩ ops (rest.take m) s = some s1) (k : RunY E cx ops (rest.drop m) s1 K) : RunY E cx ops rest s K := by
  have := RunY.app hE 0 h k
  rwa [List.take_append_drop] at this
theorem RunY.segF (hE : EnvOk E) (m : Nat) {s : St} (l : List (Nat × AV)) (hp : Hp) (h : segB (opsA E (evC E 0) ⟨none, false⟩ ops (rest.take m) s) l = some (n, xs2 l, hp)) (k : RunY E cx ops (rest.drop m) ⟨Fr n l, hp⟩ K) : RunY E cx ops rest s K := by
  obtain ⟨fr, h1, h2, h3⟩ := segB_inv h
  refine RunY.seg hE m h1 ?_
  exact fun ro base Q a w Z R hro sr hy q => k ro base Q a w Z R hro (sr.forget h2 h3) hy q
theorem RunY.one (hE : EnvOk E) (n : Nat) {o : Oper} (hr : rest = o :: rest') (h : opsA E (evC E n) ⟨none, false⟩ ops [o] s = some s1) (k : RunY E cx ops rest' s1 K) : RunY E cx ops rest s K := by
  subst hr
  exact RunY.app hE n (pre := [o]) h k
theorem RunY.store (hE : EnvOk E) {t : TypeId} {p q : Operand} {y z : AV} {ty : TypeId} {pos : String} {af : Array Edge} {g : Option (Nat × Bool)} (hr : rest = ⟨none, .store t p q, ty, pos, af, g⟩ :: rest') (hw : wantedA ops (Fr n l) ⟨none, .store t p q, ty, pos, af, g⟩ = some true) (hp1 : opA E (Fr n l) p = some y) (hq1 : opA E (Fr n l) q = some z) (h : evStore E.P hp t y z = some hp') (k : RunY E cx ops rest' ⟨Fr n l, hp'⟩ K) : RunY E cx ops rest ⟨Fr n l, hp⟩ K :=
  RunY.one hE 0 hr (op_st hw hp1 hq1 h) k
theorem SemY.region (h : RunY E cx ops ops.toList s fun s' => Q .normal s') : SemY E cx (.region id ops false) s Q := by
  intro ro base Qm a w Z R h1 h2 h3 kk
  exact wpIn_region_list (h ro base _ a w Z R h1 h2 h3 fun s' a' w' Z' R' hq sr st => kk .normal s' a' w' Z' R' hq sr st)
end
def pz : List Nat → List AV → List (Nat × AV) → List (Nat × AV)
  | p :: ps, x :: xs, l => pz ps xs ((p, x) :: l)
  | _, _, l => l
theorem setPs_Fr {n : Nat} : ∀ {ps : List Nat} {xs : List AV} {l : List (Nat × AV)}, setPs (Fr n l) ps xs = Fr n (pz ps xs l)
  | [], _, _ => by unfold setPs pz; rfl
  | _ :: _, [], _ => by unfold setPs pz; rfl
  | p :: ps, x :: xs, l => by
    unfold setPs pz
    rw [show (Fr n l).set p (some x) = Fr n ((p, x) :: l) from putA_Fr n l p x]
    exact setPs_Fr
theorem mark_eq {p q : Nat} (h : mark p = mark q) : p = q := by
  unfold mark at h
  injection h with h
  injection h
theorem mks_new {base : Nat} {w : World} {Z : Nat → Prop} {R : List RI} {h : Hp} {r : Nat} (hr : w.heap.size ≤ r) : ∀ {D : List Deferred}, Mks base w Z R h D → mark r ∈ D → False
  | [], _, hm => by cases hm
  | d :: D, ⟨⟨q, _, q2, q3, _⟩, hD⟩, hm => by
    rcases List.mem_cons.1 hm with hm | hm
    · rw [← hm] at q2
      have := mark_eq q2
      have := heapLt q3
      omega
    · exact mks_new hr hD hm
/-- A function, entered: what its body does. -/
theorem ret_semY {e : Env} (he : EnvOk e) {y : Option YC} {f : FuncId} {fn : Func} {c : Code} (hfn : e.fn f = some fn) (hc : fn.body = some c) {args : List AV} (hle : args.length ≤ fn.ntmps) {hp : Hp} {Out : AV → Hp → Prop}
    (sem : SemY e ⟨y, false⟩ c ⟨Fr fn.ntmps (pairs0 0 args), hp⟩ fun x s' => (x = .normal ∨ x = .ret) ∧ ∃ ys, resA e.P s'.fr s'.hp fn.results.toList = some ys ∧ Out (retA ys) s'.hp)
    {w : World} {Z : Nat → Prop} {R : List RI} {us : List Value} (hh : HR w Z R hp) (hv : VRs w Z R args us) (hg : GI e w Z) (hy : YI ⟨y, false⟩ w Z R hp) :
    Ret e.P f us.toArray w fun v w' => ∃ Z' R' x h', Out x h' ∧ HR w' Z' R' h' ∧ VR w' Z' R' x v ∧ Step w Z R hp w' Z' R' h' := by
  obtain ⟨hff, hcall, _⟩ := he.fn f fn hfn
  refine callsIn_wide.1 (callsIn_of_wp_marks (F := Fw none) (n := 0) hff hc trivial ?_)
  have hul : us.length = args.length := hv.len
  have hsr : SR e w.heap.size w Z R ⟨Fr fn.ntmps (pairs0 0 args), hp⟩ { tmps := us.toArray ++ Array.replicate (fn.ntmps - us.toArray.size) undef, defers := [] } := by
    refine ⟨hh, ⟨by rw [Fr_len]; simp; omega, fun t x hx => ?_⟩, trivial, hg, Nat.le_refl _⟩
    rw [Fr_get] at hx
    split at hx
    · injection hx with hx
      obtain ⟨j, h1, h2⟩ := lk_pairs0 _ 0 t x hx
      rw [Nat.zero_add] at h1
      subst h1
      obtain ⟨u, hu1, hu2⟩ := hv.get h2
      have e0 : us.toArray ++ Array.replicate (fn.ntmps - us.toArray.size) undef = (us ++ List.replicate (fn.ntmps - us.length) undef).toArray := by simp
      rw [e0, Array.getD_eq_getD_getElem?, List.getElem?_toArray, List.getElem?_append_left (List.getElem?_eq_some_iff.1 hu1).1, hu1]
      exact hu2
    · cases hx
  refine sem none w.heap.size _ _ w Z R (fun _ => rfl) hsr hy fun x s' a' w' Z' R' hQ sr' st => ?_
  obtain ⟨hex, ys, hys, hO⟩ := hQ
  have hl := leaves_mks (E := e) (w := w') (a := a') (fn := fn) (S := fun v w'' => ∃ Z' R' x h', Out x h' ∧ HR w'' Z' R' h' ∧ VR w'' Z' R' x v ∧ Step w Z R hp w'' Z' R' h') hys (fun w'' u g1 g2 g3 g4 g5 g6 g7 => ⟨Z', R', _, _, hO, g6, g7, ⟨g2.trans st.os, g3.trans st.tape, g4.trans st.output, by rw [g1]; exact st.size, fun c hc hn => (g5 c hc).trans (st.block c hc hn), st.own_, st.z, st.z', st.r⟩⟩) (D := a'.defers) (w1 := w') sr' rfl rfl rfl rfl (fun _ _ => rfl)
  rcases hex with rfl | rfl
  · exact hl
  · exact hl
section
variable {E : Env} {cx : Cx} {ops : Array Oper} {rest rest' : List Oper} {K : St → Prop} {n : Nat} {l : List (Nat × AV)} {hp : Hp}
/-- A call whose body is gone through. -/
theorem RunS.inlY (hP : E.P = E0.P) (hG : E.G = E0.G) {e : Env} (he : EnvOk e) (heP : e.P = E0.P) (heG : e.G = E0.G) {d : Nat} {f : Operand} {args : Array Operand} {tys : Array TypeId} {ty : TypeId} {pos : String} {af : Array Edge} {g : Option (Nat × Bool)} {fid : FuncId} {caps xs : List AV} {fn : Func} {c : Code} {Out : AV → Hp → Prop} (hr : rest = ⟨some d, .call ⟨.value f, args, tys⟩, ty, pos, af, g⟩ :: rest') (hw : wantedA ops (Fr n l) ⟨some d, .call ⟨.value f, args, tys⟩, ty, pos, af, g⟩ = some true)
    (hf : opA E (Fr n l) f = some (.fn fid [] caps)) (ha : opds (opA E (Fr n l)) args.toList = some xs) (hfn : e.fn fid = some fn) (hc : fn.body = some c) (hle : (xs ++ caps).length ≤ fn.ntmps)
    (sem : SemY e ⟨none, false⟩ c ⟨Fr fn.ntmps (pairs0 0 (xs ++ caps)), hp⟩ fun x s' => (x = .normal ∨ x = .ret) ∧ ∃ ys, resA e.P s'.fr s'.hp fn.results.toList = some ys ∧ Out (retA ys) s'.hp)
    (k : ∀ x h', Out x h' → RunS E ops rest' ⟨Fr n ((d, x) :: l), h'⟩ K) : RunS E ops rest ⟨Fr n l, hp⟩ K := by
  obtain ⟨P, fns, G, X, I⟩ := E
  obtain ⟨P', fns', G', X', I'⟩ := e
  simp only at hP hG heP heG
  subst hP hG heP heG
  subst hr
  intro base Q a w Z R sr q
  have hρ : ∀ o x, opA ⟨E0.P, fns, E0.G, X, I⟩ (Fr n l) o = some x → VR w Z R x (a.eval o) := fun o x e => opA_vr sr o x e
  unfold LwL
  rw [if_pos (wantedA_eq sr hw)]
  have hvf := hρ _ _ hf
  generalize hvq : a.eval f = vf at hvf
  cases hvf with
  | fn hl hl' hx hy =>
    rename_i u1 u2
    have e1 : u1 = [] := by simpa using hl
    subst e1
    obtain ⟨hff, hcall, _⟩ := he.fn fid fn hfn
    unfold Lw
    rw [run_call (uf := []) (uc := u2) rfl hvq rfl hcall w]
    simp only [List.nil_append]
    have hargs : VRs w Z R (xs ++ caps) (args.toList.map a.eval ++ u2) := (opds_vr hρ ha).append ⟨hl', hy⟩
    refine Ret.mono (ret_semY he hfn hc hle sem sr.hh hargs sr.gl (fun y hy => by cases hy)) fun v w' hS => ?_
    obtain ⟨Z', R', x, h', hO, h1, h2, st⟩ := hS
    have sr' := (sr.step h1 st).put (d := some d) h2
    rw [show putA (⟨Fr n l, hp⟩ : St).fr (some d) x = Fr n ((d, x) :: l) from putA_Fr n l d _] at sr'
    exact k x h' hO base Q _ w' Z' R' sr' fun s' a' w'' Z'' R'' hK sr'' st' => q s' a' w'' Z'' R'' hK sr'' (st.w.trans st')
/-- Only the first m blocks are kept. -/
theorem HR.trunc {w0 w : World} {Z0 Z : Nat → Prop} {R0 R : List RI} {h0 h h' : Hp} {m : Nat} (st : Step w0 Z0 R0 h0 w Z R h) (hl0 : R0.length = h0.length) (hm0 : h0.length ≤ m) (hh : HR w Z R h) (hm : (Nat.ble m h.length && Nat.ble h.length 1000000000) = true) (hk : HpUp (List.range m) h (List.range m) h') :
    HR w Z (newR (List.range m) R) h' ∧ Step w0 Z0 R0 h0 w Z (newR (List.range m) R) h' := by
  simp only [Bool.and_eq_true] at hm
  have hm1 := Nat.le_of_ble_eq_true hm.1
  have hb := Nat.le_of_ble_eq_true hm.2
  have hlen := hh.len
  obtain ⟨k1, k2⟩ := hk.at_
  rw [List.length_range] at k1
  have hι : ∀ i ∈ List.range m, i < R.length := fun i hi => by have := List.mem_range.1 hi; omega
  have hbR : R.length ≤ 1000000000 := by omega
  have hget : ∀ j, j < m → (newR (List.range m) R)[j]? = R[j]? := fun j hj => by
    unfold newR
    rw [List.getElem?_map, List.getElem?_range hj, Option.map_some, List.getD_eq_getElem?_getD, List.getElem?_eq_getElem (by omega : j < R.length)]; rfl
  have hrange : ∀ (j b : Nat), (List.range m)[j]? = some b → j < m ∧ b = j := fun j b hj => by
    obtain ⟨h1, h2⟩ := List.getElem?_eq_some_iff.1 hj
    rw [List.length_range] at h1
    rw [List.getElem_range] at h2
    exact ⟨h1, h2.symm⟩
  have hown : ∀ c, own (newR (List.range m) R) h' c → own R h c := fun c ⟨j, B, r, h1, h2, h3, h4⟩ => by
    obtain ⟨b, q1, q2, _⟩ := k2 j B h1
    obtain ⟨hj, rfl⟩ := hrange _ _ q1
    rw [hget b hj] at h3
    exact ⟨b, _, r, q2, h2, h3, h4⟩
  refine ⟨⟨by rw [k1]; simp [newR], fun j B hB => ?_, fun j j' B B' r r' hB hf hB' hf' h1 h2 e => ?_, hh.zlt⟩, ⟨st.os, st.tape, st.output, st.size, st.block, fun c hc => st.own_ c (hown c hc), st.z, st.z', fun i x hi => ?_⟩⟩
  · obtain ⟨b, q1, q2, q3⟩ := k2 j B hB
    obtain ⟨hj, rfl⟩ := hrange _ _ q1
    obtain ⟨r, arr, us, g1, g2, g3, g4, g5, g6, g7, g8, g9, g10⟩ := hh.blk b _ q2
    refine ⟨r, arr, us, (hget b hj).trans g1, g2, g3, g4, by simpa using g5, g6, g7, g8, ⟨by have := g9.len; simpa using this, fun i x u hx hu => ?_⟩, g10⟩
    exact up_vr hι hbR (q3 x (List.mem_of_getElem? hx)) (g9.at_ i _ u (by simp [hx]) hu)
  · obtain ⟨b, q1, q2, _⟩ := k2 j B hB
    obtain ⟨b', q1', q2', _⟩ := k2 j' B' hB'
    obtain ⟨hj, rfl⟩ := hrange _ _ q1
    obtain ⟨hj', rfl⟩ := hrange _ _ q1'
    rw [hget b hj] at h1
    rw [hget b' hj'] at h2
    exact hh.inj b b' _ _ r r' q2 hf q2' hf' h1 h2 e
  · have := (List.getElem?_eq_some_iff.1 hi).1
    rw [hget i (by omega)]
    exact st.r i x hi
/-- .. in the midst of such a body: what it made is dropped. -/
theorem RunY.inl (hP : E.P = E0.P) (hG : E.G = E0.G) {e : Env} (he : EnvOk e) (heP : e.P = E0.P) (heG : e.G = E0.G) {d : Nat} {f : Operand} {args : Array Operand} {tys : Array TypeId} {ty : TypeId} {pos : String} {af : Array Edge} {g : Option (Nat × Bool)} {fid : FuncId} {caps xs : List AV} {fn : Func} {c : Code} {Out : AV → Hp → Prop} (m : Nat) (hm0 : hp.length = m) (hr : rest = ⟨some d, .call ⟨.value f, args, tys⟩, ty, pos, af, g⟩ :: rest') (hw : wantedA ops (Fr n l) ⟨some d, .call ⟨.value f, args, tys⟩, ty, pos, af, g⟩ = some true)
    (hf : opA E (Fr n l) f = some (.fn fid [] caps)) (ha : opds (opA E (Fr n l)) args.toList = some xs) (hfn : e.fn fid = some fn) (hc : fn.body = some c) (hle : (xs ++ caps).length ≤ fn.ntmps)
    (sem : SemY e ⟨none, false⟩ c ⟨Fr fn.ntmps (pairs0 0 (xs ++ caps)), hp⟩ fun x s' => (x = .normal ∨ x = .ret) ∧ ∃ ys, resA e.P s'.fr s'.hp fn.results.toList = some ys ∧ Out (retA ys) s'.hp)
    (k : ∀ x h', Out x h' → ∃ h'', (Nat.ble m h'.length && Nat.ble h'.length 1000000000) = true ∧ HpUp (List.range m) h' (List.range m) h'' ∧ (up (List.range m) x = x ∧ flat2 x = true) ∧ RunY E cx ops rest' ⟨Fr n ((d, x) :: l), h''⟩ K) : RunY E cx ops rest ⟨Fr n l, hp⟩ K := by
  obtain ⟨P, fns, G, X, I⟩ := E
  obtain ⟨P', fns', G', X', I'⟩ := e
  simp only at hP hG heP heG
  subst hP hG heP heG
  subst hr
  intro ro base Q a w Z R hro sr hy q
  have hρ : ∀ o x, opA ⟨E0.P, fns, E0.G, X, I⟩ (Fr n l) o = some x → VR w Z R x (a.eval o) := fun o x e => opA_vr sr o x e
  unfold wpListIn
  rw [if_pos (wantedA_eq sr hw)]
  refine lw_wpIn ro ?_
  have hvf := hρ _ _ hf
  generalize hvq : a.eval f = vf at hvf
  cases hvf with
  | fn hl hl' hx hy' =>
    rename_i u1 u2
    have e1 : u1 = [] := by simpa using hl
    subst e1
    obtain ⟨hff, hcall, _⟩ := he.fn fid fn hfn
    unfold Lw
    rw [run_call (uf := []) (uc := u2) rfl hvq rfl hcall w]
    simp only [List.nil_append]
    have hargs : VRs w Z R (xs ++ caps) (args.toList.map a.eval ++ u2) := (opds_vr hρ ha).append ⟨hl', hy'⟩
    refine Ret.mono (ret_semY he hfn hc hle sem sr.hh hargs sr.gl (fun y hy => by cases hy)) fun v w' hS => ?_
    obtain ⟨Z', R', x, h', hO, h1, h2, st⟩ := hS
    obtain ⟨h'', hm, hk, ⟨hx1, hx2⟩, kk⟩ := k x h' hO
    have hl1 : R.length = hp.length := sr.hh.len
    obtain ⟨j1, j2⟩ := HR.trunc st hl1 (Nat.le_of_eq hm0) h1 hm hk
    simp only [Bool.and_eq_true] at hm
    have hm1 := Nat.le_of_ble_eq_true hm.1
    have hm2 := Nat.le_of_ble_eq_true hm.2
    have hl2 := h1.len
    have hvx : VR w' Z' (newR (List.range m) R') x v := up_vr (fun i hi => by have := List.mem_range.1 hi; omega) (by omega) hx2 (by rw [hx1]; exact h2)
    have sr' := (sr.step j1 j2).put (d := some d) hvx
    rw [show putA (⟨Fr n l, hp⟩ : St).fr (some d) x = Fr n ((d, x) :: l) from putA_Fr n l d _] at sr'
    exact kk ro base Q _ w' Z' _ hro sr' (hy.step sr.hh j2) fun s' a' w'' Z'' R'' hK sr'' st' => q s' a' w'' Z'' R'' hK sr'' (j2.trans st')
/-- A yield: a round of the range that is under way. -/
theorem RunY.yield (hP : E.P = E0.P) (hG : E.G = E0.G) {eb : Env} (hbP : eb.P = E0.P) (hbG : eb.G = E0.G) {y : YC} (hcx : cx.y = some y) (hin : cx.inR = false) {d : Nat} {f : Operand} {args : Array Operand} {tys : Array TypeId} {ty : TypeId} {pos : String} {af : Array Edge} {g : Option (Nat × Bool)} {xs : List AV} {K1 : Hp → Prop} (hr : rest = ⟨some d, .call ⟨.value f, args, tys⟩, ty, pos, af, g⟩ :: rest') (hw : wantedA ops (Fr n l) ⟨some d, .call ⟨.value f, args, tys⟩, ty, pos, af, g⟩ = some true)
    (hf : opA E (Fr n l) f = some (.yl y.b)) (ha : opds (opA E (Fr n l)) args.toList = some xs) (hlen : xs.length = y.ps.length) {n0 : Nat} {l0 : List (Nat × AV)} (hfr : y.fr = Fr n0 l0)
    (hb : SemY eb ⟨none, true⟩ y.assign ⟨Fr n0 (pz y.ps xs l0), hp⟩ fun e s1 => e = .normal ∧ SemY eb ⟨none, true⟩ y.body s1 fun e s2 => e = .normal ∧ K1 s2.hp)
    (k : ∀ h', K1 h' → RunY E cx ops rest' ⟨Fr n ((d, .v (.bool true)) :: l), h'⟩ K) : RunY E cx ops rest ⟨Fr n l, hp⟩ K := by
  obtain ⟨P, fns, G, X, I⟩ := E
  obtain ⟨P', fns', G', X', I'⟩ := eb
  simp only at hP hG hbP hbG
  subst hP hG hbP hbG
  subst hr
  intro ro base Q a w Z R hro sr hy q
  have hρ : ∀ o x, opA ⟨E0.P, fns, E0.G, X, I⟩ (Fr n l) o = some x → VR w Z R x (a.eval o) := fun o x e => opA_vr sr o x e
  unfold wpListIn
  rw [if_pos (wantedA_eq sr hw)]
  have hro' := hro hin
  subst hro'
  have hvs := opds_vr hρ ha
  have hvf := hρ _ _ hf
  have hyy := hy
  obtain ⟨d1, d2, r, L, g1, g2, g3, g4, g5, g6, g7, g8, g9, g10⟩ := hy y hcx
  generalize hvq : a.eval f = vf at hvf
  cases hvf with
  | yl hr =>
    rename_i r'
    rw [g1] at hr
    injection hr with hr
    subst hr
    generalize hus : args.toList.map a.eval = us at hvs
    have hargs : args.map a.eval = us.toArray := by
      apply Array.ext'
      rw [← hus, Array.toList_map]
    have hps : us.toArray.size = L.params.size := by rw [g7]; simp [hvs.len, hlen]
    have hrun : (execOp a.eval (⟨some d, .call ⟨.value f, args, tys⟩, ty, pos, af, g⟩ : Oper)).run E0.P w = .ok (.round r.c L.fn ((L.params.zip us.toArray).foldl (fun tmps (t, a) => tmps.setIfInBounds t a) L.tmps) L.assign L.body) w := by
      simp only [execOp, resolve, hvq, hargs, Deferred.ofValue]
      rw [Sem.run_bind, Sem.run_pure]
      simp only [Result.andThen, invoke, Array.empty_append]
      exact run_yield g4 hps
    refine ⟨fun _ _ => trivial, ?_⟩
    rw [show (Fw none).round = none from rfl, semAt_run none hrun (by simp), Oper.uponIn_round]
    refine ⟨(fun h => by cases h), ?_⟩
    refine roundIn_of_wpIn (F := Fw none) trivial ?_
    rw [g8, g9]
    have hfr0 : FrR w Z R (setPs y.fr y.ps xs) ((L.params.zip us.toArray).foldl (fun tmps (t, a) => tmps.setIfInBounds t a) L.tmps) := by
      have := setPs_fr (ps := y.ps) g10 hvs
      have e0 : (L.params.zip us.toArray).foldl (fun tmps (t, a) => tmps.setIfInBounds t a) L.tmps = (y.ps.zip us).foldl (fun tmps (x : Tmp × Value) => tmps.setIfInBounds x.1 x.2) L.tmps := by
        rw [g7, ← Array.foldl_toList]; simp
      rw [e0]; exact this
    rw [hfr, setPs_Fr] at hfr0
    have hlt := heapLt g4
    refine hb (some r.c) 0 _ { tmps := _, defers := [] } w Z R (fun h => by cases h) ⟨sr.hh, hfr0, trivial, sr.gl, Nat.zero_le _⟩ (fun y hy => by cases hy) fun e1 s1 a1 w1 Z1 R1 hQ1 sr1 st1 => ?_
    obtain ⟨rfl, hb2⟩ := hQ1
    obtain ⟨p1, p2, p3⟩ := st1.other g4 g2 g3
    refine ⟨_, run_beginRound p1 g5, ?_⟩
    have hlt1 := heapLt p1
    have hb1 : ∀ c, (Z1 c ∨ own R1 s1.hp c) → (w1.putObj r.c (.loop { L with state := .busy })).heap[c]? = w1.heap[c]? := fun c hc => put_ne (fun e => by subst e; exact hc.elim p2 p3)
    have hh2 := sr1.hh.off (put_size _ _ _) hb1
    refine hb2 (some r.c) 0 _ a1 _ Z1 R1 (fun h => by cases h) ⟨hh2, sr1.fr.off fun c hc => hb1 c (.inl hc), ?_, sr1.gl.off fun c hc => hb1 c (.inl hc), Nat.zero_le _⟩ (fun y hy => by cases hy) fun e2 s2 a2 w3 Z3 R3 hQ2 sr3 st3 => ?_
    · exact sr1.mks.put (fun d hd e => by
        have : ∀ {D : List Deferred}, Mks 0 w1 Z1 R1 s1.hp D → mark r.c ∈ D → False := by
          intro D
          induction D with
          | nil => intro _ h; cases h
          | cons d D ih =>
            rintro ⟨⟨q, _, q2, q3, _⟩, hD⟩ hm
            rcases List.mem_cons.1 hm with hm | hm
            · rw [← hm] at q2
              have : r.c = q := by unfold mark at q2; injection q2 with q2; injection q2
              subst this
              rw [p1] at q3
              cases q3
            · exact ih hD hm
        subst e
        exact this sr1.mks hd)
    · obtain ⟨rfl, hK1⟩ := hQ2
      have hput : (w1.putObj r.c (.loop { L with state := .busy })).heap[r.c]? = some (.loop { L with state := .busy }) := World.putObj_heap_same hlt1
      obtain ⟨q1, q2, q3⟩ := st3.other hput p2 p3
      have hlt3 := heapLt q1
      refine ⟨_, _, run_endRound none q1, ?_⟩
      have hb3 : ∀ c, (Z3 c ∨ own R3 s2.hp c) → (w3.putObj r.c (.loop { { L with state := .busy } with state := if (none : Option Code).isNone then .ready else .done, pending := none })).heap[c]? = w3.heap[c]? := fun c hc => put_ne (fun e => by subst e; exact hc.elim q2 q3)
      have hL : ({ { L with state := .busy } with state := if (none : Option Code).isNone then .ready else .done, pending := none } : Loop) = L := by
        cases L; simp at g5 g6; subst g5 g6; rfl
      have stF : Step w Z R hp (w3.putObj r.c (.loop { { L with state := .busy } with state := if (none : Option Code).isNone then .ready else .done, pending := none })) Z3 R3 s2.hp := by
        refine ⟨?_, ?_, ?_, ?_, fun c hc hn => ?_, fun c hc => ?_, fun c hc => st3.z c (st1.z c hc), fun c hc => ?_, fun i q hq => st3.r i q (st1.r i q hq)⟩
        · exact st3.os.trans st1.os
        · exact st3.tape.trans st1.tape
        · exact st3.output.trans st1.output
        · rw [put_size]
          have := st3.size
          rw [put_size] at this
          exact Nat.le_trans st1.size this
        · by_cases hcr : c = r.c
          · subst hcr
            rw [World.putObj_heap_same hlt3, hL]
            exact g4.symm
          · rw [put_ne hcr]
            have hc1 : c < w1.heap.size := Nat.lt_of_lt_of_le hc st1.size
            have hno : ¬ own R1 s1.hp c := fun ho => by
              rcases st1.own_ c ho with h1 | h1
              · exact hn h1
              · omega
            rw [st3.block c (by rw [put_size]; exact hc1) hno, put_ne hcr]
            exact st1.block c hc hn
        · rcases st3.own_ c hc with h1 | h1
          · exact st1.own_ c h1
          · rw [put_size] at h1; exact .inr (Nat.le_trans st1.size h1)
        · rcases st3.z' c hc with h1 | h1 | h1
          · exact st1.z' c h1
          · rcases st1.own_ c h1 with h2 | h2
            · exact .inr (.inl h2)
            · exact .inr (.inr h2)
          · rw [put_size] at h1; exact .inr (.inr (Nat.le_trans st1.size h1))
      have sr' := (sr.step (sr3.hh.off (put_size _ _ _) hb3) stF).put (d := some d) (x := .v (.bool true)) (u := .bool true) (.v rfl)
      rw [show putA (⟨Fr n l, hp⟩ : St).fr (some d) (.v (.bool true)) = Fr n ((d, .v (.bool true)) :: l) from putA_Fr n l d _] at sr'
      exact k s2.hp hK1 none base Q _ _ Z3 R3 hro sr' (hyy.step sr.hh stF) fun s' a' w'' Z'' R'' hK sr'' st' => q s' a' w'' Z'' R'' hK sr'' (stF.trans st')
/-- A range over a function. -/
theorem Sem.range {cx : Cx} {Q : Ex → St → Prop} (hP : E.P = E0.P) (hG : E.G = E0.G) {e : Env} (he : EnvOk e) (heP : e.P = E0.P) (heG : e.G = E0.G) (hin : cx.inR = false) {f : Operand} {ps : Array Tmp} {assign body : Code} {gid : FuncId} {caps : List AV} {fn : Func} {c : Code} {Out : AV → Hp → Prop} (hd1 : drawOk assign = true) (hd2 : drawOk body = true)
    (hf : opA E (Fr n l) f = some (.fn gid [] caps)) (hfn : e.fn gid = some fn) (hc : fn.body = some c) (hle : (.yl hp.length :: caps).length ≤ fn.ntmps)
    (sem : SemY e ⟨some ⟨hp.length, Fr n l, ps.toList, assign, body⟩, false⟩ c ⟨Fr fn.ntmps (pairs0 0 (.yl hp.length :: caps)), hp ++ [none]⟩ fun x s' => (x = .normal ∨ x = .ret) ∧ ∃ ys, resA e.P s'.fr s'.hp fn.results.toList = some ys ∧ Out (retA ys) s'.hp)
    (k : ∀ x h', Out x h' → Q .normal ⟨Fr n l, h'⟩) : Sem E cx (.rangeFunc f ps assign body) ⟨Fr n l, hp⟩ Q := by
  obtain ⟨P, fns, G, X, I⟩ := E
  obtain ⟨P', fns', G', X', I'⟩ := e
  simp only at hP hG heP heG
  subst hP hG heP heG
  intro ro base Qm a w Z R h1 sr h3 kk
  have hro := h1 hin
  subst hro
  have hvf : VR w Z R (.fn gid [] caps) (a.eval f) := opA_vr sr _ _ hf
  generalize hva : a.eval f = va at hvf
  cases hvf with
  | fn hl hl' hx hy' =>
    rename_i uf uc
    have e1 : uf = [] := by simpa using hl
    subst e1
    refine wpIn_rangeFunc fun fnn _ => ?_
    obtain ⟨hff, hcall, _⟩ := he.fn gid fn hfn
    obtain ⟨L, hL⟩ : ∃ L : Loop, L = { state := .ready, pending := none, fn := fnn, tmps := a.tmps, params := ps, assign, body, defers := w.heap.size } := ⟨_, rfl⟩
    obtain ⟨w1, hw1⟩ : ∃ w1, w1 = (w.alloc (.deferred (some []))).alloc (.loop L) := ⟨_, rfl⟩
    have hsz : w1.heap.size = w.heap.size + 2 := by rw [hw1]; simp
    have hg1 : w.grownBy w1 none := by
      rw [hw1]
      refine ⟨rfl, rfl, rfl, by simp; omega, fun c hc _ => ?_⟩
      rw [heap_alloc_old _ _ (by simp; omega), heap_alloc_old _ _ hc]
    have hmk : w1.heap[w.heap.size]? = some (.deferred (some [])) := by
      rw [hw1, heap_alloc_old _ _ (by simp)]; exact heap_alloc_new w _
    have hlp : w1.heap[w.heap.size + 1]? = some (.loop L) := by
      rw [hw1]
      have := heap_alloc_new (w.alloc (.deferred (some []))) (.loop L)
      simpa using this
    have hh1 := sr.hh.keep (w' := w1) hg1.size (fun c hc => hg1.block c hc (by simp))
    have st0 : Step w Z R hp w1 Z R hp := ⟨hg1.os, hg1.tape, hg1.output, hg1.size, fun c hc _ => hg1.block c hc (by simp), fun _ h => .inl h, fun _ h => h, fun _ h => .inl h, fun _ _ h => h⟩
    obtain ⟨hh2, st2, hlast, hown2⟩ := hh1.dead (r := ⟨w.heap.size + 1, 0, 0⟩)
    have st02 := st0.trans st2
    have hnz : ∀ c, w.heap.size ≤ c → ¬ Z c := fun c hc hz => by have := sr.hh.zlt c hz; omega
    have hno : ∀ c, w.heap.size ≤ c → ¬ own (R ++ [⟨w.heap.size + 1, 0, 0⟩]) (hp ++ [none]) c := fun c hc ho => by
      obtain ⟨b, B, r, q1, q2, q3, rfl⟩ := hown2 c ho
      have := sr.hh.rltL q1 q3; omega
    have hvs : VRs w1 Z (R ++ [⟨w.heap.size + 1, 0, 0⟩]) (.yl hp.length :: caps) (Value.func (.yield (w.heap.size + 1)) #[] #[] :: uc) :=
      .cons (.yl hlast) (VRs.step ⟨hl', hy'⟩ sr.hh st02)
    have hy : YI ⟨some ⟨hp.length, Fr n l, ps.toList, assign, body⟩, false⟩ w1 Z (R ++ [⟨w.heap.size + 1, 0, 0⟩]) (hp ++ [none]) := by
      intro y hy
      injection hy with hy
      subst hy
      exact ⟨hd1, hd2, _, L, hlast, hnz _ (by simp), hno _ (by simp), hlp, by rw [hL], by rw [hL], by rw [hL], by rw [hL], by rw [hL], by rw [hL]; exact sr.fr.step sr.hh st02⟩
    have hr := ret_semY he hfn hc hle sem hh2 hvs (sr.gl.step sr.hh st02) hy
    refine ⟨w.heap.size + 1, [mark w.heap.size], w1, { target := .fn (.func gid) uc.toArray, args := ([] : List Value).toArray ++ #[Value.func (.yield (w.heap.size + 1)) #[] #[]] }, w1, gid, (Value.func (.yield (w.heap.size + 1)) #[] #[] :: uc).toArray, w1, ?_, ?_, fun _ _ => trivial, ?_, (fun h => by cases h), ?_⟩
    · rw [hw1, hL]; exact run_enterLoop_outer fnn a.tmps ps assign body
    · simp [resolve, hva, Deferred.ofValue]
      rfl
    · simp [invoke, hcall.run]
    · refine callsIn_fw none _ (Ret.calls hr fun v w3 hS => ?_)
      obtain ⟨Z3, R3, x3, h', hO, hh3, _, st3⟩ := hS
      obtain ⟨p1, p2, p3⟩ := st3.other hlp (hnz _ (by simp)) (hno _ (by simp))
      obtain ⟨m1, m2, m3⟩ := st3.other hmk (hnz _ (Nat.le_refl _)) (hno _ (Nat.le_refl _))
      refine ⟨_, _, run_endLoop p1 (by rw [hL]; simp), ?_⟩
      have hpend : L.pending = none := by rw [hL]
      split
      rotate_left
      · next hc => rw [hpend] at hc; cases hc
      have hb : ∀ c, (Z3 c ∨ own R3 h' c) → (w3.putObj (w.heap.size + 1) (.loop { L with state := .exhausted })).heap[c]? = w3.heap[c]? := fun c hc => put_ne (fun e => by subst e; exact hc.elim p2 p3)
      have st03 := st02.trans st3
      refine kk .normal ⟨Fr n l, h'⟩ _ _ Z3 R3 (k x3 h' hO) ⟨hh3.off (put_size _ _ _) hb, (sr.fr.step sr.hh st03).off fun c hc => hb c (.inl hc), ?_, (sr.gl.step sr.hh st03).off fun c hc => hb c (.inl hc), ?_⟩ (Step.w ⟨st03.os, st03.tape, st03.output, ?_, fun c hc hn => ?_, st03.own_, st03.z, st03.z', st03.r⟩)
      · refine ⟨⟨w.heap.size, sr.bs, rfl, (put_ne (by omega)).trans m1, m2, m3, fun d hd e => ?_⟩, ?_⟩
        · subst e
          exact mks_new (Nat.le_refl _) sr.mks hd
        · refine Mks.put (sr.mks.step st03) fun d hd e => ?_
          subst e
          exact mks_new (Nat.le_succ _) sr.mks hd
      · rw [put_size]; exact Nat.le_trans sr.bs st03.size
      · rw [put_size]; exact st03.size
      · rw [put_ne (by omega)]; exact st03.block c hc hn
end
/- trestle/evening.guests -/
noncomputable def e_evening_guests : Env := E0
theorem e_evening_guests_ok : EnvOk e_evening_guests := E0_ok
noncomputable def cb_evening_guests : Code := codeOf Tryd.f34
def evening_guests (x0 : Int) : Option (Bool) :=
  (if (decide (x0 ≥ 1)) = true then some (decide (x0 ≤ 64)) else some false).bind fun j2 =>
  some j2
def cs_evening_guests : Cs (Int × Unit) := (csC cdI csN)
def er_evening_guests (r : Bool) : AV := cdB.enc r
set_option maxHeartbeats 4000000 in
set_option maxRecDepth 100000 in
theorem evening_guests_sem (x0 : Int) (r : Bool) (h : evening_guests x0 = some r) : Sem e_evening_guests ⟨none, false⟩ cb_evening_guests ⟨Fr 9 (pairs0 0 (cs_evening_guests.enc (x0, ()))), []⟩ fun e s' => (e = .normal ∨ e = .ret) ∧ ∃ xs, resA e_evening_guests.P s'.fr s'.hp Tryd.f34.results.toList = some xs ∧ retA xs = er_evening_guests r := by
  unfold evening_guests at h
  refine Sem.wkQ (Sem.wk (s1 := ⟨Fr 9 [(0, .v (.int .i64 x0))], []⟩) Wk.f1 ?_)
  refine Sem.seq ?_
  refine Sem.runS (s1 := ⟨Fr 9 [(0, .v (.int .i64 x0))], []⟩) ?_ ?_
  · refine RunS.segF (n := 9) e_evening_guests_ok 1 [(0, .v (.int .i64 x0))] [] (by kernel_rfl) ?_
    exact RunS.done rfl Wk.f1
  refine Sem.seq ?_
  obtain ⟨j2, hj2, h⟩ := Option.bind_eq_some_iff.1 h
  refine Sem.runS (s1 := ⟨Fr 9 [(2, .v (.bool j2))], []⟩) ?_ ?_
  · refine RunS.segF (n := 9) e_evening_guests_ok 3 [(0, .v (.int .i64 x0)), (5, .v (.bool (decide (x0 ≥ 1))))] [] (by kernel_rfl) ?_
    rcases Bool.eq_false_or_eq_true (decide (x0 ≥ 1)) with hc3 | hc3
    · rw [if_pos hc3] at hj2
      rw [hc3]
      refine RunS.segF (n := 9) e_evening_guests_ok 4 [(2, .v (.bool (decide (x0 ≤ 64))))] [] (by kernel_rfl) ?_
      have hq := Option.some.inj hj2; subst hq
      exact RunS.done rfl Wk.f1
    · rw [if_f hc3] at hj2
      rw [hc3]
      refine RunS.segF (n := 9) e_evening_guests_ok 4 [(2, .v (.bool false))] [] (by kernel_rfl) ?_
      have hq := Option.some.inj hj2; subst hq
      exact RunS.done rfl Wk.f1
  refine Sem.ret ?_
  have hq := Option.some.inj h; subst hq
  exact ⟨⟨Fr 9 [(2, .v (.bool j2))], []⟩, Wk.f1, .inr rfl, [.v (.bool j2)], (by kernel_rfl), (by kernel_rfl)⟩
def t_evening_guests : List AV → Option AV := told cs_evening_guests (fun a => evening_guests a.1) er_evening_guests
theorem x_evening_guests : XOk 34 t_evening_guests := by
  refine EnvOk.x (E := e_evening_guests) (contract_ok e_evening_guests_ok (fn := Tryd.f34) (c := cb_evening_guests) ?h1 ?h2 ⟨Tryd.call34⟩ cs_evening_guests (fun a => evening_guests a.1) er_evening_guests (fun a => (by show 1 ≤ 9; decide)) ?h3 ?h4) rfl rfl
  case h1 => kernel_rfl
  case h2 => kernel_rfl
  case h3 => intro b; kernel_rfl
  case h4 => exact fun a b h => evening_guests_sem a.1 b h
/- trestle/evening.fit -/
noncomputable def e_evening_fit : Env := (E0.withX 34 t_evening_guests)
theorem e_evening_fit_ok : EnvOk e_evening_fit := (EnvOk.withX E0_ok x_evening_guests.1 x_evening_guests.2)
noncomputable def cb_evening_fit : Code := codeOf Tryd.f40
def evening_fit_1 (x0 : Int) (x1 : (List Int)) : Nat → Int → Int → Option ((Int) ⊕ (Bool))
  | 0, _, _ => none
  | f + 1, c1, c2 =>
    if (decide (c2 < (x1.length : Int))) = true then
    (idx x1 c2).bind fun v4 =>
    (if (decide (v4 < 1)) = true then some true else some (decide (v4 > c1))).bind fun j6 =>
    if j6 = true then
    some (.inr false)
    else
    evening_fit_1 x0 x1 f (wr .i64 (c1 - v4)) (wr .i64 (c2 + 1))
    else
    some (.inl c1)
def evening_fit (x0 : Int) (x1 : (List Int)) : Option (Bool) :=
  (evening_fit_1 x0 x1 100000 x0 0).bind fun r11 =>
  match r11 with
  | (.inl w12) =>
    (evening_guests x0).bind fun v13 =>
    (if v13 = true then some (w12 == 0) else some false).bind fun j15 =>
    some j15
  | (.inr w17) =>
    some w17
def cs_evening_fit : Cs (Int × (List Int) × Unit) := (csC cdI (csC (cdL 1 cdI) csN))
def er_evening_fit (r : Bool) : AV := cdB.enc r
set_option maxHeartbeats 4000000 in
set_option maxRecDepth 100000 in
theorem evening_fit_1_ok (x0 : Int) (x1 : (List Int)) : ∀ (f : Nat) (c1 : Int) (c2 : Int) (r : (Int) ⊕ (Bool)), evening_fit_1 x0 x1 f c1 c2 = some r → SemN e_evening_fit ⟨none, false⟩ (pc cb_evening_fit [1, 1, 0, 1, 0, 0]) f ⟨Fr 32 [(0, .v (.int .i64 x0)), (5, .v (.int .i64 c1)), (9, .sl 1 (x1.map cdI.enc)), (10, .v (.int .i64 (x1.length : Int))), (11, .v (.int .i64 c2))], []⟩ (fun e s => match r with
  | (.inl w) => e = (.exit 0) ∧ Wk e_evening_fit s ⟨Fr 32 [(0, .v (.int .i64 x0)), (5, .v (.int .i64 w))], []⟩
  | (.inr w) => e = .ret ∧ Wk e_evening_fit s ⟨Fr 32 [(4, .v (.bool w))], []⟩) := by
  intro f
  induction f with
  | zero => intro c1 c2 r h; cases h
  | succ f ih0 =>
    intro c1 c2 r h
    have ih := fun (c1 : Int) (c2 : Int) => ih0 c1 c2 r
    unfold evening_fit_1 at h
    refine SemN.succ ?_
    refine Sem.seq ?_
    refine Sem.runS (s1 := ⟨Fr 32 [(0, .v (.int .i64 x0)), (5, .v (.int .i64 c1)), (9, .sl 1 (x1.map cdI.enc)), (10, .v (.int .i64 (x1.length : Int))), (11, .v (.int .i64 c2)), (12, .v (.bool (decide (c2 < (x1.length : Int)))))], []⟩) ?_ ?_
    · refine RunS.segF (n := 32) e_evening_fit_ok 1 [(0, .v (.int .i64 x0)), (5, .v (.int .i64 c1)), (9, .sl 1 (x1.map cdI.enc)), (10, .v (.int .i64 (x1.length : Int))), (11, .v (.int .i64 c2)), (12, .v (.bool (decide (c2 < (x1.length : Int)))))] [] (by kernel_rfl) ?_
      exact RunS.done rfl Wk.f1
    refine Sem.seq ?_
    refine Sem.cond (b := (decide (c2 < (x1.length : Int)))) (by kernel_rfl) (fun hb3 => ?_) (fun hb3 => ?_)
    · rw [if_pos hb3] at h
      refine Sem.skip ?_
      refine Sem.seq ?_
      refine Sem.block ?_
      refine Sem.seq ?_
      obtain ⟨v4, hv4, h⟩ := Option.bind_eq_some_iff.1 h
      refine Sem.runS (s1 := ⟨Fr 32 [(0, .v (.int .i64 x0)), (5, .v (.int .i64 c1)), (7, .v (.int .i64 v4)), (9, .sl 1 (x1.map cdI.enc)), (10, .v (.int .i64 (x1.length : Int))), (11, .v (.int .i64 c2))], []⟩) ?_ ?_
      · refine RunS.one e_evening_fit_ok 0 rfl (op_q (wantedA_none rfl) rfl (q_indexAddr (a := .sl 1 (x1.map cdI.enc)) (b := .v (.int .i64 c2)) (by kernel_rfl) (by kernel_rfl) (ix_sl (e := cdI.enc) (el := 3) (k := 1) (ki := .i64) (by kernel_rfl) (by kernel_rfl) hv4))) ?_
        refine RunS.segF (n := 32) e_evening_fit_ok 2 [(0, .v (.int .i64 x0)), (5, .v (.int .i64 c1)), (7, .v (.int .i64 v4)), (9, .sl 1 (x1.map cdI.enc)), (10, .v (.int .i64 (x1.length : Int))), (11, .v (.int .i64 c2))] [] (by kernel_rfl) ?_
        exact RunS.done rfl Wk.f1
      refine Sem.seq ?_
      refine Sem.seq ?_
      obtain ⟨j6, hj6, h⟩ := Option.bind_eq_some_iff.1 h
      refine Sem.runS (s1 := ⟨Fr 32 [(0, .v (.int .i64 x0)), (5, .v (.int .i64 c1)), (7, .v (.int .i64 v4)), (9, .sl 1 (x1.map cdI.enc)), (10, .v (.int .i64 (x1.length : Int))), (11, .v (.int .i64 c2)), (21, .v (.bool j6))], []⟩) ?_ ?_
      · refine RunS.segF (n := 32) e_evening_fit_ok 3 [(0, .v (.int .i64 x0)), (5, .v (.int .i64 c1)), (7, .v (.int .i64 v4)), (9, .sl 1 (x1.map cdI.enc)), (10, .v (.int .i64 (x1.length : Int))), (11, .v (.int .i64 c2)), (17, .v (.bool (decide (v4 < 1))))] [] (by kernel_rfl) ?_
        rcases Bool.eq_false_or_eq_true (decide (v4 < 1)) with hc9 | hc9
        · rw [if_pos hc9] at hj6
          rw [hc9]
          refine RunS.segF (n := 32) e_evening_fit_ok 4 [(0, .v (.int .i64 x0)), (5, .v (.int .i64 c1)), (7, .v (.int .i64 v4)), (9, .sl 1 (x1.map cdI.enc)), (10, .v (.int .i64 (x1.length : Int))), (11, .v (.int .i64 c2)), (18, .tp []), (19, .tp []), (20, .tp []), (21, .v (.bool true))] [] (by kernel_rfl) ?_
          have hq := Option.some.inj hj6; subst hq
          exact RunS.done rfl Wk.f1
        · rw [if_f hc9] at hj6
          rw [hc9]
          refine RunS.segF (n := 32) e_evening_fit_ok 4 [(0, .v (.int .i64 x0)), (5, .v (.int .i64 c1)), (7, .v (.int .i64 v4)), (9, .sl 1 (x1.map cdI.enc)), (10, .v (.int .i64 (x1.length : Int))), (11, .v (.int .i64 c2)), (18, .v (.int .i64 v4)), (19, .v (.int .i64 c1)), (20, .v (.bool (decide (v4 > c1)))), (21, .v (.bool (decide (v4 > c1))))] [] (by kernel_rfl) ?_
          have hq := Option.some.inj hj6; subst hq
          exact RunS.done rfl Wk.f1
      refine Sem.cond (b := j6) (by kernel_rfl) (fun hb7 => ?_) (fun hb7 => ?_)
      · rw [if_pos hb7] at h
        refine Sem.seq ?_
        refine Sem.runS (s1 := ⟨Fr 32 [(4, .v (.bool false))], []⟩) ?_ ?_
        · refine RunS.segF (n := 32) e_evening_fit_ok 1 [(4, .v (.bool false))] [] (by kernel_rfl) ?_
          exact RunS.done rfl Wk.f1
        refine Sem.ret ?_
        have hq := Option.some.inj h; subst hq
        exact ⟨rfl, Wk.f1⟩
      · rw [if_f hb7] at h
        refine Sem.skip ?_
        refine Sem.runS (s1 := ⟨Fr 32 [(0, .v (.int .i64 x0)), (5, .v (.int .i64 (wr .i64 (c1 - v4)))), (9, .sl 1 (x1.map cdI.enc)), (10, .v (.int .i64 (x1.length : Int))), (11, .v (.int .i64 c2))], []⟩) ?_ ?_
        · refine RunS.segF (n := 32) e_evening_fit_ok 4 [(0, .v (.int .i64 x0)), (5, .v (.int .i64 (wr .i64 (c1 - v4)))), (9, .sl 1 (x1.map cdI.enc)), (10, .v (.int .i64 (x1.length : Int))), (11, .v (.int .i64 c2))] [] (by kernel_rfl) ?_
          exact RunS.done rfl Wk.f1
        refine Sem.runS (s1 := ⟨Fr 32 [(0, .v (.int .i64 x0)), (5, .v (.int .i64 (wr .i64 (c1 - v4)))), (9, .sl 1 (x1.map cdI.enc)), (10, .v (.int .i64 (x1.length : Int))), (11, .v (.int .i64 (wr .i64 (c2 + 1))))], []⟩) ?_ ?_
        · refine RunS.segF (n := 32) e_evening_fit_ok 2 [(0, .v (.int .i64 x0)), (5, .v (.int .i64 (wr .i64 (c1 - v4)))), (9, .sl 1 (x1.map cdI.enc)), (10, .v (.int .i64 (x1.length : Int))), (11, .v (.int .i64 (wr .i64 (c2 + 1))))] [] (by kernel_rfl) ?_
          exact RunS.done rfl Wk.f1
        exact SemN.wk (s1 := ⟨Fr 32 [(0, .v (.int .i64 x0)), (5, .v (.int .i64 (wr .i64 (c1 - v4)))), (9, .sl 1 (x1.map cdI.enc)), (10, .v (.int .i64 (x1.length : Int))), (11, .v (.int .i64 (wr .i64 (c2 + 1))))], []⟩) Wk.f1 (ih (wr .i64 (c1 - v4)) (wr .i64 (c2 + 1)) h)
    · rw [if_f hb3] at h
      refine Sem.exit ?_
      have hq := Option.some.inj h; subst hq
      exact ⟨rfl, Wk.f1⟩
set_option maxHeartbeats 4000000 in
set_option maxRecDepth 100000 in
theorem evening_fit_sem (x0 : Int) (x1 : (List Int)) (r : Bool) (h : evening_fit x0 x1 = some r) : Sem e_evening_fit ⟨none, false⟩ cb_evening_fit ⟨Fr 32 (pairs0 0 (cs_evening_fit.enc (x0, x1, ()))), []⟩ fun e s' => (e = .normal ∨ e = .ret) ∧ ∃ xs, resA e_evening_fit.P s'.fr s'.hp Tryd.f40.results.toList = some xs ∧ retA xs = er_evening_fit r := by
  unfold evening_fit at h
  refine Sem.wkQ (Sem.wk (s1 := ⟨Fr 32 [(0, .v (.int .i64 x0)), (1, .sl 1 (x1.map cdI.enc))], []⟩) Wk.f1 ?_)
  refine Sem.seq ?_
  refine Sem.runS (s1 := ⟨Fr 32 [(0, .v (.int .i64 x0)), (1, .sl 1 (x1.map cdI.enc))], []⟩) ?_ ?_
  · refine RunS.segF (n := 32) e_evening_fit_ok 1 [(0, .v (.int .i64 x0)), (1, .sl 1 (x1.map cdI.enc))] [] (by kernel_rfl) ?_
    exact RunS.done rfl Wk.f1
  refine Sem.seq ?_
  refine Sem.runS (s1 := ⟨Fr 32 [(0, .v (.int .i64 x0)), (1, .sl 1 (x1.map cdI.enc)), (5, .v (.int .i64 x0))], []⟩) ?_ ?_
  · refine RunS.segF (n := 32) e_evening_fit_ok 2 [(0, .v (.int .i64 x0)), (1, .sl 1 (x1.map cdI.enc)), (5, .v (.int .i64 x0))] [] (by kernel_rfl) ?_
    exact RunS.done rfl Wk.f1
  refine Sem.seq ?_
  refine Sem.seq ?_
  refine Sem.runS (s1 := ⟨Fr 32 [(0, .v (.int .i64 x0)), (5, .v (.int .i64 x0)), (9, .sl 1 (x1.map cdI.enc)), (10, .v (.int .i64 (x1.length : Int))), (11, .v (.int .i64 0))], []⟩) ?_ ?_
  · refine RunS.segF (n := 32) e_evening_fit_ok 1 [(0, .v (.int .i64 x0)), (5, .v (.int .i64 x0)), (9, .sl 1 (x1.map cdI.enc))] [] (by kernel_rfl) ?_
    refine RunS.one e_evening_fit_ok 0 rfl (op_q (wantedA_none rfl) rfl (q_len (a := .sl 1 (x1.map cdI.enc)) (by kernel_rfl) (len_sl (el := 3) (by kernel_rfl)))) ?_
    refine RunS.segF (n := 32) e_evening_fit_ok 1 [(0, .v (.int .i64 x0)), (5, .v (.int .i64 x0)), (9, .sl 1 (x1.map cdI.enc)), (10, .v (.int .i64 (x1.length : Int))), (11, .v (.int .i64 0))] [] (by kernel_rfl) ?_
    exact RunS.done rfl Wk.f1
  refine Sem.block ?_
  obtain ⟨r11, hr11, h⟩ := Option.bind_eq_some_iff.1 h
  refine Sem.loop (n := 100000) ?_
  rcases r11 with w12 | w17
  · try dsimp only at h
    refine Sem.cutN (SemN.wk (s1 := ⟨Fr 32 [(0, .v (.int .i64 x0)), (5, .v (.int .i64 x0)), (9, .sl 1 (x1.map cdI.enc)), (10, .v (.int .i64 (x1.length : Int))), (11, .v (.int .i64 0))], []⟩) Wk.f1 (evening_fit_1_ok x0 x1 _ x0 0 _ hr11)) ?_
    refine Sem.seq ?_
    obtain ⟨v13, hv13, h⟩ := Option.bind_eq_some_iff.1 h
    obtain ⟨j15, hj15, h⟩ := Option.bind_eq_some_iff.1 h
    refine Sem.runS (s1 := ⟨Fr 32 [(4, .v (.bool j15))], []⟩) ?_ ?_
    · refine RunS.segF (n := 32) e_evening_fit_ok 1 [(5, .v (.int .i64 w12)), (26, .v (.int .i64 x0))] [] (by kernel_rfl) ?_
      refine RunS.call e_evening_fit_ok (fid := 34) (s := cs_evening_guests) (F := fun a => evening_guests a.1) (er := er_evening_guests) (xs := [.v (.int .i64 x0)]) (a := (x0, ())) rfl (wantedA_none rfl) (by kernel_rfl) (by kernel_rfl) (by kernel_rfl) (by kernel_rfl) (Sns.cons (Sn.enc (c := cdI) (v := x0)) Sns.nil) (.inl (by kernel_rfl)) hv13 ?_
      refine RunS.segF (n := 32) e_evening_fit_ok 1 [(5, .v (.int .i64 w12)), (28, .v (.bool v13))] [] (by kernel_rfl) ?_
      rcases Bool.eq_false_or_eq_true v13 with hc16 | hc16
      · rw [if_pos hc16] at hj15
        rw [hc16]
        refine RunS.segF (n := 32) e_evening_fit_ok 4 [(4, .v (.bool (w12 == 0)))] [] (by kernel_rfl) ?_
        have hq := Option.some.inj hj15; subst hq
        exact RunS.done rfl Wk.f1
      · rw [if_f hc16] at hj15
        rw [hc16]
        refine RunS.segF (n := 32) e_evening_fit_ok 4 [(4, .v (.bool false))] [] (by kernel_rfl) ?_
        have hq := Option.some.inj hj15; subst hq
        exact RunS.done rfl Wk.f1
    refine Sem.ret ?_
    have hq := Option.some.inj h; subst hq
    exact ⟨⟨Fr 32 [(4, .v (.bool j15))], []⟩, Wk.f1, .inr rfl, [.v (.bool j15)], (by kernel_rfl), (by kernel_rfl)⟩
  · try dsimp only at h
    refine Sem.cutN (SemN.wk (s1 := ⟨Fr 32 [(0, .v (.int .i64 x0)), (5, .v (.int .i64 x0)), (9, .sl 1 (x1.map cdI.enc)), (10, .v (.int .i64 (x1.length : Int))), (11, .v (.int .i64 0))], []⟩) Wk.f1 (evening_fit_1_ok x0 x1 _ x0 0 _ hr11)) ?_
    have hq := Option.some.inj h; subst hq
    exact ⟨⟨Fr 32 [(4, .v (.bool w17))], []⟩, Wk.f1, .inr rfl, [.v (.bool w17)], (by kernel_rfl), (by kernel_rfl)⟩
def t_evening_fit : List AV → Option AV := told cs_evening_fit (fun a => evening_fit a.1 a.2.1) er_evening_fit
theorem x_evening_fit : XOk 40 t_evening_fit := by
  refine EnvOk.x (E := e_evening_fit) (contract_ok e_evening_fit_ok (fn := Tryd.f40) (c := cb_evening_fit) ?h1 ?h2 ⟨Tryd.call40⟩ cs_evening_fit (fun a => evening_fit a.1 a.2.1) er_evening_fit (fun a => (by show 2 ≤ 32; decide)) ?h3 ?h4) rfl rfl
  case h1 => kernel_rfl
  case h2 => kernel_rfl
  case h3 => intro b; kernel_rfl
  case h4 => exact fun a b h => evening_fit_sem a.1 a.2.1 b h
/- trestle/evening.check -/
noncomputable def e_evening_check : Env := E0
theorem e_evening_check_ok : EnvOk e_evening_check := E0_ok
noncomputable def cb_evening_check : Code := codeOf Tryd.f42
def evening_check_j3 (x0 : Int) (x1 : (List Int)) (x2 : (List (List Int))) (c9 : Int) (v11 : (List Int)) (c18 : Int) (c20 : Bool) (c22 : Int) (v24 : Int) (j32 : Bool × (List Bool)) (v33 : Bool) : Option ((Int)) :=
  if (!v33) = true then
  some (wr .i64 (c18 + 1))
  else
  some c18
def evening_check_2 (x0 : Int) (x1 : (List Int)) (x2 : (List (List Int))) (c9 : Int) (v11 : (List Int)) : Nat → Int → Bool → Bool → (List Bool) → Int → Option ((Int × Bool × Bool × (List Bool)))
  | 0, _, _, _, _, _ => none
  | f + 1, c18, c19, c20, c21, c22 =>
    if (decide (c22 < (v11.length : Int))) = true then
    (idx v11 c22).bind fun v24 =>
    (if (decide (v24 < 0)) = true then some (c21, true) else some (c21, (decide (v24 ≥ x0)))).bind fun j27 =>
    if j27.2 = true then
    evening_check_2 x0 x1 x2 c9 v11 f c18 c19 true j27.1 (wr .i64 (c22 + 1))
    else
    (if c19 = true then some (true, j27.1) else (idx j27.1 v24).bind fun v29 =>
    some (v29, j27.1)).bind fun j32 =>
    (idx j32.2 v24).bind fun v33 =>
    (evening_check_j3 x0 x1 x2 c9 v11 c18 c20 c22 v24 j32 v33).bind fun r36 =>
    (idx j32.2 v24).bind fun v37 =>
    evening_check_2 x0 x1 x2 c9 v11 f r36 j32.1 c20 (j32.2.set v24.toNat true) (wr .i64 (c22 + 1))
    else
    some (c18, c19, c20, c21)
def evening_check_1 (x0 : Int) (x1 : (List Int)) (x2 : (List (List Int))) : Nat → Int → Bool → Bool → (List Bool) → Int → Option ((Int × Bool × Bool) ⊕ (Int))
  | 0, _, _, _, _, _ => none
  | f + 1, c5, c6, c7, c8, c9 =>
    if (decide (c9 < (x2.length : Int))) = true then
    (idx x2 c9).bind fun v11 =>
    (if ((v11.length : Int) == 0) = true then some (c8, true) else if (decide ((x1.length : Int) > 0)) = true then (idx x1 c9).bind fun v12 =>
    some (c8, ((v11.length : Int) != v12)) else some (c8, false)).bind fun j15 =>
    if j15.2 = true then
    some (.inr 2)
    else
    (evening_check_2 x0 x1 x2 c9 v11 100000 c5 c6 c7 j15.1 0).bind fun r44 =>
    evening_check_1 x0 x1 x2 f r44.1 r44.2.1 r44.2.2.1 r44.2.2.2 (wr .i64 (c9 + 1))
    else
    some (.inl (c5, c6, c7))
def evening_check (x0 : Int) (x1 : (List Int)) (x2 : (List (List Int))) : Option (Int) :=
  (if (decide ((x1.length : Int) > 0)) = true then some ((x1.length : Int) != (x2.length : Int)) else some false).bind fun j2 =>
  if j2 = true then
  some 2
  else
  if (mkOk 1 x0) = true then
  (evening_check_1 x0 x1 x2 100000 0 false false (List.replicate x0.toNat false) 0).bind fun r50 =>
  match r50 with
  | (.inl w51) =>
    if w51.2.2 = true then
    some 6
    else
    if w51.2.1 = true then
    some 5
    else
    if (decide (w51.1 < x0)) = true then
    some 2
    else
    some 0
  | (.inr w55) =>
    some w55
  else none
def cs_evening_check : Cs (Int × (List Int) × (List (List Int)) × Unit) := (csC cdI (csC (cdL 1 cdI) (csC (cdL 1 (cdL 1 cdI)) csN)))
def er_evening_check (r : Int) : AV := cdI.enc r
set_option maxHeartbeats 4000000 in
set_option maxRecDepth 100000 in
theorem evening_check_j3_ok (x0 : Int) (x1 : (List Int)) (x2 : (List (List Int))) (c9 : Int) (v11 : (List Int)) (c18 : Int) (c20 : Bool) (c22 : Int) (v24 : Int) (j32 : Bool × (List Bool)) (v33 : Bool) (r : (Int)) (h : evening_check_j3 x0 x1 x2 c9 v11 c18 c20 c22 v24 j32 v33 = some r) : Sem e_evening_check ⟨none, false⟩ (pc cb_evening_check [1, 1, 1, 1, 0, 1, 0, 0, 1, 1, 0, 0, 1, 1, 1, 0, 0, 1, 1, 0, 0, 1, 1, 1, 0, 1]) ⟨Fr 91 [(0, .v (.int .i64 x0)), (1, .sl 1 (x1.map cdI.enc)), (7, .v (.int .i64 c18)), (8, .v (.bool j32.1)), (9, .v (.bool c20)), (10, .rf 0 0 j32.2.length j32.2.length), (14, .v (.int .i64 v24)), (27, .sl 1 (x2.map (cdL 1 cdI).enc)), (28, .v (.int .i64 (x2.length : Int))), (29, .v (.int .i64 c9)), (51, .sl 1 (v11.map cdI.enc)), (52, .v (.int .i64 (v11.length : Int))), (53, .v (.int .i64 c22)), (75, .v (.bool (!v33)))], [some ⟨1, 4, (j32.2.map cdB.enc), false⟩]⟩ (fun e s => e = .normal ∧ Wk e_evening_check s ⟨Fr 91 [(0, .v (.int .i64 x0)), (1, .sl 1 (x1.map cdI.enc)), (7, .v (.int .i64 r)), (8, .v (.bool j32.1)), (9, .v (.bool c20)), (10, .rf 0 0 j32.2.length j32.2.length), (14, .v (.int .i64 v24)), (27, .sl 1 (x2.map (cdL 1 cdI).enc)), (28, .v (.int .i64 (x2.length : Int))), (29, .v (.int .i64 c9)), (51, .sl 1 (v11.map cdI.enc)), (52, .v (.int .i64 (v11.length : Int))), (53, .v (.int .i64 c22))], [some ⟨1, 4, (j32.2.map cdB.enc), false⟩]⟩) := by
  unfold evening_check_j3 at h
  refine Sem.cond (b := (!v33)) (by kernel_rfl) (fun hb34 => ?_) (fun hb34 => ?_)
  · rw [if_pos hb34] at h
    refine Sem.runS (s1 := ⟨Fr 91 [(0, .v (.int .i64 x0)), (1, .sl 1 (x1.map cdI.enc)), (7, .v (.int .i64 (wr .i64 (c18 + 1)))), (8, .v (.bool j32.1)), (9, .v (.bool c20)), (10, .rf 0 0 j32.2.length j32.2.length), (14, .v (.int .i64 v24)), (27, .sl 1 (x2.map (cdL 1 cdI).enc)), (28, .v (.int .i64 (x2.length : Int))), (29, .v (.int .i64 c9)), (51, .sl 1 (v11.map cdI.enc)), (52, .v (.int .i64 (v11.length : Int))), (53, .v (.int .i64 c22))], [some ⟨1, 4, (j32.2.map cdB.enc), false⟩]⟩) ?_ ?_
    · refine RunS.segF (n := 91) e_evening_check_ok 3 [(0, .v (.int .i64 x0)), (1, .sl 1 (x1.map cdI.enc)), (7, .v (.int .i64 (wr .i64 (c18 + 1)))), (8, .v (.bool j32.1)), (9, .v (.bool c20)), (10, .rf 0 0 j32.2.length j32.2.length), (14, .v (.int .i64 v24)), (27, .sl 1 (x2.map (cdL 1 cdI).enc)), (28, .v (.int .i64 (x2.length : Int))), (29, .v (.int .i64 c9)), (51, .sl 1 (v11.map cdI.enc)), (52, .v (.int .i64 (v11.length : Int))), (53, .v (.int .i64 c22))] [some ⟨1, 4, (j32.2.map cdB.enc), false⟩] (by kernel_rfl) ?_
      exact RunS.done rfl (Wk.s3 [0] ⟨⟨_, rfl, bu_own⟩, trivial⟩ ⟨lv, lv, lv, lv, lv, lv, lv, lv, lv, lv, lv, lv, lv, trivial⟩)
    have hq := Option.some.inj h; subst hq
    exact ⟨rfl, (Wk.s3 [0] ⟨⟨_, rfl, bu_own⟩, trivial⟩ ⟨lv, lv, lv, lv, lv, lv, lv, lv, lv, lv, lv, lv, lv, trivial⟩)⟩
  · rw [if_f hb34] at h
    refine Sem.skip ?_
    have hq := Option.some.inj h; subst hq
    exact ⟨rfl, (Wk.s3 [0] ⟨⟨_, rfl, bu_own⟩, trivial⟩ ⟨lv, lv, lv, lv, lv, lv, lv, lv, lv, lv, lv, lv, lv, trivial⟩)⟩
set_option maxHeartbeats 4000000 in
set_option maxRecDepth 100000 in
theorem evening_check_2_ok (x0 : Int) (x1 : (List Int)) (x2 : (List (List Int))) (c9 : Int) (v11 : (List Int)) : ∀ (f : Nat) (c18 : Int) (c19 : Bool) (c20 : Bool) (c21 : (List Bool)) (c22 : Int) (r : (Int × Bool × Bool × (List Bool))), evening_check_2 x0 x1 x2 c9 v11 f c18 c19 c20 c21 c22 = some r → SemN e_evening_check ⟨none, false⟩ (pc cb_evening_check [1, 1, 1, 1, 0, 1, 0, 0, 1, 1, 0, 0, 1, 1, 1, 0, 0]) f ⟨Fr 91 [(0, .v (.int .i64 x0)), (1, .sl 1 (x1.map cdI.enc)), (7, .v (.int .i64 c18)), (8, .v (.bool c19)), (9, .v (.bool c20)), (10, .rf 0 0 c21.length c21.length), (27, .sl 1 (x2.map (cdL 1 cdI).enc)), (28, .v (.int .i64 (x2.length : Int))), (29, .v (.int .i64 c9)), (51, .sl 1 (v11.map cdI.enc)), (52, .v (.int .i64 (v11.length : Int))), (53, .v (.int .i64 c22))], [some ⟨1, 4, (c21.map cdB.enc), false⟩]⟩ (fun e s => e = (.exit 2) ∧ Wk e_evening_check s ⟨Fr 91 [(0, .v (.int .i64 x0)), (1, .sl 1 (x1.map cdI.enc)), (7, .v (.int .i64 r.1)), (8, .v (.bool r.2.1)), (9, .v (.bool r.2.2.1)), (10, .rf 0 0 r.2.2.2.length r.2.2.2.length), (27, .sl 1 (x2.map (cdL 1 cdI).enc)), (28, .v (.int .i64 (x2.length : Int))), (29, .v (.int .i64 c9))], [some ⟨1, 4, (r.2.2.2.map cdB.enc), false⟩]⟩) := by
  intro f
  induction f with
  | zero => intro c18 c19 c20 c21 c22 r h; cases h
  | succ f ih0 =>
    intro c18 c19 c20 c21 c22 r h
    have ih := fun (c18 : Int) (c19 : Bool) (c20 : Bool) (c21 : (List Bool)) (c22 : Int) => ih0 c18 c19 c20 c21 c22 r
    unfold evening_check_2 at h
    refine SemN.succ ?_
    refine Sem.seq ?_
    refine Sem.runS (s1 := ⟨Fr 91 [(0, .v (.int .i64 x0)), (1, .sl 1 (x1.map cdI.enc)), (7, .v (.int .i64 c18)), (8, .v (.bool c19)), (9, .v (.bool c20)), (10, .rf 0 0 c21.length c21.length), (27, .sl 1 (x2.map (cdL 1 cdI).enc)), (28, .v (.int .i64 (x2.length : Int))), (29, .v (.int .i64 c9)), (51, .sl 1 (v11.map cdI.enc)), (52, .v (.int .i64 (v11.length : Int))), (53, .v (.int .i64 c22)), (54, .v (.bool (decide (c22 < (v11.length : Int)))))], [some ⟨1, 4, (c21.map cdB.enc), false⟩]⟩) ?_ ?_
    · refine RunS.segF (n := 91) e_evening_check_ok 1 [(0, .v (.int .i64 x0)), (1, .sl 1 (x1.map cdI.enc)), (7, .v (.int .i64 c18)), (8, .v (.bool c19)), (9, .v (.bool c20)), (10, .rf 0 0 c21.length c21.length), (27, .sl 1 (x2.map (cdL 1 cdI).enc)), (28, .v (.int .i64 (x2.length : Int))), (29, .v (.int .i64 c9)), (51, .sl 1 (v11.map cdI.enc)), (52, .v (.int .i64 (v11.length : Int))), (53, .v (.int .i64 c22)), (54, .v (.bool (decide (c22 < (v11.length : Int)))))] [some ⟨1, 4, (c21.map cdB.enc), false⟩] (by kernel_rfl) ?_
      exact RunS.done rfl (Wk.s3 [0] ⟨⟨_, rfl, bu_own⟩, trivial⟩ ⟨lv, lv, lv, lv, lv, lv, lv, lv, lv, lv, lv, lv, lv, trivial⟩)
    refine Sem.seq ?_
    refine Sem.cond (b := (decide (c22 < (v11.length : Int)))) (by kernel_rfl) (fun hb23 => ?_) (fun hb23 => ?_)
    · rw [if_pos hb23] at h
      refine Sem.skip ?_
      refine Sem.seq ?_
      refine Sem.block ?_
      refine Sem.seq ?_
      obtain ⟨v24, hv24, h⟩ := Option.bind_eq_some_iff.1 h
      refine Sem.runS (s1 := ⟨Fr 91 [(0, .v (.int .i64 x0)), (1, .sl 1 (x1.map cdI.enc)), (7, .v (.int .i64 c18)), (8, .v (.bool c19)), (9, .v (.bool c20)), (10, .rf 0 0 c21.length c21.length), (14, .v (.int .i64 v24)), (27, .sl 1 (x2.map (cdL 1 cdI).enc)), (28, .v (.int .i64 (x2.length : Int))), (29, .v (.int .i64 c9)), (51, .sl 1 (v11.map cdI.enc)), (52, .v (.int .i64 (v11.length : Int))), (53, .v (.int .i64 c22))], [some ⟨1, 4, (c21.map cdB.enc), false⟩]⟩) ?_ ?_
      · refine RunS.one e_evening_check_ok 0 rfl (op_q (wantedA_none rfl) rfl (q_indexAddr (a := .sl 1 (v11.map cdI.enc)) (b := .v (.int .i64 c22)) (by kernel_rfl) (by kernel_rfl) (ix_sl (e := cdI.enc) (el := 3) (k := 1) (ki := .i64) (by kernel_rfl) (by kernel_rfl) hv24))) ?_
        refine RunS.segF (n := 91) e_evening_check_ok 2 [(0, .v (.int .i64 x0)), (1, .sl 1 (x1.map cdI.enc)), (7, .v (.int .i64 c18)), (8, .v (.bool c19)), (9, .v (.bool c20)), (10, .rf 0 0 c21.length c21.length), (14, .v (.int .i64 v24)), (27, .sl 1 (x2.map (cdL 1 cdI).enc)), (28, .v (.int .i64 (x2.length : Int))), (29, .v (.int .i64 c9)), (51, .sl 1 (v11.map cdI.enc)), (52, .v (.int .i64 (v11.length : Int))), (53, .v (.int .i64 c22))] [some ⟨1, 4, (c21.map cdB.enc), false⟩] (by kernel_rfl) ?_
        exact RunS.done rfl (Wk.s3 [0] ⟨⟨_, rfl, bu_own⟩, trivial⟩ ⟨lv, lv, lv, lv, lv, lv, lv, lv, lv, lv, lv, lv, lv, trivial⟩)
      refine Sem.seq ?_
      refine Sem.seq ?_
      obtain ⟨j27, hj27, h⟩ := Option.bind_eq_some_iff.1 h
      refine Sem.runS (s1 := ⟨Fr 91 [(0, .v (.int .i64 x0)), (1, .sl 1 (x1.map cdI.enc)), (7, .v (.int .i64 c18)), (8, .v (.bool c19)), (9, .v (.bool c20)), (10, .rf 0 0 j27.1.length j27.1.length), (14, .v (.int .i64 v24)), (27, .sl 1 (x2.map (cdL 1 cdI).enc)), (28, .v (.int .i64 (x2.length : Int))), (29, .v (.int .i64 c9)), (51, .sl 1 (v11.map cdI.enc)), (52, .v (.int .i64 (v11.length : Int))), (53, .v (.int .i64 c22)), (63, .v (.bool j27.2))], [some ⟨1, 4, (j27.1.map cdB.enc), false⟩]⟩) ?_ ?_
      · refine RunS.segF (n := 91) e_evening_check_ok 3 [(0, .v (.int .i64 x0)), (1, .sl 1 (x1.map cdI.enc)), (7, .v (.int .i64 c18)), (8, .v (.bool c19)), (9, .v (.bool c20)), (10, .rf 0 0 c21.length c21.length), (14, .v (.int .i64 v24)), (27, .sl 1 (x2.map (cdL 1 cdI).enc)), (28, .v (.int .i64 (x2.length : Int))), (29, .v (.int .i64 c9)), (51, .sl 1 (v11.map cdI.enc)), (52, .v (.int .i64 (v11.length : Int))), (53, .v (.int .i64 c22)), (59, .v (.bool (decide (v24 < 0))))] [some ⟨1, 4, (c21.map cdB.enc), false⟩] (by kernel_rfl) ?_
        rcases Bool.eq_false_or_eq_true (decide (v24 < 0)) with hc39 | hc39
        · rw [if_pos hc39] at hj27
          rw [hc39]
          refine RunS.segF (n := 91) e_evening_check_ok 4 [(0, .v (.int .i64 x0)), (1, .sl 1 (x1.map cdI.enc)), (7, .v (.int .i64 c18)), (8, .v (.bool c19)), (9, .v (.bool c20)), (10, .rf 0 0 c21.length c21.length), (14, .v (.int .i64 v24)), (27, .sl 1 (x2.map (cdL 1 cdI).enc)), (28, .v (.int .i64 (x2.length : Int))), (29, .v (.int .i64 c9)), (51, .sl 1 (v11.map cdI.enc)), (52, .v (.int .i64 (v11.length : Int))), (53, .v (.int .i64 c22)), (60, .tp []), (61, .tp []), (62, .tp []), (63, .v (.bool true))] [some ⟨1, 4, (c21.map cdB.enc), false⟩] (by kernel_rfl) ?_
          have hq := Option.some.inj hj27; subst hq
          exact RunS.done rfl (Wk.s3 [0] ⟨⟨_, rfl, bu_own⟩, trivial⟩ ⟨lv, lv, lv, lv, lv, lv, lv, lv, lv, lv, lv, lv, lv, lv, trivial⟩)
        · rw [if_f hc39] at hj27
          rw [hc39]
          refine RunS.segF (n := 91) e_evening_check_ok 4 [(0, .v (.int .i64 x0)), (1, .sl 1 (x1.map cdI.enc)), (7, .v (.int .i64 c18)), (8, .v (.bool c19)), (9, .v (.bool c20)), (10, .rf 0 0 c21.length c21.length), (14, .v (.int .i64 v24)), (27, .sl 1 (x2.map (cdL 1 cdI).enc)), (28, .v (.int .i64 (x2.length : Int))), (29, .v (.int .i64 c9)), (51, .sl 1 (v11.map cdI.enc)), (52, .v (.int .i64 (v11.length : Int))), (53, .v (.int .i64 c22)), (60, .v (.int .i64 v24)), (61, .v (.int .i64 x0)), (62, .v (.bool (decide (v24 ≥ x0)))), (63, .v (.bool (decide (v24 ≥ x0))))] [some ⟨1, 4, (c21.map cdB.enc), false⟩] (by kernel_rfl) ?_
          have hq := Option.some.inj hj27; subst hq
          exact RunS.done rfl (Wk.s3 [0] ⟨⟨_, rfl, bu_own⟩, trivial⟩ ⟨lv, lv, lv, lv, lv, lv, lv, lv, lv, lv, lv, lv, lv, lv, trivial⟩)
      refine Sem.cond (b := j27.2) (by kernel_rfl) (fun hb28 => ?_) (fun hb28 => ?_)
      · rw [if_pos hb28] at h
        refine Sem.seq ?_
        refine Sem.runS (s1 := ⟨Fr 91 [(0, .v (.int .i64 x0)), (1, .sl 1 (x1.map cdI.enc)), (7, .v (.int .i64 c18)), (8, .v (.bool c19)), (9, .v (.bool true)), (10, .rf 0 0 j27.1.length j27.1.length), (27, .sl 1 (x2.map (cdL 1 cdI).enc)), (28, .v (.int .i64 (x2.length : Int))), (29, .v (.int .i64 c9)), (51, .sl 1 (v11.map cdI.enc)), (52, .v (.int .i64 (v11.length : Int))), (53, .v (.int .i64 c22))], [some ⟨1, 4, (j27.1.map cdB.enc), false⟩]⟩) ?_ ?_
        · refine RunS.segF (n := 91) e_evening_check_ok 1 [(0, .v (.int .i64 x0)), (1, .sl 1 (x1.map cdI.enc)), (7, .v (.int .i64 c18)), (8, .v (.bool c19)), (9, .v (.bool true)), (10, .rf 0 0 j27.1.length j27.1.length), (27, .sl 1 (x2.map (cdL 1 cdI).enc)), (28, .v (.int .i64 (x2.length : Int))), (29, .v (.int .i64 c9)), (51, .sl 1 (v11.map cdI.enc)), (52, .v (.int .i64 (v11.length : Int))), (53, .v (.int .i64 c22))] [some ⟨1, 4, (j27.1.map cdB.enc), false⟩] (by kernel_rfl) ?_
          exact RunS.done rfl (Wk.s3 [0] ⟨⟨_, rfl, bu_own⟩, trivial⟩ ⟨lv, lv, lv, lv, lv, lv, lv, lv, lv, lv, lv, lv, trivial⟩)
        refine Sem.exit ?_
        refine Sem.runS (s1 := ⟨Fr 91 [(0, .v (.int .i64 x0)), (1, .sl 1 (x1.map cdI.enc)), (7, .v (.int .i64 c18)), (8, .v (.bool c19)), (9, .v (.bool true)), (10, .rf 0 0 j27.1.length j27.1.length), (27, .sl 1 (x2.map (cdL 1 cdI).enc)), (28, .v (.int .i64 (x2.length : Int))), (29, .v (.int .i64 c9)), (51, .sl 1 (v11.map cdI.enc)), (52, .v (.int .i64 (v11.length : Int))), (53, .v (.int .i64 (wr .i64 (c22 + 1))))], [some ⟨1, 4, (j27.1.map cdB.enc), false⟩]⟩) ?_ ?_
        · refine RunS.segF (n := 91) e_evening_check_ok 2 [(0, .v (.int .i64 x0)), (1, .sl 1 (x1.map cdI.enc)), (7, .v (.int .i64 c18)), (8, .v (.bool c19)), (9, .v (.bool true)), (10, .rf 0 0 j27.1.length j27.1.length), (27, .sl 1 (x2.map (cdL 1 cdI).enc)), (28, .v (.int .i64 (x2.length : Int))), (29, .v (.int .i64 c9)), (51, .sl 1 (v11.map cdI.enc)), (52, .v (.int .i64 (v11.length : Int))), (53, .v (.int .i64 (wr .i64 (c22 + 1))))] [some ⟨1, 4, (j27.1.map cdB.enc), false⟩] (by kernel_rfl) ?_
          exact RunS.done rfl (Wk.s3 [0] ⟨⟨_, rfl, bu_own⟩, trivial⟩ ⟨lv, lv, lv, lv, lv, lv, lv, lv, lv, lv, lv, lv, trivial⟩)
        exact SemN.wk (s1 := ⟨Fr 91 [(0, .v (.int .i64 x0)), (1, .sl 1 (x1.map cdI.enc)), (7, .v (.int .i64 c18)), (8, .v (.bool c19)), (9, .v (.bool true)), (10, .rf 0 0 j27.1.length j27.1.length), (27, .sl 1 (x2.map (cdL 1 cdI).enc)), (28, .v (.int .i64 (x2.length : Int))), (29, .v (.int .i64 c9)), (51, .sl 1 (v11.map cdI.enc)), (52, .v (.int .i64 (v11.length : Int))), (53, .v (.int .i64 (wr .i64 (c22 + 1))))], [some ⟨1, 4, (j27.1.map cdB.enc), false⟩]⟩) (Wk.s3 [0] ⟨⟨_, rfl, bu_own⟩, trivial⟩ ⟨lv, lv, lv, lv, lv, lv, lv, lv, lv, lv, lv, lv, trivial⟩) (ih c18 c19 true j27.1 (wr .i64 (c22 + 1)) h)
      · rw [if_f hb28] at h
        refine Sem.skip ?_
        refine Sem.seq ?_
        obtain ⟨j32, hj32, h⟩ := Option.bind_eq_some_iff.1 h
        refine Sem.runS (s1 := ⟨Fr 91 [(0, .v (.int .i64 x0)), (1, .sl 1 (x1.map cdI.enc)), (7, .v (.int .i64 c18)), (8, .v (.bool j32.1)), (9, .v (.bool c20)), (10, .rf 0 0 j32.2.length j32.2.length), (14, .v (.int .i64 v24)), (27, .sl 1 (x2.map (cdL 1 cdI).enc)), (28, .v (.int .i64 (x2.length : Int))), (29, .v (.int .i64 c9)), (51, .sl 1 (v11.map cdI.enc)), (52, .v (.int .i64 (v11.length : Int))), (53, .v (.int .i64 c22))], [some ⟨1, 4, (j32.2.map cdB.enc), false⟩]⟩) ?_ ?_
        · refine RunS.segF (n := 91) e_evening_check_ok 2 [(0, .v (.int .i64 x0)), (1, .sl 1 (x1.map cdI.enc)), (7, .v (.int .i64 c18)), (9, .v (.bool c20)), (10, .rf 0 0 j27.1.length j27.1.length), (14, .v (.int .i64 v24)), (27, .sl 1 (x2.map (cdL 1 cdI).enc)), (28, .v (.int .i64 (x2.length : Int))), (29, .v (.int .i64 c9)), (51, .sl 1 (v11.map cdI.enc)), (52, .v (.int .i64 (v11.length : Int))), (53, .v (.int .i64 c22)), (65, .v (.bool c19))] [some ⟨1, 4, (j27.1.map cdB.enc), false⟩] (by kernel_rfl) ?_
          rcases Bool.eq_false_or_eq_true c19 with hc38 | hc38
          · rw [if_pos hc38] at hj32
            rw [hc38]
            refine RunS.segF (n := 91) e_evening_check_ok 6 [(0, .v (.int .i64 x0)), (1, .sl 1 (x1.map cdI.enc)), (7, .v (.int .i64 c18)), (8, .v (.bool true)), (9, .v (.bool c20)), (10, .rf 0 0 j27.1.length j27.1.length), (14, .v (.int .i64 v24)), (27, .sl 1 (x2.map (cdL 1 cdI).enc)), (28, .v (.int .i64 (x2.length : Int))), (29, .v (.int .i64 c9)), (51, .sl 1 (v11.map cdI.enc)), (52, .v (.int .i64 (v11.length : Int))), (53, .v (.int .i64 c22)), (66, .tp []), (67, .tp []), (68, .tp []), (69, .tp [])] [some ⟨1, 4, (j27.1.map cdB.enc), false⟩] (by kernel_rfl) ?_
            have hq := Option.some.inj hj32; subst hq
            exact RunS.done rfl (Wk.s3 [0] ⟨⟨_, rfl, bu_own⟩, trivial⟩ ⟨lv, lv, lv, lv, lv, lv, lv, lv, lv, lv, lv, lv, lv, trivial⟩)
          · rw [if_f hc38] at hj32
            rw [hc38]
            refine RunS.segF (n := 91) e_evening_check_ok 2 [(0, .v (.int .i64 x0)), (1, .sl 1 (x1.map cdI.enc)), (7, .v (.int .i64 c18)), (9, .v (.bool c20)), (10, .rf 0 0 j27.1.length j27.1.length), (14, .v (.int .i64 v24)), (27, .sl 1 (x2.map (cdL 1 cdI).enc)), (28, .v (.int .i64 (x2.length : Int))), (29, .v (.int .i64 c9)), (51, .sl 1 (v11.map cdI.enc)), (52, .v (.int .i64 (v11.length : Int))), (53, .v (.int .i64 c22)), (65, .v (.bool false)), (66, .rf 0 0 j27.1.length j27.1.length), (67, .v (.int .i64 v24))] [some ⟨1, 4, (j27.1.map cdB.enc), false⟩] (by kernel_rfl) ?_
            obtain ⟨v29, hv29, hj32⟩ := Option.bind_eq_some_iff.1 hj32
            refine RunS.one e_evening_check_ok 0 rfl (op_q (by kernel_rfl) rfl (q_indexAddr (a := .rf 0 0 j27.1.length j27.1.length) (b := .v (.int .i64 v24)) (by kernel_rfl) (by kernel_rfl) (ix_rl (e := cdB.enc) (xs := j27.1) (t' := 4) (el := 4) (k := 1) (ki := .i64) (by kernel_rfl) (by kernel_rfl) (by kernel_rfl) hv29))) ?_
            refine RunS.one e_evening_check_ok 0 rfl (op_q (by kernel_rfl) rfl (q_load (p := .pt 0 v24.toNat 0) (by kernel_rfl) (ld_blk (B := ⟨1, 4, (j27.1.map cdB.enc), false⟩) (m := 1) (g := false) (e := cdB.enc) (xs := j27.1) (by kernel_rfl) (by kernel_rfl) (by kernel_rfl) rfl (idx_at hv29).2 (by kernel_rfl)))) ?_
            refine RunS.segF (n := 91) e_evening_check_ok 2 [(0, .v (.int .i64 x0)), (1, .sl 1 (x1.map cdI.enc)), (7, .v (.int .i64 c18)), (8, .v (.bool v29)), (9, .v (.bool c20)), (10, .rf 0 0 j27.1.length j27.1.length), (14, .v (.int .i64 v24)), (27, .sl 1 (x2.map (cdL 1 cdI).enc)), (28, .v (.int .i64 (x2.length : Int))), (29, .v (.int .i64 c9)), (51, .sl 1 (v11.map cdI.enc)), (52, .v (.int .i64 (v11.length : Int))), (53, .v (.int .i64 c22)), (66, .rf 0 0 j27.1.length j27.1.length), (67, .v (.int .i64 v24)), (68, .pt 0 v24.toNat 0), (69, .v (.bool v29))] [some ⟨1, 4, (j27.1.map cdB.enc), false⟩] (by kernel_rfl) ?_
            have hq := Option.some.inj hj32; subst hq
            exact RunS.done rfl (Wk.s3 [0] ⟨⟨_, rfl, bu_own⟩, trivial⟩ ⟨lv, lv, lv, lv, lv, lv, lv, lv, lv, lv, lv, lv, lv, trivial⟩)
        refine Sem.seq ?_
        refine Sem.seq ?_
        obtain ⟨v33, hv33, h⟩ := Option.bind_eq_some_iff.1 h
        refine Sem.runS (s1 := ⟨Fr 91 [(0, .v (.int .i64 x0)), (1, .sl 1 (x1.map cdI.enc)), (7, .v (.int .i64 c18)), (8, .v (.bool j32.1)), (9, .v (.bool c20)), (10, .rf 0 0 j32.2.length j32.2.length), (14, .v (.int .i64 v24)), (27, .sl 1 (x2.map (cdL 1 cdI).enc)), (28, .v (.int .i64 (x2.length : Int))), (29, .v (.int .i64 c9)), (51, .sl 1 (v11.map cdI.enc)), (52, .v (.int .i64 (v11.length : Int))), (53, .v (.int .i64 c22)), (75, .v (.bool (!v33)))], [some ⟨1, 4, (j32.2.map cdB.enc), false⟩]⟩) ?_ ?_
        · refine RunS.segF (n := 91) e_evening_check_ok 2 [(0, .v (.int .i64 x0)), (1, .sl 1 (x1.map cdI.enc)), (7, .v (.int .i64 c18)), (8, .v (.bool j32.1)), (9, .v (.bool c20)), (10, .rf 0 0 j32.2.length j32.2.length), (14, .v (.int .i64 v24)), (27, .sl 1 (x2.map (cdL 1 cdI).enc)), (28, .v (.int .i64 (x2.length : Int))), (29, .v (.int .i64 c9)), (51, .sl 1 (v11.map cdI.enc)), (52, .v (.int .i64 (v11.length : Int))), (53, .v (.int .i64 c22)), (71, .rf 0 0 j32.2.length j32.2.length), (72, .v (.int .i64 v24))] [some ⟨1, 4, (j32.2.map cdB.enc), false⟩] (by kernel_rfl) ?_
          refine RunS.one e_evening_check_ok 0 rfl (op_q (wantedA_none rfl) rfl (q_indexAddr (a := .rf 0 0 j32.2.length j32.2.length) (b := .v (.int .i64 v24)) (by kernel_rfl) (by kernel_rfl) (ix_rl (e := cdB.enc) (xs := j32.2) (t' := 4) (el := 4) (k := 1) (ki := .i64) (by kernel_rfl) (by kernel_rfl) (by kernel_rfl) hv33))) ?_
          refine RunS.one e_evening_check_ok 0 rfl (op_q (wantedA_none rfl) rfl (q_load (p := .pt 0 v24.toNat 0) (by kernel_rfl) (ld_blk (B := ⟨1, 4, (j32.2.map cdB.enc), false⟩) (m := 1) (g := false) (e := cdB.enc) (xs := j32.2) (by kernel_rfl) (by kernel_rfl) (by kernel_rfl) rfl (idx_at hv33).2 (by kernel_rfl)))) ?_
          refine RunS.segF (n := 91) e_evening_check_ok 1 [(0, .v (.int .i64 x0)), (1, .sl 1 (x1.map cdI.enc)), (7, .v (.int .i64 c18)), (8, .v (.bool j32.1)), (9, .v (.bool c20)), (10, .rf 0 0 j32.2.length j32.2.length), (14, .v (.int .i64 v24)), (27, .sl 1 (x2.map (cdL 1 cdI).enc)), (28, .v (.int .i64 (x2.length : Int))), (29, .v (.int .i64 c9)), (51, .sl 1 (v11.map cdI.enc)), (52, .v (.int .i64 (v11.length : Int))), (53, .v (.int .i64 c22)), (75, .v (.bool (!v33)))] [some ⟨1, 4, (j32.2.map cdB.enc), false⟩] (by kernel_rfl) ?_
          exact RunS.done rfl (Wk.s3 [0] ⟨⟨_, rfl, bu_own⟩, trivial⟩ ⟨lv, lv, lv, lv, lv, lv, lv, lv, lv, lv, lv, lv, lv, lv, trivial⟩)
        obtain ⟨r36, hr36, h⟩ := Option.bind_eq_some_iff.1 h
        refine Sem.cut (evening_check_j3_ok x0 x1 x2 c9 v11 c18 c20 c22 v24 j32 v33 _ hr36) ?_
        obtain ⟨v37, hv37, h⟩ := Option.bind_eq_some_iff.1 h
        refine Sem.runS (s1 := ⟨Fr 91 [(0, .v (.int .i64 x0)), (1, .sl 1 (x1.map cdI.enc)), (7, .v (.int .i64 r36)), (8, .v (.bool j32.1)), (9, .v (.bool c20)), (10, .rf 0 0 (j32.2.set v24.toNat true).length (j32.2.set v24.toNat true).length), (27, .sl 1 (x2.map (cdL 1 cdI).enc)), (28, .v (.int .i64 (x2.length : Int))), (29, .v (.int .i64 c9)), (51, .sl 1 (v11.map cdI.enc)), (52, .v (.int .i64 (v11.length : Int))), (53, .v (.int .i64 c22))], [some ⟨1, 4, ((j32.2.set v24.toNat true).map cdB.enc), false⟩]⟩) ?_ ?_
        · refine RunS.segF (n := 91) e_evening_check_ok 2 [(0, .v (.int .i64 x0)), (1, .sl 1 (x1.map cdI.enc)), (7, .v (.int .i64 r36)), (8, .v (.bool j32.1)), (9, .v (.bool c20)), (10, .rf 0 0 j32.2.length j32.2.length), (27, .sl 1 (x2.map (cdL 1 cdI).enc)), (28, .v (.int .i64 (x2.length : Int))), (29, .v (.int .i64 c9)), (51, .sl 1 (v11.map cdI.enc)), (52, .v (.int .i64 (v11.length : Int))), (53, .v (.int .i64 c22)), (78, .rf 0 0 j32.2.length j32.2.length), (79, .v (.int .i64 v24))] [some ⟨1, 4, (j32.2.map cdB.enc), false⟩] (by kernel_rfl) ?_
          refine RunS.one e_evening_check_ok 0 rfl (op_q (wantedA_none rfl) rfl (q_indexAddr (a := .rf 0 0 j32.2.length j32.2.length) (b := .v (.int .i64 v24)) (by kernel_rfl) (by kernel_rfl) (ix_rl (e := cdB.enc) (xs := j32.2) (t' := 4) (el := 4) (k := 1) (ki := .i64) (by kernel_rfl) (by kernel_rfl) (by kernel_rfl) hv37))) ?_
          refine RunS.store e_evening_check_ok (y := .pt 0 v24.toNat 0) (z := .v (.bool true)) rfl (wantedA_none rfl) (by kernel_rfl) (by kernel_rfl) (st_blk (t' := 4) (k := 1) (e := cdB.enc) (xs := j32.2) (v := v37) (v' := true) (by kernel_rfl) (idx_at hv37).2 (by kernel_rfl) (by kernel_rfl) (by kernel_rfl)) ?_
          exact RunS.done rfl (Wk.s3 [0] ⟨⟨_, rfl, bu_own⟩, trivial⟩ ⟨lv, lv, lv, lv, lv, lu_rl (b' := 0) (n := j32.2.length) (by kernel_rfl) (by simp) (by kernel_rfl), lv, lv, lv, lv, lv, lv, trivial⟩)
        refine Sem.runS (s1 := ⟨Fr 91 [(0, .v (.int .i64 x0)), (1, .sl 1 (x1.map cdI.enc)), (7, .v (.int .i64 r36)), (8, .v (.bool j32.1)), (9, .v (.bool c20)), (10, .rf 0 0 (j32.2.set v24.toNat true).length (j32.2.set v24.toNat true).length), (27, .sl 1 (x2.map (cdL 1 cdI).enc)), (28, .v (.int .i64 (x2.length : Int))), (29, .v (.int .i64 c9)), (51, .sl 1 (v11.map cdI.enc)), (52, .v (.int .i64 (v11.length : Int))), (53, .v (.int .i64 (wr .i64 (c22 + 1))))], [some ⟨1, 4, ((j32.2.set v24.toNat true).map cdB.enc), false⟩]⟩) ?_ ?_
        · refine RunS.segF (n := 91) e_evening_check_ok 2 [(0, .v (.int .i64 x0)), (1, .sl 1 (x1.map cdI.enc)), (7, .v (.int .i64 r36)), (8, .v (.bool j32.1)), (9, .v (.bool c20)), (10, .rf 0 0 (j32.2.set v24.toNat true).length (j32.2.set v24.toNat true).length), (27, .sl 1 (x2.map (cdL 1 cdI).enc)), (28, .v (.int .i64 (x2.length : Int))), (29, .v (.int .i64 c9)), (51, .sl 1 (v11.map cdI.enc)), (52, .v (.int .i64 (v11.length : Int))), (53, .v (.int .i64 (wr .i64 (c22 + 1))))] [some ⟨1, 4, ((j32.2.set v24.toNat true).map cdB.enc), false⟩] (by kernel_rfl) ?_
          exact RunS.done rfl (Wk.s3 [0] ⟨⟨_, rfl, bu_own⟩, trivial⟩ ⟨lv, lv, lv, lv, lv, lv, lv, lv, lv, lv, lv, lv, trivial⟩)
        exact SemN.wk (s1 := ⟨Fr 91 [(0, .v (.int .i64 x0)), (1, .sl 1 (x1.map cdI.enc)), (7, .v (.int .i64 r36)), (8, .v (.bool j32.1)), (9, .v (.bool c20)), (10, .rf 0 0 (j32.2.set v24.toNat true).length (j32.2.set v24.toNat true).length), (27, .sl 1 (x2.map (cdL 1 cdI).enc)), (28, .v (.int .i64 (x2.length : Int))), (29, .v (.int .i64 c9)), (51, .sl 1 (v11.map cdI.enc)), (52, .v (.int .i64 (v11.length : Int))), (53, .v (.int .i64 (wr .i64 (c22 + 1))))], [some ⟨1, 4, ((j32.2.set v24.toNat true).map cdB.enc), false⟩]⟩) (Wk.s3 [0] ⟨⟨_, rfl, bu_own⟩, trivial⟩ ⟨lv, lv, lv, lv, lv, lv, lv, lv, lv, lv, lv, lv, trivial⟩) (ih r36 j32.1 c20 (j32.2.set v24.toNat true) (wr .i64 (c22 + 1)) h)
    · rw [if_f hb23] at h
      refine Sem.exit ?_
      have hq := Option.some.inj h; subst hq
      exact ⟨rfl, (Wk.s3 [0] ⟨⟨_, rfl, bu_own⟩, trivial⟩ ⟨lv, lv, lv, lv, lv, lv, lv, lv, lv, trivial⟩)⟩
set_option maxHeartbeats 4000000 in
set_option maxRecDepth 100000 in
theorem evening_check_1_ok (x0 : Int) (x1 : (List Int)) (x2 : (List (List Int))) : ∀ (f : Nat) (c5 : Int) (c6 : Bool) (c7 : Bool) (c8 : (List Bool)) (c9 : Int) (r : (Int × Bool × Bool) ⊕ (Int)), evening_check_1 x0 x1 x2 f c5 c6 c7 c8 c9 = some r → SemN e_evening_check ⟨none, false⟩ (pc cb_evening_check [1, 1, 1, 1, 0, 1, 0, 0]) f ⟨Fr 91 [(0, .v (.int .i64 x0)), (1, .sl 1 (x1.map cdI.enc)), (7, .v (.int .i64 c5)), (8, .v (.bool c6)), (9, .v (.bool c7)), (10, .rf 0 0 c8.length c8.length), (27, .sl 1 (x2.map (cdL 1 cdI).enc)), (28, .v (.int .i64 (x2.length : Int))), (29, .v (.int .i64 c9))], [some ⟨1, 4, (c8.map cdB.enc), false⟩]⟩ (fun e s => match r with
  | (.inl w) => e = (.exit 0) ∧ Wk e_evening_check s ⟨Fr 91 [(0, .v (.int .i64 x0)), (7, .v (.int .i64 w.1)), (8, .v (.bool w.2.1)), (9, .v (.bool w.2.2))], []⟩
  | (.inr w) => e = .ret ∧ Wk e_evening_check s ⟨Fr 91 [(6, .v (.int .i64 w))], []⟩) := by
  intro f
  induction f with
  | zero => intro c5 c6 c7 c8 c9 r h; cases h
  | succ f ih0 =>
    intro c5 c6 c7 c8 c9 r h
    have ih := fun (c5 : Int) (c6 : Bool) (c7 : Bool) (c8 : (List Bool)) (c9 : Int) => ih0 c5 c6 c7 c8 c9 r
    unfold evening_check_1 at h
    refine SemN.succ ?_
    refine Sem.seq ?_
    refine Sem.runS (s1 := ⟨Fr 91 [(0, .v (.int .i64 x0)), (1, .sl 1 (x1.map cdI.enc)), (7, .v (.int .i64 c5)), (8, .v (.bool c6)), (9, .v (.bool c7)), (10, .rf 0 0 c8.length c8.length), (27, .sl 1 (x2.map (cdL 1 cdI).enc)), (28, .v (.int .i64 (x2.length : Int))), (29, .v (.int .i64 c9)), (30, .v (.bool (decide (c9 < (x2.length : Int)))))], [some ⟨1, 4, (c8.map cdB.enc), false⟩]⟩) ?_ ?_
    · refine RunS.segF (n := 91) e_evening_check_ok 1 [(0, .v (.int .i64 x0)), (1, .sl 1 (x1.map cdI.enc)), (7, .v (.int .i64 c5)), (8, .v (.bool c6)), (9, .v (.bool c7)), (10, .rf 0 0 c8.length c8.length), (27, .sl 1 (x2.map (cdL 1 cdI).enc)), (28, .v (.int .i64 (x2.length : Int))), (29, .v (.int .i64 c9)), (30, .v (.bool (decide (c9 < (x2.length : Int)))))] [some ⟨1, 4, (c8.map cdB.enc), false⟩] (by kernel_rfl) ?_
      exact RunS.done rfl (Wk.s3 [0] ⟨⟨_, rfl, bu_own⟩, trivial⟩ ⟨lv, lv, lv, lv, lv, lv, lv, lv, lv, lv, trivial⟩)
    refine Sem.seq ?_
    refine Sem.cond (b := (decide (c9 < (x2.length : Int)))) (by kernel_rfl) (fun hb10 => ?_) (fun hb10 => ?_)
    · rw [if_pos hb10] at h
      refine Sem.skip ?_
      refine Sem.seq ?_
      refine Sem.block ?_
      refine Sem.seq ?_
      obtain ⟨v11, hv11, h⟩ := Option.bind_eq_some_iff.1 h
      refine Sem.runS (s1 := ⟨Fr 91 [(0, .v (.int .i64 x0)), (1, .sl 1 (x1.map cdI.enc)), (7, .v (.int .i64 c5)), (8, .v (.bool c6)), (9, .v (.bool c7)), (10, .rf 0 0 c8.length c8.length), (11, .v (.int .i64 c9)), (12, .sl 1 (v11.map cdI.enc)), (27, .sl 1 (x2.map (cdL 1 cdI).enc)), (28, .v (.int .i64 (x2.length : Int))), (29, .v (.int .i64 c9))], [some ⟨1, 4, (c8.map cdB.enc), false⟩]⟩) ?_ ?_
      · refine RunS.segF (n := 91) e_evening_check_ok 1 [(0, .v (.int .i64 x0)), (1, .sl 1 (x1.map cdI.enc)), (7, .v (.int .i64 c5)), (8, .v (.bool c6)), (9, .v (.bool c7)), (10, .rf 0 0 c8.length c8.length), (27, .sl 1 (x2.map (cdL 1 cdI).enc)), (28, .v (.int .i64 (x2.length : Int))), (29, .v (.int .i64 c9)), (31, .v (.int .i64 c9))] [some ⟨1, 4, (c8.map cdB.enc), false⟩] (by kernel_rfl) ?_
        refine RunS.one e_evening_check_ok 0 rfl (op_q (wantedA_none rfl) rfl (q_indexAddr (a := .sl 1 (x2.map (cdL 1 cdI).enc)) (b := .v (.int .i64 c9)) (by kernel_rfl) (by kernel_rfl) (ix_sl (e := (cdL 1 cdI).enc) (el := 29) (k := 1) (ki := .i64) (by kernel_rfl) (by kernel_rfl) hv11))) ?_
        refine RunS.segF (n := 91) e_evening_check_ok 3 [(0, .v (.int .i64 x0)), (1, .sl 1 (x1.map cdI.enc)), (7, .v (.int .i64 c5)), (8, .v (.bool c6)), (9, .v (.bool c7)), (10, .rf 0 0 c8.length c8.length), (11, .v (.int .i64 c9)), (12, .sl 1 (v11.map cdI.enc)), (27, .sl 1 (x2.map (cdL 1 cdI).enc)), (28, .v (.int .i64 (x2.length : Int))), (29, .v (.int .i64 c9))] [some ⟨1, 4, (c8.map cdB.enc), false⟩] (by kernel_rfl) ?_
        exact RunS.done rfl (Wk.s3 [0] ⟨⟨_, rfl, bu_own⟩, trivial⟩ ⟨lv, lv, lv, lv, lv, lv, lv, lv, lv, lv, lv, trivial⟩)
      refine Sem.seq ?_
      refine Sem.seq ?_
      obtain ⟨j15, hj15, h⟩ := Option.bind_eq_some_iff.1 h
      refine Sem.runS (s1 := ⟨Fr 91 [(0, .v (.int .i64 x0)), (1, .sl 1 (x1.map cdI.enc)), (7, .v (.int .i64 c5)), (8, .v (.bool c6)), (9, .v (.bool c7)), (10, .rf 0 0 j15.1.length j15.1.length), (12, .sl 1 (v11.map cdI.enc)), (27, .sl 1 (x2.map (cdL 1 cdI).enc)), (28, .v (.int .i64 (x2.length : Int))), (29, .v (.int .i64 c9)), (50, .v (.bool j15.2))], [some ⟨1, 4, (j15.1.map cdB.enc), false⟩]⟩) ?_ ?_
      · refine RunS.segF (n := 91) e_evening_check_ok 1 [(0, .v (.int .i64 x0)), (1, .sl 1 (x1.map cdI.enc)), (7, .v (.int .i64 c5)), (8, .v (.bool c6)), (9, .v (.bool c7)), (10, .rf 0 0 c8.length c8.length), (11, .v (.int .i64 c9)), (12, .sl 1 (v11.map cdI.enc)), (27, .sl 1 (x2.map (cdL 1 cdI).enc)), (28, .v (.int .i64 (x2.length : Int))), (29, .v (.int .i64 c9)), (34, .sl 1 (v11.map cdI.enc))] [some ⟨1, 4, (c8.map cdB.enc), false⟩] (by kernel_rfl) ?_
        refine RunS.one e_evening_check_ok 0 rfl (op_q (wantedA_none rfl) rfl (q_len (a := .sl 1 (v11.map cdI.enc)) (by kernel_rfl) (len_sl (el := 3) (by kernel_rfl)))) ?_
        refine RunS.segF (n := 91) e_evening_check_ok 2 [(0, .v (.int .i64 x0)), (1, .sl 1 (x1.map cdI.enc)), (7, .v (.int .i64 c5)), (8, .v (.bool c6)), (9, .v (.bool c7)), (10, .rf 0 0 c8.length c8.length), (11, .v (.int .i64 c9)), (12, .sl 1 (v11.map cdI.enc)), (27, .sl 1 (x2.map (cdL 1 cdI).enc)), (28, .v (.int .i64 (x2.length : Int))), (29, .v (.int .i64 c9)), (37, .v (.bool ((v11.length : Int) == 0)))] [some ⟨1, 4, (c8.map cdB.enc), false⟩] (by kernel_rfl) ?_
        rcases Bool.eq_false_or_eq_true ((v11.length : Int) == 0) with hc45 | hc45
        · rw [if_pos hc45] at hj15
          rw [hc45]
          refine RunS.segF (n := 91) e_evening_check_ok 13 [(0, .v (.int .i64 x0)), (1, .sl 1 (x1.map cdI.enc)), (7, .v (.int .i64 c5)), (8, .v (.bool c6)), (9, .v (.bool c7)), (10, .rf 0 0 c8.length c8.length), (12, .sl 1 (v11.map cdI.enc)), (27, .sl 1 (x2.map (cdL 1 cdI).enc)), (28, .v (.int .i64 (x2.length : Int))), (29, .v (.int .i64 c9)), (38, .tp []), (39, .tp []), (40, .tp []), (41, .tp []), (42, .tp []), (43, .tp []), (44, .tp []), (45, .tp []), (46, .tp []), (47, .tp []), (48, .tp []), (49, .tp []), (50, .v (.bool true))] [some ⟨1, 4, (c8.map cdB.enc), false⟩] (by kernel_rfl) ?_
          have hq := Option.some.inj hj15; subst hq
          exact RunS.done rfl (Wk.s3 [0] ⟨⟨_, rfl, bu_own⟩, trivial⟩ ⟨lv, lv, lv, lv, lv, lv, lv, lv, lv, lv, lv, trivial⟩)
        · rw [if_f hc45] at hj15
          rw [hc45]
          refine RunS.segF (n := 91) e_evening_check_ok 1 [(0, .v (.int .i64 x0)), (1, .sl 1 (x1.map cdI.enc)), (7, .v (.int .i64 c5)), (8, .v (.bool c6)), (9, .v (.bool c7)), (10, .rf 0 0 c8.length c8.length), (11, .v (.int .i64 c9)), (12, .sl 1 (v11.map cdI.enc)), (27, .sl 1 (x2.map (cdL 1 cdI).enc)), (28, .v (.int .i64 (x2.length : Int))), (29, .v (.int .i64 c9)), (37, .v (.bool false)), (38, .sl 1 (x1.map cdI.enc))] [some ⟨1, 4, (c8.map cdB.enc), false⟩] (by kernel_rfl) ?_
          refine RunS.one e_evening_check_ok 0 rfl (op_q (by kernel_rfl) rfl (q_len (a := .sl 1 (x1.map cdI.enc)) (by kernel_rfl) (len_sl (el := 3) (by kernel_rfl)))) ?_
          refine RunS.segF (n := 91) e_evening_check_ok 2 [(0, .v (.int .i64 x0)), (1, .sl 1 (x1.map cdI.enc)), (7, .v (.int .i64 c5)), (8, .v (.bool c6)), (9, .v (.bool c7)), (10, .rf 0 0 c8.length c8.length), (11, .v (.int .i64 c9)), (12, .sl 1 (v11.map cdI.enc)), (27, .sl 1 (x2.map (cdL 1 cdI).enc)), (28, .v (.int .i64 (x2.length : Int))), (29, .v (.int .i64 c9)), (37, .v (.bool false)), (38, .sl 1 (x1.map cdI.enc)), (39, .v (.int .i64 (x1.length : Int))), (40, .v (.bool (decide ((x1.length : Int) > 0)))), (41, .v (.bool (decide ((x1.length : Int) > 0))))] [some ⟨1, 4, (c8.map cdB.enc), false⟩] (by kernel_rfl) ?_
          rcases Bool.eq_false_or_eq_true (decide ((x1.length : Int) > 0)) with hc46 | hc46
          · rw [if_pos hc46] at hj15
            rw [hc46]
            refine RunS.segF (n := 91) e_evening_check_ok 1 [(0, .v (.int .i64 x0)), (1, .sl 1 (x1.map cdI.enc)), (7, .v (.int .i64 c5)), (8, .v (.bool c6)), (9, .v (.bool c7)), (10, .rf 0 0 c8.length c8.length), (11, .v (.int .i64 c9)), (12, .sl 1 (v11.map cdI.enc)), (27, .sl 1 (x2.map (cdL 1 cdI).enc)), (28, .v (.int .i64 (x2.length : Int))), (29, .v (.int .i64 c9)), (37, .v (.bool false)), (38, .sl 1 (x1.map cdI.enc)), (39, .v (.int .i64 (x1.length : Int))), (40, .v (.bool true)), (41, .v (.bool true)), (42, .sl 1 (v11.map cdI.enc))] [some ⟨1, 4, (c8.map cdB.enc), false⟩] (by kernel_rfl) ?_
            refine RunS.one e_evening_check_ok 0 rfl (op_q (by kernel_rfl) rfl (q_len (a := .sl 1 (v11.map cdI.enc)) (by kernel_rfl) (len_sl (el := 3) (by kernel_rfl)))) ?_
            refine RunS.segF (n := 91) e_evening_check_ok 2 [(0, .v (.int .i64 x0)), (1, .sl 1 (x1.map cdI.enc)), (7, .v (.int .i64 c5)), (8, .v (.bool c6)), (9, .v (.bool c7)), (10, .rf 0 0 c8.length c8.length), (12, .sl 1 (v11.map cdI.enc)), (27, .sl 1 (x2.map (cdL 1 cdI).enc)), (28, .v (.int .i64 (x2.length : Int))), (29, .v (.int .i64 c9)), (37, .v (.bool false)), (38, .sl 1 (x1.map cdI.enc)), (39, .v (.int .i64 (x1.length : Int))), (40, .v (.bool true)), (41, .v (.bool true)), (42, .sl 1 (v11.map cdI.enc)), (43, .v (.int .i64 (v11.length : Int))), (44, .sl 1 (x1.map cdI.enc)), (45, .v (.int .i64 c9))] [some ⟨1, 4, (c8.map cdB.enc), false⟩] (by kernel_rfl) ?_
            obtain ⟨v12, hv12, hj15⟩ := Option.bind_eq_some_iff.1 hj15
            refine RunS.one e_evening_check_ok 0 rfl (op_q (by kernel_rfl) rfl (q_indexAddr (a := .sl 1 (x1.map cdI.enc)) (b := .v (.int .i64 c9)) (by kernel_rfl) (by kernel_rfl) (ix_sl (e := cdI.enc) (el := 3) (k := 1) (ki := .i64) (by kernel_rfl) (by kernel_rfl) hv12))) ?_
            refine RunS.segF (n := 91) e_evening_check_ok 4 [(0, .v (.int .i64 x0)), (1, .sl 1 (x1.map cdI.enc)), (7, .v (.int .i64 c5)), (8, .v (.bool c6)), (9, .v (.bool c7)), (10, .rf 0 0 c8.length c8.length), (12, .sl 1 (v11.map cdI.enc)), (27, .sl 1 (x2.map (cdL 1 cdI).enc)), (28, .v (.int .i64 (x2.length : Int))), (29, .v (.int .i64 c9)), (38, .sl 1 (x1.map cdI.enc)), (39, .v (.int .i64 (x1.length : Int))), (40, .v (.bool true)), (41, .v (.bool true)), (42, .sl 1 (v11.map cdI.enc)), (43, .v (.int .i64 (v11.length : Int))), (44, .sl 1 (x1.map cdI.enc)), (45, .v (.int .i64 c9)), (46, .pe (.v (.int .i64 v12)) 0), (47, .v (.int .i64 v12)), (48, .v (.bool ((v11.length : Int) != v12))), (49, .v (.bool ((v11.length : Int) != v12))), (50, .v (.bool ((v11.length : Int) != v12)))] [some ⟨1, 4, (c8.map cdB.enc), false⟩] (by kernel_rfl) ?_
            have hq := Option.some.inj hj15; subst hq
            exact RunS.done rfl (Wk.s3 [0] ⟨⟨_, rfl, bu_own⟩, trivial⟩ ⟨lv, lv, lv, lv, lv, lv, lv, lv, lv, lv, lv, trivial⟩)
          · rw [if_f hc46] at hj15
            rw [hc46]
            refine RunS.segF (n := 91) e_evening_check_ok 9 [(0, .v (.int .i64 x0)), (1, .sl 1 (x1.map cdI.enc)), (7, .v (.int .i64 c5)), (8, .v (.bool c6)), (9, .v (.bool c7)), (10, .rf 0 0 c8.length c8.length), (12, .sl 1 (v11.map cdI.enc)), (27, .sl 1 (x2.map (cdL 1 cdI).enc)), (28, .v (.int .i64 (x2.length : Int))), (29, .v (.int .i64 c9)), (38, .sl 1 (x1.map cdI.enc)), (39, .v (.int .i64 (x1.length : Int))), (40, .v (.bool false)), (41, .v (.bool false)), (42, .tp []), (43, .tp []), (44, .tp []), (45, .tp []), (46, .tp []), (47, .tp []), (48, .tp []), (49, .v (.bool false)), (50, .v (.bool false))] [some ⟨1, 4, (c8.map cdB.enc), false⟩] (by kernel_rfl) ?_
            have hq := Option.some.inj hj15; subst hq
            exact RunS.done rfl (Wk.s3 [0] ⟨⟨_, rfl, bu_own⟩, trivial⟩ ⟨lv, lv, lv, lv, lv, lv, lv, lv, lv, lv, lv, trivial⟩)
      refine Sem.cond (b := j15.2) (by kernel_rfl) (fun hb16 => ?_) (fun hb16 => ?_)
      · rw [if_pos hb16] at h
        refine Sem.seq ?_
        refine Sem.runS (s1 := ⟨Fr 91 [(6, .v (.int .i64 2))], []⟩) ?_ ?_
        · refine RunS.segF (n := 91) e_evening_check_ok 1 [(6, .v (.int .i64 2))] [some ⟨1, 4, (j15.1.map cdB.enc), false⟩] (by kernel_rfl) ?_
          exact RunS.done rfl (Wk.s3 [] trivial ⟨lv, trivial⟩)
        refine Sem.ret ?_
        have hq := Option.some.inj h; subst hq
        exact ⟨rfl, Wk.f1⟩
      · rw [if_f hb16] at h
        refine Sem.skip ?_
        refine Sem.seq ?_
        refine Sem.runS (s1 := ⟨Fr 91 [(0, .v (.int .i64 x0)), (1, .sl 1 (x1.map cdI.enc)), (7, .v (.int .i64 c5)), (8, .v (.bool c6)), (9, .v (.bool c7)), (10, .rf 0 0 j15.1.length j15.1.length), (27, .sl 1 (x2.map (cdL 1 cdI).enc)), (28, .v (.int .i64 (x2.length : Int))), (29, .v (.int .i64 c9)), (51, .sl 1 (v11.map cdI.enc)), (52, .v (.int .i64 (v11.length : Int))), (53, .v (.int .i64 0))], [some ⟨1, 4, (j15.1.map cdB.enc), false⟩]⟩) ?_ ?_
        · refine RunS.segF (n := 91) e_evening_check_ok 1 [(0, .v (.int .i64 x0)), (1, .sl 1 (x1.map cdI.enc)), (7, .v (.int .i64 c5)), (8, .v (.bool c6)), (9, .v (.bool c7)), (10, .rf 0 0 j15.1.length j15.1.length), (27, .sl 1 (x2.map (cdL 1 cdI).enc)), (28, .v (.int .i64 (x2.length : Int))), (29, .v (.int .i64 c9)), (51, .sl 1 (v11.map cdI.enc))] [some ⟨1, 4, (j15.1.map cdB.enc), false⟩] (by kernel_rfl) ?_
          refine RunS.one e_evening_check_ok 0 rfl (op_q (wantedA_none rfl) rfl (q_len (a := .sl 1 (v11.map cdI.enc)) (by kernel_rfl) (len_sl (el := 3) (by kernel_rfl)))) ?_
          refine RunS.segF (n := 91) e_evening_check_ok 1 [(0, .v (.int .i64 x0)), (1, .sl 1 (x1.map cdI.enc)), (7, .v (.int .i64 c5)), (8, .v (.bool c6)), (9, .v (.bool c7)), (10, .rf 0 0 j15.1.length j15.1.length), (27, .sl 1 (x2.map (cdL 1 cdI).enc)), (28, .v (.int .i64 (x2.length : Int))), (29, .v (.int .i64 c9)), (51, .sl 1 (v11.map cdI.enc)), (52, .v (.int .i64 (v11.length : Int))), (53, .v (.int .i64 0))] [some ⟨1, 4, (j15.1.map cdB.enc), false⟩] (by kernel_rfl) ?_
          exact RunS.done rfl (Wk.s3 [0] ⟨⟨_, rfl, bu_own⟩, trivial⟩ ⟨lv, lv, lv, lv, lv, lv, lv, lv, lv, lv, lv, lv, trivial⟩)
        refine Sem.block ?_
        obtain ⟨r44, hr44, h⟩ := Option.bind_eq_some_iff.1 h
        refine Sem.loop (n := 100000) ?_
        refine Sem.cutN (SemN.wk (s1 := ⟨Fr 91 [(0, .v (.int .i64 x0)), (1, .sl 1 (x1.map cdI.enc)), (7, .v (.int .i64 c5)), (8, .v (.bool c6)), (9, .v (.bool c7)), (10, .rf 0 0 j15.1.length j15.1.length), (27, .sl 1 (x2.map (cdL 1 cdI).enc)), (28, .v (.int .i64 (x2.length : Int))), (29, .v (.int .i64 c9)), (51, .sl 1 (v11.map cdI.enc)), (52, .v (.int .i64 (v11.length : Int))), (53, .v (.int .i64 0))], [some ⟨1, 4, (j15.1.map cdB.enc), false⟩]⟩) (Wk.s3 [0] ⟨⟨_, rfl, bu_own⟩, trivial⟩ ⟨lv, lv, lv, lv, lv, lv, lv, lv, lv, lv, lv, lv, trivial⟩) (evening_check_2_ok x0 x1 x2 c9 v11 _ c5 c6 c7 j15.1 0 _ hr44)) ?_
        refine Sem.runS (s1 := ⟨Fr 91 [(0, .v (.int .i64 x0)), (1, .sl 1 (x1.map cdI.enc)), (7, .v (.int .i64 r44.1)), (8, .v (.bool r44.2.1)), (9, .v (.bool r44.2.2.1)), (10, .rf 0 0 r44.2.2.2.length r44.2.2.2.length), (27, .sl 1 (x2.map (cdL 1 cdI).enc)), (28, .v (.int .i64 (x2.length : Int))), (29, .v (.int .i64 (wr .i64 (c9 + 1))))], [some ⟨1, 4, (r44.2.2.2.map cdB.enc), false⟩]⟩) ?_ ?_
        · refine RunS.segF (n := 91) e_evening_check_ok 2 [(0, .v (.int .i64 x0)), (1, .sl 1 (x1.map cdI.enc)), (7, .v (.int .i64 r44.1)), (8, .v (.bool r44.2.1)), (9, .v (.bool r44.2.2.1)), (10, .rf 0 0 r44.2.2.2.length r44.2.2.2.length), (27, .sl 1 (x2.map (cdL 1 cdI).enc)), (28, .v (.int .i64 (x2.length : Int))), (29, .v (.int .i64 (wr .i64 (c9 + 1))))] [some ⟨1, 4, (r44.2.2.2.map cdB.enc), false⟩] (by kernel_rfl) ?_
          exact RunS.done rfl (Wk.s3 [0] ⟨⟨_, rfl, bu_own⟩, trivial⟩ ⟨lv, lv, lv, lv, lv, lv, lv, lv, lv, trivial⟩)
        exact SemN.wk (s1 := ⟨Fr 91 [(0, .v (.int .i64 x0)), (1, .sl 1 (x1.map cdI.enc)), (7, .v (.int .i64 r44.1)), (8, .v (.bool r44.2.1)), (9, .v (.bool r44.2.2.1)), (10, .rf 0 0 r44.2.2.2.length r44.2.2.2.length), (27, .sl 1 (x2.map (cdL 1 cdI).enc)), (28, .v (.int .i64 (x2.length : Int))), (29, .v (.int .i64 (wr .i64 (c9 + 1))))], [some ⟨1, 4, (r44.2.2.2.map cdB.enc), false⟩]⟩) (Wk.s3 [0] ⟨⟨_, rfl, bu_own⟩, trivial⟩ ⟨lv, lv, lv, lv, lv, lv, lv, lv, lv, trivial⟩) (ih r44.1 r44.2.1 r44.2.2.1 r44.2.2.2 (wr .i64 (c9 + 1)) h)
    · rw [if_f hb10] at h
      refine Sem.exit ?_
      have hq := Option.some.inj h; subst hq
      exact ⟨rfl, (Wk.s3 [] trivial ⟨lv, lv, lv, lv, trivial⟩)⟩
set_option maxHeartbeats 4000000 in
set_option maxRecDepth 100000 in
theorem evening_check_sem (x0 : Int) (x1 : (List Int)) (x2 : (List (List Int))) (r : Int) (h : evening_check x0 x1 x2 = some r) : Sem e_evening_check ⟨none, false⟩ cb_evening_check ⟨Fr 91 (pairs0 0 (cs_evening_check.enc (x0, x1, x2, ()))), []⟩ fun e s' => (e = .normal ∨ e = .ret) ∧ ∃ xs, resA e_evening_check.P s'.fr s'.hp Tryd.f42.results.toList = some xs ∧ retA xs = er_evening_check r := by
  unfold evening_check at h
  refine Sem.wkQ (Sem.wk (s1 := ⟨Fr 91 [(0, .v (.int .i64 x0)), (1, .sl 1 (x1.map cdI.enc)), (2, .sl 1 (x2.map (cdL 1 cdI).enc))], []⟩) Wk.f1 ?_)
  refine Sem.seq ?_
  refine Sem.runS (s1 := ⟨Fr 91 [(0, .v (.int .i64 x0)), (1, .sl 1 (x1.map cdI.enc)), (2, .sl 1 (x2.map (cdL 1 cdI).enc))], []⟩) ?_ ?_
  · refine RunS.segF (n := 91) e_evening_check_ok 1 [(0, .v (.int .i64 x0)), (1, .sl 1 (x1.map cdI.enc)), (2, .sl 1 (x2.map (cdL 1 cdI).enc))] [] (by kernel_rfl) ?_
    exact RunS.done rfl Wk.f1
  refine Sem.seq ?_
  refine Sem.seq ?_
  obtain ⟨j2, hj2, h⟩ := Option.bind_eq_some_iff.1 h
  refine Sem.runS (s1 := ⟨Fr 91 [(0, .v (.int .i64 x0)), (1, .sl 1 (x1.map cdI.enc)), (2, .sl 1 (x2.map (cdL 1 cdI).enc)), (24, .v (.bool j2))], []⟩) ?_ ?_
  · refine RunS.segF (n := 91) e_evening_check_ok 1 [(0, .v (.int .i64 x0)), (1, .sl 1 (x1.map cdI.enc)), (2, .sl 1 (x2.map (cdL 1 cdI).enc)), (15, .sl 1 (x1.map cdI.enc))] [] (by kernel_rfl) ?_
    refine RunS.one e_evening_check_ok 0 rfl (op_q (wantedA_none rfl) rfl (q_len (a := .sl 1 (x1.map cdI.enc)) (by kernel_rfl) (len_sl (el := 3) (by kernel_rfl)))) ?_
    refine RunS.segF (n := 91) e_evening_check_ok 2 [(0, .v (.int .i64 x0)), (1, .sl 1 (x1.map cdI.enc)), (2, .sl 1 (x2.map (cdL 1 cdI).enc)), (18, .v (.bool (decide ((x1.length : Int) > 0))))] [] (by kernel_rfl) ?_
    rcases Bool.eq_false_or_eq_true (decide ((x1.length : Int) > 0)) with hc56 | hc56
    · rw [if_pos hc56] at hj2
      rw [hc56]
      refine RunS.segF (n := 91) e_evening_check_ok 1 [(0, .v (.int .i64 x0)), (1, .sl 1 (x1.map cdI.enc)), (2, .sl 1 (x2.map (cdL 1 cdI).enc)), (18, .v (.bool true)), (19, .sl 1 (x1.map cdI.enc))] [] (by kernel_rfl) ?_
      refine RunS.one e_evening_check_ok 0 rfl (op_q (by kernel_rfl) rfl (q_len (a := .sl 1 (x1.map cdI.enc)) (by kernel_rfl) (len_sl (el := 3) (by kernel_rfl)))) ?_
      refine RunS.segF (n := 91) e_evening_check_ok 1 [(0, .v (.int .i64 x0)), (1, .sl 1 (x1.map cdI.enc)), (2, .sl 1 (x2.map (cdL 1 cdI).enc)), (18, .v (.bool true)), (20, .v (.int .i64 (x1.length : Int))), (21, .sl 1 (x2.map (cdL 1 cdI).enc))] [] (by kernel_rfl) ?_
      refine RunS.one e_evening_check_ok 0 rfl (op_q (by kernel_rfl) rfl (q_len (a := .sl 1 (x2.map (cdL 1 cdI).enc)) (by kernel_rfl) (len_sl (el := 29) (by kernel_rfl)))) ?_
      refine RunS.segF (n := 91) e_evening_check_ok 2 [(0, .v (.int .i64 x0)), (1, .sl 1 (x1.map cdI.enc)), (2, .sl 1 (x2.map (cdL 1 cdI).enc)), (24, .v (.bool ((x1.length : Int) != (x2.length : Int))))] [] (by kernel_rfl) ?_
      have hq := Option.some.inj hj2; subst hq
      exact RunS.done rfl Wk.f1
    · rw [if_f hc56] at hj2
      rw [hc56]
      refine RunS.segF (n := 91) e_evening_check_ok 6 [(0, .v (.int .i64 x0)), (1, .sl 1 (x1.map cdI.enc)), (2, .sl 1 (x2.map (cdL 1 cdI).enc)), (24, .v (.bool false))] [] (by kernel_rfl) ?_
      have hq := Option.some.inj hj2; subst hq
      exact RunS.done rfl Wk.f1
  refine Sem.cond (b := j2) (by kernel_rfl) (fun hb3 => ?_) (fun hb3 => ?_)
  · rw [if_pos hb3] at h
    refine Sem.seq ?_
    refine Sem.runS (s1 := ⟨Fr 91 [(6, .v (.int .i64 2))], []⟩) ?_ ?_
    · refine RunS.segF (n := 91) e_evening_check_ok 1 [(6, .v (.int .i64 2))] [] (by kernel_rfl) ?_
      exact RunS.done rfl Wk.f1
    refine Sem.ret ?_
    have hq := Option.some.inj h; subst hq
    exact ⟨⟨Fr 91 [(6, .v (.int .i64 2))], []⟩, Wk.f1, .inr rfl, [.v (.int .i64 2)], (by kernel_rfl), (by kernel_rfl)⟩
  · rw [if_f hb3] at h
    refine Sem.skip ?_
    refine Sem.seq ?_
    refine Sem.runS (s1 := ⟨Fr 91 [(0, .v (.int .i64 x0)), (1, .sl 1 (x1.map cdI.enc)), (2, .sl 1 (x2.map (cdL 1 cdI).enc)), (7, .v (.int .i64 0)), (8, .v (.bool false)), (9, .v (.bool false))], []⟩) ?_ ?_
    · refine RunS.segF (n := 91) e_evening_check_ok 3 [(0, .v (.int .i64 x0)), (1, .sl 1 (x1.map cdI.enc)), (2, .sl 1 (x2.map (cdL 1 cdI).enc)), (7, .v (.int .i64 0)), (8, .v (.bool false)), (9, .v (.bool false))] [] (by kernel_rfl) ?_
      exact RunS.done rfl Wk.f1
    refine Sem.seq ?_
    by_cases hk4 : (mkOk 1 x0) = true
    case neg => rw [if_neg hk4] at h; cases h
    rw [if_pos hk4] at h
    refine Sem.runS (s1 := ⟨Fr 91 [(0, .v (.int .i64 x0)), (1, .sl 1 (x1.map cdI.enc)), (2, .sl 1 (x2.map (cdL 1 cdI).enc)), (7, .v (.int .i64 0)), (8, .v (.bool false)), (9, .v (.bool false)), (10, .rf 0 0 (List.replicate x0.toNat false).length (List.replicate x0.toNat false).length)], [some ⟨1, 4, ((List.replicate x0.toNat false).map cdB.enc), false⟩]⟩) ?_ ?_
    · refine RunS.segF (n := 91) e_evening_check_ok 1 [(0, .v (.int .i64 x0)), (1, .sl 1 (x1.map cdI.enc)), (2, .sl 1 (x2.map (cdL 1 cdI).enc)), (7, .v (.int .i64 0)), (8, .v (.bool false)), (9, .v (.bool false)), (25, .v (.int .i64 x0))] [] (by kernel_rfl) ?_
      refine RunS.one e_evening_check_ok 0 rfl (op_n (wantedA_none rfl) rfl (by kernel_rfl) (n_make (x := .v (.int .i64 x0)) (y := .v (.int .i64 x0)) (by kernel_rfl) (by kernel_rfl) (make_B (c := cdB) (z := false) (k := 1) (bytes := 1) (el := 4) (by kernel_rfl) (by kernel_rfl) hk4))) ?_
      refine RunS.segF (n := 91) e_evening_check_ok 1 [(0, .v (.int .i64 x0)), (1, .sl 1 (x1.map cdI.enc)), (2, .sl 1 (x2.map (cdL 1 cdI).enc)), (7, .v (.int .i64 0)), (8, .v (.bool false)), (9, .v (.bool false)), (10, .rf 0 0 (List.replicate x0.toNat false).length (List.replicate x0.toNat false).length)] [some ⟨1, 4, ((List.replicate x0.toNat false).map cdB.enc), false⟩] (by kernel_rfl) ?_
      exact RunS.done rfl (Wk.s3 [0] ⟨⟨_, rfl, bu_own⟩, trivial⟩ ⟨lv, lv, lv, lv, lv, lv, lv, trivial⟩)
    refine Sem.seq ?_
    refine Sem.seq ?_
    refine Sem.runS (s1 := ⟨Fr 91 [(0, .v (.int .i64 x0)), (1, .sl 1 (x1.map cdI.enc)), (7, .v (.int .i64 0)), (8, .v (.bool false)), (9, .v (.bool false)), (10, .rf 0 0 (List.replicate x0.toNat false).length (List.replicate x0.toNat false).length), (27, .sl 1 (x2.map (cdL 1 cdI).enc)), (28, .v (.int .i64 (x2.length : Int))), (29, .v (.int .i64 0))], [some ⟨1, 4, ((List.replicate x0.toNat false).map cdB.enc), false⟩]⟩) ?_ ?_
    · refine RunS.segF (n := 91) e_evening_check_ok 1 [(0, .v (.int .i64 x0)), (1, .sl 1 (x1.map cdI.enc)), (7, .v (.int .i64 0)), (8, .v (.bool false)), (9, .v (.bool false)), (10, .rf 0 0 (List.replicate x0.toNat false).length (List.replicate x0.toNat false).length), (27, .sl 1 (x2.map (cdL 1 cdI).enc))] [some ⟨1, 4, ((List.replicate x0.toNat false).map cdB.enc), false⟩] (by kernel_rfl) ?_
      refine RunS.one e_evening_check_ok 0 rfl (op_q (wantedA_none rfl) rfl (q_len (a := .sl 1 (x2.map (cdL 1 cdI).enc)) (by kernel_rfl) (len_sl (el := 29) (by kernel_rfl)))) ?_
      refine RunS.segF (n := 91) e_evening_check_ok 1 [(0, .v (.int .i64 x0)), (1, .sl 1 (x1.map cdI.enc)), (7, .v (.int .i64 0)), (8, .v (.bool false)), (9, .v (.bool false)), (10, .rf 0 0 (List.replicate x0.toNat false).length (List.replicate x0.toNat false).length), (27, .sl 1 (x2.map (cdL 1 cdI).enc)), (28, .v (.int .i64 (x2.length : Int))), (29, .v (.int .i64 0))] [some ⟨1, 4, ((List.replicate x0.toNat false).map cdB.enc), false⟩] (by kernel_rfl) ?_
      exact RunS.done rfl (Wk.s3 [0] ⟨⟨_, rfl, bu_own⟩, trivial⟩ ⟨lv, lv, lv, lv, lv, lv, lv, lv, lv, trivial⟩)
    refine Sem.block ?_
    obtain ⟨r50, hr50, h⟩ := Option.bind_eq_some_iff.1 h
    refine Sem.loop (n := 100000) ?_
    rcases r50 with w51 | w55
    · try dsimp only at h
      refine Sem.cutN (SemN.wk (s1 := ⟨Fr 91 [(0, .v (.int .i64 x0)), (1, .sl 1 (x1.map cdI.enc)), (7, .v (.int .i64 0)), (8, .v (.bool false)), (9, .v (.bool false)), (10, .rf 0 0 (List.replicate x0.toNat false).length (List.replicate x0.toNat false).length), (27, .sl 1 (x2.map (cdL 1 cdI).enc)), (28, .v (.int .i64 (x2.length : Int))), (29, .v (.int .i64 0))], [some ⟨1, 4, ((List.replicate x0.toNat false).map cdB.enc), false⟩]⟩) (Wk.s3 [0] ⟨⟨_, rfl, bu_own⟩, trivial⟩ ⟨lv, lv, lv, lv, lv, lv, lv, lv, lv, trivial⟩) (evening_check_1_ok x0 x1 x2 _ 0 false false (List.replicate x0.toNat false) 0 _ hr50)) ?_
      refine Sem.seq ?_
      refine Sem.block ?_
      refine Sem.seq ?_
      refine Sem.runS (s1 := ⟨Fr 91 [(0, .v (.int .i64 x0)), (7, .v (.int .i64 w51.1)), (8, .v (.bool w51.2.1)), (83, .v (.bool w51.2.2))], []⟩) ?_ ?_
      · refine RunS.segF (n := 91) e_evening_check_ok 2 [(0, .v (.int .i64 x0)), (7, .v (.int .i64 w51.1)), (8, .v (.bool w51.2.1)), (83, .v (.bool w51.2.2))] [] (by kernel_rfl) ?_
        exact RunS.done rfl Wk.f1
      refine Sem.cond (b := w51.2.2) (by kernel_rfl) (fun hb52 => ?_) (fun hb52 => ?_)
      · rw [if_pos hb52] at h
        refine Sem.seq ?_
        refine Sem.runS (s1 := ⟨Fr 91 [(6, .v (.int .i64 6))], []⟩) ?_ ?_
        · refine RunS.segF (n := 91) e_evening_check_ok 1 [(6, .v (.int .i64 6))] [] (by kernel_rfl) ?_
          exact RunS.done rfl Wk.f1
        refine Sem.ret ?_
        have hq := Option.some.inj h; subst hq
        exact ⟨⟨Fr 91 [(6, .v (.int .i64 6))], []⟩, Wk.f1, .inr rfl, [.v (.int .i64 6)], (by kernel_rfl), (by kernel_rfl)⟩
      · rw [if_f hb52] at h
        refine Sem.seq ?_
        refine Sem.runS (s1 := ⟨Fr 91 [(0, .v (.int .i64 x0)), (7, .v (.int .i64 w51.1)), (85, .v (.bool w51.2.1))], []⟩) ?_ ?_
        · refine RunS.segF (n := 91) e_evening_check_ok 2 [(0, .v (.int .i64 x0)), (7, .v (.int .i64 w51.1)), (85, .v (.bool w51.2.1))] [] (by kernel_rfl) ?_
          exact RunS.done rfl Wk.f1
        refine Sem.cond (b := w51.2.1) (by kernel_rfl) (fun hb53 => ?_) (fun hb53 => ?_)
        · rw [if_pos hb53] at h
          refine Sem.seq ?_
          refine Sem.runS (s1 := ⟨Fr 91 [(6, .v (.int .i64 5))], []⟩) ?_ ?_
          · refine RunS.segF (n := 91) e_evening_check_ok 1 [(6, .v (.int .i64 5))] [] (by kernel_rfl) ?_
            exact RunS.done rfl Wk.f1
          refine Sem.ret ?_
          have hq := Option.some.inj h; subst hq
          exact ⟨⟨Fr 91 [(6, .v (.int .i64 5))], []⟩, Wk.f1, .inr rfl, [.v (.int .i64 5)], (by kernel_rfl), (by kernel_rfl)⟩
        · rw [if_f hb53] at h
          refine Sem.seq ?_
          refine Sem.runS (s1 := ⟨Fr 91 [(87, .v (.bool (decide (w51.1 < x0))))], []⟩) ?_ ?_
          · refine RunS.segF (n := 91) e_evening_check_ok 4 [(87, .v (.bool (decide (w51.1 < x0))))] [] (by kernel_rfl) ?_
            exact RunS.done rfl Wk.f1
          refine Sem.cond (b := (decide (w51.1 < x0))) (by kernel_rfl) (fun hb54 => ?_) (fun hb54 => ?_)
          · rw [if_pos hb54] at h
            refine Sem.seq ?_
            refine Sem.runS (s1 := ⟨Fr 91 [(6, .v (.int .i64 2))], []⟩) ?_ ?_
            · refine RunS.segF (n := 91) e_evening_check_ok 1 [(6, .v (.int .i64 2))] [] (by kernel_rfl) ?_
              exact RunS.done rfl Wk.f1
            refine Sem.ret ?_
            have hq := Option.some.inj h; subst hq
            exact ⟨⟨Fr 91 [(6, .v (.int .i64 2))], []⟩, Wk.f1, .inr rfl, [.v (.int .i64 2)], (by kernel_rfl), (by kernel_rfl)⟩
          · rw [if_f hb54] at h
            refine Sem.skip ?_
            refine Sem.seq ?_
            refine Sem.runS (s1 := ⟨Fr 91 [(6, .v (.int .i64 0))], []⟩) ?_ ?_
            · refine RunS.segF (n := 91) e_evening_check_ok 1 [(6, .v (.int .i64 0))] [] (by kernel_rfl) ?_
              exact RunS.done rfl Wk.f1
            refine Sem.ret ?_
            have hq := Option.some.inj h; subst hq
            exact ⟨⟨Fr 91 [(6, .v (.int .i64 0))], []⟩, Wk.f1, .inr rfl, [.v (.int .i64 0)], (by kernel_rfl), (by kernel_rfl)⟩
    · try dsimp only at h
      refine Sem.cutN (SemN.wk (s1 := ⟨Fr 91 [(0, .v (.int .i64 x0)), (1, .sl 1 (x1.map cdI.enc)), (7, .v (.int .i64 0)), (8, .v (.bool false)), (9, .v (.bool false)), (10, .rf 0 0 (List.replicate x0.toNat false).length (List.replicate x0.toNat false).length), (27, .sl 1 (x2.map (cdL 1 cdI).enc)), (28, .v (.int .i64 (x2.length : Int))), (29, .v (.int .i64 0))], [some ⟨1, 4, ((List.replicate x0.toNat false).map cdB.enc), false⟩]⟩) (Wk.s3 [0] ⟨⟨_, rfl, bu_own⟩, trivial⟩ ⟨lv, lv, lv, lv, lv, lv, lv, lv, lv, trivial⟩) (evening_check_1_ok x0 x1 x2 _ 0 false false (List.replicate x0.toNat false) 0 _ hr50)) ?_
      have hq := Option.some.inj h; subst hq
      exact ⟨⟨Fr 91 [(6, .v (.int .i64 w55))], []⟩, Wk.f1, .inr rfl, [.v (.int .i64 w55)], (by kernel_rfl), (by kernel_rfl)⟩
def t_evening_check : List AV → Option AV := told cs_evening_check (fun a => evening_check a.1 a.2.1 a.2.2.1) er_evening_check
theorem x_evening_check : XOk 42 t_evening_check := by
  refine EnvOk.x (E := e_evening_check) (contract_ok e_evening_check_ok (fn := Tryd.f42) (c := cb_evening_check) ?h1 ?h2 ⟨Tryd.call42⟩ cs_evening_check (fun a => evening_check a.1 a.2.1 a.2.2.1) er_evening_check (fun a => (by show 3 ≤ 91; decide)) ?h3 ?h4) rfl rfl
  case h1 => kernel_rfl
  case h2 => kernel_rfl
  case h3 => intro b; kernel_rfl
  case h4 => exact fun a b h => evening_check_sem a.1 a.2.1 a.2.2.1 b h
end Go.Proofs.YtnmkejapogklmaaDoor
