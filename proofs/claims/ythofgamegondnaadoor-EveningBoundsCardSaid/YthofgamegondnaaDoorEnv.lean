/- The functions of this seat, for the abstract interpreter. By a program of mine. -/
import Derived.Test.YthofgamegondnaaDoorProg
import Derived.Test.YthofgamegondnaaDoorEvV
namespace Go.Proofs.YthofgamegondnaaDoor
open Go.RowKit
noncomputable def fnT : Nat → Option Func
  | 2 => some Tryd.f2
  | 3 => some Tryd.f3
  | 4 => some Tryd.f4
  | 5 => some Tryd.f5
  | 6 => some Tryd.f6
  | 7 => some Tryd.f7
  | 8 => some Tryd.f8
  | 9 => some Tryd.f9
  | 10 => some Tryd.f10
  | 11 => some Tryd.f11
  | 12 => some Tryd.f12
  | 13 => some Tryd.f13
  | 14 => some Tryd.f14
  | 15 => some Tryd.f15
  | 16 => some Tryd.f16
  | 17 => some Tryd.f17
  | 18 => some Tryd.f18
  | 19 => some Tryd.f19
  | 20 => some Tryd.f20
  | 21 => some Tryd.f21
  | 22 => some Tryd.f22
  | 23 => some Tryd.f23
  | 24 => some Tryd.f24
  | 25 => some Tryd.f25
  | 26 => some Tryd.f26
  | 27 => some Tryd.f27
  | 28 => some Tryd.f28
  | 29 => some Tryd.f29
  | 30 => some Tryd.f30
  | 31 => some Tryd.f31
  | 32 => some Tryd.f32
  | 33 => some Tryd.f33
  | 34 => some Tryd.f34
  | 35 => some Tryd.f35
  | 36 => some Tryd.f36
  | 37 => some Tryd.f37
  | 38 => some Tryd.f38
  | 39 => some Tryd.f39
  | 40 => some Tryd.f40
  | 42 => some Tryd.f42
  | 43 => some Tryd.f43
  | 44 => some Tryd.f44
  | 45 => some Tryd.f45
  | 46 => some Tryd.f46
  | 48 => some Tryd.f48
  | 49 => some Tryd.f49
  | 50 => some Tryd.f50
  | 51 => some Tryd.f51
  | 52 => some Tryd.f52
  | 53 => some Tryd.f53
  | 54 => some Tryd.f54
  | 55 => some Tryd.f55
  | 56 => some Tryd.f56
  | 57 => some Tryd.f57
  | 58 => some Tryd.f58
  | 60 => some Tryd.f60
  | 61 => some Tryd.f61
  | 62 => some Tryd.f62
  | 63 => some Tryd.f63
  | 64 => some Tryd.f64
  | 65 => some Tryd.f65
  | 66 => some Tryd.f66
  | 67 => some Tryd.f67
  | 68 => some Tryd.f68
  | 69 => some Tryd.f69
  | 70 => some Tryd.f70
  | 71 => some Tryd.f71
  | 72 => some Tryd.f72
  | 73 => some Tryd.f73
  | 74 => some Tryd.f74
  | 75 => some Tryd.f75
  | 76 => some Tryd.f76
  | 77 => some Tryd.f77
  | 78 => some Tryd.f78
  | 79 => some Tryd.f79
  | 80 => some Tryd.f80
  | 81 => some Tryd.f81
  | 82 => some Tryd.f82
  | 83 => some Tryd.f83
  | 84 => some Tryd.f84
  | 85 => some Tryd.f85
  | 86 => some Tryd.f86
  | 87 => some Tryd.f87
  | 88 => some Tryd.f88
  | 89 => some Tryd.f89
  | 90 => some Tryd.f90
  | 91 => some Tryd.f91
  | 92 => some Tryd.f92
  | 93 => some Tryd.f93
  | 94 => some Tryd.f94
  | 95 => some Tryd.f95
  | 96 => some Tryd.f96
  | 97 => some Tryd.f97
  | 98 => some Tryd.f98
  | 99 => some Tryd.f99
  | 100 => some Tryd.f100
  | 101 => some Tryd.f101
  | 102 => some Tryd.f102
  | 103 => some Tryd.f103
  | 104 => some Tryd.f104
  | 105 => some Tryd.f105
  | 106 => some Tryd.f106
  | 107 => some Tryd.f107
  | 108 => some Tryd.f108
  | 109 => some Tryd.f109
  | 110 => some Tryd.f110
  | 111 => some Tryd.f111
  | 112 => some Tryd.f112
  | 113 => some Tryd.f113
  | 114 => some Tryd.f114
  | 115 => some Tryd.f115
  | 117 => some Tryd.f117
  | 118 => some Tryd.f118
  | 119 => some Tryd.f119
  | 120 => some Tryd.f120
  | 121 => some Tryd.f121
  | 123 => some Tryd.f123
  | 124 => some Tryd.f124
  | 125 => some Tryd.f125
  | 126 => some Tryd.f126
  | 127 => some Tryd.f127
  | 128 => some Tryd.f128
  | 129 => some Tryd.f129
  | 130 => some Tryd.f130
  | 153 => some Tryd.f153
  | _ => none
def idT : Nat → Bool
  | 116 => true
  | _ => false
noncomputable def E0 : Env := ⟨Tryd.prog, fnT, fun _ => none, fun _ => none, idT⟩
def bodyOk (fn : Func) : Bool := match fn.body with
  | some c => drawOk c
  | none => false
theorem bodyOk_inv {fn : Func} (h : bodyOk fn = true) : ∀ c, fn.body = some c → drawOk c = true := fun c hc => by unfold bodyOk at h; rw [hc] at h; exact h
theorem dk2 : bodyOk Tryd.f2 = true := by kernel_rfl
theorem dk3 : bodyOk Tryd.f3 = true := by kernel_rfl
theorem dk4 : bodyOk Tryd.f4 = true := by kernel_rfl
theorem dk5 : bodyOk Tryd.f5 = true := by kernel_rfl
theorem dk6 : bodyOk Tryd.f6 = true := by kernel_rfl
theorem dk7 : bodyOk Tryd.f7 = true := by kernel_rfl
theorem dk8 : bodyOk Tryd.f8 = true := by kernel_rfl
theorem dk9 : bodyOk Tryd.f9 = true := by kernel_rfl
theorem dk10 : bodyOk Tryd.f10 = true := by kernel_rfl
theorem dk11 : bodyOk Tryd.f11 = true := by kernel_rfl
theorem dk12 : bodyOk Tryd.f12 = true := by kernel_rfl
theorem dk13 : bodyOk Tryd.f13 = true := by kernel_rfl
theorem dk14 : bodyOk Tryd.f14 = true := by kernel_rfl
theorem dk15 : bodyOk Tryd.f15 = true := by kernel_rfl
theorem dk16 : bodyOk Tryd.f16 = true := by kernel_rfl
theorem dk17 : bodyOk Tryd.f17 = true := by kernel_rfl
theorem dk18 : bodyOk Tryd.f18 = true := by kernel_rfl
theorem dk19 : bodyOk Tryd.f19 = true := by kernel_rfl
theorem dk20 : bodyOk Tryd.f20 = true := by kernel_rfl
theorem dk21 : bodyOk Tryd.f21 = true := by kernel_rfl
theorem dk22 : bodyOk Tryd.f22 = true := by kernel_rfl
theorem dk23 : bodyOk Tryd.f23 = true := by kernel_rfl
theorem dk24 : bodyOk Tryd.f24 = true := by kernel_rfl
theorem dk25 : bodyOk Tryd.f25 = true := by kernel_rfl
theorem dk26 : bodyOk Tryd.f26 = true := by kernel_rfl
theorem dk27 : bodyOk Tryd.f27 = true := by kernel_rfl
theorem dk28 : bodyOk Tryd.f28 = true := by kernel_rfl
theorem dk29 : bodyOk Tryd.f29 = true := by kernel_rfl
theorem dk30 : bodyOk Tryd.f30 = true := by kernel_rfl
theorem dk31 : bodyOk Tryd.f31 = true := by kernel_rfl
theorem dk32 : bodyOk Tryd.f32 = true := by kernel_rfl
theorem dk33 : bodyOk Tryd.f33 = true := by kernel_rfl
theorem dk34 : bodyOk Tryd.f34 = true := by kernel_rfl
theorem dk35 : bodyOk Tryd.f35 = true := by kernel_rfl
theorem dk36 : bodyOk Tryd.f36 = true := by kernel_rfl
theorem dk37 : bodyOk Tryd.f37 = true := by kernel_rfl
theorem dk38 : bodyOk Tryd.f38 = true := by kernel_rfl
theorem dk39 : bodyOk Tryd.f39 = true := by kernel_rfl
theorem dk40 : bodyOk Tryd.f40 = true := by kernel_rfl
theorem dk42 : bodyOk Tryd.f42 = true := by kernel_rfl
theorem dk43 : bodyOk Tryd.f43 = true := by kernel_rfl
theorem dk44 : bodyOk Tryd.f44 = true := by kernel_rfl
theorem dk45 : bodyOk Tryd.f45 = true := by kernel_rfl
theorem dk46 : bodyOk Tryd.f46 = true := by kernel_rfl
theorem dk48 : bodyOk Tryd.f48 = true := by kernel_rfl
theorem dk49 : bodyOk Tryd.f49 = true := by kernel_rfl
theorem dk50 : bodyOk Tryd.f50 = true := by kernel_rfl
theorem dk51 : bodyOk Tryd.f51 = true := by kernel_rfl
theorem dk52 : bodyOk Tryd.f52 = true := by kernel_rfl
theorem dk53 : bodyOk Tryd.f53 = true := by kernel_rfl
theorem dk54 : bodyOk Tryd.f54 = true := by kernel_rfl
theorem dk55 : bodyOk Tryd.f55 = true := by kernel_rfl
theorem dk56 : bodyOk Tryd.f56 = true := by kernel_rfl
theorem dk57 : bodyOk Tryd.f57 = true := by kernel_rfl
theorem dk58 : bodyOk Tryd.f58 = true := by kernel_rfl
theorem dk60 : bodyOk Tryd.f60 = true := by kernel_rfl
theorem dk61 : bodyOk Tryd.f61 = true := by kernel_rfl
theorem dk62 : bodyOk Tryd.f62 = true := by kernel_rfl
theorem dk63 : bodyOk Tryd.f63 = true := by kernel_rfl
theorem dk64 : bodyOk Tryd.f64 = true := by kernel_rfl
theorem dk65 : bodyOk Tryd.f65 = true := by kernel_rfl
theorem dk66 : bodyOk Tryd.f66 = true := by kernel_rfl
theorem dk67 : bodyOk Tryd.f67 = true := by kernel_rfl
theorem dk68 : bodyOk Tryd.f68 = true := by kernel_rfl
theorem dk69 : bodyOk Tryd.f69 = true := by kernel_rfl
theorem dk70 : bodyOk Tryd.f70 = true := by kernel_rfl
theorem dk71 : bodyOk Tryd.f71 = true := by kernel_rfl
theorem dk72 : bodyOk Tryd.f72 = true := by kernel_rfl
theorem dk73 : bodyOk Tryd.f73 = true := by kernel_rfl
theorem dk74 : bodyOk Tryd.f74 = true := by kernel_rfl
theorem dk75 : bodyOk Tryd.f75 = true := by kernel_rfl
theorem dk76 : bodyOk Tryd.f76 = true := by kernel_rfl
theorem dk77 : bodyOk Tryd.f77 = true := by kernel_rfl
theorem dk78 : bodyOk Tryd.f78 = true := by kernel_rfl
theorem dk79 : bodyOk Tryd.f79 = true := by kernel_rfl
theorem dk80 : bodyOk Tryd.f80 = true := by kernel_rfl
theorem dk81 : bodyOk Tryd.f81 = true := by kernel_rfl
theorem dk82 : bodyOk Tryd.f82 = true := by kernel_rfl
theorem dk83 : bodyOk Tryd.f83 = true := by kernel_rfl
theorem dk84 : bodyOk Tryd.f84 = true := by kernel_rfl
theorem dk85 : bodyOk Tryd.f85 = true := by kernel_rfl
theorem dk86 : bodyOk Tryd.f86 = true := by kernel_rfl
theorem dk87 : bodyOk Tryd.f87 = true := by kernel_rfl
theorem dk88 : bodyOk Tryd.f88 = true := by kernel_rfl
theorem dk89 : bodyOk Tryd.f89 = true := by kernel_rfl
theorem dk90 : bodyOk Tryd.f90 = true := by kernel_rfl
theorem dk91 : bodyOk Tryd.f91 = true := by kernel_rfl
theorem dk92 : bodyOk Tryd.f92 = true := by kernel_rfl
theorem dk93 : bodyOk Tryd.f93 = true := by kernel_rfl
theorem dk94 : bodyOk Tryd.f94 = true := by kernel_rfl
theorem dk95 : bodyOk Tryd.f95 = true := by kernel_rfl
theorem dk96 : bodyOk Tryd.f96 = true := by kernel_rfl
theorem dk97 : bodyOk Tryd.f97 = true := by kernel_rfl
theorem dk98 : bodyOk Tryd.f98 = true := by kernel_rfl
theorem dk99 : bodyOk Tryd.f99 = true := by kernel_rfl
theorem dk100 : bodyOk Tryd.f100 = true := by kernel_rfl
theorem dk101 : bodyOk Tryd.f101 = true := by kernel_rfl
theorem dk102 : bodyOk Tryd.f102 = true := by kernel_rfl
theorem dk103 : bodyOk Tryd.f103 = true := by kernel_rfl
theorem dk104 : bodyOk Tryd.f104 = true := by kernel_rfl
theorem dk105 : bodyOk Tryd.f105 = true := by kernel_rfl
theorem dk106 : bodyOk Tryd.f106 = true := by kernel_rfl
theorem dk107 : bodyOk Tryd.f107 = true := by kernel_rfl
theorem dk108 : bodyOk Tryd.f108 = true := by kernel_rfl
theorem dk109 : bodyOk Tryd.f109 = true := by kernel_rfl
theorem dk110 : bodyOk Tryd.f110 = true := by kernel_rfl
theorem dk111 : bodyOk Tryd.f111 = true := by kernel_rfl
theorem dk112 : bodyOk Tryd.f112 = true := by kernel_rfl
theorem dk113 : bodyOk Tryd.f113 = true := by kernel_rfl
theorem dk114 : bodyOk Tryd.f114 = true := by kernel_rfl
theorem dk115 : bodyOk Tryd.f115 = true := by kernel_rfl
theorem dk117 : bodyOk Tryd.f117 = true := by kernel_rfl
theorem dk118 : bodyOk Tryd.f118 = true := by kernel_rfl
theorem dk119 : bodyOk Tryd.f119 = true := by kernel_rfl
theorem dk120 : bodyOk Tryd.f120 = true := by kernel_rfl
theorem dk121 : bodyOk Tryd.f121 = true := by kernel_rfl
theorem dk123 : bodyOk Tryd.f123 = true := by kernel_rfl
theorem dk124 : bodyOk Tryd.f124 = true := by kernel_rfl
theorem dk125 : bodyOk Tryd.f125 = true := by kernel_rfl
theorem dk126 : bodyOk Tryd.f126 = true := by kernel_rfl
theorem dk127 : bodyOk Tryd.f127 = true := by kernel_rfl
theorem dk128 : bodyOk Tryd.f128 = true := by kernel_rfl
theorem dk129 : bodyOk Tryd.f129 = true := by kernel_rfl
theorem dk130 : bodyOk Tryd.f130 = true := by kernel_rfl
theorem dk153 : bodyOk Tryd.f153 = true := by kernel_rfl
theorem fk2 : Tryd.prog.funcs[2]? = some Tryd.f2 := Tryd.func2
theorem fk3 : Tryd.prog.funcs[3]? = some Tryd.f3 := Tryd.func3
theorem fk4 : Tryd.prog.funcs[4]? = some Tryd.f4 := Tryd.func4
theorem fk5 : Tryd.prog.funcs[5]? = some Tryd.f5 := Tryd.func5
theorem fk6 : Tryd.prog.funcs[6]? = some Tryd.f6 := Tryd.func6
theorem fk7 : Tryd.prog.funcs[7]? = some Tryd.f7 := Tryd.func7
theorem fk8 : Tryd.prog.funcs[8]? = some Tryd.f8 := Tryd.func8
theorem fk9 : Tryd.prog.funcs[9]? = some Tryd.f9 := Tryd.func9
theorem fk10 : Tryd.prog.funcs[10]? = some Tryd.f10 := Tryd.func10
theorem fk11 : Tryd.prog.funcs[11]? = some Tryd.f11 := Tryd.func11
theorem fk12 : Tryd.prog.funcs[12]? = some Tryd.f12 := Tryd.func12
theorem fk13 : Tryd.prog.funcs[13]? = some Tryd.f13 := Tryd.func13
theorem fk14 : Tryd.prog.funcs[14]? = some Tryd.f14 := Tryd.func14
theorem fk15 : Tryd.prog.funcs[15]? = some Tryd.f15 := Tryd.func15
theorem fk16 : Tryd.prog.funcs[16]? = some Tryd.f16 := Tryd.func16
theorem fk17 : Tryd.prog.funcs[17]? = some Tryd.f17 := Tryd.func17
theorem fk18 : Tryd.prog.funcs[18]? = some Tryd.f18 := Tryd.func18
theorem fk19 : Tryd.prog.funcs[19]? = some Tryd.f19 := Tryd.func19
theorem fk20 : Tryd.prog.funcs[20]? = some Tryd.f20 := Tryd.func20
theorem fk21 : Tryd.prog.funcs[21]? = some Tryd.f21 := Tryd.func21
theorem fk22 : Tryd.prog.funcs[22]? = some Tryd.f22 := Tryd.func22
theorem fk23 : Tryd.prog.funcs[23]? = some Tryd.f23 := Tryd.func23
theorem fk24 : Tryd.prog.funcs[24]? = some Tryd.f24 := Tryd.func24
theorem fk25 : Tryd.prog.funcs[25]? = some Tryd.f25 := Tryd.func25
theorem fk26 : Tryd.prog.funcs[26]? = some Tryd.f26 := Tryd.func26
theorem fk27 : Tryd.prog.funcs[27]? = some Tryd.f27 := Tryd.func27
theorem fk28 : Tryd.prog.funcs[28]? = some Tryd.f28 := Tryd.func28
theorem fk29 : Tryd.prog.funcs[29]? = some Tryd.f29 := Tryd.func29
theorem fk30 : Tryd.prog.funcs[30]? = some Tryd.f30 := Tryd.func30
theorem fk31 : Tryd.prog.funcs[31]? = some Tryd.f31 := Tryd.func31
theorem fk32 : Tryd.prog.funcs[32]? = some Tryd.f32 := Tryd.func32
theorem fk33 : Tryd.prog.funcs[33]? = some Tryd.f33 := Tryd.func33
theorem fk34 : Tryd.prog.funcs[34]? = some Tryd.f34 := Tryd.func34
theorem fk35 : Tryd.prog.funcs[35]? = some Tryd.f35 := Tryd.func35
theorem fk36 : Tryd.prog.funcs[36]? = some Tryd.f36 := Tryd.func36
theorem fk37 : Tryd.prog.funcs[37]? = some Tryd.f37 := Tryd.func37
theorem fk38 : Tryd.prog.funcs[38]? = some Tryd.f38 := Tryd.func38
theorem fk39 : Tryd.prog.funcs[39]? = some Tryd.f39 := Tryd.func39
theorem fk40 : Tryd.prog.funcs[40]? = some Tryd.f40 := Tryd.func40
theorem fk42 : Tryd.prog.funcs[42]? = some Tryd.f42 := Tryd.func42
theorem fk43 : Tryd.prog.funcs[43]? = some Tryd.f43 := Tryd.func43
theorem fk44 : Tryd.prog.funcs[44]? = some Tryd.f44 := Tryd.func44
theorem fk45 : Tryd.prog.funcs[45]? = some Tryd.f45 := Tryd.func45
theorem fk46 : Tryd.prog.funcs[46]? = some Tryd.f46 := Tryd.func46
theorem fk48 : Tryd.prog.funcs[48]? = some Tryd.f48 := Tryd.func48
theorem fk49 : Tryd.prog.funcs[49]? = some Tryd.f49 := Tryd.func49
theorem fk50 : Tryd.prog.funcs[50]? = some Tryd.f50 := Tryd.func50
theorem fk51 : Tryd.prog.funcs[51]? = some Tryd.f51 := Tryd.func51
theorem fk52 : Tryd.prog.funcs[52]? = some Tryd.f52 := Tryd.func52
theorem fk53 : Tryd.prog.funcs[53]? = some Tryd.f53 := Tryd.func53
theorem fk54 : Tryd.prog.funcs[54]? = some Tryd.f54 := Tryd.func54
theorem fk55 : Tryd.prog.funcs[55]? = some Tryd.f55 := Tryd.func55
theorem fk56 : Tryd.prog.funcs[56]? = some Tryd.f56 := Tryd.func56
theorem fk57 : Tryd.prog.funcs[57]? = some Tryd.f57 := Tryd.func57
theorem fk58 : Tryd.prog.funcs[58]? = some Tryd.f58 := Tryd.func58
theorem fk60 : Tryd.prog.funcs[60]? = some Tryd.f60 := Tryd.func60
theorem fk61 : Tryd.prog.funcs[61]? = some Tryd.f61 := Tryd.func61
theorem fk62 : Tryd.prog.funcs[62]? = some Tryd.f62 := Tryd.func62
theorem fk63 : Tryd.prog.funcs[63]? = some Tryd.f63 := Tryd.func63
theorem fk64 : Tryd.prog.funcs[64]? = some Tryd.f64 := Tryd.func64
theorem fk65 : Tryd.prog.funcs[65]? = some Tryd.f65 := Tryd.func65
theorem fk66 : Tryd.prog.funcs[66]? = some Tryd.f66 := Tryd.func66
theorem fk67 : Tryd.prog.funcs[67]? = some Tryd.f67 := Tryd.func67
theorem fk68 : Tryd.prog.funcs[68]? = some Tryd.f68 := Tryd.func68
theorem fk69 : Tryd.prog.funcs[69]? = some Tryd.f69 := Tryd.func69
theorem fk70 : Tryd.prog.funcs[70]? = some Tryd.f70 := Tryd.func70
theorem fk71 : Tryd.prog.funcs[71]? = some Tryd.f71 := Tryd.func71
theorem fk72 : Tryd.prog.funcs[72]? = some Tryd.f72 := Tryd.func72
theorem fk73 : Tryd.prog.funcs[73]? = some Tryd.f73 := Tryd.func73
theorem fk74 : Tryd.prog.funcs[74]? = some Tryd.f74 := Tryd.func74
theorem fk75 : Tryd.prog.funcs[75]? = some Tryd.f75 := Tryd.func75
theorem fk76 : Tryd.prog.funcs[76]? = some Tryd.f76 := Tryd.func76
theorem fk77 : Tryd.prog.funcs[77]? = some Tryd.f77 := Tryd.func77
theorem fk78 : Tryd.prog.funcs[78]? = some Tryd.f78 := Tryd.func78
theorem fk79 : Tryd.prog.funcs[79]? = some Tryd.f79 := Tryd.func79
theorem fk80 : Tryd.prog.funcs[80]? = some Tryd.f80 := Tryd.func80
theorem fk81 : Tryd.prog.funcs[81]? = some Tryd.f81 := Tryd.func81
theorem fk82 : Tryd.prog.funcs[82]? = some Tryd.f82 := Tryd.func82
theorem fk83 : Tryd.prog.funcs[83]? = some Tryd.f83 := Tryd.func83
theorem fk84 : Tryd.prog.funcs[84]? = some Tryd.f84 := Tryd.func84
theorem fk85 : Tryd.prog.funcs[85]? = some Tryd.f85 := Tryd.func85
theorem fk86 : Tryd.prog.funcs[86]? = some Tryd.f86 := Tryd.func86
theorem fk87 : Tryd.prog.funcs[87]? = some Tryd.f87 := Tryd.func87
theorem fk88 : Tryd.prog.funcs[88]? = some Tryd.f88 := Tryd.func88
theorem fk89 : Tryd.prog.funcs[89]? = some Tryd.f89 := Tryd.func89
theorem fk90 : Tryd.prog.funcs[90]? = some Tryd.f90 := Tryd.func90
theorem fk91 : Tryd.prog.funcs[91]? = some Tryd.f91 := Tryd.func91
theorem fk92 : Tryd.prog.funcs[92]? = some Tryd.f92 := Tryd.func92
theorem fk93 : Tryd.prog.funcs[93]? = some Tryd.f93 := Tryd.func93
theorem fk94 : Tryd.prog.funcs[94]? = some Tryd.f94 := Tryd.func94
theorem fk95 : Tryd.prog.funcs[95]? = some Tryd.f95 := Tryd.func95
theorem fk96 : Tryd.prog.funcs[96]? = some Tryd.f96 := Tryd.func96
theorem fk97 : Tryd.prog.funcs[97]? = some Tryd.f97 := Tryd.func97
theorem fk98 : Tryd.prog.funcs[98]? = some Tryd.f98 := Tryd.func98
theorem fk99 : Tryd.prog.funcs[99]? = some Tryd.f99 := Tryd.func99
theorem fk100 : Tryd.prog.funcs[100]? = some Tryd.f100 := Tryd.func100
theorem fk101 : Tryd.prog.funcs[101]? = some Tryd.f101 := Tryd.func101
theorem fk102 : Tryd.prog.funcs[102]? = some Tryd.f102 := Tryd.func102
theorem fk103 : Tryd.prog.funcs[103]? = some Tryd.f103 := Tryd.func103
theorem fk104 : Tryd.prog.funcs[104]? = some Tryd.f104 := Tryd.func104
theorem fk105 : Tryd.prog.funcs[105]? = some Tryd.f105 := Tryd.func105
theorem fk106 : Tryd.prog.funcs[106]? = some Tryd.f106 := Tryd.func106
theorem fk107 : Tryd.prog.funcs[107]? = some Tryd.f107 := Tryd.func107
theorem fk108 : Tryd.prog.funcs[108]? = some Tryd.f108 := Tryd.func108
theorem fk109 : Tryd.prog.funcs[109]? = some Tryd.f109 := Tryd.func109
theorem fk110 : Tryd.prog.funcs[110]? = some Tryd.f110 := Tryd.func110
theorem fk111 : Tryd.prog.funcs[111]? = some Tryd.f111 := Tryd.func111
theorem fk112 : Tryd.prog.funcs[112]? = some Tryd.f112 := Tryd.func112
theorem fk113 : Tryd.prog.funcs[113]? = some Tryd.f113 := Tryd.func113
theorem fk114 : Tryd.prog.funcs[114]? = some Tryd.f114 := Tryd.func114
theorem fk115 : Tryd.prog.funcs[115]? = some Tryd.f115 := Tryd.func115
theorem fk117 : Tryd.prog.funcs[117]? = some Tryd.f117 := Tryd.func117
theorem fk118 : Tryd.prog.funcs[118]? = some Tryd.f118 := Tryd.func118
theorem fk119 : Tryd.prog.funcs[119]? = some Tryd.f119 := Tryd.func119
theorem fk120 : Tryd.prog.funcs[120]? = some Tryd.f120 := Tryd.func120
theorem fk121 : Tryd.prog.funcs[121]? = some Tryd.f121 := Tryd.func121
theorem fk123 : Tryd.prog.funcs[123]? = some Tryd.f123 := Tryd.func123
theorem fk124 : Tryd.prog.funcs[124]? = some Tryd.f124 := Tryd.func124
theorem fk125 : Tryd.prog.funcs[125]? = some Tryd.f125 := Tryd.func125
theorem fk126 : Tryd.prog.funcs[126]? = some Tryd.f126 := Tryd.func126
theorem fk127 : Tryd.prog.funcs[127]? = some Tryd.f127 := Tryd.func127
theorem fk128 : Tryd.prog.funcs[128]? = some Tryd.f128 := Tryd.func128
theorem fk129 : Tryd.prog.funcs[129]? = some Tryd.f129 := Tryd.func129
theorem fk130 : Tryd.prog.funcs[130]? = some Tryd.f130 := Tryd.func130
theorem fk153 : Tryd.prog.funcs[153]? = some Tryd.f153 := Tryd.func153
theorem id116 : ∀ v w, (callFunc 116 #[v]).run Tryd.prog w = .ok (.value v) w := fun v w => run_callFunc_extern (fn := Tryd.f116) (e := Extern.AbiNoEscape.same) Tryd.func116 (by kernel_rfl) (by kernel_rfl) (by kernel_rfl) (by kernel_rfl) #[v] w
theorem E0_ok : EnvOk E0 := by
  refine ⟨fun f fn h => ?_, by kernel_rfl, fun f h => ?_, fun f g h => (by cases h)⟩
  · change fnT f = some fn at h
    unfold fnT at h
    split at h
    · injection h with h; subst h; exact ⟨fk2, ⟨Tryd.call2⟩, bodyOk_inv dk2⟩
    · injection h with h; subst h; exact ⟨fk3, ⟨Tryd.call3⟩, bodyOk_inv dk3⟩
    · injection h with h; subst h; exact ⟨fk4, ⟨Tryd.call4⟩, bodyOk_inv dk4⟩
    · injection h with h; subst h; exact ⟨fk5, ⟨Tryd.call5⟩, bodyOk_inv dk5⟩
    · injection h with h; subst h; exact ⟨fk6, ⟨Tryd.call6⟩, bodyOk_inv dk6⟩
    · injection h with h; subst h; exact ⟨fk7, ⟨Tryd.call7⟩, bodyOk_inv dk7⟩
    · injection h with h; subst h; exact ⟨fk8, ⟨Tryd.call8⟩, bodyOk_inv dk8⟩
    · injection h with h; subst h; exact ⟨fk9, ⟨Tryd.call9⟩, bodyOk_inv dk9⟩
    · injection h with h; subst h; exact ⟨fk10, ⟨Tryd.call10⟩, bodyOk_inv dk10⟩
    · injection h with h; subst h; exact ⟨fk11, ⟨Tryd.call11⟩, bodyOk_inv dk11⟩
    · injection h with h; subst h; exact ⟨fk12, ⟨Tryd.call12⟩, bodyOk_inv dk12⟩
    · injection h with h; subst h; exact ⟨fk13, ⟨Tryd.call13⟩, bodyOk_inv dk13⟩
    · injection h with h; subst h; exact ⟨fk14, ⟨Tryd.call14⟩, bodyOk_inv dk14⟩
    · injection h with h; subst h; exact ⟨fk15, ⟨Tryd.call15⟩, bodyOk_inv dk15⟩
    · injection h with h; subst h; exact ⟨fk16, ⟨Tryd.call16⟩, bodyOk_inv dk16⟩
    · injection h with h; subst h; exact ⟨fk17, ⟨Tryd.call17⟩, bodyOk_inv dk17⟩
    · injection h with h; subst h; exact ⟨fk18, ⟨Tryd.call18⟩, bodyOk_inv dk18⟩
    · injection h with h; subst h; exact ⟨fk19, ⟨Tryd.call19⟩, bodyOk_inv dk19⟩
    · injection h with h; subst h; exact ⟨fk20, ⟨Tryd.call20⟩, bodyOk_inv dk20⟩
    · injection h with h; subst h; exact ⟨fk21, ⟨Tryd.call21⟩, bodyOk_inv dk21⟩
    · injection h with h; subst h; exact ⟨fk22, ⟨Tryd.call22⟩, bodyOk_inv dk22⟩
    · injection h with h; subst h; exact ⟨fk23, ⟨Tryd.call23⟩, bodyOk_inv dk23⟩
    · injection h with h; subst h; exact ⟨fk24, ⟨Tryd.call24⟩, bodyOk_inv dk24⟩
    · injection h with h; subst h; exact ⟨fk25, ⟨Tryd.call25⟩, bodyOk_inv dk25⟩
    · injection h with h; subst h; exact ⟨fk26, ⟨Tryd.call26⟩, bodyOk_inv dk26⟩
    · injection h with h; subst h; exact ⟨fk27, ⟨Tryd.call27⟩, bodyOk_inv dk27⟩
    · injection h with h; subst h; exact ⟨fk28, ⟨Tryd.call28⟩, bodyOk_inv dk28⟩
    · injection h with h; subst h; exact ⟨fk29, ⟨Tryd.call29⟩, bodyOk_inv dk29⟩
    · injection h with h; subst h; exact ⟨fk30, ⟨Tryd.call30⟩, bodyOk_inv dk30⟩
    · injection h with h; subst h; exact ⟨fk31, ⟨Tryd.call31⟩, bodyOk_inv dk31⟩
    · injection h with h; subst h; exact ⟨fk32, ⟨Tryd.call32⟩, bodyOk_inv dk32⟩
    · injection h with h; subst h; exact ⟨fk33, ⟨Tryd.call33⟩, bodyOk_inv dk33⟩
    · injection h with h; subst h; exact ⟨fk34, ⟨Tryd.call34⟩, bodyOk_inv dk34⟩
    · injection h with h; subst h; exact ⟨fk35, ⟨Tryd.call35⟩, bodyOk_inv dk35⟩
    · injection h with h; subst h; exact ⟨fk36, ⟨Tryd.call36⟩, bodyOk_inv dk36⟩
    · injection h with h; subst h; exact ⟨fk37, ⟨Tryd.call37⟩, bodyOk_inv dk37⟩
    · injection h with h; subst h; exact ⟨fk38, ⟨Tryd.call38⟩, bodyOk_inv dk38⟩
    · injection h with h; subst h; exact ⟨fk39, ⟨Tryd.call39⟩, bodyOk_inv dk39⟩
    · injection h with h; subst h; exact ⟨fk40, ⟨Tryd.call40⟩, bodyOk_inv dk40⟩
    · injection h with h; subst h; exact ⟨fk42, ⟨Tryd.call42⟩, bodyOk_inv dk42⟩
    · injection h with h; subst h; exact ⟨fk43, ⟨Tryd.call43⟩, bodyOk_inv dk43⟩
    · injection h with h; subst h; exact ⟨fk44, ⟨Tryd.call44⟩, bodyOk_inv dk44⟩
    · injection h with h; subst h; exact ⟨fk45, ⟨Tryd.call45⟩, bodyOk_inv dk45⟩
    · injection h with h; subst h; exact ⟨fk46, ⟨Tryd.call46⟩, bodyOk_inv dk46⟩
    · injection h with h; subst h; exact ⟨fk48, ⟨Tryd.call48⟩, bodyOk_inv dk48⟩
    · injection h with h; subst h; exact ⟨fk49, ⟨Tryd.call49⟩, bodyOk_inv dk49⟩
    · injection h with h; subst h; exact ⟨fk50, ⟨Tryd.call50⟩, bodyOk_inv dk50⟩
    · injection h with h; subst h; exact ⟨fk51, ⟨Tryd.call51⟩, bodyOk_inv dk51⟩
    · injection h with h; subst h; exact ⟨fk52, ⟨Tryd.call52⟩, bodyOk_inv dk52⟩
    · injection h with h; subst h; exact ⟨fk53, ⟨Tryd.call53⟩, bodyOk_inv dk53⟩
    · injection h with h; subst h; exact ⟨fk54, ⟨Tryd.call54⟩, bodyOk_inv dk54⟩
    · injection h with h; subst h; exact ⟨fk55, ⟨Tryd.call55⟩, bodyOk_inv dk55⟩
    · injection h with h; subst h; exact ⟨fk56, ⟨Tryd.call56⟩, bodyOk_inv dk56⟩
    · injection h with h; subst h; exact ⟨fk57, ⟨Tryd.call57⟩, bodyOk_inv dk57⟩
    · injection h with h; subst h; exact ⟨fk58, ⟨Tryd.call58⟩, bodyOk_inv dk58⟩
    · injection h with h; subst h; exact ⟨fk60, ⟨Tryd.call60⟩, bodyOk_inv dk60⟩
    · injection h with h; subst h; exact ⟨fk61, ⟨Tryd.call61⟩, bodyOk_inv dk61⟩
    · injection h with h; subst h; exact ⟨fk62, ⟨Tryd.call62⟩, bodyOk_inv dk62⟩
    · injection h with h; subst h; exact ⟨fk63, ⟨Tryd.call63⟩, bodyOk_inv dk63⟩
    · injection h with h; subst h; exact ⟨fk64, ⟨Tryd.call64⟩, bodyOk_inv dk64⟩
    · injection h with h; subst h; exact ⟨fk65, ⟨Tryd.call65⟩, bodyOk_inv dk65⟩
    · injection h with h; subst h; exact ⟨fk66, ⟨Tryd.call66⟩, bodyOk_inv dk66⟩
    · injection h with h; subst h; exact ⟨fk67, ⟨Tryd.call67⟩, bodyOk_inv dk67⟩
    · injection h with h; subst h; exact ⟨fk68, ⟨Tryd.call68⟩, bodyOk_inv dk68⟩
    · injection h with h; subst h; exact ⟨fk69, ⟨Tryd.call69⟩, bodyOk_inv dk69⟩
    · injection h with h; subst h; exact ⟨fk70, ⟨Tryd.call70⟩, bodyOk_inv dk70⟩
    · injection h with h; subst h; exact ⟨fk71, ⟨Tryd.call71⟩, bodyOk_inv dk71⟩
    · injection h with h; subst h; exact ⟨fk72, ⟨Tryd.call72⟩, bodyOk_inv dk72⟩
    · injection h with h; subst h; exact ⟨fk73, ⟨Tryd.call73⟩, bodyOk_inv dk73⟩
    · injection h with h; subst h; exact ⟨fk74, ⟨Tryd.call74⟩, bodyOk_inv dk74⟩
    · injection h with h; subst h; exact ⟨fk75, ⟨Tryd.call75⟩, bodyOk_inv dk75⟩
    · injection h with h; subst h; exact ⟨fk76, ⟨Tryd.call76⟩, bodyOk_inv dk76⟩
    · injection h with h; subst h; exact ⟨fk77, ⟨Tryd.call77⟩, bodyOk_inv dk77⟩
    · injection h with h; subst h; exact ⟨fk78, ⟨Tryd.call78⟩, bodyOk_inv dk78⟩
    · injection h with h; subst h; exact ⟨fk79, ⟨Tryd.call79⟩, bodyOk_inv dk79⟩
    · injection h with h; subst h; exact ⟨fk80, ⟨Tryd.call80⟩, bodyOk_inv dk80⟩
    · injection h with h; subst h; exact ⟨fk81, ⟨Tryd.call81⟩, bodyOk_inv dk81⟩
    · injection h with h; subst h; exact ⟨fk82, ⟨Tryd.call82⟩, bodyOk_inv dk82⟩
    · injection h with h; subst h; exact ⟨fk83, ⟨Tryd.call83⟩, bodyOk_inv dk83⟩
    · injection h with h; subst h; exact ⟨fk84, ⟨Tryd.call84⟩, bodyOk_inv dk84⟩
    · injection h with h; subst h; exact ⟨fk85, ⟨Tryd.call85⟩, bodyOk_inv dk85⟩
    · injection h with h; subst h; exact ⟨fk86, ⟨Tryd.call86⟩, bodyOk_inv dk86⟩
    · injection h with h; subst h; exact ⟨fk87, ⟨Tryd.call87⟩, bodyOk_inv dk87⟩
    · injection h with h; subst h; exact ⟨fk88, ⟨Tryd.call88⟩, bodyOk_inv dk88⟩
    · injection h with h; subst h; exact ⟨fk89, ⟨Tryd.call89⟩, bodyOk_inv dk89⟩
    · injection h with h; subst h; exact ⟨fk90, ⟨Tryd.call90⟩, bodyOk_inv dk90⟩
    · injection h with h; subst h; exact ⟨fk91, ⟨Tryd.call91⟩, bodyOk_inv dk91⟩
    · injection h with h; subst h; exact ⟨fk92, ⟨Tryd.call92⟩, bodyOk_inv dk92⟩
    · injection h with h; subst h; exact ⟨fk93, ⟨Tryd.call93⟩, bodyOk_inv dk93⟩
    · injection h with h; subst h; exact ⟨fk94, ⟨Tryd.call94⟩, bodyOk_inv dk94⟩
    · injection h with h; subst h; exact ⟨fk95, ⟨Tryd.call95⟩, bodyOk_inv dk95⟩
    · injection h with h; subst h; exact ⟨fk96, ⟨Tryd.call96⟩, bodyOk_inv dk96⟩
    · injection h with h; subst h; exact ⟨fk97, ⟨Tryd.call97⟩, bodyOk_inv dk97⟩
    · injection h with h; subst h; exact ⟨fk98, ⟨Tryd.call98⟩, bodyOk_inv dk98⟩
    · injection h with h; subst h; exact ⟨fk99, ⟨Tryd.call99⟩, bodyOk_inv dk99⟩
    · injection h with h; subst h; exact ⟨fk100, ⟨Tryd.call100⟩, bodyOk_inv dk100⟩
    · injection h with h; subst h; exact ⟨fk101, ⟨Tryd.call101⟩, bodyOk_inv dk101⟩
    · injection h with h; subst h; exact ⟨fk102, ⟨Tryd.call102⟩, bodyOk_inv dk102⟩
    · injection h with h; subst h; exact ⟨fk103, ⟨Tryd.call103⟩, bodyOk_inv dk103⟩
    · injection h with h; subst h; exact ⟨fk104, ⟨Tryd.call104⟩, bodyOk_inv dk104⟩
    · injection h with h; subst h; exact ⟨fk105, ⟨Tryd.call105⟩, bodyOk_inv dk105⟩
    · injection h with h; subst h; exact ⟨fk106, ⟨Tryd.call106⟩, bodyOk_inv dk106⟩
    · injection h with h; subst h; exact ⟨fk107, ⟨Tryd.call107⟩, bodyOk_inv dk107⟩
    · injection h with h; subst h; exact ⟨fk108, ⟨Tryd.call108⟩, bodyOk_inv dk108⟩
    · injection h with h; subst h; exact ⟨fk109, ⟨Tryd.call109⟩, bodyOk_inv dk109⟩
    · injection h with h; subst h; exact ⟨fk110, ⟨Tryd.call110⟩, bodyOk_inv dk110⟩
    · injection h with h; subst h; exact ⟨fk111, ⟨Tryd.call111⟩, bodyOk_inv dk111⟩
    · injection h with h; subst h; exact ⟨fk112, ⟨Tryd.call112⟩, bodyOk_inv dk112⟩
    · injection h with h; subst h; exact ⟨fk113, ⟨Tryd.call113⟩, bodyOk_inv dk113⟩
    · injection h with h; subst h; exact ⟨fk114, ⟨Tryd.call114⟩, bodyOk_inv dk114⟩
    · injection h with h; subst h; exact ⟨fk115, ⟨Tryd.call115⟩, bodyOk_inv dk115⟩
    · injection h with h; subst h; exact ⟨fk117, ⟨Tryd.call117⟩, bodyOk_inv dk117⟩
    · injection h with h; subst h; exact ⟨fk118, ⟨Tryd.call118⟩, bodyOk_inv dk118⟩
    · injection h with h; subst h; exact ⟨fk119, ⟨Tryd.call119⟩, bodyOk_inv dk119⟩
    · injection h with h; subst h; exact ⟨fk120, ⟨Tryd.call120⟩, bodyOk_inv dk120⟩
    · injection h with h; subst h; exact ⟨fk121, ⟨Tryd.call121⟩, bodyOk_inv dk121⟩
    · injection h with h; subst h; exact ⟨fk123, ⟨Tryd.call123⟩, bodyOk_inv dk123⟩
    · injection h with h; subst h; exact ⟨fk124, ⟨Tryd.call124⟩, bodyOk_inv dk124⟩
    · injection h with h; subst h; exact ⟨fk125, ⟨Tryd.call125⟩, bodyOk_inv dk125⟩
    · injection h with h; subst h; exact ⟨fk126, ⟨Tryd.call126⟩, bodyOk_inv dk126⟩
    · injection h with h; subst h; exact ⟨fk127, ⟨Tryd.call127⟩, bodyOk_inv dk127⟩
    · injection h with h; subst h; exact ⟨fk128, ⟨Tryd.call128⟩, bodyOk_inv dk128⟩
    · injection h with h; subst h; exact ⟨fk129, ⟨Tryd.call129⟩, bodyOk_inv dk129⟩
    · injection h with h; subst h; exact ⟨fk130, ⟨Tryd.call130⟩, bodyOk_inv dk130⟩
    · injection h with h; subst h; exact ⟨fk153, ⟨Tryd.call153⟩, bodyOk_inv dk153⟩
    · cases h
  · change idT f = true at h
    unfold idT at h
    split at h
    · exact id116
    · cases h
end Go.Proofs.YthofgamegondnaaDoor
