/- Lemmas for the proof. -/
import Derived.Test.YtcmgmkepodbpkaaDoorEveningPlannedM1
import Derived.Test.YtcmgmkepodbpkaaDoorEveningPlannedM2
import Derived.Test.YtcmgmkepodbpkaaDoorProg
namespace Go.Proofs.YtcmgmkepodbpkaaDoor
open Go.RowKit
noncomputable def fnT : Nat → Option Func
  | 2 => some Tryd.f2
  | 3 => some Tryd.f3
  | 4 => some Tryd.f4
  | 5 => some Tryd.f5
  | 6 => some Tryd.f6
  | 7 => some Tryd.f7
  | 8 => some Tryd.f8
  | 9 => some Tryd.f9
  | 10 => some Tryd.f10
  | 11 => some Tryd.f11
  | 12 => some Tryd.f12
  | 13 => some Tryd.f13
  | 14 => some Tryd.f14
  | 15 => some Tryd.f15
  | 16 => some Tryd.f16
  | 17 => some Tryd.f17
  | 18 => some Tryd.f18
  | 19 => some Tryd.f19
  | 20 => some Tryd.f20
  | 21 => some Tryd.f21
  | 22 => some Tryd.f22
  | 23 => some Tryd.f23
  | 24 => some Tryd.f24
  | 25 => some Tryd.f25
  | 26 => some Tryd.f26
  | 27 => some Tryd.f27
  | 28 => some Tryd.f28
  | 29 => some Tryd.f29
  | 30 => some Tryd.f30
  | 31 => some Tryd.f31
  | 32 => some Tryd.f32
  | 33 => some Tryd.f33
  | 34 => some Tryd.f34
  | 35 => some Tryd.f35
  | 36 => some Tryd.f36
  | 37 => some Tryd.f37
  | 38 => some Tryd.f38
  | 39 => some Tryd.f39
  | 40 => some Tryd.f40
  | 41 => some Tryd.f41
  | 42 => some Tryd.f42
  | 43 => some Tryd.f43
  | 44 => some Tryd.f44
  | 45 => some Tryd.f45
  | 46 => some Tryd.f46
  | 47 => some Tryd.f47
  | 48 => some Tryd.f48
  | 50 => some Tryd.f50
  | 51 => some Tryd.f51
  | 52 => some Tryd.f52
  | 53 => some Tryd.f53
  | 54 => some Tryd.f54
  | 55 => some Tryd.f55
  | 56 => some Tryd.f56
  | 57 => some Tryd.f57
  | 58 => some Tryd.f58
  | 59 => some Tryd.f59
  | 60 => some Tryd.f60
  | 61 => some Tryd.f61
  | 62 => some Tryd.f62
  | 63 => some Tryd.f63
  | 64 => some Tryd.f64
  | 65 => some Tryd.f65
  | 66 => some Tryd.f66
  | 67 => some Tryd.f67
  | 68 => some Tryd.f68
  | 69 => some Tryd.f69
  | 70 => some Tryd.f70
  | 71 => some Tryd.f71
  | 72 => some Tryd.f72
  | 73 => some Tryd.f73
  | 74 => some Tryd.f74
  | 75 => some Tryd.f75
  | 76 => some Tryd.f76
  | 77 => some Tryd.f77
  | 78 => some Tryd.f78
  | 79 => some Tryd.f79
  | 80 => some Tryd.f80
  | 81 => some Tryd.f81
  | 82 => some Tryd.f82
  | 83 => some Tryd.f83
  | 84 => some Tryd.f84
  | 85 => some Tryd.f85
  | 86 => some Tryd.f86
  | 87 => some Tryd.f87
  | 88 => some Tryd.f88
  | 89 => some Tryd.f89
  | 90 => some Tryd.f90
  | 91 => some Tryd.f91
  | 92 => some Tryd.f92
  | 93 => some Tryd.f93
  | 94 => some Tryd.f94
  | 95 => some Tryd.f95
  | 96 => some Tryd.f96
  | 97 => some Tryd.f97
  | 98 => some Tryd.f98
  | 99 => some Tryd.f99
  | 100 => some Tryd.f100
  | 101 => some Tryd.f101
  | 102 => some Tryd.f102
  | 103 => some Tryd.f103
  | 104 => some Tryd.f104
  | 105 => some Tryd.f105
  | 106 => some Tryd.f106
  | 107 => some Tryd.f107
  | 108 => some Tryd.f108
  | 109 => some Tryd.f109
  | 110 => some Tryd.f110
  | 111 => some Tryd.f111
  | 112 => some Tryd.f112
  | 113 => some Tryd.f113
  | 114 => some Tryd.f114
  | 115 => some Tryd.f115
  | 116 => some Tryd.f116
  | 117 => some Tryd.f117
  | 118 => some Tryd.f118
  | 119 => some Tryd.f119
  | 120 => some Tryd.f120
  | 122 => some Tryd.f122
  | 123 => some Tryd.f123
  | 124 => some Tryd.f124
  | 125 => some Tryd.f125
  | 126 => some Tryd.f126
  | 127 => some Tryd.f127
  | 128 => some Tryd.f128
  | 129 => some Tryd.f129
  | 130 => some Tryd.f130
  | 131 => some Tryd.f131
  | 132 => some Tryd.f132
  | 133 => some Tryd.f133
  | 134 => some Tryd.f134
  | 135 => some Tryd.f135
  | 137 => some Tryd.f137
  | 138 => some Tryd.f138
  | 139 => some Tryd.f139
  | 140 => some Tryd.f140
  | 141 => some Tryd.f141
  | 142 => some Tryd.f142
  | 143 => some Tryd.f143
  | 144 => some Tryd.f144
  | 167 => some Tryd.f167
  | _ => none
def idT : Nat → Bool
  | 121 => true
  | _ => false
noncomputable def E0 : Env := ⟨Tryd.prog, fnT, fun _ => none, fun _ => none, idT⟩
def bodyOk (fn : Func) : Bool := match fn.body with
  | some c => drawOk c
  | none => false
theorem bodyOk_inv {fn : Func} (h : bodyOk fn = true) : ∀ c, fn.body = some c → drawOk c = true := fun c hc => by unfold bodyOk at h; rw [hc] at h; exact h
theorem dk2 : bodyOk Tryd.f2 = true := by kernel_rfl
theorem dk3 : bodyOk Tryd.f3 = true := by kernel_rfl
theorem dk4 : bodyOk Tryd.f4 = true := by kernel_rfl
theorem dk5 : bodyOk Tryd.f5 = true := by kernel_rfl
theorem dk6 : bodyOk Tryd.f6 = true := by kernel_rfl
theorem dk7 : bodyOk Tryd.f7 = true := by kernel_rfl
theorem dk8 : bodyOk Tryd.f8 = true := by kernel_rfl
theorem dk9 : bodyOk Tryd.f9 = true := by kernel_rfl
theorem dk10 : bodyOk Tryd.f10 = true := by kernel_rfl
theorem dk11 : bodyOk Tryd.f11 = true := by kernel_rfl
theorem dk12 : bodyOk Tryd.f12 = true := by kernel_rfl
theorem dk13 : bodyOk Tryd.f13 = true := by kernel_rfl
theorem dk14 : bodyOk Tryd.f14 = true := by kernel_rfl
theorem dk15 : bodyOk Tryd.f15 = true := by kernel_rfl
theorem dk16 : bodyOk Tryd.f16 = true := by kernel_rfl
theorem dk17 : bodyOk Tryd.f17 = true := by kernel_rfl
theorem dk18 : bodyOk Tryd.f18 = true := by kernel_rfl
theorem dk19 : bodyOk Tryd.f19 = true := by kernel_rfl
theorem dk20 : bodyOk Tryd.f20 = true := by kernel_rfl
theorem dk21 : bodyOk Tryd.f21 = true := by kernel_rfl
theorem dk22 : bodyOk Tryd.f22 = true := by kernel_rfl
theorem dk23 : bodyOk Tryd.f23 = true := by kernel_rfl
theorem dk24 : bodyOk Tryd.f24 = true := by kernel_rfl
theorem dk25 : bodyOk Tryd.f25 = true := by kernel_rfl
theorem dk26 : bodyOk Tryd.f26 = true := by kernel_rfl
theorem dk27 : bodyOk Tryd.f27 = true := by kernel_rfl
theorem dk28 : bodyOk Tryd.f28 = true := by kernel_rfl
theorem dk29 : bodyOk Tryd.f29 = true := by kernel_rfl
theorem dk30 : bodyOk Tryd.f30 = true := by kernel_rfl
theorem dk31 : bodyOk Tryd.f31 = true := by kernel_rfl
theorem dk32 : bodyOk Tryd.f32 = true := by kernel_rfl
theorem dk33 : bodyOk Tryd.f33 = true := by kernel_rfl
theorem dk34 : bodyOk Tryd.f34 = true := by kernel_rfl
theorem dk35 : bodyOk Tryd.f35 = true := by kernel_rfl
theorem dk36 : bodyOk Tryd.f36 = true := by kernel_rfl
theorem dk37 : bodyOk Tryd.f37 = true := by kernel_rfl
theorem dk38 : bodyOk Tryd.f38 = true := by kernel_rfl
theorem dk39 : bodyOk Tryd.f39 = true := by kernel_rfl
theorem dk40 : bodyOk Tryd.f40 = true := by kernel_rfl
theorem dk41 : bodyOk Tryd.f41 = true := by kernel_rfl
theorem dk42 : bodyOk Tryd.f42 = true := by kernel_rfl
theorem dk43 : bodyOk Tryd.f43 = true := by kernel_rfl
theorem dk44 : bodyOk Tryd.f44 = true := by kernel_rfl
theorem dk45 : bodyOk Tryd.f45 = true := by kernel_rfl
theorem dk46 : bodyOk Tryd.f46 = true := by kernel_rfl
theorem dk47 : bodyOk Tryd.f47 = true := by kernel_rfl
theorem dk48 : bodyOk Tryd.f48 = true := by kernel_rfl
theorem dk50 : bodyOk Tryd.f50 = true := by kernel_rfl
theorem dk51 : bodyOk Tryd.f51 = true := by kernel_rfl
theorem dk52 : bodyOk Tryd.f52 = true := by kernel_rfl
theorem dk53 : bodyOk Tryd.f53 = true := by kernel_rfl
theorem dk54 : bodyOk Tryd.f54 = true := by kernel_rfl
theorem dk55 : bodyOk Tryd.f55 = true := by kernel_rfl
theorem dk56 : bodyOk Tryd.f56 = true := by kernel_rfl
theorem dk57 : bodyOk Tryd.f57 = true := by kernel_rfl
theorem dk58 : bodyOk Tryd.f58 = true := by kernel_rfl
theorem dk59 : bodyOk Tryd.f59 = true := by kernel_rfl
theorem dk60 : bodyOk Tryd.f60 = true := by kernel_rfl
theorem dk61 : bodyOk Tryd.f61 = true := by kernel_rfl
theorem dk62 : bodyOk Tryd.f62 = true := by kernel_rfl
theorem dk63 : bodyOk Tryd.f63 = true := by kernel_rfl
theorem dk64 : bodyOk Tryd.f64 = true := by kernel_rfl
theorem dk65 : bodyOk Tryd.f65 = true := by kernel_rfl
theorem dk66 : bodyOk Tryd.f66 = true := by kernel_rfl
theorem dk67 : bodyOk Tryd.f67 = true := by kernel_rfl
theorem dk68 : bodyOk Tryd.f68 = true := by kernel_rfl
theorem dk69 : bodyOk Tryd.f69 = true := by kernel_rfl
theorem dk70 : bodyOk Tryd.f70 = true := by kernel_rfl
theorem dk71 : bodyOk Tryd.f71 = true := by kernel_rfl
theorem dk72 : bodyOk Tryd.f72 = true := by kernel_rfl
theorem dk73 : bodyOk Tryd.f73 = true := by kernel_rfl
theorem dk74 : bodyOk Tryd.f74 = true := by kernel_rfl
theorem dk75 : bodyOk Tryd.f75 = true := by kernel_rfl
theorem dk76 : bodyOk Tryd.f76 = true := by kernel_rfl
theorem dk77 : bodyOk Tryd.f77 = true := by kernel_rfl
theorem dk78 : bodyOk Tryd.f78 = true := by kernel_rfl
theorem dk79 : bodyOk Tryd.f79 = true := by kernel_rfl
theorem dk80 : bodyOk Tryd.f80 = true := by kernel_rfl
theorem dk81 : bodyOk Tryd.f81 = true := by kernel_rfl
theorem dk82 : bodyOk Tryd.f82 = true := by kernel_rfl
theorem dk83 : bodyOk Tryd.f83 = true := by kernel_rfl
theorem dk84 : bodyOk Tryd.f84 = true := by kernel_rfl
theorem dk85 : bodyOk Tryd.f85 = true := by kernel_rfl
theorem dk86 : bodyOk Tryd.f86 = true := by kernel_rfl
theorem dk87 : bodyOk Tryd.f87 = true := by kernel_rfl
theorem dk88 : bodyOk Tryd.f88 = true := by kernel_rfl
theorem dk89 : bodyOk Tryd.f89 = true := by kernel_rfl
theorem dk90 : bodyOk Tryd.f90 = true := by kernel_rfl
theorem dk91 : bodyOk Tryd.f91 = true := by kernel_rfl
theorem dk92 : bodyOk Tryd.f92 = true := by kernel_rfl
theorem dk93 : bodyOk Tryd.f93 = true := by kernel_rfl
theorem dk94 : bodyOk Tryd.f94 = true := by kernel_rfl
theorem dk95 : bodyOk Tryd.f95 = true := by kernel_rfl
theorem dk96 : bodyOk Tryd.f96 = true := by kernel_rfl
theorem dk97 : bodyOk Tryd.f97 = true := by kernel_rfl
theorem dk98 : bodyOk Tryd.f98 = true := by kernel_rfl
theorem dk99 : bodyOk Tryd.f99 = true := by kernel_rfl
theorem dk100 : bodyOk Tryd.f100 = true := by kernel_rfl
theorem dk101 : bodyOk Tryd.f101 = true := by kernel_rfl
theorem dk102 : bodyOk Tryd.f102 = true := by kernel_rfl
theorem dk103 : bodyOk Tryd.f103 = true := by kernel_rfl
theorem dk104 : bodyOk Tryd.f104 = true := by kernel_rfl
theorem dk105 : bodyOk Tryd.f105 = true := by kernel_rfl
theorem dk106 : bodyOk Tryd.f106 = true := by kernel_rfl
theorem dk107 : bodyOk Tryd.f107 = true := by kernel_rfl
theorem dk108 : bodyOk Tryd.f108 = true := by kernel_rfl
theorem dk109 : bodyOk Tryd.f109 = true := by kernel_rfl
theorem dk110 : bodyOk Tryd.f110 = true := by kernel_rfl
theorem dk111 : bodyOk Tryd.f111 = true := by kernel_rfl
theorem dk112 : bodyOk Tryd.f112 = true := by kernel_rfl
theorem dk113 : bodyOk Tryd.f113 = true := by kernel_rfl
theorem dk114 : bodyOk Tryd.f114 = true := by kernel_rfl
theorem dk115 : bodyOk Tryd.f115 = true := by kernel_rfl
theorem dk116 : bodyOk Tryd.f116 = true := by kernel_rfl
theorem dk117 : bodyOk Tryd.f117 = true := by kernel_rfl
theorem dk118 : bodyOk Tryd.f118 = true := by kernel_rfl
theorem dk119 : bodyOk Tryd.f119 = true := by kernel_rfl
theorem dk120 : bodyOk Tryd.f120 = true := by kernel_rfl
theorem dk122 : bodyOk Tryd.f122 = true := by kernel_rfl
theorem dk123 : bodyOk Tryd.f123 = true := by kernel_rfl
theorem dk124 : bodyOk Tryd.f124 = true := by kernel_rfl
theorem dk125 : bodyOk Tryd.f125 = true := by kernel_rfl
theorem dk126 : bodyOk Tryd.f126 = true := by kernel_rfl
theorem dk127 : bodyOk Tryd.f127 = true := by kernel_rfl
theorem dk128 : bodyOk Tryd.f128 = true := by kernel_rfl
theorem dk129 : bodyOk Tryd.f129 = true := by kernel_rfl
theorem dk130 : bodyOk Tryd.f130 = true := by kernel_rfl
theorem dk131 : bodyOk Tryd.f131 = true := by kernel_rfl
theorem dk132 : bodyOk Tryd.f132 = true := by kernel_rfl
theorem dk133 : bodyOk Tryd.f133 = true := by kernel_rfl
theorem dk134 : bodyOk Tryd.f134 = true := by kernel_rfl
theorem dk135 : bodyOk Tryd.f135 = true := by kernel_rfl
theorem dk137 : bodyOk Tryd.f137 = true := by kernel_rfl
theorem dk138 : bodyOk Tryd.f138 = true := by kernel_rfl
theorem dk139 : bodyOk Tryd.f139 = true := by kernel_rfl
theorem dk140 : bodyOk Tryd.f140 = true := by kernel_rfl
theorem dk141 : bodyOk Tryd.f141 = true := by kernel_rfl
theorem dk142 : bodyOk Tryd.f142 = true := by kernel_rfl
theorem dk143 : bodyOk Tryd.f143 = true := by kernel_rfl
theorem dk144 : bodyOk Tryd.f144 = true := by kernel_rfl
theorem dk167 : bodyOk Tryd.f167 = true := by kernel_rfl
theorem fk2 : Tryd.prog.funcs[2]? = some Tryd.f2 := Tryd.func2
theorem fk3 : Tryd.prog.funcs[3]? = some Tryd.f3 := Tryd.func3
theorem fk4 : Tryd.prog.funcs[4]? = some Tryd.f4 := Tryd.func4
theorem fk5 : Tryd.prog.funcs[5]? = some Tryd.f5 := Tryd.func5
theorem fk6 : Tryd.prog.funcs[6]? = some Tryd.f6 := Tryd.func6
theorem fk7 : Tryd.prog.funcs[7]? = some Tryd.f7 := Tryd.func7
theorem fk8 : Tryd.prog.funcs[8]? = some Tryd.f8 := Tryd.func8
theorem fk9 : Tryd.prog.funcs[9]? = some Tryd.f9 := Tryd.func9
theorem fk10 : Tryd.prog.funcs[10]? = some Tryd.f10 := Tryd.func10
theorem fk11 : Tryd.prog.funcs[11]? = some Tryd.f11 := Tryd.func11
theorem fk12 : Tryd.prog.funcs[12]? = some Tryd.f12 := Tryd.func12
theorem fk13 : Tryd.prog.funcs[13]? = some Tryd.f13 := Tryd.func13
theorem fk14 : Tryd.prog.funcs[14]? = some Tryd.f14 := Tryd.func14
theorem fk15 : Tryd.prog.funcs[15]? = some Tryd.f15 := Tryd.func15
theorem fk16 : Tryd.prog.funcs[16]? = some Tryd.f16 := Tryd.func16
theorem fk17 : Tryd.prog.funcs[17]? = some Tryd.f17 := Tryd.func17
theorem fk18 : Tryd.prog.funcs[18]? = some Tryd.f18 := Tryd.func18
theorem fk19 : Tryd.prog.funcs[19]? = some Tryd.f19 := Tryd.func19
theorem fk20 : Tryd.prog.funcs[20]? = some Tryd.f20 := Tryd.func20
theorem fk21 : Tryd.prog.funcs[21]? = some Tryd.f21 := Tryd.func21
theorem fk22 : Tryd.prog.funcs[22]? = some Tryd.f22 := Tryd.func22
theorem fk23 : Tryd.prog.funcs[23]? = some Tryd.f23 := Tryd.func23
theorem fk24 : Tryd.prog.funcs[24]? = some Tryd.f24 := Tryd.func24
theorem fk25 : Tryd.prog.funcs[25]? = some Tryd.f25 := Tryd.func25
theorem fk26 : Tryd.prog.funcs[26]? = some Tryd.f26 := Tryd.func26
theorem fk27 : Tryd.prog.funcs[27]? = some Tryd.f27 := Tryd.func27
theorem fk28 : Tryd.prog.funcs[28]? = some Tryd.f28 := Tryd.func28
theorem fk29 : Tryd.prog.funcs[29]? = some Tryd.f29 := Tryd.func29
theorem fk30 : Tryd.prog.funcs[30]? = some Tryd.f30 := Tryd.func30
theorem fk31 : Tryd.prog.funcs[31]? = some Tryd.f31 := Tryd.func31
theorem fk32 : Tryd.prog.funcs[32]? = some Tryd.f32 := Tryd.func32
theorem fk33 : Tryd.prog.funcs[33]? = some Tryd.f33 := Tryd.func33
theorem fk34 : Tryd.prog.funcs[34]? = some Tryd.f34 := Tryd.func34
theorem fk35 : Tryd.prog.funcs[35]? = some Tryd.f35 := Tryd.func35
theorem fk36 : Tryd.prog.funcs[36]? = some Tryd.f36 := Tryd.func36
theorem fk37 : Tryd.prog.funcs[37]? = some Tryd.f37 := Tryd.func37
theorem fk38 : Tryd.prog.funcs[38]? = some Tryd.f38 := Tryd.func38
theorem fk39 : Tryd.prog.funcs[39]? = some Tryd.f39 := Tryd.func39
theorem fk40 : Tryd.prog.funcs[40]? = some Tryd.f40 := Tryd.func40
theorem fk41 : Tryd.prog.funcs[41]? = some Tryd.f41 := Tryd.func41
theorem fk42 : Tryd.prog.funcs[42]? = some Tryd.f42 := Tryd.func42
theorem fk43 : Tryd.prog.funcs[43]? = some Tryd.f43 := Tryd.func43
theorem fk44 : Tryd.prog.funcs[44]? = some Tryd.f44 := Tryd.func44
theorem fk45 : Tryd.prog.funcs[45]? = some Tryd.f45 := Tryd.func45
theorem fk46 : Tryd.prog.funcs[46]? = some Tryd.f46 := Tryd.func46
theorem fk47 : Tryd.prog.funcs[47]? = some Tryd.f47 := Tryd.func47
theorem fk48 : Tryd.prog.funcs[48]? = some Tryd.f48 := Tryd.func48
theorem fk50 : Tryd.prog.funcs[50]? = some Tryd.f50 := Tryd.func50
theorem fk51 : Tryd.prog.funcs[51]? = some Tryd.f51 := Tryd.func51
theorem fk52 : Tryd.prog.funcs[52]? = some Tryd.f52 := Tryd.func52
theorem fk53 : Tryd.prog.funcs[53]? = some Tryd.f53 := Tryd.func53
theorem fk54 : Tryd.prog.funcs[54]? = some Tryd.f54 := Tryd.func54
theorem fk55 : Tryd.prog.funcs[55]? = some Tryd.f55 := Tryd.func55
theorem fk56 : Tryd.prog.funcs[56]? = some Tryd.f56 := Tryd.func56
theorem fk57 : Tryd.prog.funcs[57]? = some Tryd.f57 := Tryd.func57
theorem fk58 : Tryd.prog.funcs[58]? = some Tryd.f58 := Tryd.func58
theorem fk59 : Tryd.prog.funcs[59]? = some Tryd.f59 := Tryd.func59
theorem fk60 : Tryd.prog.funcs[60]? = some Tryd.f60 := Tryd.func60
theorem fk61 : Tryd.prog.funcs[61]? = some Tryd.f61 := Tryd.func61
theorem fk62 : Tryd.prog.funcs[62]? = some Tryd.f62 := Tryd.func62
theorem fk63 : Tryd.prog.funcs[63]? = some Tryd.f63 := Tryd.func63
theorem fk64 : Tryd.prog.funcs[64]? = some Tryd.f64 := Tryd.func64
theorem fk65 : Tryd.prog.funcs[65]? = some Tryd.f65 := Tryd.func65
theorem fk66 : Tryd.prog.funcs[66]? = some Tryd.f66 := Tryd.func66
theorem fk67 : Tryd.prog.funcs[67]? = some Tryd.f67 := Tryd.func67
theorem fk68 : Tryd.prog.funcs[68]? = some Tryd.f68 := Tryd.func68
theorem fk69 : Tryd.prog.funcs[69]? = some Tryd.f69 := Tryd.func69
theorem fk70 : Tryd.prog.funcs[70]? = some Tryd.f70 := Tryd.func70
theorem fk71 : Tryd.prog.funcs[71]? = some Tryd.f71 := Tryd.func71
theorem fk72 : Tryd.prog.funcs[72]? = some Tryd.f72 := Tryd.func72
theorem fk73 : Tryd.prog.funcs[73]? = some Tryd.f73 := Tryd.func73
theorem fk74 : Tryd.prog.funcs[74]? = some Tryd.f74 := Tryd.func74
theorem fk75 : Tryd.prog.funcs[75]? = some Tryd.f75 := Tryd.func75
theorem fk76 : Tryd.prog.funcs[76]? = some Tryd.f76 := Tryd.func76
theorem fk77 : Tryd.prog.funcs[77]? = some Tryd.f77 := Tryd.func77
theorem fk78 : Tryd.prog.funcs[78]? = some Tryd.f78 := Tryd.func78
theorem fk79 : Tryd.prog.funcs[79]? = some Tryd.f79 := Tryd.func79
theorem fk80 : Tryd.prog.funcs[80]? = some Tryd.f80 := Tryd.func80
theorem fk81 : Tryd.prog.funcs[81]? = some Tryd.f81 := Tryd.func81
theorem fk82 : Tryd.prog.funcs[82]? = some Tryd.f82 := Tryd.func82
theorem fk83 : Tryd.prog.funcs[83]? = some Tryd.f83 := Tryd.func83
theorem fk84 : Tryd.prog.funcs[84]? = some Tryd.f84 := Tryd.func84
theorem fk85 : Tryd.prog.funcs[85]? = some Tryd.f85 := Tryd.func85
theorem fk86 : Tryd.prog.funcs[86]? = some Tryd.f86 := Tryd.func86
theorem fk87 : Tryd.prog.funcs[87]? = some Tryd.f87 := Tryd.func87
theorem fk88 : Tryd.prog.funcs[88]? = some Tryd.f88 := Tryd.func88
theorem fk89 : Tryd.prog.funcs[89]? = some Tryd.f89 := Tryd.func89
theorem fk90 : Tryd.prog.funcs[90]? = some Tryd.f90 := Tryd.func90
theorem fk91 : Tryd.prog.funcs[91]? = some Tryd.f91 := Tryd.func91
theorem fk92 : Tryd.prog.funcs[92]? = some Tryd.f92 := Tryd.func92
theorem fk93 : Tryd.prog.funcs[93]? = some Tryd.f93 := Tryd.func93
theorem fk94 : Tryd.prog.funcs[94]? = some Tryd.f94 := Tryd.func94
theorem fk95 : Tryd.prog.funcs[95]? = some Tryd.f95 := Tryd.func95
theorem fk96 : Tryd.prog.funcs[96]? = some Tryd.f96 := Tryd.func96
theorem fk97 : Tryd.prog.funcs[97]? = some Tryd.f97 := Tryd.func97
theorem fk98 : Tryd.prog.funcs[98]? = some Tryd.f98 := Tryd.func98
theorem fk99 : Tryd.prog.funcs[99]? = some Tryd.f99 := Tryd.func99
theorem fk100 : Tryd.prog.funcs[100]? = some Tryd.f100 := Tryd.func100
theorem fk101 : Tryd.prog.funcs[101]? = some Tryd.f101 := Tryd.func101
theorem fk102 : Tryd.prog.funcs[102]? = some Tryd.f102 := Tryd.func102
theorem fk103 : Tryd.prog.funcs[103]? = some Tryd.f103 := Tryd.func103
theorem fk104 : Tryd.prog.funcs[104]? = some Tryd.f104 := Tryd.func104
theorem fk105 : Tryd.prog.funcs[105]? = some Tryd.f105 := Tryd.func105
theorem fk106 : Tryd.prog.funcs[106]? = some Tryd.f106 := Tryd.func106
theorem fk107 : Tryd.prog.funcs[107]? = some Tryd.f107 := Tryd.func107
theorem fk108 : Tryd.prog.funcs[108]? = some Tryd.f108 := Tryd.func108
theorem fk109 : Tryd.prog.funcs[109]? = some Tryd.f109 := Tryd.func109
theorem fk110 : Tryd.prog.funcs[110]? = some Tryd.f110 := Tryd.func110
theorem fk111 : Tryd.prog.funcs[111]? = some Tryd.f111 := Tryd.func111
theorem fk112 : Tryd.prog.funcs[112]? = some Tryd.f112 := Tryd.func112
theorem fk113 : Tryd.prog.funcs[113]? = some Tryd.f113 := Tryd.func113
theorem fk114 : Tryd.prog.funcs[114]? = some Tryd.f114 := Tryd.func114
theorem fk115 : Tryd.prog.funcs[115]? = some Tryd.f115 := Tryd.func115
theorem fk116 : Tryd.prog.funcs[116]? = some Tryd.f116 := Tryd.func116
theorem fk117 : Tryd.prog.funcs[117]? = some Tryd.f117 := Tryd.func117
theorem fk118 : Tryd.prog.funcs[118]? = some Tryd.f118 := Tryd.func118
theorem fk119 : Tryd.prog.funcs[119]? = some Tryd.f119 := Tryd.func119
theorem fk120 : Tryd.prog.funcs[120]? = some Tryd.f120 := Tryd.func120
theorem fk122 : Tryd.prog.funcs[122]? = some Tryd.f122 := Tryd.func122
theorem fk123 : Tryd.prog.funcs[123]? = some Tryd.f123 := Tryd.func123
theorem fk124 : Tryd.prog.funcs[124]? = some Tryd.f124 := Tryd.func124
theorem fk125 : Tryd.prog.funcs[125]? = some Tryd.f125 := Tryd.func125
theorem fk126 : Tryd.prog.funcs[126]? = some Tryd.f126 := Tryd.func126
theorem fk127 : Tryd.prog.funcs[127]? = some Tryd.f127 := Tryd.func127
theorem fk128 : Tryd.prog.funcs[128]? = some Tryd.f128 := Tryd.func128
theorem fk129 : Tryd.prog.funcs[129]? = some Tryd.f129 := Tryd.func129
theorem fk130 : Tryd.prog.funcs[130]? = some Tryd.f130 := Tryd.func130
theorem fk131 : Tryd.prog.funcs[131]? = some Tryd.f131 := Tryd.func131
theorem fk132 : Tryd.prog.funcs[132]? = some Tryd.f132 := Tryd.func132
theorem fk133 : Tryd.prog.funcs[133]? = some Tryd.f133 := Tryd.func133
theorem fk134 : Tryd.prog.funcs[134]? = some Tryd.f134 := Tryd.func134
theorem fk135 : Tryd.prog.funcs[135]? = some Tryd.f135 := Tryd.func135
theorem fk137 : Tryd.prog.funcs[137]? = some Tryd.f137 := Tryd.func137
theorem fk138 : Tryd.prog.funcs[138]? = some Tryd.f138 := Tryd.func138
theorem fk139 : Tryd.prog.funcs[139]? = some Tryd.f139 := Tryd.func139
theorem fk140 : Tryd.prog.funcs[140]? = some Tryd.f140 := Tryd.func140
theorem fk141 : Tryd.prog.funcs[141]? = some Tryd.f141 := Tryd.func141
theorem fk142 : Tryd.prog.funcs[142]? = some Tryd.f142 := Tryd.func142
theorem fk143 : Tryd.prog.funcs[143]? = some Tryd.f143 := Tryd.func143
theorem fk144 : Tryd.prog.funcs[144]? = some Tryd.f144 := Tryd.func144
theorem fk167 : Tryd.prog.funcs[167]? = some Tryd.f167 := Tryd.func167
theorem id121 : ∀ v w, (callFunc 121 #[v]).run Tryd.prog w = .ok (.value v) w := fun v w => run_callFunc_extern (fn := Tryd.f121) (e := Extern.AbiNoEscape.same) Tryd.func121 (by kernel_rfl) (by kernel_rfl) (by kernel_rfl) (by kernel_rfl) #[v] w
theorem E0_ok : EnvOk E0 := by
  refine ⟨fun f fn h => ?_, by kernel_rfl, fun f h => ?_, fun f g h => (by cases h)⟩
  · change fnT f = some fn at h
    unfold fnT at h
    split at h
    · injection h with h; subst h; exact ⟨fk2, ⟨Tryd.call2⟩, bodyOk_inv dk2⟩
    · injection h with h; subst h; exact ⟨fk3, ⟨Tryd.call3⟩, bodyOk_inv dk3⟩
    · injection h with h; subst h; exact ⟨fk4, ⟨Tryd.call4⟩, bodyOk_inv dk4⟩
    · injection h with h; subst h; exact ⟨fk5, ⟨Tryd.call5⟩, bodyOk_inv dk5⟩
    · injection h with h; subst h; exact ⟨fk6, ⟨Tryd.call6⟩, bodyOk_inv dk6⟩
    · injection h with h; subst h; exact ⟨fk7, ⟨Tryd.call7⟩, bodyOk_inv dk7⟩
    · injection h with h; subst h; exact ⟨fk8, ⟨Tryd.call8⟩, bodyOk_inv dk8⟩
    · injection h with h; subst h; exact ⟨fk9, ⟨Tryd.call9⟩, bodyOk_inv dk9⟩
    · injection h with h; subst h; exact ⟨fk10, ⟨Tryd.call10⟩, bodyOk_inv dk10⟩
    · injection h with h; subst h; exact ⟨fk11, ⟨Tryd.call11⟩, bodyOk_inv dk11⟩
    · injection h with h; subst h; exact ⟨fk12, ⟨Tryd.call12⟩, bodyOk_inv dk12⟩
    · injection h with h; subst h; exact ⟨fk13, ⟨Tryd.call13⟩, bodyOk_inv dk13⟩
    · injection h with h; subst h; exact ⟨fk14, ⟨Tryd.call14⟩, bodyOk_inv dk14⟩
    · injection h with h; subst h; exact ⟨fk15, ⟨Tryd.call15⟩, bodyOk_inv dk15⟩
    · injection h with h; subst h; exact ⟨fk16, ⟨Tryd.call16⟩, bodyOk_inv dk16⟩
    · injection h with h; subst h; exact ⟨fk17, ⟨Tryd.call17⟩, bodyOk_inv dk17⟩
    · injection h with h; subst h; exact ⟨fk18, ⟨Tryd.call18⟩, bodyOk_inv dk18⟩
    · injection h with h; subst h; exact ⟨fk19, ⟨Tryd.call19⟩, bodyOk_inv dk19⟩
    · injection h with h; subst h; exact ⟨fk20, ⟨Tryd.call20⟩, bodyOk_inv dk20⟩
    · injection h with h; subst h; exact ⟨fk21, ⟨Tryd.call21⟩, bodyOk_inv dk21⟩
    · injection h with h; subst h; exact ⟨fk22, ⟨Tryd.call22⟩, bodyOk_inv dk22⟩
    · injection h with h; subst h; exact ⟨fk23, ⟨Tryd.call23⟩, bodyOk_inv dk23⟩
    · injection h with h; subst h; exact ⟨fk24, ⟨Tryd.call24⟩, bodyOk_inv dk24⟩
    · injection h with h; subst h; exact ⟨fk25, ⟨Tryd.call25⟩, bodyOk_inv dk25⟩
    · injection h with h; subst h; exact ⟨fk26, ⟨Tryd.call26⟩, bodyOk_inv dk26⟩
    · injection h with h; subst h; exact ⟨fk27, ⟨Tryd.call27⟩, bodyOk_inv dk27⟩
    · injection h with h; subst h; exact ⟨fk28, ⟨Tryd.call28⟩, bodyOk_inv dk28⟩
    · injection h with h; subst h; exact ⟨fk29, ⟨Tryd.call29⟩, bodyOk_inv dk29⟩
    · injection h with h; subst h; exact ⟨fk30, ⟨Tryd.call30⟩, bodyOk_inv dk30⟩
    · injection h with h; subst h; exact ⟨fk31, ⟨Tryd.call31⟩, bodyOk_inv dk31⟩
    · injection h with h; subst h; exact ⟨fk32, ⟨Tryd.call32⟩, bodyOk_inv dk32⟩
    · injection h with h; subst h; exact ⟨fk33, ⟨Tryd.call33⟩, bodyOk_inv dk33⟩
    · injection h with h; subst h; exact ⟨fk34, ⟨Tryd.call34⟩, bodyOk_inv dk34⟩
    · injection h with h; subst h; exact ⟨fk35, ⟨Tryd.call35⟩, bodyOk_inv dk35⟩
    · injection h with h; subst h; exact ⟨fk36, ⟨Tryd.call36⟩, bodyOk_inv dk36⟩
    · injection h with h; subst h; exact ⟨fk37, ⟨Tryd.call37⟩, bodyOk_inv dk37⟩
    · injection h with h; subst h; exact ⟨fk38, ⟨Tryd.call38⟩, bodyOk_inv dk38⟩
    · injection h with h; subst h; exact ⟨fk39, ⟨Tryd.call39⟩, bodyOk_inv dk39⟩
    · injection h with h; subst h; exact ⟨fk40, ⟨Tryd.call40⟩, bodyOk_inv dk40⟩
    · injection h with h; subst h; exact ⟨fk41, ⟨Tryd.call41⟩, bodyOk_inv dk41⟩
    · injection h with h; subst h; exact ⟨fk42, ⟨Tryd.call42⟩, bodyOk_inv dk42⟩
    · injection h with h; subst h; exact ⟨fk43, ⟨Tryd.call43⟩, bodyOk_inv dk43⟩
    · injection h with h; subst h; exact ⟨fk44, ⟨Tryd.call44⟩, bodyOk_inv dk44⟩
    · injection h with h; subst h; exact ⟨fk45, ⟨Tryd.call45⟩, bodyOk_inv dk45⟩
    · injection h with h; subst h; exact ⟨fk46, ⟨Tryd.call46⟩, bodyOk_inv dk46⟩
    · injection h with h; subst h; exact ⟨fk47, ⟨Tryd.call47⟩, bodyOk_inv dk47⟩
    · injection h with h; subst h; exact ⟨fk48, ⟨Tryd.call48⟩, bodyOk_inv dk48⟩
    · injection h with h; subst h; exact ⟨fk50, ⟨Tryd.call50⟩, bodyOk_inv dk50⟩
    · injection h with h; subst h; exact ⟨fk51, ⟨Tryd.call51⟩, bodyOk_inv dk51⟩
    · injection h with h; subst h; exact ⟨fk52, ⟨Tryd.call52⟩, bodyOk_inv dk52⟩
    · injection h with h; subst h; exact ⟨fk53, ⟨Tryd.call53⟩, bodyOk_inv dk53⟩
    · injection h with h; subst h; exact ⟨fk54, ⟨Tryd.call54⟩, bodyOk_inv dk54⟩
    · injection h with h; subst h; exact ⟨fk55, ⟨Tryd.call55⟩, bodyOk_inv dk55⟩
    · injection h with h; subst h; exact ⟨fk56, ⟨Tryd.call56⟩, bodyOk_inv dk56⟩
    · injection h with h; subst h; exact ⟨fk57, ⟨Tryd.call57⟩, bodyOk_inv dk57⟩
    · injection h with h; subst h; exact ⟨fk58, ⟨Tryd.call58⟩, bodyOk_inv dk58⟩
    · injection h with h; subst h; exact ⟨fk59, ⟨Tryd.call59⟩, bodyOk_inv dk59⟩
    · injection h with h; subst h; exact ⟨fk60, ⟨Tryd.call60⟩, bodyOk_inv dk60⟩
    · injection h with h; subst h; exact ⟨fk61, ⟨Tryd.call61⟩, bodyOk_inv dk61⟩
    · injection h with h; subst h; exact ⟨fk62, ⟨Tryd.call62⟩, bodyOk_inv dk62⟩
    · injection h with h; subst h; exact ⟨fk63, ⟨Tryd.call63⟩, bodyOk_inv dk63⟩
    · injection h with h; subst h; exact ⟨fk64, ⟨Tryd.call64⟩, bodyOk_inv dk64⟩
    · injection h with h; subst h; exact ⟨fk65, ⟨Tryd.call65⟩, bodyOk_inv dk65⟩
    · injection h with h; subst h; exact ⟨fk66, ⟨Tryd.call66⟩, bodyOk_inv dk66⟩
    · injection h with h; subst h; exact ⟨fk67, ⟨Tryd.call67⟩, bodyOk_inv dk67⟩
    · injection h with h; subst h; exact ⟨fk68, ⟨Tryd.call68⟩, bodyOk_inv dk68⟩
    · injection h with h; subst h; exact ⟨fk69, ⟨Tryd.call69⟩, bodyOk_inv dk69⟩
    · injection h with h; subst h; exact ⟨fk70, ⟨Tryd.call70⟩, bodyOk_inv dk70⟩
    · injection h with h; subst h; exact ⟨fk71, ⟨Tryd.call71⟩, bodyOk_inv dk71⟩
    · injection h with h; subst h; exact ⟨fk72, ⟨Tryd.call72⟩, bodyOk_inv dk72⟩
    · injection h with h; subst h; exact ⟨fk73, ⟨Tryd.call73⟩, bodyOk_inv dk73⟩
    · injection h with h; subst h; exact ⟨fk74, ⟨Tryd.call74⟩, bodyOk_inv dk74⟩
    · injection h with h; subst h; exact ⟨fk75, ⟨Tryd.call75⟩, bodyOk_inv dk75⟩
    · injection h with h; subst h; exact ⟨fk76, ⟨Tryd.call76⟩, bodyOk_inv dk76⟩
    · injection h with h; subst h; exact ⟨fk77, ⟨Tryd.call77⟩, bodyOk_inv dk77⟩
    · injection h with h; subst h; exact ⟨fk78, ⟨Tryd.call78⟩, bodyOk_inv dk78⟩
    · injection h with h; subst h; exact ⟨fk79, ⟨Tryd.call79⟩, bodyOk_inv dk79⟩
    · injection h with h; subst h; exact ⟨fk80, ⟨Tryd.call80⟩, bodyOk_inv dk80⟩
    · injection h with h; subst h; exact ⟨fk81, ⟨Tryd.call81⟩, bodyOk_inv dk81⟩
    · injection h with h; subst h; exact ⟨fk82, ⟨Tryd.call82⟩, bodyOk_inv dk82⟩
    · injection h with h; subst h; exact ⟨fk83, ⟨Tryd.call83⟩, bodyOk_inv dk83⟩
    · injection h with h; subst h; exact ⟨fk84, ⟨Tryd.call84⟩, bodyOk_inv dk84⟩
    · injection h with h; subst h; exact ⟨fk85, ⟨Tryd.call85⟩, bodyOk_inv dk85⟩
    · injection h with h; subst h; exact ⟨fk86, ⟨Tryd.call86⟩, bodyOk_inv dk86⟩
    · injection h with h; subst h; exact ⟨fk87, ⟨Tryd.call87⟩, bodyOk_inv dk87⟩
    · injection h with h; subst h; exact ⟨fk88, ⟨Tryd.call88⟩, bodyOk_inv dk88⟩
    · injection h with h; subst h; exact ⟨fk89, ⟨Tryd.call89⟩, bodyOk_inv dk89⟩
    · injection h with h; subst h; exact ⟨fk90, ⟨Tryd.call90⟩, bodyOk_inv dk90⟩
    · injection h with h; subst h; exact ⟨fk91, ⟨Tryd.call91⟩, bodyOk_inv dk91⟩
    · injection h with h; subst h; exact ⟨fk92, ⟨Tryd.call92⟩, bodyOk_inv dk92⟩
    · injection h with h; subst h; exact ⟨fk93, ⟨Tryd.call93⟩, bodyOk_inv dk93⟩
    · injection h with h; subst h; exact ⟨fk94, ⟨Tryd.call94⟩, bodyOk_inv dk94⟩
    · injection h with h; subst h; exact ⟨fk95, ⟨Tryd.call95⟩, bodyOk_inv dk95⟩
    · injection h with h; subst h; exact ⟨fk96, ⟨Tryd.call96⟩, bodyOk_inv dk96⟩
    · injection h with h; subst h; exact ⟨fk97, ⟨Tryd.call97⟩, bodyOk_inv dk97⟩
    · injection h with h; subst h; exact ⟨fk98, ⟨Tryd.call98⟩, bodyOk_inv dk98⟩
    · injection h with h; subst h; exact ⟨fk99, ⟨Tryd.call99⟩, bodyOk_inv dk99⟩
    · injection h with h; subst h; exact ⟨fk100, ⟨Tryd.call100⟩, bodyOk_inv dk100⟩
    · injection h with h; subst h; exact ⟨fk101, ⟨Tryd.call101⟩, bodyOk_inv dk101⟩
    · injection h with h; subst h; exact ⟨fk102, ⟨Tryd.call102⟩, bodyOk_inv dk102⟩
    · injection h with h; subst h; exact ⟨fk103, ⟨Tryd.call103⟩, bodyOk_inv dk103⟩
    · injection h with h; subst h; exact ⟨fk104, ⟨Tryd.call104⟩, bodyOk_inv dk104⟩
    · injection h with h; subst h; exact ⟨fk105, ⟨Tryd.call105⟩, bodyOk_inv dk105⟩
    · injection h with h; subst h; exact ⟨fk106, ⟨Tryd.call106⟩, bodyOk_inv dk106⟩
    · injection h with h; subst h; exact ⟨fk107, ⟨Tryd.call107⟩, bodyOk_inv dk107⟩
    · injection h with h; subst h; exact ⟨fk108, ⟨Tryd.call108⟩, bodyOk_inv dk108⟩
    · injection h with h; subst h; exact ⟨fk109, ⟨Tryd.call109⟩, bodyOk_inv dk109⟩
    · injection h with h; subst h; exact ⟨fk110, ⟨Tryd.call110⟩, bodyOk_inv dk110⟩
    · injection h with h; subst h; exact ⟨fk111, ⟨Tryd.call111⟩, bodyOk_inv dk111⟩
    · injection h with h; subst h; exact ⟨fk112, ⟨Tryd.call112⟩, bodyOk_inv dk112⟩
    · injection h with h; subst h; exact ⟨fk113, ⟨Tryd.call113⟩, bodyOk_inv dk113⟩
    · injection h with h; subst h; exact ⟨fk114, ⟨Tryd.call114⟩, bodyOk_inv dk114⟩
    · injection h with h; subst h; exact ⟨fk115, ⟨Tryd.call115⟩, bodyOk_inv dk115⟩
    · injection h with h; subst h; exact ⟨fk116, ⟨Tryd.call116⟩, bodyOk_inv dk116⟩
    · injection h with h; subst h; exact ⟨fk117, ⟨Tryd.call117⟩, bodyOk_inv dk117⟩
    · injection h with h; subst h; exact ⟨fk118, ⟨Tryd.call118⟩, bodyOk_inv dk118⟩
    · injection h with h; subst h; exact ⟨fk119, ⟨Tryd.call119⟩, bodyOk_inv dk119⟩
    · injection h with h; subst h; exact ⟨fk120, ⟨Tryd.call120⟩, bodyOk_inv dk120⟩
    · injection h with h; subst h; exact ⟨fk122, ⟨Tryd.call122⟩, bodyOk_inv dk122⟩
    · injection h with h; subst h; exact ⟨fk123, ⟨Tryd.call123⟩, bodyOk_inv dk123⟩
    · injection h with h; subst h; exact ⟨fk124, ⟨Tryd.call124⟩, bodyOk_inv dk124⟩
    · injection h with h; subst h; exact ⟨fk125, ⟨Tryd.call125⟩, bodyOk_inv dk125⟩
    · injection h with h; subst h; exact ⟨fk126, ⟨Tryd.call126⟩, bodyOk_inv dk126⟩
    · injection h with h; subst h; exact ⟨fk127, ⟨Tryd.call127⟩, bodyOk_inv dk127⟩
    · injection h with h; subst h; exact ⟨fk128, ⟨Tryd.call128⟩, bodyOk_inv dk128⟩
    · injection h with h; subst h; exact ⟨fk129, ⟨Tryd.call129⟩, bodyOk_inv dk129⟩
    · injection h with h; subst h; exact ⟨fk130, ⟨Tryd.call130⟩, bodyOk_inv dk130⟩
    · injection h with h; subst h; exact ⟨fk131, ⟨Tryd.call131⟩, bodyOk_inv dk131⟩
    · injection h with h; subst h; exact ⟨fk132, ⟨Tryd.call132⟩, bodyOk_inv dk132⟩
    · injection h with h; subst h; exact ⟨fk133, ⟨Tryd.call133⟩, bodyOk_inv dk133⟩
    · injection h with h; subst h; exact ⟨fk134, ⟨Tryd.call134⟩, bodyOk_inv dk134⟩
    · injection h with h; subst h; exact ⟨fk135, ⟨Tryd.call135⟩, bodyOk_inv dk135⟩
    · injection h with h; subst h; exact ⟨fk137, ⟨Tryd.call137⟩, bodyOk_inv dk137⟩
    · injection h with h; subst h; exact ⟨fk138, ⟨Tryd.call138⟩, bodyOk_inv dk138⟩
    · injection h with h; subst h; exact ⟨fk139, ⟨Tryd.call139⟩, bodyOk_inv dk139⟩
    · injection h with h; subst h; exact ⟨fk140, ⟨Tryd.call140⟩, bodyOk_inv dk140⟩
    · injection h with h; subst h; exact ⟨fk141, ⟨Tryd.call141⟩, bodyOk_inv dk141⟩
    · injection h with h; subst h; exact ⟨fk142, ⟨Tryd.call142⟩, bodyOk_inv dk142⟩
    · injection h with h; subst h; exact ⟨fk143, ⟨Tryd.call143⟩, bodyOk_inv dk143⟩
    · injection h with h; subst h; exact ⟨fk144, ⟨Tryd.call144⟩, bodyOk_inv dk144⟩
    · injection h with h; subst h; exact ⟨fk167, ⟨Tryd.call167⟩, bodyOk_inv dk167⟩
    · cases h
  · change idT f = true at h
    unfold idT at h
    split at h
    · exact id121
    · cases h
def isT (r : Option (AV × Hp)) : Bool := match r with
  | some (.v (.bool true), _) => true
  | _ => false
theorem isT_inv {r : Option (AV × Hp)} (h : isT r = true) : ∃ h', r = some (.v (.bool true), h') := by
  unfold isT at h
  split at h
  · exact ⟨_, rfl⟩
  · cases h
set_option maxRecDepth 1000000 in
theorem awakeT : isT (evCall E0 1000 13 [] []) = true := by kernel_rfl
theorem awake_ev : ∃ h, evCall E0 1000 13 [] [] = some (.v (.bool true), h) := isT_inv awakeT
theorem awake_ret (w : World) : Ret Tryd.prog 13 #[] w fun v w' => v = .bool true ∧ w.grownBy w' none := by
  obtain ⟨h, e⟩ := awake_ev
  exact ret_true (Z := fun _ => False) (us := []) E0_ok e (fun c hc => hc.elim) (fun g x h => by cases h) .nil
theorem vr_true {w : World} {Z : Nat → Prop} : VR w Z [] (.v (.bool true)) (.bool true) := .v rfl
def codeOf (f : Func) : Code := match f.body with
  | some c => c
  | none => .skip
def sA : Code → Code
  | .seq a _ => a
  | c => c
def sB : Code → Code
  | .seq _ b => b
  | c => c
/-- A part of code, by its way. -/
def pc : Code → List Nat → Code
  | c, [] => c
  | .seq a _, 0 :: l => pc a l
  | .seq _ b, _ :: l => pc b l
  | .cond _ a _, 0 :: l => pc a l
  | .cond _ _ b, _ :: l => pc b l
  | .block _ a, _ :: l => pc a l
  | .loop a, _ :: l => pc a l
  | c, _ :: _ => c
/-- What is told of a function, in no environment of its own. -/
def XOk (f : FuncId) (g : List AV → Option AV) : Prop := Callable E0.P f ∧ ∀ xs x, g xs = some x → ∀ w Z us, (∀ c, Z c → c < w.heap.size) → GI E0 w Z → VRs w Z [] xs us → Ret E0.P f us.toArray w fun v w' => w.grownBy w' none ∧ VR w' (fun c => Z c ∨ (w.heap.size ≤ c ∧ c < w'.heap.size)) [] x v
section
variable {E : Env} {cx : Cx} {c : Code} {s s1 : St} {Q : Ex → St → Prop} {n : Nat} {e0 : Ex}
theorem SemN.mono {Q' : Ex → St → Prop} (h : SemN E cx c n s Q) (hq : ∀ e s, Q e s → Q' e s) : SemN E cx c n s Q' :=
  fun ro base Qm a w Z R h1 h2 h3 k => h ro base Qm a w Z R h1 h2 h3 fun e s' a' w' Z' R' hQ => k e s' a' w' Z' R' (hq e s' hQ)
theorem SemN.wkQ (h : SemN E cx c n s fun e s' => ∃ s2, Wk E s' s2 ∧ Q e s2) : SemN E cx c n s Q := by
  intro ro base Qm a w Z R h1 h2 h3 k
  refine h ro base Qm a w Z R h1 h2 h3 fun e s' a' w' Z' R' hQ sr st => ?_
  obtain ⟨s2, hw, hq⟩ := hQ
  obtain ⟨Z2, R2, sr2, st2⟩ := hw _ w' Z' R' a' sr
  exact k e s2 a' w' Z2 R2 hq sr2 (st.trans st2)
theorem Sem.cutN (h : SemN E cx c n s fun e s' => e = e0 ∧ Wk E s' s1) (k : Q e0 s1) : SemN E cx c n s Q :=
  SemN.wkQ (SemN.mono h fun e s' h => ⟨s1, h.2, by rw [h.1]; exact k⟩)
end
theorem EnvOk.x {E : Env} {f : FuncId} {g : List AV → Option AV} (h : EnvOk (E.withX f g)) (hP : E.P = E0.P) (hG : E.G = E0.G) : XOk f g := by
  obtain ⟨h1, h2⟩ := h.X f g (if_pos rfl)
  have e1 : (E.withX f g).P = E0.P := hP
  refine ⟨e1 ▸ h1, fun xs x hx w Z us hz hg hv => ?_⟩
  have := h2 xs x hx w Z us hz (fun q y hy => hg q y (by rw [← hG]; exact hy)) hv
  exact e1 ▸ this
/- trestle/trestlelaw09.Sizes -/
noncomputable def e_law09_Sizes : Env := E0
theorem e_law09_Sizes_ok : EnvOk e_law09_Sizes := E0_ok
noncomputable def cb_law09_Sizes : Code := codeOf Tryd.f35
def law09_Sizes_1 (x0 : (List Int)) : Nat → (List Int) → Int → Int → Option (((List Int) × Int))
  | 0, _, _, _ => none
  | f + 1, c2, c3, c4 =>
    if (decide (c4 < (((x0.take (mnI (x0.length : Int) 8).toNat).drop (0 : Int).toNat).length : Int))) = true then
    (idx ((x0.take (mnI (x0.length : Int) 8).toNat).drop (0 : Int).toNat) c4).bind fun v6 =>
    if (capOk 8 (c2.length + 1)) = true then
    law09_Sizes_1 x0 f (c2 ++ [(wr .i64 (1 + (wr .i64 (v6.tmod 6))))]) (wr .i64 (c3 + (wr .i64 (1 + (wr .i64 (v6.tmod 6)))))) (wr .i64 (c4 + 1))
    else none
    else
    some (c2, c3)
def law09_Sizes (x0 : (List Int)) : Option ((List Int) × Int) :=
  if (cutOk 0 (mnI (x0.length : Int) 8) x0.length) = true then
  (law09_Sizes_1 x0 100000 [] 0 0).bind fun r10 =>
  if (r10.2 == 0) = true then
  some ([1], 1)
  else
  some (r10.1, r10.2)
  else none
def cs_law09_Sizes : Cs ((List Int) × Unit) := (csC (cdL 1 (cdK .u8)) csN)
def er_law09_Sizes (r : (List Int) × Int) : AV := .tp [(cdL 1 cdI).enc r.1, cdI.enc r.2]
set_option maxHeartbeats 4000000 in
set_option maxRecDepth 100000 in
theorem law09_Sizes_1_ok (x0 : (List Int)) : ∀ (f : Nat) (c2 : (List Int)) (c3 : Int) (c4 : Int) (r : ((List Int) × Int)), law09_Sizes_1 x0 f c2 c3 c4 = some r → SemN e_law09_Sizes ⟨none, false⟩ (pc cb_law09_Sizes [1, 1, 1, 0, 1, 0, 0]) f ⟨Fr 37 [(4, hd 0 (c2.map cdI.enc)), (5, .v (.int .i64 c3)), (12, .sl 1 (((x0.take (mnI (x0.length : Int) 8).toNat).drop (0 : Int).toNat).map (cdK .u8).enc)), (13, .v (.int .i64 (((x0.take (mnI (x0.length : Int) 8).toNat).drop (0 : Int).toNat).length : Int))), (14, .v (.int .i64 c4))], [mk 1 3 (c2.map cdI.enc)]⟩ (fun e s => e = (.exit 0) ∧ Wk e_law09_Sizes s ⟨Fr 37 [(4, hd 0 (r.1.map cdI.enc)), (5, .v (.int .i64 r.2))], [mk 1 3 (r.1.map cdI.enc)]⟩) := by
  intro f
  induction f with
  | zero => intro c2 c3 c4 r h; cases h
  | succ f ih0 =>
    intro c2 c3 c4 r h
    have ih := fun (c2 : (List Int)) (c3 : Int) (c4 : Int) => ih0 c2 c3 c4 r
    unfold law09_Sizes_1 at h
    refine SemN.succ ?_
    refine Sem.seq ?_
    refine Sem.runS (s1 := ⟨Fr 37 [(4, hd 0 (c2.map cdI.enc)), (5, .v (.int .i64 c3)), (12, .sl 1 (((x0.take (mnI (x0.length : Int) 8).toNat).drop (0 : Int).toNat).map (cdK .u8).enc)), (13, .v (.int .i64 (((x0.take (mnI (x0.length : Int) 8).toNat).drop (0 : Int).toNat).length : Int))), (14, .v (.int .i64 c4)), (15, .v (.bool (decide (c4 < (((x0.take (mnI (x0.length : Int) 8).toNat).drop (0 : Int).toNat).length : Int)))))], [mk 1 3 (c2.map cdI.enc)]⟩) ?_ ?_
    · refine RunS.segF (n := 37) e_law09_Sizes_ok 1 [(4, hd 0 (c2.map cdI.enc)), (5, .v (.int .i64 c3)), (12, .sl 1 (((x0.take (mnI (x0.length : Int) 8).toNat).drop (0 : Int).toNat).map (cdK .u8).enc)), (13, .v (.int .i64 (((x0.take (mnI (x0.length : Int) 8).toNat).drop (0 : Int).toNat).length : Int))), (14, .v (.int .i64 c4)), (15, .v (.bool (decide (c4 < (((x0.take (mnI (x0.length : Int) 8).toNat).drop (0 : Int).toNat).length : Int)))))] [mk 1 3 (c2.map cdI.enc)] (by kernel_rfl) ?_
      exact RunS.done rfl (Wk.s3 [0] ⟨⟨_, rfl, bu_mk⟩, trivial⟩ ⟨lu_hd (b' := 0) (by kernel_rfl) (by kernel_rfl), lv, lv, lv, lv, lv, trivial⟩)
    refine Sem.seq ?_
    refine Sem.cond (b := (decide (c4 < (((x0.take (mnI (x0.length : Int) 8).toNat).drop (0 : Int).toNat).length : Int)))) (by kernel_rfl) (fun hb5 => ?_) (fun hb5 => ?_)
    · rw [if_pos hb5] at h
      refine Sem.skip ?_
      refine Sem.seq ?_
      refine Sem.block ?_
      refine Sem.seq ?_
      obtain ⟨v6, hv6, h⟩ := Option.bind_eq_some_iff.1 h
      refine Sem.runS (s1 := ⟨Fr 37 [(4, hd 0 (c2.map cdI.enc)), (5, .v (.int .i64 c3)), (7, .v (.int .u8 v6)), (12, .sl 1 (((x0.take (mnI (x0.length : Int) 8).toNat).drop (0 : Int).toNat).map (cdK .u8).enc)), (13, .v (.int .i64 (((x0.take (mnI (x0.length : Int) 8).toNat).drop (0 : Int).toNat).length : Int))), (14, .v (.int .i64 c4))], [mk 1 3 (c2.map cdI.enc)]⟩) ?_ ?_
      · refine RunS.one e_law09_Sizes_ok 0 rfl (op_q (wantedA_none rfl) rfl (q_indexAddr (a := .sl 1 (((x0.take (mnI (x0.length : Int) 8).toNat).drop (0 : Int).toNat).map (cdK .u8).enc)) (b := .v (.int .i64 c4)) (by kernel_rfl) (by kernel_rfl) (ix_sl (e := (cdK .u8).enc) (el := 5) (k := 1) (ki := .i64) (by kernel_rfl) (by kernel_rfl) hv6))) ?_
        refine RunS.segF (n := 37) e_law09_Sizes_ok 2 [(4, hd 0 (c2.map cdI.enc)), (5, .v (.int .i64 c3)), (7, .v (.int .u8 v6)), (12, .sl 1 (((x0.take (mnI (x0.length : Int) 8).toNat).drop (0 : Int).toNat).map (cdK .u8).enc)), (13, .v (.int .i64 (((x0.take (mnI (x0.length : Int) 8).toNat).drop (0 : Int).toNat).length : Int))), (14, .v (.int .i64 c4))] [mk 1 3 (c2.map cdI.enc)] (by kernel_rfl) ?_
        exact RunS.done rfl (Wk.s3 [0] ⟨⟨_, rfl, bu_mk⟩, trivial⟩ ⟨lu_hd (b' := 0) (by kernel_rfl) (by kernel_rfl), lv, lv, lv, lv, lv, trivial⟩)
      refine Sem.seq ?_
      by_cases hk7 : (capOk 8 (c2.length + 1)) = true
      case neg => rw [if_neg hk7] at h; cases h
      rw [if_pos hk7] at h
      refine Sem.runS (s1 := ⟨Fr 37 [(4, hd 0 ((c2 ++ [(wr .i64 (1 + (wr .i64 (v6.tmod 6))))]).map cdI.enc)), (5, .v (.int .i64 c3)), (7, .v (.int .u8 v6)), (12, .sl 1 (((x0.take (mnI (x0.length : Int) 8).toNat).drop (0 : Int).toNat).map (cdK .u8).enc)), (13, .v (.int .i64 (((x0.take (mnI (x0.length : Int) 8).toNat).drop (0 : Int).toNat).length : Int))), (14, .v (.int .i64 c4))], [mk 1 3 ((c2 ++ [(wr .i64 (1 + (wr .i64 (v6.tmod 6))))]).map cdI.enc)]⟩) ?_ ?_
      · refine RunS.segF (n := 37) e_law09_Sizes_ok 6 [(5, .v (.int .i64 c3)), (7, .v (.int .u8 v6)), (12, .sl 1 (((x0.take (mnI (x0.length : Int) 8).toNat).drop (0 : Int).toNat).map (cdK .u8).enc)), (13, .v (.int .i64 (((x0.take (mnI (x0.length : Int) 8).toNat).drop (0 : Int).toNat).length : Int))), (14, .v (.int .i64 c4)), (18, hd 0 (c2.map cdI.enc)), (23, hd 1 ([(wr .i64 (1 + (wr .i64 (v6.tmod 6))))].map cdI.enc))] [mk 1 3 (c2.map cdI.enc), mk 1 3 ([(wr .i64 (1 + (wr .i64 (v6.tmod 6))))].map cdI.enc)] (by kernel_rfl) ?_
        refine RunS.one e_law09_Sizes_ok 0 rfl (op_w (wantedA_none rfl) rfl (by kernel_rfl) (by kernel_rfl) (w_append (a := hd 0 (c2.map cdI.enc)) (b := hd 1 ([(wr .i64 (1 + (wr .i64 (v6.tmod 6))))].map cdI.enc)) (by kernel_rfl) (by kernel_rfl) (append_B (c := cdI) (xs := c2) (vs := [(wr .i64 (1 + (wr .i64 (v6.tmod 6))))]) (k := 1) (bytes := 8) (el := 3) (by kernel_rfl) (by kernel_rfl) (elems_hd (t := 3) (by kernel_rfl)) (List.cons_ne_nil _ _) (by kernel_rfl) hk7))) ?_
        refine RunS.segF (n := 37) e_law09_Sizes_ok 1 [(4, hd 2 ((c2 ++ [(wr .i64 (1 + (wr .i64 (v6.tmod 6))))]).map cdI.enc)), (5, .v (.int .i64 c3)), (7, .v (.int .u8 v6)), (12, .sl 1 (((x0.take (mnI (x0.length : Int) 8).toNat).drop (0 : Int).toNat).map (cdK .u8).enc)), (13, .v (.int .i64 (((x0.take (mnI (x0.length : Int) 8).toNat).drop (0 : Int).toNat).length : Int))), (14, .v (.int .i64 c4))] [none, mk 1 3 ([(wr .i64 (1 + (wr .i64 (v6.tmod 6))))].map cdI.enc), mk 1 3 ((c2 ++ [(wr .i64 (1 + (wr .i64 (v6.tmod 6))))]).map cdI.enc)] (by kernel_rfl) ?_
        exact RunS.done rfl (Wk.s3 [2] ⟨⟨_, rfl, bu_mk⟩, trivial⟩ ⟨lu_hd (b' := 2) (by kernel_rfl) (by kernel_rfl), lv, lv, lv, lv, lv, trivial⟩)
      refine Sem.runS (s1 := ⟨Fr 37 [(4, hd 0 ((c2 ++ [(wr .i64 (1 + (wr .i64 (v6.tmod 6))))]).map cdI.enc)), (5, .v (.int .i64 (wr .i64 (c3 + (wr .i64 (1 + (wr .i64 (v6.tmod 6)))))))), (12, .sl 1 (((x0.take (mnI (x0.length : Int) 8).toNat).drop (0 : Int).toNat).map (cdK .u8).enc)), (13, .v (.int .i64 (((x0.take (mnI (x0.length : Int) 8).toNat).drop (0 : Int).toNat).length : Int))), (14, .v (.int .i64 c4))], [mk 1 3 ((c2 ++ [(wr .i64 (1 + (wr .i64 (v6.tmod 6))))]).map cdI.enc)]⟩) ?_ ?_
      · refine RunS.segF (n := 37) e_law09_Sizes_ok 7 [(4, hd 0 ((c2 ++ [(wr .i64 (1 + (wr .i64 (v6.tmod 6))))]).map cdI.enc)), (5, .v (.int .i64 (wr .i64 (c3 + (wr .i64 (1 + (wr .i64 (v6.tmod 6)))))))), (12, .sl 1 (((x0.take (mnI (x0.length : Int) 8).toNat).drop (0 : Int).toNat).map (cdK .u8).enc)), (13, .v (.int .i64 (((x0.take (mnI (x0.length : Int) 8).toNat).drop (0 : Int).toNat).length : Int))), (14, .v (.int .i64 c4))] [mk 1 3 ((c2 ++ [(wr .i64 (1 + (wr .i64 (v6.tmod 6))))]).map cdI.enc)] (by kernel_rfl) ?_
        exact RunS.done rfl (Wk.s3 [0] ⟨⟨_, rfl, bu_mk⟩, trivial⟩ ⟨lu_hd (b' := 0) (by kernel_rfl) (by kernel_rfl), lv, lv, lv, lv, trivial⟩)
      refine Sem.runS (s1 := ⟨Fr 37 [(4, hd 0 ((c2 ++ [(wr .i64 (1 + (wr .i64 (v6.tmod 6))))]).map cdI.enc)), (5, .v (.int .i64 (wr .i64 (c3 + (wr .i64 (1 + (wr .i64 (v6.tmod 6)))))))), (12, .sl 1 (((x0.take (mnI (x0.length : Int) 8).toNat).drop (0 : Int).toNat).map (cdK .u8).enc)), (13, .v (.int .i64 (((x0.take (mnI (x0.length : Int) 8).toNat).drop (0 : Int).toNat).length : Int))), (14, .v (.int .i64 (wr .i64 (c4 + 1))))], [mk 1 3 ((c2 ++ [(wr .i64 (1 + (wr .i64 (v6.tmod 6))))]).map cdI.enc)]⟩) ?_ ?_
      · refine RunS.segF (n := 37) e_law09_Sizes_ok 2 [(4, hd 0 ((c2 ++ [(wr .i64 (1 + (wr .i64 (v6.tmod 6))))]).map cdI.enc)), (5, .v (.int .i64 (wr .i64 (c3 + (wr .i64 (1 + (wr .i64 (v6.tmod 6)))))))), (12, .sl 1 (((x0.take (mnI (x0.length : Int) 8).toNat).drop (0 : Int).toNat).map (cdK .u8).enc)), (13, .v (.int .i64 (((x0.take (mnI (x0.length : Int) 8).toNat).drop (0 : Int).toNat).length : Int))), (14, .v (.int .i64 (wr .i64 (c4 + 1))))] [mk 1 3 ((c2 ++ [(wr .i64 (1 + (wr .i64 (v6.tmod 6))))]).map cdI.enc)] (by kernel_rfl) ?_
        exact RunS.done rfl (Wk.s3 [0] ⟨⟨_, rfl, bu_mk⟩, trivial⟩ ⟨lu_hd (b' := 0) (by kernel_rfl) (by kernel_rfl), lv, lv, lv, lv, trivial⟩)
      exact SemN.wk (s1 := ⟨Fr 37 [(4, hd 0 ((c2 ++ [(wr .i64 (1 + (wr .i64 (v6.tmod 6))))]).map cdI.enc)), (5, .v (.int .i64 (wr .i64 (c3 + (wr .i64 (1 + (wr .i64 (v6.tmod 6)))))))), (12, .sl 1 (((x0.take (mnI (x0.length : Int) 8).toNat).drop (0 : Int).toNat).map (cdK .u8).enc)), (13, .v (.int .i64 (((x0.take (mnI (x0.length : Int) 8).toNat).drop (0 : Int).toNat).length : Int))), (14, .v (.int .i64 (wr .i64 (c4 + 1))))], [mk 1 3 ((c2 ++ [(wr .i64 (1 + (wr .i64 (v6.tmod 6))))]).map cdI.enc)]⟩) (Wk.s3 [0] ⟨⟨_, rfl, bu_mk⟩, trivial⟩ ⟨lu_hd (b' := 0) (by kernel_rfl) (by kernel_rfl), lv, lv, lv, lv, trivial⟩) (ih (c2 ++ [(wr .i64 (1 + (wr .i64 (v6.tmod 6))))]) (wr .i64 (c3 + (wr .i64 (1 + (wr .i64 (v6.tmod 6)))))) (wr .i64 (c4 + 1)) h)
    · rw [if_f hb5] at h
      refine Sem.exit ?_
      have hq := Option.some.inj h; subst hq
      exact ⟨rfl, (Wk.s3 [0] ⟨⟨_, rfl, bu_mk⟩, trivial⟩ ⟨lu_hd (b' := 0) (by kernel_rfl) (by kernel_rfl), lv, trivial⟩)⟩
set_option maxHeartbeats 4000000 in
set_option maxRecDepth 100000 in
theorem law09_Sizes_sem (x0 : (List Int)) (r : (List Int) × Int) (h : law09_Sizes x0 = some r) : Sem e_law09_Sizes ⟨none, false⟩ cb_law09_Sizes ⟨Fr 37 (pairs0 0 (cs_law09_Sizes.enc (x0, ()))), []⟩ fun e s' => (e = .normal ∨ e = .ret) ∧ ∃ xs, resA e_law09_Sizes.P s'.fr s'.hp Tryd.f35.results.toList = some xs ∧ retA xs = er_law09_Sizes r := by
  unfold law09_Sizes at h
  refine Sem.wkQ (Sem.wk (s1 := ⟨Fr 37 [(0, .sl 1 (x0.map (cdK .u8).enc))], []⟩) Wk.f1 ?_)
  refine Sem.seq ?_
  refine Sem.runS (s1 := ⟨Fr 37 [(0, .sl 1 (x0.map (cdK .u8).enc))], []⟩) ?_ ?_
  · refine RunS.segF (n := 37) e_law09_Sizes_ok 2 [(0, .sl 1 (x0.map (cdK .u8).enc))] [] (by kernel_rfl) ?_
    exact RunS.done rfl Wk.f1
  refine Sem.seq ?_
  refine Sem.runS (s1 := ⟨Fr 37 [(0, .sl 1 (x0.map (cdK .u8).enc)), (4, .e0)], []⟩) ?_ ?_
  · refine RunS.segF (n := 37) e_law09_Sizes_ok 1 [(0, .sl 1 (x0.map (cdK .u8).enc)), (4, .e0)] [] (by kernel_rfl) ?_
    exact RunS.done rfl Wk.f1
  refine Sem.seq ?_
  refine Sem.runS (s1 := ⟨Fr 37 [(0, .sl 1 (x0.map (cdK .u8).enc)), (4, .e0), (5, .v (.int .i64 0))], []⟩) ?_ ?_
  · refine RunS.segF (n := 37) e_law09_Sizes_ok 1 [(0, .sl 1 (x0.map (cdK .u8).enc)), (4, .e0), (5, .v (.int .i64 0))] [] (by kernel_rfl) ?_
    exact RunS.done rfl Wk.f1
  refine Sem.seq ?_
  refine Sem.seq ?_
  by_cases hk1 : (cutOk 0 (mnI (x0.length : Int) 8) x0.length) = true
  case neg => rw [if_neg hk1] at h; cases h
  rw [if_pos hk1] at h
  refine Sem.runS (s1 := ⟨Fr 37 [(4, .e0), (5, .v (.int .i64 0)), (12, .sl 1 (((x0.take (mnI (x0.length : Int) 8).toNat).drop (0 : Int).toNat).map (cdK .u8).enc)), (13, .v (.int .i64 (((x0.take (mnI (x0.length : Int) 8).toNat).drop (0 : Int).toNat).length : Int))), (14, .v (.int .i64 0))], []⟩) ?_ ?_
  · refine RunS.segF (n := 37) e_law09_Sizes_ok 2 [(4, .e0), (5, .v (.int .i64 0)), (8, .sl 1 (x0.map (cdK .u8).enc)), (9, .sl 1 (x0.map (cdK .u8).enc))] [] (by kernel_rfl) ?_
    refine RunS.one e_law09_Sizes_ok 0 rfl (op_q (wantedA_none rfl) rfl (q_len (a := .sl 1 (x0.map (cdK .u8).enc)) (by kernel_rfl) (len_sl (el := 5) (by kernel_rfl)))) ?_
    refine RunS.segF (n := 37) e_law09_Sizes_ok 1 [(4, .e0), (5, .v (.int .i64 0)), (8, .sl 1 (x0.map (cdK .u8).enc)), (11, .v (.int .i64 (mnI (x0.length : Int) 8)))] [] (by kernel_rfl) ?_
    refine RunS.one e_law09_Sizes_ok 0 rfl (op_q (wantedA_none rfl) rfl (q_slice (a := .sl 1 (x0.map (cdK .u8).enc)) (l := none) (u := (some (.v (.int .i64 (mnI (x0.length : Int) 8))))) (m := none) (by kernel_rfl) (by kernel_rfl) (by kernel_rfl) rfl (slice_sl (xs := x0) (e := (cdK .u8).enc) (k := 1) (el := 5) (lo := 0) (hi := (mnI (x0.length : Int) 8)) (by kernel_rfl) (by kernel_rfl) rfl (natB_i (cut_hi hk1)) hk1))) ?_
    refine RunS.one e_law09_Sizes_ok 0 rfl (op_q (wantedA_none rfl) rfl (q_len (a := .sl 1 (((x0.take (mnI (x0.length : Int) 8).toNat).drop (0 : Int).toNat).map (cdK .u8).enc)) (by kernel_rfl) (len_sl (el := 5) (by kernel_rfl)))) ?_
    refine RunS.segF (n := 37) e_law09_Sizes_ok 1 [(4, .e0), (5, .v (.int .i64 0)), (12, .sl 1 (((x0.take (mnI (x0.length : Int) 8).toNat).drop (0 : Int).toNat).map (cdK .u8).enc)), (13, .v (.int .i64 (((x0.take (mnI (x0.length : Int) 8).toNat).drop (0 : Int).toNat).length : Int))), (14, .v (.int .i64 0))] [] (by kernel_rfl) ?_
    exact RunS.done rfl Wk.f1
  refine Sem.block ?_
  obtain ⟨r10, hr10, h⟩ := Option.bind_eq_some_iff.1 h
  refine Sem.loop (n := 100000) ?_
  refine Sem.cutN (SemN.wk (s1 := ⟨Fr 37 [(4, hd 0 ([].map cdI.enc)), (5, .v (.int .i64 0)), (12, .sl 1 (((x0.take (mnI (x0.length : Int) 8).toNat).drop (0 : Int).toNat).map (cdK .u8).enc)), (13, .v (.int .i64 (((x0.take (mnI (x0.length : Int) 8).toNat).drop (0 : Int).toNat).length : Int))), (14, .v (.int .i64 0))], [mk 1 3 ([].map cdI.enc)]⟩) (Wk.trans (s1 := ⟨Fr 37 [(4, hd 0 ([].map cdI.enc)), (5, .v (.int .i64 0)), (12, .sl 1 (((x0.take (mnI (x0.length : Int) 8).toNat).drop (0 : Int).toNat).map (cdK .u8).enc)), (13, .v (.int .i64 (((x0.take (mnI (x0.length : Int) 8).toNat).drop (0 : Int).toNat).length : Int))), (14, .v (.int .i64 0))], [mk 1 3 ([].map cdI.enc)]⟩) Wk.none (Wk.s3 [0] ⟨⟨_, rfl, bu_none⟩, trivial⟩ ⟨lv, lv, lv, lv, lv, trivial⟩)) (law09_Sizes_1_ok x0 _ [] 0 0 _ hr10)) ?_
  refine Sem.seq ?_
  refine Sem.seq ?_
  refine Sem.runS (s1 := ⟨Fr 37 [(4, hd 0 (r10.1.map cdI.enc)), (5, .v (.int .i64 r10.2)), (33, .v (.bool (r10.2 == 0)))], [mk 1 3 (r10.1.map cdI.enc)]⟩) ?_ ?_
  · refine RunS.segF (n := 37) e_law09_Sizes_ok 2 [(4, hd 0 (r10.1.map cdI.enc)), (5, .v (.int .i64 r10.2)), (33, .v (.bool (r10.2 == 0)))] [mk 1 3 (r10.1.map cdI.enc)] (by kernel_rfl) ?_
    exact RunS.done rfl (Wk.s3 [0] ⟨⟨_, rfl, bu_mk⟩, trivial⟩ ⟨lu_hd (b' := 0) (by kernel_rfl) (by kernel_rfl), lv, lv, trivial⟩)
  refine Sem.cond (b := (r10.2 == 0)) (by kernel_rfl) (fun hb11 => ?_) (fun hb11 => ?_)
  · rw [if_pos hb11] at h
    refine Sem.seq ?_
    refine Sem.runS (s1 := ⟨Fr 37 [(2, hd 0 ([1].map cdI.enc)), (3, .v (.int .i64 1))], [mk 1 3 ([1].map cdI.enc)]⟩) ?_ ?_
    · refine RunS.segF (n := 37) e_law09_Sizes_ok 3 [(2, hd 1 ([1].map cdI.enc)), (3, .v (.int .i64 1))] [mk 1 3 (r10.1.map cdI.enc), mk 1 3 ([1].map cdI.enc)] (by kernel_rfl) ?_
      exact RunS.done rfl (Wk.s3 [1] ⟨⟨_, rfl, bu_mk⟩, trivial⟩ ⟨lu_hd (b' := 1) (by kernel_rfl) (by kernel_rfl), lv, trivial⟩)
    refine Sem.ret ?_
    have hq := Option.some.inj h; subst hq
    exact ⟨⟨Fr 37 [(2, .sl 1 ([1].map cdI.enc)), (3, .v (.int .i64 1))], []⟩, (Wk.trans (s1 := ⟨Fr 37 [(2, .sl 1 ([1].map cdI.enc)), (3, .v (.int .i64 1))], [none]⟩) (Wk.frzG 0 (.inl (by kernel_rfl)) ⟨.inl rfl, trivial⟩ ⟨⟨hd 0 ([1].map cdI.enc), (by kernel_rfl), fz_hd (t := 3) (by kernel_rfl) enc_ok⟩, ⟨.v (.int .i64 1), (by kernel_rfl), .inl rfl⟩, trivial⟩) (Wk.s3 [] trivial ⟨lv, lv, trivial⟩)), .inr rfl, [.sl 1 ([1].map cdI.enc), .v (.int .i64 1)], (by kernel_rfl), (by kernel_rfl)⟩
  · rw [if_f hb11] at h
    refine Sem.skip ?_
    refine Sem.seq ?_
    refine Sem.runS (s1 := ⟨Fr 37 [(2, hd 0 (r10.1.map cdI.enc)), (3, .v (.int .i64 r10.2))], [mk 1 3 (r10.1.map cdI.enc)]⟩) ?_ ?_
    · refine RunS.segF (n := 37) e_law09_Sizes_ok 4 [(2, hd 0 (r10.1.map cdI.enc)), (3, .v (.int .i64 r10.2))] [mk 1 3 (r10.1.map cdI.enc)] (by kernel_rfl) ?_
      exact RunS.done rfl (Wk.s3 [0] ⟨⟨_, rfl, bu_mk⟩, trivial⟩ ⟨lu_hd (b' := 0) (by kernel_rfl) (by kernel_rfl), lv, trivial⟩)
    refine Sem.ret ?_
    have hq := Option.some.inj h; subst hq
    exact ⟨⟨Fr 37 [(2, .sl 1 (r10.1.map cdI.enc)), (3, .v (.int .i64 r10.2))], []⟩, (Wk.trans (s1 := ⟨Fr 37 [(2, .sl 1 (r10.1.map cdI.enc)), (3, .v (.int .i64 r10.2))], [none]⟩) (Wk.frzG 0 (.inl (by kernel_rfl)) ⟨.inl rfl, trivial⟩ ⟨⟨hd 0 (r10.1.map cdI.enc), (by kernel_rfl), fz_hd (t := 3) (by kernel_rfl) enc_ok⟩, ⟨.v (.int .i64 r10.2), (by kernel_rfl), .inl rfl⟩, trivial⟩) (Wk.s3 [] trivial ⟨lv, lv, trivial⟩)), .inr rfl, [.sl 1 (r10.1.map cdI.enc), .v (.int .i64 r10.2)], (by kernel_rfl), (by kernel_rfl)⟩
def t_law09_Sizes : List AV → Option AV := told cs_law09_Sizes (fun a => law09_Sizes a.1) er_law09_Sizes
theorem x_law09_Sizes : XOk 35 t_law09_Sizes := by
  refine EnvOk.x (E := e_law09_Sizes) (contract_ok e_law09_Sizes_ok (fn := Tryd.f35) (c := cb_law09_Sizes) ?h1 ?h2 ⟨Tryd.call35⟩ cs_law09_Sizes (fun a => law09_Sizes a.1) er_law09_Sizes (fun a => (by show 1 ≤ 37; decide)) ?h3 ?h4) rfl rfl
  case h1 => kernel_rfl
  case h2 => kernel_rfl
  case h3 => intro b; kernel_rfl
  case h4 => exact fun a b h => law09_Sizes_sem a.1 b h
def flatO : AV → Bool
  | .v _ => true
  | .st _ => true
  | .e0 => true
  | .rf _ _ _ _ => true
  | .pt _ _ _ => true
  | _ => false
/-- Flat, but for names of own blocks. -/
def ownFlat : AV → Bool
  | .ag cs => cs.all flatO
  | .tp cs => cs.all flatO
  | x => flatO x
def sh1 (n : Nat) : AV → AV
  | .rf b lo k m => .rf (n + b) lo k m
  | .pt b i o => .pt (n + b) i o
  | x => x
def shN (n : Nat) : AV → AV
  | .ag cs => .ag (cs.map (sh1 n))
  | .tp cs => .tp (cs.map (sh1 n))
  | x => sh1 n x
def flatH : Hp → Bool
  | [] => true
  | none :: r => flatH r
  | some B :: r => !B.fz && B.es.all isFlat && flatH r
theorem flatH_at : ∀ {h : Hp}, flatH h = true → ∀ (b : Nat) (B : Blk), h[b]? = some (some B) → B.fz = false ∧ B.es.all isFlat = true
  | [], _, b, B, hb => by simp at hb
  | none :: r, h, 0, B, hb => by simp at hb
  | none :: r, h, b + 1, B, hb => flatH_at (h := r) h b B (by simpa using hb)
  | some C :: r, h, 0, B, hb => by
    simp at hb; subst hb
    simp only [flatH, Bool.and_eq_true, Bool.not_eq_true'] at h
    exact h.1
  | some C :: r, h, b + 1, B, hb => by
    simp only [flatH, Bool.and_eq_true] at h
    exact flatH_at h.2 b B (by simpa using hb)
section
variable {w w' : World} {Z Z' : Nat → Prop} {R R' : List RI} {h h' : Hp}
theorem sh1_vr {n : Nat} (hn : R.length = n) {x : AV} {u : Value} (hf : flatO x = true) (hv : VR w Z R' x u) : VR w Z' (R ++ R') (sh1 n x) u := by
  have hg : ∀ {b : Nat} {r : RI}, R'[b]? = some r → (R ++ R')[n + b]? = some r := fun {b r} hr => by
    rw [List.getElem?_append_right (by omega), ← hn, Nat.add_sub_cancel_left]; exact hr
  cases hv with
  | v h => exact .v h
  | st h hn => exact .st h hn
  | e0 => exact .e0
  | rf hr h0 h1 h2 hm => exact .rf (hg hr) h0 h1 h2 hm
  | pt hr => exact .pt (hg hr)
  | _ => simp [flatO] at hf
theorem shN_vr {n : Nat} (hn : R.length = n) {x : AV} {u : Value} (hf : ownFlat x = true) (hv : VR w Z R' x u) : VR w Z' (R ++ R') (shN n x) u := by
  have hl : ∀ {cs : List AV} {us : List Value}, cs.all flatO = true → (∀ (i : Nat) (x : AV) (u : Value), cs[i]? = some x → us[i]? = some u → VR w Z R' x u) → ∀ (i : Nat) (x : AV) (u : Value), (cs.map (sh1 n))[i]? = some x → us[i]? = some u → VR w Z' (R ++ R') x u := fun {cs us} hc hx i x u hi hu => by
    rw [List.getElem?_map] at hi
    obtain ⟨y, hy, rfl⟩ := Option.map_eq_some_iff.1 hi
    exact sh1_vr hn (List.all_eq_true.1 hc y (List.mem_of_getElem? hy)) (hx i y u hy hu)
  cases hv with
  | ag h1 h2 hx => exact .ag (by simpa using h1) h2 (hl hf hx)
  | tp h1 hx => exact .tp (by simpa using h1) (hl hf hx)
  | v h => exact sh1_vr (Z := Z) hn rfl (.v h)
  | st h hn' => exact sh1_vr (Z := Z) hn rfl (.st h hn')
  | e0 => exact sh1_vr (Z := Z) hn rfl .e0
  | rf hr h0 h1 h2 hm => exact sh1_vr (Z := Z) hn rfl (.rf hr h0 h1 h2 hm)
  | pt hr => exact sh1_vr (Z := Z) hn rfl (.pt hr)
  | _ => simp [ownFlat, flatO] at hf
/-- What a call made stands beside what was there. -/
theorem HR.join {Z0 : Nat → Prop} (hh : HR w Z R h) (hz : ∀ c, Z0 c → c < w.heap.size) (st : StepW w Z0 [] [] w' Z' R' h') (hh' : HR w' Z' R' h') (hf : flatH h' = true) : HR w' Z (R ++ R') (h ++ h') ∧ Step w Z R h w' Z (R ++ R') (h ++ h') := by
  have hold : ∀ c, c < w.heap.size → w'.heap[c]? = w.heap[c]? := fun c hc => st.block c hc fun ⟨b, B, r, hb, _⟩ => by simp at hb
  have hr : ∀ (i : Nat) (x : RI), R[i]? = some x → (R ++ R')[i]? = some x := fun i x hx => by
    rw [List.getElem?_append_left (List.getElem?_eq_some_iff.1 hx).1]; exact hx
  have hnew : ∀ c, own R' h' c → w.heap.size ≤ c := fun c hc => (st.own_ c hc).resolve_left fun ⟨b, B, r, hb, _⟩ => by simp at hb
  have hlen := hh.len
  -- where a block lies
  have hat : ∀ (b : Nat) (B : Blk), (h ++ h')[b]? = some (some B) → (b < h.length ∧ h[b]? = some (some B) ∧ (R ++ R')[b]? = R[b]?) ∨ (∃ j, b = h.length + j ∧ h'[j]? = some (some B) ∧ (R ++ R')[b]? = R'[j]?) := fun b B hb => by
    by_cases hlt : b < h.length
    · rw [List.getElem?_append_left hlt] at hb
      exact .inl ⟨hlt, hb, List.getElem?_append_left (by omega)⟩
    · rw [List.getElem?_append_right (by omega)] at hb
      exact .inr ⟨b - h.length, by omega, hb, by rw [List.getElem?_append_right (by omega), hlen]⟩
  have hRb : ∀ (b : Nat) (B : Blk) (r : RI), h[b]? = some (some B) → R[b]? = some r → r.c < w.heap.size := fun b B r h1 h2 => hh.rltL h1 h2
  have hRn : ∀ (j : Nat) (B : Blk) (r : RI), h'[j]? = some (some B) → R'[j]? = some r → w.heap.size ≤ r.c := fun j B r h1 h2 => hnew _ ⟨j, B, r, h1, (flatH_at hf j B h1).1, h2, rfl⟩
  refine ⟨⟨by simp [hh.len, hh'.len], fun b B hB => ?_, fun b b' B B' r r' hB hfz hB' hfz' h1 h2 e => ?_, fun c hc => Nat.lt_of_lt_of_le (hh.zlt c hc) st.size⟩, ⟨st.os, st.tape, st.output, st.size, fun c hc _ => hold c hc, fun c hc => ?_, fun _ h => h, fun _ h => .inl h, hr⟩⟩
  · rcases hat b B hB with ⟨hlt, hb, hRR⟩ | ⟨j, rfl, hb, hRR⟩
    · obtain ⟨r, arr, us, g1, g2, g3, g4, g5, g6, g7, g8, g9, g10⟩ := hh.blk b B hb
      exact ⟨r, arr, us, hRR.trans g1, g2, (hold _ (hRb b B r hb g1)).trans g3, g4, g5, g6, g7, g8, ⟨g9.len, fun i x u hx hu => (g9.at_ i x u hx hu).mono (fun c hc => hold c (hh.zlt c hc)) (fun _ h => h) hr⟩, g10⟩
    · obtain ⟨r, arr, us, g1, g2, g3, g4, g5, g6, g7, g8, g9, g10⟩ := hh'.blk j B hb
      obtain ⟨f1, f2⟩ := flatH_at hf j B hb
      exact ⟨r, arr, us, hRR.trans g1, g2, g3, g4, g5, g6, (fun h => by rw [f1] at h; cases h), (fun _ hz' => by have := hh.zlt _ hz'; have := hRn j B r hb g1; omega), ⟨g9.len, fun i x u hx hu => flat_vr (by have := List.all_eq_true.1 f2 x (List.mem_of_getElem? hx); cases x <;> first | exact this | (simp [isFlat] at this)) (g9.at_ i x u hx hu)⟩, g10⟩
  · rcases hat b B hB with ⟨_, hb, hRR⟩ | ⟨j, rfl, hb, hRR⟩ <;> rcases hat b' B' hB' with ⟨_, hb', hRR'⟩ | ⟨j', rfl, hb', hRR'⟩ <;> rw [hRR] at h1 <;> rw [hRR'] at h2
    · exact hh.inj b b' B B' r r' hb hfz hb' hfz' h1 h2 e
    · have := hRb b B r hb h1; have := hRn j' B' r' hb' h2; omega
    · have := hRb b' B' r' hb' h2; have := hRn j B r hb h1; omega
    · rw [hh'.inj j j' B B' r r' hb hfz hb' hfz' h1 h2 e]
  · obtain ⟨b, B, r, h1, h2, h3, rfl⟩ := hc
    rcases hat b B h1 with ⟨_, hb, hRR⟩ | ⟨j, rfl, hb, hRR⟩ <;> rw [hRR] at h3
    · exact .inl ⟨b, B, r, hb, h2, h3, rfl⟩
    · exact .inr (hRn j B r hb h3)
end
/-- What a call may hand back, and the blocks that come with it. -/
def SOk (f : FuncId) (ys : List AV) (Out : AV → Hp → Prop) : Prop := Callable E0.P f ∧ ∀ w Z us, (∀ c, Z c → c < w.heap.size) → GI E0 w Z → VRs w Z [] ys us → Ret E0.P f us.toArray w fun v w' => ∃ Z' R' x h', Out x h' ∧ HR w' Z' R' h' ∧ VR w' Z' R' x v ∧ StepW w Z [] [] w' Z' R' h'
theorem sok_of_sem {e : Env} (hE : EnvOk e) (hP : e.P = E0.P) (hG : e.G = E0.G) {f : FuncId} {fn : Func} {c : Code} (hf : e.fn f = some fn) (hc : fn.body = some c) (hcall : Callable E0.P f) {ys : List AV} (hle : ys.length ≤ fn.ntmps) {Out : AV → Hp → Prop}
    (sem : Sem e ⟨none, false⟩ c ⟨Fr fn.ntmps (pairs0 0 ys), []⟩ fun x s' => (x = .normal ∨ x = .ret) ∧ ∃ xs, resA e.P s'.fr s'.hp fn.results.toList = some xs ∧ Out (retA xs) s'.hp) : SOk f ys Out := by
  obtain ⟨P, fns, G, X, I⟩ := e
  simp only at hP hG
  subst hP hG
  refine ⟨hcall, fun w Z us hz hg hv => ?_⟩
  have hh : HR w Z [] [] := ⟨rfl, fun b B hB => by simp at hB, fun b b' B B' r r' hB => by simp at hB, hz⟩
  refine Ret.mono (ret_sem hE hf hc hle (Q := fun _ s => ∃ x, s.fr = [some x] ∧ Out x s.hp) (Sem.mono (Sem.wk (Wk.enter hle) sem) fun e s' hs => ?_) hh hv hg) fun v w' hS => ?_
  · obtain ⟨h1, xs, h2, h3⟩ := hs
    exact ⟨h1, xs, h2, _, rfl, h3⟩
  · obtain ⟨Z', R', x, h', ⟨y, hy, hO⟩, k1, k2, st⟩ := hS
    have hy : x = y := by simpa using hy
    subst hy
    exact ⟨Z', R', x, h', hO, k1, k2, st⟩
def viewF (h : Hp) : AV → Option AV
  | .fn f [] [] => some (.fn f [] [])
  | x => view2 h x
def viewsF (h : Hp) : List AV → Option (List AV)
  | [] => some []
  | x :: l => match viewF h x, viewsF h l with
    | some y, some r => some (y :: r)
    | _, _ => none
theorem viewsF_vr {w : World} {Z : Nat → Prop} {R : List RI} {h : Hp} (hh : HR w Z R h) : ∀ {xs ys : List AV} {us : List Value}, VRs w Z R xs us → viewsF h xs = some ys → VRs w (fun c => Z c ∨ own R h c) [] ys us
  | [], ys, us, hv, e => by
    injection e with e; subst e
    have : us = [] := by have := hv.len; simpa using this
    subst this
    exact .nil
  | x :: xs, ys, us, hv, e => by
    obtain ⟨u, us', rfl, hu, hn⟩ := hv.head
    unfold viewsF at e
    split at e
    · next y r h1 h2 =>
      injection e with e; subst e
      refine .cons ?_ (viewsF_vr hh hn h2)
      unfold viewF at h1
      split at h1
      · injection h1 with h1; subst h1
        cases hu with
        | fn hl hl' hx hy =>
          rename_i u1 u2
          have e1 : u1 = [] := by simpa using hl
          have e2 : u2 = [] := by simpa using hl'
          subst e1 e2
          exact .fn (us := []) (vs := []) rfl rfl (fun i x u hx => by simp at hx) (fun i x u hx => by simp at hx)
      · exact view2_vr hh hu h1
    · cases e
section
variable {E : Env} {ops : Array Oper} {rest rest' : List Oper} {K : St → Prop} {n : Nat} {l : List (Nat × AV)} {hp : Hp} {xs ys : List AV} {Out : AV → Hp → Prop}
theorem RunS.callS (hP : E.P = E0.P) (hG : E.G = E0.G) {d : Nat} {f : Operand} {args : Array Operand} {tys : Array TypeId} {ty : TypeId} {pos : String} {af : Array Edge} {g : Option (Nat × Bool)} {fid : FuncId} (hs : SOk fid ys Out) (hr : rest = ⟨some d, .call ⟨.value f, args, tys⟩, ty, pos, af, g⟩ :: rest') (hw : wantedA ops (Fr n l) ⟨some d, .call ⟨.value f, args, tys⟩, ty, pos, af, g⟩ = some true)
    (hf : opA E (Fr n l) f = some (.fn fid [] [])) (ha : opds (opA E (Fr n l)) args.toList = some xs) (hv : viewsF hp xs = some ys) (hfl : ∀ x h', Out x h' → ownFlat x = true ∧ flatH h' = true) (k : ∀ x h', Out x h' → RunS E ops rest' ⟨Fr n ((d, shN hp.length x) :: l), hp ++ h'⟩ K) : RunS E ops rest ⟨Fr n l, hp⟩ K := by
  obtain ⟨P, fns, G, X, I⟩ := E
  simp only at hP hG
  subst hP hG
  subst hr
  intro base Q a w Z R sr q
  have hρ : ∀ o x, opA ⟨E0.P, fns, E0.G, X, I⟩ (Fr n l) o = some x → VR w Z R x (a.eval o) := fun o x e => opA_vr sr o x e
  unfold LwL
  rw [if_pos (wantedA_eq sr hw)]
  have hva : a.eval f = .func (.func fid) ([] : List Value).toArray ([] : List Value).toArray := by
    have := hρ _ _ hf
    generalize a.eval f = vf at this
    cases this with
    | fn hl hl' hx hy =>
      rename_i u1 u2
      have e1 : u1 = [] := by simpa using hl
      have e2 : u2 = [] := by simpa using hl'
      subst e1 e2; rfl
  unfold Lw
  rw [run_call (uf := []) (uc := []) rfl hva rfl hs.1 w]
  simp only [List.nil_append, List.append_nil]
  have hz1 : ∀ c, (Z c ∨ own R hp c) → c < w.heap.size := fun c hc => hc.elim (sr.hh.zlt c) (fun ⟨b, B, r, h1, _, h3, h4⟩ => h4 ▸ sr.hh.rltL h1 h3)
  have hg1 : GI E0 w (fun c => Z c ∨ own R hp c) := fun q y hy => (sr.gl q y hy).mono (fun _ _ => rfl) (fun _ h => .inl h) (fun _ _ h => h)
  refine Ret.mono (hs.2 w _ _ hz1 hg1 (viewsF_vr sr.hh (opds_vr hρ ha) hv)) fun v w' hS => ?_
  obtain ⟨Z', R', x, h', hO, h1, h2, st⟩ := hS
  obtain ⟨f1, f2⟩ := hfl x h' hO
  obtain ⟨j1, j2⟩ := sr.hh.join hz1 st h1 f2
  have hlen : R.length = hp.length := sr.hh.len
  have hx := shN_vr (w := w') (Z' := Z) (R := R) hlen f1 h2
  have sr' := (sr.step j1 j2).put (d := some d) hx
  rw [show putA (⟨Fr n l, hp⟩ : St).fr (some d) (shN hp.length x) = Fr n ((d, shN hp.length x) :: l) from putA_Fr n l d _] at sr'
  exact k x h' hO base Q _ w' Z (R ++ R') sr' fun s' a' w'' Z'' R'' hK sr'' st' => q s' a' w'' Z'' R'' hK sr'' (j2.w.trans st')
end
/-- As Fr1, and in the cells of a struct. -/
def Fr2 (h : Hp) (b : Nat) (x x' : AV) : Prop := Fr1 h b x x' ∨ ∃ cs cs', x = .ag cs ∧ x' = .ag cs' ∧ EsFz h b cs cs'
theorem Fr2.vr {w : World} {Z : Nat → Prop} {R : List RI} {h : Hp} {b : Nat} {x x' : AV} {u : Value} (f : Fr2 h b x x') (hh : HR w Z R h) (hv : VR w Z R x u) : VR w (ZFr Z R h b) R x' u := by
  rcases f with f | ⟨cs, cs', rfl, rfl, f⟩
  · exact f.vr hh hv
  · obtain ⟨k1, k2⟩ := f.at_
    cases hv with
    | ag hl h1 hx =>
      refine .ag (hl.trans k1) h1 fun i y u hy hu => ?_
      obtain ⟨x, q1, q2⟩ := k2 i y hy
      exact q2.vr hh (hx i x u q1 hu)
def EsF2 (h : Hp) (b : Nat) : List AV → List AV → Prop
  | [], [] => True
  | x :: r, x' :: r' => Fr2 h b x x' ∧ EsF2 h b r r'
  | _, _ => False
theorem EsF2.at_ {h : Hp} {b : Nat} : ∀ {es es' : List AV}, EsF2 h b es es' → es.length = es'.length ∧ ∀ (i : Nat) (x' : AV), es'[i]? = some x' → ∃ x, es[i]? = some x ∧ Fr2 h b x x'
  | [], [], _ => ⟨rfl, fun i x' hx => by simp at hx⟩
  | x :: r, x' :: r', ⟨h1, h2⟩ => by
    obtain ⟨k1, k2⟩ := h2.at_
    refine ⟨by simp [k1], fun i y hy => ?_⟩
    cases i with
    | zero => simp at hy; subst hy; exact ⟨x, rfl, h1⟩
    | succ i => simpa using k2 i y (by simpa using hy)
  | [], _ :: _, h => h.elim
  | _ :: _, [], h => h.elim
def EnF2 (h : Hp) (b : Nat) (o o' : Option Blk) : Prop := o' = none ∨ o = o' ∨ ∃ k t es es', o = some ⟨k, t, es, false⟩ ∧ o' = some ⟨k, t, es', false⟩ ∧ EsF2 h b es es'
def HpF2 (h : Hp) (b : Nat) : Hp → Hp → Prop
  | [], [] => True
  | o :: r, o' :: r' => EnF2 h b o o' ∧ HpF2 h b r r'
  | _, _ => False
theorem HpF2.at_ {h : Hp} {b : Nat} : ∀ {q q' : Hp}, HpF2 h b q q' → q.length = q'.length ∧ ∀ (j : Nat) (B' : Blk), q'[j]? = some (some B') → ∃ es, q[j]? = some (some { B' with es := es }) ∧ es.length = B'.es.length ∧ ∀ (i : Nat) (x' : AV), B'.es[i]? = some x' → ∃ x, es[i]? = some x ∧ Fr2 h b x x'
  | [], [], _ => ⟨rfl, fun j B' hx => by simp at hx⟩
  | o :: r, o' :: r', ⟨h1, h2⟩ => by
    obtain ⟨k1, k2⟩ := h2.at_
    refine ⟨by simp [k1], fun j B' hB => ?_⟩
    cases j with
    | zero =>
      simp at hB
      subst hB
      rcases h1 with h1 | h1 | ⟨k, t, es, es', rfl, h1, h3⟩
      · cases h1
      · subst h1
        exact ⟨B'.es, rfl, rfl, fun i x' hx => ⟨x', hx, .inl (.inl rfl)⟩⟩
      · have h1 := Option.some.inj h1
        subst h1
        obtain ⟨q1, q2⟩ := h3.at_
        exact ⟨es, rfl, q1, q2⟩
    | succ j => simpa using k2 j B' (by simpa using hB)
  | [], _ :: _, h => h.elim
  | _ :: _, [], h => h.elim
def LkF2 (h : Hp) (b : Nat) (l : List (Nat × AV)) : List (Nat × AV) → Prop
  | [] => True
  | (t, x') :: r => (∃ x, lk l t = some x ∧ Fr2 h b x x') ∧ LkF2 h b l r
theorem LkF2.at_ {h : Hp} {b : Nat} {l : List (Nat × AV)} : ∀ {l' : List (Nat × AV)}, LkF2 h b l l' → ∀ t x', lk l' t = some x' → ∃ x, lk l t = some x ∧ Fr2 h b x x'
  | [], _, t, x, h => by cases h
  | (k, y) :: r, hk, t, x, h => by
    rw [lk_put] at h
    split at h
    · next e => injection h with h; subst e h; exact hk.1
    · exact hk.2.at_ t x h
/-- Block b is frozen, wherever it is named. -/
theorem Wk.frzG2 {E : Env} {n : Nat} {l l' : List (Nat × AV)} {h h' : Hp} (b : Nat) (hb : h'[b]? = some Option.none ∨ h[b]? = some Option.none) (hh : HpF2 h b h h') (hl : LkF2 h b l l') : Wk E ⟨Fr n l, h⟩ ⟨Fr n l', h'⟩ := by
  intro base w Z R a sr
  obtain ⟨hlen, hblk⟩ := hh.at_
  have hne : ∀ (j : Nat) (B' B r : _), h'[j]? = some (some B') → h[b]? = some (some B) → R[b]? = some r → B.fz = false → B'.fz = false → ∀ r', R[j]? = some r' → r'.c ≠ r.c := by
    intro j B' B r hj hB hr hf hf' r' hr' e
    obtain ⟨es, k1, _⟩ := hblk j B' hj
    have := sr.hh.inj j b _ B r' r k1 hf' hB hf hr' hr e
    subst this
    rcases hb with hb | hb
    · rw [hb] at hj; cases hj
    · rw [hb] at hB; cases hB
  have hown : ∀ c, own R h' c → own R h c := fun c ⟨j, B, r, h1, h2, h3, h4⟩ => by
    obtain ⟨es, k1, _⟩ := hblk j B h1
    exact ⟨j, _, r, k1, h2, h3, h4⟩
  have hzo : ∀ c, ZFr Z R h b c → Z c ∨ own R h c := fun c hc => hc.elim .inl fun ⟨B, r, h1, h2, h3, h4⟩ => .inr ⟨b, B, r, h1, h2, h3, h4.symm⟩
  refine ⟨ZFr Z R h b, R, ⟨⟨sr.hh.len.trans hlen, fun j B' hB' => ?_, fun j j' B B' r r' hB hf hB' hf' h1 h2 e => ?_, fun c hc => ?_⟩, ⟨?_, fun t x hx => ?_⟩, ?_, fun g x hx => (sr.gl g x hx).mono (fun _ _ => rfl) (fun _ h => .inl h) (fun _ _ h => h), sr.bs⟩, ⟨rfl, rfl, rfl, Nat.le_refl _, fun _ _ _ => rfl, fun c hc => .inl (hown c hc), fun _ h => .inl h, fun c hc => (hzo c hc).elim .inl (fun h => .inr (.inl h))⟩⟩
  · obtain ⟨es, k1, k2, k3⟩ := hblk j B' hB'
    obtain ⟨r, arr, us, g1, g2, g3, g4, g5, g6, g7, g8, g9, g10⟩ := sr.hh.blk j _ k1
    refine ⟨r, arr, us, g1, g2, g3, g4, by rw [← k2]; exact g5, g6, fun hf => .inl (g7 hf), fun hf hc => ?_, ⟨by rw [g9.len]; exact k2, fun i x' u hx hu => ?_⟩, g10⟩
    · rcases hc with hc | ⟨B, r2, q1, q2, q3, q4⟩
      · exact g8 hf hc
      · exact hne j B' B r2 hB' q1 q3 q2 hf r g1 q4
    · obtain ⟨x, q1, q2⟩ := k3 i x' hx
      exact q2.vr sr.hh (g9.at_ i x u q1 hu)
  · obtain ⟨es, k1, _⟩ := hblk j B hB
    obtain ⟨es', k1', _⟩ := hblk j' B' hB'
    exact sr.hh.inj j j' _ _ r r' k1 hf k1' hf' h1 h2 e
  · rcases hc with hc | ⟨B, r, q1, q2, q3, rfl⟩
    · exact sr.hh.zlt c hc
    · exact sr.hh.rltL q1 q3
  · rw [Fr_len]; have := sr.fr.1; rw [Fr_len] at this; exact this
  · rw [Fr_get] at hx
    split at hx
    · next ht =>
      injection hx with hx
      obtain ⟨y, h1, h2⟩ := hl.at_ t x hx
      exact h2.vr sr.hh (sr.fr.2 t y (by rw [Fr_get, if_pos ht, h1]))
    · cases hx
  · have : ∀ {D : List Deferred}, Mks base w Z R h D → Mks base w (ZFr Z R h b) R h' D := by
      intro D
      induction D with
      | nil => intro _; trivial
      | cons d D ih => exact fun ⟨⟨q, h1, h2, h3, h4, h5, h6⟩, hD⟩ => ⟨⟨q, h1, h2, h3, fun hc => (hzo q hc).elim h4 h5, fun ho => h5 (hown q ho), h6⟩, ih hD⟩
    exact this sr.mks
/-- Structs of values. -/
def cdG1 {α : Type} (c : Cd α) (hc : ∀ x, noRf (c.enc x) = true) : Cd α where
  enc x := .ag [c.enc x]
  dec a := match a with
    | .ag [y] => c.dec y
    | _ => none
  de x := c.de x
  vr := fun {w Z a x u} h hv => by
    split at h
    · cases hv with
      | ag hl h1 hx =>
        refine .ag (by simpa using hl) h1 fun i y u hy hu => ?_
        match i with
        | 0 => simp at hy; subst hy; exact c.vr h (hx 0 _ u rfl hu)
        | i + 1 => simp at hy
    · cases h
  nr x := by simp [noRf2, hc]
def cdG2 {α β : Type} (c : Cd α) (d : Cd β) (hc : ∀ x, noRf (c.enc x) = true) (hd : ∀ x, noRf (d.enc x) = true) : Cd (α × β) where
  enc x := .ag [c.enc x.1, d.enc x.2]
  dec a := match a with
    | .ag [y, z] => (c.dec y).bind fun p => (d.dec z).map fun q => (p, q)
    | _ => none
  de x := by simp [c.de, d.de]
  vr := fun {w Z a x u} h hv => by
    split at h
    · obtain ⟨p, h1, h⟩ := Option.bind_eq_some_iff.1 h
      obtain ⟨q, h2, rfl⟩ := Option.map_eq_some_iff.1 h
      cases hv with
      | ag hl hh hx =>
        refine .ag (by simpa using hl) hh fun i y u hy hu => ?_
        match i with
        | 0 => simp at hy; subst hy; exact c.vr h1 (hx 0 _ u rfl hu)
        | 1 => simp at hy; subst hy; exact d.vr h2 (hx 1 _ u rfl hu)
        | i + 2 => simp at hy
    · cases h
  nr x := by simp [noRf2, hc, hd]
theorem viewL_2 {h : Hp} {x y : AV} : viewL h [x, y] = match view1 h x, view1 h y with | some a, some b => some [a, b] | _, _ => none := by
  unfold viewL viewL viewL
  cases view1 h x <;> cases view1 h y <;> rfl
def notAg : AV → Bool
  | .ag _ => false
  | _ => true
theorem view_notAg {h : Hp} {x : AV} (n : notAg x = true) : view2 h x = view1 h x := by
  cases x <;> first | rfl | cases n
theorem Sn.ag2 {α β : Type} {h : Hp} {c : Cd α} {d : Cd β} {hc : ∀ x, noRf (c.enc x) = true} {hd : ∀ x, noRf (d.enc x) = true} {x y : AV} {v : α} {w : β} (h1 : Sn h c x v) (h2 : Sn h d y w) (n1 : notAg x = true) (n2 : notAg y = true) : Sn h (cdG2 c d hc hd) (.ag [x, y]) (v, w) := by
  obtain ⟨x', k1, k2⟩ := h1
  obtain ⟨y', q1, q2⟩ := h2
  rw [view_notAg n1] at k1
  rw [view_notAg n2] at q1
  refine ⟨.ag [x', y'], ?_, ?_⟩
  · show (viewL h [x, y]).map AV.ag = _
    rw [viewL_2, k1, q1]; rfl
  · show ((c.dec x').bind fun p => (d.dec y').map fun q => (p, q)) = _
    rw [k2, q2]; rfl
/-- The two parts of a range over a function. -/
def asgOf : Code → Code
  | .rangeFunc _ _ a _ => a
  | c => c
def bdyOf : Code → Code
  | .rangeFunc _ _ _ b => b
  | c => c
/-- As Sem, but the numbers of the blocks are kept, and a range over a function may be under way. -/
def SemY (E : Env) (cx : Cx) (c : Code) (s : St) (Q : Ex → St → Prop) : Prop :=
  ∀ (ro : Option Nat) (base : Nat) (Qm : Exit → Act → World → Prop) (a : Act) (w : World) (Z : Nat → Prop) (R : List RI), (cx.inR = false → ro = none) → SR E base w Z R s a → YI cx w Z R s.hp →
    (∀ e s' a' w' Z' R', Q e s' → SR E base w' Z' R' s' a' → Step w Z R s.hp w' Z' R' s'.hp → Qm (exOf e) a' w') → c.wpIn (Fw ro) 0 E.P Qm a w
def SemYN (E : Env) (cx : Cx) (c : Code) (n : Nat) (s : St) (Q : Ex → St → Prop) : Prop :=
  ∀ (ro : Option Nat) (base : Nat) (Qm : Exit → Act → World → Prop) (a : Act) (w : World) (Z : Nat → Prop) (R : List RI), (cx.inR = false → ro = none) → SR E base w Z R s a → YI cx w Z R s.hp →
    (∀ e s' a' w' Z' R', Q e s' → SR E base w' Z' R' s' a' → Step w Z R s.hp w' Z' R' s'.hp → Qm (exOf e) a' w') → Code.roundsIn (Fw ro) 0 E.P c Qm n a w
def RunY (E : Env) (cx : Cx) (ops : Array Oper) (rest : List Oper) (s : St) (K : St → Prop) : Prop :=
  ∀ (ro : Option Nat) (base : Nat) (Q : Exit → Act → World → Prop) (a : Act) (w : World) (Z : Nat → Prop) (R : List RI), (cx.inR = false → ro = none) → SR E base w Z R s a → YI cx w Z R s.hp →
    (∀ s' a' w' Z' R', K s' → SR E base w' Z' R' s' a' → Step w Z R s.hp w' Z' R' s'.hp → Q .normal a' w') → wpListIn (Fw ro) 0 E.P ops Q rest a w
/-- A state that says less of the same worlds; the numbers are kept. -/
def WkY (E : Env) (s s' : St) : Prop := ∀ base w Z R a, SR E base w Z R s a → ∃ Z' R', SR E base w Z' R' s' a ∧ Step w Z R s.hp w Z' R' s'.hp
section
variable {E : Env} {cx : Cx} {ops : Array Oper} {pre rest rest' : List Oper} {s s1 : St} {K : St → Prop} {n m : Nat} {l l' : List (Nat × AV)} {hp hp' : Hp} {Q Q' : Ex → St → Prop} {id : Nat} {c c' : Code}
theorem SemY.skip (q : Q .normal s) : SemY E cx .skip s Q := fun _ _ _ a w Z R _ h2 _ k => wpIn_skip (k .normal s a w Z R q h2 (Step.refl _ _ _ _))
theorem SemY.exit {id : Nat} (q : Q (.exit id) s) : SemY E cx (.exit id) s Q := fun _ _ _ a w Z R _ h2 _ k => wpIn_exit (k (.exit id) s a w Z R q h2 (Step.refl _ _ _ _))
theorem SemY.ret (q : Q .ret s) : SemY E cx .ret s Q := fun _ _ _ a w Z R _ h2 _ k => wpIn_ret (k .ret s a w Z R q h2 (Step.refl _ _ _ _))
theorem SemY.seq (h : SemY E cx c s fun e s' => match e with | .normal => SemY E cx c' s' Q | e => Q e s') : SemY E cx (.seq c c') s Q := by
  intro ro base Qm a w Z R h1 h2 h3 k
  refine wpIn_seq (h ro base _ a w Z R h1 h2 h3 fun e s' a' w' Z' R' hQ sr st => ?_)
  cases e with
  | normal => exact hQ ro base Qm a' w' Z' R' h1 sr (h3.step h2.hh st) fun e2 s2 a2 w2 Z2 R2 hQ2 sr2 st2 => k e2 s2 a2 w2 Z2 R2 hQ2 sr2 (st.trans st2)
  | exit id => exact k _ s' a' w' Z' R' hQ sr st
  | ret => exact k _ s' a' w' Z' R' hQ sr st
theorem SemY.cond_true {x : Operand} (hx : opA E s.fr x = some (.v (.bool true))) (h : SemY E cx c s Q) : SemY E cx (.cond x c c') s Q :=
  fun ro base Qm a w Z R h1 h2 h3 k => wpIn_cond_true (opA_vr h2 _ _ hx).v_inv (h ro base Qm a w Z R h1 h2 h3 k)
theorem SemY.cond_false {x : Operand} (hx : opA E s.fr x = some (.v (.bool false))) (h : SemY E cx c' s Q) : SemY E cx (.cond x c c') s Q :=
  fun ro base Qm a w Z R h1 h2 h3 k => wpIn_cond_false (opA_vr h2 _ _ hx).v_inv (h ro base Qm a w Z R h1 h2 h3 k)
theorem SemY.cond {x : Operand} {b : Bool} (hx : opA E s.fr x = some (.v (.bool b))) (h : b = true → SemY E cx c s Q) (h' : b = false → SemY E cx c' s Q) : SemY E cx (.cond x c c') s Q := by
  cases b with
  | true => exact .cond_true hx (h rfl)
  | false => exact .cond_false hx (h' rfl)
theorem SemY.block {id : Nat} (h : SemY E cx c s fun e s' => match e with | .exit id' => if id' = id then Q .normal s' else Q (.exit id') s' | e => Q e s') : SemY E cx (.block id c) s Q := by
  intro ro base Qm a w Z R h1 h2 h3 k
  refine wpIn_block (h ro base _ a w Z R h1 h2 h3 fun e s' a' w' Z' R' hQ sr st => ?_)
  cases e with
  | normal => exact k _ s' a' w' Z' R' hQ sr st
  | exit id' =>
    show if id' = id then Qm .normal a' w' else Qm (.exit id') a' w'
    simp only at hQ
    split at hQ
    · next h => rw [if_pos h]; exact k .normal s' a' w' Z' R' hQ sr st
    · next h => rw [if_neg h]; exact k _ s' a' w' Z' R' hQ sr st
  | ret => exact k _ s' a' w' Z' R' hQ sr st
theorem SemY.loop (h : SemYN E cx c n s Q) : SemY E cx (.loop c) s Q :=
  fun ro base Qm a w Z R h1 h2 h3 k => wpIn_loop_rounds n (h ro base Qm a w Z R h1 h2 h3 k)
theorem SemYN.succ (h : SemY E cx c s fun e s' => match e with | .normal => SemYN E cx c n s' Q | e => Q e s') : SemYN E cx c (n + 1) s Q := by
  intro ro base Qm a w Z R h1 h2 h3 k
  show c.wpIn (Fw ro) 0 E.P (Exit.then (Code.roundsIn (Fw ro) 0 E.P c Qm n) Qm) a w
  refine h ro base _ a w Z R h1 h2 h3 fun e s' a' w' Z' R' hQ sr st => ?_
  cases e with
  | normal => exact hQ ro base Qm a' w' Z' R' h1 sr (h3.step h2.hh st) fun e2 s2 a2 w2 Z2 R2 hQ2 sr2 st2 => k e2 s2 a2 w2 Z2 R2 hQ2 sr2 (st.trans st2)
  | exit id => exact k _ s' a' w' Z' R' hQ sr st
  | ret => exact k _ s' a' w' Z' R' hQ sr st
theorem SemY.mono (h : SemY E cx c s Q) (hq : ∀ e s, Q e s → Q' e s) : SemY E cx c s Q' :=
  fun ro base Qm a w Z R h1 h2 h3 k => h ro base Qm a w Z R h1 h2 h3 fun e s' a' w' Z' R' hQ => k e s' a' w' Z' R' (hq e s' hQ)
theorem WkY.refl : WkY E s s := fun _ _ Z R _ h => ⟨Z, R, h, Step.refl _ _ _ _⟩
theorem WkY.trans {s2 : St} (h : WkY E s s1) (h' : WkY E s1 s2) : WkY E s s2 := fun base w Z R a k =>
  let ⟨Z1, R1, k1, st1⟩ := h base w Z R a k
  let ⟨Z2, R2, k2, st2⟩ := h' base w Z1 R1 a k1
  ⟨Z2, R2, k2, st1.trans st2⟩
theorem WkY.fr (h : lkAll l l' = xsAll l') : WkY E ⟨Fr n l, hp⟩ ⟨Fr n l', hp⟩ := fun base w Z R a sr => by
  refine ⟨Z, R, ⟨sr.hh, ⟨?_, fun t x hx => sr.fr.2 t x ?_⟩, sr.mks, sr.gl, sr.bs⟩, Step.refl _ _ _ _⟩
  · rw [Fr_len]; have := sr.fr.1; rw [Fr_len] at this; exact this
  · rw [Fr_get] at hx ⊢
    split at hx
    · next ht => rw [if_pos ht]; injection hx with hx; rw [lk_mem h hx]
    · cases hx
theorem SemY.wk (hw : WkY E s s1) (h : SemY E cx c s1 Q) : SemY E cx c s Q := by
  intro ro base Qm a w Z R h1 h2 h3 k
  obtain ⟨Z', R', h2', st⟩ := hw base w Z R a h2
  exact h ro base Qm a w Z' R' h1 h2' (h3.step h2.hh st) fun e s' a' w' Z2 R2 hQ sr st2 => k e s' a' w' Z2 R2 hQ sr (st.trans st2)
theorem SemYN.wk (hw : WkY E s s1) (h : SemYN E cx c n s1 Q) : SemYN E cx c n s Q := by
  intro ro base Qm a w Z R h1 h2 h3 k
  obtain ⟨Z', R', h2', st⟩ := hw base w Z R a h2
  exact h ro base Qm a w Z' R' h1 h2' (h3.step h2.hh st) fun e s' a' w' Z2 R2 hQ sr st2 => k e s' a' w' Z2 R2 hQ sr (st.trans st2)
theorem SemY.fr (h : lkAll l l' = xsAll l') (k : SemY E cx c ⟨Fr n l', hp⟩ Q) : SemY E cx c ⟨Fr n l, hp⟩ Q := SemY.wk (WkY.fr h) k
theorem SemY.cutN {e0 : Ex} {s2 : St} (h : SemYN E cx c n s fun e s' => e = e0 ∧ WkY E s' s2) (q : Q e0 s2) : SemYN E cx c n s Q := by
  intro ro base Qm a w Z R h1 h2 h3 k
  refine h ro base Qm a w Z R h1 h2 h3 fun e s' a' w' Z' R' hQ sr st => ?_
  obtain ⟨rfl, hw⟩ := hQ
  obtain ⟨Z2, R2, sr2, st2⟩ := hw base w' Z' R' a' sr
  exact k e s2 a' w' Z2 R2 q sr2 (st.trans st2)
theorem RunY.done (hr : rest = []) (k : K s) : RunY E cx ops rest s K := by
  subst hr
  exact fun ro base Q a w Z R _ sr _ q => q s a w Z R k sr (Step.refl _ _ _ _)
theorem RunY.app (hE : EnvOk E) (n : Nat) : ∀ {pre : List Oper} {s : St}, opsA E (evC E n) ⟨none, false⟩ ops pre s = some s1 → RunY E cx ops rest s1 K → RunY E cx ops (pre ++ rest) s K
  | [], s, e, k => by injection e with e; subst e; exact k
  | o :: pre, s, e, kk => by
    intro ro base Q a w Z R hro sr hy q
    show wpListIn (Fw ro) 0 E.P ops Q (o :: (pre ++ rest)) a w
    unfold opsA at e
    unfold wpListIn
    split at e
    · cases e
    · next hw =>
      rw [if_neg (by rw [wantedA_eq sr hw]; simp)]
      exact ⟨fun _ _ => trivial, RunY.app hE n e kk ro base Q _ w Z R hro (sr.put undef_vr) hy q⟩
    · next hw =>
      rw [if_pos (wantedA_eq sr hw)]
      split at e
      · next s2 hs2 => exact lw_wpIn ro (op1_lw hE (code_sound hE n).1 hs2 sr fun a' w' Z' R' sr' st => RunY.app hE n e kk ro base Q a' w' Z' R' hro sr' (hy.step sr.hh st) fun s'' a'' w'' Z'' R'' hK sr'' st' => q s'' a'' w'' Z'' R'' hK sr'' (st.trans st'))
      · cases e
theorem RunY.seg (hE : EnvOk E) (m : Nat) (h : opsA E (evC E 0) ⟨none, false⟩ ops (rest.take m) s = some s1) (k : RunY E cx ops (rest.drop m) s1 K) : RunY E cx ops rest s K := by
  have := RunY.app hE 0 h k
  rwa [List.take_append_drop] at this
theorem RunY.segF (hE : EnvOk E) (m : Nat) {s : St} (l : List (Nat × AV)) (hp : Hp) (h : segB (opsA E (evC E 0) ⟨none, false⟩ ops (rest.take m) s) l = some (n, xs2 l, hp)) (k : RunY E cx ops (rest.drop m) ⟨Fr n l, hp⟩ K) : RunY E cx ops rest s K := by
  obtain ⟨fr, h1, h2, h3⟩ := segB_inv h
  refine RunY.seg hE m h1 ?_
  exact fun ro base Q a w Z R hro sr hy q => k ro base Q a w Z R hro (sr.forget h2 h3) hy q
theorem RunY.one (hE : EnvOk E) (n : Nat) {o : Oper} (hr : rest = o :: rest') (h : opsA E (evC E n) ⟨none, false⟩ ops [o] s = some s1) (k : RunY E cx ops rest' s1 K) : RunY E cx ops rest s K := by
  subst hr
  exact RunY.app hE n (pre := [o]) h k
theorem RunY.store (hE : EnvOk E) {t : TypeId} {p q : Operand} {y z : AV} {ty : TypeId} {pos : String} {af : Array Edge} {g : Option (Nat × Bool)} (hr : rest = ⟨none, .store t p q, ty, pos, af, g⟩ :: rest') (hw : wantedA ops (Fr n l) ⟨none, .store t p q, ty, pos, af, g⟩ = some true) (hp1 : opA E (Fr n l) p = some y) (hq1 : opA E (Fr n l) q = some z) (h : evStore E.P hp t y z = some hp') (k : RunY E cx ops rest' ⟨Fr n l, hp'⟩ K) : RunY E cx ops rest ⟨Fr n l, hp⟩ K :=
  RunY.one hE 0 hr (op_st hw hp1 hq1 h) k
theorem SemY.region (h : RunY E cx ops ops.toList s fun s' => Q .normal s') : SemY E cx (.region id ops false) s Q := by
  intro ro base Qm a w Z R h1 h2 h3 kk
  exact wpIn_region_list (h ro base _ a w Z R h1 h2 h3 fun s' a' w' Z' R' hq sr st => kk .normal s' a' w' Z' R' hq sr st)
end
def pz : List Nat → List AV → List (Nat × AV) → List (Nat × AV)
  | p :: ps, x :: xs, l => pz ps xs ((p, x) :: l)
  | _, _, l => l
theorem setPs_Fr {n : Nat} : ∀ {ps : List Nat} {xs : List AV} {l : List (Nat × AV)}, setPs (Fr n l) ps xs = Fr n (pz ps xs l)
  | [], _, _ => by unfold setPs pz; rfl
  | _ :: _, [], _ => by unfold setPs pz; rfl
  | p :: ps, x :: xs, l => by
    unfold setPs pz
    rw [show (Fr n l).set p (some x) = Fr n ((p, x) :: l) from putA_Fr n l p x]
    exact setPs_Fr
theorem mark_eq {p q : Nat} (h : mark p = mark q) : p = q := by
  unfold mark at h
  injection h with h
  injection h
theorem mks_new {base : Nat} {w : World} {Z : Nat → Prop} {R : List RI} {h : Hp} {r : Nat} (hr : w.heap.size ≤ r) : ∀ {D : List Deferred}, Mks base w Z R h D → mark r ∈ D → False
  | [], _, hm => by cases hm
  | d :: D, ⟨⟨q, _, q2, q3, _⟩, hD⟩, hm => by
    rcases List.mem_cons.1 hm with hm | hm
    · rw [← hm] at q2
      have := mark_eq q2
      have := heapLt q3
      omega
    · exact mks_new hr hD hm
/-- A function, entered: what its body does. -/
theorem ret_semY {e : Env} (he : EnvOk e) {y : Option YC} {f : FuncId} {fn : Func} {c : Code} (hfn : e.fn f = some fn) (hc : fn.body = some c) {args : List AV} (hle : args.length ≤ fn.ntmps) {hp : Hp} {Out : AV → Hp → Prop}
    (sem : SemY e ⟨y, false⟩ c ⟨Fr fn.ntmps (pairs0 0 args), hp⟩ fun x s' => (x = .normal ∨ x = .ret) ∧ ∃ ys, resA e.P s'.fr s'.hp fn.results.toList = some ys ∧ Out (retA ys) s'.hp)
    {w : World} {Z : Nat → Prop} {R : List RI} {us : List Value} (hh : HR w Z R hp) (hv : VRs w Z R args us) (hg : GI e w Z) (hy : YI ⟨y, false⟩ w Z R hp) :
    Ret e.P f us.toArray w fun v w' => ∃ Z' R' x h', Out x h' ∧ HR w' Z' R' h' ∧ VR w' Z' R' x v ∧ Step w Z R hp w' Z' R' h' := by
  obtain ⟨hff, hcall, _⟩ := he.fn f fn hfn
  refine callsIn_wide.1 (callsIn_of_wp_marks (F := Fw none) (n := 0) hff hc trivial ?_)
  have hul : us.length = args.length := hv.len
  have hsr : SR e w.heap.size w Z R ⟨Fr fn.ntmps (pairs0 0 args), hp⟩ { tmps := us.toArray ++ Array.replicate (fn.ntmps - us.toArray.size) undef, defers := [] } := by
    refine ⟨hh, ⟨by rw [Fr_len]; simp; omega, fun t x hx => ?_⟩, trivial, hg, Nat.le_refl _⟩
    rw [Fr_get] at hx
    split at hx
    · injection hx with hx
      obtain ⟨j, h1, h2⟩ := lk_pairs0 _ 0 t x hx
      rw [Nat.zero_add] at h1
      subst h1
      obtain ⟨u, hu1, hu2⟩ := hv.get h2
      have e0 : us.toArray ++ Array.replicate (fn.ntmps - us.toArray.size) undef = (us ++ List.replicate (fn.ntmps - us.length) undef).toArray := by simp
      rw [e0, Array.getD_eq_getD_getElem?, List.getElem?_toArray, List.getElem?_append_left (List.getElem?_eq_some_iff.1 hu1).1, hu1]
      exact hu2
    · cases hx
  refine sem none w.heap.size _ _ w Z R (fun _ => rfl) hsr hy fun x s' a' w' Z' R' hQ sr' st => ?_
  obtain ⟨hex, ys, hys, hO⟩ := hQ
  have hl := leaves_mks (E := e) (w := w') (a := a') (fn := fn) (S := fun v w'' => ∃ Z' R' x h', Out x h' ∧ HR w'' Z' R' h' ∧ VR w'' Z' R' x v ∧ Step w Z R hp w'' Z' R' h') hys (fun w'' u g1 g2 g3 g4 g5 g6 g7 => ⟨Z', R', _, _, hO, g6, g7, ⟨g2.trans st.os, g3.trans st.tape, g4.trans st.output, by rw [g1]; exact st.size, fun c hc hn => (g5 c hc).trans (st.block c hc hn), st.own_, st.z, st.z', st.r⟩⟩) (D := a'.defers) (w1 := w') sr' rfl rfl rfl rfl (fun _ _ => rfl)
  rcases hex with rfl | rfl
  · exact hl
  · exact hl
section
variable {E : Env} {cx : Cx} {ops : Array Oper} {rest rest' : List Oper} {K : St → Prop} {n : Nat} {l : List (Nat × AV)} {hp : Hp}
/-- A call whose body is gone through. -/
theorem RunS.inlY (hP : E.P = E0.P) (hG : E.G = E0.G) {e : Env} (he : EnvOk e) (heP : e.P = E0.P) (heG : e.G = E0.G) {d : Nat} {f : Operand} {args : Array Operand} {tys : Array TypeId} {ty : TypeId} {pos : String} {af : Array Edge} {g : Option (Nat × Bool)} {fid : FuncId} {caps xs : List AV} {fn : Func} {c : Code} {Out : AV → Hp → Prop} (hr : rest = ⟨some d, .call ⟨.value f, args, tys⟩, ty, pos, af, g⟩ :: rest') (hw : wantedA ops (Fr n l) ⟨some d, .call ⟨.value f, args, tys⟩, ty, pos, af, g⟩ = some true)
    (hf : opA E (Fr n l) f = some (.fn fid [] caps)) (ha : opds (opA E (Fr n l)) args.toList = some xs) (hfn : e.fn fid = some fn) (hc : fn.body = some c) (hle : (xs ++ caps).length ≤ fn.ntmps)
    (sem : SemY e ⟨none, false⟩ c ⟨Fr fn.ntmps (pairs0 0 (xs ++ caps)), hp⟩ fun x s' => (x = .normal ∨ x = .ret) ∧ ∃ ys, resA e.P s'.fr s'.hp fn.results.toList = some ys ∧ Out (retA ys) s'.hp)
    (k : ∀ x h', Out x h' → RunS E ops rest' ⟨Fr n ((d, x) :: l), h'⟩ K) : RunS E ops rest ⟨Fr n l, hp⟩ K := by
  obtain ⟨P, fns, G, X, I⟩ := E
  obtain ⟨P', fns', G', X', I'⟩ := e
  simp only at hP hG heP heG
  subst hP hG heP heG
  subst hr
  intro base Q a w Z R sr q
  have hρ : ∀ o x, opA ⟨E0.P, fns, E0.G, X, I⟩ (Fr n l) o = some x → VR w Z R x (a.eval o) := fun o x e => opA_vr sr o x e
  unfold LwL
  rw [if_pos (wantedA_eq sr hw)]
  have hvf := hρ _ _ hf
  generalize hvq : a.eval f = vf at hvf
  cases hvf with
  | fn hl hl' hx hy =>
    rename_i u1 u2
    have e1 : u1 = [] := by simpa using hl
    subst e1
    obtain ⟨hff, hcall, _⟩ := he.fn fid fn hfn
    unfold Lw
    rw [run_call (uf := []) (uc := u2) rfl hvq rfl hcall w]
    simp only [List.nil_append]
    have hargs : VRs w Z R (xs ++ caps) (args.toList.map a.eval ++ u2) := (opds_vr hρ ha).append ⟨hl', hy⟩
    refine Ret.mono (ret_semY he hfn hc hle sem sr.hh hargs sr.gl (fun y hy => by cases hy)) fun v w' hS => ?_
    obtain ⟨Z', R', x, h', hO, h1, h2, st⟩ := hS
    have sr' := (sr.step h1 st).put (d := some d) h2
    rw [show putA (⟨Fr n l, hp⟩ : St).fr (some d) x = Fr n ((d, x) :: l) from putA_Fr n l d _] at sr'
    exact k x h' hO base Q _ w' Z' R' sr' fun s' a' w'' Z'' R'' hK sr'' st' => q s' a' w'' Z'' R'' hK sr'' (st.w.trans st')
/-- Only the first m blocks are kept. -/
theorem HR.trunc {w0 w : World} {Z0 Z : Nat → Prop} {R0 R : List RI} {h0 h h' : Hp} {m : Nat} (st : Step w0 Z0 R0 h0 w Z R h) (hl0 : R0.length = h0.length) (hm0 : h0.length ≤ m) (hh : HR w Z R h) (hm : (Nat.ble m h.length && Nat.ble h.length 1000000000) = true) (hk : HpUp (List.range m) h (List.range m) h') :
    HR w Z (newR (List.range m) R) h' ∧ Step w0 Z0 R0 h0 w Z (newR (List.range m) R) h' := by
  simp only [Bool.and_eq_true] at hm
  have hm1 := Nat.le_of_ble_eq_true hm.1
  have hb := Nat.le_of_ble_eq_true hm.2
  have hlen := hh.len
  obtain ⟨k1, k2⟩ := hk.at_
  rw [List.length_range] at k1
  have hι : ∀ i ∈ List.range m, i < R.length := fun i hi => by have := List.mem_range.1 hi; omega
  have hbR : R.length ≤ 1000000000 := by omega
  have hget : ∀ j, j < m → (newR (List.range m) R)[j]? = R[j]? := fun j hj => by
    unfold newR
    rw [List.getElem?_map, List.getElem?_range hj, Option.map_some, List.getD_eq_getElem?_getD, List.getElem?_eq_getElem (by omega : j < R.length)]; rfl
  have hrange : ∀ (j b : Nat), (List.range m)[j]? = some b → j < m ∧ b = j := fun j b hj => by
    obtain ⟨h1, h2⟩ := List.getElem?_eq_some_iff.1 hj
    rw [List.length_range] at h1
    rw [List.getElem_range] at h2
    exact ⟨h1, h2.symm⟩
  have hown : ∀ c, own (newR (List.range m) R) h' c → own R h c := fun c ⟨j, B, r, h1, h2, h3, h4⟩ => by
    obtain ⟨b, q1, q2, _⟩ := k2 j B h1
    obtain ⟨hj, rfl⟩ := hrange _ _ q1
    rw [hget b hj] at h3
    exact ⟨b, _, r, q2, h2, h3, h4⟩
  refine ⟨⟨by rw [k1]; simp [newR], fun j B hB => ?_, fun j j' B B' r r' hB hf hB' hf' h1 h2 e => ?_, hh.zlt⟩, ⟨st.os, st.tape, st.output, st.size, st.block, fun c hc => st.own_ c (hown c hc), st.z, st.z', fun i x hi => ?_⟩⟩
  · obtain ⟨b, q1, q2, q3⟩ := k2 j B hB
    obtain ⟨hj, rfl⟩ := hrange _ _ q1
    obtain ⟨r, arr, us, g1, g2, g3, g4, g5, g6, g7, g8, g9, g10⟩ := hh.blk b _ q2
    refine ⟨r, arr, us, (hget b hj).trans g1, g2, g3, g4, by simpa using g5, g6, g7, g8, ⟨by have := g9.len; simpa using this, fun i x u hx hu => ?_⟩, g10⟩
    exact up_vr hι hbR (q3 x (List.mem_of_getElem? hx)) (g9.at_ i _ u (by simp [hx]) hu)
  · obtain ⟨b, q1, q2, _⟩ := k2 j B hB
    obtain ⟨b', q1', q2', _⟩ := k2 j' B' hB'
    obtain ⟨hj, rfl⟩ := hrange _ _ q1
    obtain ⟨hj', rfl⟩ := hrange _ _ q1'
    rw [hget b hj] at h1
    rw [hget b' hj'] at h2
    exact hh.inj b b' _ _ r r' q2 hf q2' hf' h1 h2 e
  · have := (List.getElem?_eq_some_iff.1 hi).1
    rw [hget i (by omega)]
    exact st.r i x hi
/-- .. in the midst of such a body: what it made is dropped. -/
theorem RunY.inl (hP : E.P = E0.P) (hG : E.G = E0.G) {e : Env} (he : EnvOk e) (heP : e.P = E0.P) (heG : e.G = E0.G) {d : Nat} {f : Operand} {args : Array Operand} {tys : Array TypeId} {ty : TypeId} {pos : String} {af : Array Edge} {g : Option (Nat × Bool)} {fid : FuncId} {caps xs : List AV} {fn : Func} {c : Code} {Out : AV → Hp → Prop} (m : Nat) (hm0 : hp.length = m) (hr : rest = ⟨some d, .call ⟨.value f, args, tys⟩, ty, pos, af, g⟩ :: rest') (hw : wantedA ops (Fr n l) ⟨some d, .call ⟨.value f, args, tys⟩, ty, pos, af, g⟩ = some true)
    (hf : opA E (Fr n l) f = some (.fn fid [] caps)) (ha : opds (opA E (Fr n l)) args.toList = some xs) (hfn : e.fn fid = some fn) (hc : fn.body = some c) (hle : (xs ++ caps).length ≤ fn.ntmps)
    (sem : SemY e ⟨none, false⟩ c ⟨Fr fn.ntmps (pairs0 0 (xs ++ caps)), hp⟩ fun x s' => (x = .normal ∨ x = .ret) ∧ ∃ ys, resA e.P s'.fr s'.hp fn.results.toList = some ys ∧ Out (retA ys) s'.hp)
    (k : ∀ x h', Out x h' → ∃ h'', (Nat.ble m h'.length && Nat.ble h'.length 1000000000) = true ∧ HpUp (List.range m) h' (List.range m) h'' ∧ (up (List.range m) x = x ∧ flat2 x = true) ∧ RunY E cx ops rest' ⟨Fr n ((d, x) :: l), h''⟩ K) : RunY E cx ops rest ⟨Fr n l, hp⟩ K := by
  obtain ⟨P, fns, G, X, I⟩ := E
  obtain ⟨P', fns', G', X', I'⟩ := e
  simp only at hP hG heP heG
  subst hP hG heP heG
  subst hr
  intro ro base Q a w Z R hro sr hy q
  have hρ : ∀ o x, opA ⟨E0.P, fns, E0.G, X, I⟩ (Fr n l) o = some x → VR w Z R x (a.eval o) := fun o x e => opA_vr sr o x e
  unfold wpListIn
  rw [if_pos (wantedA_eq sr hw)]
  refine lw_wpIn ro ?_
  have hvf := hρ _ _ hf
  generalize hvq : a.eval f = vf at hvf
  cases hvf with
  | fn hl hl' hx hy' =>
    rename_i u1 u2
    have e1 : u1 = [] := by simpa using hl
    subst e1
    obtain ⟨hff, hcall, _⟩ := he.fn fid fn hfn
    unfold Lw
    rw [run_call (uf := []) (uc := u2) rfl hvq rfl hcall w]
    simp only [List.nil_append]
    have hargs : VRs w Z R (xs ++ caps) (args.toList.map a.eval ++ u2) := (opds_vr hρ ha).append ⟨hl', hy'⟩
    refine Ret.mono (ret_semY he hfn hc hle sem sr.hh hargs sr.gl (fun y hy => by cases hy)) fun v w' hS => ?_
    obtain ⟨Z', R', x, h', hO, h1, h2, st⟩ := hS
    obtain ⟨h'', hm, hk, ⟨hx1, hx2⟩, kk⟩ := k x h' hO
    have hl1 : R.length = hp.length := sr.hh.len
    obtain ⟨j1, j2⟩ := HR.trunc st hl1 (Nat.le_of_eq hm0) h1 hm hk
    simp only [Bool.and_eq_true] at hm
    have hm1 := Nat.le_of_ble_eq_true hm.1
    have hm2 := Nat.le_of_ble_eq_true hm.2
    have hl2 := h1.len
    have hvx : VR w' Z' (newR (List.range m) R') x v := up_vr (fun i hi => by have := List.mem_range.1 hi; omega) (by omega) hx2 (by rw [hx1]; exact h2)
    have sr' := (sr.step j1 j2).put (d := some d) hvx
    rw [show putA (⟨Fr n l, hp⟩ : St).fr (some d) x = Fr n ((d, x) :: l) from putA_Fr n l d _] at sr'
    exact kk ro base Q _ w' Z' _ hro sr' (hy.step sr.hh j2) fun s' a' w'' Z'' R'' hK sr'' st' => q s' a' w'' Z'' R'' hK sr'' (j2.trans st')
/-- A yield: a round of the range that is under way. -/
theorem RunY.yield (hP : E.P = E0.P) (hG : E.G = E0.G) {eb : Env} (hbP : eb.P = E0.P) (hbG : eb.G = E0.G) {y : YC} (hcx : cx.y = some y) (hin : cx.inR = false) {d : Nat} {f : Operand} {args : Array Operand} {tys : Array TypeId} {ty : TypeId} {pos : String} {af : Array Edge} {g : Option (Nat × Bool)} {xs : List AV} {K1 : Hp → Prop} (hr : rest = ⟨some d, .call ⟨.value f, args, tys⟩, ty, pos, af, g⟩ :: rest') (hw : wantedA ops (Fr n l) ⟨some d, .call ⟨.value f, args, tys⟩, ty, pos, af, g⟩ = some true)
    (hf : opA E (Fr n l) f = some (.yl y.b)) (ha : opds (opA E (Fr n l)) args.toList = some xs) (hlen : xs.length = y.ps.length) {n0 : Nat} {l0 : List (Nat × AV)} (hfr : y.fr = Fr n0 l0)
    (hb : SemY eb ⟨none, true⟩ y.assign ⟨Fr n0 (pz y.ps xs l0), hp⟩ fun e s1 => e = .normal ∧ SemY eb ⟨none, true⟩ y.body s1 fun e s2 => e = .normal ∧ K1 s2.hp)
    (k : ∀ h', K1 h' → RunY E cx ops rest' ⟨Fr n ((d, .v (.bool true)) :: l), h'⟩ K) : RunY E cx ops rest ⟨Fr n l, hp⟩ K := by
  obtain ⟨P, fns, G, X, I⟩ := E
  obtain ⟨P', fns', G', X', I'⟩ := eb
  simp only at hP hG hbP hbG
  subst hP hG hbP hbG
  subst hr
  intro ro base Q a w Z R hro sr hy q
  have hρ : ∀ o x, opA ⟨E0.P, fns, E0.G, X, I⟩ (Fr n l) o = some x → VR w Z R x (a.eval o) := fun o x e => opA_vr sr o x e
  unfold wpListIn
  rw [if_pos (wantedA_eq sr hw)]
  have hro' := hro hin
  subst hro'
  have hvs := opds_vr hρ ha
  have hvf := hρ _ _ hf
  have hyy := hy
  obtain ⟨d1, d2, r, L, g1, g2, g3, g4, g5, g6, g7, g8, g9, g10⟩ := hy y hcx
  generalize hvq : a.eval f = vf at hvf
  cases hvf with
  | yl hr =>
    rename_i r'
    rw [g1] at hr
    injection hr with hr
    subst hr
    generalize hus : args.toList.map a.eval = us at hvs
    have hargs : args.map a.eval = us.toArray := by
      apply Array.ext'
      rw [← hus, Array.toList_map]
    have hps : us.toArray.size = L.params.size := by rw [g7]; simp [hvs.len, hlen]
    have hrun : (execOp a.eval (⟨some d, .call ⟨.value f, args, tys⟩, ty, pos, af, g⟩ : Oper)).run E0.P w = .ok (.round r.c L.fn ((L.params.zip us.toArray).foldl (fun tmps (t, a) => tmps.setIfInBounds t a) L.tmps) L.assign L.body) w := by
      simp only [execOp, resolve, hvq, hargs, Deferred.ofValue]
      rw [Sem.run_bind, Sem.run_pure]
      simp only [Result.andThen, invoke, Array.empty_append]
      exact run_yield g4 hps
    refine ⟨fun _ _ => trivial, ?_⟩
    rw [show (Fw none).round = none from rfl, semAt_run none hrun (by simp), Oper.uponIn_round]
    refine ⟨(fun h => by cases h), ?_⟩
    refine roundIn_of_wpIn (F := Fw none) trivial ?_
    rw [g8, g9]
    have hfr0 : FrR w Z R (setPs y.fr y.ps xs) ((L.params.zip us.toArray).foldl (fun tmps (t, a) => tmps.setIfInBounds t a) L.tmps) := by
      have := setPs_fr (ps := y.ps) g10 hvs
      have e0 : (L.params.zip us.toArray).foldl (fun tmps (t, a) => tmps.setIfInBounds t a) L.tmps = (y.ps.zip us).foldl (fun tmps (x : Tmp × Value) => tmps.setIfInBounds x.1 x.2) L.tmps := by
        rw [g7, ← Array.foldl_toList]; simp
      rw [e0]; exact this
    rw [hfr, setPs_Fr] at hfr0
    have hlt := heapLt g4
    refine hb (some r.c) 0 _ { tmps := _, defers := [] } w Z R (fun h => by cases h) ⟨sr.hh, hfr0, trivial, sr.gl, Nat.zero_le _⟩ (fun y hy => by cases hy) fun e1 s1 a1 w1 Z1 R1 hQ1 sr1 st1 => ?_
    obtain ⟨rfl, hb2⟩ := hQ1
    obtain ⟨p1, p2, p3⟩ := st1.other g4 g2 g3
    refine ⟨_, run_beginRound p1 g5, ?_⟩
    have hlt1 := heapLt p1
    have hb1 : ∀ c, (Z1 c ∨ own R1 s1.hp c) → (w1.putObj r.c (.loop { L with state := .busy })).heap[c]? = w1.heap[c]? := fun c hc => put_ne (fun e => by subst e; exact hc.elim p2 p3)
    have hh2 := sr1.hh.off (put_size _ _ _) hb1
    refine hb2 (some r.c) 0 _ a1 _ Z1 R1 (fun h => by cases h) ⟨hh2, sr1.fr.off fun c hc => hb1 c (.inl hc), ?_, sr1.gl.off fun c hc => hb1 c (.inl hc), Nat.zero_le _⟩ (fun y hy => by cases hy) fun e2 s2 a2 w3 Z3 R3 hQ2 sr3 st3 => ?_
    · exact sr1.mks.put (fun d hd e => by
        have : ∀ {D : List Deferred}, Mks 0 w1 Z1 R1 s1.hp D → mark r.c ∈ D → False := by
          intro D
          induction D with
          | nil => intro _ h; cases h
          | cons d D ih =>
            rintro ⟨⟨q, _, q2, q3, _⟩, hD⟩ hm
            rcases List.mem_cons.1 hm with hm | hm
            · rw [← hm] at q2
              have : r.c = q := by unfold mark at q2; injection q2 with q2; injection q2
              subst this
              rw [p1] at q3
              cases q3
            · exact ih hD hm
        subst e
        exact this sr1.mks hd)
    · obtain ⟨rfl, hK1⟩ := hQ2
      have hput : (w1.putObj r.c (.loop { L with state := .busy })).heap[r.c]? = some (.loop { L with state := .busy }) := World.putObj_heap_same hlt1
      obtain ⟨q1, q2, q3⟩ := st3.other hput p2 p3
      have hlt3 := heapLt q1
      refine ⟨_, _, run_endRound none q1, ?_⟩
      have hb3 : ∀ c, (Z3 c ∨ own R3 s2.hp c) → (w3.putObj r.c (.loop { { L with state := .busy } with state := if (none : Option Code).isNone then .ready else .done, pending := none })).heap[c]? = w3.heap[c]? := fun c hc => put_ne (fun e => by subst e; exact hc.elim q2 q3)
      have hL : ({ { L with state := .busy } with state := if (none : Option Code).isNone then .ready else .done, pending := none } : Loop) = L := by
        cases L; simp at g5 g6; subst g5 g6; rfl
      have stF : Step w Z R hp (w3.putObj r.c (.loop { { L with state := .busy } with state := if (none : Option Code).isNone then .ready else .done, pending := none })) Z3 R3 s2.hp := by
        refine ⟨?_, ?_, ?_, ?_, fun c hc hn => ?_, fun c hc => ?_, fun c hc => st3.z c (st1.z c hc), fun c hc => ?_, fun i q hq => st3.r i q (st1.r i q hq)⟩
        · exact st3.os.trans st1.os
        · exact st3.tape.trans st1.tape
        · exact st3.output.trans st1.output
        · rw [put_size]
          have := st3.size
          rw [put_size] at this
          exact Nat.le_trans st1.size this
        · by_cases hcr : c = r.c
          · subst hcr
            rw [World.putObj_heap_same hlt3, hL]
            exact g4.symm
          · rw [put_ne hcr]
            have hc1 : c < w1.heap.size := Nat.lt_of_lt_of_le hc st1.size
            have hno : ¬ own R1 s1.hp c := fun ho => by
              rcases st1.own_ c ho with h1 | h1
              · exact hn h1
              · omega
            rw [st3.block c (by rw [put_size]; exact hc1) hno, put_ne hcr]
            exact st1.block c hc hn
        · rcases st3.own_ c hc with h1 | h1
          · exact st1.own_ c h1
          · rw [put_size] at h1; exact .inr (Nat.le_trans st1.size h1)
        · rcases st3.z' c hc with h1 | h1 | h1
          · exact st1.z' c h1
          · rcases st1.own_ c h1 with h2 | h2
            · exact .inr (.inl h2)
            · exact .inr (.inr h2)
          · rw [put_size] at h1; exact .inr (.inr (Nat.le_trans st1.size h1))
      have sr' := (sr.step (sr3.hh.off (put_size _ _ _) hb3) stF).put (d := some d) (x := .v (.bool true)) (u := .bool true) (.v rfl)
      rw [show putA (⟨Fr n l, hp⟩ : St).fr (some d) (.v (.bool true)) = Fr n ((d, .v (.bool true)) :: l) from putA_Fr n l d _] at sr'
      exact k s2.hp hK1 none base Q _ _ Z3 R3 hro sr' (hyy.step sr.hh stF) fun s' a' w'' Z'' R'' hK sr'' st' => q s' a' w'' Z'' R'' hK sr'' (stF.trans st')
/-- A range over a function. -/
theorem Sem.range {cx : Cx} {Q : Ex → St → Prop} (hP : E.P = E0.P) (hG : E.G = E0.G) {e : Env} (he : EnvOk e) (heP : e.P = E0.P) (heG : e.G = E0.G) (hin : cx.inR = false) {f : Operand} {ps : Array Tmp} {assign body : Code} {gid : FuncId} {caps : List AV} {fn : Func} {c : Code} {Out : AV → Hp → Prop} (hd1 : drawOk assign = true) (hd2 : drawOk body = true)
    (hf : opA E (Fr n l) f = some (.fn gid [] caps)) (hfn : e.fn gid = some fn) (hc : fn.body = some c) (hle : (.yl hp.length :: caps).length ≤ fn.ntmps)
    (sem : SemY e ⟨some ⟨hp.length, Fr n l, ps.toList, assign, body⟩, false⟩ c ⟨Fr fn.ntmps (pairs0 0 (.yl hp.length :: caps)), hp ++ [none]⟩ fun x s' => (x = .normal ∨ x = .ret) ∧ ∃ ys, resA e.P s'.fr s'.hp fn.results.toList = some ys ∧ Out (retA ys) s'.hp)
    (k : ∀ x h', Out x h' → Q .normal ⟨Fr n l, h'⟩) : Sem E cx (.rangeFunc f ps assign body) ⟨Fr n l, hp⟩ Q := by
  obtain ⟨P, fns, G, X, I⟩ := E
  obtain ⟨P', fns', G', X', I'⟩ := e
  simp only at hP hG heP heG
  subst hP hG heP heG
  intro ro base Qm a w Z R h1 sr h3 kk
  have hro := h1 hin
  subst hro
  have hvf : VR w Z R (.fn gid [] caps) (a.eval f) := opA_vr sr _ _ hf
  generalize hva : a.eval f = va at hvf
  cases hvf with
  | fn hl hl' hx hy' =>
    rename_i uf uc
    have e1 : uf = [] := by simpa using hl
    subst e1
    refine wpIn_rangeFunc fun fnn _ => ?_
    obtain ⟨hff, hcall, _⟩ := he.fn gid fn hfn
    obtain ⟨L, hL⟩ : ∃ L : Loop, L = { state := .ready, pending := none, fn := fnn, tmps := a.tmps, params := ps, assign, body, defers := w.heap.size } := ⟨_, rfl⟩
    obtain ⟨w1, hw1⟩ : ∃ w1, w1 = (w.alloc (.deferred (some []))).alloc (.loop L) := ⟨_, rfl⟩
    have hsz : w1.heap.size = w.heap.size + 2 := by rw [hw1]; simp
    have hg1 : w.grownBy w1 none := by
      rw [hw1]
      refine ⟨rfl, rfl, rfl, by simp; omega, fun c hc _ => ?_⟩
      rw [heap_alloc_old _ _ (by simp; omega), heap_alloc_old _ _ hc]
    have hmk : w1.heap[w.heap.size]? = some (.deferred (some [])) := by
      rw [hw1, heap_alloc_old _ _ (by simp)]; exact heap_alloc_new w _
    have hlp : w1.heap[w.heap.size + 1]? = some (.loop L) := by
      rw [hw1]
      have := heap_alloc_new (w.alloc (.deferred (some []))) (.loop L)
      simpa using this
    have hh1 := sr.hh.keep (w' := w1) hg1.size (fun c hc => hg1.block c hc (by simp))
    have st0 : Step w Z R hp w1 Z R hp := ⟨hg1.os, hg1.tape, hg1.output, hg1.size, fun c hc _ => hg1.block c hc (by simp), fun _ h => .inl h, fun _ h => h, fun _ h => .inl h, fun _ _ h => h⟩
    obtain ⟨hh2, st2, hlast, hown2⟩ := hh1.dead (r := ⟨w.heap.size + 1, 0, 0⟩)
    have st02 := st0.trans st2
    have hnz : ∀ c, w.heap.size ≤ c → ¬ Z c := fun c hc hz => by have := sr.hh.zlt c hz; omega
    have hno : ∀ c, w.heap.size ≤ c → ¬ own (R ++ [⟨w.heap.size + 1, 0, 0⟩]) (hp ++ [none]) c := fun c hc ho => by
      obtain ⟨b, B, r, q1, q2, q3, rfl⟩ := hown2 c ho
      have := sr.hh.rltL q1 q3; omega
    have hvs : VRs w1 Z (R ++ [⟨w.heap.size + 1, 0, 0⟩]) (.yl hp.length :: caps) (Value.func (.yield (w.heap.size + 1)) #[] #[] :: uc) :=
      .cons (.yl hlast) (VRs.step ⟨hl', hy'⟩ sr.hh st02)
    have hy : YI ⟨some ⟨hp.length, Fr n l, ps.toList, assign, body⟩, false⟩ w1 Z (R ++ [⟨w.heap.size + 1, 0, 0⟩]) (hp ++ [none]) := by
      intro y hy
      injection hy with hy
      subst hy
      exact ⟨hd1, hd2, _, L, hlast, hnz _ (by simp), hno _ (by simp), hlp, by rw [hL], by rw [hL], by rw [hL], by rw [hL], by rw [hL], by rw [hL]; exact sr.fr.step sr.hh st02⟩
    have hr := ret_semY he hfn hc hle sem hh2 hvs (sr.gl.step sr.hh st02) hy
    refine ⟨w.heap.size + 1, [mark w.heap.size], w1, { target := .fn (.func gid) uc.toArray, args := ([] : List Value).toArray ++ #[Value.func (.yield (w.heap.size + 1)) #[] #[]] }, w1, gid, (Value.func (.yield (w.heap.size + 1)) #[] #[] :: uc).toArray, w1, ?_, ?_, fun _ _ => trivial, ?_, (fun h => by cases h), ?_⟩
    · rw [hw1, hL]; exact run_enterLoop_outer fnn a.tmps ps assign body
    · simp [resolve, hva, Deferred.ofValue]
      rfl
    · simp [invoke, hcall.run]
    · refine callsIn_fw none _ (Ret.calls hr fun v w3 hS => ?_)
      obtain ⟨Z3, R3, x3, h', hO, hh3, _, st3⟩ := hS
      obtain ⟨p1, p2, p3⟩ := st3.other hlp (hnz _ (by simp)) (hno _ (by simp))
      obtain ⟨m1, m2, m3⟩ := st3.other hmk (hnz _ (Nat.le_refl _)) (hno _ (Nat.le_refl _))
      refine ⟨_, _, run_endLoop p1 (by rw [hL]; simp), ?_⟩
      have hpend : L.pending = none := by rw [hL]
      split
      rotate_left
      · next hc => rw [hpend] at hc; cases hc
      have hb : ∀ c, (Z3 c ∨ own R3 h' c) → (w3.putObj (w.heap.size + 1) (.loop { L with state := .exhausted })).heap[c]? = w3.heap[c]? := fun c hc => put_ne (fun e => by subst e; exact hc.elim p2 p3)
      have st03 := st02.trans st3
      refine kk .normal ⟨Fr n l, h'⟩ _ _ Z3 R3 (k x3 h' hO) ⟨hh3.off (put_size _ _ _) hb, (sr.fr.step sr.hh st03).off fun c hc => hb c (.inl hc), ?_, (sr.gl.step sr.hh st03).off fun c hc => hb c (.inl hc), ?_⟩ (Step.w ⟨st03.os, st03.tape, st03.output, ?_, fun c hc hn => ?_, st03.own_, st03.z, st03.z', st03.r⟩)
      · refine ⟨⟨w.heap.size, sr.bs, rfl, (put_ne (by omega)).trans m1, m2, m3, fun d hd e => ?_⟩, ?_⟩
        · subst e
          exact mks_new (Nat.le_refl _) sr.mks hd
        · refine Mks.put (sr.mks.step st03) fun d hd e => ?_
          subst e
          exact mks_new (Nat.le_succ _) sr.mks hd
      · rw [put_size]; exact Nat.le_trans sr.bs st03.size
      · rw [put_size]; exact st03.size
      · rw [put_ne (by omega)]; exact st03.block c hc hn
end
def RunDY (E : Env) (ops : Array Oper) (n0 k : Nat) (rest : List Oper) (s : St) (K : St → Prop) : Prop :=
  ∀ (base : Nat) (Q : Act → World → Prop) (w0 : World) (Z : Nat → Prop) (R0 : List RI) (h0 : Hp) (a : Act) (w : World) (R : List RI), HR w0 Z R0 h0 → n0 = h0.length → tailAt ops ≤ ops.size → SR E base w Z R s a → w0.grownBy w none → Step w0 Z R0 h0 w Z R s.hp → (∀ (b : Nat) (B : Option Blk), h0[b]? = some B → s.hp[b]? = some B) → tailAt ops = tailGo rest k → k + rest.length = ops.size → (∀ j, rest[j]? = ops[k + j]?) →
    (∀ s' a' w' Z' R', K s' → SR E base w' Z' R' s' a' → Step w0 Z R0 h0 w' Z' R' s'.hp → Q a' w') → wpMix E.P ops (fun w' => w0.grownBy w' none) (fun k => !((ops[k]?).any fun o => isQ o.op) || Nat.ble (tailAt ops) k) (tailAt ops) Q k rest a w
section
variable {E : Env} {cx : Cx} {ops : Array Oper} {pre rest rest' : List Oper} {s s1 : St} {K : St → Prop} {n n0 k : Nat} {l : List (Nat × AV)} {hp hp' : Hp} {Q : Ex → St → Prop} {id : Nat}
theorem RunDY.app (hE : EnvOk E) : ∀ {pre : List Oper} {s : St} {k : Nat}, (pre.all fun o => !isW o.op) = true → opsD E (evC E 0) ⟨none, false⟩ ops n0 pre s = some s1 → RunDY E ops n0 (k + pre.length) rest s1 K → RunDY E ops n0 k (pre ++ rest) s K
  | [], s, k, _, e, kk => by injection e with e; subst e; exact kk
  | o :: pre, s, k, hp, e, kk => by
    intro base Q w0 Z R0 h0 a w R hh0 hn0 hT sr hgr st hpre hTk hlen hops q
    simp only [List.all_cons, Bool.and_eq_true, Bool.not_eq_true'] at hp
    obtain ⟨hW, hp⟩ := hp
    have hok : ops[k]? = some o := by have := hops 0; simpa using this.symm
    have hops' : ∀ j, (pre ++ rest)[j]? = ops[k + 1 + j]? := fun j => by have := hops (j + 1); simpa [Nat.add_assoc, Nat.add_comm 1 j] using this
    have hk1 : k + 1 + pre.length = k + (o :: pre).length := by simp; omega
    have kk' : RunDY E ops n0 (k + 1 + pre.length) rest s1 K := by rw [hk1]; exact kk
    have hlen' : k + 1 + (pre ++ rest).length = ops.size := by simp at hlen ⊢; omega
    have hTk' : tailAt ops = tailGo (pre ++ rest) (k + 1) := by
      rw [hTk]
      show tailGo (o :: (pre ++ rest)) k = _
      conv => lhs; unfold tailGo; rw [if_neg (by rw [hW]; simp)]
    have hkT : ¬ tailAt ops ≤ k := by have := tailGo_ge (pre ++ rest) (k + 1); omega
    have hble : Nat.ble (tailAt ops) k = false := by
      cases hb : Nat.ble (tailAt ops) k with
      | false => rfl
      | true => exact absurd (Nat.le_of_ble_eq_true hb) hkT
    show wpMix E.P ops _ _ _ Q k (o :: (pre ++ rest)) a w
    refine ⟨fun _ => hgr, ?_⟩
    unfold opsD at e
    rw [if_neg (by rw [hW]; simp)] at e
    split at e
    · cases e
    · next hw =>
      rw [if_neg (by rw [wantedA_eq sr hw]; simp)]
      exact RunDY.app hE hp e kk' base Q w0 Z R0 h0 _ w R hh0 hn0 hT (sr.put undef_vr) hgr st hpre hTk' hlen' hops' q
    · next hw =>
      rw [if_pos (wantedA_eq sr hw)]
      have hρ : ∀ o x, opA E s.fr o = some x → VR w Z R x (a.eval o) := fun o x e => opA_vr sr o x e
      split at e
      · next x hx =>
        split at e
        · next hld =>
          have hq := isQ_of hx
          rw [if_neg (by simp [hok, hq, hble])]
          obtain ⟨u, hu, hrun⟩ := evOpQ_sound sr.hh hρ hx
          have hquiet : ∃ u, VR w Z R x u ∧ QuietAt E.P (fun w' => w0.grownBy w' none) o u a := by
            cases hl : isLd o.op with
            | false => exact ⟨u, hu, fun w' hw1 => hrun w' fun h => by rw [hl] at h; cases h⟩
            | true => exact load_quiet hh0 sr hgr st hpre hl (by rw [← hn0]; exact hld) hx
          obtain ⟨u, hu, hquiet⟩ := hquiet
          exact ⟨u, hquiet, RunDY.app hE hp e kk' base Q w0 Z R0 h0 _ w R hh0 hn0 hT (sr.put hu) hgr st hpre hTk' hlen' hops' q⟩
        · cases e
      · split at e
        · next x h' hx =>
          have hq := isQ_of_N hx
          rw [if_pos (by simp [hok, hq])]
          obtain ⟨u, w', R', h1, h2, h3, h4, h5⟩ := evOpN_sound hρ sr.hh hx
          exact lw_val h1 (RunDY.app hE hp e kk' base Q w0 Z R0 h0 _ w' R' hh0 hn0 hT ((sr.step h2 h4).put h3) (pu_trans hgr h5) (st.trans h4) (fun b B hb => evOpN_pre hx (hpre b B hb)) hTk' hlen' hops' q)
        · split at e
          · next f args tys ho =>
            split at e
            · next fv xs hf hxs =>
              split at e
              · next r hr =>
                obtain ⟨x, h'⟩ := r
                have hq : isQ o.op = false := by rw [ho]; rfl
                rw [if_pos (by simp [hok, hq])]
                obtain ⟨g, hva, hcl, hret⟩ := callP_sound hE (code_sound hE 0).1 (hρ _ _ hf) (opds_vr hρ hxs) sr.hh sr.gl hr
                unfold Lw
                rw [run_call (uf := []) (uc := []) ho hva rfl hcl w]
                simp only [List.nil_append, List.append_nil]
                refine Ret.mono hret fun v w' hS => ?_
                obtain ⟨hg1, R', k1, k2, k3⟩ := hS
                exact RunDY.app hE hp e kk' base Q w0 Z R0 h0 _ w' R' hh0 hn0 hT ((sr.step k1 k3).put k2) (pu_trans hgr hg1) (st.trans k3) (fun b B hb => callP_pre hr (hpre b B hb)) hTk' hlen' hops' q
              · cases e
            · cases e
          · cases e
theorem RunDY.seg (hE : EnvOk E) (m : Nat) (hw : ((rest.take m).all fun o => !isW o.op) = true) (h : opsD E (evC E 0) ⟨none, false⟩ ops n0 (rest.take m) s = some s1) (kk : RunDY E ops n0 (k + (rest.take m).length) (rest.drop m) s1 K) : RunDY E ops n0 k rest s K := by
  have := RunDY.app (k := k) hE hw h kk
  rwa [List.take_append_drop] at this
theorem RunDY.one (hE : EnvOk E) {o : Oper} (hr : rest = o :: rest') (hW : isW o.op = false) (h : opsD E (evC E 0) ⟨none, false⟩ ops n0 [o] s = some s1) (kk : RunDY E ops n0 (k + 1) rest' s1 K) : RunDY E ops n0 k rest s K := by
  subst hr
  exact RunDY.app (k := k) hE (pre := [o]) (by simp [hW]) h kk
theorem RunDY.segF (hE : EnvOk E) (m : Nat) {s : St} (l : List (Nat × AV)) (hp : Hp) (hw : ((rest.take m).all fun o => !isW o.op) = true) (h : segB (opsD E (evC E 0) ⟨none, false⟩ ops n0 (rest.take m) s) l = some (n, xs2 l, hp)) (kk : RunDY E ops n0 (k + (rest.take m).length) (rest.drop m) ⟨Fr n l, hp⟩ K) : RunDY E ops n0 k rest s K := by
  obtain ⟨fr, h1, h2, h3⟩ := segB_inv h
  refine RunDY.seg hE m hw h1 ?_
  exact fun base Q w0 Z R0 h0 a w R a1 a2 a3 sr a5 a6 a7 a8 a9 a10 q => kk base Q w0 Z R0 h0 a w R a1 a2 a3 (sr.forget h2 h3) a5 a6 a7 a8 a9 a10 q
/-- Is a slice nil? If it is, it is empty. -/
theorem SemY.runDY (hE : EnvOk E) (hd : drawOk (.region id ops true) = true) (h : RunDY E ops s.hp.length 0 ops.toList s fun s' => Q .normal s') : SemY E cx (.region id ops true) s Q := by
  intro ro base Qm a w Z R _ sr _ kk
  simp only [drawOk, Bool.not_true, Bool.false_or, Bool.and_eq_true] at hd
  have hgd : w.grownBy w.drew none := ch_drew w
  have hops : ops.toList.toArray = ops := by simp
  have st0 : Step w Z R s.hp w.drew Z R s.hp := ⟨rfl, rfl, rfl, Nat.le_refl _, fun c hc _ => rfl, fun _ h => .inl h, fun _ h => h, fun _ h => .inl h, fun _ _ h => h⟩
  have hsrd : SR E base w.drew Z R s a := ⟨sr.hh.keep (Nat.le_refl _) (fun c hc => hgd.block c hc (by simp)), sr.fr.off (fun c hc => rfl), sr.mks.step st0, sr.gl.off (fun c hc => rfl), sr.bs⟩
  have hm := h base (fun a w => Qm .normal a w) w.drew Z R s.hp a w.drew R hsrd.hh rfl (by have := tailGo_le ops.toList 0; unfold tailAt; simpa using this) hsrd (pu_refl _) (Step.refl _ _ _ _) (fun b B hb => hb) rfl (by simp) (fun j => by simp) (fun s' a' w' Z' R' hq sr' st => kk .normal s' a' w' Z' R' hq sr' (st0.trans st))
  have := wp_region_mix (P := E.P) (id := id) (l := ops.toList) (a := a) (w := w) (C := fun w' => w.drew.grownBy w' none) (loud := fun k => !((ops[k]?).any fun o => isQ o.op) || Nat.ble (tailAt ops) k) (T := tailAt ops) (Q' := Qm) ro 0 hE.mixed (by rw [hops]; exact hd.1) (by rw [hops]; exact hd.2) (by rw [hops]; exact hm)
  rw [hops] at this
  exact this
end
def flatF : AV → Bool
  | .v _ => true
  | .st _ => true
  | .e0 => true
  | .sl _ _ => true
  | .pe _ _ => true
  | .rf _ _ _ _ => true
  | .pt _ _ _ => true
  | _ => false
def ownFz : AV → Bool
  | .ag cs => cs.all flatF
  | .tp cs => cs.all flatF
  | x => flatF x
def noRfH : Hp → Bool
  | [] => true
  | none :: r => noRfH r
  | some B :: r => !B.fz && B.es.all noRf && noRfH r
theorem noRfH_at : ∀ {h : Hp}, noRfH h = true → ∀ (b : Nat) (B : Blk), h[b]? = some (some B) → B.fz = false ∧ B.es.all noRf = true
  | [], _, b, B, hb => by simp at hb
  | none :: r, h, 0, B, hb => by simp at hb
  | none :: r, h, b + 1, B, hb => noRfH_at (h := r) h b B (by simpa using hb)
  | some C :: r, h, 0, B, hb => by
    simp at hb; subst hb
    simp only [noRfH, Bool.and_eq_true, Bool.not_eq_true'] at h
    exact h.1
  | some C :: r, h, b + 1, B, hb => by
    simp only [noRfH, Bool.and_eq_true] at h
    exact noRfH_at h.2 b B (by simpa using hb)
section
variable {w w' : World} {Z Z' : Nat → Prop} {R R' : List RI} {h h' : Hp}
theorem noRf_any {R2 : List RI} {x : AV} {u : Value} (hf : noRf x = true) (hv : VR w Z R x u) : VR w Z R2 x u := by
  cases hv with
  | v h => exact .v h
  | st h hn => exact .st h hn
  | e0 => exact .e0
  | sl hn hl hc hm ha hx => exact .sl hn hl hc hm ha hx
  | pe hs h3 h1 hu hx => exact .pe hs h3 h1 hu hx
  | _ => simp [noRf] at hf
theorem sh1_vrZ {n : Nat} (hn : R.length = n) {x : AV} {u : Value} (hf : flatF x = true) (hv : VR w Z R' x u) : VR w Z (R ++ R') (sh1 n x) u := by
  have hg : ∀ {b : Nat} {r : RI}, R'[b]? = some r → (R ++ R')[n + b]? = some r := fun {b r} hr => by
    rw [List.getElem?_append_right (by omega), ← hn, Nat.add_sub_cancel_left]; exact hr
  cases hv with
  | v h => exact .v h
  | st h hn => exact .st h hn
  | e0 => exact .e0
  | sl hn hl hc hm ha hx => exact .sl hn hl hc hm ha hx
  | pe hs h3 h1 hu hx => exact .pe hs h3 h1 hu hx
  | rf hr h0 h1 h2 hm => exact .rf (hg hr) h0 h1 h2 hm
  | pt hr => exact .pt (hg hr)
  | _ => simp [flatF] at hf
theorem shN_vrZ {n : Nat} (hn : R.length = n) {x : AV} {u : Value} (hf : ownFz x = true) (hv : VR w Z R' x u) : VR w Z (R ++ R') (shN n x) u := by
  have hl : ∀ {cs : List AV} {us : List Value}, cs.all flatF = true → (∀ (i : Nat) (x : AV) (u : Value), cs[i]? = some x → us[i]? = some u → VR w Z R' x u) → ∀ (i : Nat) (x : AV) (u : Value), (cs.map (sh1 n))[i]? = some x → us[i]? = some u → VR w Z (R ++ R') x u := fun {cs us} hc hx i x u hi hu => by
    rw [List.getElem?_map] at hi
    obtain ⟨y, hy, rfl⟩ := Option.map_eq_some_iff.1 hi
    exact sh1_vrZ hn (List.all_eq_true.1 hc y (List.mem_of_getElem? hy)) (hx i y u hy hu)
  cases hv with
  | ag h1 h2 hx => exact .ag (by simpa using h1) h2 (hl hf hx)
  | tp h1 hx => exact .tp (by simpa using h1) (hl hf hx)
  | v h => exact sh1_vrZ hn rfl (.v h)
  | st h hn' => exact sh1_vrZ hn rfl (.st h hn')
  | e0 => exact sh1_vrZ hn rfl .e0
  | sl q1 q2 q3 q4 q5 q6 => exact sh1_vrZ hn rfl (.sl q1 q2 q3 q4 q5 q6)
  | pe q1 q2 q3 q4 q5 => exact sh1_vrZ hn rfl (.pe q1 q2 q3 q4 q5)
  | rf hr h0 h1 h2 hm => exact sh1_vrZ hn rfl (.rf hr h0 h1 h2 hm)
  | pt hr => exact sh1_vrZ hn rfl (.pt hr)
  | _ => simp [ownFz, flatF] at hf
/-- What a call made stands beside what was there; what it froze is frozen. -/
theorem HR.joinZ (hh : HR w Z R h) (st : StepW w Z [] [] w' Z' R' h') (hh' : HR w' Z' R' h') (hf : noRfH h' = true) : HR w' Z' (R ++ R') (h ++ h') ∧ Step w Z R h w' Z' (R ++ R') (h ++ h') := by
  have hold : ∀ c, c < w.heap.size → w'.heap[c]? = w.heap[c]? := fun c hc => st.block c hc fun ⟨b, B, r, hb, _⟩ => by simp at hb
  have hr : ∀ (i : Nat) (x : RI), R[i]? = some x → (R ++ R')[i]? = some x := fun i x hx => by
    rw [List.getElem?_append_left (List.getElem?_eq_some_iff.1 hx).1]; exact hx
  have hnew : ∀ c, own R' h' c → w.heap.size ≤ c := fun c hc => (st.own_ c hc).resolve_left fun ⟨b, B, r, hb, _⟩ => by simp at hb
  have hzn : ∀ c, Z' c → Z c ∨ w.heap.size ≤ c := fun c hc => (st.z' c hc).elim .inl fun h2 => h2.elim (fun ⟨b, B, r, hb, _⟩ => by simp at hb) .inr
  have hlen := hh.len
  have hat : ∀ (b : Nat) (B : Blk), (h ++ h')[b]? = some (some B) → (b < h.length ∧ h[b]? = some (some B) ∧ (R ++ R')[b]? = R[b]?) ∨ (∃ j, b = h.length + j ∧ h'[j]? = some (some B) ∧ (R ++ R')[b]? = R'[j]?) := fun b B hb => by
    by_cases hlt : b < h.length
    · rw [List.getElem?_append_left hlt] at hb
      exact .inl ⟨hlt, hb, List.getElem?_append_left (by omega)⟩
    · rw [List.getElem?_append_right (by omega)] at hb
      exact .inr ⟨b - h.length, by omega, hb, by rw [List.getElem?_append_right (by omega), hlen]⟩
  have hRb : ∀ (b : Nat) (B : Blk) (r : RI), h[b]? = some (some B) → R[b]? = some r → r.c < w.heap.size := fun b B r h1 h2 => hh.rltL h1 h2
  have hRn : ∀ (j : Nat) (B : Blk) (r : RI), h'[j]? = some (some B) → R'[j]? = some r → w.heap.size ≤ r.c := fun j B r h1 h2 => hnew _ ⟨j, B, r, h1, (noRfH_at hf j B h1).1, h2, rfl⟩
  refine ⟨⟨by simp [hh.len, hh'.len], fun b B hB => ?_, fun b b' B B' r r' hB hfz hB' hfz' h1 h2 e => ?_, hh'.zlt⟩, ⟨st.os, st.tape, st.output, st.size, fun c hc _ => hold c hc, fun c hc => ?_, st.z, fun c hc => (hzn c hc).elim .inl (fun h => .inr (.inr h)), hr⟩⟩
  · rcases hat b B hB with ⟨hlt, hb, hRR⟩ | ⟨j, rfl, hb, hRR⟩
    · obtain ⟨r, arr, us, g1, g2, g3, g4, g5, g6, g7, g8, g9, g10⟩ := hh.blk b B hb
      have hlt' := hRb b B r hb g1
      exact ⟨r, arr, us, hRR.trans g1, g2, (hold _ hlt').trans g3, g4, g5, g6, fun h => st.z _ (g7 h), fun h hz' => (hzn _ hz').elim (g8 h) (fun h2 => by omega), ⟨g9.len, fun i x u hx hu => (g9.at_ i x u hx hu).mono (fun c hc => hold c (hh.zlt c hc)) st.z hr⟩, g10⟩
    · obtain ⟨r, arr, us, g1, g2, g3, g4, g5, g6, g7, g8, g9, g10⟩ := hh'.blk j B hb
      obtain ⟨f1, f2⟩ := noRfH_at hf j B hb
      exact ⟨r, arr, us, hRR.trans g1, g2, g3, g4, g5, g6, g7, g8, ⟨g9.len, fun i x u hx hu => noRf_any (List.all_eq_true.1 f2 x (List.mem_of_getElem? hx)) (g9.at_ i x u hx hu)⟩, g10⟩
  · rcases hat b B hB with ⟨_, hb, hRR⟩ | ⟨j, rfl, hb, hRR⟩ <;> rcases hat b' B' hB' with ⟨_, hb', hRR'⟩ | ⟨j', rfl, hb', hRR'⟩ <;> rw [hRR] at h1 <;> rw [hRR'] at h2
    · exact hh.inj b b' B B' r r' hb hfz hb' hfz' h1 h2 e
    · have := hRb b B r hb h1; have := hRn j' B' r' hb' h2; omega
    · have := hRb b' B' r' hb' h2; have := hRn j B r hb h1; omega
    · rw [hh'.inj j j' B B' r r' hb hfz hb' hfz' h1 h2 e]
  · obtain ⟨b, B, r, h1, h2, h3, rfl⟩ := hc
    rcases hat b B h1 with ⟨_, hb, hRR⟩ | ⟨j, rfl, hb, hRR⟩ <;> rw [hRR] at h3
    · exact .inl ⟨b, B, r, hb, h2, h3, rfl⟩
    · exact .inr (hRn j B r hb h3)
end
section
variable {E : Env} {ops : Array Oper} {rest rest' : List Oper} {K : St → Prop} {n : Nat} {l : List (Nat × AV)} {hp : Hp} {xs : List AV} {Out : AV → Hp → Prop}
theorem RunS.callZ (hP : E.P = E0.P) (hG : E.G = E0.G) {d : Nat} {f : Operand} {args : Array Operand} {tys : Array TypeId} {ty : TypeId} {pos : String} {af : Array Edge} {g : Option (Nat × Bool)} {fid : FuncId} (hs : SOk fid xs Out) (hr : rest = ⟨some d, .call ⟨.value f, args, tys⟩, ty, pos, af, g⟩ :: rest') (hw : wantedA ops (Fr n l) ⟨some d, .call ⟨.value f, args, tys⟩, ty, pos, af, g⟩ = some true)
    (hf : opA E (Fr n l) f = some (.fn fid [] [])) (ha : opds (opA E (Fr n l)) args.toList = some xs) (hv : xs.all noRf2 = true) (hfl : ∀ x h', Out x h' → ownFz x = true ∧ noRfH h' = true) (k : ∀ x h', Out x h' → RunS E ops rest' ⟨Fr n ((d, shN hp.length x) :: l), hp ++ h'⟩ K) : RunS E ops rest ⟨Fr n l, hp⟩ K := by
  obtain ⟨P, fns, G, X, I⟩ := E
  simp only at hP hG
  subst hP hG
  subst hr
  intro base Q a w Z R sr q
  have hρ : ∀ o x, opA ⟨E0.P, fns, E0.G, X, I⟩ (Fr n l) o = some x → VR w Z R x (a.eval o) := fun o x e => opA_vr sr o x e
  unfold LwL
  rw [if_pos (wantedA_eq sr hw)]
  have hva : a.eval f = .func (.func fid) ([] : List Value).toArray ([] : List Value).toArray := by
    have := hρ _ _ hf
    generalize a.eval f = vf at this
    cases this with
    | fn hl hl' hx hy =>
      rename_i u1 u2
      have e1 : u1 = [] := by simpa using hl
      have e2 : u2 = [] := by simpa using hl'
      subst e1 e2; rfl
  unfold Lw
  rw [run_call (uf := []) (uc := []) rfl hva rfl hs.1 w]
  simp only [List.nil_append, List.append_nil]
  refine Ret.mono (hs.2 w Z _ sr.hh.zlt sr.gl (noRfs_vr hv (opds_vr hρ ha))) fun v w' hS => ?_
  obtain ⟨Z', R', x, h', hO, h1, h2, st⟩ := hS
  obtain ⟨f1, f2⟩ := hfl x h' hO
  obtain ⟨j1, j2⟩ := sr.hh.joinZ st h1 f2
  have hlen : R.length = hp.length := sr.hh.len
  have hx := shN_vrZ (R := R) hlen f1 h2
  have sr' := (sr.step j1 j2).put (d := some d) hx
  rw [show putA (⟨Fr n l, hp⟩ : St).fr (some d) (shN hp.length x) = Fr n ((d, shN hp.length x) :: l) from putA_Fr n l d _] at sr'
  exact k x h' hO base Q _ w' Z' (R ++ R') sr' fun s' a' w'' Z'' R'' hK sr'' st' => q s' a' w'' Z'' R'' hK sr'' (j2.w.trans st')
theorem noRf_map {α : Type} {c : Cd α} (hc : ∀ x, noRf (c.enc x) = true) (xs : List α) : (xs.map c.enc).all noRf = true := by
  rw [List.all_eq_true]
  intro x hx
  obtain ⟨y, _, rfl⟩ := List.mem_map.1 hx
  exact hc y
end
/-- As Sem, but the numbers of the blocks are kept. -/
def SemK (E : Env) (c : Code) (s : St) (Q : Ex → St → Prop) : Prop :=
  ∀ (ro : Option Nat) (base : Nat) (Qm : Exit → Act → World → Prop) (a : Act) (w : World) (Z : Nat → Prop) (R : List RI), SR E base w Z R s a →
    (∀ e s' a' w' Z' R', Q e s' → SR E base w' Z' R' s' a' → Step w Z R s.hp w' Z' R' s'.hp → Qm (exOf e) a' w') → c.wpIn (Fw ro) 0 E.P Qm a w
def RunK (E : Env) (ops : Array Oper) (rest : List Oper) (s : St) (K : St → Prop) : Prop :=
  ∀ (base : Nat) (Q : Act → World → Prop) (a : Act) (w : World) (Z : Nat → Prop) (R : List RI), SR E base w Z R s a →
    (∀ s' a' w' Z' R', K s' → SR E base w' Z' R' s' a' → Step w Z R s.hp w' Z' R' s'.hp → Q a' w') → LwL E.P ops Q rest a w
section
variable {E : Env} {ops : Array Oper} {pre rest rest' : List Oper} {s s1 : St} {K : St → Prop} {n : Nat} {l : List (Nat × AV)} {hp hp' : Hp} {Q : Ex → St → Prop} {id : Nat} {c c' : Code}
theorem SemK.exit {id : Nat} (q : Q (.exit id) s) : SemK E (.exit id) s Q := fun _ _ _ a w Z R h2 k => wpIn_exit (k (.exit id) s a w Z R q h2 (Step.refl _ _ _ _))
theorem SemK.ret (q : Q .ret s) : SemK E .ret s Q := fun _ _ _ a w Z R h2 k => wpIn_ret (k .ret s a w Z R q h2 (Step.refl _ _ _ _))
theorem SemK.block {id : Nat} (h : SemK E c s fun e s' => match e with | .exit id' => if id' = id then Q .normal s' else Q (.exit id') s' | e => Q e s') : SemK E (.block id c) s Q := by
  intro ro base Qm a w Z R h2 k
  refine wpIn_block (h ro base _ a w Z R h2 fun e s' a' w' Z' R' hQ sr st => ?_)
  cases e with
  | normal => exact k _ s' a' w' Z' R' hQ sr st
  | exit id' =>
    show if id' = id then Qm .normal a' w' else Qm (.exit id') a' w'
    simp only at hQ
    split at hQ
    · next h => rw [if_pos h]; exact k .normal s' a' w' Z' R' hQ sr st
    · next h => rw [if_neg h]; exact k _ s' a' w' Z' R' hQ sr st
  | ret => exact k _ s' a' w' Z' R' hQ sr st
theorem SemK.mono {Q' : Ex → St → Prop} (h : SemK E c s Q) (hq : ∀ e s, Q e s → Q' e s) : SemK E c s Q' :=
  fun ro base Qm a w Z R h2 k => h ro base Qm a w Z R h2 fun e s' a' w' Z' R' hQ => k e s' a' w' Z' R' (hq e s' hQ)
/-- Slots are forgotten. -/
theorem SemK.fr {l' : List (Nat × AV)} (h : lkAll l l' = xsAll l') (k : SemK E c ⟨Fr n l', hp⟩ Q) : SemK E c ⟨Fr n l, hp⟩ Q := by
  intro ro base Qm a w Z R sr kk
  refine k ro base Qm a w Z R ⟨sr.hh, ⟨?_, fun t x hx => sr.fr.2 t x ?_⟩, sr.mks, sr.gl, sr.bs⟩ kk
  · rw [Fr_len]; have := sr.fr.1; rw [Fr_len] at this; exact this
  · rw [Fr_get] at hx ⊢
    split at hx
    · next ht => rw [if_pos ht]; injection hx with hx; rw [lk_mem h hx]
    · cases hx
theorem RunK.done (hr : rest = []) (k : K s) : RunK E ops rest s K := by
  subst hr
  exact fun base Q a w Z R sr q => q s a w Z R k sr (Step.refl _ _ _ _)
theorem RunK.app (hE : EnvOk E) (n : Nat) : ∀ {pre : List Oper} {s : St}, opsA E (evC E n) ⟨none, false⟩ ops pre s = some s1 → RunK E ops rest s1 K → RunK E ops (pre ++ rest) s K
  | [], s, e, k => by injection e with e; subst e; exact k
  | o :: pre, s, e, kk => by
    intro base Q a w Z R sr q
    show LwL E.P ops Q (o :: (pre ++ rest)) a w
    unfold opsA at e
    unfold LwL
    split at e
    · cases e
    · next hw =>
      rw [if_neg (by rw [wantedA_eq sr hw]; simp)]
      exact RunK.app hE n e kk base Q _ w Z R (sr.put undef_vr) q
    · next hw =>
      rw [if_pos (wantedA_eq sr hw)]
      split at e
      · next s2 hs2 => exact op1_lw hE (code_sound hE n).1 hs2 sr fun a' w' Z' R' sr' st => RunK.app hE n e kk base Q a' w' Z' R' sr' fun s'' a'' w'' Z'' R'' hK sr'' st' => q s'' a'' w'' Z'' R'' hK sr'' (st.trans st')
      · cases e
theorem RunK.seg (hE : EnvOk E) (m : Nat) (h : opsA E (evC E 0) ⟨none, false⟩ ops (rest.take m) s = some s1) (k : RunK E ops (rest.drop m) s1 K) : RunK E ops rest s K := by
  have := RunK.app hE 0 h k
  rwa [List.take_append_drop] at this
theorem RunK.segF (hE : EnvOk E) (m : Nat) {s : St} (l : List (Nat × AV)) (hp : Hp) (h : segB (opsA E (evC E 0) ⟨none, false⟩ ops (rest.take m) s) l = some (n, xs2 l, hp)) (k : RunK E ops (rest.drop m) ⟨Fr n l, hp⟩ K) : RunK E ops rest s K := by
  obtain ⟨fr, h1, h2, h3⟩ := segB_inv h
  refine RunK.seg hE m h1 ?_
  exact fun base Q a w Z R sr q => k base Q a w Z R (sr.forget h2 h3) q
theorem RunK.one (hE : EnvOk E) (n : Nat) {o : Oper} (hr : rest = o :: rest') (h : opsA E (evC E n) ⟨none, false⟩ ops [o] s = some s1) (k : RunK E ops rest' s1 K) : RunK E ops rest s K := by
  subst hr
  exact RunK.app hE n (pre := [o]) h k
theorem SemK.region (h : RunK E ops ops.toList s fun s' => Q .normal s') : SemK E (.region id ops false) s Q := by
  intro ro base Qm a w Z R h2 kk
  exact wpIn_region_list (lwl_list ro (h base _ a w Z R h2 fun s' a' w' Z' R' hq sr st => kk .normal s' a' w' Z' R' hq sr st))
end
def law09_awake : Option Bool := some true
def cs_law09_awake : Cs Unit := csN
def er_law09_awake (b : Bool) : AV := cdB.enc b
def t_law09_awake : List AV → Option AV := told cs_law09_awake (fun _ => law09_awake) er_law09_awake
theorem x_law09_awake : XOk 13 t_law09_awake := by
  refine ⟨⟨Tryd.call13⟩, fun xs x h w Z us _ _ hv => ?_⟩
  obtain ⟨a, ha, h⟩ := Option.bind_eq_some_iff.1 h
  obtain ⟨b, hb, rfl⟩ := Option.map_eq_some_iff.1 h
  have hb := Option.some.inj hb
  subst hb
  have : xs = [] := by
    cases xs with
    | nil => rfl
    | cons x xs => cases ha
  subst this
  have : us = [] := by have := hv.len; simpa using this
  subst this
  exact Ret.mono (awake_ret w) fun v w' h => ⟨h.2, by rw [h.1]; exact vr_true⟩
def own1 (xs : List Int) : Option Blk := some ⟨1, 3, xs.map cdI.enc, false⟩
section
variable {E : Env} {cx : Cx} {ops : Array Oper} {rest rest' : List Oper} {s : St} {K : St → Prop} {n n0 k : Nat} {l : List (Nat × AV)} {hp : Hp}
theorem RunDY.tail {o : Oper} (hr : rest = o :: rest') (hW : isW o.op = true) (h : RunK E ops rest s K) : RunDY E ops n0 k rest s K := by
  subst hr
  intro base Q w0 Z R0 h0 a w R _ _ _ sr hgr st _ hTk _ _ q
  have hTk' : tailAt ops = k := by rw [hTk]; unfold tailGo; rw [if_pos hW]
  refine lwl_mix (h base Q a w Z R sr fun s' a' w' Z' R' hK sr' st' => q s' a' w' Z' R' hK sr' (st.trans st')) (by omega) (fun _ => hgr) (fun j hj => ?_)
  have : Nat.ble (tailAt ops) j = true := by rw [Nat.ble_eq]; omega
  simp [this]
theorem zeroCells_one (z : Value) : ∀ n : Nat, (Builtin.zeroCells #[z] n).toList = List.replicate n z := fun n => by
  apply List.ext_getElem?
  intro i
  simp only [Builtin.zeroCells, Array.toList_map, List.getElem?_map, List.getElem?_replicate]
  by_cases hi : i < n
  · rw [if_pos hi]
    simp [hi, Nat.mod_one]
  · rw [if_neg hi]
    simp; omega
/-- Cells of an own block are cleared. -/
theorem RunY.clear {x : Operand} {t el : TypeId} {ty : TypeId} {pos : String} {af : Array Edge} {g : Option (Nat × Bool)} {b lo q m : Nat} {B : Blk} {z : Value} (hr : rest = ⟨none, .call ⟨.builtin .clear, #[x], #[t]⟩, ty, pos, af, g⟩ :: rest') (hw : wantedA ops (Fr n l) ⟨none, .call ⟨.builtin .clear, #[x], #[t]⟩, ty, pos, af, g⟩ = some true)
    (hx : opA E (Fr n l) x = some (.rf b lo (q + 1) m)) (hu : E.P.underlying t = some (.slice el)) (hz : tyZero E.P el = some (.v z)) (hB : hp[b]? = some (some B)) (hf : B.fz = false) (hk : B.k = 1) (hle : lo + (q + 1) ≤ B.es.length)
    (kk : RunY E cx ops rest' ⟨Fr n l, hp.set b (some { B with es := B.es.take lo ++ List.replicate (q + 1) (.v z) ++ B.es.drop (lo + (q + 1)) })⟩ K) : RunY E cx ops rest ⟨Fr n l, hp⟩ K := by
  subst hr
  intro ro base Q a w Z R hro sr hy qq
  unfold wpListIn
  rw [if_pos (wantedA_eq sr hw)]
  refine lw_wpIn ro ?_
  have hv := opA_vr sr x _ hx
  generalize hva : a.eval x = va at hv
  obtain ⟨u, hzu, hzt, hzr, i, hi1, hi2⟩ := run_zero' (w := w) (Z := Z) (R := R) hz
  obtain ⟨r, arr, us, g1, g2, g3, g4, g5, g6, g7, g8, g9, g10⟩ := sr.hh.blk b B hB
  have huz : u = z := hzu.v_inv
  subst huz
  have hzo : u.oneCell' = true := hzu.one rfl rfl
  cases hv with
  | rf hr q0 q1 q2 q3 =>
    rename_i c r'
    rw [g1] at hr
    injection hr with hr
    subst hr
    have hcs : u.cells = #[u] := by
      have := (VR.v (w := w) (Z := Z) (ρ := R) hzo).cells.2
      cases u <;> first | rfl | (simp [Value.oneCell'] at hzo)
    have hys : VRs w Z R (List.replicate (q + 1) (.v u)) (List.replicate (q + 1) u) := VRs.replicate _ hzu
    have hfl : flat' (List.replicate (q + 1) u) = List.replicate (q + 1) u := by
      unfold flat'
      rw [List.map_replicate, hcs, List.flatten_replicate_singleton]
    obtain ⟨k1, k2, k3, k4, k5⟩ := sr.hh.write (lo := lo) (ys := List.replicate (q + 1) (.v u)) (vs := List.replicate (q + 1) u) hB hf g1 (by simp; omega) (by omega) hys (fun v hv => by
      have := List.eq_of_mem_replicate hv
      subst this
      rw [hcs, hk]
      exact ⟨rfl, fun q hq => by simp at hq; subst hq; exact hzo⟩)
    rw [hfl] at k1 k2 k3 k4 k5
    rw [List.length_replicate] at k1 k2
    have hst := run_storeCells_cells (P := E.P) r.c (lo * r.k) (List.replicate (q + 1) u) 0 w (fun j hj => by rw [g2]; simpa using k3 j hj) (fun j hj => by rw [g2]; simpa using k4 j hj) k5
    simp only [Nat.add_zero] at hst
    have hst' : (storeCells ⟨r.c, lo * r.k, none⟩ (List.replicate (q + 1) u)).run E.P w = .ok () (w.setCells r.c (lo * B.k) (List.replicate (q + 1) u)) := by rw [hst, g2]
    have hrun := run_callB (P := E.P) (ve := a.eval) (o := ⟨none, .call ⟨.builtin .clear, #[x], #[t]⟩, ty, pos, af, g⟩) (us := [.slice (some ⟨r.c, lo * r.k, none⟩) (q + 1) c]) rfl (by simp [hva]) w
    have hfin : (execOp a.eval ⟨none, .call ⟨.builtin .clear, #[x], #[t]⟩, ty, pos, af, g⟩).run E.P w = .ok (.value (.tuple #[])) (w.setCells r.c (lo * B.k) (List.replicate (q + 1) u)) := by
      rw [hrun]
      simp [builtin, Builtin.clear_, run_underlying hu, hzr, hcs, zeroCells_one, hst']
    unfold Lw
    rw [hfin]
    exact kk ro base Q _ _ Z R hro ((sr.step k1 k2).put (d := none) (x := .tp []) (u := .tuple #[]) (.tp (us := []) rfl fun i x u h => by simp at h)) (hy.step sr.hh k2) fun s' a' w'' Z'' R'' hK sr'' st' => qq s' a' w'' Z'' R'' hK sr'' (k2.trans st')
end
noncomputable def cb_delete : Code := codeOf Tryd.f71
theorem own1_len {hp : Hp} {b : Nat} {xs : List Int} (h : hp[b]? = some (own1 xs)) : b < hp.length := (List.getElem?_eq_some_iff.1 h).1
theorem set_same {hp : Hp} {b : Nat} {o : Option Blk} (h : hp[b]? = some o) : hp.set b o = hp := by
  obtain ⟨h1, h2⟩ := List.getElem?_eq_some_iff.1 h
  rw [← h2, List.set_getElem_self]
set_option maxRecDepth 100000 in
set_option maxHeartbeats 4000000 in
/-- The end of Delete: what is behind the last element is cleared. -/
theorem delete_end (hp : Hp) (b : Nat) (zs : List Int) (q : Nat) (hq : zs.length = q + 1) (hb : hp[b]? = some (own1 zs)) :
    SemY E0 ⟨none, false⟩ (sB (sB (sB (sB (sB cb_delete))))) ⟨Fr 33 [(0, .rf b 0 q (q + 1)), (7, .v (.int .i64 (q + 1 : Nat)))], hp⟩ fun x s' => (x = .normal ∨ x = .ret) ∧ ∃ ys, resA E0.P s'.fr s'.hp Tryd.f71.results.toList = some ys ∧ (retA ys = .rf b 0 q (q + 1) ∧ s'.hp = hp.set b (own1 (zs.take q ++ [0]))) := by
  have hbl := own1_len hb
  refine SemY.seq ?_
  refine SemY.region ?_
  refine RunY.segF (n := 33) E0_ok 4 [(0, .rf b 0 q (q + 1)), (27, .rf b 0 q (q + 1)), (29, .v (.int .i64 q)), (30, .v (.int .i64 (q + 1 : Nat)))] hp (by kernel_rfl) ?_
  have hs : evSlice E0.P hp 31 (.rf b 0 q (q + 1)) (some (.v (.int .i64 q))) (some (.v (.int .i64 (q + 1 : Nat)))) none = some (.rf b q (0 + 1) 1) := by
    unfold evSlice
    rw [show E0.P.underlying 31 = some (.slice 3) by kernel_rfl]
    simp only [hb, own1]
    rw [show natB none (q + 1) = some (q + 1) from rfl, show natB (some (.v (.int .i64 (q : Int)))) 0 = some q by simp [natB], show natB (some (.v (.int .i64 ((q + 1 : Nat) : Int)))) q = some (q + 1) by simp [natB]; omega]
    simp only
    rw [if_pos ⟨by omega, by omega, by omega, .inl rfl, by kernel_rfl⟩, if_pos (by omega)]
    rw [show q + 1 - q = 1 by omega]
    simp
  refine RunY.one E0_ok 0 rfl (op_q (wantedA_none rfl) rfl (q_slice (a := .rf b 0 q (q + 1)) (l := some (.v (.int .i64 q))) (u := some (.v (.int .i64 (q + 1 : Nat)))) (m := none) (by kernel_rfl) (by kernel_rfl) (by kernel_rfl) (by kernel_rfl) hs)) ?_
  refine RunY.clear (el := 3) (z := .int .i64 0) (q := 0) (lo := q) (m := 1) (b := b) (B := ⟨1, 3, zs.map cdI.enc, false⟩) rfl (wantedA_none rfl) (by kernel_rfl) (by kernel_rfl) (by kernel_rfl) hb rfl rfl (by simp [hq]) ?_
  have e1 : (List.map cdI.enc zs).take q ++ List.replicate (0 + 1) (AV.v (.int .i64 0)) ++ (List.map cdI.enc zs).drop (q + (0 + 1)) = (zs.take q ++ [0]).map cdI.enc := by
    rw [List.drop_eq_nil_of_le (by simp; omega), List.append_nil, List.map_append, List.map_take]; rfl
  simp only [e1]
  refine RunY.done rfl (SemY.fr (l' := [(0, .rf b 0 q (q + 1))]) (by kernel_rfl) ?_)
  refine SemY.seq ?_
  refine SemY.region ?_
  refine RunY.segF (n := 33) E0_ok 2 [(6, .rf b 0 q (q + 1))] (hp.set b (own1 (zs.take q ++ [0]))) (by kernel_rfl) ?_
  refine RunY.done rfl (SemY.ret ?_)
  exact ⟨.inr rfl, [.rf b 0 q (q + 1)], (by kernel_rfl), (by kernel_rfl), rfl⟩
set_option maxRecDepth 100000 in
set_option maxHeartbeats 4000000 in
theorem delete_sem (hp : Hp) (b : Nat) (xs : List Int) (i : Int) (h0 : 0 ≤ i) (h1 : i + 1 ≤ xs.length) (hb : hp[b]? = some (own1 xs)) :
    SemY E0 ⟨none, false⟩ cb_delete ⟨Fr 33 (pairs0 0 [.rf b 0 xs.length xs.length, .v (.int .i64 i), .v (.int .i64 (i + 1))]), hp⟩ fun x s' => (x = .normal ∨ x = .ret) ∧ ∃ ys, resA E0.P s'.fr s'.hp Tryd.f71.results.toList = some ys ∧ (retA ys = .rf b 0 (xs.length - 1) xs.length ∧ s'.hp = hp.set b (own1 (xs.eraseIdx i.toNat ++ [0]))) := by
  obtain ⟨q, hq⟩ : ∃ q, xs.length = q + 1 := ⟨xs.length - 1, by omega⟩
  have hu : E0.P.underlying 31 = some (.slice 3) := by kernel_rfl
  have hs3 : tySize E0.P 3 = some 1 := by kernel_rfl
  have hnb : ∀ (m : Int) (d : Nat), 0 ≤ m → natB (some (.v (.int .i64 m))) d = some m.toNat := fun m d h => natB_i h
  rw [hq]
  refine SemY.seq ?_
  refine SemY.region ?_
  refine RunY.segF (n := 33) E0_ok 1 [(0, .rf b 0 (q + 1) (q + 1)), (1, .v (.int .i64 i)), (2, .v (.int .i64 (i + 1)))] hp (by kernel_rfl) ?_
  refine RunY.done rfl ?_
  refine SemY.seq ?_
  refine SemY.region ?_
  refine RunY.segF (n := 33) E0_ok 5 [(0, .rf b 0 (q + 1) (q + 1)), (1, .v (.int .i64 i)), (2, .v (.int .i64 (i + 1))), (8, .rf b 0 (q + 1) (q + 1)), (9, .v (.int .i64 i)), (10, .v (.int .i64 (i + 1))), (12, .v (.int .i64 (q + 1 : Nat)))] hp (by kernel_rfl) ?_
  have hs1 : evSlice E0.P hp 31 (.rf b 0 (q + 1) (q + 1)) (some (.v (.int .i64 i))) (some (.v (.int .i64 (i + 1)))) (some (.v (.int .i64 (q + 1 : Nat)))) = some (.rf b (0 + i.toNat) ((i + 1).toNat - i.toNat) (q + 1 - i.toNat)) := by
    unfold evSlice
    rw [hu]
    simp only [hb, own1, hnb _ _ h0, hnb (i + 1) _ (by omega), hnb ((q + 1 : Nat) : Int) _ (by omega), Int.toNat_natCast]
    rw [if_pos ⟨by omega, by omega, by omega, .inr rfl, hs3⟩, if_pos (by omega)]
  refine RunY.one E0_ok 0 rfl (op_q (wantedA_none rfl) rfl (q_slice (a := .rf b 0 (q + 1) (q + 1)) (l := some (.v (.int .i64 i))) (u := some (.v (.int .i64 (i + 1)))) (m := some (.v (.int .i64 (q + 1 : Nat)))) (by kernel_rfl) (by kernel_rfl) (by kernel_rfl) (by kernel_rfl) hs1)) ?_
  refine RunY.done rfl (SemY.fr (l' := [(0, .rf b 0 (q + 1) (q + 1)), (1, .v (.int .i64 i)), (2, .v (.int .i64 (i + 1)))]) (by kernel_rfl) ?_)
  refine SemY.seq ?_
  refine SemY.seq ?_
  refine SemY.region ?_
  refine RunY.segF (n := 33) E0_ok 3 [(0, .rf b 0 (q + 1) (q + 1)), (1, .v (.int .i64 i)), (2, .v (.int .i64 (i + 1))), (16, .v (.bool (i == i + 1)))] hp (by kernel_rfl) ?_
  refine RunY.done rfl ?_
  refine SemY.cond (b := i == i + 1) (by kernel_rfl) (fun h => absurd (eq_of_beq h) (by omega)) (fun _ => ?_)
  refine SemY.skip ?_
  refine SemY.seq ?_
  refine SemY.region ?_
  refine RunY.segF (n := 33) E0_ok 3 [(0, .rf b 0 (q + 1) (q + 1)), (1, .v (.int .i64 i)), (2, .v (.int .i64 (i + 1))), (7, .v (.int .i64 (q + 1 : Nat)))] hp (by kernel_rfl) ?_
  refine RunY.done rfl ?_
  refine SemY.seq ?_
  refine SemY.runDY E0_ok (by kernel_rfl) ?_
  refine RunDY.segF (n := 33) E0_ok 2 [(0, .rf b 0 (q + 1) (q + 1)), (1, .v (.int .i64 i)), (2, .v (.int .i64 (i + 1))), (7, .v (.int .i64 (q + 1 : Nat))), (20, .rf b 0 (q + 1) (q + 1)), (21, .v (.int .i64 i))] hp (by kernel_rfl) (by kernel_rfl) ?_
  have hs2 : evSlice E0.P hp 31 (.rf b 0 (q + 1) (q + 1)) none (some (.v (.int .i64 i))) none = some (.rf b 0 i.toNat (q + 1)) := by
    unfold evSlice
    rw [hu]
    simp only [hb, own1, hnb _ _ h0]
    rw [show natB none (q + 1) = some (q + 1) from rfl, show natB none 0 = some 0 from rfl]
    simp only
    rw [if_pos ⟨by omega, by omega, by omega, .inl rfl, hs3⟩, if_pos (by omega)]
    rfl
  refine RunDY.one E0_ok rfl (by kernel_rfl) (opd_q (by kernel_rfl) (wantedA_none rfl) rfl (q_slice (a := .rf b 0 (q + 1) (q + 1)) (l := none) (u := some (.v (.int .i64 i))) (m := none) (by kernel_rfl) (by kernel_rfl) (by kernel_rfl) (by kernel_rfl) hs2) (by kernel_rfl)) ?_
  refine RunDY.segF (n := 33) E0_ok 2 [(0, .rf b 0 (q + 1) (q + 1)), (7, .v (.int .i64 (q + 1 : Nat))), (22, .rf b 0 i.toNat (q + 1)), (23, .rf b 0 (q + 1) (q + 1)), (24, .v (.int .i64 (i + 1)))] hp (by kernel_rfl) (by kernel_rfl) ?_
  -- the elements behind it
  have hs4 : evSlice E0.P hp 31 (.rf b 0 (q + 1) (q + 1)) (some (.v (.int .i64 (i + 1)))) none none = some (if (i + 1).toNat < q + 1 then .rf b (0 + (i + 1).toNat) (q + 1 - (i + 1).toNat) (q + 1 - (i + 1).toNat) else .sl 1 []) := by
    unfold evSlice
    rw [hu]
    simp only [hb, own1, hnb (i + 1) _ (by omega)]
    rw [show natB none (q + 1) = some (q + 1) from rfl]
    simp only
    rw [if_pos ⟨by omega, by omega, by omega, .inl rfl, hs3⟩]
    split <;> rfl
  refine RunDY.one E0_ok rfl (by kernel_rfl) (opd_q (by kernel_rfl) (wantedA_none rfl) rfl (q_slice (a := .rf b 0 (q + 1) (q + 1)) (l := some (.v (.int .i64 (i + 1)))) (u := none) (m := none) (by kernel_rfl) (by kernel_rfl) (by kernel_rfl) (by kernel_rfl) hs4) (by kernel_rfl)) ?_
  refine RunDY.tail rfl rfl ?_
  -- what the append makes
  obtain ⟨zs, hzl, hzt, hap⟩ : ∃ zs : List Int, zs.length = q + 1 ∧ zs.take q = xs.eraseIdx i.toNat ∧ evAppend E0.P hp 31 31 (.rf b 0 i.toNat (q + 1)) (if (i + 1).toNat < q + 1 then .rf b (0 + (i + 1).toNat) (q + 1 - (i + 1).toNat) (q + 1 - (i + 1).toNat) else .sl 1 []) = some (.rf b 0 q (q + 1), hp.set b (own1 zs)) := by
    have hap := apB_inv (P := E0.P) (t := 31) (el := 3) (k := 1) (bytes := 8) (by kernel_rfl)
    obtain ⟨ii, z, a1, a2, a3, a4, a5, a6, a7, a8⟩ := hap
    have hsrc : ∀ y : AV, y.notTp = true → (∀ bs, y ≠ .st bs) → srcOk E0.P 31 y = true := fun y _ hy => by
      unfold srcOk; rw [hu]
      cases y <;> first | rfl | exact absurd rfl (hy _)
    by_cases hlt : (i + 1).toNat < q + 1
    · rw [if_pos hlt]
      refine ⟨xs.take i.toNat ++ xs.drop (i + 1).toNat ++ xs.drop q, by simp; omega, ?_, ?_⟩
      · rw [List.take_append_of_le_length (by simp; omega), List.take_of_length_le (by simp; omega), List.eraseIdx_eq_take_drop_succ, show (i + 1).toNat = i.toNat + 1 by omega]
      · unfold evAppend
        rw [if_neg (by rw [hsrc _ rfl (fun _ h => by cases h)]; simp), a1]
        simp only [a2, a3, a4]
        have hel : elems hp 1 (.rf b (0 + (i + 1).toNat) (q + 1 - (i + 1).toNat) (q + 1 - (i + 1).toNat)) = some ((xs.drop (i + 1).toNat).map cdI.enc) := by
          simp only [elems, hb, own1]
          rw [if_pos ⟨trivial, by simp; omega⟩, Nat.zero_add, List.take_of_length_le (by simp; omega), List.map_drop]
        have hne : ((xs.drop (i + 1).toNat).map cdI.enc).isEmpty = false := by
          cases hd : xs.drop (i + 1).toNat with
          | nil => have := congrArg List.length hd; simp at this; omega
          | cons _ _ => rfl
        simp only [hel, hne, Bool.false_eq_true, if_false]
        rw [if_pos ⟨a5, a6, a7⟩]
        simp only [hb, own1]
        rw [if_neg (by simp), if_pos ⟨by simp; omega, by simp; omega⟩]
        have e1 : i.toNat + ((xs.drop (i + 1).toNat).map cdI.enc).length = q := by simp; omega
        rw [Nat.zero_add, e1]
        simp only [List.map_append, List.map_take, List.map_drop]
    · rw [if_neg hlt]
      refine ⟨xs, hq, ?_, ?_⟩
      · rw [show i.toNat = q by omega, List.eraseIdx_eq_take_drop_succ, List.drop_eq_nil_of_le (by omega), List.append_nil]
      · unfold evAppend
        rw [if_neg (by rw [hsrc _ rfl (fun _ h => by cases h)]; simp), a1]
        simp only [a2, a3, a4]
        rw [show elems hp 1 (.sl 1 []) = some [] from rfl]
        simp only [List.isEmpty_nil, if_true]
        rw [set_same hb, show i.toNat = q by omega]
  have hzb : (hp.set b (own1 zs))[b]? = some (own1 zs) := by rw [List.getElem?_set_self (own1_len hb)]
  refine RunK.one E0_ok 0 rfl (op_w (wantedA_none rfl) rfl (by kernel_rfl) (by kernel_rfl) (w_append (a := .rf b 0 i.toNat (q + 1)) (b := if (i + 1).toNat < q + 1 then .rf b (0 + (i + 1).toNat) (q + 1 - (i + 1).toNat) (q + 1 - (i + 1).toNat) else .sl 1 []) (by kernel_rfl) (by kernel_rfl) hap)) ?_
  refine RunK.segF (n := 33) E0_ok 1 [(0, .rf b 0 q (q + 1)), (7, .v (.int .i64 (q + 1 : Nat)))] (hp.set b (own1 zs)) (by kernel_rfl) ?_
  refine RunK.done rfl ?_
  refine SemY.mono (delete_end (hp.set b (own1 zs)) b zs q hzl hzb) fun x s' h => ?_
  rw [List.set_set, hzt] at h
  exact h
/-- An own block is shortened. -/
theorem Wk.short {E : Env} {n d : Nat} {l : List (Nat × AV)} {hp : Hp} {b k q m : Nat} {t : TypeId} {es zs : List AV} (hb : hp[b]? = some (some ⟨k, t, es ++ zs, false⟩)) (_ : q ≤ m) : Wk E ⟨Fr n ((d, .rf b 0 q m) :: l), hp⟩ ⟨Fr n ((d, .rf b 0 q q) :: l), hp.set b (some ⟨k, t, es, false⟩)⟩ := by
  intro base w Z R a sr
  obtain ⟨r, arr, us, g1, g2, g3, g4, g5, g6, g7, g8, g9, g10⟩ := sr.hh.blk b _ hb
  have hel : (es ++ zs).take es.length = es := by rw [List.take_append_of_le_length (Nat.le_refl _), List.take_of_length_le (Nat.le_refl _)]
  have hput := sr.hh.put (w' := w) (es := es) (us := us.take es.length) (arr := arr) hb rfl g1 ⟨rfl, rfl, rfl, Nat.le_refl _, fun _ _ _ => rfl⟩ g3 g4 (by have : (es ++ zs).length ≤ r.cap := g5; rw [List.length_append] at this; omega) (by have := g9.take es.length; rwa [hel] at this) (fun i u hu => by
    rw [List.getElem?_take] at hu
    split at hu
    · exact g10 i u hu
    · cases hu)
  refine ⟨Z, R, ⟨hput.1, ⟨?_, fun t x hx => ?_⟩, sr.mks.step hput.2, sr.gl.step sr.hh hput.2, sr.bs⟩, hput.2.w⟩
  · have := sr.fr.1; rw [Fr_len] at this ⊢; exact this
  · have hold : ∀ x, (Fr n ((d, .rf b 0 q m) :: l))[t]? = some (some x) → VR w Z R x (a.tmps.getD t undef) := fun x h => sr.fr.2 t x h
    rw [Fr_get] at hx
    by_cases ht : t < n
    · rw [if_pos ht] at hx
      injection hx with hx
      rw [lk_put] at hx
      by_cases hd : d = t
      · subst hd
        rw [if_pos rfl] at hx
        injection hx with hx
        subst hx
        have h2 := hold (.rf b 0 q m) (by rw [Fr_get, if_pos ht, lk_put, if_pos rfl])
        generalize a.tmps.getD d undef = u at h2
        cases h2 with
        | rf hr h0 h1 h2 hm => exact .rf hr (Nat.le_refl _) (Nat.le_trans h0 h1) h2 hm
      · rw [if_neg hd] at hx
        exact hold x (by rw [Fr_get, if_pos ht, lk_put, if_neg hd, hx])
    · rw [if_neg ht] at hx; cases hx
def del1 (xs : List Int) (i j : Int) : Option (List Int) := if 0 ≤ i ∧ j = i + 1 ∧ j ≤ xs.length then some (xs.eraseIdx i.toNat) else none
section
variable {E : Env} {ops : Array Oper} {rest rest' : List Oper} {K : St → Prop} {n : Nat} {l : List (Nat × AV)} {hp : Hp}
theorem RunS.delete (hP : E.P = E0.P) (hG : E.G = E0.G) {d : Nat} {f : Operand} {args : Array Operand} {tys : Array TypeId} {ty : TypeId} {pos : String} {af : Array Edge} {g : Option (Nat × Bool)} {b : Nat} {xs ys : List Int} {i j : Int} (hd : del1 xs i j = some ys) (hr : rest = ⟨some d, .call ⟨.value f, args, tys⟩, ty, pos, af, g⟩ :: rest') (hw : wantedA ops (Fr n l) ⟨some d, .call ⟨.value f, args, tys⟩, ty, pos, af, g⟩ = some true)
    (hf : opA E (Fr n l) f = some (.fn 71 [] [])) (ha : opds (opA E (Fr n l)) args.toList = some [.rf b 0 xs.length xs.length, .v (.int .i64 i), .v (.int .i64 j)]) (hb : hp[b]? = some (some ⟨1, 3, xs.map cdI.enc, false⟩)) (k : RunS E ops rest' ⟨Fr n ((d, .rf b 0 ys.length ys.length) :: l), hp.set b (some ⟨1, 3, ys.map cdI.enc, false⟩)⟩ K) : RunS E ops rest ⟨Fr n l, hp⟩ K := by
  unfold del1 at hd
  split at hd
  · next h =>
    obtain ⟨h0, rfl, h1⟩ := h
    injection hd with hd
    subst hd
    refine RunS.inlY hP hG (e := E0) E0_ok rfl rfl (caps := []) (fn := Tryd.f71) (c := cb_delete) (Out := fun x h' => x = .rf b 0 (xs.length - 1) xs.length ∧ h' = hp.set b (own1 (xs.eraseIdx i.toNat ++ [0]))) hr hw hf ha (by kernel_rfl) (by kernel_rfl) (by show 3 ≤ 33; decide) (delete_sem hp b xs i h0 h1 hb) ?_
    rintro x h' ⟨rfl, rfl⟩
    have hl : (xs.eraseIdx i.toNat).length = xs.length - 1 := by rw [List.length_eraseIdx, if_pos (by omega)]
    refine RunS.wk (Wk.short (k := 1) (t := 3) (es := (xs.eraseIdx i.toNat).map cdI.enc) (zs := [cdI.enc 0]) (by rw [List.getElem?_set_self (own1_len hb), own1, List.map_append]; rfl) (by omega)) ?_
    rw [List.set_set, ← hl]
    exact k
  · cases hd
end
/-- A growing slice is handed back, alone. -/
def OutO1 (ys : List AV) (kk : Nat) (t : TypeId) (x : AV) (h' : Hp) : Prop := x = hd 0 ys ∧ h' = [mk kk t ys]
section
variable {E : Env} {ops : Array Oper} {rest rest' : List Oper} {K : St → Prop} {n : Nat} {l : List (Nat × AV)} {hp : Hp} {xs : List AV}
/-- .. which is not empty. -/
theorem RunS.callO1 (hP : E.P = E0.P) (hG : E.G = E0.G) {d : Nat} {f : Operand} {args : Array Operand} {tys : Array TypeId} {ty : TypeId} {pos : String} {af : Array Edge} {g : Option (Nat × Bool)} {fid : FuncId} {α : Type} {c : Cd α} {vs : List α} {kk : Nat} {t : TypeId} (hs : SOk fid xs (OutO1 (vs.map c.enc) kk t)) (hne : decide (0 < vs.length) = true) (hr : rest = ⟨some d, .call ⟨.value f, args, tys⟩, ty, pos, af, g⟩ :: rest') (hw : wantedA ops (Fr n l) ⟨some d, .call ⟨.value f, args, tys⟩, ty, pos, af, g⟩ = some true)
    (hf : opA E (Fr n l) f = some (.fn fid [] [])) (ha : opds (opA E (Fr n l)) args.toList = some xs) (hv : xs.all noRf2 = true) (hy : (vs.map c.enc).all noRf = true) (k : RunS E ops rest' ⟨Fr n ((d, .rf hp.length 0 vs.length vs.length) :: l), hp ++ [some ⟨kk, t, vs.map c.enc, false⟩]⟩ K) : RunS E ops rest ⟨Fr n l, hp⟩ K := by
  cases vs with
  | nil => simp at hne
  | cons v vs =>
    refine RunS.callZ hP hG hs hr hw hf ha hv (fun x h' hO => ?_) fun x h' hO => ?_
    · obtain ⟨rfl, rfl⟩ := hO
      exact ⟨rfl, (by show (!false && ((v :: vs).map c.enc).all noRf && true) = true; rw [hy]; rfl)⟩
    · obtain ⟨rfl, rfl⟩ := hO
      have e1 : shN hp.length (hd 0 ((v :: vs).map c.enc)) = .rf hp.length 0 (v :: vs).length (v :: vs).length := by
        show AV.rf (hp.length + 0) 0 _ _ = _
        simp
      rw [e1]
      exact k
end
/- trestle/evening.guests -/
noncomputable def e_evening_guests : Env := E0
theorem e_evening_guests_ok : EnvOk e_evening_guests := E0_ok
noncomputable def cb_evening_guests : Code := codeOf Tryd.f82
def evening_guests (x0 : Int) : Option (Bool) :=
  (if (decide (x0 ≥ 1)) = true then some (decide (x0 ≤ 64)) else some false).bind fun j2 =>
  some j2
def cs_evening_guests : Cs (Int × Unit) := (csC cdI csN)
def er_evening_guests (r : Bool) : AV := cdB.enc r
set_option maxHeartbeats 4000000 in
set_option maxRecDepth 100000 in
theorem evening_guests_sem (x0 : Int) (r : Bool) (h : evening_guests x0 = some r) : Sem e_evening_guests ⟨none, false⟩ cb_evening_guests ⟨Fr 9 (pairs0 0 (cs_evening_guests.enc (x0, ()))), []⟩ fun e s' => (e = .normal ∨ e = .ret) ∧ ∃ xs, resA e_evening_guests.P s'.fr s'.hp Tryd.f82.results.toList = some xs ∧ retA xs = er_evening_guests r := by
  unfold evening_guests at h
  refine Sem.wkQ (Sem.wk (s1 := ⟨Fr 9 [(0, .v (.int .i64 x0))], []⟩) Wk.f1 ?_)
  refine Sem.seq ?_
  refine Sem.runS (s1 := ⟨Fr 9 [(0, .v (.int .i64 x0))], []⟩) ?_ ?_
  · refine RunS.segF (n := 9) e_evening_guests_ok 1 [(0, .v (.int .i64 x0))] [] (by kernel_rfl) ?_
    exact RunS.done rfl Wk.f1
  refine Sem.seq ?_
  obtain ⟨j2, hj2, h⟩ := Option.bind_eq_some_iff.1 h
  refine Sem.runS (s1 := ⟨Fr 9 [(2, .v (.bool j2))], []⟩) ?_ ?_
  · refine RunS.segF (n := 9) e_evening_guests_ok 3 [(0, .v (.int .i64 x0)), (5, .v (.bool (decide (x0 ≥ 1))))] [] (by kernel_rfl) ?_
    rcases Bool.eq_false_or_eq_true (decide (x0 ≥ 1)) with hc3 | hc3
    · rw [if_pos hc3] at hj2
      rw [hc3]
      refine RunS.segF (n := 9) e_evening_guests_ok 4 [(2, .v (.bool (decide (x0 ≤ 64))))] [] (by kernel_rfl) ?_
      have hq := Option.some.inj hj2; subst hq
      exact RunS.done rfl Wk.f1
    · rw [if_f hc3] at hj2
      rw [hc3]
      refine RunS.segF (n := 9) e_evening_guests_ok 4 [(2, .v (.bool false))] [] (by kernel_rfl) ?_
      have hq := Option.some.inj hj2; subst hq
      exact RunS.done rfl Wk.f1
  refine Sem.ret ?_
  have hq := Option.some.inj h; subst hq
  exact ⟨⟨Fr 9 [(2, .v (.bool j2))], []⟩, Wk.f1, .inr rfl, [.v (.bool j2)], (by kernel_rfl), (by kernel_rfl)⟩
def t_evening_guests : List AV → Option AV := told cs_evening_guests (fun a => evening_guests a.1) er_evening_guests
theorem x_evening_guests : XOk 82 t_evening_guests := by
  refine EnvOk.x (E := e_evening_guests) (contract_ok e_evening_guests_ok (fn := Tryd.f82) (c := cb_evening_guests) ?h1 ?h2 ⟨Tryd.call82⟩ cs_evening_guests (fun a => evening_guests a.1) er_evening_guests (fun a => (by show 1 ≤ 9; decide)) ?h3 ?h4) rfl rfl
  case h1 => kernel_rfl
  case h2 => kernel_rfl
  case h3 => intro b; kernel_rfl
  case h4 => exact fun a b h => evening_guests_sem a.1 b h
/- trestle/evening.fit -/
noncomputable def e_evening_fit : Env := (E0.withX 82 t_evening_guests)
theorem e_evening_fit_ok : EnvOk e_evening_fit := (EnvOk.withX E0_ok x_evening_guests.1 x_evening_guests.2)
noncomputable def cb_evening_fit : Code := codeOf Tryd.f67
def evening_fit_1 (x0 : Int) (x1 : (List Int)) : Nat → Int → Int → Option ((Int) ⊕ (Bool))
  | 0, _, _ => none
  | f + 1, c1, c2 =>
    if (decide (c2 < (x1.length : Int))) = true then
    (idx x1 c2).bind fun v4 =>
    (if (decide (v4 < 1)) = true then some true else some (decide (v4 > c1))).bind fun j6 =>
    if j6 = true then
    some (.inr false)
    else
    evening_fit_1 x0 x1 f (wr .i64 (c1 - v4)) (wr .i64 (c2 + 1))
    else
    some (.inl c1)
def evening_fit (x0 : Int) (x1 : (List Int)) : Option (Bool) :=
  (evening_fit_1 x0 x1 100000 x0 0).bind fun r11 =>
  match r11 with
  | (.inl w12) =>
    (evening_guests x0).bind fun v13 =>
    (if v13 = true then some (w12 == 0) else some false).bind fun j15 =>
    some j15
  | (.inr w17) =>
    some w17
def cs_evening_fit : Cs (Int × (List Int) × Unit) := (csC cdI (csC (cdL 1 cdI) csN))
def er_evening_fit (r : Bool) : AV := cdB.enc r
set_option maxHeartbeats 4000000 in
set_option maxRecDepth 100000 in
theorem evening_fit_1_ok (x0 : Int) (x1 : (List Int)) : ∀ (f : Nat) (c1 : Int) (c2 : Int) (r : (Int) ⊕ (Bool)), evening_fit_1 x0 x1 f c1 c2 = some r → SemN e_evening_fit ⟨none, false⟩ (pc cb_evening_fit [1, 1, 0, 1, 0, 0]) f ⟨Fr 32 [(0, .v (.int .i64 x0)), (5, .v (.int .i64 c1)), (9, .sl 1 (x1.map cdI.enc)), (10, .v (.int .i64 (x1.length : Int))), (11, .v (.int .i64 c2))], []⟩ (fun e s => match r with
  | (.inl w) => e = (.exit 0) ∧ Wk e_evening_fit s ⟨Fr 32 [(0, .v (.int .i64 x0)), (5, .v (.int .i64 w))], []⟩
  | (.inr w) => e = .ret ∧ Wk e_evening_fit s ⟨Fr 32 [(4, .v (.bool w))], []⟩) := by
  intro f
  induction f with
  | zero => intro c1 c2 r h; cases h
  | succ f ih0 =>
    intro c1 c2 r h
    have ih := fun (c1 : Int) (c2 : Int) => ih0 c1 c2 r
    unfold evening_fit_1 at h
    refine SemN.succ ?_
    refine Sem.seq ?_
    refine Sem.runS (s1 := ⟨Fr 32 [(0, .v (.int .i64 x0)), (5, .v (.int .i64 c1)), (9, .sl 1 (x1.map cdI.enc)), (10, .v (.int .i64 (x1.length : Int))), (11, .v (.int .i64 c2)), (12, .v (.bool (decide (c2 < (x1.length : Int)))))], []⟩) ?_ ?_
    · refine RunS.segF (n := 32) e_evening_fit_ok 1 [(0, .v (.int .i64 x0)), (5, .v (.int .i64 c1)), (9, .sl 1 (x1.map cdI.enc)), (10, .v (.int .i64 (x1.length : Int))), (11, .v (.int .i64 c2)), (12, .v (.bool (decide (c2 < (x1.length : Int)))))] [] (by kernel_rfl) ?_
      exact RunS.done rfl Wk.f1
    refine Sem.seq ?_
    refine Sem.cond (b := (decide (c2 < (x1.length : Int)))) (by kernel_rfl) (fun hb3 => ?_) (fun hb3 => ?_)
    · rw [if_pos hb3] at h
      refine Sem.skip ?_
      refine Sem.seq ?_
      refine Sem.block ?_
      refine Sem.seq ?_
      obtain ⟨v4, hv4, h⟩ := Option.bind_eq_some_iff.1 h
      refine Sem.runS (s1 := ⟨Fr 32 [(0, .v (.int .i64 x0)), (5, .v (.int .i64 c1)), (7, .v (.int .i64 v4)), (9, .sl 1 (x1.map cdI.enc)), (10, .v (.int .i64 (x1.length : Int))), (11, .v (.int .i64 c2))], []⟩) ?_ ?_
      · refine RunS.one e_evening_fit_ok 0 rfl (op_q (wantedA_none rfl) rfl (q_indexAddr (a := .sl 1 (x1.map cdI.enc)) (b := .v (.int .i64 c2)) (by kernel_rfl) (by kernel_rfl) (ix_sl (e := cdI.enc) (el := 3) (k := 1) (ki := .i64) (by kernel_rfl) (by kernel_rfl) hv4))) ?_
        refine RunS.segF (n := 32) e_evening_fit_ok 2 [(0, .v (.int .i64 x0)), (5, .v (.int .i64 c1)), (7, .v (.int .i64 v4)), (9, .sl 1 (x1.map cdI.enc)), (10, .v (.int .i64 (x1.length : Int))), (11, .v (.int .i64 c2))] [] (by kernel_rfl) ?_
        exact RunS.done rfl Wk.f1
      refine Sem.seq ?_
      refine Sem.seq ?_
      obtain ⟨j6, hj6, h⟩ := Option.bind_eq_some_iff.1 h
      refine Sem.runS (s1 := ⟨Fr 32 [(0, .v (.int .i64 x0)), (5, .v (.int .i64 c1)), (7, .v (.int .i64 v4)), (9, .sl 1 (x1.map cdI.enc)), (10, .v (.int .i64 (x1.length : Int))), (11, .v (.int .i64 c2)), (21, .v (.bool j6))], []⟩) ?_ ?_
      · refine RunS.segF (n := 32) e_evening_fit_ok 3 [(0, .v (.int .i64 x0)), (5, .v (.int .i64 c1)), (7, .v (.int .i64 v4)), (9, .sl 1 (x1.map cdI.enc)), (10, .v (.int .i64 (x1.length : Int))), (11, .v (.int .i64 c2)), (17, .v (.bool (decide (v4 < 1))))] [] (by kernel_rfl) ?_
        rcases Bool.eq_false_or_eq_true (decide (v4 < 1)) with hc9 | hc9
        · rw [if_pos hc9] at hj6
          rw [hc9]
          refine RunS.segF (n := 32) e_evening_fit_ok 4 [(0, .v (.int .i64 x0)), (5, .v (.int .i64 c1)), (7, .v (.int .i64 v4)), (9, .sl 1 (x1.map cdI.enc)), (10, .v (.int .i64 (x1.length : Int))), (11, .v (.int .i64 c2)), (18, .tp []), (19, .tp []), (20, .tp []), (21, .v (.bool true))] [] (by kernel_rfl) ?_
          have hq := Option.some.inj hj6; subst hq
          exact RunS.done rfl Wk.f1
        · rw [if_f hc9] at hj6
          rw [hc9]
          refine RunS.segF (n := 32) e_evening_fit_ok 4 [(0, .v (.int .i64 x0)), (5, .v (.int .i64 c1)), (7, .v (.int .i64 v4)), (9, .sl 1 (x1.map cdI.enc)), (10, .v (.int .i64 (x1.length : Int))), (11, .v (.int .i64 c2)), (18, .v (.int .i64 v4)), (19, .v (.int .i64 c1)), (20, .v (.bool (decide (v4 > c1)))), (21, .v (.bool (decide (v4 > c1))))] [] (by kernel_rfl) ?_
          have hq := Option.some.inj hj6; subst hq
          exact RunS.done rfl Wk.f1
      refine Sem.cond (b := j6) (by kernel_rfl) (fun hb7 => ?_) (fun hb7 => ?_)
      · rw [if_pos hb7] at h
        refine Sem.seq ?_
        refine Sem.runS (s1 := ⟨Fr 32 [(4, .v (.bool false))], []⟩) ?_ ?_
        · refine RunS.segF (n := 32) e_evening_fit_ok 1 [(4, .v (.bool false))] [] (by kernel_rfl) ?_
          exact RunS.done rfl Wk.f1
        refine Sem.ret ?_
        have hq := Option.some.inj h; subst hq
        exact ⟨rfl, Wk.f1⟩
      · rw [if_f hb7] at h
        refine Sem.skip ?_
        refine Sem.runS (s1 := ⟨Fr 32 [(0, .v (.int .i64 x0)), (5, .v (.int .i64 (wr .i64 (c1 - v4)))), (9, .sl 1 (x1.map cdI.enc)), (10, .v (.int .i64 (x1.length : Int))), (11, .v (.int .i64 c2))], []⟩) ?_ ?_
        · refine RunS.segF (n := 32) e_evening_fit_ok 4 [(0, .v (.int .i64 x0)), (5, .v (.int .i64 (wr .i64 (c1 - v4)))), (9, .sl 1 (x1.map cdI.enc)), (10, .v (.int .i64 (x1.length : Int))), (11, .v (.int .i64 c2))] [] (by kernel_rfl) ?_
          exact RunS.done rfl Wk.f1
        refine Sem.runS (s1 := ⟨Fr 32 [(0, .v (.int .i64 x0)), (5, .v (.int .i64 (wr .i64 (c1 - v4)))), (9, .sl 1 (x1.map cdI.enc)), (10, .v (.int .i64 (x1.length : Int))), (11, .v (.int .i64 (wr .i64 (c2 + 1))))], []⟩) ?_ ?_
        · refine RunS.segF (n := 32) e_evening_fit_ok 2 [(0, .v (.int .i64 x0)), (5, .v (.int .i64 (wr .i64 (c1 - v4)))), (9, .sl 1 (x1.map cdI.enc)), (10, .v (.int .i64 (x1.length : Int))), (11, .v (.int .i64 (wr .i64 (c2 + 1))))] [] (by kernel_rfl) ?_
          exact RunS.done rfl Wk.f1
        exact SemN.wk (s1 := ⟨Fr 32 [(0, .v (.int .i64 x0)), (5, .v (.int .i64 (wr .i64 (c1 - v4)))), (9, .sl 1 (x1.map cdI.enc)), (10, .v (.int .i64 (x1.length : Int))), (11, .v (.int .i64 (wr .i64 (c2 + 1))))], []⟩) Wk.f1 (ih (wr .i64 (c1 - v4)) (wr .i64 (c2 + 1)) h)
    · rw [if_f hb3] at h
      refine Sem.exit ?_
      have hq := Option.some.inj h; subst hq
      exact ⟨rfl, Wk.f1⟩
set_option maxHeartbeats 4000000 in
set_option maxRecDepth 100000 in
theorem evening_fit_sem (x0 : Int) (x1 : (List Int)) (r : Bool) (h : evening_fit x0 x1 = some r) : Sem e_evening_fit ⟨none, false⟩ cb_evening_fit ⟨Fr 32 (pairs0 0 (cs_evening_fit.enc (x0, x1, ()))), []⟩ fun e s' => (e = .normal ∨ e = .ret) ∧ ∃ xs, resA e_evening_fit.P s'.fr s'.hp Tryd.f67.results.toList = some xs ∧ retA xs = er_evening_fit r := by
  unfold evening_fit at h
  refine Sem.wkQ (Sem.wk (s1 := ⟨Fr 32 [(0, .v (.int .i64 x0)), (1, .sl 1 (x1.map cdI.enc))], []⟩) Wk.f1 ?_)
  refine Sem.seq ?_
  refine Sem.runS (s1 := ⟨Fr 32 [(0, .v (.int .i64 x0)), (1, .sl 1 (x1.map cdI.enc))], []⟩) ?_ ?_
  · refine RunS.segF (n := 32) e_evening_fit_ok 1 [(0, .v (.int .i64 x0)), (1, .sl 1 (x1.map cdI.enc))] [] (by kernel_rfl) ?_
    exact RunS.done rfl Wk.f1
  refine Sem.seq ?_
  refine Sem.runS (s1 := ⟨Fr 32 [(0, .v (.int .i64 x0)), (1, .sl 1 (x1.map cdI.enc)), (5, .v (.int .i64 x0))], []⟩) ?_ ?_
  · refine RunS.segF (n := 32) e_evening_fit_ok 2 [(0, .v (.int .i64 x0)), (1, .sl 1 (x1.map cdI.enc)), (5, .v (.int .i64 x0))] [] (by kernel_rfl) ?_
    exact RunS.done rfl Wk.f1
  refine Sem.seq ?_
  refine Sem.seq ?_
  refine Sem.runS (s1 := ⟨Fr 32 [(0, .v (.int .i64 x0)), (5, .v (.int .i64 x0)), (9, .sl 1 (x1.map cdI.enc)), (10, .v (.int .i64 (x1.length : Int))), (11, .v (.int .i64 0))], []⟩) ?_ ?_
  · refine RunS.segF (n := 32) e_evening_fit_ok 1 [(0, .v (.int .i64 x0)), (5, .v (.int .i64 x0)), (9, .sl 1 (x1.map cdI.enc))] [] (by kernel_rfl) ?_
    refine RunS.one e_evening_fit_ok 0 rfl (op_q (wantedA_none rfl) rfl (q_len (a := .sl 1 (x1.map cdI.enc)) (by kernel_rfl) (len_sl (el := 3) (by kernel_rfl)))) ?_
    refine RunS.segF (n := 32) e_evening_fit_ok 1 [(0, .v (.int .i64 x0)), (5, .v (.int .i64 x0)), (9, .sl 1 (x1.map cdI.enc)), (10, .v (.int .i64 (x1.length : Int))), (11, .v (.int .i64 0))] [] (by kernel_rfl) ?_
    exact RunS.done rfl Wk.f1
  refine Sem.block ?_
  obtain ⟨r11, hr11, h⟩ := Option.bind_eq_some_iff.1 h
  refine Sem.loop (n := 100000) ?_
  rcases r11 with w12 | w17
  · try dsimp only at h
    refine Sem.cutN (SemN.wk (s1 := ⟨Fr 32 [(0, .v (.int .i64 x0)), (5, .v (.int .i64 x0)), (9, .sl 1 (x1.map cdI.enc)), (10, .v (.int .i64 (x1.length : Int))), (11, .v (.int .i64 0))], []⟩) Wk.f1 (evening_fit_1_ok x0 x1 _ x0 0 _ hr11)) ?_
    refine Sem.seq ?_
    obtain ⟨v13, hv13, h⟩ := Option.bind_eq_some_iff.1 h
    obtain ⟨j15, hj15, h⟩ := Option.bind_eq_some_iff.1 h
    refine Sem.runS (s1 := ⟨Fr 32 [(4, .v (.bool j15))], []⟩) ?_ ?_
    · refine RunS.segF (n := 32) e_evening_fit_ok 1 [(5, .v (.int .i64 w12)), (26, .v (.int .i64 x0))] [] (by kernel_rfl) ?_
      refine RunS.call e_evening_fit_ok (fid := 82) (s := cs_evening_guests) (F := fun a => evening_guests a.1) (er := er_evening_guests) (xs := [.v (.int .i64 x0)]) (a := (x0, ())) rfl (wantedA_none rfl) (by kernel_rfl) (by kernel_rfl) (by kernel_rfl) (by kernel_rfl) (Sns.cons (Sn.enc (c := cdI) (v := x0)) Sns.nil) (.inl (by kernel_rfl)) hv13 ?_
      refine RunS.segF (n := 32) e_evening_fit_ok 1 [(5, .v (.int .i64 w12)), (28, .v (.bool v13))] [] (by kernel_rfl) ?_
      rcases Bool.eq_false_or_eq_true v13 with hc16 | hc16
      · rw [if_pos hc16] at hj15
        rw [hc16]
        refine RunS.segF (n := 32) e_evening_fit_ok 4 [(4, .v (.bool (w12 == 0)))] [] (by kernel_rfl) ?_
        have hq := Option.some.inj hj15; subst hq
        exact RunS.done rfl Wk.f1
      · rw [if_f hc16] at hj15
        rw [hc16]
        refine RunS.segF (n := 32) e_evening_fit_ok 4 [(4, .v (.bool false))] [] (by kernel_rfl) ?_
        have hq := Option.some.inj hj15; subst hq
        exact RunS.done rfl Wk.f1
    refine Sem.ret ?_
    have hq := Option.some.inj h; subst hq
    exact ⟨⟨Fr 32 [(4, .v (.bool j15))], []⟩, Wk.f1, .inr rfl, [.v (.bool j15)], (by kernel_rfl), (by kernel_rfl)⟩
  · try dsimp only at h
    refine Sem.cutN (SemN.wk (s1 := ⟨Fr 32 [(0, .v (.int .i64 x0)), (5, .v (.int .i64 x0)), (9, .sl 1 (x1.map cdI.enc)), (10, .v (.int .i64 (x1.length : Int))), (11, .v (.int .i64 0))], []⟩) Wk.f1 (evening_fit_1_ok x0 x1 _ x0 0 _ hr11)) ?_
    have hq := Option.some.inj h; subst hq
    exact ⟨⟨Fr 32 [(4, .v (.bool w17))], []⟩, Wk.f1, .inr rfl, [.v (.bool w17)], (by kernel_rfl), (by kernel_rfl)⟩
def t_evening_fit : List AV → Option AV := told cs_evening_fit (fun a => evening_fit a.1 a.2.1) er_evening_fit
theorem x_evening_fit : XOk 67 t_evening_fit := by
  refine EnvOk.x (E := e_evening_fit) (contract_ok e_evening_fit_ok (fn := Tryd.f67) (c := cb_evening_fit) ?h1 ?h2 ⟨Tryd.call67⟩ cs_evening_fit (fun a => evening_fit a.1 a.2.1) er_evening_fit (fun a => (by show 2 ≤ 32; decide)) ?h3 ?h4) rfl rfl
  case h1 => kernel_rfl
  case h2 => kernel_rfl
  case h3 => intro b; kernel_rfl
  case h4 => exact fun a b h => evening_fit_sem a.1 a.2.1 b h
/- trestle/evening.choose -/
noncomputable def e_evening_choose : Env := E0
theorem e_evening_choose_ok : EnvOk e_evening_choose := E0_ok
noncomputable def cb_evening_choose : Code := codeOf Tryd.f70
noncomputable def e_evening_choose_k1 : Env := E0
theorem e_evening_choose_k1_ok : EnvOk e_evening_choose_k1 := E0_ok
noncomputable def cb_evening_choose_k1 : Code := codeOf Tryd.f73
def evening_choose_k1 (y0 : Int) (y1 : (List Int)) (y2 : Int) (y3 : (List Int)) (y4 : Int) (y5 : Int) : Option (Int × Int × (List Int)) :=
  (idx y3 (wr .i64 ((wr .i64 (y4 * y2)) + y5))).bind fun v1 =>
  some (v1, y2, y3)
set_option maxHeartbeats 4000000 in
set_option maxRecDepth 100000 in
theorem evening_choose_k1_sem (y0 : Int) (y1 : (List Int)) (y2 : Int) (y3 : (List Int)) (y4 : Int) (y5 : Int) (r : Int × Int × (List Int)) (h : evening_choose_k1 y0 y1 y2 y3 y4 y5 = some r) : SemY e_evening_choose_k1 ⟨none, false⟩ cb_evening_choose_k1 ⟨Fr 16 (pairs0 0 [.ag [.v (.int .i64 y2), .sl 1 (y3.map cdI.enc)], .v (.int .i64 y4), .v (.int .i64 y5)]), [some ⟨2, 94, [.ag [.v (.int .i64 y0), .sl 1 (y1.map cdI.enc)]], false⟩]⟩ fun x s' => (x = .normal ∨ x = .ret) ∧ ∃ ys, resA e_evening_choose_k1.P s'.fr s'.hp Tryd.f73.results.toList = some ys ∧ (retA ys = .pe (.v (.int .i64 r.1)) 0 ∧ s'.hp = [some ⟨2, 94, [.ag [.v (.int .i64 y0), .sl 1 (y1.map cdI.enc)]], false⟩, some ⟨2, 94, [.ag [.v (.int .i64 r.2.1), .sl 1 (r.2.2.map cdI.enc)]], false⟩]) := by
  unfold evening_choose_k1 at h
  refine SemY.seq ?_
  refine SemY.region ?_
  refine RunY.segF (n := 16) e_evening_choose_k1_ok 2 [(1, .v (.int .i64 y4)), (2, .v (.int .i64 y5)), (3, .pt 1 0 0)] [some ⟨2, 94, [.ag [.v (.int .i64 y0), .sl 1 (y1.map cdI.enc)]], false⟩, some ⟨2, 94, [.ag [.v (.int .i64 y2), .sl 1 (y3.map cdI.enc)]], false⟩] (by kernel_rfl) ?_
  refine RunY.done rfl (SemY.fr (l' := [(1, .v (.int .i64 y4)), (2, .v (.int .i64 y5)), (3, .pt 1 0 0)]) (by kernel_rfl) ?_)
  refine SemY.seq ?_
  refine SemY.region ?_
  refine RunY.segF (n := 16) e_evening_choose_k1_ok 8 [(8, .sl 1 (y3.map cdI.enc)), (14, .v (.int .i64 (wr .i64 ((wr .i64 (y4 * y2)) + y5))))] [some ⟨2, 94, [.ag [.v (.int .i64 y0), .sl 1 (y1.map cdI.enc)]], false⟩, some ⟨2, 94, [.ag [.v (.int .i64 y2), .sl 1 (y3.map cdI.enc)]], false⟩] (by kernel_rfl) ?_
  obtain ⟨v1, hv1, h⟩ := Option.bind_eq_some_iff.1 h
  refine RunY.one e_evening_choose_k1_ok 0 rfl (op_q (wantedA_none rfl) rfl (q_indexAddr (a := .sl 1 (y3.map cdI.enc)) (b := .v (.int .i64 (wr .i64 ((wr .i64 (y4 * y2)) + y5)))) (by kernel_rfl) (by kernel_rfl) (ix_sl (e := cdI.enc) (el := 3) (k := 1) (ki := .i64) (by kernel_rfl) (by kernel_rfl) hv1))) ?_
  refine RunY.segF (n := 16) e_evening_choose_k1_ok 1 [(6, .pe (.v (.int .i64 v1)) 0)] [some ⟨2, 94, [.ag [.v (.int .i64 y0), .sl 1 (y1.map cdI.enc)]], false⟩, some ⟨2, 94, [.ag [.v (.int .i64 y2), .sl 1 (y3.map cdI.enc)]], false⟩] (by kernel_rfl) ?_
  refine RunY.done rfl (SemY.fr (l' := [(6, .pe (.v (.int .i64 v1)) 0)]) (by kernel_rfl) ?_)
  refine SemY.ret ?_
  have hq := Option.some.inj h; subst hq
  exact ⟨.inr rfl, [.pe (.v (.int .i64 v1)) 0], (by kernel_rfl), (by kernel_rfl), (by kernel_rfl)⟩
def evening_choose_2 (x1 : (List Int)) (x2 : (List Int)) (c1 : Int) (c2 : (List Int)) (c3 : Int) (c4 : Int) (c5 : Int) (c6 : Int) (v8 : Int) : Nat → Int → Int → Int → Option ((Int × Int))
  | 0, _, _, _ => none
  | f + 1, c22, c23, c24 =>
    if (decide (c24 < (x1.length : Int))) = true then
    (idx x1 c24).bind fun v26 =>
    (evening_choose_k1 c1 c2 c1 c2 v8 v26).bind fun v27 =>
    (evening_choose_k1 c1 c2 c1 c2 v8 v26).bind fun v28 =>
    evening_choose_2 x1 x2 c1 c2 c3 c4 c5 c6 v8 f (mxI c22 v27.1) (wr .i64 (c23 + v28.1)) (wr .i64 (c24 + 1))
    else
    some (c22, c23)
def evening_choose_j3 (x1 : (List Int)) (x2 : (List Int)) (c3 : Int) (c4 : Int) (c5 : Int) (c6 : Int) (r31 : Int × Int) (j35 : Int × (List Int) × Bool) : Option ((Int × Int × Int)) :=
  if j35.2.2 = true then
  some (c6, r31.1, r31.2)
  else
  some (c3, c4, c5)
def evening_choose_1 (x1 : (List Int)) (x2 : (List Int)) : Nat → Int → (List Int) → Int → Int → Int → Int → Option ((Int))
  | 0, _, _, _, _, _, _ => none
  | f + 1, c1, c2, c3, c4, c5, c6 =>
    if (decide (c6 < (x2.length : Int))) = true then
    (idx x2 c6).bind fun v8 =>
    (evening_choose_2 x1 x2 c1 c2 c3 c4 c5 c6 v8 100000 0 0 0).bind fun r31 =>
    (if (decide (c3 < 0)) = true then some (c1, c2, true) else if (decide (r31.1 < c4)) = true then some (c1, c2, true) else if (r31.1 == c4) = true then some (c1, c2, (decide (r31.2 < c5))) else some (c1, c2, false)).bind fun j35 =>
    (evening_choose_j3 x1 x2 c3 c4 c5 c6 r31 j35).bind fun r40 =>
    evening_choose_1 x1 x2 f j35.1 j35.2.1 r40.1 r40.2.1 r40.2.2 (wr .i64 (c6 + 1))
    else
    some c3
def evening_choose (x0 : (Int × (List Int))) (x1 : (List Int)) (x2 : (List Int)) : Option (Int) :=
  (evening_choose_1 x1 x2 100000 x0.1 x0.2 (-1) 0 0 0).bind fun r45 =>
  some r45
def cs_evening_choose : Cs ((Int × (List Int)) × (List Int) × (List Int) × Unit) := (csC (cdG2 cdI (cdL 1 cdI) (fun _ => rfl) (fun _ => rfl)) (csC (cdL 1 cdI) (csC (cdL 1 cdI) csN)))
def er_evening_choose (r : Int) : AV := cdI.enc r
set_option maxHeartbeats 4000000 in
set_option maxRecDepth 100000 in
theorem evening_choose_2_ok (x1 : (List Int)) (x2 : (List Int)) (c1 : Int) (c2 : (List Int)) (c3 : Int) (c4 : Int) (c5 : Int) (c6 : Int) (v8 : Int) : ∀ (f : Nat) (c22 : Int) (c23 : Int) (c24 : Int) (r : (Int × Int)), evening_choose_2 x1 x2 c1 c2 c3 c4 c5 c6 v8 f c22 c23 c24 = some r → SemN e_evening_choose ⟨none, false⟩ (pc cb_evening_choose [1, 1, 0, 1, 0, 0, 1, 1, 0, 0, 1, 1, 0, 1, 0, 0]) f ⟨Fr 68 [(1, .sl 1 (x1.map cdI.enc)), (3, .pt 0 0 0), (7, .v (.int .i64 c3)), (8, .v (.int .i64 c4)), (9, .v (.int .i64 c5)), (10, .v (.int .i64 c6)), (11, .v (.int .i64 v8)), (12, .v (.int .i64 c22)), (13, .v (.int .i64 c23)), (16, .sl 1 (x2.map cdI.enc)), (17, .v (.int .i64 (x2.length : Int))), (18, .v (.int .i64 c6)), (23, .sl 1 (x1.map cdI.enc)), (24, .v (.int .i64 (x1.length : Int))), (25, .v (.int .i64 c24))], [some ⟨2, 94, [.ag [.v (.int .i64 c1), .sl 1 (c2.map cdI.enc)]], false⟩]⟩ (fun e s => e = (.exit 2) ∧ Wk e_evening_choose s ⟨Fr 68 [(1, .sl 1 (x1.map cdI.enc)), (3, .pt 0 0 0), (7, .v (.int .i64 c3)), (8, .v (.int .i64 c4)), (9, .v (.int .i64 c5)), (10, .v (.int .i64 c6)), (12, .v (.int .i64 r.1)), (13, .v (.int .i64 r.2)), (16, .sl 1 (x2.map cdI.enc)), (17, .v (.int .i64 (x2.length : Int))), (18, .v (.int .i64 c6))], [some ⟨2, 94, [.ag [.v (.int .i64 c1), .sl 1 (c2.map cdI.enc)]], false⟩]⟩) := by
  intro f
  induction f with
  | zero => intro c22 c23 c24 r h; cases h
  | succ f ih0 =>
    intro c22 c23 c24 r h
    have ih := fun (c22 : Int) (c23 : Int) (c24 : Int) => ih0 c22 c23 c24 r
    unfold evening_choose_2 at h
    refine SemN.succ ?_
    refine Sem.seq ?_
    refine Sem.runS (s1 := ⟨Fr 68 [(1, .sl 1 (x1.map cdI.enc)), (3, .pt 0 0 0), (7, .v (.int .i64 c3)), (8, .v (.int .i64 c4)), (9, .v (.int .i64 c5)), (10, .v (.int .i64 c6)), (11, .v (.int .i64 v8)), (12, .v (.int .i64 c22)), (13, .v (.int .i64 c23)), (16, .sl 1 (x2.map cdI.enc)), (17, .v (.int .i64 (x2.length : Int))), (18, .v (.int .i64 c6)), (23, .sl 1 (x1.map cdI.enc)), (24, .v (.int .i64 (x1.length : Int))), (25, .v (.int .i64 c24)), (26, .v (.bool (decide (c24 < (x1.length : Int)))))], [some ⟨2, 94, [.ag [.v (.int .i64 c1), .sl 1 (c2.map cdI.enc)]], false⟩]⟩) ?_ ?_
    · refine RunS.segF (n := 68) e_evening_choose_ok 1 [(1, .sl 1 (x1.map cdI.enc)), (3, .pt 0 0 0), (7, .v (.int .i64 c3)), (8, .v (.int .i64 c4)), (9, .v (.int .i64 c5)), (10, .v (.int .i64 c6)), (11, .v (.int .i64 v8)), (12, .v (.int .i64 c22)), (13, .v (.int .i64 c23)), (16, .sl 1 (x2.map cdI.enc)), (17, .v (.int .i64 (x2.length : Int))), (18, .v (.int .i64 c6)), (23, .sl 1 (x1.map cdI.enc)), (24, .v (.int .i64 (x1.length : Int))), (25, .v (.int .i64 c24)), (26, .v (.bool (decide (c24 < (x1.length : Int)))))] [some ⟨2, 94, [.ag [.v (.int .i64 c1), .sl 1 (c2.map cdI.enc)]], false⟩] (by kernel_rfl) ?_
      exact RunS.done rfl (Wk.s3 [0] ⟨⟨_, rfl, bu_d⟩, trivial⟩ ⟨lv, lv, lv, lv, lv, lv, lv, lv, lv, lv, lv, lv, lv, lv, lv, lv, trivial⟩)
    refine Sem.seq ?_
    refine Sem.cond (b := (decide (c24 < (x1.length : Int)))) (by kernel_rfl) (fun hb25 => ?_) (fun hb25 => ?_)
    · rw [if_pos hb25] at h
      refine Sem.skip ?_
      refine Sem.seq ?_
      refine Sem.block ?_
      refine Sem.seq ?_
      obtain ⟨v26, hv26, h⟩ := Option.bind_eq_some_iff.1 h
      refine Sem.runS (s1 := ⟨Fr 68 [(1, .sl 1 (x1.map cdI.enc)), (3, .pt 0 0 0), (7, .v (.int .i64 c3)), (8, .v (.int .i64 c4)), (9, .v (.int .i64 c5)), (10, .v (.int .i64 c6)), (11, .v (.int .i64 v8)), (12, .v (.int .i64 c22)), (13, .v (.int .i64 c23)), (15, .v (.int .i64 v26)), (16, .sl 1 (x2.map cdI.enc)), (17, .v (.int .i64 (x2.length : Int))), (18, .v (.int .i64 c6)), (23, .sl 1 (x1.map cdI.enc)), (24, .v (.int .i64 (x1.length : Int))), (25, .v (.int .i64 c24))], [some ⟨2, 94, [.ag [.v (.int .i64 c1), .sl 1 (c2.map cdI.enc)]], false⟩]⟩) ?_ ?_
      · refine RunS.one e_evening_choose_ok 0 rfl (op_q (wantedA_none rfl) rfl (q_indexAddr (a := .sl 1 (x1.map cdI.enc)) (b := .v (.int .i64 c24)) (by kernel_rfl) (by kernel_rfl) (ix_sl (e := cdI.enc) (el := 3) (k := 1) (ki := .i64) (by kernel_rfl) (by kernel_rfl) hv26))) ?_
        refine RunS.segF (n := 68) e_evening_choose_ok 2 [(1, .sl 1 (x1.map cdI.enc)), (3, .pt 0 0 0), (7, .v (.int .i64 c3)), (8, .v (.int .i64 c4)), (9, .v (.int .i64 c5)), (10, .v (.int .i64 c6)), (11, .v (.int .i64 v8)), (12, .v (.int .i64 c22)), (13, .v (.int .i64 c23)), (15, .v (.int .i64 v26)), (16, .sl 1 (x2.map cdI.enc)), (17, .v (.int .i64 (x2.length : Int))), (18, .v (.int .i64 c6)), (23, .sl 1 (x1.map cdI.enc)), (24, .v (.int .i64 (x1.length : Int))), (25, .v (.int .i64 c24))] [some ⟨2, 94, [.ag [.v (.int .i64 c1), .sl 1 (c2.map cdI.enc)]], false⟩] (by kernel_rfl) ?_
        exact RunS.done rfl (Wk.s3 [0] ⟨⟨_, rfl, bu_d⟩, trivial⟩ ⟨lv, lv, lv, lv, lv, lv, lv, lv, lv, lv, lv, lv, lv, lv, lv, lv, trivial⟩)
      refine Sem.seq ?_
      obtain ⟨v27, hv27, h⟩ := Option.bind_eq_some_iff.1 h
      refine Sem.runS (s1 := ⟨Fr 68 [(1, .sl 1 (x1.map cdI.enc)), (3, .pt 0 0 0), (7, .v (.int .i64 c3)), (8, .v (.int .i64 c4)), (9, .v (.int .i64 c5)), (10, .v (.int .i64 c6)), (11, .v (.int .i64 v8)), (12, .v (.int .i64 (mxI c22 v27.1))), (13, .v (.int .i64 c23)), (15, .v (.int .i64 v26)), (16, .sl 1 (x2.map cdI.enc)), (17, .v (.int .i64 (x2.length : Int))), (18, .v (.int .i64 c6)), (23, .sl 1 (x1.map cdI.enc)), (24, .v (.int .i64 (x1.length : Int))), (25, .v (.int .i64 c24))], [some ⟨2, 94, [.ag [.v (.int .i64 c1), .sl 1 (c2.map cdI.enc)]], false⟩]⟩) ?_ ?_
      · refine RunS.segF (n := 68) e_evening_choose_ok 4 [(1, .sl 1 (x1.map cdI.enc)), (3, .pt 0 0 0), (7, .v (.int .i64 c3)), (8, .v (.int .i64 c4)), (9, .v (.int .i64 c5)), (10, .v (.int .i64 c6)), (11, .v (.int .i64 v8)), (13, .v (.int .i64 c23)), (15, .v (.int .i64 v26)), (16, .sl 1 (x2.map cdI.enc)), (17, .v (.int .i64 (x2.length : Int))), (18, .v (.int .i64 c6)), (23, .sl 1 (x1.map cdI.enc)), (24, .v (.int .i64 (x1.length : Int))), (25, .v (.int .i64 c24)), (29, .v (.int .i64 c22)), (30, .ag [.v (.int .i64 c1), .sl 1 (c2.map cdI.enc)]), (31, .v (.int .i64 v8)), (32, .v (.int .i64 v26))] [some ⟨2, 94, [.ag [.v (.int .i64 c1), .sl 1 (c2.map cdI.enc)]], false⟩] (by kernel_rfl) ?_
        refine RunS.inlY (fid := 73) (caps := []) (xs := [.ag [.v (.int .i64 c1), .sl 1 (c2.map cdI.enc)], .v (.int .i64 v8), .v (.int .i64 v26)]) (fn := Tryd.f73) (Out := fun x h' => x = .pe (.v (.int .i64 v27.1)) 0 ∧ h' = [some ⟨2, 94, [.ag [.v (.int .i64 c1), .sl 1 (c2.map cdI.enc)]], false⟩, some ⟨2, 94, [.ag [.v (.int .i64 v27.2.1), .sl 1 (v27.2.2.map cdI.enc)]], false⟩]) rfl rfl e_evening_choose_k1_ok rfl rfl rfl (wantedA_none rfl) (by kernel_rfl) (by kernel_rfl) (by kernel_rfl) (by kernel_rfl) (by show 3 ≤ 16; decide) (evening_choose_k1_sem c1 c2 c1 c2 v8 v26 _ hv27) ?_
        rintro x h' ⟨rfl, rfl⟩
        refine RunS.segF (n := 68) e_evening_choose_ok 4 [(1, .sl 1 (x1.map cdI.enc)), (3, .pt 0 0 0), (7, .v (.int .i64 c3)), (8, .v (.int .i64 c4)), (9, .v (.int .i64 c5)), (10, .v (.int .i64 c6)), (11, .v (.int .i64 v8)), (12, .v (.int .i64 (mxI c22 v27.1))), (13, .v (.int .i64 c23)), (15, .v (.int .i64 v26)), (16, .sl 1 (x2.map cdI.enc)), (17, .v (.int .i64 (x2.length : Int))), (18, .v (.int .i64 c6)), (23, .sl 1 (x1.map cdI.enc)), (24, .v (.int .i64 (x1.length : Int))), (25, .v (.int .i64 c24))] [some ⟨2, 94, [.ag [.v (.int .i64 c1), .sl 1 (c2.map cdI.enc)]], false⟩, some ⟨2, 94, [.ag [.v (.int .i64 v27.2.1), .sl 1 (v27.2.2.map cdI.enc)]], false⟩] (by kernel_rfl) ?_
        exact RunS.done rfl (Wk.s3 [0] ⟨⟨_, rfl, bu_d⟩, trivial⟩ ⟨lv, lv, lv, lv, lv, lv, lv, lv, lv, lv, lv, lv, lv, lv, lv, lv, trivial⟩)
      obtain ⟨v28, hv28, h⟩ := Option.bind_eq_some_iff.1 h
      refine Sem.runS (s1 := ⟨Fr 68 [(1, .sl 1 (x1.map cdI.enc)), (3, .pt 0 0 0), (7, .v (.int .i64 c3)), (8, .v (.int .i64 c4)), (9, .v (.int .i64 c5)), (10, .v (.int .i64 c6)), (11, .v (.int .i64 v8)), (12, .v (.int .i64 (mxI c22 v27.1))), (13, .v (.int .i64 (wr .i64 (c23 + v28.1)))), (16, .sl 1 (x2.map cdI.enc)), (17, .v (.int .i64 (x2.length : Int))), (18, .v (.int .i64 c6)), (23, .sl 1 (x1.map cdI.enc)), (24, .v (.int .i64 (x1.length : Int))), (25, .v (.int .i64 c24))], [some ⟨2, 94, [.ag [.v (.int .i64 c1), .sl 1 (c2.map cdI.enc)]], false⟩]⟩) ?_ ?_
      · refine RunS.segF (n := 68) e_evening_choose_ok 4 [(1, .sl 1 (x1.map cdI.enc)), (3, .pt 0 0 0), (7, .v (.int .i64 c3)), (8, .v (.int .i64 c4)), (9, .v (.int .i64 c5)), (10, .v (.int .i64 c6)), (11, .v (.int .i64 v8)), (12, .v (.int .i64 (mxI c22 v27.1))), (16, .sl 1 (x2.map cdI.enc)), (17, .v (.int .i64 (x2.length : Int))), (18, .v (.int .i64 c6)), (23, .sl 1 (x1.map cdI.enc)), (24, .v (.int .i64 (x1.length : Int))), (25, .v (.int .i64 c24)), (37, .v (.int .i64 c23)), (38, .ag [.v (.int .i64 c1), .sl 1 (c2.map cdI.enc)]), (39, .v (.int .i64 v8)), (40, .v (.int .i64 v26))] [some ⟨2, 94, [.ag [.v (.int .i64 c1), .sl 1 (c2.map cdI.enc)]], false⟩] (by kernel_rfl) ?_
        refine RunS.inlY (fid := 73) (caps := []) (xs := [.ag [.v (.int .i64 c1), .sl 1 (c2.map cdI.enc)], .v (.int .i64 v8), .v (.int .i64 v26)]) (fn := Tryd.f73) (Out := fun x h' => x = .pe (.v (.int .i64 v28.1)) 0 ∧ h' = [some ⟨2, 94, [.ag [.v (.int .i64 c1), .sl 1 (c2.map cdI.enc)]], false⟩, some ⟨2, 94, [.ag [.v (.int .i64 v28.2.1), .sl 1 (v28.2.2.map cdI.enc)]], false⟩]) rfl rfl e_evening_choose_k1_ok rfl rfl rfl (wantedA_none rfl) (by kernel_rfl) (by kernel_rfl) (by kernel_rfl) (by kernel_rfl) (by show 3 ≤ 16; decide) (evening_choose_k1_sem c1 c2 c1 c2 v8 v26 _ hv28) ?_
        rintro x h' ⟨rfl, rfl⟩
        refine RunS.segF (n := 68) e_evening_choose_ok 4 [(1, .sl 1 (x1.map cdI.enc)), (3, .pt 0 0 0), (7, .v (.int .i64 c3)), (8, .v (.int .i64 c4)), (9, .v (.int .i64 c5)), (10, .v (.int .i64 c6)), (11, .v (.int .i64 v8)), (12, .v (.int .i64 (mxI c22 v27.1))), (13, .v (.int .i64 (wr .i64 (c23 + v28.1)))), (16, .sl 1 (x2.map cdI.enc)), (17, .v (.int .i64 (x2.length : Int))), (18, .v (.int .i64 c6)), (23, .sl 1 (x1.map cdI.enc)), (24, .v (.int .i64 (x1.length : Int))), (25, .v (.int .i64 c24))] [some ⟨2, 94, [.ag [.v (.int .i64 c1), .sl 1 (c2.map cdI.enc)]], false⟩, some ⟨2, 94, [.ag [.v (.int .i64 v28.2.1), .sl 1 (v28.2.2.map cdI.enc)]], false⟩] (by kernel_rfl) ?_
        exact RunS.done rfl (Wk.s3 [0] ⟨⟨_, rfl, bu_d⟩, trivial⟩ ⟨lv, lv, lv, lv, lv, lv, lv, lv, lv, lv, lv, lv, lv, lv, lv, trivial⟩)
      refine Sem.runS (s1 := ⟨Fr 68 [(1, .sl 1 (x1.map cdI.enc)), (3, .pt 0 0 0), (7, .v (.int .i64 c3)), (8, .v (.int .i64 c4)), (9, .v (.int .i64 c5)), (10, .v (.int .i64 c6)), (11, .v (.int .i64 v8)), (12, .v (.int .i64 (mxI c22 v27.1))), (13, .v (.int .i64 (wr .i64 (c23 + v28.1)))), (16, .sl 1 (x2.map cdI.enc)), (17, .v (.int .i64 (x2.length : Int))), (18, .v (.int .i64 c6)), (23, .sl 1 (x1.map cdI.enc)), (24, .v (.int .i64 (x1.length : Int))), (25, .v (.int .i64 (wr .i64 (c24 + 1))))], [some ⟨2, 94, [.ag [.v (.int .i64 c1), .sl 1 (c2.map cdI.enc)]], false⟩]⟩) ?_ ?_
      · refine RunS.segF (n := 68) e_evening_choose_ok 2 [(1, .sl 1 (x1.map cdI.enc)), (3, .pt 0 0 0), (7, .v (.int .i64 c3)), (8, .v (.int .i64 c4)), (9, .v (.int .i64 c5)), (10, .v (.int .i64 c6)), (11, .v (.int .i64 v8)), (12, .v (.int .i64 (mxI c22 v27.1))), (13, .v (.int .i64 (wr .i64 (c23 + v28.1)))), (16, .sl 1 (x2.map cdI.enc)), (17, .v (.int .i64 (x2.length : Int))), (18, .v (.int .i64 c6)), (23, .sl 1 (x1.map cdI.enc)), (24, .v (.int .i64 (x1.length : Int))), (25, .v (.int .i64 (wr .i64 (c24 + 1))))] [some ⟨2, 94, [.ag [.v (.int .i64 c1), .sl 1 (c2.map cdI.enc)]], false⟩] (by kernel_rfl) ?_
        exact RunS.done rfl (Wk.s3 [0] ⟨⟨_, rfl, bu_d⟩, trivial⟩ ⟨lv, lv, lv, lv, lv, lv, lv, lv, lv, lv, lv, lv, lv, lv, lv, trivial⟩)
      exact SemN.wk (s1 := ⟨Fr 68 [(1, .sl 1 (x1.map cdI.enc)), (3, .pt 0 0 0), (7, .v (.int .i64 c3)), (8, .v (.int .i64 c4)), (9, .v (.int .i64 c5)), (10, .v (.int .i64 c6)), (11, .v (.int .i64 v8)), (12, .v (.int .i64 (mxI c22 v27.1))), (13, .v (.int .i64 (wr .i64 (c23 + v28.1)))), (16, .sl 1 (x2.map cdI.enc)), (17, .v (.int .i64 (x2.length : Int))), (18, .v (.int .i64 c6)), (23, .sl 1 (x1.map cdI.enc)), (24, .v (.int .i64 (x1.length : Int))), (25, .v (.int .i64 (wr .i64 (c24 + 1))))], [some ⟨2, 94, [.ag [.v (.int .i64 c1), .sl 1 (c2.map cdI.enc)]], false⟩]⟩) (Wk.s3 [0] ⟨⟨_, rfl, bu_d⟩, trivial⟩ ⟨lv, lv, lv, lv, lv, lv, lv, lv, lv, lv, lv, lv, lv, lv, lv, trivial⟩) (ih (mxI c22 v27.1) (wr .i64 (c23 + v28.1)) (wr .i64 (c24 + 1)) h)
    · rw [if_f hb25] at h
      refine Sem.exit ?_
      have hq := Option.some.inj h; subst hq
      exact ⟨rfl, (Wk.s3 [0] ⟨⟨_, rfl, bu_d⟩, trivial⟩ ⟨lv, lv, lv, lv, lv, lv, lv, lv, lv, lv, lv, trivial⟩)⟩
set_option maxHeartbeats 4000000 in
set_option maxRecDepth 100000 in
theorem evening_choose_j3_ok (x1 : (List Int)) (x2 : (List Int)) (c3 : Int) (c4 : Int) (c5 : Int) (c6 : Int) (r31 : Int × Int) (j35 : Int × (List Int) × Bool) (r : (Int × Int × Int)) (h : evening_choose_j3 x1 x2 c3 c4 c5 c6 r31 j35 = some r) : Sem e_evening_choose ⟨none, false⟩ (pc cb_evening_choose [1, 1, 0, 1, 0, 0, 1, 1, 0, 0, 1, 1, 1, 1]) ⟨Fr 68 [(1, .sl 1 (x1.map cdI.enc)), (3, .pt 0 0 0), (7, .v (.int .i64 c3)), (8, .v (.int .i64 c4)), (9, .v (.int .i64 c5)), (10, .v (.int .i64 c6)), (12, .v (.int .i64 r31.1)), (13, .v (.int .i64 r31.2)), (16, .sl 1 (x2.map cdI.enc)), (17, .v (.int .i64 (x2.length : Int))), (18, .v (.int .i64 c6)), (62, .v (.bool j35.2.2))], [some ⟨2, 94, [.ag [.v (.int .i64 j35.1), .sl 1 (j35.2.1.map cdI.enc)]], false⟩]⟩ (fun e s => e = .normal ∧ Wk e_evening_choose s ⟨Fr 68 [(1, .sl 1 (x1.map cdI.enc)), (3, .pt 0 0 0), (7, .v (.int .i64 r.1)), (8, .v (.int .i64 r.2.1)), (9, .v (.int .i64 r.2.2)), (16, .sl 1 (x2.map cdI.enc)), (17, .v (.int .i64 (x2.length : Int))), (18, .v (.int .i64 c6))], [some ⟨2, 94, [.ag [.v (.int .i64 j35.1), .sl 1 (j35.2.1.map cdI.enc)]], false⟩]⟩) := by
  unfold evening_choose_j3 at h
  refine Sem.cond (b := j35.2.2) (by kernel_rfl) (fun hb36 => ?_) (fun hb36 => ?_)
  · rw [if_pos hb36] at h
    refine Sem.runS (s1 := ⟨Fr 68 [(1, .sl 1 (x1.map cdI.enc)), (3, .pt 0 0 0), (7, .v (.int .i64 c6)), (8, .v (.int .i64 r31.1)), (9, .v (.int .i64 r31.2)), (16, .sl 1 (x2.map cdI.enc)), (17, .v (.int .i64 (x2.length : Int))), (18, .v (.int .i64 c6))], [some ⟨2, 94, [.ag [.v (.int .i64 j35.1), .sl 1 (j35.2.1.map cdI.enc)]], false⟩]⟩) ?_ ?_
    · refine RunS.segF (n := 68) e_evening_choose_ok 6 [(1, .sl 1 (x1.map cdI.enc)), (3, .pt 0 0 0), (7, .v (.int .i64 c6)), (8, .v (.int .i64 r31.1)), (9, .v (.int .i64 r31.2)), (16, .sl 1 (x2.map cdI.enc)), (17, .v (.int .i64 (x2.length : Int))), (18, .v (.int .i64 c6))] [some ⟨2, 94, [.ag [.v (.int .i64 j35.1), .sl 1 (j35.2.1.map cdI.enc)]], false⟩] (by kernel_rfl) ?_
      exact RunS.done rfl (Wk.s3 [0] ⟨⟨_, rfl, bu_d⟩, trivial⟩ ⟨lv, lv, lv, lv, lv, lv, lv, lv, trivial⟩)
    have hq := Option.some.inj h; subst hq
    exact ⟨rfl, (Wk.s3 [0] ⟨⟨_, rfl, bu_d⟩, trivial⟩ ⟨lv, lv, lv, lv, lv, lv, lv, lv, trivial⟩)⟩
  · rw [if_f hb36] at h
    refine Sem.skip ?_
    have hq := Option.some.inj h; subst hq
    exact ⟨rfl, (Wk.s3 [0] ⟨⟨_, rfl, bu_d⟩, trivial⟩ ⟨lv, lv, lv, lv, lv, lv, lv, lv, trivial⟩)⟩
set_option maxHeartbeats 4000000 in
set_option maxRecDepth 100000 in
theorem evening_choose_1_ok (x1 : (List Int)) (x2 : (List Int)) : ∀ (f : Nat) (c1 : Int) (c2 : (List Int)) (c3 : Int) (c4 : Int) (c5 : Int) (c6 : Int) (r : (Int)), evening_choose_1 x1 x2 f c1 c2 c3 c4 c5 c6 = some r → SemN e_evening_choose ⟨none, false⟩ (pc cb_evening_choose [1, 1, 0, 1, 0, 0]) f ⟨Fr 68 [(1, .sl 1 (x1.map cdI.enc)), (3, .pt 0 0 0), (7, .v (.int .i64 c3)), (8, .v (.int .i64 c4)), (9, .v (.int .i64 c5)), (16, .sl 1 (x2.map cdI.enc)), (17, .v (.int .i64 (x2.length : Int))), (18, .v (.int .i64 c6))], [some ⟨2, 94, [.ag [.v (.int .i64 c1), .sl 1 (c2.map cdI.enc)]], false⟩]⟩ (fun e s => e = (.exit 0) ∧ Wk e_evening_choose s ⟨Fr 68 [(7, .v (.int .i64 r))], []⟩) := by
  intro f
  induction f with
  | zero => intro c1 c2 c3 c4 c5 c6 r h; cases h
  | succ f ih0 =>
    intro c1 c2 c3 c4 c5 c6 r h
    have ih := fun (c1 : Int) (c2 : (List Int)) (c3 : Int) (c4 : Int) (c5 : Int) (c6 : Int) => ih0 c1 c2 c3 c4 c5 c6 r
    unfold evening_choose_1 at h
    refine SemN.succ ?_
    refine Sem.seq ?_
    refine Sem.runS (s1 := ⟨Fr 68 [(1, .sl 1 (x1.map cdI.enc)), (3, .pt 0 0 0), (7, .v (.int .i64 c3)), (8, .v (.int .i64 c4)), (9, .v (.int .i64 c5)), (16, .sl 1 (x2.map cdI.enc)), (17, .v (.int .i64 (x2.length : Int))), (18, .v (.int .i64 c6)), (19, .v (.bool (decide (c6 < (x2.length : Int)))))], [some ⟨2, 94, [.ag [.v (.int .i64 c1), .sl 1 (c2.map cdI.enc)]], false⟩]⟩) ?_ ?_
    · refine RunS.segF (n := 68) e_evening_choose_ok 1 [(1, .sl 1 (x1.map cdI.enc)), (3, .pt 0 0 0), (7, .v (.int .i64 c3)), (8, .v (.int .i64 c4)), (9, .v (.int .i64 c5)), (16, .sl 1 (x2.map cdI.enc)), (17, .v (.int .i64 (x2.length : Int))), (18, .v (.int .i64 c6)), (19, .v (.bool (decide (c6 < (x2.length : Int)))))] [some ⟨2, 94, [.ag [.v (.int .i64 c1), .sl 1 (c2.map cdI.enc)]], false⟩] (by kernel_rfl) ?_
      exact RunS.done rfl (Wk.s3 [0] ⟨⟨_, rfl, bu_d⟩, trivial⟩ ⟨lv, lv, lv, lv, lv, lv, lv, lv, lv, trivial⟩)
    refine Sem.seq ?_
    refine Sem.cond (b := (decide (c6 < (x2.length : Int)))) (by kernel_rfl) (fun hb7 => ?_) (fun hb7 => ?_)
    · rw [if_pos hb7] at h
      refine Sem.skip ?_
      refine Sem.seq ?_
      refine Sem.block ?_
      refine Sem.seq ?_
      obtain ⟨v8, hv8, h⟩ := Option.bind_eq_some_iff.1 h
      refine Sem.runS (s1 := ⟨Fr 68 [(1, .sl 1 (x1.map cdI.enc)), (3, .pt 0 0 0), (7, .v (.int .i64 c3)), (8, .v (.int .i64 c4)), (9, .v (.int .i64 c5)), (10, .v (.int .i64 c6)), (11, .v (.int .i64 v8)), (16, .sl 1 (x2.map cdI.enc)), (17, .v (.int .i64 (x2.length : Int))), (18, .v (.int .i64 c6))], [some ⟨2, 94, [.ag [.v (.int .i64 c1), .sl 1 (c2.map cdI.enc)]], false⟩]⟩) ?_ ?_
      · refine RunS.segF (n := 68) e_evening_choose_ok 1 [(1, .sl 1 (x1.map cdI.enc)), (3, .pt 0 0 0), (7, .v (.int .i64 c3)), (8, .v (.int .i64 c4)), (9, .v (.int .i64 c5)), (16, .sl 1 (x2.map cdI.enc)), (17, .v (.int .i64 (x2.length : Int))), (18, .v (.int .i64 c6)), (20, .v (.int .i64 c6))] [some ⟨2, 94, [.ag [.v (.int .i64 c1), .sl 1 (c2.map cdI.enc)]], false⟩] (by kernel_rfl) ?_
        refine RunS.one e_evening_choose_ok 0 rfl (op_q (wantedA_none rfl) rfl (q_indexAddr (a := .sl 1 (x2.map cdI.enc)) (b := .v (.int .i64 c6)) (by kernel_rfl) (by kernel_rfl) (ix_sl (e := cdI.enc) (el := 3) (k := 1) (ki := .i64) (by kernel_rfl) (by kernel_rfl) hv8))) ?_
        refine RunS.segF (n := 68) e_evening_choose_ok 3 [(1, .sl 1 (x1.map cdI.enc)), (3, .pt 0 0 0), (7, .v (.int .i64 c3)), (8, .v (.int .i64 c4)), (9, .v (.int .i64 c5)), (10, .v (.int .i64 c6)), (11, .v (.int .i64 v8)), (16, .sl 1 (x2.map cdI.enc)), (17, .v (.int .i64 (x2.length : Int))), (18, .v (.int .i64 c6))] [some ⟨2, 94, [.ag [.v (.int .i64 c1), .sl 1 (c2.map cdI.enc)]], false⟩] (by kernel_rfl) ?_
        exact RunS.done rfl (Wk.s3 [0] ⟨⟨_, rfl, bu_d⟩, trivial⟩ ⟨lv, lv, lv, lv, lv, lv, lv, lv, lv, lv, trivial⟩)
      refine Sem.seq ?_
      refine Sem.runS (s1 := ⟨Fr 68 [(1, .sl 1 (x1.map cdI.enc)), (3, .pt 0 0 0), (7, .v (.int .i64 c3)), (8, .v (.int .i64 c4)), (9, .v (.int .i64 c5)), (10, .v (.int .i64 c6)), (11, .v (.int .i64 v8)), (12, .v (.int .i64 0)), (13, .v (.int .i64 0)), (16, .sl 1 (x2.map cdI.enc)), (17, .v (.int .i64 (x2.length : Int))), (18, .v (.int .i64 c6))], [some ⟨2, 94, [.ag [.v (.int .i64 c1), .sl 1 (c2.map cdI.enc)]], false⟩]⟩) ?_ ?_
      · refine RunS.segF (n := 68) e_evening_choose_ok 2 [(1, .sl 1 (x1.map cdI.enc)), (3, .pt 0 0 0), (7, .v (.int .i64 c3)), (8, .v (.int .i64 c4)), (9, .v (.int .i64 c5)), (10, .v (.int .i64 c6)), (11, .v (.int .i64 v8)), (12, .v (.int .i64 0)), (13, .v (.int .i64 0)), (16, .sl 1 (x2.map cdI.enc)), (17, .v (.int .i64 (x2.length : Int))), (18, .v (.int .i64 c6))] [some ⟨2, 94, [.ag [.v (.int .i64 c1), .sl 1 (c2.map cdI.enc)]], false⟩] (by kernel_rfl) ?_
        exact RunS.done rfl (Wk.s3 [0] ⟨⟨_, rfl, bu_d⟩, trivial⟩ ⟨lv, lv, lv, lv, lv, lv, lv, lv, lv, lv, lv, lv, trivial⟩)
      refine Sem.seq ?_
      refine Sem.seq ?_
      refine Sem.runS (s1 := ⟨Fr 68 [(1, .sl 1 (x1.map cdI.enc)), (3, .pt 0 0 0), (7, .v (.int .i64 c3)), (8, .v (.int .i64 c4)), (9, .v (.int .i64 c5)), (10, .v (.int .i64 c6)), (11, .v (.int .i64 v8)), (12, .v (.int .i64 0)), (13, .v (.int .i64 0)), (16, .sl 1 (x2.map cdI.enc)), (17, .v (.int .i64 (x2.length : Int))), (18, .v (.int .i64 c6)), (23, .sl 1 (x1.map cdI.enc)), (24, .v (.int .i64 (x1.length : Int))), (25, .v (.int .i64 0))], [some ⟨2, 94, [.ag [.v (.int .i64 c1), .sl 1 (c2.map cdI.enc)]], false⟩]⟩) ?_ ?_
      · refine RunS.segF (n := 68) e_evening_choose_ok 1 [(1, .sl 1 (x1.map cdI.enc)), (3, .pt 0 0 0), (7, .v (.int .i64 c3)), (8, .v (.int .i64 c4)), (9, .v (.int .i64 c5)), (10, .v (.int .i64 c6)), (11, .v (.int .i64 v8)), (12, .v (.int .i64 0)), (13, .v (.int .i64 0)), (16, .sl 1 (x2.map cdI.enc)), (17, .v (.int .i64 (x2.length : Int))), (18, .v (.int .i64 c6)), (23, .sl 1 (x1.map cdI.enc))] [some ⟨2, 94, [.ag [.v (.int .i64 c1), .sl 1 (c2.map cdI.enc)]], false⟩] (by kernel_rfl) ?_
        refine RunS.one e_evening_choose_ok 0 rfl (op_q (wantedA_none rfl) rfl (q_len (a := .sl 1 (x1.map cdI.enc)) (by kernel_rfl) (len_sl (el := 3) (by kernel_rfl)))) ?_
        refine RunS.segF (n := 68) e_evening_choose_ok 1 [(1, .sl 1 (x1.map cdI.enc)), (3, .pt 0 0 0), (7, .v (.int .i64 c3)), (8, .v (.int .i64 c4)), (9, .v (.int .i64 c5)), (10, .v (.int .i64 c6)), (11, .v (.int .i64 v8)), (12, .v (.int .i64 0)), (13, .v (.int .i64 0)), (16, .sl 1 (x2.map cdI.enc)), (17, .v (.int .i64 (x2.length : Int))), (18, .v (.int .i64 c6)), (23, .sl 1 (x1.map cdI.enc)), (24, .v (.int .i64 (x1.length : Int))), (25, .v (.int .i64 0))] [some ⟨2, 94, [.ag [.v (.int .i64 c1), .sl 1 (c2.map cdI.enc)]], false⟩] (by kernel_rfl) ?_
        exact RunS.done rfl (Wk.s3 [0] ⟨⟨_, rfl, bu_d⟩, trivial⟩ ⟨lv, lv, lv, lv, lv, lv, lv, lv, lv, lv, lv, lv, lv, lv, lv, trivial⟩)
      refine Sem.block ?_
      obtain ⟨r31, hr31, h⟩ := Option.bind_eq_some_iff.1 h
      refine Sem.loop (n := 100000) ?_
      refine Sem.cutN (SemN.wk (s1 := ⟨Fr 68 [(1, .sl 1 (x1.map cdI.enc)), (3, .pt 0 0 0), (7, .v (.int .i64 c3)), (8, .v (.int .i64 c4)), (9, .v (.int .i64 c5)), (10, .v (.int .i64 c6)), (11, .v (.int .i64 v8)), (12, .v (.int .i64 0)), (13, .v (.int .i64 0)), (16, .sl 1 (x2.map cdI.enc)), (17, .v (.int .i64 (x2.length : Int))), (18, .v (.int .i64 c6)), (23, .sl 1 (x1.map cdI.enc)), (24, .v (.int .i64 (x1.length : Int))), (25, .v (.int .i64 0))], [some ⟨2, 94, [.ag [.v (.int .i64 c1), .sl 1 (c2.map cdI.enc)]], false⟩]⟩) (Wk.s3 [0] ⟨⟨_, rfl, bu_d⟩, trivial⟩ ⟨lv, lv, lv, lv, lv, lv, lv, lv, lv, lv, lv, lv, lv, lv, lv, trivial⟩) (evening_choose_2_ok x1 x2 c1 c2 c3 c4 c5 c6 v8 _ 0 0 0 _ hr31)) ?_
      refine Sem.seq ?_
      obtain ⟨j35, hj35, h⟩ := Option.bind_eq_some_iff.1 h
      refine Sem.runS (s1 := ⟨Fr 68 [(1, .sl 1 (x1.map cdI.enc)), (3, .pt 0 0 0), (7, .v (.int .i64 c3)), (8, .v (.int .i64 c4)), (9, .v (.int .i64 c5)), (10, .v (.int .i64 c6)), (12, .v (.int .i64 r31.1)), (13, .v (.int .i64 r31.2)), (16, .sl 1 (x2.map cdI.enc)), (17, .v (.int .i64 (x2.length : Int))), (18, .v (.int .i64 c6)), (62, .v (.bool j35.2.2))], [some ⟨2, 94, [.ag [.v (.int .i64 j35.1), .sl 1 (j35.2.1.map cdI.enc)]], false⟩]⟩) ?_ ?_
      · refine RunS.segF (n := 68) e_evening_choose_ok 3 [(1, .sl 1 (x1.map cdI.enc)), (3, .pt 0 0 0), (7, .v (.int .i64 c3)), (8, .v (.int .i64 c4)), (9, .v (.int .i64 c5)), (10, .v (.int .i64 c6)), (12, .v (.int .i64 r31.1)), (13, .v (.int .i64 r31.2)), (16, .sl 1 (x2.map cdI.enc)), (17, .v (.int .i64 (x2.length : Int))), (18, .v (.int .i64 c6)), (48, .v (.bool (decide (c3 < 0))))] [some ⟨2, 94, [.ag [.v (.int .i64 c1), .sl 1 (c2.map cdI.enc)]], false⟩] (by kernel_rfl) ?_
        rcases Bool.eq_false_or_eq_true (decide (c3 < 0)) with hc41 | hc41
        · rw [if_pos hc41] at hj35
          rw [hc41]
          refine RunS.segF (n := 68) e_evening_choose_ok 14 [(1, .sl 1 (x1.map cdI.enc)), (3, .pt 0 0 0), (7, .v (.int .i64 c3)), (8, .v (.int .i64 c4)), (9, .v (.int .i64 c5)), (10, .v (.int .i64 c6)), (12, .v (.int .i64 r31.1)), (13, .v (.int .i64 r31.2)), (16, .sl 1 (x2.map cdI.enc)), (17, .v (.int .i64 (x2.length : Int))), (18, .v (.int .i64 c6)), (49, .tp []), (50, .tp []), (51, .tp []), (54, .tp []), (55, .tp []), (56, .tp []), (57, .tp []), (58, .tp []), (59, .tp []), (60, .tp []), (61, .tp []), (62, .v (.bool true))] [some ⟨2, 94, [.ag [.v (.int .i64 c1), .sl 1 (c2.map cdI.enc)]], false⟩] (by kernel_rfl) ?_
          have hq := Option.some.inj hj35; subst hq
          exact RunS.done rfl (Wk.s3 [0] ⟨⟨_, rfl, bu_d⟩, trivial⟩ ⟨lv, lv, lv, lv, lv, lv, lv, lv, lv, lv, lv, lv, trivial⟩)
        · rw [if_f hc41] at hj35
          rw [hc41]
          refine RunS.segF (n := 68) e_evening_choose_ok 5 [(1, .sl 1 (x1.map cdI.enc)), (3, .pt 0 0 0), (7, .v (.int .i64 c3)), (8, .v (.int .i64 c4)), (9, .v (.int .i64 c5)), (10, .v (.int .i64 c6)), (12, .v (.int .i64 r31.1)), (13, .v (.int .i64 r31.2)), (16, .sl 1 (x2.map cdI.enc)), (17, .v (.int .i64 (x2.length : Int))), (18, .v (.int .i64 c6)), (49, .v (.int .i64 r31.1)), (50, .v (.int .i64 c4)), (51, .v (.bool (decide (r31.1 < c4)))), (53, .v (.bool (decide (r31.1 < c4))))] [some ⟨2, 94, [.ag [.v (.int .i64 c1), .sl 1 (c2.map cdI.enc)]], false⟩] (by kernel_rfl) ?_
          rcases Bool.eq_false_or_eq_true (decide (r31.1 < c4)) with hc42 | hc42
          · rw [if_pos hc42] at hj35
            rw [hc42]
            refine RunS.segF (n := 68) e_evening_choose_ok 9 [(1, .sl 1 (x1.map cdI.enc)), (3, .pt 0 0 0), (7, .v (.int .i64 c3)), (8, .v (.int .i64 c4)), (9, .v (.int .i64 c5)), (10, .v (.int .i64 c6)), (12, .v (.int .i64 r31.1)), (13, .v (.int .i64 r31.2)), (16, .sl 1 (x2.map cdI.enc)), (17, .v (.int .i64 (x2.length : Int))), (18, .v (.int .i64 c6)), (49, .v (.int .i64 r31.1)), (50, .v (.int .i64 c4)), (51, .v (.bool true)), (54, .tp []), (55, .tp []), (56, .tp []), (57, .tp []), (58, .tp []), (59, .tp []), (60, .tp []), (61, .tp []), (62, .v (.bool true))] [some ⟨2, 94, [.ag [.v (.int .i64 c1), .sl 1 (c2.map cdI.enc)]], false⟩] (by kernel_rfl) ?_
            have hq := Option.some.inj hj35; subst hq
            exact RunS.done rfl (Wk.s3 [0] ⟨⟨_, rfl, bu_d⟩, trivial⟩ ⟨lv, lv, lv, lv, lv, lv, lv, lv, lv, lv, lv, lv, trivial⟩)
          · rw [if_f hc42] at hj35
            rw [hc42]
            refine RunS.segF (n := 68) e_evening_choose_ok 4 [(1, .sl 1 (x1.map cdI.enc)), (3, .pt 0 0 0), (7, .v (.int .i64 c3)), (8, .v (.int .i64 c4)), (9, .v (.int .i64 c5)), (10, .v (.int .i64 c6)), (12, .v (.int .i64 r31.1)), (13, .v (.int .i64 r31.2)), (16, .sl 1 (x2.map cdI.enc)), (17, .v (.int .i64 (x2.length : Int))), (18, .v (.int .i64 c6)), (49, .v (.int .i64 r31.1)), (50, .v (.int .i64 c4)), (51, .v (.bool false)), (53, .v (.bool false)), (54, .v (.int .i64 r31.1)), (55, .v (.int .i64 c4)), (56, .v (.bool (r31.1 == c4))), (57, .v (.bool (r31.1 == c4)))] [some ⟨2, 94, [.ag [.v (.int .i64 c1), .sl 1 (c2.map cdI.enc)]], false⟩] (by kernel_rfl) ?_
            rcases Bool.eq_false_or_eq_true (r31.1 == c4) with hc43 | hc43
            · rw [if_pos hc43] at hj35
              rw [hc43]
              refine RunS.segF (n := 68) e_evening_choose_ok 5 [(1, .sl 1 (x1.map cdI.enc)), (3, .pt 0 0 0), (7, .v (.int .i64 c3)), (8, .v (.int .i64 c4)), (9, .v (.int .i64 c5)), (10, .v (.int .i64 c6)), (12, .v (.int .i64 r31.1)), (13, .v (.int .i64 r31.2)), (16, .sl 1 (x2.map cdI.enc)), (17, .v (.int .i64 (x2.length : Int))), (18, .v (.int .i64 c6)), (49, .v (.int .i64 r31.1)), (50, .v (.int .i64 c4)), (51, .v (.bool false)), (54, .v (.int .i64 r31.1)), (55, .v (.int .i64 c4)), (56, .v (.bool true)), (57, .v (.bool true)), (58, .v (.int .i64 r31.2)), (59, .v (.int .i64 c5)), (60, .v (.bool (decide (r31.2 < c5)))), (61, .v (.bool (decide (r31.2 < c5)))), (62, .v (.bool (decide (r31.2 < c5))))] [some ⟨2, 94, [.ag [.v (.int .i64 c1), .sl 1 (c2.map cdI.enc)]], false⟩] (by kernel_rfl) ?_
              have hq := Option.some.inj hj35; subst hq
              exact RunS.done rfl (Wk.s3 [0] ⟨⟨_, rfl, bu_d⟩, trivial⟩ ⟨lv, lv, lv, lv, lv, lv, lv, lv, lv, lv, lv, lv, trivial⟩)
            · rw [if_f hc43] at hj35
              rw [hc43]
              refine RunS.segF (n := 68) e_evening_choose_ok 5 [(1, .sl 1 (x1.map cdI.enc)), (3, .pt 0 0 0), (7, .v (.int .i64 c3)), (8, .v (.int .i64 c4)), (9, .v (.int .i64 c5)), (10, .v (.int .i64 c6)), (12, .v (.int .i64 r31.1)), (13, .v (.int .i64 r31.2)), (16, .sl 1 (x2.map cdI.enc)), (17, .v (.int .i64 (x2.length : Int))), (18, .v (.int .i64 c6)), (49, .v (.int .i64 r31.1)), (50, .v (.int .i64 c4)), (51, .v (.bool false)), (54, .v (.int .i64 r31.1)), (55, .v (.int .i64 c4)), (56, .v (.bool false)), (57, .v (.bool false)), (58, .tp []), (59, .tp []), (60, .tp []), (61, .v (.bool false)), (62, .v (.bool false))] [some ⟨2, 94, [.ag [.v (.int .i64 c1), .sl 1 (c2.map cdI.enc)]], false⟩] (by kernel_rfl) ?_
              have hq := Option.some.inj hj35; subst hq
              exact RunS.done rfl (Wk.s3 [0] ⟨⟨_, rfl, bu_d⟩, trivial⟩ ⟨lv, lv, lv, lv, lv, lv, lv, lv, lv, lv, lv, lv, trivial⟩)
      obtain ⟨r40, hr40, h⟩ := Option.bind_eq_some_iff.1 h
      refine Sem.cut (evening_choose_j3_ok x1 x2 c3 c4 c5 c6 r31 j35 _ hr40) ?_
      refine Sem.runS (s1 := ⟨Fr 68 [(1, .sl 1 (x1.map cdI.enc)), (3, .pt 0 0 0), (7, .v (.int .i64 r40.1)), (8, .v (.int .i64 r40.2.1)), (9, .v (.int .i64 r40.2.2)), (16, .sl 1 (x2.map cdI.enc)), (17, .v (.int .i64 (x2.length : Int))), (18, .v (.int .i64 (wr .i64 (c6 + 1))))], [some ⟨2, 94, [.ag [.v (.int .i64 j35.1), .sl 1 (j35.2.1.map cdI.enc)]], false⟩]⟩) ?_ ?_
      · refine RunS.segF (n := 68) e_evening_choose_ok 2 [(1, .sl 1 (x1.map cdI.enc)), (3, .pt 0 0 0), (7, .v (.int .i64 r40.1)), (8, .v (.int .i64 r40.2.1)), (9, .v (.int .i64 r40.2.2)), (16, .sl 1 (x2.map cdI.enc)), (17, .v (.int .i64 (x2.length : Int))), (18, .v (.int .i64 (wr .i64 (c6 + 1))))] [some ⟨2, 94, [.ag [.v (.int .i64 j35.1), .sl 1 (j35.2.1.map cdI.enc)]], false⟩] (by kernel_rfl) ?_
        exact RunS.done rfl (Wk.s3 [0] ⟨⟨_, rfl, bu_d⟩, trivial⟩ ⟨lv, lv, lv, lv, lv, lv, lv, lv, trivial⟩)
      exact SemN.wk (s1 := ⟨Fr 68 [(1, .sl 1 (x1.map cdI.enc)), (3, .pt 0 0 0), (7, .v (.int .i64 r40.1)), (8, .v (.int .i64 r40.2.1)), (9, .v (.int .i64 r40.2.2)), (16, .sl 1 (x2.map cdI.enc)), (17, .v (.int .i64 (x2.length : Int))), (18, .v (.int .i64 (wr .i64 (c6 + 1))))], [some ⟨2, 94, [.ag [.v (.int .i64 j35.1), .sl 1 (j35.2.1.map cdI.enc)]], false⟩]⟩) (Wk.s3 [0] ⟨⟨_, rfl, bu_d⟩, trivial⟩ ⟨lv, lv, lv, lv, lv, lv, lv, lv, trivial⟩) (ih j35.1 j35.2.1 r40.1 r40.2.1 r40.2.2 (wr .i64 (c6 + 1)) h)
    · rw [if_f hb7] at h
      refine Sem.exit ?_
      have hq := Option.some.inj h; subst hq
      exact ⟨rfl, (Wk.s3 [] trivial ⟨lv, trivial⟩)⟩
set_option maxHeartbeats 4000000 in
set_option maxRecDepth 100000 in
theorem evening_choose_sem (x0 : (Int × (List Int))) (x1 : (List Int)) (x2 : (List Int)) (r : Int) (h : evening_choose x0 x1 x2 = some r) : Sem e_evening_choose ⟨none, false⟩ cb_evening_choose ⟨Fr 68 (pairs0 0 (cs_evening_choose.enc (x0, x1, x2, ()))), []⟩ fun e s' => (e = .normal ∨ e = .ret) ∧ ∃ xs, resA e_evening_choose.P s'.fr s'.hp Tryd.f70.results.toList = some xs ∧ retA xs = er_evening_choose r := by
  unfold evening_choose at h
  refine Sem.wkQ (Sem.wk (s1 := ⟨Fr 68 [(0, .ag [.v (.int .i64 x0.1), .sl 1 (x0.2.map cdI.enc)]), (1, .sl 1 (x1.map cdI.enc)), (2, .sl 1 (x2.map cdI.enc))], []⟩) Wk.f1 ?_)
  refine Sem.seq ?_
  refine Sem.runS (s1 := ⟨Fr 68 [(1, .sl 1 (x1.map cdI.enc)), (2, .sl 1 (x2.map cdI.enc)), (3, .pt 0 0 0)], [some ⟨2, 94, [.ag [.v (.int .i64 x0.1), .sl 1 (x0.2.map cdI.enc)]], false⟩]⟩) ?_ ?_
  · refine RunS.segF (n := 68) e_evening_choose_ok 2 [(1, .sl 1 (x1.map cdI.enc)), (2, .sl 1 (x2.map cdI.enc)), (3, .pt 0 0 0)] [some ⟨2, 94, [.ag [.v (.int .i64 x0.1), .sl 1 (x0.2.map cdI.enc)]], false⟩] (by kernel_rfl) ?_
    exact RunS.done rfl (Wk.s3 [0] ⟨⟨_, rfl, bu_d⟩, trivial⟩ ⟨lv, lv, lv, trivial⟩)
  refine Sem.seq ?_
  refine Sem.runS (s1 := ⟨Fr 68 [(1, .sl 1 (x1.map cdI.enc)), (2, .sl 1 (x2.map cdI.enc)), (3, .pt 0 0 0), (7, .v (.int .i64 (-1))), (8, .v (.int .i64 0)), (9, .v (.int .i64 0))], [some ⟨2, 94, [.ag [.v (.int .i64 x0.1), .sl 1 (x0.2.map cdI.enc)]], false⟩]⟩) ?_ ?_
  · refine RunS.segF (n := 68) e_evening_choose_ok 3 [(1, .sl 1 (x1.map cdI.enc)), (2, .sl 1 (x2.map cdI.enc)), (3, .pt 0 0 0), (7, .v (.int .i64 (-1))), (8, .v (.int .i64 0)), (9, .v (.int .i64 0))] [some ⟨2, 94, [.ag [.v (.int .i64 x0.1), .sl 1 (x0.2.map cdI.enc)]], false⟩] (by kernel_rfl) ?_
    exact RunS.done rfl (Wk.s3 [0] ⟨⟨_, rfl, bu_d⟩, trivial⟩ ⟨lv, lv, lv, lv, lv, lv, trivial⟩)
  refine Sem.seq ?_
  refine Sem.seq ?_
  refine Sem.runS (s1 := ⟨Fr 68 [(1, .sl 1 (x1.map cdI.enc)), (3, .pt 0 0 0), (7, .v (.int .i64 (-1))), (8, .v (.int .i64 0)), (9, .v (.int .i64 0)), (16, .sl 1 (x2.map cdI.enc)), (17, .v (.int .i64 (x2.length : Int))), (18, .v (.int .i64 0))], [some ⟨2, 94, [.ag [.v (.int .i64 x0.1), .sl 1 (x0.2.map cdI.enc)]], false⟩]⟩) ?_ ?_
  · refine RunS.segF (n := 68) e_evening_choose_ok 1 [(1, .sl 1 (x1.map cdI.enc)), (3, .pt 0 0 0), (7, .v (.int .i64 (-1))), (8, .v (.int .i64 0)), (9, .v (.int .i64 0)), (16, .sl 1 (x2.map cdI.enc))] [some ⟨2, 94, [.ag [.v (.int .i64 x0.1), .sl 1 (x0.2.map cdI.enc)]], false⟩] (by kernel_rfl) ?_
    refine RunS.one e_evening_choose_ok 0 rfl (op_q (wantedA_none rfl) rfl (q_len (a := .sl 1 (x2.map cdI.enc)) (by kernel_rfl) (len_sl (el := 3) (by kernel_rfl)))) ?_
    refine RunS.segF (n := 68) e_evening_choose_ok 1 [(1, .sl 1 (x1.map cdI.enc)), (3, .pt 0 0 0), (7, .v (.int .i64 (-1))), (8, .v (.int .i64 0)), (9, .v (.int .i64 0)), (16, .sl 1 (x2.map cdI.enc)), (17, .v (.int .i64 (x2.length : Int))), (18, .v (.int .i64 0))] [some ⟨2, 94, [.ag [.v (.int .i64 x0.1), .sl 1 (x0.2.map cdI.enc)]], false⟩] (by kernel_rfl) ?_
    exact RunS.done rfl (Wk.s3 [0] ⟨⟨_, rfl, bu_d⟩, trivial⟩ ⟨lv, lv, lv, lv, lv, lv, lv, lv, trivial⟩)
  refine Sem.block ?_
  obtain ⟨r45, hr45, h⟩ := Option.bind_eq_some_iff.1 h
  refine Sem.loop (n := 100000) ?_
  refine Sem.cutN (SemN.wk (s1 := ⟨Fr 68 [(1, .sl 1 (x1.map cdI.enc)), (3, .pt 0 0 0), (7, .v (.int .i64 (-1))), (8, .v (.int .i64 0)), (9, .v (.int .i64 0)), (16, .sl 1 (x2.map cdI.enc)), (17, .v (.int .i64 (x2.length : Int))), (18, .v (.int .i64 0))], [some ⟨2, 94, [.ag [.v (.int .i64 x0.1), .sl 1 (x0.2.map cdI.enc)]], false⟩]⟩) (Wk.s3 [0] ⟨⟨_, rfl, bu_d⟩, trivial⟩ ⟨lv, lv, lv, lv, lv, lv, lv, lv, trivial⟩) (evening_choose_1_ok x1 x2 _ x0.1 x0.2 (-1) 0 0 0 _ hr45)) ?_
  refine Sem.seq ?_
  refine Sem.runS (s1 := ⟨Fr 68 [(6, .v (.int .i64 r45))], []⟩) ?_ ?_
  · refine RunS.segF (n := 68) e_evening_choose_ok 2 [(6, .v (.int .i64 r45))] [] (by kernel_rfl) ?_
    exact RunS.done rfl Wk.f1
  refine Sem.ret ?_
  have hq := Option.some.inj h; subst hq
  exact ⟨⟨Fr 68 [(6, .v (.int .i64 r45))], []⟩, Wk.f1, .inr rfl, [.v (.int .i64 r45)], (by kernel_rfl), (by kernel_rfl)⟩
def t_evening_choose : List AV → Option AV := told cs_evening_choose (fun a => evening_choose a.1 a.2.1 a.2.2.1) er_evening_choose
theorem x_evening_choose : XOk 70 t_evening_choose := by
  refine EnvOk.x (E := e_evening_choose) (contract_ok e_evening_choose_ok (fn := Tryd.f70) (c := cb_evening_choose) ?h1 ?h2 ⟨Tryd.call70⟩ cs_evening_choose (fun a => evening_choose a.1 a.2.1 a.2.2.1) er_evening_choose (fun a => (by show 3 ≤ 68; decide)) ?h3 ?h4) rfl rfl
  case h1 => kernel_rfl
  case h2 => kernel_rfl
  case h3 => intro b; kernel_rfl
  case h4 => exact fun a b h => evening_choose_sem a.1 a.2.1 a.2.2.1 b h
/- trestle/evening.span -/
noncomputable def e_evening_span : Env := E0
theorem e_evening_span_ok : EnvOk e_evening_span := E0_ok
noncomputable def cb_evening_span : Code := codeOf Tryd.f69
def evening_span_1 (x0 : Int) (x1 : Int) : Nat → (List Int) → Int → Option (((List Int)))
  | 0, _, _ => none
  | f + 1, c1, c2 =>
    if (decide (c2 < x1)) = true then
    if (capOk 8 (c1.length + 1)) = true then
    evening_span_1 x0 x1 f (c1 ++ [(wr .i64 (x0 + c2))]) (wr .i64 (c2 + 1))
    else none
    else
    some c1
def evening_span (x0 : Int) (x1 : Int) : Option ((List Int)) :=
  (evening_span_1 x0 x1 100000 [] 0).bind fun r6 =>
  some r6
def cs_evening_span : Cs (Int × Int × Unit) := (csC cdI (csC cdI csN))
set_option maxHeartbeats 4000000 in
set_option maxRecDepth 100000 in
theorem evening_span_1_ok (x0 : Int) (x1 : Int) : ∀ (f : Nat) (c1 : (List Int)) (c2 : Int) (r : ((List Int))), evening_span_1 x0 x1 f c1 c2 = some r → SemN e_evening_span ⟨none, false⟩ (pc cb_evening_span [1, 1, 0, 1, 0, 0]) f ⟨Fr 19 [(0, .v (.int .i64 x0)), (5, hd 0 (c1.map cdI.enc)), (7, .v (.int .i64 x1)), (8, .v (.int .i64 c2))], [mk 1 3 (c1.map cdI.enc)]⟩ (fun e s => e = (.exit 0) ∧ Wk e_evening_span s ⟨Fr 19 [(5, hd 0 (r.map cdI.enc))], [mk 1 3 (r.map cdI.enc)]⟩) := by
  intro f
  induction f with
  | zero => intro c1 c2 r h; cases h
  | succ f ih0 =>
    intro c1 c2 r h
    have ih := fun (c1 : (List Int)) (c2 : Int) => ih0 c1 c2 r
    unfold evening_span_1 at h
    refine SemN.succ ?_
    refine Sem.seq ?_
    refine Sem.runS (s1 := ⟨Fr 19 [(0, .v (.int .i64 x0)), (5, hd 0 (c1.map cdI.enc)), (7, .v (.int .i64 x1)), (8, .v (.int .i64 c2)), (9, .v (.bool (decide (c2 < x1))))], [mk 1 3 (c1.map cdI.enc)]⟩) ?_ ?_
    · refine RunS.segF (n := 19) e_evening_span_ok 1 [(0, .v (.int .i64 x0)), (5, hd 0 (c1.map cdI.enc)), (7, .v (.int .i64 x1)), (8, .v (.int .i64 c2)), (9, .v (.bool (decide (c2 < x1))))] [mk 1 3 (c1.map cdI.enc)] (by kernel_rfl) ?_
      exact RunS.done rfl (Wk.s3 [0] ⟨⟨_, rfl, bu_mk⟩, trivial⟩ ⟨lv, lu_hd (b' := 0) (by kernel_rfl) (by kernel_rfl), lv, lv, lv, trivial⟩)
    refine Sem.seq ?_
    refine Sem.cond (b := (decide (c2 < x1))) (by kernel_rfl) (fun hb3 => ?_) (fun hb3 => ?_)
    · rw [if_pos hb3] at h
      refine Sem.skip ?_
      refine Sem.seq ?_
      refine Sem.block ?_
      refine Sem.seq ?_
      refine Sem.runS (s1 := ⟨Fr 19 [(0, .v (.int .i64 x0)), (5, hd 0 (c1.map cdI.enc)), (6, .v (.int .i64 c2)), (7, .v (.int .i64 x1)), (8, .v (.int .i64 c2))], [mk 1 3 (c1.map cdI.enc)]⟩) ?_ ?_
      · refine RunS.segF (n := 19) e_evening_span_ok 2 [(0, .v (.int .i64 x0)), (5, hd 0 (c1.map cdI.enc)), (6, .v (.int .i64 c2)), (7, .v (.int .i64 x1)), (8, .v (.int .i64 c2))] [mk 1 3 (c1.map cdI.enc)] (by kernel_rfl) ?_
        exact RunS.done rfl (Wk.s3 [0] ⟨⟨_, rfl, bu_mk⟩, trivial⟩ ⟨lv, lu_hd (b' := 0) (by kernel_rfl) (by kernel_rfl), lv, lv, lv, trivial⟩)
      by_cases hk4 : (capOk 8 (c1.length + 1)) = true
      case neg => rw [if_neg hk4] at h; cases h
      rw [if_pos hk4] at h
      refine Sem.runS (s1 := ⟨Fr 19 [(0, .v (.int .i64 x0)), (5, hd 0 ((c1 ++ [(wr .i64 (x0 + c2))]).map cdI.enc)), (7, .v (.int .i64 x1)), (8, .v (.int .i64 c2))], [mk 1 3 ((c1 ++ [(wr .i64 (x0 + c2))]).map cdI.enc)]⟩) ?_ ?_
      · refine RunS.segF (n := 19) e_evening_span_ok 5 [(0, .v (.int .i64 x0)), (7, .v (.int .i64 x1)), (8, .v (.int .i64 c2)), (11, hd 0 (c1.map cdI.enc)), (15, hd 1 ([(wr .i64 (x0 + c2))].map cdI.enc))] [mk 1 3 (c1.map cdI.enc), mk 1 3 ([(wr .i64 (x0 + c2))].map cdI.enc)] (by kernel_rfl) ?_
        refine RunS.one e_evening_span_ok 0 rfl (op_w (wantedA_none rfl) rfl (by kernel_rfl) (by kernel_rfl) (w_append (a := hd 0 (c1.map cdI.enc)) (b := hd 1 ([(wr .i64 (x0 + c2))].map cdI.enc)) (by kernel_rfl) (by kernel_rfl) (append_B (c := cdI) (xs := c1) (vs := [(wr .i64 (x0 + c2))]) (k := 1) (bytes := 8) (el := 3) (by kernel_rfl) (by kernel_rfl) (elems_hd (t := 3) (by kernel_rfl)) (List.cons_ne_nil _ _) (by kernel_rfl) hk4))) ?_
        refine RunS.segF (n := 19) e_evening_span_ok 1 [(0, .v (.int .i64 x0)), (5, hd 2 ((c1 ++ [(wr .i64 (x0 + c2))]).map cdI.enc)), (7, .v (.int .i64 x1)), (8, .v (.int .i64 c2))] [none, mk 1 3 ([(wr .i64 (x0 + c2))].map cdI.enc), mk 1 3 ((c1 ++ [(wr .i64 (x0 + c2))]).map cdI.enc)] (by kernel_rfl) ?_
        exact RunS.done rfl (Wk.s3 [2] ⟨⟨_, rfl, bu_mk⟩, trivial⟩ ⟨lv, lu_hd (b' := 2) (by kernel_rfl) (by kernel_rfl), lv, lv, trivial⟩)
      refine Sem.runS (s1 := ⟨Fr 19 [(0, .v (.int .i64 x0)), (5, hd 0 ((c1 ++ [(wr .i64 (x0 + c2))]).map cdI.enc)), (7, .v (.int .i64 x1)), (8, .v (.int .i64 (wr .i64 (c2 + 1))))], [mk 1 3 ((c1 ++ [(wr .i64 (x0 + c2))]).map cdI.enc)]⟩) ?_ ?_
      · refine RunS.segF (n := 19) e_evening_span_ok 2 [(0, .v (.int .i64 x0)), (5, hd 0 ((c1 ++ [(wr .i64 (x0 + c2))]).map cdI.enc)), (7, .v (.int .i64 x1)), (8, .v (.int .i64 (wr .i64 (c2 + 1))))] [mk 1 3 ((c1 ++ [(wr .i64 (x0 + c2))]).map cdI.enc)] (by kernel_rfl) ?_
        exact RunS.done rfl (Wk.s3 [0] ⟨⟨_, rfl, bu_mk⟩, trivial⟩ ⟨lv, lu_hd (b' := 0) (by kernel_rfl) (by kernel_rfl), lv, lv, trivial⟩)
      exact SemN.wk (s1 := ⟨Fr 19 [(0, .v (.int .i64 x0)), (5, hd 0 ((c1 ++ [(wr .i64 (x0 + c2))]).map cdI.enc)), (7, .v (.int .i64 x1)), (8, .v (.int .i64 (wr .i64 (c2 + 1))))], [mk 1 3 ((c1 ++ [(wr .i64 (x0 + c2))]).map cdI.enc)]⟩) (Wk.s3 [0] ⟨⟨_, rfl, bu_mk⟩, trivial⟩ ⟨lv, lu_hd (b' := 0) (by kernel_rfl) (by kernel_rfl), lv, lv, trivial⟩) (ih (c1 ++ [(wr .i64 (x0 + c2))]) (wr .i64 (c2 + 1)) h)
    · rw [if_f hb3] at h
      refine Sem.exit ?_
      have hq := Option.some.inj h; subst hq
      exact ⟨rfl, (Wk.s3 [0] ⟨⟨_, rfl, bu_mk⟩, trivial⟩ ⟨lu_hd (b' := 0) (by kernel_rfl) (by kernel_rfl), trivial⟩)⟩
set_option maxHeartbeats 4000000 in
set_option maxRecDepth 100000 in
theorem evening_span_semO (x0 : Int) (x1 : Int) (r : (List Int)) (h : evening_span x0 x1 = some r) : Sem e_evening_span ⟨none, false⟩ cb_evening_span ⟨Fr 19 (pairs0 0 (cs_evening_span.enc (x0, x1, ()))), []⟩ fun e s' => (e = .normal ∨ e = .ret) ∧ ∃ xs, resA e_evening_span.P s'.fr s'.hp Tryd.f69.results.toList = some xs ∧ OutO1 (r.map cdI.enc) 1 3 (retA xs) s'.hp := by
  unfold evening_span at h
  refine Sem.wkQ (Sem.wk (s1 := ⟨Fr 19 [(0, .v (.int .i64 x0)), (1, .v (.int .i64 x1))], []⟩) Wk.f1 ?_)
  refine Sem.seq ?_
  refine Sem.runS (s1 := ⟨Fr 19 [(0, .v (.int .i64 x0)), (1, .v (.int .i64 x1))], []⟩) ?_ ?_
  · refine RunS.segF (n := 19) e_evening_span_ok 1 [(0, .v (.int .i64 x0)), (1, .v (.int .i64 x1))] [] (by kernel_rfl) ?_
    exact RunS.done rfl Wk.f1
  refine Sem.seq ?_
  refine Sem.runS (s1 := ⟨Fr 19 [(0, .v (.int .i64 x0)), (1, .v (.int .i64 x1)), (5, .e0)], []⟩) ?_ ?_
  · refine RunS.segF (n := 19) e_evening_span_ok 1 [(0, .v (.int .i64 x0)), (1, .v (.int .i64 x1)), (5, .e0)] [] (by kernel_rfl) ?_
    exact RunS.done rfl Wk.f1
  refine Sem.seq ?_
  refine Sem.seq ?_
  refine Sem.runS (s1 := ⟨Fr 19 [(0, .v (.int .i64 x0)), (5, .e0), (7, .v (.int .i64 x1)), (8, .v (.int .i64 0))], []⟩) ?_ ?_
  · refine RunS.segF (n := 19) e_evening_span_ok 2 [(0, .v (.int .i64 x0)), (5, .e0), (7, .v (.int .i64 x1)), (8, .v (.int .i64 0))] [] (by kernel_rfl) ?_
    exact RunS.done rfl Wk.f1
  refine Sem.block ?_
  obtain ⟨r6, hr6, h⟩ := Option.bind_eq_some_iff.1 h
  refine Sem.loop (n := 100000) ?_
  refine Sem.cutN (SemN.wk (s1 := ⟨Fr 19 [(0, .v (.int .i64 x0)), (5, hd 0 ([].map cdI.enc)), (7, .v (.int .i64 x1)), (8, .v (.int .i64 0))], [mk 1 3 ([].map cdI.enc)]⟩) (Wk.trans (s1 := ⟨Fr 19 [(0, .v (.int .i64 x0)), (5, hd 0 ([].map cdI.enc)), (7, .v (.int .i64 x1)), (8, .v (.int .i64 0))], [mk 1 3 ([].map cdI.enc)]⟩) Wk.none (Wk.s3 [0] ⟨⟨_, rfl, bu_none⟩, trivial⟩ ⟨lv, lv, lv, lv, trivial⟩)) (evening_span_1_ok x0 x1 _ [] 0 _ hr6)) ?_
  refine Sem.seq ?_
  refine Sem.runS (s1 := ⟨Fr 19 [(4, hd 0 (r6.map cdI.enc))], [mk 1 3 (r6.map cdI.enc)]⟩) ?_ ?_
  · refine RunS.segF (n := 19) e_evening_span_ok 2 [(4, hd 0 (r6.map cdI.enc))] [mk 1 3 (r6.map cdI.enc)] (by kernel_rfl) ?_
    exact RunS.done rfl (Wk.s3 [0] ⟨⟨_, rfl, bu_mk⟩, trivial⟩ ⟨lu_hd (b' := 0) (by kernel_rfl) (by kernel_rfl), trivial⟩)
  refine Sem.ret ?_
  have hq := Option.some.inj h; subst hq
  exact ⟨⟨Fr 19 [(4, hd 0 (r6.map cdI.enc))], [mk 1 3 (r6.map cdI.enc)]⟩, (Wk.s3 [0] ⟨⟨_, rfl, bu_mk⟩, trivial⟩ ⟨lu_hd (b' := 0) (by kernel_rfl) (by kernel_rfl), trivial⟩), .inr rfl, [hd 0 (r6.map cdI.enc)], (by kernel_rfl), ⟨(by kernel_rfl), (by kernel_rfl)⟩⟩
theorem s_evening_span (x0 : Int) (x1 : Int) (r : (List Int)) (h : evening_span x0 x1 = some r) : SOk 69 (cs_evening_span.enc (x0, x1, ())) (OutO1 (r.map cdI.enc) 1 3) :=
  sok_of_sem e_evening_span_ok rfl rfl (fn := Tryd.f69) (c := cb_evening_span) (by kernel_rfl) (by kernel_rfl) ⟨Tryd.call69⟩ (by show 2 ≤ 19; decide) (evening_span_semO x0 x1 r h)
end Go.Proofs.YtcmgmkepodbpkaaDoor
