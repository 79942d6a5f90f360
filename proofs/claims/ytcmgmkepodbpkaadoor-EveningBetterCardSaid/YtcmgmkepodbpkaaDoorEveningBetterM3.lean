/- Lemmas for the proof. -/
import Derived.Test.YtcmgmkepodbpkaaDoorEveningBetterM1
import Derived.Test.YtcmgmkepodbpkaaDoorEveningBetterM2
import Derived.Test.YtcmgmkepodbpkaaDoorProg
import Derived.OpenShut
import Derived.Test.YtcmgmkepodbpkaaDoorCards
import Derived.Test.YtcmgmkepodbpkaaDoorTie
import Derived.WalkKit
import Derived.ProofKit
import Derived.Deep.DeepHandedRow
import Derived.Lib.LaidTab
namespace Go.Proofs.YtcmgmkepodbpkaaDoor
open Go.RowKit
noncomputable def fnT : Nat → Option Func
 | 2 => some Tryd.f2
 | 3 => some Tryd.f3
 | 4 => some Tryd.f4
 | 5 => some Tryd.f5
 | 6 => some Tryd.f6
 | 7 => some Tryd.f7
 | 8 => some Tryd.f8
 | 9 => some Tryd.f9
 | 10 => some Tryd.f10
 | 11 => some Tryd.f11
 | 12 => some Tryd.f12
 | 13 => some Tryd.f13
 | 14 => some Tryd.f14
 | 15 => some Tryd.f15
 | 16 => some Tryd.f16
 | 17 => some Tryd.f17
 | 18 => some Tryd.f18
 | 19 => some Tryd.f19
 | 20 => some Tryd.f20
 | 21 => some Tryd.f21
 | 22 => some Tryd.f22
 | 23 => some Tryd.f23
 | 24 => some Tryd.f24
 | 25 => some Tryd.f25
 | 26 => some Tryd.f26
 | 27 => some Tryd.f27
 | 28 => some Tryd.f28
 | 29 => some Tryd.f29
 | 30 => some Tryd.f30
 | 31 => some Tryd.f31
 | 32 => some Tryd.f32
 | 33 => some Tryd.f33
 | 34 => some Tryd.f34
 | 35 => some Tryd.f35
 | 36 => some Tryd.f36
 | 37 => some Tryd.f37
 | 38 => some Tryd.f38
 | 39 => some Tryd.f39
 | 40 => some Tryd.f40
 | 41 => some Tryd.f41
 | 42 => some Tryd.f42
 | 43 => some Tryd.f43
 | 44 => some Tryd.f44
 | 45 => some Tryd.f45
 | 46 => some Tryd.f46
 | 47 => some Tryd.f47
 | 48 => some Tryd.f48
 | 50 => some Tryd.f50
 | 51 => some Tryd.f51
 | 52 => some Tryd.f52
 | 53 => some Tryd.f53
 | 54 => some Tryd.f54
 | 55 => some Tryd.f55
 | 56 => some Tryd.f56
 | 57 => some Tryd.f57
 | 58 => some Tryd.f58
 | 59 => some Tryd.f59
 | 60 => some Tryd.f60
 | 61 => some Tryd.f61
 | 62 => some Tryd.f62
 | 63 => some Tryd.f63
 | 64 => some Tryd.f64
 | 65 => some Tryd.f65
 | 66 => some Tryd.f66
 | 67 => some Tryd.f67
 | 68 => some Tryd.f68
 | 69 => some Tryd.f69
 | 70 => some Tryd.f70
 | 71 => some Tryd.f71
 | 72 => some Tryd.f72
 | 73 => some Tryd.f73
 | 74 => some Tryd.f74
 | 75 => some Tryd.f75
 | 76 => some Tryd.f76
 | 77 => some Tryd.f77
 | 78 => some Tryd.f78
 | 79 => some Tryd.f79
 | 80 => some Tryd.f80
 | 81 => some Tryd.f81
 | 82 => some Tryd.f82
 | 83 => some Tryd.f83
 | 84 => some Tryd.f84
 | 85 => some Tryd.f85
 | 86 => some Tryd.f86
 | 87 => some Tryd.f87
 | 88 => some Tryd.f88
 | 89 => some Tryd.f89
 | 90 => some Tryd.f90
 | 91 => some Tryd.f91
 | 92 => some Tryd.f92
 | 93 => some Tryd.f93
 | 94 => some Tryd.f94
 | 95 => some Tryd.f95
 | 96 => some Tryd.f96
 | 97 => some Tryd.f97
 | 98 => some Tryd.f98
 | 99 => some Tryd.f99
 | 100 => some Tryd.f100
 | 101 => some Tryd.f101
 | 102 => some Tryd.f102
 | 103 => some Tryd.f103
 | 104 => some Tryd.f104
 | 105 => some Tryd.f105
 | 106 => some Tryd.f106
 | 107 => some Tryd.f107
 | 108 => some Tryd.f108
 | 109 => some Tryd.f109
 | 110 => some Tryd.f110
 | 111 => some Tryd.f111
 | 112 => some Tryd.f112
 | 113 => some Tryd.f113
 | 114 => some Tryd.f114
 | 115 => some Tryd.f115
 | 116 => some Tryd.f116
 | 117 => some Tryd.f117
 | 118 => some Tryd.f118
 | 119 => some Tryd.f119
 | 120 => some Tryd.f120
 | 122 => some Tryd.f122
 | 123 => some Tryd.f123
 | 124 => some Tryd.f124
 | 125 => some Tryd.f125
 | 126 => some Tryd.f126
 | 127 => some Tryd.f127
 | 128 => some Tryd.f128
 | 129 => some Tryd.f129
 | 130 => some Tryd.f130
 | 131 => some Tryd.f131
 | 132 => some Tryd.f132
 | 133 => some Tryd.f133
 | 134 => some Tryd.f134
 | 135 => some Tryd.f135
 | 137 => some Tryd.f137
 | 138 => some Tryd.f138
 | 139 => some Tryd.f139
 | 140 => some Tryd.f140
 | 141 => some Tryd.f141
 | 142 => some Tryd.f142
 | 143 => some Tryd.f143
 | 144 => some Tryd.f144
 | 167 => some Tryd.f167
 | _ => none
def idT : Nat → Bool
 | 121 => true
 | _ => false
noncomputable def E0 : Env := ⟨Tryd.prog, fnT, fun _ => none, fun _ => none, idT⟩
def bodyOk (fn : Func) : Bool := match fn.body with
 | some c => drawOk c
 | none => false
theorem bodyOk_inv {fn : Func} (h : bodyOk fn = true) : ∀ c, fn.body = some c → drawOk c = true := fun c hc => by unfold bodyOk at h; rw [hc] at h; exact h
theorem dk2 : bodyOk Tryd.f2 = true := by kernel_rfl
theorem dk3 : bodyOk Tryd.f3 = true := by kernel_rfl
theorem dk4 : bodyOk Tryd.f4 = true := by kernel_rfl
theorem dk5 : bodyOk Tryd.f5 = true := by kernel_rfl
theorem dk6 : bodyOk Tryd.f6 = true := by kernel_rfl
theorem dk7 : bodyOk Tryd.f7 = true := by kernel_rfl
theorem dk8 : bodyOk Tryd.f8 = true := by kernel_rfl
theorem dk9 : bodyOk Tryd.f9 = true := by kernel_rfl
theorem dk10 : bodyOk Tryd.f10 = true := by kernel_rfl
theorem dk11 : bodyOk Tryd.f11 = true := by kernel_rfl
theorem dk12 : bodyOk Tryd.f12 = true := by kernel_rfl
theorem dk13 : bodyOk Tryd.f13 = true := by kernel_rfl
theorem dk14 : bodyOk Tryd.f14 = true := by kernel_rfl
theorem dk15 : bodyOk Tryd.f15 = true := by kernel_rfl
theorem dk16 : bodyOk Tryd.f16 = true := by kernel_rfl
theorem dk17 : bodyOk Tryd.f17 = true := by kernel_rfl
theorem dk18 : bodyOk Tryd.f18 = true := by kernel_rfl
theorem dk19 : bodyOk Tryd.f19 = true := by kernel_rfl
theorem dk20 : bodyOk Tryd.f20 = true := by kernel_rfl
theorem dk21 : bodyOk Tryd.f21 = true := by kernel_rfl
theorem dk22 : bodyOk Tryd.f22 = true := by kernel_rfl
theorem dk23 : bodyOk Tryd.f23 = true := by kernel_rfl
theorem dk24 : bodyOk Tryd.f24 = true := by kernel_rfl
theorem dk25 : bodyOk Tryd.f25 = true := by kernel_rfl
theorem dk26 : bodyOk Tryd.f26 = true := by kernel_rfl
theorem dk27 : bodyOk Tryd.f27 = true := by kernel_rfl
theorem dk28 : bodyOk Tryd.f28 = true := by kernel_rfl
theorem dk29 : bodyOk Tryd.f29 = true := by kernel_rfl
theorem dk30 : bodyOk Tryd.f30 = true := by kernel_rfl
theorem dk31 : bodyOk Tryd.f31 = true := by kernel_rfl
theorem dk32 : bodyOk Tryd.f32 = true := by kernel_rfl
theorem dk33 : bodyOk Tryd.f33 = true := by kernel_rfl
theorem dk34 : bodyOk Tryd.f34 = true := by kernel_rfl
theorem dk35 : bodyOk Tryd.f35 = true := by kernel_rfl
theorem dk36 : bodyOk Tryd.f36 = true := by kernel_rfl
theorem dk37 : bodyOk Tryd.f37 = true := by kernel_rfl
theorem dk38 : bodyOk Tryd.f38 = true := by kernel_rfl
theorem dk39 : bodyOk Tryd.f39 = true := by kernel_rfl
theorem dk40 : bodyOk Tryd.f40 = true := by kernel_rfl
theorem dk41 : bodyOk Tryd.f41 = true := by kernel_rfl
theorem dk42 : bodyOk Tryd.f42 = true := by kernel_rfl
theorem dk43 : bodyOk Tryd.f43 = true := by kernel_rfl
theorem dk44 : bodyOk Tryd.f44 = true := by kernel_rfl
theorem dk45 : bodyOk Tryd.f45 = true := by kernel_rfl
theorem dk46 : bodyOk Tryd.f46 = true := by kernel_rfl
theorem dk47 : bodyOk Tryd.f47 = true := by kernel_rfl
theorem dk48 : bodyOk Tryd.f48 = true := by kernel_rfl
theorem dk50 : bodyOk Tryd.f50 = true := by kernel_rfl
theorem dk51 : bodyOk Tryd.f51 = true := by kernel_rfl
theorem dk52 : bodyOk Tryd.f52 = true := by kernel_rfl
theorem dk53 : bodyOk Tryd.f53 = true := by kernel_rfl
theorem dk54 : bodyOk Tryd.f54 = true := by kernel_rfl
theorem dk55 : bodyOk Tryd.f55 = true := by kernel_rfl
theorem dk56 : bodyOk Tryd.f56 = true := by kernel_rfl
theorem dk57 : bodyOk Tryd.f57 = true := by kernel_rfl
theorem dk58 : bodyOk Tryd.f58 = true := by kernel_rfl
theorem dk59 : bodyOk Tryd.f59 = true := by kernel_rfl
theorem dk60 : bodyOk Tryd.f60 = true := by kernel_rfl
theorem dk61 : bodyOk Tryd.f61 = true := by kernel_rfl
theorem dk62 : bodyOk Tryd.f62 = true := by kernel_rfl
theorem dk63 : bodyOk Tryd.f63 = true := by kernel_rfl
theorem dk64 : bodyOk Tryd.f64 = true := by kernel_rfl
theorem dk65 : bodyOk Tryd.f65 = true := by kernel_rfl
theorem dk66 : bodyOk Tryd.f66 = true := by kernel_rfl
theorem dk67 : bodyOk Tryd.f67 = true := by kernel_rfl
theorem dk68 : bodyOk Tryd.f68 = true := by kernel_rfl
theorem dk69 : bodyOk Tryd.f69 = true := by kernel_rfl
theorem dk70 : bodyOk Tryd.f70 = true := by kernel_rfl
theorem dk71 : bodyOk Tryd.f71 = true := by kernel_rfl
theorem dk72 : bodyOk Tryd.f72 = true := by kernel_rfl
theorem dk73 : bodyOk Tryd.f73 = true := by kernel_rfl
theorem dk74 : bodyOk Tryd.f74 = true := by kernel_rfl
theorem dk75 : bodyOk Tryd.f75 = true := by kernel_rfl
theorem dk76 : bodyOk Tryd.f76 = true := by kernel_rfl
theorem dk77 : bodyOk Tryd.f77 = true := by kernel_rfl
theorem dk78 : bodyOk Tryd.f78 = true := by kernel_rfl
theorem dk79 : bodyOk Tryd.f79 = true := by kernel_rfl
theorem dk80 : bodyOk Tryd.f80 = true := by kernel_rfl
theorem dk81 : bodyOk Tryd.f81 = true := by kernel_rfl
theorem dk82 : bodyOk Tryd.f82 = true := by kernel_rfl
theorem dk83 : bodyOk Tryd.f83 = true := by kernel_rfl
theorem dk84 : bodyOk Tryd.f84 = true := by kernel_rfl
theorem dk85 : bodyOk Tryd.f85 = true := by kernel_rfl
theorem dk86 : bodyOk Tryd.f86 = true := by kernel_rfl
theorem dk87 : bodyOk Tryd.f87 = true := by kernel_rfl
theorem dk88 : bodyOk Tryd.f88 = true := by kernel_rfl
theorem dk89 : bodyOk Tryd.f89 = true := by kernel_rfl
theorem dk90 : bodyOk Tryd.f90 = true := by kernel_rfl
theorem dk91 : bodyOk Tryd.f91 = true := by kernel_rfl
theorem dk92 : bodyOk Tryd.f92 = true := by kernel_rfl
theorem dk93 : bodyOk Tryd.f93 = true := by kernel_rfl
theorem dk94 : bodyOk Tryd.f94 = true := by kernel_rfl
theorem dk95 : bodyOk Tryd.f95 = true := by kernel_rfl
theorem dk96 : bodyOk Tryd.f96 = true := by kernel_rfl
theorem dk97 : bodyOk Tryd.f97 = true := by kernel_rfl
theorem dk98 : bodyOk Tryd.f98 = true := by kernel_rfl
theorem dk99 : bodyOk Tryd.f99 = true := by kernel_rfl
theorem dk100 : bodyOk Tryd.f100 = true := by kernel_rfl
theorem dk101 : bodyOk Tryd.f101 = true := by kernel_rfl
theorem dk102 : bodyOk Tryd.f102 = true := by kernel_rfl
theorem dk103 : bodyOk Tryd.f103 = true := by kernel_rfl
theorem dk104 : bodyOk Tryd.f104 = true := by kernel_rfl
theorem dk105 : bodyOk Tryd.f105 = true := by kernel_rfl
theorem dk106 : bodyOk Tryd.f106 = true := by kernel_rfl
theorem dk107 : bodyOk Tryd.f107 = true := by kernel_rfl
theorem dk108 : bodyOk Tryd.f108 = true := by kernel_rfl
theorem dk109 : bodyOk Tryd.f109 = true := by kernel_rfl
theorem dk110 : bodyOk Tryd.f110 = true := by kernel_rfl
theorem dk111 : bodyOk Tryd.f111 = true := by kernel_rfl
theorem dk112 : bodyOk Tryd.f112 = true := by kernel_rfl
theorem dk113 : bodyOk Tryd.f113 = true := by kernel_rfl
theorem dk114 : bodyOk Tryd.f114 = true := by kernel_rfl
theorem dk115 : bodyOk Tryd.f115 = true := by kernel_rfl
theorem dk116 : bodyOk Tryd.f116 = true := by kernel_rfl
theorem dk117 : bodyOk Tryd.f117 = true := by kernel_rfl
theorem dk118 : bodyOk Tryd.f118 = true := by kernel_rfl
theorem dk119 : bodyOk Tryd.f119 = true := by kernel_rfl
theorem dk120 : bodyOk Tryd.f120 = true := by kernel_rfl
theorem dk122 : bodyOk Tryd.f122 = true := by kernel_rfl
theorem dk123 : bodyOk Tryd.f123 = true := by kernel_rfl
theorem dk124 : bodyOk Tryd.f124 = true := by kernel_rfl
theorem dk125 : bodyOk Tryd.f125 = true := by kernel_rfl
theorem dk126 : bodyOk Tryd.f126 = true := by kernel_rfl
theorem dk127 : bodyOk Tryd.f127 = true := by kernel_rfl
theorem dk128 : bodyOk Tryd.f128 = true := by kernel_rfl
theorem dk129 : bodyOk Tryd.f129 = true := by kernel_rfl
theorem dk130 : bodyOk Tryd.f130 = true := by kernel_rfl
theorem dk131 : bodyOk Tryd.f131 = true := by kernel_rfl
theorem dk132 : bodyOk Tryd.f132 = true := by kernel_rfl
theorem dk133 : bodyOk Tryd.f133 = true := by kernel_rfl
theorem dk134 : bodyOk Tryd.f134 = true := by kernel_rfl
theorem dk135 : bodyOk Tryd.f135 = true := by kernel_rfl
theorem dk137 : bodyOk Tryd.f137 = true := by kernel_rfl
theorem dk138 : bodyOk Tryd.f138 = true := by kernel_rfl
theorem dk139 : bodyOk Tryd.f139 = true := by kernel_rfl
theorem dk140 : bodyOk Tryd.f140 = true := by kernel_rfl
theorem dk141 : bodyOk Tryd.f141 = true := by kernel_rfl
theorem dk142 : bodyOk Tryd.f142 = true := by kernel_rfl
theorem dk143 : bodyOk Tryd.f143 = true := by kernel_rfl
theorem dk144 : bodyOk Tryd.f144 = true := by kernel_rfl
theorem dk167 : bodyOk Tryd.f167 = true := by kernel_rfl
theorem fk2 : Tryd.prog.funcs[2]? = some Tryd.f2 := Tryd.func2
theorem fk3 : Tryd.prog.funcs[3]? = some Tryd.f3 := Tryd.func3
theorem fk4 : Tryd.prog.funcs[4]? = some Tryd.f4 := Tryd.func4
theorem fk5 : Tryd.prog.funcs[5]? = some Tryd.f5 := Tryd.func5
theorem fk6 : Tryd.prog.funcs[6]? = some Tryd.f6 := Tryd.func6
theorem fk7 : Tryd.prog.funcs[7]? = some Tryd.f7 := Tryd.func7
theorem fk8 : Tryd.prog.funcs[8]? = some Tryd.f8 := Tryd.func8
theorem fk9 : Tryd.prog.funcs[9]? = some Tryd.f9 := Tryd.func9
theorem fk10 : Tryd.prog.funcs[10]? = some Tryd.f10 := Tryd.func10
theorem fk11 : Tryd.prog.funcs[11]? = some Tryd.f11 := Tryd.func11
theorem fk12 : Tryd.prog.funcs[12]? = some Tryd.f12 := Tryd.func12
theorem fk13 : Tryd.prog.funcs[13]? = some Tryd.f13 := Tryd.func13
theorem fk14 : Tryd.prog.funcs[14]? = some Tryd.f14 := Tryd.func14
theorem fk15 : Tryd.prog.funcs[15]? = some Tryd.f15 := Tryd.func15
theorem fk16 : Tryd.prog.funcs[16]? = some Tryd.f16 := Tryd.func16
theorem fk17 : Tryd.prog.funcs[17]? = some Tryd.f17 := Tryd.func17
theorem fk18 : Tryd.prog.funcs[18]? = some Tryd.f18 := Tryd.func18
theorem fk19 : Tryd.prog.funcs[19]? = some Tryd.f19 := Tryd.func19
theorem fk20 : Tryd.prog.funcs[20]? = some Tryd.f20 := Tryd.func20
theorem fk21 : Tryd.prog.funcs[21]? = some Tryd.f21 := Tryd.func21
theorem fk22 : Tryd.prog.funcs[22]? = some Tryd.f22 := Tryd.func22
theorem fk23 : Tryd.prog.funcs[23]? = some Tryd.f23 := Tryd.func23
theorem fk24 : Tryd.prog.funcs[24]? = some Tryd.f24 := Tryd.func24
theorem fk25 : Tryd.prog.funcs[25]? = some Tryd.f25 := Tryd.func25
theorem fk26 : Tryd.prog.funcs[26]? = some Tryd.f26 := Tryd.func26
theorem fk27 : Tryd.prog.funcs[27]? = some Tryd.f27 := Tryd.func27
theorem fk28 : Tryd.prog.funcs[28]? = some Tryd.f28 := Tryd.func28
theorem fk29 : Tryd.prog.funcs[29]? = some Tryd.f29 := Tryd.func29
theorem fk30 : Tryd.prog.funcs[30]? = some Tryd.f30 := Tryd.func30
theorem fk31 : Tryd.prog.funcs[31]? = some Tryd.f31 := Tryd.func31
theorem fk32 : Tryd.prog.funcs[32]? = some Tryd.f32 := Tryd.func32
theorem fk33 : Tryd.prog.funcs[33]? = some Tryd.f33 := Tryd.func33
theorem fk34 : Tryd.prog.funcs[34]? = some Tryd.f34 := Tryd.func34
theorem fk35 : Tryd.prog.funcs[35]? = some Tryd.f35 := Tryd.func35
theorem fk36 : Tryd.prog.funcs[36]? = some Tryd.f36 := Tryd.func36
theorem fk37 : Tryd.prog.funcs[37]? = some Tryd.f37 := Tryd.func37
theorem fk38 : Tryd.prog.funcs[38]? = some Tryd.f38 := Tryd.func38
theorem fk39 : Tryd.prog.funcs[39]? = some Tryd.f39 := Tryd.func39
theorem fk40 : Tryd.prog.funcs[40]? = some Tryd.f40 := Tryd.func40
theorem fk41 : Tryd.prog.funcs[41]? = some Tryd.f41 := Tryd.func41
theorem fk42 : Tryd.prog.funcs[42]? = some Tryd.f42 := Tryd.func42
theorem fk43 : Tryd.prog.funcs[43]? = some Tryd.f43 := Tryd.func43
theorem fk44 : Tryd.prog.funcs[44]? = some Tryd.f44 := Tryd.func44
theorem fk45 : Tryd.prog.funcs[45]? = some Tryd.f45 := Tryd.func45
theorem fk46 : Tryd.prog.funcs[46]? = some Tryd.f46 := Tryd.func46
theorem fk47 : Tryd.prog.funcs[47]? = some Tryd.f47 := Tryd.func47
theorem fk48 : Tryd.prog.funcs[48]? = some Tryd.f48 := Tryd.func48
theorem fk50 : Tryd.prog.funcs[50]? = some Tryd.f50 := Tryd.func50
theorem fk51 : Tryd.prog.funcs[51]? = some Tryd.f51 := Tryd.func51
theorem fk52 : Tryd.prog.funcs[52]? = some Tryd.f52 := Tryd.func52
theorem fk53 : Tryd.prog.funcs[53]? = some Tryd.f53 := Tryd.func53
theorem fk54 : Tryd.prog.funcs[54]? = some Tryd.f54 := Tryd.func54
theorem fk55 : Tryd.prog.funcs[55]? = some Tryd.f55 := Tryd.func55
theorem fk56 : Tryd.prog.funcs[56]? = some Tryd.f56 := Tryd.func56
theorem fk57 : Tryd.prog.funcs[57]? = some Tryd.f57 := Tryd.func57
theorem fk58 : Tryd.prog.funcs[58]? = some Tryd.f58 := Tryd.func58
theorem fk59 : Tryd.prog.funcs[59]? = some Tryd.f59 := Tryd.func59
theorem fk60 : Tryd.prog.funcs[60]? = some Tryd.f60 := Tryd.func60
theorem fk61 : Tryd.prog.funcs[61]? = some Tryd.f61 := Tryd.func61
theorem fk62 : Tryd.prog.funcs[62]? = some Tryd.f62 := Tryd.func62
theorem fk63 : Tryd.prog.funcs[63]? = some Tryd.f63 := Tryd.func63
theorem fk64 : Tryd.prog.funcs[64]? = some Tryd.f64 := Tryd.func64
theorem fk65 : Tryd.prog.funcs[65]? = some Tryd.f65 := Tryd.func65
theorem fk66 : Tryd.prog.funcs[66]? = some Tryd.f66 := Tryd.func66
theorem fk67 : Tryd.prog.funcs[67]? = some Tryd.f67 := Tryd.func67
theorem fk68 : Tryd.prog.funcs[68]? = some Tryd.f68 := Tryd.func68
theorem fk69 : Tryd.prog.funcs[69]? = some Tryd.f69 := Tryd.func69
theorem fk70 : Tryd.prog.funcs[70]? = some Tryd.f70 := Tryd.func70
theorem fk71 : Tryd.prog.funcs[71]? = some Tryd.f71 := Tryd.func71
theorem fk72 : Tryd.prog.funcs[72]? = some Tryd.f72 := Tryd.func72
theorem fk73 : Tryd.prog.funcs[73]? = some Tryd.f73 := Tryd.func73
theorem fk74 : Tryd.prog.funcs[74]? = some Tryd.f74 := Tryd.func74
theorem fk75 : Tryd.prog.funcs[75]? = some Tryd.f75 := Tryd.func75
theorem fk76 : Tryd.prog.funcs[76]? = some Tryd.f76 := Tryd.func76
theorem fk77 : Tryd.prog.funcs[77]? = some Tryd.f77 := Tryd.func77
theorem fk78 : Tryd.prog.funcs[78]? = some Tryd.f78 := Tryd.func78
theorem fk79 : Tryd.prog.funcs[79]? = some Tryd.f79 := Tryd.func79
theorem fk80 : Tryd.prog.funcs[80]? = some Tryd.f80 := Tryd.func80
theorem fk81 : Tryd.prog.funcs[81]? = some Tryd.f81 := Tryd.func81
theorem fk82 : Tryd.prog.funcs[82]? = some Tryd.f82 := Tryd.func82
theorem fk83 : Tryd.prog.funcs[83]? = some Tryd.f83 := Tryd.func83
theorem fk84 : Tryd.prog.funcs[84]? = some Tryd.f84 := Tryd.func84
theorem fk85 : Tryd.prog.funcs[85]? = some Tryd.f85 := Tryd.func85
theorem fk86 : Tryd.prog.funcs[86]? = some Tryd.f86 := Tryd.func86
theorem fk87 : Tryd.prog.funcs[87]? = some Tryd.f87 := Tryd.func87
theorem fk88 : Tryd.prog.funcs[88]? = some Tryd.f88 := Tryd.func88
theorem fk89 : Tryd.prog.funcs[89]? = some Tryd.f89 := Tryd.func89
theorem fk90 : Tryd.prog.funcs[90]? = some Tryd.f90 := Tryd.func90
theorem fk91 : Tryd.prog.funcs[91]? = some Tryd.f91 := Tryd.func91
theorem fk92 : Tryd.prog.funcs[92]? = some Tryd.f92 := Tryd.func92
theorem fk93 : Tryd.prog.funcs[93]? = some Tryd.f93 := Tryd.func93
theorem fk94 : Tryd.prog.funcs[94]? = some Tryd.f94 := Tryd.func94
theorem fk95 : Tryd.prog.funcs[95]? = some Tryd.f95 := Tryd.func95
theorem fk96 : Tryd.prog.funcs[96]? = some Tryd.f96 := Tryd.func96
theorem fk97 : Tryd.prog.funcs[97]? = some Tryd.f97 := Tryd.func97
theorem fk98 : Tryd.prog.funcs[98]? = some Tryd.f98 := Tryd.func98
theorem fk99 : Tryd.prog.funcs[99]? = some Tryd.f99 := Tryd.func99
theorem fk100 : Tryd.prog.funcs[100]? = some Tryd.f100 := Tryd.func100
theorem fk101 : Tryd.prog.funcs[101]? = some Tryd.f101 := Tryd.func101
theorem fk102 : Tryd.prog.funcs[102]? = some Tryd.f102 := Tryd.func102
theorem fk103 : Tryd.prog.funcs[103]? = some Tryd.f103 := Tryd.func103
theorem fk104 : Tryd.prog.funcs[104]? = some Tryd.f104 := Tryd.func104
theorem fk105 : Tryd.prog.funcs[105]? = some Tryd.f105 := Tryd.func105
theorem fk106 : Tryd.prog.funcs[106]? = some Tryd.f106 := Tryd.func106
theorem fk107 : Tryd.prog.funcs[107]? = some Tryd.f107 := Tryd.func107
theorem fk108 : Tryd.prog.funcs[108]? = some Tryd.f108 := Tryd.func108
theorem fk109 : Tryd.prog.funcs[109]? = some Tryd.f109 := Tryd.func109
theorem fk110 : Tryd.prog.funcs[110]? = some Tryd.f110 := Tryd.func110
theorem fk111 : Tryd.prog.funcs[111]? = some Tryd.f111 := Tryd.func111
theorem fk112 : Tryd.prog.funcs[112]? = some Tryd.f112 := Tryd.func112
theorem fk113 : Tryd.prog.funcs[113]? = some Tryd.f113 := Tryd.func113
theorem fk114 : Tryd.prog.funcs[114]? = some Tryd.f114 := Tryd.func114
theorem fk115 : Tryd.prog.funcs[115]? = some Tryd.f115 := Tryd.func115
theorem fk116 : Tryd.prog.funcs[116]? = some Tryd.f116 := Tryd.func116
theorem fk117 : Tryd.prog.funcs[117]? = some Tryd.f117 := Tryd.func117
theorem fk118 : Tryd.prog.funcs[118]? = some Tryd.f118 := Tryd.func118
theorem fk119 : Tryd.prog.funcs[119]? = some Tryd.f119 := Tryd.func119
theorem fk120 : Tryd.prog.funcs[120]? = some Tryd.f120 := Tryd.func120
theorem fk122 : Tryd.prog.funcs[122]? = some Tryd.f122 := Tryd.func122
theorem fk123 : Tryd.prog.funcs[123]? = some Tryd.f123 := Tryd.func123
theorem fk124 : Tryd.prog.funcs[124]? = some Tryd.f124 := Tryd.func124
theorem fk125 : Tryd.prog.funcs[125]? = some Tryd.f125 := Tryd.func125
theorem fk126 : Tryd.prog.funcs[126]? = some Tryd.f126 := Tryd.func126
theorem fk127 : Tryd.prog.funcs[127]? = some Tryd.f127 := Tryd.func127
theorem fk128 : Tryd.prog.funcs[128]? = some Tryd.f128 := Tryd.func128
theorem fk129 : Tryd.prog.funcs[129]? = some Tryd.f129 := Tryd.func129
theorem fk130 : Tryd.prog.funcs[130]? = some Tryd.f130 := Tryd.func130
theorem fk131 : Tryd.prog.funcs[131]? = some Tryd.f131 := Tryd.func131
theorem fk132 : Tryd.prog.funcs[132]? = some Tryd.f132 := Tryd.func132
theorem fk133 : Tryd.prog.funcs[133]? = some Tryd.f133 := Tryd.func133
theorem fk134 : Tryd.prog.funcs[134]? = some Tryd.f134 := Tryd.func134
theorem fk135 : Tryd.prog.funcs[135]? = some Tryd.f135 := Tryd.func135
theorem fk137 : Tryd.prog.funcs[137]? = some Tryd.f137 := Tryd.func137
theorem fk138 : Tryd.prog.funcs[138]? = some Tryd.f138 := Tryd.func138
theorem fk139 : Tryd.prog.funcs[139]? = some Tryd.f139 := Tryd.func139
theorem fk140 : Tryd.prog.funcs[140]? = some Tryd.f140 := Tryd.func140
theorem fk141 : Tryd.prog.funcs[141]? = some Tryd.f141 := Tryd.func141
theorem fk142 : Tryd.prog.funcs[142]? = some Tryd.f142 := Tryd.func142
theorem fk143 : Tryd.prog.funcs[143]? = some Tryd.f143 := Tryd.func143
theorem fk144 : Tryd.prog.funcs[144]? = some Tryd.f144 := Tryd.func144
theorem fk167 : Tryd.prog.funcs[167]? = some Tryd.f167 := Tryd.func167
theorem id121 : ∀ v w, (callFunc 121 #[v]).run Tryd.prog w = .ok (.value v) w := fun v w => run_callFunc_extern (fn := Tryd.f121) (e := Extern.AbiNoEscape.same) Tryd.func121 (by kernel_rfl) (by kernel_rfl) (by kernel_rfl) (by kernel_rfl) #[v] w
theorem E0_ok : EnvOk E0 := by
 refine ⟨fun f fn h => ?_, by kernel_rfl, fun f h => ?_, fun f g h => (by cases h)⟩
 ·change fnT f = some fn at h
  unfold fnT at h
  split at h
  ·injection h with h; subst h; exact ⟨fk2, ⟨Tryd.call2⟩, bodyOk_inv dk2⟩
  ·injection h with h; subst h; exact ⟨fk3, ⟨Tryd.call3⟩, bodyOk_inv dk3⟩
  ·injection h with h; subst h; exact ⟨fk4, ⟨Tryd.call4⟩, bodyOk_inv dk4⟩
  ·injection h with h; subst h; exact ⟨fk5, ⟨Tryd.call5⟩, bodyOk_inv dk5⟩
  ·injection h with h; subst h; exact ⟨fk6, ⟨Tryd.call6⟩, bodyOk_inv dk6⟩
  ·injection h with h; subst h; exact ⟨fk7, ⟨Tryd.call7⟩, bodyOk_inv dk7⟩
  ·injection h with h; subst h; exact ⟨fk8, ⟨Tryd.call8⟩, bodyOk_inv dk8⟩
  ·injection h with h; subst h; exact ⟨fk9, ⟨Tryd.call9⟩, bodyOk_inv dk9⟩
  ·injection h with h; subst h; exact ⟨fk10, ⟨Tryd.call10⟩, bodyOk_inv dk10⟩
  ·injection h with h; subst h; exact ⟨fk11, ⟨Tryd.call11⟩, bodyOk_inv dk11⟩
  ·injection h with h; subst h; exact ⟨fk12, ⟨Tryd.call12⟩, bodyOk_inv dk12⟩
  ·injection h with h; subst h; exact ⟨fk13, ⟨Tryd.call13⟩, bodyOk_inv dk13⟩
  ·injection h with h; subst h; exact ⟨fk14, ⟨Tryd.call14⟩, bodyOk_inv dk14⟩
  ·injection h with h; subst h; exact ⟨fk15, ⟨Tryd.call15⟩, bodyOk_inv dk15⟩
  ·injection h with h; subst h; exact ⟨fk16, ⟨Tryd.call16⟩, bodyOk_inv dk16⟩
  ·injection h with h; subst h; exact ⟨fk17, ⟨Tryd.call17⟩, bodyOk_inv dk17⟩
  ·injection h with h; subst h; exact ⟨fk18, ⟨Tryd.call18⟩, bodyOk_inv dk18⟩
  ·injection h with h; subst h; exact ⟨fk19, ⟨Tryd.call19⟩, bodyOk_inv dk19⟩
  ·injection h with h; subst h; exact ⟨fk20, ⟨Tryd.call20⟩, bodyOk_inv dk20⟩
  ·injection h with h; subst h; exact ⟨fk21, ⟨Tryd.call21⟩, bodyOk_inv dk21⟩
  ·injection h with h; subst h; exact ⟨fk22, ⟨Tryd.call22⟩, bodyOk_inv dk22⟩
  ·injection h with h; subst h; exact ⟨fk23, ⟨Tryd.call23⟩, bodyOk_inv dk23⟩
  ·injection h with h; subst h; exact ⟨fk24, ⟨Tryd.call24⟩, bodyOk_inv dk24⟩
  ·injection h with h; subst h; exact ⟨fk25, ⟨Tryd.call25⟩, bodyOk_inv dk25⟩
  ·injection h with h; subst h; exact ⟨fk26, ⟨Tryd.call26⟩, bodyOk_inv dk26⟩
  ·injection h with h; subst h; exact ⟨fk27, ⟨Tryd.call27⟩, bodyOk_inv dk27⟩
  ·injection h with h; subst h; exact ⟨fk28, ⟨Tryd.call28⟩, bodyOk_inv dk28⟩
  ·injection h with h; subst h; exact ⟨fk29, ⟨Tryd.call29⟩, bodyOk_inv dk29⟩
  ·injection h with h; subst h; exact ⟨fk30, ⟨Tryd.call30⟩, bodyOk_inv dk30⟩
  ·injection h with h; subst h; exact ⟨fk31, ⟨Tryd.call31⟩, bodyOk_inv dk31⟩
  ·injection h with h; subst h; exact ⟨fk32, ⟨Tryd.call32⟩, bodyOk_inv dk32⟩
  ·injection h with h; subst h; exact ⟨fk33, ⟨Tryd.call33⟩, bodyOk_inv dk33⟩
  ·injection h with h; subst h; exact ⟨fk34, ⟨Tryd.call34⟩, bodyOk_inv dk34⟩
  ·injection h with h; subst h; exact ⟨fk35, ⟨Tryd.call35⟩, bodyOk_inv dk35⟩
  ·injection h with h; subst h; exact ⟨fk36, ⟨Tryd.call36⟩, bodyOk_inv dk36⟩
  ·injection h with h; subst h; exact ⟨fk37, ⟨Tryd.call37⟩, bodyOk_inv dk37⟩
  ·injection h with h; subst h; exact ⟨fk38, ⟨Tryd.call38⟩, bodyOk_inv dk38⟩
  ·injection h with h; subst h; exact ⟨fk39, ⟨Tryd.call39⟩, bodyOk_inv dk39⟩
  ·injection h with h; subst h; exact ⟨fk40, ⟨Tryd.call40⟩, bodyOk_inv dk40⟩
  ·injection h with h; subst h; exact ⟨fk41, ⟨Tryd.call41⟩, bodyOk_inv dk41⟩
  ·injection h with h; subst h; exact ⟨fk42, ⟨Tryd.call42⟩, bodyOk_inv dk42⟩
  ·injection h with h; subst h; exact ⟨fk43, ⟨Tryd.call43⟩, bodyOk_inv dk43⟩
  ·injection h with h; subst h; exact ⟨fk44, ⟨Tryd.call44⟩, bodyOk_inv dk44⟩
  ·injection h with h; subst h; exact ⟨fk45, ⟨Tryd.call45⟩, bodyOk_inv dk45⟩
  ·injection h with h; subst h; exact ⟨fk46, ⟨Tryd.call46⟩, bodyOk_inv dk46⟩
  ·injection h with h; subst h; exact ⟨fk47, ⟨Tryd.call47⟩, bodyOk_inv dk47⟩
  ·injection h with h; subst h; exact ⟨fk48, ⟨Tryd.call48⟩, bodyOk_inv dk48⟩
  ·injection h with h; subst h; exact ⟨fk50, ⟨Tryd.call50⟩, bodyOk_inv dk50⟩
  ·injection h with h; subst h; exact ⟨fk51, ⟨Tryd.call51⟩, bodyOk_inv dk51⟩
  ·injection h with h; subst h; exact ⟨fk52, ⟨Tryd.call52⟩, bodyOk_inv dk52⟩
  ·injection h with h; subst h; exact ⟨fk53, ⟨Tryd.call53⟩, bodyOk_inv dk53⟩
  ·injection h with h; subst h; exact ⟨fk54, ⟨Tryd.call54⟩, bodyOk_inv dk54⟩
  ·injection h with h; subst h; exact ⟨fk55, ⟨Tryd.call55⟩, bodyOk_inv dk55⟩
  ·injection h with h; subst h; exact ⟨fk56, ⟨Tryd.call56⟩, bodyOk_inv dk56⟩
  ·injection h with h; subst h; exact ⟨fk57, ⟨Tryd.call57⟩, bodyOk_inv dk57⟩
  ·injection h with h; subst h; exact ⟨fk58, ⟨Tryd.call58⟩, bodyOk_inv dk58⟩
  ·injection h with h; subst h; exact ⟨fk59, ⟨Tryd.call59⟩, bodyOk_inv dk59⟩
  ·injection h with h; subst h; exact ⟨fk60, ⟨Tryd.call60⟩, bodyOk_inv dk60⟩
  ·injection h with h; subst h; exact ⟨fk61, ⟨Tryd.call61⟩, bodyOk_inv dk61⟩
  ·injection h with h; subst h; exact ⟨fk62, ⟨Tryd.call62⟩, bodyOk_inv dk62⟩
  ·injection h with h; subst h; exact ⟨fk63, ⟨Tryd.call63⟩, bodyOk_inv dk63⟩
  ·injection h with h; subst h; exact ⟨fk64, ⟨Tryd.call64⟩, bodyOk_inv dk64⟩
  ·injection h with h; subst h; exact ⟨fk65, ⟨Tryd.call65⟩, bodyOk_inv dk65⟩
  ·injection h with h; subst h; exact ⟨fk66, ⟨Tryd.call66⟩, bodyOk_inv dk66⟩
  ·injection h with h; subst h; exact ⟨fk67, ⟨Tryd.call67⟩, bodyOk_inv dk67⟩
  ·injection h with h; subst h; exact ⟨fk68, ⟨Tryd.call68⟩, bodyOk_inv dk68⟩
  ·injection h with h; subst h; exact ⟨fk69, ⟨Tryd.call69⟩, bodyOk_inv dk69⟩
  ·injection h with h; subst h; exact ⟨fk70, ⟨Tryd.call70⟩, bodyOk_inv dk70⟩
  ·injection h with h; subst h; exact ⟨fk71, ⟨Tryd.call71⟩, bodyOk_inv dk71⟩
  ·injection h with h; subst h; exact ⟨fk72, ⟨Tryd.call72⟩, bodyOk_inv dk72⟩
  ·injection h with h; subst h; exact ⟨fk73, ⟨Tryd.call73⟩, bodyOk_inv dk73⟩
  ·injection h with h; subst h; exact ⟨fk74, ⟨Tryd.call74⟩, bodyOk_inv dk74⟩
  ·injection h with h; subst h; exact ⟨fk75, ⟨Tryd.call75⟩, bodyOk_inv dk75⟩
  ·injection h with h; subst h; exact ⟨fk76, ⟨Tryd.call76⟩, bodyOk_inv dk76⟩
  ·injection h with h; subst h; exact ⟨fk77, ⟨Tryd.call77⟩, bodyOk_inv dk77⟩
  ·injection h with h; subst h; exact ⟨fk78, ⟨Tryd.call78⟩, bodyOk_inv dk78⟩
  ·injection h with h; subst h; exact ⟨fk79, ⟨Tryd.call79⟩, bodyOk_inv dk79⟩
  ·injection h with h; subst h; exact ⟨fk80, ⟨Tryd.call80⟩, bodyOk_inv dk80⟩
  ·injection h with h; subst h; exact ⟨fk81, ⟨Tryd.call81⟩, bodyOk_inv dk81⟩
  ·injection h with h; subst h; exact ⟨fk82, ⟨Tryd.call82⟩, bodyOk_inv dk82⟩
  ·injection h with h; subst h; exact ⟨fk83, ⟨Tryd.call83⟩, bodyOk_inv dk83⟩
  ·injection h with h; subst h; exact ⟨fk84, ⟨Tryd.call84⟩, bodyOk_inv dk84⟩
  ·injection h with h; subst h; exact ⟨fk85, ⟨Tryd.call85⟩, bodyOk_inv dk85⟩
  ·injection h with h; subst h; exact ⟨fk86, ⟨Tryd.call86⟩, bodyOk_inv dk86⟩
  ·injection h with h; subst h; exact ⟨fk87, ⟨Tryd.call87⟩, bodyOk_inv dk87⟩
  ·injection h with h; subst h; exact ⟨fk88, ⟨Tryd.call88⟩, bodyOk_inv dk88⟩
  ·injection h with h; subst h; exact ⟨fk89, ⟨Tryd.call89⟩, bodyOk_inv dk89⟩
  ·injection h with h; subst h; exact ⟨fk90, ⟨Tryd.call90⟩, bodyOk_inv dk90⟩
  ·injection h with h; subst h; exact ⟨fk91, ⟨Tryd.call91⟩, bodyOk_inv dk91⟩
  ·injection h with h; subst h; exact ⟨fk92, ⟨Tryd.call92⟩, bodyOk_inv dk92⟩
  ·injection h with h; subst h; exact ⟨fk93, ⟨Tryd.call93⟩, bodyOk_inv dk93⟩
  ·injection h with h; subst h; exact ⟨fk94, ⟨Tryd.call94⟩, bodyOk_inv dk94⟩
  ·injection h with h; subst h; exact ⟨fk95, ⟨Tryd.call95⟩, bodyOk_inv dk95⟩
  ·injection h with h; subst h; exact ⟨fk96, ⟨Tryd.call96⟩, bodyOk_inv dk96⟩
  ·injection h with h; subst h; exact ⟨fk97, ⟨Tryd.call97⟩, bodyOk_inv dk97⟩
  ·injection h with h; subst h; exact ⟨fk98, ⟨Tryd.call98⟩, bodyOk_inv dk98⟩
  ·injection h with h; subst h; exact ⟨fk99, ⟨Tryd.call99⟩, bodyOk_inv dk99⟩
  ·injection h with h; subst h; exact ⟨fk100, ⟨Tryd.call100⟩, bodyOk_inv dk100⟩
  ·injection h with h; subst h; exact ⟨fk101, ⟨Tryd.call101⟩, bodyOk_inv dk101⟩
  ·injection h with h; subst h; exact ⟨fk102, ⟨Tryd.call102⟩, bodyOk_inv dk102⟩
  ·injection h with h; subst h; exact ⟨fk103, ⟨Tryd.call103⟩, bodyOk_inv dk103⟩
  ·injection h with h; subst h; exact ⟨fk104, ⟨Tryd.call104⟩, bodyOk_inv dk104⟩
  ·injection h with h; subst h; exact ⟨fk105, ⟨Tryd.call105⟩, bodyOk_inv dk105⟩
  ·injection h with h; subst h; exact ⟨fk106, ⟨Tryd.call106⟩, bodyOk_inv dk106⟩
  ·injection h with h; subst h; exact ⟨fk107, ⟨Tryd.call107⟩, bodyOk_inv dk107⟩
  ·injection h with h; subst h; exact ⟨fk108, ⟨Tryd.call108⟩, bodyOk_inv dk108⟩
  ·injection h with h; subst h; exact ⟨fk109, ⟨Tryd.call109⟩, bodyOk_inv dk109⟩
  ·injection h with h; subst h; exact ⟨fk110, ⟨Tryd.call110⟩, bodyOk_inv dk110⟩
  ·injection h with h; subst h; exact ⟨fk111, ⟨Tryd.call111⟩, bodyOk_inv dk111⟩
  ·injection h with h; subst h; exact ⟨fk112, ⟨Tryd.call112⟩, bodyOk_inv dk112⟩
  ·injection h with h; subst h; exact ⟨fk113, ⟨Tryd.call113⟩, bodyOk_inv dk113⟩
  ·injection h with h; subst h; exact ⟨fk114, ⟨Tryd.call114⟩, bodyOk_inv dk114⟩
  ·injection h with h; subst h; exact ⟨fk115, ⟨Tryd.call115⟩, bodyOk_inv dk115⟩
  ·injection h with h; subst h; exact ⟨fk116, ⟨Tryd.call116⟩, bodyOk_inv dk116⟩
  ·injection h with h; subst h; exact ⟨fk117, ⟨Tryd.call117⟩, bodyOk_inv dk117⟩
  ·injection h with h; subst h; exact ⟨fk118, ⟨Tryd.call118⟩, bodyOk_inv dk118⟩
  ·injection h with h; subst h; exact ⟨fk119, ⟨Tryd.call119⟩, bodyOk_inv dk119⟩
  ·injection h with h; subst h; exact ⟨fk120, ⟨Tryd.call120⟩, bodyOk_inv dk120⟩
  ·injection h with h; subst h; exact ⟨fk122, ⟨Tryd.call122⟩, bodyOk_inv dk122⟩
  ·injection h with h; subst h; exact ⟨fk123, ⟨Tryd.call123⟩, bodyOk_inv dk123⟩
  ·injection h with h; subst h; exact ⟨fk124, ⟨Tryd.call124⟩, bodyOk_inv dk124⟩
  ·injection h with h; subst h; exact ⟨fk125, ⟨Tryd.call125⟩, bodyOk_inv dk125⟩
  ·injection h with h; subst h; exact ⟨fk126, ⟨Tryd.call126⟩, bodyOk_inv dk126⟩
  ·injection h with h; subst h; exact ⟨fk127, ⟨Tryd.call127⟩, bodyOk_inv dk127⟩
  ·injection h with h; subst h; exact ⟨fk128, ⟨Tryd.call128⟩, bodyOk_inv dk128⟩
  ·injection h with h; subst h; exact ⟨fk129, ⟨Tryd.call129⟩, bodyOk_inv dk129⟩
  ·injection h with h; subst h; exact ⟨fk130, ⟨Tryd.call130⟩, bodyOk_inv dk130⟩
  ·injection h with h; subst h; exact ⟨fk131, ⟨Tryd.call131⟩, bodyOk_inv dk131⟩
  ·injection h with h; subst h; exact ⟨fk132, ⟨Tryd.call132⟩, bodyOk_inv dk132⟩
  ·injection h with h; subst h; exact ⟨fk133, ⟨Tryd.call133⟩, bodyOk_inv dk133⟩
  ·injection h with h; subst h; exact ⟨fk134, ⟨Tryd.call134⟩, bodyOk_inv dk134⟩
  ·injection h with h; subst h; exact ⟨fk135, ⟨Tryd.call135⟩, bodyOk_inv dk135⟩
  ·injection h with h; subst h; exact ⟨fk137, ⟨Tryd.call137⟩, bodyOk_inv dk137⟩
  ·injection h with h; subst h; exact ⟨fk138, ⟨Tryd.call138⟩, bodyOk_inv dk138⟩
  ·injection h with h; subst h; exact ⟨fk139, ⟨Tryd.call139⟩, bodyOk_inv dk139⟩
  ·injection h with h; subst h; exact ⟨fk140, ⟨Tryd.call140⟩, bodyOk_inv dk140⟩
  ·injection h with h; subst h; exact ⟨fk141, ⟨Tryd.call141⟩, bodyOk_inv dk141⟩
  ·injection h with h; subst h; exact ⟨fk142, ⟨Tryd.call142⟩, bodyOk_inv dk142⟩
  ·injection h with h; subst h; exact ⟨fk143, ⟨Tryd.call143⟩, bodyOk_inv dk143⟩
  ·injection h with h; subst h; exact ⟨fk144, ⟨Tryd.call144⟩, bodyOk_inv dk144⟩
  ·injection h with h; subst h; exact ⟨fk167, ⟨Tryd.call167⟩, bodyOk_inv dk167⟩
  ·cases h
 ·change idT f = true at h
  unfold idT at h
  split at h
  ·exact id121
  ·cases h
def codeOf (f : Func) : Code := match f.body with
 | some c => c
 | none => .skip
/-- A part of code, by its way. -/
def pc : Code → List Nat → Code
 | c, [] => c
 | .seq a _, 0 :: l => pc a l
 | .seq _ b, _ :: l => pc b l
 | .cond _ a _, 0 :: l => pc a l
 | .cond _ _ b, _ :: l => pc b l
 | .block _ a, _ :: l => pc a l
 | .loop a, _ :: l => pc a l
 | c, _ :: _ => c
/-- What is told of a function, in no environment of its own. -/
def XOk (f : FuncId) (g : List AV → Option AV) : Prop := Callable E0.P f ∧ ∀ xs x, g xs = some x → ∀ w Z us, (∀ c, Z c → c < w.heap.size) → GI E0 w Z → VRs w Z [] xs us → Ret E0.P f us.toArray w fun v w' => w.grownBy w' none ∧ VR w' (fun c => Z c ∨ (w.heap.size ≤ c ∧ c < w'.heap.size)) [] x v
section
variable {E : Env} {cx : Cx} {c : Code} {s s1 : St} {Q : Ex → St → Prop} {n : Nat} {e0 : Ex}
theorem SemN.mono {Q' : Ex → St → Prop} (h : SemN E cx c n s Q) (hq : ∀ e s, Q e s → Q' e s) : SemN E cx c n s Q' :=
 fun ro base Qm a w Z R h1 h2 h3 k => h ro base Qm a w Z R h1 h2 h3 fun e s' a' w' Z' R' hQ => k e s' a' w' Z' R' (hq e s' hQ)
theorem SemN.wkQ (h : SemN E cx c n s fun e s' => ∃ s2, Wk E s' s2 ∧ Q e s2) : SemN E cx c n s Q := by
 intro ro base Qm a w Z R h1 h2 h3 k
 refine h ro base Qm a w Z R h1 h2 h3 fun e s' a' w' Z' R' hQ sr st => ?_
 obtain ⟨s2, hw, hq⟩ := hQ
 obtain ⟨Z2, R2, sr2, st2⟩ := hw _ w' Z' R' a' sr
 exact k e s2 a' w' Z2 R2 hq sr2 (st.trans st2)
theorem Sem.cutN (h : SemN E cx c n s fun e s' => e = e0 ∧ Wk E s' s1) (k : Q e0 s1) : SemN E cx c n s Q :=
 SemN.wkQ (SemN.mono h fun e s' h => ⟨s1, h.2, by rw [h.1]; exact k⟩)
end
theorem EnvOk.x {E : Env} {f : FuncId} {g : List AV → Option AV} (h : EnvOk (E.withX f g)) (hP : E.P = E0.P) (hG : E.G = E0.G) : XOk f g := by
 obtain ⟨h1, h2⟩ := h.X f g (if_pos rfl)
 have e1 : (E.withX f g).P = E0.P := hP
 refine ⟨e1 ▸ h1, fun xs x hx w Z us hz hg hv => ?_⟩
 have := h2 xs x hx w Z us hz (fun q y hy => hg q y (by rw [← hG]; exact hy)) hv
 exact e1 ▸ this
def flatO : AV → Bool
 | .v _ => true
 | .st _ => true
 | .e0 => true
 | .rf _ _ _ _ => true
 | .pt _ _ _ => true
 | _ => false
/-- Flat, but for names of own blocks. -/
def ownFlat : AV → Bool
 | .ag cs => cs.all flatO
 | .tp cs => cs.all flatO
 | x => flatO x
def sh1 (n : Nat) : AV → AV
 | .rf b lo k m => .rf (n + b) lo k m
 | .pt b i o => .pt (n + b) i o
 | x => x
def shN (n : Nat) : AV → AV
 | .ag cs => .ag (cs.map (sh1 n))
 | .tp cs => .tp (cs.map (sh1 n))
 | x => sh1 n x
def flatH : Hp → Bool
 | [] => true
 | none :: r => flatH r
 | some B :: r => !B.fz && B.es.all isFlat && flatH r
theorem flatH_at : ∀ {h : Hp}, flatH h = true → ∀ (b : Nat) (B : Blk), h[b]? = some (some B) → B.fz = false ∧ B.es.all isFlat = true
 | [], _, b, B, hb => by simp at hb
 | none :: r, h, 0, B, hb => by simp at hb
 | none :: r, h, b + 1, B, hb => flatH_at (h := r) h b B (by simpa using hb)
 | some C :: r, h, 0, B, hb => by
  simp at hb; subst hb
  simp only [flatH, Bool.and_eq_true, Bool.not_eq_true'] at h
  exact h.1
 | some C :: r, h, b + 1, B, hb => by
  simp only [flatH, Bool.and_eq_true] at h
  exact flatH_at h.2 b B (by simpa using hb)
section
variable {w w' : World} {Z Z' : Nat → Prop} {R R' : List RI} {h h' : Hp}
theorem sh1_vr {n : Nat} (hn : R.length = n) {x : AV} {u : Value} (hf : flatO x = true) (hv : VR w Z R' x u) : VR w Z' (R ++ R') (sh1 n x) u := by
 have hg : ∀ {b : Nat} {r : RI}, R'[b]? = some r → (R ++ R')[n + b]? = some r := fun {b r} hr => by
  rw [List.getElem?_append_right (by omega), ← hn, Nat.add_sub_cancel_left]; exact hr
 cases hv with
 | v h => exact .v h
 | st h hn => exact .st h hn
 | e0 => exact .e0
 | rf hr h0 h1 h2 hm => exact .rf (hg hr) h0 h1 h2 hm
 | pt hr => exact .pt (hg hr)
 | _ => simp [flatO] at hf
theorem shN_vr {n : Nat} (hn : R.length = n) {x : AV} {u : Value} (hf : ownFlat x = true) (hv : VR w Z R' x u) : VR w Z' (R ++ R') (shN n x) u := by
 have hl : ∀ {cs : List AV} {us : List Value}, cs.all flatO = true → (∀ (i : Nat) (x : AV) (u : Value), cs[i]? = some x → us[i]? = some u → VR w Z R' x u) → ∀ (i : Nat) (x : AV) (u : Value), (cs.map (sh1 n))[i]? = some x → us[i]? = some u → VR w Z' (R ++ R') x u := fun {cs us} hc hx i x u hi hu => by
  rw [List.getElem?_map] at hi
  obtain ⟨y, hy, rfl⟩ := Option.map_eq_some_iff.1 hi
  exact sh1_vr hn (List.all_eq_true.1 hc y (List.mem_of_getElem? hy)) (hx i y u hy hu)
 cases hv with
 | ag h1 h2 hx => exact .ag (by simpa using h1) h2 (hl hf hx)
 | tp h1 hx => exact .tp (by simpa using h1) (hl hf hx)
 | v h => exact sh1_vr (Z := Z) hn rfl (.v h)
 | st h hn' => exact sh1_vr (Z := Z) hn rfl (.st h hn')
 | e0 => exact sh1_vr (Z := Z) hn rfl .e0
 | rf hr h0 h1 h2 hm => exact sh1_vr (Z := Z) hn rfl (.rf hr h0 h1 h2 hm)
 | pt hr => exact sh1_vr (Z := Z) hn rfl (.pt hr)
 | _ => simp [ownFlat, flatO] at hf
/-- What a call made stands beside what was there. -/
theorem HR.join {Z0 : Nat → Prop} (hh : HR w Z R h) (_hz : ∀ c, Z0 c → c < w.heap.size) (st : StepW w Z0 [] [] w' Z' R' h') (hh' : HR w' Z' R' h') (hf : flatH h' = true) : HR w' Z (R ++ R') (h ++ h') ∧ Step w Z R h w' Z (R ++ R') (h ++ h') := by
 have hold : ∀ c, c < w.heap.size → w'.heap[c]? = w.heap[c]? := fun c hc => st.block c hc fun ⟨b, B, r, hb, _⟩ => by simp at hb
 have hr : ∀ (i : Nat) (x : RI), R[i]? = some x → (R ++ R')[i]? = some x := fun i x hx => by
  rw [List.getElem?_append_left (List.getElem?_eq_some_iff.1 hx).1]; exact hx
 have hnew : ∀ c, own R' h' c → w.heap.size ≤ c := fun c hc => (st.own_ c hc).resolve_left fun ⟨b, B, r, hb, _⟩ => by simp at hb
 have hlen := hh.len
 -- where a block lies
 have hat : ∀ (b : Nat) (B : Blk), (h ++ h')[b]? = some (some B) → (b < h.length ∧ h[b]? = some (some B) ∧ (R ++ R')[b]? = R[b]?) ∨ (∃ j, b = h.length + j ∧ h'[j]? = some (some B) ∧ (R ++ R')[b]? = R'[j]?) := fun b B hb => by
  by_cases hlt : b < h.length
  ·rw [List.getElem?_append_left hlt] at hb
   exact .inl ⟨hlt, hb, List.getElem?_append_left (by omega)⟩
  ·rw [List.getElem?_append_right (by omega)] at hb
   exact .inr ⟨b - h.length, by omega, hb, by rw [List.getElem?_append_right (by omega), hlen]⟩
 have hRb : ∀ (b : Nat) (B : Blk) (r : RI), h[b]? = some (some B) → R[b]? = some r → r.c < w.heap.size := fun b B r h1 h2 => hh.rltL h1 h2
 have hRn : ∀ (j : Nat) (B : Blk) (r : RI), h'[j]? = some (some B) → R'[j]? = some r → w.heap.size ≤ r.c := fun j B r h1 h2 => hnew _ ⟨j, B, r, h1, (flatH_at hf j B h1).1, h2, rfl⟩
 refine ⟨⟨by simp [hh.len, hh'.len], fun b B hB => ?_, fun b b' B B' r r' hB hfz hB' hfz' h1 h2 e => ?_, fun c hc => Nat.lt_of_lt_of_le (hh.zlt c hc) st.size⟩, ⟨st.os, st.tape, st.output, st.size, fun c hc _ => hold c hc, fun c hc => ?_, fun _ h => h, fun _ h => .inl h, hr⟩⟩
 ·rcases hat b B hB with ⟨hlt, hb, hRR⟩ | ⟨j, rfl, hb, hRR⟩
  ·obtain ⟨r, arr, us, g1, g2, g3, g4, g5, g6, g7, g8, g9, g10⟩ := hh.blk b B hb
   exact ⟨r, arr, us, hRR.trans g1, g2, (hold _ (hRb b B r hb g1)).trans g3, g4, g5, g6, g7, g8, ⟨g9.len, fun i x u hx hu => (g9.at_ i x u hx hu).mono (fun c hc => hold c (hh.zlt c hc)) (fun _ h => h) hr⟩, g10⟩
  ·obtain ⟨r, arr, us, g1, g2, g3, g4, g5, g6, g7, g8, g9, g10⟩ := hh'.blk j B hb
   obtain ⟨f1, f2⟩ := flatH_at hf j B hb
   exact ⟨r, arr, us, hRR.trans g1, g2, g3, g4, g5, g6, (fun h => by rw [f1] at h; cases h), (fun _ hz' => by have := hh.zlt _ hz'; have := hRn j B r hb g1; omega), ⟨g9.len, fun i x u hx hu => flat_vr (by have := List.all_eq_true.1 f2 x (List.mem_of_getElem? hx); cases x <;> first | exact this | (simp [isFlat] at this)) (g9.at_ i x u hx hu)⟩, g10⟩
 ·rcases hat b B hB with ⟨_, hb, hRR⟩ | ⟨j, rfl, hb, hRR⟩ <;> rcases hat b' B' hB' with ⟨_, hb', hRR'⟩ | ⟨j', rfl, hb', hRR'⟩ <;> rw [hRR] at h1 <;> rw [hRR'] at h2
  ·exact hh.inj b b' B B' r r' hb hfz hb' hfz' h1 h2 e
  ·have := hRb b B r hb h1; have := hRn j' B' r' hb' h2; omega
  ·have := hRb b' B' r' hb' h2; have := hRn j B r hb h1; omega
  ·rw [hh'.inj j j' B B' r r' hb hfz hb' hfz' h1 h2 e]
 ·obtain ⟨b, B, r, h1, h2, h3, rfl⟩ := hc
  rcases hat b B h1 with ⟨_, hb, hRR⟩ | ⟨j, rfl, hb, hRR⟩ <;> rw [hRR] at h3
  ·exact .inl ⟨b, B, r, hb, h2, h3, rfl⟩
  ·exact .inr (hRn j B r hb h3)
end
/-- What a call may hand back, and the blocks that come with it. -/
def SOk (f : FuncId) (ys : List AV) (Out : AV → Hp → Prop) : Prop := Callable E0.P f ∧ ∀ w Z us, (∀ c, Z c → c < w.heap.size) → GI E0 w Z → VRs w Z [] ys us → Ret E0.P f us.toArray w fun v w' => ∃ Z' R' x h', Out x h' ∧ HR w' Z' R' h' ∧ VR w' Z' R' x v ∧ StepW w Z [] [] w' Z' R' h'
theorem sok_of_sem {e : Env} (hE : EnvOk e) (hP : e.P = E0.P) (hG : e.G = E0.G) {f : FuncId} {fn : Func} {c : Code} (hf : e.fn f = some fn) (hc : fn.body = some c) (hcall : Callable E0.P f) {ys : List AV} (hle : ys.length ≤ fn.ntmps) {Out : AV → Hp → Prop}
  (sem : Sem e ⟨none, false⟩ c ⟨Fr fn.ntmps (pairs0 0 ys), []⟩ fun x s' => (x = .normal ∨ x = .ret) ∧ ∃ xs, resA e.P s'.fr s'.hp fn.results.toList = some xs ∧ Out (retA xs) s'.hp) : SOk f ys Out := by
 obtain ⟨P, fns, G, X, I⟩ := e
 simp only at hP hG
 subst hP hG
 refine ⟨hcall, fun w Z us hz hg hv => ?_⟩
 have hh : HR w Z [] [] := ⟨rfl, fun b B hB => by simp at hB, fun b b' B B' r r' hB => by simp at hB, hz⟩
 refine Ret.mono (ret_sem hE hf hc hle (Q := fun _ s => ∃ x, s.fr = [some x] ∧ Out x s.hp) (Sem.mono (Sem.wk (Wk.enter hle) sem) fun e s' hs => ?_) hh hv hg) fun v w' hS => ?_
 ·obtain ⟨h1, xs, h2, h3⟩ := hs
  exact ⟨h1, xs, h2, _, rfl, h3⟩
 ·obtain ⟨Z', R', x, h', ⟨y, hy, hO⟩, k1, k2, st⟩ := hS
  have hy : x = y := by simpa using hy
  subst hy
  exact ⟨Z', R', x, h', hO, k1, k2, st⟩
def viewF (h : Hp) : AV → Option AV
 | .fn f [] [] => some (.fn f [] [])
 | x => view2 h x
def viewsF (h : Hp) : List AV → Option (List AV)
 | [] => some []
 | x :: l => match viewF h x, viewsF h l with
  | some y, some r => some (y :: r)
  | _, _ => none
theorem viewsF_vr {w : World} {Z : Nat → Prop} {R : List RI} {h : Hp} (hh : HR w Z R h) : ∀ {xs ys : List AV} {us : List Value}, VRs w Z R xs us → viewsF h xs = some ys → VRs w (fun c => Z c ∨ own R h c) [] ys us
 | [], ys, us, hv, e => by
  injection e with e; subst e
  have : us = [] := by have := hv.len; simpa using this
  subst this
  exact .nil
 | x :: xs, ys, us, hv, e => by
  obtain ⟨u, us', rfl, hu, hn⟩ := hv.head
  unfold viewsF at e
  split at e
  ·next y r h1 h2 =>
   injection e with e; subst e
   refine .cons ?_ (viewsF_vr hh hn h2)
   unfold viewF at h1
   split at h1
   ·injection h1 with h1; subst h1
    cases hu with
    | fn hl hl' hx hy =>
     rename_i u1 u2
     have e1 : u1 = [] := by simpa using hl
     have e2 : u2 = [] := by simpa using hl'
     subst e1 e2
     exact .fn (us := []) (vs := []) rfl rfl (fun i x u hx => by simp at hx) (fun i x u hx => by simp at hx)
   ·exact view2_vr hh hu h1
  ·cases e
section
variable {E : Env} {ops : Array Oper} {rest rest' : List Oper} {K : St → Prop} {n : Nat} {l : List (Nat × AV)} {hp : Hp} {xs ys : List AV} {Out : AV → Hp → Prop}
theorem RunS.callS (hP : E.P = E0.P) (hG : E.G = E0.G) {d : Nat} {f : Operand} {args : Array Operand} {tys : Array TypeId} {ty : TypeId} {pos : String} {af : Array Edge} {g : Option (Nat × Bool)} {fid : FuncId} (hs : SOk fid ys Out) (hr : rest = ⟨some d, .call ⟨.value f, args, tys⟩, ty, pos, af, g⟩ :: rest') (hw : wantedA ops (Fr n l) ⟨some d, .call ⟨.value f, args, tys⟩, ty, pos, af, g⟩ = some true)
  (hf : opA E (Fr n l) f = some (.fn fid [] [])) (ha : opds (opA E (Fr n l)) args.toList = some xs) (hv : viewsF hp xs = some ys) (hfl : ∀ x h', Out x h' → ownFlat x = true ∧ flatH h' = true) (k : ∀ x h', Out x h' → RunS E ops rest' ⟨Fr n ((d, shN hp.length x) :: l), hp ++ h'⟩ K) : RunS E ops rest ⟨Fr n l, hp⟩ K := by
 obtain ⟨P, fns, G, X, I⟩ := E
 simp only at hP hG
 subst hP hG
 subst hr
 intro base Q a w Z R sr q
 have hρ : ∀ o x, opA ⟨E0.P, fns, E0.G, X, I⟩ (Fr n l) o = some x → VR w Z R x (a.eval o) := fun o x e => opA_vr sr o x e
 unfold LwL
 rw [if_pos (wantedA_eq sr hw)]
 have hva : a.eval f = .func (.func fid) ([] : List Value).toArray ([] : List Value).toArray := by
  have := hρ _ _ hf
  generalize a.eval f = vf at this
  cases this with
  | fn hl hl' hx hy =>
   rename_i u1 u2
   have e1 : u1 = [] := by simpa using hl
   have e2 : u2 = [] := by simpa using hl'
   subst e1 e2; rfl
 unfold Lw
 rw [run_call (uf := []) (uc := []) rfl hva rfl hs.1 w]
 simp only [List.nil_append, List.append_nil]
 have hz1 : ∀ c, (Z c ∨ own R hp c) → c < w.heap.size := fun c hc => hc.elim (sr.hh.zlt c) (fun ⟨b, B, r, h1, _, h3, h4⟩ => h4 ▸ sr.hh.rltL h1 h3)
 have hg1 : GI E0 w (fun c => Z c ∨ own R hp c) := fun q y hy => (sr.gl q y hy).mono (fun _ _ => rfl) (fun _ h => .inl h) (fun _ _ h => h)
 refine Ret.mono (hs.2 w _ _ hz1 hg1 (viewsF_vr sr.hh (opds_vr hρ ha) hv)) fun v w' hS => ?_
 obtain ⟨Z', R', x, h', hO, h1, h2, st⟩ := hS
 obtain ⟨f1, f2⟩ := hfl x h' hO
 obtain ⟨j1, j2⟩ := sr.hh.join hz1 st h1 f2
 have hlen : R.length = hp.length := sr.hh.len
 have hx := shN_vr (w := w') (Z' := Z) (R := R) hlen f1 h2
 have sr' := (sr.step j1 j2).put (d := some d) hx
 rw [show putA (⟨Fr n l, hp⟩ : St).fr (some d) (shN hp.length x) = Fr n ((d, shN hp.length x) :: l) from putA_Fr n l d _] at sr'
 exact k x h' hO base Q _ w' Z (R ++ R') sr' fun s' a' w'' Z'' R'' hK sr'' st' => q s' a' w'' Z'' R'' hK sr'' (j2.w.trans st')
end
/-- As Fr1, and in the cells of a struct. -/
def Fr2 (h : Hp) (b : Nat) (x x' : AV) : Prop := Fr1 h b x x' ∨ ∃ cs cs', x = .ag cs ∧ x' = .ag cs' ∧ EsFz h b cs cs'
theorem Fr2.vr {w : World} {Z : Nat → Prop} {R : List RI} {h : Hp} {b : Nat} {x x' : AV} {u : Value} (f : Fr2 h b x x') (hh : HR w Z R h) (hv : VR w Z R x u) : VR w (ZFr Z R h b) R x' u := by
 rcases f with f | ⟨cs, cs', rfl, rfl, f⟩
 ·exact f.vr hh hv
 ·obtain ⟨k1, k2⟩ := f.at_
  cases hv with
  | ag hl h1 hx =>
   refine .ag (hl.trans k1) h1 fun i y u hy hu => ?_
   obtain ⟨x, q1, q2⟩ := k2 i y hy
   exact q2.vr hh (hx i x u q1 hu)
def EsF2 (h : Hp) (b : Nat) : List AV → List AV → Prop
 | [], [] => True
 | x :: r, x' :: r' => Fr2 h b x x' ∧ EsF2 h b r r'
 | _, _ => False
theorem EsF2.at_ {h : Hp} {b : Nat} : ∀ {es es' : List AV}, EsF2 h b es es' → es.length = es'.length ∧ ∀ (i : Nat) (x' : AV), es'[i]? = some x' → ∃ x, es[i]? = some x ∧ Fr2 h b x x'
 | [], [], _ => ⟨rfl, fun i x' hx => by simp at hx⟩
 | x :: r, x' :: r', ⟨h1, h2⟩ => by
  obtain ⟨k1, k2⟩ := h2.at_
  refine ⟨by simp [k1], fun i y hy => ?_⟩
  cases i with
  | zero => simp at hy; subst hy; exact ⟨x, rfl, h1⟩
  | succ i => simpa using k2 i y (by simpa using hy)
 | [], _ :: _, h => h.elim
 | _ :: _, [], h => h.elim
def EnF2 (h : Hp) (b : Nat) (o o' : Option Blk) : Prop := o' = none ∨ o = o' ∨ ∃ k t es es', o = some ⟨k, t, es, false⟩ ∧ o' = some ⟨k, t, es', false⟩ ∧ EsF2 h b es es'
def HpF2 (h : Hp) (b : Nat) : Hp → Hp → Prop
 | [], [] => True
 | o :: r, o' :: r' => EnF2 h b o o' ∧ HpF2 h b r r'
 | _, _ => False
theorem HpF2.at_ {h : Hp} {b : Nat} : ∀ {q q' : Hp}, HpF2 h b q q' → q.length = q'.length ∧ ∀ (j : Nat) (B' : Blk), q'[j]? = some (some B') → ∃ es, q[j]? = some (some { B' with es := es }) ∧ es.length = B'.es.length ∧ ∀ (i : Nat) (x' : AV), B'.es[i]? = some x' → ∃ x, es[i]? = some x ∧ Fr2 h b x x'
 | [], [], _ => ⟨rfl, fun j B' hx => by simp at hx⟩
 | o :: r, o' :: r', ⟨h1, h2⟩ => by
  obtain ⟨k1, k2⟩ := h2.at_
  refine ⟨by simp [k1], fun j B' hB => ?_⟩
  cases j with
  | zero =>
   simp at hB
   subst hB
   rcases h1 with h1 | h1 | ⟨k, t, es, es', rfl, h1, h3⟩
   ·cases h1
   ·subst h1
    exact ⟨B'.es, rfl, rfl, fun i x' hx => ⟨x', hx, .inl (.inl rfl)⟩⟩
   ·have h1 := Option.some.inj h1
    subst h1
    obtain ⟨q1, q2⟩ := h3.at_
    exact ⟨es, rfl, q1, q2⟩
  | succ j => simpa using k2 j B' (by simpa using hB)
 | [], _ :: _, h => h.elim
 | _ :: _, [], h => h.elim
def LkF2 (h : Hp) (b : Nat) (l : List (Nat × AV)) : List (Nat × AV) → Prop
 | [] => True
 | (t, x') :: r => (∃ x, lk l t = some x ∧ Fr2 h b x x') ∧ LkF2 h b l r
theorem LkF2.at_ {h : Hp} {b : Nat} {l : List (Nat × AV)} : ∀ {l' : List (Nat × AV)}, LkF2 h b l l' → ∀ t x', lk l' t = some x' → ∃ x, lk l t = some x ∧ Fr2 h b x x'
 | [], _, t, x, h => by cases h
 | (k, y) :: r, hk, t, x, h => by
  rw [lk_put] at h
  split at h
  ·next e => injection h with h; subst e h; exact hk.1
  ·exact hk.2.at_ t x h
/-- Block b is frozen, wherever it is named. -/
theorem Wk.frzG2 {E : Env} {n : Nat} {l l' : List (Nat × AV)} {h h' : Hp} (b : Nat) (hb : h'[b]? = some Option.none ∨ h[b]? = some Option.none) (hh : HpF2 h b h h') (hl : LkF2 h b l l') : Wk E ⟨Fr n l, h⟩ ⟨Fr n l', h'⟩ := by
 intro base w Z R a sr
 obtain ⟨hlen, hblk⟩ := hh.at_
 have hne : ∀ (j : Nat) (B' B r : _), h'[j]? = some (some B') → h[b]? = some (some B) → R[b]? = some r → B.fz = false → B'.fz = false → ∀ r', R[j]? = some r' → r'.c ≠ r.c := by
  intro j B' B r hj hB hr hf hf' r' hr' e
  obtain ⟨es, k1, _⟩ := hblk j B' hj
  have := sr.hh.inj j b _ B r' r k1 hf' hB hf hr' hr e
  subst this
  rcases hb with hb | hb
  ·rw [hb] at hj; cases hj
  ·rw [hb] at hB; cases hB
 have hown : ∀ c, own R h' c → own R h c := fun c ⟨j, B, r, h1, h2, h3, h4⟩ => by
  obtain ⟨es, k1, _⟩ := hblk j B h1
  exact ⟨j, _, r, k1, h2, h3, h4⟩
 have hzo : ∀ c, ZFr Z R h b c → Z c ∨ own R h c := fun c hc => hc.elim .inl fun ⟨B, r, h1, h2, h3, h4⟩ => .inr ⟨b, B, r, h1, h2, h3, h4.symm⟩
 refine ⟨ZFr Z R h b, R, ⟨⟨sr.hh.len.trans hlen, fun j B' hB' => ?_, fun j j' B B' r r' hB hf hB' hf' h1 h2 e => ?_, fun c hc => ?_⟩, ⟨?_, fun t x hx => ?_⟩, ?_, fun g x hx => (sr.gl g x hx).mono (fun _ _ => rfl) (fun _ h => .inl h) (fun _ _ h => h), sr.bs⟩, ⟨rfl, rfl, rfl, Nat.le_refl _, fun _ _ _ => rfl, fun c hc => .inl (hown c hc), fun _ h => .inl h, fun c hc => (hzo c hc).elim .inl (fun h => .inr (.inl h))⟩⟩
 ·obtain ⟨es, k1, k2, k3⟩ := hblk j B' hB'
  obtain ⟨r, arr, us, g1, g2, g3, g4, g5, g6, g7, g8, g9, g10⟩ := sr.hh.blk j _ k1
  refine ⟨r, arr, us, g1, g2, g3, g4, by rw [← k2]; exact g5, g6, fun hf => .inl (g7 hf), fun hf hc => ?_, ⟨by rw [g9.len]; exact k2, fun i x' u hx hu => ?_⟩, g10⟩
  ·rcases hc with hc | ⟨B, r2, q1, q2, q3, q4⟩
   ·exact g8 hf hc
   ·exact hne j B' B r2 hB' q1 q3 q2 hf r g1 q4
  ·obtain ⟨x, q1, q2⟩ := k3 i x' hx
   exact q2.vr sr.hh (g9.at_ i x u q1 hu)
 ·obtain ⟨es, k1, _⟩ := hblk j B hB
  obtain ⟨es', k1', _⟩ := hblk j' B' hB'
  exact sr.hh.inj j j' _ _ r r' k1 hf k1' hf' h1 h2 e
 ·rcases hc with hc | ⟨B, r, q1, q2, q3, rfl⟩
  ·exact sr.hh.zlt c hc
  ·exact sr.hh.rltL q1 q3
 ·rw [Fr_len]; have := sr.fr.1; rw [Fr_len] at this; exact this
 ·rw [Fr_get] at hx
  split at hx
  ·next ht =>
   injection hx with hx
   obtain ⟨y, h1, h2⟩ := hl.at_ t x hx
   exact h2.vr sr.hh (sr.fr.2 t y (by rw [Fr_get, if_pos ht, h1]))
  ·cases hx
 ·have : ∀ {D : List Deferred}, Mks base w Z R h D → Mks base w (ZFr Z R h b) R h' D := by
   intro D
   induction D with
   | nil => intro _; trivial
   | cons d D ih => exact fun ⟨⟨q, h1, h2, h3, h4, h5, h6⟩, hD⟩ => ⟨⟨q, h1, h2, h3, fun hc => (hzo q hc).elim h4 h5, fun ho => h5 (hown q ho), h6⟩, ih hD⟩
  exact this sr.mks
/-- Structs of values. -/
def cdG1 {α : Type} (c : Cd α) (hc : ∀ x, noRf (c.enc x) = true) : Cd α where
 enc x := .ag [c.enc x]
 dec a := match a with
  | .ag [y] => c.dec y
  | _ => none
 de x := c.de x
 vr := fun {w Z a x u} h hv => by
  split at h
  ·cases hv with
   | ag hl h1 hx =>
    refine .ag (by simpa using hl) h1 fun i y u hy hu => ?_
    match i with
    | 0 => simp at hy; subst hy; exact c.vr h (hx 0 _ u rfl hu)
    | i + 1 => simp at hy
  ·cases h
 nr x := by simp [noRf2, hc]
def cdG2 {α β : Type} (c : Cd α) (d : Cd β) (hc : ∀ x, noRf (c.enc x) = true) (hd : ∀ x, noRf (d.enc x) = true) : Cd (α × β) where
 enc x := .ag [c.enc x.1, d.enc x.2]
 dec a := match a with
  | .ag [y, z] => (c.dec y).bind fun p => (d.dec z).map fun q => (p, q)
  | _ => none
 de x := by simp [c.de, d.de]
 vr := fun {w Z a x u} h hv => by
  split at h
  ·obtain ⟨p, h1, h⟩ := Option.bind_eq_some_iff.1 h
   obtain ⟨q, h2, rfl⟩ := Option.map_eq_some_iff.1 h
   cases hv with
   | ag hl hh hx =>
    refine .ag (by simpa using hl) hh fun i y u hy hu => ?_
    match i with
    | 0 => simp at hy; subst hy; exact c.vr h1 (hx 0 _ u rfl hu)
    | 1 => simp at hy; subst hy; exact d.vr h2 (hx 1 _ u rfl hu)
    | i + 2 => simp at hy
  ·cases h
 nr x := by simp [noRf2, hc, hd]
def notAg : AV → Bool
 | .ag _ => false
 | _ => true
/-- The two parts of a range over a function. -/
def asgOf : Code → Code
 | .rangeFunc _ _ a _ => a
 | c => c
def bdyOf : Code → Code
 | .rangeFunc _ _ _ b => b
 | c => c
/-- As Sem, but the numbers of the blocks are kept, and a range over a function may be under way. -/
def SemY (E : Env) (cx : Cx) (c : Code) (s : St) (Q : Ex → St → Prop) : Prop :=
 ∀ (ro : Option Nat) (base : Nat) (Qm : Exit → Act → World → Prop) (a : Act) (w : World) (Z : Nat → Prop) (R : List RI), (cx.inR = false → ro = none) → SR E base w Z R s a → YI cx w Z R s.hp →
  (∀ e s' a' w' Z' R', Q e s' → SR E base w' Z' R' s' a' → Step w Z R s.hp w' Z' R' s'.hp → Qm (exOf e) a' w') → c.wpIn (Fw ro) 0 E.P Qm a w
def SemYN (E : Env) (cx : Cx) (c : Code) (n : Nat) (s : St) (Q : Ex → St → Prop) : Prop :=
 ∀ (ro : Option Nat) (base : Nat) (Qm : Exit → Act → World → Prop) (a : Act) (w : World) (Z : Nat → Prop) (R : List RI), (cx.inR = false → ro = none) → SR E base w Z R s a → YI cx w Z R s.hp →
  (∀ e s' a' w' Z' R', Q e s' → SR E base w' Z' R' s' a' → Step w Z R s.hp w' Z' R' s'.hp → Qm (exOf e) a' w') → Code.roundsIn (Fw ro) 0 E.P c Qm n a w
def RunY (E : Env) (cx : Cx) (ops : Array Oper) (rest : List Oper) (s : St) (K : St → Prop) : Prop :=
 ∀ (ro : Option Nat) (base : Nat) (Q : Exit → Act → World → Prop) (a : Act) (w : World) (Z : Nat → Prop) (R : List RI), (cx.inR = false → ro = none) → SR E base w Z R s a → YI cx w Z R s.hp →
  (∀ s' a' w' Z' R', K s' → SR E base w' Z' R' s' a' → Step w Z R s.hp w' Z' R' s'.hp → Q .normal a' w') → wpListIn (Fw ro) 0 E.P ops Q rest a w
/-- A state that says less of the same worlds; the numbers are kept. -/
def WkY (E : Env) (s s' : St) : Prop := ∀ base w Z R a, SR E base w Z R s a → ∃ Z' R', SR E base w Z' R' s' a ∧ Step w Z R s.hp w Z' R' s'.hp
section
variable {E : Env} {cx : Cx} {ops : Array Oper} {pre rest rest' : List Oper} {s s1 : St} {K : St → Prop} {n m : Nat} {l l' : List (Nat × AV)} {hp hp' : Hp} {Q Q' : Ex → St → Prop} {id : Nat} {c c' : Code}
theorem SemY.skip (q : Q .normal s) : SemY E cx .skip s Q := fun _ _ _ a w Z R _ h2 _ k => wpIn_skip (k .normal s a w Z R q h2 (Step.refl _ _ _ _))
theorem SemY.exit {id : Nat} (q : Q (.exit id) s) : SemY E cx (.exit id) s Q := fun _ _ _ a w Z R _ h2 _ k => wpIn_exit (k (.exit id) s a w Z R q h2 (Step.refl _ _ _ _))
theorem SemY.ret (q : Q .ret s) : SemY E cx .ret s Q := fun _ _ _ a w Z R _ h2 _ k => wpIn_ret (k .ret s a w Z R q h2 (Step.refl _ _ _ _))
theorem SemY.seq (h : SemY E cx c s fun e s' => match e with | .normal => SemY E cx c' s' Q | e => Q e s') : SemY E cx (.seq c c') s Q := by
 intro ro base Qm a w Z R h1 h2 h3 k
 refine wpIn_seq (h ro base _ a w Z R h1 h2 h3 fun e s' a' w' Z' R' hQ sr st => ?_)
 cases e with
 | normal => exact hQ ro base Qm a' w' Z' R' h1 sr (h3.step h2.hh st) fun e2 s2 a2 w2 Z2 R2 hQ2 sr2 st2 => k e2 s2 a2 w2 Z2 R2 hQ2 sr2 (st.trans st2)
 | exit id => exact k _ s' a' w' Z' R' hQ sr st
 | ret => exact k _ s' a' w' Z' R' hQ sr st
theorem SemY.cond_true {x : Operand} (hx : opA E s.fr x = some (.v (.bool true))) (h : SemY E cx c s Q) : SemY E cx (.cond x c c') s Q :=
 fun ro base Qm a w Z R h1 h2 h3 k => wpIn_cond_true (opA_vr h2 _ _ hx).v_inv (h ro base Qm a w Z R h1 h2 h3 k)
theorem SemY.cond_false {x : Operand} (hx : opA E s.fr x = some (.v (.bool false))) (h : SemY E cx c' s Q) : SemY E cx (.cond x c c') s Q :=
 fun ro base Qm a w Z R h1 h2 h3 k => wpIn_cond_false (opA_vr h2 _ _ hx).v_inv (h ro base Qm a w Z R h1 h2 h3 k)
theorem SemY.cond {x : Operand} {b : Bool} (hx : opA E s.fr x = some (.v (.bool b))) (h : b = true → SemY E cx c s Q) (h' : b = false → SemY E cx c' s Q) : SemY E cx (.cond x c c') s Q := by
 cases b with
 | true => exact .cond_true hx (h rfl)
 | false => exact .cond_false hx (h' rfl)
theorem SemY.block {id : Nat} (h : SemY E cx c s fun e s' => match e with | .exit id' => if id' = id then Q .normal s' else Q (.exit id') s' | e => Q e s') : SemY E cx (.block id c) s Q := by
 intro ro base Qm a w Z R h1 h2 h3 k
 refine wpIn_block (h ro base _ a w Z R h1 h2 h3 fun e s' a' w' Z' R' hQ sr st => ?_)
 cases e with
 | normal => exact k _ s' a' w' Z' R' hQ sr st
 | exit id' =>
  show if id' = id then Qm .normal a' w' else Qm (.exit id') a' w'
  simp only at hQ
  split at hQ
  ·next h => rw [if_pos h]; exact k .normal s' a' w' Z' R' hQ sr st
  ·next h => rw [if_neg h]; exact k _ s' a' w' Z' R' hQ sr st
 | ret => exact k _ s' a' w' Z' R' hQ sr st
theorem SemY.loop (h : SemYN E cx c n s Q) : SemY E cx (.loop c) s Q :=
 fun ro base Qm a w Z R h1 h2 h3 k => wpIn_loop_rounds n (h ro base Qm a w Z R h1 h2 h3 k)
theorem SemYN.succ (h : SemY E cx c s fun e s' => match e with | .normal => SemYN E cx c n s' Q | e => Q e s') : SemYN E cx c (n + 1) s Q := by
 intro ro base Qm a w Z R h1 h2 h3 k
 show c.wpIn (Fw ro) 0 E.P (Exit.then (Code.roundsIn (Fw ro) 0 E.P c Qm n) Qm) a w
 refine h ro base _ a w Z R h1 h2 h3 fun e s' a' w' Z' R' hQ sr st => ?_
 cases e with
 | normal => exact hQ ro base Qm a' w' Z' R' h1 sr (h3.step h2.hh st) fun e2 s2 a2 w2 Z2 R2 hQ2 sr2 st2 => k e2 s2 a2 w2 Z2 R2 hQ2 sr2 (st.trans st2)
 | exit id => exact k _ s' a' w' Z' R' hQ sr st
 | ret => exact k _ s' a' w' Z' R' hQ sr st
theorem SemY.mono (h : SemY E cx c s Q) (hq : ∀ e s, Q e s → Q' e s) : SemY E cx c s Q' :=
 fun ro base Qm a w Z R h1 h2 h3 k => h ro base Qm a w Z R h1 h2 h3 fun e s' a' w' Z' R' hQ => k e s' a' w' Z' R' (hq e s' hQ)
theorem WkY.trans {s2 : St} (h : WkY E s s1) (h' : WkY E s1 s2) : WkY E s s2 := fun base w Z R a k =>
 let ⟨Z1, R1, k1, st1⟩ := h base w Z R a k
 let ⟨Z2, R2, k2, st2⟩ := h' base w Z1 R1 a k1
 ⟨Z2, R2, k2, st1.trans st2⟩
theorem WkY.fr (h : lkAll l l' = xsAll l') : WkY E ⟨Fr n l, hp⟩ ⟨Fr n l', hp⟩ := fun base w Z R a sr => by
 refine ⟨Z, R, ⟨sr.hh, ⟨?_, fun t x hx => sr.fr.2 t x ?_⟩, sr.mks, sr.gl, sr.bs⟩, Step.refl _ _ _ _⟩
 ·rw [Fr_len]; have := sr.fr.1; rw [Fr_len] at this; exact this
 ·rw [Fr_get] at hx ⊢
  split at hx
  ·next ht => rw [if_pos ht]; injection hx with hx; rw [lk_mem h hx]
  ·cases hx
theorem WkY.f1 {E : Env} {n : Nat} {l l' : List (Nat × AV)} {hp : Hp} (h : lkAll l l' = xsAll l' := by kernel_rfl) : WkY E ⟨Fr n l, hp⟩ ⟨Fr n l', hp⟩ := WkY.fr h
theorem SemY.wk (hw : WkY E s s1) (h : SemY E cx c s1 Q) : SemY E cx c s Q := by
 intro ro base Qm a w Z R h1 h2 h3 k
 obtain ⟨Z', R', h2', st⟩ := hw base w Z R a h2
 exact h ro base Qm a w Z' R' h1 h2' (h3.step h2.hh st) fun e s' a' w' Z2 R2 hQ sr st2 => k e s' a' w' Z2 R2 hQ sr (st.trans st2)
theorem SemYN.wk (hw : WkY E s s1) (h : SemYN E cx c n s1 Q) : SemYN E cx c n s Q := by
 intro ro base Qm a w Z R h1 h2 h3 k
 obtain ⟨Z', R', h2', st⟩ := hw base w Z R a h2
 exact h ro base Qm a w Z' R' h1 h2' (h3.step h2.hh st) fun e s' a' w' Z2 R2 hQ sr st2 => k e s' a' w' Z2 R2 hQ sr (st.trans st2)
theorem SemY.fr (h : lkAll l l' = xsAll l') (k : SemY E cx c ⟨Fr n l', hp⟩ Q) : SemY E cx c ⟨Fr n l, hp⟩ Q := SemY.wk (WkY.fr h) k
theorem SemY.cutN {e0 : Ex} {s2 : St} (h : SemYN E cx c n s fun e s' => e = e0 ∧ WkY E s' s2) (q : Q e0 s2) : SemYN E cx c n s Q := by
 intro ro base Qm a w Z R h1 h2 h3 k
 refine h ro base Qm a w Z R h1 h2 h3 fun e s' a' w' Z' R' hQ sr st => ?_
 obtain ⟨rfl, hw⟩ := hQ
 obtain ⟨Z2, R2, sr2, st2⟩ := hw base w' Z' R' a' sr
 exact k e s2 a' w' Z2 R2 q sr2 (st.trans st2)
theorem RunY.done (hr : rest = []) (k : K s) : RunY E cx ops rest s K := by
 subst hr
 exact fun ro base Q a w Z R _ sr _ q => q s a w Z R k sr (Step.refl _ _ _ _)
theorem RunY.app (hE : EnvOk E) (n : Nat) : ∀ {pre : List Oper} {s : St}, opsA E (evC E n) ⟨none, false⟩ ops pre s = some s1 → RunY E cx ops rest s1 K → RunY E cx ops (pre ++ rest) s K
 | [], s, e, k => by injection e with e; subst e; exact k
 | o :: pre, s, e, kk => by
  intro ro base Q a w Z R hro sr hy q
  show wpListIn (Fw ro) 0 E.P ops Q (o :: (pre ++ rest)) a w
  unfold opsA at e
  unfold wpListIn
  split at e
  ·cases e
  ·next hw =>
   rw [if_neg (by rw [wantedA_eq sr hw]; simp)]
   exact ⟨fun _ _ => trivial, RunY.app hE n e kk ro base Q _ w Z R hro (sr.put undef_vr) hy q⟩
  ·next hw =>
   rw [if_pos (wantedA_eq sr hw)]
   split at e
   ·next s2 hs2 => exact lw_wpIn ro (op1_lw hE (code_sound hE n).1 hs2 sr fun a' w' Z' R' sr' st => RunY.app hE n e kk ro base Q a' w' Z' R' hro sr' (hy.step sr.hh st) fun s'' a'' w'' Z'' R'' hK sr'' st' => q s'' a'' w'' Z'' R'' hK sr'' (st.trans st'))
   ·cases e
theorem RunY.seg (hE : EnvOk E) (m : Nat) (h : opsA E (evC E 0) ⟨none, false⟩ ops (rest.take m) s = some s1) (k : RunY E cx ops (rest.drop m) s1 K) : RunY E cx ops rest s K := by
 have := RunY.app hE 0 h k
 rwa [List.take_append_drop] at this
theorem RunY.segF (hE : EnvOk E) (m : Nat) {s : St} (l : List (Nat × AV)) (hp : Hp) (h : segB (opsA E (evC E 0) ⟨none, false⟩ ops (rest.take m) s) l = some (n, xs2 l, hp)) (k : RunY E cx ops (rest.drop m) ⟨Fr n l, hp⟩ K) : RunY E cx ops rest s K := by
 obtain ⟨fr, h1, h2, h3⟩ := segB_inv h
 refine RunY.seg hE m h1 ?_
 exact fun ro base Q a w Z R hro sr hy q => k ro base Q a w Z R hro (sr.forget h2 h3) hy q
theorem RunY.one (hE : EnvOk E) (n : Nat) {o : Oper} (hr : rest = o :: rest') (h : opsA E (evC E n) ⟨none, false⟩ ops [o] s = some s1) (k : RunY E cx ops rest' s1 K) : RunY E cx ops rest s K := by
 subst hr
 exact RunY.app hE n (pre := [o]) h k
theorem RunY.store (hE : EnvOk E) {t : TypeId} {p q : Operand} {y z : AV} {ty : TypeId} {pos : String} {af : Array Edge} {g : Option (Nat × Bool)} (hr : rest = ⟨none, .store t p q, ty, pos, af, g⟩ :: rest') (hw : wantedA ops (Fr n l) ⟨none, .store t p q, ty, pos, af, g⟩ = some true) (hp1 : opA E (Fr n l) p = some y) (hq1 : opA E (Fr n l) q = some z) (h : evStore E.P hp t y z = some hp') (k : RunY E cx ops rest' ⟨Fr n l, hp'⟩ K) : RunY E cx ops rest ⟨Fr n l, hp⟩ K :=
 RunY.one hE 0 hr (op_st hw hp1 hq1 h) k
theorem RunY.call {α β : Type} {s : Cs α} {F : α → Option β} {er : β → AV} {a : α} {b : β} {xs : List AV} (hE : EnvOk E) {d : Nat} {f : Operand} {args : Array Operand} {tys : Array TypeId} {ty : TypeId} {pos : String} {af : Array Edge} {g : Option (Nat × Bool)} {fid : FuncId} (hr : rest = ⟨some d, .call ⟨.value f, args, tys⟩, ty, pos, af, g⟩ :: rest') (hw : wantedA ops (Fr n l) ⟨some d, .call ⟨.value f, args, tys⟩, ty, pos, af, g⟩ = some true)
  (hf : opA E (Fr n l) f = some (.fn fid [] [])) (hi : E.I fid = false) (hX : E.X fid = some (told s F er)) (ha : opds (opA E (Fr n l)) args.toList = some xs) (hv : Sns hp s xs a) (hok : xs.all noRf2 = true ∨ flatTp (er b) = true) (hF : F a = some b) (k : RunY E cx ops rest' ⟨Fr n ((d, er b) :: l), hp⟩ K) : RunY E cx ops rest ⟨Fr n l, hp⟩ K :=
 RunY.one hE 0 hr (op_call hw hf hi hX ha hv hok hF) k
theorem SemY.region (h : RunY E cx ops ops.toList s fun s' => Q .normal s') : SemY E cx (.region id ops false) s Q := by
 intro ro base Qm a w Z R h1 h2 h3 kk
 exact wpIn_region_list (h ro base _ a w Z R h1 h2 h3 fun s' a' w' Z' R' hq sr st => kk .normal s' a' w' Z' R' hq sr st)
end
def pz : List Nat → List AV → List (Nat × AV) → List (Nat × AV)
 | p :: ps, x :: xs, l => pz ps xs ((p, x) :: l)
 | _, _, l => l
theorem setPs_Fr {n : Nat} : ∀ {ps : List Nat} {xs : List AV} {l : List (Nat × AV)}, setPs (Fr n l) ps xs = Fr n (pz ps xs l)
 | [], _, _ => by unfold setPs pz; rfl
 | _ :: _, [], _ => by unfold setPs pz; rfl
 | p :: ps, x :: xs, l => by
  unfold setPs pz
  rw [show (Fr n l).set p (some x) = Fr n ((p, x) :: l) from putA_Fr n l p x]
  exact setPs_Fr
theorem mark_eq {p q : Nat} (h : mark p = mark q) : p = q := by
 unfold mark at h
 injection h with h
 injection h
theorem mks_new {base : Nat} {w : World} {Z : Nat → Prop} {R : List RI} {h : Hp} {r : Nat} (hr : w.heap.size ≤ r) : ∀ {D : List Deferred}, Mks base w Z R h D → mark r ∈ D → False
 | [], _, hm => by cases hm
 | d :: D, ⟨⟨q, _, q2, q3, _⟩, hD⟩, hm => by
  rcases List.mem_cons.1 hm with hm | hm
  ·rw [← hm] at q2
   have := mark_eq q2
   have := heapLt q3
   omega
  ·exact mks_new hr hD hm
/-- A function, entered: what its body does. -/
theorem ret_semY {e : Env} (he : EnvOk e) {y : Option YC} {f : FuncId} {fn : Func} {c : Code} (hfn : e.fn f = some fn) (hc : fn.body = some c) {args : List AV} (hle : args.length ≤ fn.ntmps) {hp : Hp} {Out : AV → Hp → Prop}
  (sem : SemY e ⟨y, false⟩ c ⟨Fr fn.ntmps (pairs0 0 args), hp⟩ fun x s' => (x = .normal ∨ x = .ret) ∧ ∃ ys, resA e.P s'.fr s'.hp fn.results.toList = some ys ∧ Out (retA ys) s'.hp)
  {w : World} {Z : Nat → Prop} {R : List RI} {us : List Value} (hh : HR w Z R hp) (hv : VRs w Z R args us) (hg : GI e w Z) (hy : YI ⟨y, false⟩ w Z R hp) :
  Ret e.P f us.toArray w fun v w' => ∃ Z' R' x h', Out x h' ∧ HR w' Z' R' h' ∧ VR w' Z' R' x v ∧ Step w Z R hp w' Z' R' h' := by
 obtain ⟨hff, hcall, _⟩ := he.fn f fn hfn
 refine callsIn_wide.1 (callsIn_of_wp_marks (F := Fw none) (n := 0) hff hc trivial ?_)
 have hul : us.length = args.length := hv.len
 have hsr : SR e w.heap.size w Z R ⟨Fr fn.ntmps (pairs0 0 args), hp⟩ { tmps := us.toArray ++ Array.replicate (fn.ntmps - us.toArray.size) undef, defers := [] } := by
  refine ⟨hh, ⟨by rw [Fr_len]; simp; omega, fun t x hx => ?_⟩, trivial, hg, Nat.le_refl _⟩
  rw [Fr_get] at hx
  split at hx
  ·injection hx with hx
   obtain ⟨j, h1, h2⟩ := lk_pairs0 _ 0 t x hx
   rw [Nat.zero_add] at h1
   subst h1
   obtain ⟨u, hu1, hu2⟩ := hv.get h2
   have e0 : us.toArray ++ Array.replicate (fn.ntmps - us.toArray.size) undef = (us ++ List.replicate (fn.ntmps - us.length) undef).toArray := by simp
   rw [e0, Array.getD_eq_getD_getElem?, List.getElem?_toArray, List.getElem?_append_left (List.getElem?_eq_some_iff.1 hu1).1, hu1]
   exact hu2
  ·cases hx
 refine sem none w.heap.size _ _ w Z R (fun _ => rfl) hsr hy fun x s' a' w' Z' R' hQ sr' st => ?_
 obtain ⟨hex, ys, hys, hO⟩ := hQ
 have hl := leaves_mks (E := e) (w := w') (a := a') (fn := fn) (S := fun v w'' => ∃ Z' R' x h', Out x h' ∧ HR w'' Z' R' h' ∧ VR w'' Z' R' x v ∧ Step w Z R hp w'' Z' R' h') hys (fun w'' u g1 g2 g3 g4 g5 g6 g7 => ⟨Z', R', _, _, hO, g6, g7, ⟨g2.trans st.os, g3.trans st.tape, g4.trans st.output, by rw [g1]; exact st.size, fun c hc hn => (g5 c hc).trans (st.block c hc hn), st.own_, st.z, st.z', st.r⟩⟩) (D := a'.defers) (w1 := w') sr' rfl rfl rfl rfl (fun _ _ => rfl)
 rcases hex with rfl | rfl
 ·exact hl
 ·exact hl
section
variable {E : Env} {cx : Cx} {ops : Array Oper} {rest rest' : List Oper} {K : St → Prop} {n : Nat} {l : List (Nat × AV)} {hp : Hp}
/-- A call whose body is gone through. -/
theorem RunS.inlY (hP : E.P = E0.P) (hG : E.G = E0.G) {e : Env} (he : EnvOk e) (heP : e.P = E0.P) (heG : e.G = E0.G) {d : Nat} {f : Operand} {args : Array Operand} {tys : Array TypeId} {ty : TypeId} {pos : String} {af : Array Edge} {g : Option (Nat × Bool)} {fid : FuncId} {caps xs : List AV} {fn : Func} {c : Code} {Out : AV → Hp → Prop} (hr : rest = ⟨some d, .call ⟨.value f, args, tys⟩, ty, pos, af, g⟩ :: rest') (hw : wantedA ops (Fr n l) ⟨some d, .call ⟨.value f, args, tys⟩, ty, pos, af, g⟩ = some true)
  (hf : opA E (Fr n l) f = some (.fn fid [] caps)) (ha : opds (opA E (Fr n l)) args.toList = some xs) (hfn : e.fn fid = some fn) (hc : fn.body = some c) (hle : (xs ++ caps).length ≤ fn.ntmps)
  (sem : SemY e ⟨none, false⟩ c ⟨Fr fn.ntmps (pairs0 0 (xs ++ caps)), hp⟩ fun x s' => (x = .normal ∨ x = .ret) ∧ ∃ ys, resA e.P s'.fr s'.hp fn.results.toList = some ys ∧ Out (retA ys) s'.hp)
  (k : ∀ x h', Out x h' → RunS E ops rest' ⟨Fr n ((d, x) :: l), h'⟩ K) : RunS E ops rest ⟨Fr n l, hp⟩ K := by
 obtain ⟨P, fns, G, X, I⟩ := E
 obtain ⟨P', fns', G', X', I'⟩ := e
 simp only at hP hG heP heG
 subst hP hG heP heG
 subst hr
 intro base Q a w Z R sr q
 have hρ : ∀ o x, opA ⟨E0.P, fns, E0.G, X, I⟩ (Fr n l) o = some x → VR w Z R x (a.eval o) := fun o x e => opA_vr sr o x e
 unfold LwL
 rw [if_pos (wantedA_eq sr hw)]
 have hvf := hρ _ _ hf
 generalize hvq : a.eval f = vf at hvf
 cases hvf with
 | fn hl hl' hx hy =>
  rename_i u1 u2
  have e1 : u1 = [] := by simpa using hl
  subst e1
  obtain ⟨hff, hcall, _⟩ := he.fn fid fn hfn
  unfold Lw
  rw [run_call (uf := []) (uc := u2) rfl hvq rfl hcall w]
  simp only [List.nil_append]
  have hargs : VRs w Z R (xs ++ caps) (args.toList.map a.eval ++ u2) := (opds_vr hρ ha).append ⟨hl', hy⟩
  refine Ret.mono (ret_semY he hfn hc hle sem sr.hh hargs sr.gl (fun y hy => by cases hy)) fun v w' hS => ?_
  obtain ⟨Z', R', x, h', hO, h1, h2, st⟩ := hS
  have sr' := (sr.step h1 st).put (d := some d) h2
  rw [show putA (⟨Fr n l, hp⟩ : St).fr (some d) x = Fr n ((d, x) :: l) from putA_Fr n l d _] at sr'
  exact k x h' hO base Q _ w' Z' R' sr' fun s' a' w'' Z'' R'' hK sr'' st' => q s' a' w'' Z'' R'' hK sr'' (st.w.trans st')
/-- Only the first m blocks are kept. -/
theorem HR.trunc {w0 w : World} {Z0 Z : Nat → Prop} {R0 R : List RI} {h0 h h' : Hp} {m : Nat} (st : Step w0 Z0 R0 h0 w Z R h) (hl0 : R0.length = h0.length) (hm0 : h0.length ≤ m) (hh : HR w Z R h) (hm : (Nat.ble m h.length && Nat.ble h.length 1000000000) = true) (hk : HpUp (List.range m) h (List.range m) h') :
  HR w Z (newR (List.range m) R) h' ∧ Step w0 Z0 R0 h0 w Z (newR (List.range m) R) h' := by
 simp only [Bool.and_eq_true] at hm
 have hm1 := Nat.le_of_ble_eq_true hm.1
 have hb := Nat.le_of_ble_eq_true hm.2
 have hlen := hh.len
 obtain ⟨k1, k2⟩ := hk.at_
 rw [List.length_range] at k1
 have hι : ∀ i ∈ List.range m, i < R.length := fun i hi => by have := List.mem_range.1 hi; omega
 have hbR : R.length ≤ 1000000000 := by omega
 have hget : ∀ j, j < m → (newR (List.range m) R)[j]? = R[j]? := fun j hj => by
  unfold newR
  rw [List.getElem?_map, List.getElem?_range hj, Option.map_some, List.getD_eq_getElem?_getD, List.getElem?_eq_getElem (by omega : j < R.length)]; rfl
 have hrange : ∀ (j b : Nat), (List.range m)[j]? = some b → j < m ∧ b = j := fun j b hj => by
  obtain ⟨h1, h2⟩ := List.getElem?_eq_some_iff.1 hj
  rw [List.length_range] at h1
  rw [List.getElem_range] at h2
  exact ⟨h1, h2.symm⟩
 have hown : ∀ c, own (newR (List.range m) R) h' c → own R h c := fun c ⟨j, B, r, h1, h2, h3, h4⟩ => by
  obtain ⟨b, q1, q2, _⟩ := k2 j B h1
  obtain ⟨hj, rfl⟩ := hrange _ _ q1
  rw [hget b hj] at h3
  exact ⟨b, _, r, q2, h2, h3, h4⟩
 refine ⟨⟨by rw [k1]; simp [newR], fun j B hB => ?_, fun j j' B B' r r' hB hf hB' hf' h1 h2 e => ?_, hh.zlt⟩, ⟨st.os, st.tape, st.output, st.size, st.block, fun c hc => st.own_ c (hown c hc), st.z, st.z', fun i x hi => ?_⟩⟩
 ·obtain ⟨b, q1, q2, q3⟩ := k2 j B hB
  obtain ⟨hj, rfl⟩ := hrange _ _ q1
  obtain ⟨r, arr, us, g1, g2, g3, g4, g5, g6, g7, g8, g9, g10⟩ := hh.blk b _ q2
  refine ⟨r, arr, us, (hget b hj).trans g1, g2, g3, g4, by simpa using g5, g6, g7, g8, ⟨by have := g9.len; simpa using this, fun i x u hx hu => ?_⟩, g10⟩
  exact up_vr hι hbR (q3 x (List.mem_of_getElem? hx)) (g9.at_ i _ u (by simp [hx]) hu)
 ·obtain ⟨b, q1, q2, _⟩ := k2 j B hB
  obtain ⟨b', q1', q2', _⟩ := k2 j' B' hB'
  obtain ⟨hj, rfl⟩ := hrange _ _ q1
  obtain ⟨hj', rfl⟩ := hrange _ _ q1'
  rw [hget b hj] at h1
  rw [hget b' hj'] at h2
  exact hh.inj b b' _ _ r r' q2 hf q2' hf' h1 h2 e
 ·have := (List.getElem?_eq_some_iff.1 hi).1
  rw [hget i (by omega)]
  exact st.r i x hi
/-- .. in the midst of such a body: what it made is dropped. -/
theorem RunY.inl (hP : E.P = E0.P) (hG : E.G = E0.G) {e : Env} (he : EnvOk e) (heP : e.P = E0.P) (heG : e.G = E0.G) {d : Nat} {f : Operand} {args : Array Operand} {tys : Array TypeId} {ty : TypeId} {pos : String} {af : Array Edge} {g : Option (Nat × Bool)} {fid : FuncId} {caps xs : List AV} {fn : Func} {c : Code} {Out : AV → Hp → Prop} (m : Nat) (hm0 : hp.length = m) (hr : rest = ⟨some d, .call ⟨.value f, args, tys⟩, ty, pos, af, g⟩ :: rest') (hw : wantedA ops (Fr n l) ⟨some d, .call ⟨.value f, args, tys⟩, ty, pos, af, g⟩ = some true)
  (hf : opA E (Fr n l) f = some (.fn fid [] caps)) (ha : opds (opA E (Fr n l)) args.toList = some xs) (hfn : e.fn fid = some fn) (hc : fn.body = some c) (hle : (xs ++ caps).length ≤ fn.ntmps)
  (sem : SemY e ⟨none, false⟩ c ⟨Fr fn.ntmps (pairs0 0 (xs ++ caps)), hp⟩ fun x s' => (x = .normal ∨ x = .ret) ∧ ∃ ys, resA e.P s'.fr s'.hp fn.results.toList = some ys ∧ Out (retA ys) s'.hp)
  (k : ∀ x h', Out x h' → ∃ h'', (Nat.ble m h'.length && Nat.ble h'.length 1000000000) = true ∧ HpUp (List.range m) h' (List.range m) h'' ∧ (up (List.range m) x = x ∧ flat2 x = true) ∧ RunY E cx ops rest' ⟨Fr n ((d, x) :: l), h''⟩ K) : RunY E cx ops rest ⟨Fr n l, hp⟩ K := by
 obtain ⟨P, fns, G, X, I⟩ := E
 obtain ⟨P', fns', G', X', I'⟩ := e
 simp only at hP hG heP heG
 subst hP hG heP heG
 subst hr
 intro ro base Q a w Z R hro sr hy q
 have hρ : ∀ o x, opA ⟨E0.P, fns, E0.G, X, I⟩ (Fr n l) o = some x → VR w Z R x (a.eval o) := fun o x e => opA_vr sr o x e
 unfold wpListIn
 rw [if_pos (wantedA_eq sr hw)]
 refine lw_wpIn ro ?_
 have hvf := hρ _ _ hf
 generalize hvq : a.eval f = vf at hvf
 cases hvf with
 | fn hl hl' hx hy' =>
  rename_i u1 u2
  have e1 : u1 = [] := by simpa using hl
  subst e1
  obtain ⟨hff, hcall, _⟩ := he.fn fid fn hfn
  unfold Lw
  rw [run_call (uf := []) (uc := u2) rfl hvq rfl hcall w]
  simp only [List.nil_append]
  have hargs : VRs w Z R (xs ++ caps) (args.toList.map a.eval ++ u2) := (opds_vr hρ ha).append ⟨hl', hy'⟩
  refine Ret.mono (ret_semY he hfn hc hle sem sr.hh hargs sr.gl (fun y hy => by cases hy)) fun v w' hS => ?_
  obtain ⟨Z', R', x, h', hO, h1, h2, st⟩ := hS
  obtain ⟨h'', hm, hk, ⟨hx1, hx2⟩, kk⟩ := k x h' hO
  have hl1 : R.length = hp.length := sr.hh.len
  obtain ⟨j1, j2⟩ := HR.trunc st hl1 (Nat.le_of_eq hm0) h1 hm hk
  simp only [Bool.and_eq_true] at hm
  have hm1 := Nat.le_of_ble_eq_true hm.1
  have hm2 := Nat.le_of_ble_eq_true hm.2
  have hl2 := h1.len
  have hvx : VR w' Z' (newR (List.range m) R') x v := up_vr (fun i hi => by have := List.mem_range.1 hi; omega) (by omega) hx2 (by rw [hx1]; exact h2)
  have sr' := (sr.step j1 j2).put (d := some d) hvx
  rw [show putA (⟨Fr n l, hp⟩ : St).fr (some d) x = Fr n ((d, x) :: l) from putA_Fr n l d _] at sr'
  exact kk ro base Q _ w' Z' _ hro sr' (hy.step sr.hh j2) fun s' a' w'' Z'' R'' hK sr'' st' => q s' a' w'' Z'' R'' hK sr'' (j2.trans st')
/-- A yield: a round of the range that is under way. -/
theorem RunY.yield (hP : E.P = E0.P) (hG : E.G = E0.G) {eb : Env} (hbP : eb.P = E0.P) (hbG : eb.G = E0.G) {y : YC} (hcx : cx.y = some y) (hin : cx.inR = false) {d : Nat} {f : Operand} {args : Array Operand} {tys : Array TypeId} {ty : TypeId} {pos : String} {af : Array Edge} {g : Option (Nat × Bool)} {xs : List AV} {K1 : Hp → Prop} (hr : rest = ⟨some d, .call ⟨.value f, args, tys⟩, ty, pos, af, g⟩ :: rest') (hw : wantedA ops (Fr n l) ⟨some d, .call ⟨.value f, args, tys⟩, ty, pos, af, g⟩ = some true)
  (hf : opA E (Fr n l) f = some (.yl y.b)) (ha : opds (opA E (Fr n l)) args.toList = some xs) (hlen : xs.length = y.ps.length) {n0 : Nat} {l0 : List (Nat × AV)} (hfr : y.fr = Fr n0 l0)
  (hb : SemY eb ⟨none, true⟩ y.assign ⟨Fr n0 (pz y.ps xs l0), hp⟩ fun e s1 => e = .normal ∧ SemY eb ⟨none, true⟩ y.body s1 fun e s2 => e = .normal ∧ K1 s2.hp)
  (k : ∀ h', K1 h' → RunY E cx ops rest' ⟨Fr n ((d, .v (.bool true)) :: l), h'⟩ K) : RunY E cx ops rest ⟨Fr n l, hp⟩ K := by
 obtain ⟨P, fns, G, X, I⟩ := E
 obtain ⟨P', fns', G', X', I'⟩ := eb
 simp only at hP hG hbP hbG
 subst hP hG hbP hbG
 subst hr
 intro ro base Q a w Z R hro sr hy q
 have hρ : ∀ o x, opA ⟨E0.P, fns, E0.G, X, I⟩ (Fr n l) o = some x → VR w Z R x (a.eval o) := fun o x e => opA_vr sr o x e
 unfold wpListIn
 rw [if_pos (wantedA_eq sr hw)]
 have hro' := hro hin
 subst hro'
 have hvs := opds_vr hρ ha
 have hvf := hρ _ _ hf
 have hyy := hy
 obtain ⟨d1, d2, r, L, g1, g2, g3, g4, g5, g6, g7, g8, g9, g10⟩ := hy y hcx
 generalize hvq : a.eval f = vf at hvf
 cases hvf with
 | yl hr =>
  rename_i r'
  rw [g1] at hr
  injection hr with hr
  subst hr
  generalize hus : args.toList.map a.eval = us at hvs
  have hargs : args.map a.eval = us.toArray := by
   apply Array.ext'
   rw [← hus, Array.toList_map]
  have hps : us.toArray.size = L.params.size := by rw [g7]; simp [hvs.len, hlen]
  have hrun : (execOp a.eval (⟨some d, .call ⟨.value f, args, tys⟩, ty, pos, af, g⟩ : Oper)).run E0.P w = .ok (.round r.c L.fn ((L.params.zip us.toArray).foldl (fun tmps (t, a) => tmps.setIfInBounds t a) L.tmps) L.assign L.body) w := by
   simp only [execOp, resolve, hvq, hargs, Deferred.ofValue]
   rw [Sem.run_bind, Sem.run_pure]
   simp only [Result.andThen, invoke, Array.empty_append]
   exact run_yield g4 hps
  refine ⟨fun _ _ => trivial, ?_⟩
  rw [show (Fw none).round = none from rfl, semAt_run none hrun (by simp), Oper.uponIn_round]
  refine ⟨(fun h => by cases h), ?_⟩
  refine roundIn_of_wpIn (F := Fw none) trivial ?_
  rw [g8, g9]
  have hfr0 : FrR w Z R (setPs y.fr y.ps xs) ((L.params.zip us.toArray).foldl (fun tmps (t, a) => tmps.setIfInBounds t a) L.tmps) := by
   have := setPs_fr (ps := y.ps) g10 hvs
   have e0 : (L.params.zip us.toArray).foldl (fun tmps (t, a) => tmps.setIfInBounds t a) L.tmps = (y.ps.zip us).foldl (fun tmps (x : Tmp × Value) => tmps.setIfInBounds x.1 x.2) L.tmps := by
    rw [g7, ← Array.foldl_toList]; simp
   rw [e0]; exact this
  rw [hfr, setPs_Fr] at hfr0
  have hlt := heapLt g4
  refine hb (some r.c) 0 _ { tmps := _, defers := [] } w Z R (fun h => by cases h) ⟨sr.hh, hfr0, trivial, sr.gl, Nat.zero_le _⟩ (fun y hy => by cases hy) fun e1 s1 a1 w1 Z1 R1 hQ1 sr1 st1 => ?_
  obtain ⟨rfl, hb2⟩ := hQ1
  obtain ⟨p1, p2, p3⟩ := st1.other g4 g2 g3
  refine ⟨_, run_beginRound p1 g5, ?_⟩
  have hlt1 := heapLt p1
  have hb1 : ∀ c, (Z1 c ∨ own R1 s1.hp c) → (w1.putObj r.c (.loop { L with state := .busy })).heap[c]? = w1.heap[c]? := fun c hc => put_ne (fun e => by subst e; exact hc.elim p2 p3)
  have hh2 := sr1.hh.off (put_size _ _ _) hb1
  refine hb2 (some r.c) 0 _ a1 _ Z1 R1 (fun h => by cases h) ⟨hh2, sr1.fr.off fun c hc => hb1 c (.inl hc), ?_, sr1.gl.off fun c hc => hb1 c (.inl hc), Nat.zero_le _⟩ (fun y hy => by cases hy) fun e2 s2 a2 w3 Z3 R3 hQ2 sr3 st3 => ?_
  ·exact sr1.mks.put (fun d hd e => by
    have : ∀ {D : List Deferred}, Mks 0 w1 Z1 R1 s1.hp D → mark r.c ∈ D → False := by
     intro D
     induction D with
     | nil => intro _ h; cases h
     | cons d D ih =>
      rintro ⟨⟨q, _, q2, q3, _⟩, hD⟩ hm
      rcases List.mem_cons.1 hm with hm | hm
      ·rw [← hm] at q2
       have : r.c = q := by unfold mark at q2; injection q2 with q2; injection q2
       subst this
       rw [p1] at q3
       cases q3
      ·exact ih hD hm
    subst e
    exact this sr1.mks hd)
  ·obtain ⟨rfl, hK1⟩ := hQ2
   have hput : (w1.putObj r.c (.loop { L with state := .busy })).heap[r.c]? = some (.loop { L with state := .busy }) := World.putObj_heap_same hlt1
   obtain ⟨q1, q2, q3⟩ := st3.other hput p2 p3
   have hlt3 := heapLt q1
   refine ⟨_, _, run_endRound none q1, ?_⟩
   have hb3 : ∀ c, (Z3 c ∨ own R3 s2.hp c) → (w3.putObj r.c (.loop { { L with state := .busy } with state := if (none : Option Code).isNone then .ready else .done, pending := none })).heap[c]? = w3.heap[c]? := fun c hc => put_ne (fun e => by subst e; exact hc.elim q2 q3)
   have hL : ({ { L with state := .busy } with state := if (none : Option Code).isNone then .ready else .done, pending := none } : Loop) = L := by
    cases L; simp at g5 g6; subst g5 g6; rfl
   have stF : Step w Z R hp (w3.putObj r.c (.loop { { L with state := .busy } with state := if (none : Option Code).isNone then .ready else .done, pending := none })) Z3 R3 s2.hp := by
    refine ⟨?_, ?_, ?_, ?_, fun c hc hn => ?_, fun c hc => ?_, fun c hc => st3.z c (st1.z c hc), fun c hc => ?_, fun i q hq => st3.r i q (st1.r i q hq)⟩
    ·exact st3.os.trans st1.os
    ·exact st3.tape.trans st1.tape
    ·exact st3.output.trans st1.output
    ·rw [put_size]
     have := st3.size
     rw [put_size] at this
     exact Nat.le_trans st1.size this
    ·by_cases hcr : c = r.c
     ·subst hcr
      rw [World.putObj_heap_same hlt3, hL]
      exact g4.symm
     ·rw [put_ne hcr]
      have hc1 : c < w1.heap.size := Nat.lt_of_lt_of_le hc st1.size
      have hno : ¬ own R1 s1.hp c := fun ho => by
       rcases st1.own_ c ho with h1 | h1
       ·exact hn h1
       ·omega
      rw [st3.block c (by rw [put_size]; exact hc1) hno, put_ne hcr]
      exact st1.block c hc hn
    ·rcases st3.own_ c hc with h1 | h1
     ·exact st1.own_ c h1
     ·rw [put_size] at h1; exact .inr (Nat.le_trans st1.size h1)
    ·rcases st3.z' c hc with h1 | h1 | h1
     ·exact st1.z' c h1
     ·rcases st1.own_ c h1 with h2 | h2
      ·exact .inr (.inl h2)
      ·exact .inr (.inr h2)
     ·rw [put_size] at h1; exact .inr (.inr (Nat.le_trans st1.size h1))
   have sr' := (sr.step (sr3.hh.off (put_size _ _ _) hb3) stF).put (d := some d) (x := .v (.bool true)) (u := .bool true) (.v rfl)
   rw [show putA (⟨Fr n l, hp⟩ : St).fr (some d) (.v (.bool true)) = Fr n ((d, .v (.bool true)) :: l) from putA_Fr n l d _] at sr'
   exact k s2.hp hK1 none base Q _ _ Z3 R3 hro sr' (hyy.step sr.hh stF) fun s' a' w'' Z'' R'' hK sr'' st' => q s' a' w'' Z'' R'' hK sr'' (stF.trans st')
/-- A range over a function. -/
theorem Sem.range {cx : Cx} {Q : Ex → St → Prop} (hP : E.P = E0.P) (hG : E.G = E0.G) {e : Env} (he : EnvOk e) (heP : e.P = E0.P) (heG : e.G = E0.G) (hin : cx.inR = false) {f : Operand} {ps : Array Tmp} {assign body : Code} {gid : FuncId} {caps : List AV} {fn : Func} {c : Code} {Out : AV → Hp → Prop} (hd1 : drawOk assign = true) (hd2 : drawOk body = true)
  (hf : opA E (Fr n l) f = some (.fn gid [] caps)) (hfn : e.fn gid = some fn) (hc : fn.body = some c) (hle : (.yl hp.length :: caps).length ≤ fn.ntmps)
  (sem : SemY e ⟨some ⟨hp.length, Fr n l, ps.toList, assign, body⟩, false⟩ c ⟨Fr fn.ntmps (pairs0 0 (.yl hp.length :: caps)), hp ++ [none]⟩ fun x s' => (x = .normal ∨ x = .ret) ∧ ∃ ys, resA e.P s'.fr s'.hp fn.results.toList = some ys ∧ Out (retA ys) s'.hp)
  (k : ∀ x h', Out x h' → Q .normal ⟨Fr n l, h'⟩) : Sem E cx (.rangeFunc f ps assign body) ⟨Fr n l, hp⟩ Q := by
 obtain ⟨P, fns, G, X, I⟩ := E
 obtain ⟨P', fns', G', X', I'⟩ := e
 simp only at hP hG heP heG
 subst hP hG heP heG
 intro ro base Qm a w Z R h1 sr h3 kk
 have hro := h1 hin
 subst hro
 have hvf : VR w Z R (.fn gid [] caps) (a.eval f) := opA_vr sr _ _ hf
 generalize hva : a.eval f = va at hvf
 cases hvf with
 | fn hl hl' hx hy' =>
  rename_i uf uc
  have e1 : uf = [] := by simpa using hl
  subst e1
  refine wpIn_rangeFunc fun fnn _ => ?_
  obtain ⟨hff, hcall, _⟩ := he.fn gid fn hfn
  obtain ⟨L, hL⟩ : ∃ L : Loop, L = { state := .ready, pending := none, fn := fnn, tmps := a.tmps, params := ps, assign, body, defers := w.heap.size } := ⟨_, rfl⟩
  obtain ⟨w1, hw1⟩ : ∃ w1, w1 = (w.alloc (.deferred (some []))).alloc (.loop L) := ⟨_, rfl⟩
  have hsz : w1.heap.size = w.heap.size + 2 := by rw [hw1]; simp
  have hg1 : w.grownBy w1 none := by
   rw [hw1]
   refine ⟨rfl, rfl, rfl, by simp; omega, fun c hc _ => ?_⟩
   rw [heap_alloc_old _ _ (by simp; omega), heap_alloc_old _ _ hc]
  have hmk : w1.heap[w.heap.size]? = some (.deferred (some [])) := by
   rw [hw1, heap_alloc_old _ _ (by simp)]; exact heap_alloc_new w _
  have hlp : w1.heap[w.heap.size + 1]? = some (.loop L) := by
   rw [hw1]
   have := heap_alloc_new (w.alloc (.deferred (some []))) (.loop L)
   simpa using this
  have hh1 := sr.hh.keep (w' := w1) hg1.size (fun c hc => hg1.block c hc (by simp))
  have st0 : Step w Z R hp w1 Z R hp := ⟨hg1.os, hg1.tape, hg1.output, hg1.size, fun c hc _ => hg1.block c hc (by simp), fun _ h => .inl h, fun _ h => h, fun _ h => .inl h, fun _ _ h => h⟩
  obtain ⟨hh2, st2, hlast, hown2⟩ := hh1.dead (r := ⟨w.heap.size + 1, 0, 0⟩)
  have st02 := st0.trans st2
  have hnz : ∀ c, w.heap.size ≤ c → ¬ Z c := fun c hc hz => by have := sr.hh.zlt c hz; omega
  have hno : ∀ c, w.heap.size ≤ c → ¬ own (R ++ [⟨w.heap.size + 1, 0, 0⟩]) (hp ++ [none]) c := fun c hc ho => by
   obtain ⟨b, B, r, q1, q2, q3, rfl⟩ := hown2 c ho
   have := sr.hh.rltL q1 q3; omega
  have hvs : VRs w1 Z (R ++ [⟨w.heap.size + 1, 0, 0⟩]) (.yl hp.length :: caps) (Value.func (.yield (w.heap.size + 1)) #[] #[] :: uc) :=
   .cons (.yl hlast) (VRs.step ⟨hl', hy'⟩ sr.hh st02)
  have hy : YI ⟨some ⟨hp.length, Fr n l, ps.toList, assign, body⟩, false⟩ w1 Z (R ++ [⟨w.heap.size + 1, 0, 0⟩]) (hp ++ [none]) := by
   intro y hy
   injection hy with hy
   subst hy
   exact ⟨hd1, hd2, _, L, hlast, hnz _ (by simp), hno _ (by simp), hlp, by rw [hL], by rw [hL], by rw [hL], by rw [hL], by rw [hL], by rw [hL]; exact sr.fr.step sr.hh st02⟩
  have hr := ret_semY he hfn hc hle sem hh2 hvs (sr.gl.step sr.hh st02) hy
  refine ⟨w.heap.size + 1, [mark w.heap.size], w1, { target := .fn (.func gid) uc.toArray, args := ([] : List Value).toArray ++ #[Value.func (.yield (w.heap.size + 1)) #[] #[]] }, w1, gid, (Value.func (.yield (w.heap.size + 1)) #[] #[] :: uc).toArray, w1, ?_, ?_, fun _ _ => trivial, ?_, (fun h => by cases h), ?_⟩
  ·rw [hw1, hL]; exact run_enterLoop_outer fnn a.tmps ps assign body
  ·simp [resolve, hva, Deferred.ofValue]
   rfl
  ·simp [invoke, hcall.run]
  ·refine callsIn_fw none _ (Ret.calls hr fun v w3 hS => ?_)
   obtain ⟨Z3, R3, x3, h', hO, hh3, _, st3⟩ := hS
   obtain ⟨p1, p2, p3⟩ := st3.other hlp (hnz _ (by simp)) (hno _ (by simp))
   obtain ⟨m1, m2, m3⟩ := st3.other hmk (hnz _ (Nat.le_refl _)) (hno _ (Nat.le_refl _))
   refine ⟨_, _, run_endLoop p1 (by rw [hL]; simp), ?_⟩
   have hpend : L.pending = none := by rw [hL]
   split
   rotate_left
   ·next hc => rw [hpend] at hc; cases hc
   have hb : ∀ c, (Z3 c ∨ own R3 h' c) → (w3.putObj (w.heap.size + 1) (.loop { L with state := .exhausted })).heap[c]? = w3.heap[c]? := fun c hc => put_ne (fun e => by subst e; exact hc.elim p2 p3)
   have st03 := st02.trans st3
   refine kk .normal ⟨Fr n l, h'⟩ _ _ Z3 R3 (k x3 h' hO) ⟨hh3.off (put_size _ _ _) hb, (sr.fr.step sr.hh st03).off fun c hc => hb c (.inl hc), ?_, (sr.gl.step sr.hh st03).off fun c hc => hb c (.inl hc), ?_⟩ (Step.w ⟨st03.os, st03.tape, st03.output, ?_, fun c hc hn => ?_, st03.own_, st03.z, st03.z', st03.r⟩)
   ·refine ⟨⟨w.heap.size, sr.bs, rfl, (put_ne (by omega)).trans m1, m2, m3, fun d hd e => ?_⟩, ?_⟩
    ·subst e
     exact mks_new (Nat.le_refl _) sr.mks hd
    ·refine Mks.put (sr.mks.step st03) fun d hd e => ?_
     subst e
     exact mks_new (Nat.le_succ _) sr.mks hd
   ·rw [put_size]; exact Nat.le_trans sr.bs st03.size
   ·rw [put_size]; exact st03.size
   ·rw [put_ne (by omega)]; exact st03.block c hc hn
end
end Go.Proofs.YtcmgmkepodbpkaaDoor
namespace Go.Proofs.YtcmgmkepodbpkaaDoor
open Go.RowKit Go.ChangeShapes Go.WideShapes Go.Deep
theorem rd_pairs {P : Program} {t e e1 : TypeId} {k : IntKind} (ht : P.underlying t = some (.slice e)) (he : P.underlying e = some (.array 2 e1)) (h1 : P.underlying e1 = some (.int k)) (ce : P.cellsOf e = 2) (c1 : P.cellsOf e1 = 1) (hb : Nat.blt 0 (P.bytesOf e) = true) :
  Rg P (cdL 2 (cdG2 (cdK k) (cdK k) (fun _ => rfl) (fun _ => rfl))) t (fun xs => xs.length ≤ 140737488355328 ∧ ∀ p ∈ xs, (Lit.int k p.1).wf = true ∧ (Lit.int k p.2).wf = true) := ⟨fun {H enc w base spare held fuel v x} h hw => by
 rcases open_slice ht h with ⟨h0, _⟩ | ⟨a, len, cap, m, n, D, Pl, g1, g2, g3, g4, g5, hx, g6⟩
 ·injection h0 with h0
  subst h0
  exact ⟨[], .sl (us := []) rfl rfl (Nat.le_refl _) (by unfold maxLen; omega) (fun h => by omega) (fun i x u hx => by simp at hx), ⟨by simp, fun a ha => by cases ha⟩, rfl⟩
 ·injection g1 with g1
  subst g1
  have hlm : len ≤ m := by rw [g5]; split <;> omega
  rw [hx] at hw
  simp only [DataW.weights, ht, List.all_cons, List.all_append, Bool.and_eq_true, decide_eq_true_eq] at hw
  obtain ⟨hw1, _, _⟩ := hw
  have hb' : 0 < P.bytesOf e := Nat.le_of_ble_eq_true hb
  have hlen : len ≤ 140737488355328 := by
   have h7 : (((List.range len).map D).length + ((List.range (m - len)).map fun j => D (len + j)).length) * 1 ≤ (((List.range len).map D).length + ((List.range (m - len)).map fun j => D (len + j)).length) * P.bytesOf e := Nat.mul_le_mul_left _ hb'
   have h8 : reachBytes = 140737488351232 := rfl
   simp only [List.length_map, List.length_range, Nat.mul_one] at h7 hw1
   omega
  obtain ⟨A, hAl, hA⟩ := list_of (n := len) (p := fun i (q : Int × Int) => w.cell? (a.add (i * 2)) = some (.int k q.1) ∧ w.cell? (a.add (i * 2 + 1)) = some (.int k q.2) ∧ (Lit.int k q.1).wf = true ∧ (Lit.int k q.2).wf = true) (fun i hi => by
   obtain ⟨cs', k1, k2⟩ := g6 i (by omega)
   rw [ce] at k1
   obtain ⟨_, hl2, hcell⟩ := World.cells?_some k1
   obtain ⟨xs, mm, _, _, _, hxl, hf⟩ := DataW.trod_array he k2
   match cs', hl2 with
   | [v0, v1], _ =>
    have f0 := hf 0 (by omega)
    have f1 := hf 1 (by omega)
    rw [c1] at f0 f1
    match xs, hxl with
    | [y0, y1], _ =>
     have f0 : DataW.trod enc P w base spare held mm e1 [v0] = some y0 := f0
     have f1 : DataW.trod enc P w base spare held mm e1 [v1] = some y1 := f1
     obtain ⟨n0, a1, _, a3⟩ := DataW.trod_int h1 f0
     obtain ⟨n1, b1, _, b3⟩ := DataW.trod_int h1 f1
     injection a1 with a1
     injection b1 with b1
     have e0 := hcell 0 (by omega)
     have e1 := hcell 1 (by omega)
     rw [Go.Deep.add_add] at e0 e1
     refine ⟨(n0, n1), ?_, ?_, a3, b3⟩
     ·rw [← a1]; simpa using e0
     ·rw [← b1]; simpa using e1)
  refine ⟨A, ?_, ⟨by rw [hAl]; exact hlen, fun q hq => ?_⟩, rfl⟩
  ·refine .sl (us := A.map fun p => .agg #[.int k p.1, .int k p.2]) (by simp [hAl]) (by simp) g3 g4 (fun h0 => ?_) (fun i x u hx hu => ?_)
   ·have hA0 := hA 0 (A[0]'(by omega)) (List.getElem?_eq_getElem (by omega))
    have hs := spot_none (by simpa using hA0.1)
    refine ⟨a, rfl, hs, ?_, fun i u hu => ?_⟩
    ·have := hA0.1
     unfold World.cell? at this
     split at this
     ·next hb => have := (Array.getElem?_eq_some_iff.1 hb).1; rw [show (a.add (0 * 2)).block = a.block by unfold Addr.add; split <;> rfl] at this; exact this
     ·cases this
    ·rw [List.getElem?_map] at hu
     obtain ⟨p, hp, rfl⟩ := Option.map_eq_some_iff.1 hu
     obtain ⟨q1, q2, _, _⟩ := hA i p hp
     obtain ⟨ab, ao, asp⟩ := a
     simp only at hs
     subst hs
     rw [addr_add] at q1 q2
     refine ⟨rfl, fun q hq => ?_, fun j q hq => ?_⟩
     ·have : q = .int k p.1 ∨ q = .int k p.2 := by simpa [Value.cells] using hq
      rcases this with h | h <;> rw [h] <;> rfl
     ·match j, hq with
      | 0, hq =>
       have : q = .int k p.1 := by simpa [Value.cells] using hq.symm
       rw [this]; simpa using q1
      | 1, hq =>
       have : q = .int k p.2 := by simpa [Value.cells] using hq.symm
       rw [this]; simpa using q2
      | j + 2, hq => simp [Value.cells] at hq
   ·rw [List.getElem?_map] at hx hu
    obtain ⟨p, hp, rfl⟩ := Option.map_eq_some_iff.1 hx
    obtain ⟨p', hp', rfl⟩ := Option.map_eq_some_iff.1 hu
    rw [hp] at hp'
    injection hp' with hp'
    subst hp'
    refine .ag (us := [.int k p.1, .int k p.2]) rfl rfl fun j y z hy hz => ?_
    match j, hy, hz with
    | 0, hy, hz => simp at hy hz; subst hy hz; exact .v rfl
    | 1, hy, hz => simp at hy hz; subst hy hz; exact .v rfl
    | j + 2, hy, hz => simp at hy
  ·obtain ⟨i, hi⟩ := List.getElem?_of_mem hq
   exact ⟨(hA i q hi).2.2.1, (hA i q hi).2.2.2⟩⟩
end Go.Proofs.YtcmgmkepodbpkaaDoor
namespace Go.Proofs.YtcmgmkepodbpkaaDoor
open Go.ChangeShapes Go.WideShapes Go.ChangeAt Go.RowKit
def cellsOfData {H : Type} : DataW H → Array Value
 | .agg xs => (xs.map fun
  | .lit (.int k n) => Value.int k n
  | _ => .bool false).toArray
 | _ => #[]
def putCells (vs : Array Value) : Obj → Obj
 | .cells _ t frozen => .cells vs t frozen
 | o => o
noncomputable def laidWorld (os : Os) : World :=
 { World.holding Tryd.prog os ⟨#[], #[], []⟩ with heap := (((World.holding Tryd.prog os ⟨#[], #[], []⟩).heap.modify 0 (putCells (cellsOfData (Rows.laid_internal_strconv_uint64pow10 (H := Unit))))).modify 1 (putCells (cellsOfData (Rows.laid_math_bits_deBruijn32tab (H := Unit))))).modify 2 (putCells (cellsOfData (Rows.laid_math_bits_deBruijn64tab (H := Unit)))) }
theorem ownKnob0 : ownKnob Tryd.prog.godebug = none := by kernel_rfl
theorem laidOut : laidOutB Tryd.prog = true := by kernel_rfl
theorem mem_of_laid {x : TypeId} {l : List TypeId} (p : TypeId → Bool) (h : l.all p = true) (hx : x ∈ l) : p x = true := List.all_eq_true.1 h x hx
def isT (r : Option (AV × Hp)) : Bool := match r with
 | some (.v (.bool true), _) => true
 | _ => false
theorem isT_inv {r : Option (AV × Hp)} (h : isT r = true) : ∃ h', r = some (.v (.bool true), h') := by
 unfold isT at h
 split at h
 ·exact ⟨_, rfl⟩
 ·cases h
set_option maxRecDepth 1000000 in
theorem awakeT : isT (evCall E0 1000 13 [] []) = true := by kernel_rfl
theorem awake_ev : ∃ h, evCall E0 1000 13 [] [] = some (.v (.bool true), h) := isT_inv awakeT
theorem awake_ret (w : World) : Ret Tryd.prog 13 #[] w fun v w' => v = .bool true ∧ w.grownBy w' none := by
 obtain ⟨h, e⟩ := awake_ev
 exact ret_true (Z := fun _ => False) (us := []) E0_ok e (fun c hc => hc.elim) (fun g x h => by cases h) .nil
theorem vr_true {w : World} {Z : Nat → Prop} : VR w Z [] (.v (.bool true)) (.bool true) := .v rfl
/-- A block that a call made is given up. -/
theorem SOk.kill {f : FuncId} {ys : List AV} {Out Out2 : AV → Hp → Prop} (b : Nat) (hs : SOk f ys Out) (h : ∀ x h', Out x h' → Out2 x (h'.set b none)) : SOk f ys Out2 :=
 ⟨hs.1, fun w Z us hz hg hv => Ret.mono (hs.2 w Z us hz hg hv) fun v w' ⟨Z', R', x, h', hO, h1, h2, st⟩ =>
  let ⟨k1, k2⟩ := h1.kill b
  ⟨Z', R', x, h'.set b none, h x h' hO, k1, h2, st.trans k2.w⟩⟩
/-- How a Lean value is held by an abstract value and own blocks (the list tells which). -/
structure Oc (α : Type) where
 cd : Cd α
 at_ : Hp → AV → α → List Nat → Prop
 loc : ∀ {h h' : Hp} {e : AV} {x : α} {F : List Nat}, at_ h e x F → (∀ b ∈ F, h'[b]? = h[b]?) → at_ h' e x F
 own : ∀ {h : Hp} {e : AV} {x : α} {F : List Nat} {b : Nat}, at_ h e x F → b ∈ F → ∃ B, h[b]? = some (some B) ∧ B.fz = false
 vr : ∀ {w : World} {Z : Nat → Prop} {R : List RI} {h : Hp} {e : AV} {x : α} {F : List Nat} {u : Value}, HR w Z R h → at_ h e x F → VR w Z R e u → VR w (fun c => Z c ∨ ∃ b ∈ F, ∃ r, R[b]? = some r ∧ c = r.c) [] (cd.enc x) u
/-- A part of a heap. -/
structure Asn where
 at_ : Hp → List Nat → Prop
 loc : ∀ {h h' : Hp} {F : List Nat}, at_ h F → (∀ b ∈ F, h'[b]? = h[b]?) → at_ h' F
 own : ∀ {h : Hp} {F : List Nat} {b : Nat}, at_ h F → b ∈ F → ∃ B, h[b]? = some (some B) ∧ B.fz = false
def TF (h : Hp) : List Asn → List Nat → Prop
 | [], F => F = []
 | P :: L, F => ∃ F1 F2, F = F1 ++ F2 ∧ P.at_ h F1 ∧ TF h L F2
/-- The assertions hold of different blocks. -/
def T (h : Hp) (L : List Asn) : Prop := ∃ F, TF h L F ∧ F.Nodup
theorem get_lt {h : Hp} {b : Nat} {o : Option Blk} (e : h[b]? = some o) : b < h.length := (List.getElem?_eq_some_iff.1 e).1
theorem TF.loc {h h' : Hp} : ∀ {L : List Asn} {F : List Nat}, TF h L F → (∀ b ∈ F, h'[b]? = h[b]?) → TF h' L F
 | [], _, e, _ => e
 | _ :: _, _, ⟨F1, F2, e, p, q⟩, k => ⟨F1, F2, e, Asn.loc _ p (fun b hb => k b (by rw [e]; exact List.mem_append_left _ hb)), TF.loc q fun b hb => k b (by rw [e]; exact List.mem_append_right _ hb)⟩
theorem TF.own {h : Hp} : ∀ {L : List Asn} {F : List Nat} {b : Nat}, TF h L F → b ∈ F → ∃ B, h[b]? = some (some B) ∧ B.fz = false
 | [], _, _, e, hb => by rw [show _ = [] from e] at hb; cases hb
 | _ :: _, _, _, ⟨F1, F2, e, p, q⟩, hb => by
  rw [e] at hb
  rcases List.mem_append.1 hb with hb | hb
  ·exact Asn.own _ p hb
  ·exact TF.own q hb
theorem TF.lt {h : Hp} {L : List Asn} {F : List Nat} {b : Nat} (t : TF h L F) (hb : b ∈ F) : b < h.length := let ⟨_, e, _⟩ := t.own hb; get_lt e
theorem Asn.lt {P : Asn} {h : Hp} {F : List Nat} {b : Nat} (t : P.at_ h F) (hb : b ∈ F) : b < h.length := let ⟨_, e, _⟩ := P.own t hb; get_lt e
theorem TF.front {h : Hp} {P : Asn} : ∀ {i : Nat} {L : List Asn} {F : List Nat}, TF h L F → L[i]? = some P → ∃ F', TF h (P :: L.eraseIdx i) F' ∧ F'.Perm F
 | _, [], _, _, e => by simp at e
 | 0, Q :: L, F, t, e => by
  simp at e; subst e
  exact ⟨F, t, List.Perm.refl _⟩
 | i + 1, Q :: L, F, ⟨F1, F2, e0, p, q⟩, e => by
  obtain ⟨F', ⟨G1, G2, e1, p1, q1⟩, hp⟩ := TF.front q (by simpa using e)
  subst e0 e1
  refine ⟨G1 ++ (F1 ++ G2), ⟨G1, _, rfl, p1, F1, G2, rfl, p, q1⟩, ?_⟩
  have h1 : (G1 ++ (F1 ++ G2)).Perm (F1 ++ (G1 ++ G2)) := by
   rw [← List.append_assoc, ← List.append_assoc]
   exact List.Perm.append_right _ List.perm_append_comm
  exact h1.trans (List.Perm.append_left _ hp)
theorem T.front {h : Hp} {L : List Asn} {P : Asn} (i : Nat) (t : T h L) (e : L[i]? = some P) : T h (P :: L.eraseIdx i) :=
 let ⟨_, t1, hn⟩ := t; let ⟨F', t2, hp⟩ := t1.front e; ⟨F', t2, hp.nodup_iff.2 hn⟩
theorem nodup_app {F1 F2 : List Nat} : (F1 ++ F2).Nodup ↔ F1.Nodup ∧ F2.Nodup ∧ ∀ a ∈ F1, a ∉ F2 := by
 rw [List.nodup_append]
 constructor
 ·rintro ⟨h1, h2, h3⟩
  exact ⟨h1, h2, fun a ha hb => h3 a ha a hb rfl⟩
 ·rintro ⟨h1, h2, h3⟩
  exact ⟨h1, h2, fun a ha b hb e => h3 a ha (e ▸ hb)⟩
/-- The first assertion turns into another; the rest is as it was. -/
theorem T.act {h : Hp} {P : Asn} {L : List Asn} (t : T h (P :: L)) : ∃ F, P.at_ h F ∧ F.Nodup ∧ (∀ (h' : Hp) (P' : Asn) (F' : List Nat), P'.at_ h' F' → F'.Nodup → (∀ b, b ∉ F → b < h.length → h'[b]? = h[b]?) → (∀ b ∈ F', b ∈ F ∨ h.length ≤ b) → T h' (P' :: L)) ∧ ∀ h' : Hp, (∀ b, b ∉ F → b < h.length → h'[b]? = h[b]?) → T h' L := by
 obtain ⟨F, ⟨F1, F2, rfl, p, q⟩, hn⟩ := t
 obtain ⟨n1, n2, n3⟩ := nodup_app.1 hn
 have hq : ∀ h' : Hp, (∀ b, b ∉ F1 → b < h.length → h'[b]? = h[b]?) → TF h' L F2 := fun h' hs => q.loc fun b hb => hs b (fun hb1 => n3 b hb1 hb) (q.lt hb)
 refine ⟨F1, p, n1, fun h' P' F' p' hn' hs hb => ⟨F' ++ F2, ⟨F', F2, rfl, p', hq h' hs⟩, nodup_app.2 ⟨hn', n2, fun a ha ha2 => ?_⟩⟩, fun h' hs => ⟨F2, hq h' hs, n2⟩⟩
 rcases hb a ha with h1 | h1
 ·exact n3 a h1 ha2
 ·have := q.lt ha2; omega
theorem T.drop {h : Hp} {P : Asn} {L : List Asn} (t : T h (P :: L)) : T h L := let ⟨_, _, _, _, k⟩ := t.act; k h fun _ _ _ => rfl
/-- New blocks, a new assertion. -/
theorem T.add {h h' : Hp} {P : Asn} {L : List Asn} {F : List Nat} (t : T h L) (p : P.at_ h' F) (hn : F.Nodup) (hs : ∀ b, b < h.length → h'[b]? = h[b]?) (hb : ∀ b ∈ F, h.length ≤ b) : T h' (P :: L) := by
 obtain ⟨F2, q, n2⟩ := t
 exact ⟨F ++ F2, ⟨F, F2, rfl, p, q.loc fun b hb => hs b (q.lt hb)⟩, nodup_app.2 ⟨hn, n2, fun a ha ha2 => by have := hb a ha; have := q.lt ha2; omega⟩⟩
theorem T.grow {h h' : Hp} {L : List Asn} (t : T h L) (hs : ∀ b, b < h.length → h'[b]? = h[b]?) : T h' L := let ⟨F, q, n⟩ := t; ⟨F, q.loc fun b hb => hs b (q.lt hb), n⟩
theorem T.nil {h : Hp} : T h [] := ⟨[], rfl, List.nodup_nil⟩
/-- Two assertions as one. -/
def star (P Q : Asn) : Asn where
 at_ h F := ∃ F1 F2, F = F1 ++ F2 ∧ P.at_ h F1 ∧ Q.at_ h F2
 loc := fun ⟨F1, F2, e, p, q⟩ k => ⟨F1, F2, e, P.loc p (fun b hb => k b (by rw [e]; exact List.mem_append_left _ hb)), Q.loc q fun b hb => k b (by rw [e]; exact List.mem_append_right _ hb)⟩
 own := fun ⟨F1, F2, e, p, q⟩ hb => by
  rw [e] at hb
  rcases List.mem_append.1 hb with hb | hb
  ·exact P.own p hb
  ·exact Q.own q hb
theorem T.join {h : Hp} {P Q : Asn} {L : List Asn} : T h (P :: Q :: L) ↔ T h (star P Q :: L) := by
 constructor
 ·rintro ⟨F, ⟨F1, F2, rfl, p, ⟨G1, G2, rfl, q, r⟩⟩, hn⟩
  exact ⟨_, ⟨F1 ++ G1, G2, (List.append_assoc _ _ _).symm, ⟨F1, G1, rfl, p, q⟩, r⟩, hn⟩
 ·rintro ⟨F, ⟨F1, F2, rfl, ⟨G1, G2, rfl, p, q⟩, r⟩, hn⟩
  exact ⟨_, ⟨G1, G2 ++ F2, List.append_assoc _ _ _, p, G2, F2, rfl, q, r⟩, hn⟩
/-- An own value. -/
def own_ {α : Type} (o : Oc α) (e : AV) (x : α) : Asn := ⟨fun h F => o.at_ h e x F, o.loc, o.own⟩
/-- A cell of its own (a variable that closures hold, a struct with an address). -/
def cel (p : AV) (k : Nat) (t : TypeId) (a : AV) : Asn where
 at_ h F := ∃ b, p = .pt b 0 0 ∧ F = [b] ∧ h[b]? = some (some ⟨k, t, [a], false⟩)
 loc := fun ⟨b, e1, e2, e3⟩ k => ⟨b, e1, e2, (k b (by rw [e2]; simp)).trans e3⟩
 own := fun ⟨b, e1, e2, e3⟩ hb => by
  rw [e2] at hb
  simp at hb
  subst hb
  exact ⟨_, e3, rfl⟩
/-- A value as it is. -/
def ocV {α : Type} (c : Cd α) : Oc α where
 cd := c
 at_ _ e x F := e = c.enc x ∧ F = []
 loc h _ := h
 own h hb := by rw [h.2] at hb; cases hb
 vr := fun {w Z R h e x F u} _ ha hv => by
  rw [ha.1] at hv
  exact (noRf2_vr (c.nr x) hv).mono (fun _ _ => rfl) (fun _ h => .inl h) (fun _ _ h => h)
section
variable {α : Type} {p p' : AV → α → List Nat → Prop}
def All3 (p : AV → α → List Nat → Prop) : List AV → List α → List Nat → Prop
 | [], [], F => F = []
 | e :: es, x :: xs, F => ∃ F1 F2, F = F1 ++ F2 ∧ p e x F1 ∧ All3 p es xs F2
 | _, _, _ => False
def All3h (p : AV → α → List Nat → Prop) : Nat → AV → List AV → List α → List Nat → Prop
 | 0, e', e :: es, _ :: xs, F => e = e' ∧ All3 p es xs F
 | j + 1, e', e :: es, x :: xs, F => ∃ F1 F2, F = F1 ++ F2 ∧ p e x F1 ∧ All3h p j e' es xs F2
 | _, _, _, _, _ => False
theorem All3.len : ∀ {es : List AV} {xs : List α} {F : List Nat}, All3 p es xs F → es.length = xs.length
 | [], [], _, _ => rfl
 | _ :: _, _ :: _, _, ⟨_, _, _, _, h⟩ => by simp [All3.len h]
 | [], _ :: _, _, h => h.elim
 | _ :: _, [], _, h => h.elim
theorem All3.mono : ∀ {es : List AV} {xs : List α} {F : List Nat}, All3 p es xs F → (∀ e x F', (∀ b ∈ F', b ∈ F) → p e x F' → p' e x F') → All3 p' es xs F
 | [], [], _, h, _ => h
 | _ :: _, _ :: _, _, ⟨F1, F2, e, h1, h2⟩, k => ⟨F1, F2, e, k _ _ F1 (fun b hb => by rw [e]; exact List.mem_append_left _ hb) h1, h2.mono fun e' x F' hF => k e' x F' fun b hb => by rw [e]; exact List.mem_append_right _ (hF b hb)⟩
 | [], _ :: _, _, h, _ => h.elim
 | _ :: _, [], _, h, _ => h.elim
theorem All3h.mono : ∀ {j : Nat} {e' : AV} {es : List AV} {xs : List α} {F : List Nat}, All3h p j e' es xs F → (∀ e x F', (∀ b ∈ F', b ∈ F) → p e x F' → p' e x F') → All3h p' j e' es xs F
 | 0, _, _ :: _, _ :: _, _, ⟨h1, h2⟩, k => ⟨h1, h2.mono k⟩
 | _ + 1, _, _ :: _, _ :: _, _, ⟨F1, F2, e, h1, h2⟩, k => ⟨F1, F2, e, k _ _ F1 (fun b hb => by rw [e]; exact List.mem_append_left _ hb) h1, h2.mono fun e' x F' hF => k e' x F' fun b hb => by rw [e]; exact List.mem_append_right _ (hF b hb)⟩
 | 0, _, [], _, _, h, _ => by unfold All3h at h; exact h.elim
 | 0, _, _ :: _, [], _, h, _ => by unfold All3h at h; exact h.elim
 | _ + 1, _, [], _, _, h, _ => by unfold All3h at h; exact h.elim
 | _ + 1, _, _ :: _, [], _, h, _ => by unfold All3h at h; exact h.elim
theorem All3.get : ∀ {es : List AV} {xs : List α} {F : List Nat} {i : Nat} {x : α}, All3 p es xs F → xs[i]? = some x → ∃ e Fi, es[i]? = some e ∧ p e x Fi ∧ ∀ b ∈ Fi, b ∈ F
 | _ :: _, _ :: _, _, 0, _, ⟨F1, F2, e, h1, h2⟩, hx => by
  simp at hx; subst hx
  exact ⟨_, F1, rfl, h1, fun b hb => by rw [e]; exact List.mem_append_left _ hb⟩
 | _ :: _, _ :: _, _, i + 1, _, ⟨F1, F2, e, h1, h2⟩, hx => by
  obtain ⟨e', Fi, k1, k2, k3⟩ := h2.get (i := i) (by simpa using hx)
  exact ⟨e', Fi, by simpa using k1, k2, fun b hb => by rw [e]; exact List.mem_append_right _ (k3 b hb)⟩
 | [], [], _, _, _, _, hx => by simp at hx
 | [], _ :: _, _, _, _, h, _ => h.elim
 | _ :: _, [], _, _, _, h, _ => h.elim
theorem All3.hole : ∀ {es : List AV} {xs : List α} {F : List Nat} {i : Nat} {x : α}, All3 p es xs F → xs[i]? = some x → ∃ e' Fi F', es[i]? = some e' ∧ p e' x Fi ∧ All3h p i e' es xs F' ∧ (Fi ++ F').Perm F
 | _ :: _, _ :: _, _, 0, _, ⟨F1, F2, e, h1, h2⟩, hx => by
  simp at hx; subst hx
  exact ⟨_, F1, F2, rfl, h1, ⟨rfl, h2⟩, e ▸ List.Perm.refl _⟩
 | _ :: _, _ :: _, _, i + 1, _, ⟨F1, F2, e, h1, h2⟩, hx => by
  obtain ⟨e', Fi, F', k1, k2, k3, k4⟩ := h2.hole (i := i) (by simpa using hx)
  refine ⟨e', Fi, F1 ++ F', by simpa using k1, k2, ⟨F1, F', rfl, h1, k3⟩, ?_⟩
  rw [e]
  have : (Fi ++ (F1 ++ F')).Perm (F1 ++ (Fi ++ F')) := by
   rw [← List.append_assoc, ← List.append_assoc]
   exact List.Perm.append_right _ List.perm_append_comm
  exact this.trans (List.Perm.append_left _ k4)
 | [], [], _, _, _, _, hx => by simp at hx
 | [], _ :: _, _, _, _, h, _ => h.elim
 | _ :: _, [], _, _, _, h, _ => h.elim
theorem All3h.fill {e'' : AV} {y : α} {Fi : List Nat} (hp : p e'' y Fi) : ∀ {j : Nat} {e' : AV} {es : List AV} {xs : List α} {F' : List Nat}, All3h p j e' es xs F' → ∃ F, All3 p (es.set j e'') (xs.set j y) F ∧ F.Perm (Fi ++ F')
 | 0, _, _ :: _, _ :: _, F', ⟨_, h2⟩ => ⟨Fi ++ F', ⟨Fi, F', rfl, hp, h2⟩, List.Perm.refl _⟩
 | _ + 1, _, _ :: _, _ :: _, _, ⟨F1, F2, e, h1, h2⟩ => by
  obtain ⟨F, k1, k2⟩ := All3h.fill hp h2
  refine ⟨F1 ++ F, ⟨F1, F, rfl, h1, k1⟩, ?_⟩
  rw [e]
  refine (List.Perm.append_left F1 k2).trans ?_
  rw [← List.append_assoc, ← List.append_assoc]
  exact List.Perm.append_right _ List.perm_append_comm
 | 0, _, [], _, _, h => by unfold All3h at h; exact h.elim
 | 0, _, _ :: _, [], _, h => by unfold All3h at h; exact h.elim
 | _ + 1, _, [], _, _, h => by unfold All3h at h; exact h.elim
 | _ + 1, _, _ :: _, [], _, h => by unfold All3h at h; exact h.elim
theorem All3h.at_ : ∀ {j : Nat} {e' : AV} {es : List AV} {xs : List α} {F' : List Nat}, All3h p j e' es xs F' → es[j]? = some e' ∧ es.length = xs.length ∧ j < xs.length
 | 0, _, _ :: _, _ :: _, _, ⟨h1, h2⟩ => ⟨by simp [h1], by simp [h2.len], by simp⟩
 | _ + 1, _, _ :: _, _ :: _, _, ⟨_, _, _, _, h2⟩ => by
  obtain ⟨k1, k2, k3⟩ := h2.at_
  exact ⟨by simpa using k1, by simp [k2], by simp; omega⟩
 | 0, _, [], _, _, h => by unfold All3h at h; exact h.elim
 | 0, _, _ :: _, [], _, h => by unfold All3h at h; exact h.elim
 | _ + 1, _, [], _, _, h => by unfold All3h at h; exact h.elim
 | _ + 1, _, _ :: _, [], _, h => by unfold All3h at h; exact h.elim
theorem All3.append : ∀ {es : List AV} {xs : List α} {F : List Nat} {es' : List AV} {xs' : List α} {F' : List Nat}, All3 p es xs F → All3 p es' xs' F' → All3 p (es ++ es') (xs ++ xs') (F ++ F')
 | [], [], _, _, _, _, h, h' => by rw [show _ = [] from h]; exact h'
 | _ :: _, _ :: _, _, _, _, _, ⟨F1, F2, e, h1, h2⟩, h' => ⟨F1, _, by rw [e, List.append_assoc], h1, h2.append h'⟩
 | [], _ :: _, _, _, _, _, h, _ => h.elim
 | _ :: _, [], _, _, _, _, h, _ => h.elim
theorem All3.mem : ∀ {es : List AV} {xs : List α} {F : List Nat} {b : Nat}, All3 p es xs F → b ∈ F → ∃ e x F', p e x F' ∧ b ∈ F'
 | [], [], _, _, h, hb => by rw [show _ = [] from h] at hb; cases hb
 | _ :: _, _ :: _, _, _, ⟨F1, F2, e, h1, h2⟩, hb => by
  rw [e] at hb
  rcases List.mem_append.1 hb with hb | hb
  ·exact ⟨_, _, F1, h1, hb⟩
  ·exact h2.mem hb
 | [], _ :: _, _, _, h, _ => h.elim
 | _ :: _, [], _, _, h, _ => h.elim
theorem All3h.mem : ∀ {j : Nat} {e' : AV} {es : List AV} {xs : List α} {F : List Nat} {b : Nat}, All3h p j e' es xs F → b ∈ F → ∃ e x F', p e x F' ∧ b ∈ F'
 | 0, _, _ :: _, _ :: _, _, _, ⟨_, h2⟩, hb => h2.mem hb
 | _ + 1, _, _ :: _, _ :: _, _, _, ⟨F1, F2, e, h1, h2⟩, hb => by
  rw [e] at hb
  rcases List.mem_append.1 hb with hb | hb
  ·exact ⟨_, _, F1, h1, hb⟩
  ·exact h2.mem hb
 | 0, _, [], _, _, _, h, _ => by unfold All3h at h; exact h.elim
 | 0, _, _ :: _, [], _, _, h, _ => by unfold All3h at h; exact h.elim
 | _ + 1, _, [], _, _, _, h, _ => by unfold All3h at h; exact h.elim
 | _ + 1, _, _ :: _, [], _, _, h, _ => by unfold All3h at h; exact h.elim
end
/-- Leaves. -/
theorem All3.leaf {α : Type} {c : Cd α} {h : Hp} : ∀ {xs : List α}, All3 ((ocV c).at_ h) (xs.map c.enc) xs []
 | [] => rfl
 | _x :: _ => ⟨[], [], rfl, ⟨rfl, rfl⟩, All3.leaf⟩
theorem All3.leaf_inv {α : Type} {c : Cd α} {h : Hp} : ∀ {es : List AV} {xs : List α} {F : List Nat}, All3 ((ocV c).at_ h) es xs F → es = xs.map c.enc ∧ F = []
 | [], [], _, e => ⟨rfl, e⟩
 | _ :: _, _ :: _, _, ⟨F1, F2, e, h1, h2⟩ => by
  obtain ⟨k1, k2⟩ := h2.leaf_inv
  exact ⟨by rw [k1, h1.1]; rfl, by rw [e, h1.2, k2]; rfl⟩
 | [], _ :: _, _, h => h.elim
 | _ :: _, [], _, h => h.elim
/-- An own slice of own values. -/
def ocL {α : Type} (k : Nat) (t : TypeId) (o : Oc α) : Oc (List α) where
 cd := cdL k o.cd
 at_ h e xs F := (e = .e0 ∧ xs = [] ∧ F = []) ∨ ∃ b es F', e = .rf b 0 xs.length xs.length ∧ h[b]? = some (some ⟨k, t, es, false⟩) ∧ F = b :: F' ∧ All3 (o.at_ h) es xs F'
 loc := fun {h h' e x F} ha k => by
  rcases ha with h1 | ⟨b, es, F', h1, h2, h3, h4⟩
  ·exact .inl h1
  ·subst h3
   exact .inr ⟨b, es, F', h1, (k b (by simp)).trans h2, rfl, h4.mono fun e x G hG h5 => o.loc h5 fun c hc => k c (List.mem_cons_of_mem _ (hG c hc))⟩
 own := fun {h e x F b} ha hb => by
  rcases ha with ⟨_, _, h1⟩ | ⟨b', es, F', h1, h2, h3, h4⟩
  ·rw [h1] at hb; cases hb
  ·subst h3
   rcases List.mem_cons.1 hb with rfl | hb
   ·exact ⟨_, h2, rfl⟩
   ·obtain ⟨e, x, G, k1, k2⟩ := h4.mem hb
    exact o.own k1 k2
 vr := fun {w Z R h e xs F u} hh ha hv => by
  rcases ha with ⟨rfl, rfl, rfl⟩ | ⟨b, es, F', rfl, h2, rfl, h4⟩
  ·cases hv
   exact .sl (us := []) rfl rfl (Nat.le_refl _) (by unfold maxLen; omega) (fun h => by omega) (fun i x u hx => by simp at hx)
  ·obtain ⟨r, arr, us, g1, g2, g3, g4, g5, g6, g7, g8, g9, g10⟩ := hh.blk b _ h2
   have hl := h4.len
   cases hv with
   | rf hr' q0 q1 q2 q3 =>
    rename_i c r'
    rw [g1] at hr'
    injection hr' with hr'
    subst hr'
    have hul : us.length = es.length := g9.len
    refine .sl (us := us) (by simp) (by simp; omega) (by omega) (by omega) (fun _ => ⟨⟨r.c, 0 * r.k, none⟩, rfl, rfl, .inr ⟨b, by simp, r, g1, rfl⟩, fun i u hu => ?_⟩) (fun i x u hx hu => ?_)
    ·obtain ⟨k1, k2, k3⟩ := g10 i u hu
     refine ⟨k1, k2, fun j q hq => ?_⟩
     have := k3 j q hq
     rw [Nat.zero_mul, Nat.zero_add]
     simp only [World.cell?, g3]
     simpa using this
    ·rw [List.getElem?_map] at hx
     obtain ⟨y, hy, rfl⟩ := Option.map_eq_some_iff.1 hx
     obtain ⟨e, Fi, k1, k2, k3⟩ := h4.get hy
     have hvi := g9.at_ i e u k1 hu
     exact (o.vr hh k2 hvi).mono (fun _ _ => rfl) (fun c hc => hc.imp_right fun ⟨b', hb', hr⟩ => ⟨b', List.mem_cons_of_mem _ (k3 b' hb'), hr⟩) (fun _ _ h => h)
/-- What may be laid in a cell of k cells. -/
def Fit {α : Type} (o : Oc α) (k : Nat) : Prop := ∀ (h : Hp) (e : AV) (x : α) (F : List Nat), o.at_ h e x F → e.nc = k ∧ e.notTp = true ∧ elm e.cel = e
theorem fit_V {α : Type} {c : Cd α} {k : Nat} (h : ∀ x, (c.enc x).nc = k ∧ (c.enc x).notTp = true ∧ elm (c.enc x).cel = c.enc x) : Fit (ocV c) k := fun _ e x _ hx => by
 rw [hx.1]; exact h x
theorem fit_L {α : Type} {o : Oc α} {k : Nat} {t : TypeId} : Fit (ocL k t o) 1 := fun h e x F hx => by
 rcases hx with ⟨rfl, _, _⟩ | ⟨b, es, F', rfl, _⟩
 ·exact ⟨rfl, rfl, rfl⟩
 ·exact ⟨rfl, rfl, rfl⟩
theorem All3.fit {α : Type} {o : Oc α} {k : Nat} (hf : Fit o k) {h : Hp} : ∀ {es : List AV} {xs : List α} {F : List Nat}, All3 (o.at_ h) es xs F → ∀ e ∈ es, e.nc = k ∧ e.notTp = true ∧ elm e.cel = e
 | [], [], _, _, e, he => by cases he
 | _ :: _, _ :: _, _, ⟨F1, F2, _, h1, h2⟩, e, he => by
  rcases List.mem_cons.1 he with rfl | he
  ·exact hf _ _ _ _ h1
  ·exact h2.fit hf e he
 | [], _ :: _, _, h, _, _ => h.elim
 | _ :: _, [], _, h, _, _ => h.elim
/-- .. of which one element is held elsewhere. -/
def hole {α : Type} (k : Nat) (t : TypeId) (o : Oc α) (e : AV) (xs : List α) (j : Nat) (e' : AV) (x0 : α) : Asn where
 at_ h F := ∃ b es F', e = .rf b 0 xs.length xs.length ∧ h[b]? = some (some ⟨k, t, es, false⟩) ∧ F = b :: F' ∧ All3h (o.at_ h) j e' es xs F' ∧ (e'.nc = k ∧ elm e'.cel = e') ∧ xs[j]? = some x0
 loc := fun {h h' F} ⟨b, es, F', h1, h2, h3, h4, h5⟩ k => by
  subst h3
  exact ⟨b, es, F', h1, (k b (by simp)).trans h2, rfl, h4.mono fun e x G hG h5 => o.loc h5 fun c hc => k c (List.mem_cons_of_mem _ (hG c hc)), h5⟩
 own := fun {h F b} ⟨b', es, F', h1, h2, h3, h4, _⟩ hb => by
  subst h3
  rcases List.mem_cons.1 hb with rfl | hb
  ·exact ⟨_, h2, rfl⟩
  ·obtain ⟨e, x, G, k1, k2⟩ := h4.mem hb
   exact o.own k1 k2
/-- The address of an element. -/
def eAt : AV → Nat → AV
 | .rf b lo _ _, i => .pt b (lo + i) 0
 | x, _ => x
def pOff : AV → Nat → AV
 | .pt b i o, n => .pt b i (o + n)
 | x, _ => x
section
variable {α : Type} {o : Oc α} {k j : Nat} {t : TypeId} {e e' : AV} {xs : List α} {x y : α} {h : Hp} {L : List Asn} {c : Cd α}
theorem T.e0 {k : Nat} {ty : TypeId} (t : T h L) : T h (own_ (ocL k ty o) .e0 [] :: L) := t.add (F := []) (.inl ⟨rfl, rfl, rfl⟩) List.nodup_nil (fun _ _ => rfl) (fun _ h => by cases h)
/-- An element is held apart. -/
theorem T.focus (hf : Fit o k) (ht : T h (own_ (ocL k t o) e xs :: L)) (hx : xs[j]? = some x) : ∃ e', T h (own_ o e' x :: hole k t o e xs j e' x :: L) := by
 obtain ⟨F, ⟨F1, F2, rfl, p, q⟩, hn⟩ := ht
 rcases p with ⟨_, rfl, _⟩ | ⟨b, es, F', h1, h2, rfl, h4⟩
 ·simp at hx
 ·obtain ⟨e', Fi, F'', k1, k2, k3, k4⟩ := h4.hole hx
  refine ⟨e', Fi ++ ((b :: F'') ++ F2), ⟨Fi, _, rfl, k2, _, F2, rfl, ⟨b, es, F'', h1, h2, rfl, k3, ⟨(hf _ _ _ _ k2).1, (hf _ _ _ _ k2).2.2⟩, hx⟩, q⟩, ?_⟩
  refine List.Perm.nodup_iff (?_ : List.Perm _ ((b :: F') ++ F2)) |>.2 hn
  rw [← List.append_assoc]
  refine List.Perm.append_right _ ?_
  exact List.perm_middle.trans (List.Perm.cons _ k4)
theorem T.merge (ht : T h (own_ o e' y :: hole k t o e xs j e' x :: L)) : T h (own_ (ocL k t o) e (xs.set j y) :: L) := by
 obtain ⟨F, ⟨F1, F2, rfl, p, ⟨G1, G2, rfl, ⟨b, es, F', h1, h2, rfl, h4, _, _⟩, r⟩⟩, hn⟩ := ht
 obtain ⟨F'', k1, k2⟩ := h4.fill p
 obtain ⟨a1, a2, a3⟩ := h4.at_
 have hset : es.set j e' = es := by
  apply List.ext_getElem?
  intro i
  rw [List.getElem?_set]
  split
  ·next hij => subst hij; rw [if_pos (by omega)]; exact a1.symm
  ·rfl
 rw [hset] at k1
 refine ⟨(b :: F'') ++ G2, ⟨b :: F'', G2, rfl, .inr ⟨b, es, F'', by rw [h1]; simp, h2, rfl, k1⟩, r⟩, ?_⟩
 refine List.Perm.nodup_iff (?_ : List.Perm _ (F1 ++ (b :: F' ++ G2))) |>.2 hn
 rw [← List.append_assoc]
 refine List.Perm.append_right _ ?_
 exact (List.Perm.cons b k2).trans List.perm_middle.symm
end
section
variable {P : Program} {α : Type} {o : Oc α} {k j m off : Nat} {t ty ty2 el : TypeId} {e e' y : AV} {xs ys vs : List α} {x v v' : α} {h : Hp} {L : List Asn} {c : Cd α} {i : Int} {ki : IntKind} {g : Bool}
theorem len_own (ht : T h (own_ (ocL k t o) e xs :: L)) (hu : P.underlying ty = some (.slice el)) : evLen P ty e = some (eI xs.length) := by
 obtain ⟨F, p, _⟩ := ht.act
 rcases p with ⟨rfl, rfl, _⟩ | ⟨b, es, F', rfl, _⟩
 ·simp [evLen, hu, eI]
 ·simp [evLen, hu, eI]
theorem ix_own (ht : T h (own_ (ocL k t o) e xs :: L)) (hu : P.underlying ty = some (.slice el)) (hs : tySize P el = some k) (hv : idx xs i = some v) : evIndexAddr P h ty e (.v (.int ki i)) = some (eAt e i.toNat) := by
 obtain ⟨F, p, _⟩ := ht.act
 obtain ⟨h0, h1⟩ := idx_at hv
 rcases p with ⟨rfl, rfl, _⟩ | ⟨b, es, F', rfl, h2, _⟩
 ·simp at h1
 ·rw [ix_rf hu hs h2 rfl h0 (List.getElem?_eq_some_iff.1 h1).1]
  simp [eAt]
theorem ld_own {n : Nat} (ht : T h (own_ (ocL k t (ocV c)) e xs :: L)) (hv : xs[n]? = some v) (hm : tySize P ty = some m) (hg : tyAgg P ty = some g) (he : getE (c.enc v) off m g = some y) : evLoad P h ty (pOff (eAt e n) off) = some y := by
 obtain ⟨F, p, _⟩ := ht.act
 rcases p with ⟨rfl, rfl, _⟩ | ⟨b, es, F', rfl, h2, _, h4⟩
 ·simp at hv
 ·obtain ⟨rfl, _⟩ := h4.leaf_inv
  simp [evLoad, hm, hg, eAt, pOff, h2, hv, he]
theorem pOff0 (e : AV) (n : Nat) : pOff (eAt e n) 0 = eAt e n := by cases e <;> rfl
theorem ld_own0 {n : Nat} (ht : T h (own_ (ocL k t (ocV c)) e xs :: L)) (hv : xs[n]? = some v) (hm : tySize P ty = some m) (hg : tyAgg P ty = some g) (he : getE (c.enc v) 0 m g = some y) : evLoad P h ty (eAt e n) = some y := by
 have := ld_own (off := 0) ht hv hm hg he
 rwa [pOff0] at this
theorem st_own {n : Nat} (ht : T h (own_ (ocL k t (ocV c)) e xs :: L)) (hv : xs[n]? = some v) (hs : tySize P ty = some y.nc) (hn : y.notTp = true) (he : setE (c.enc v) off y = some (c.enc v')) : ∃ h', evStore P h ty (pOff (eAt e n) off) y = some h' ∧ T h' (own_ (ocL k t (ocV c)) e (xs.set n v') :: L) := by
 obtain ⟨F, p, hn', hk, _⟩ := ht.act
 rcases p with ⟨rfl, rfl, _⟩ | ⟨b, es, F', rfl, h2, rfl, h4⟩
 ·simp at hv
 ·obtain ⟨rfl, rfl⟩ := h4.leaf_inv
  have hb := get_lt h2
  refine ⟨h.set b (some ⟨k, t, (xs.set n v').map c.enc, false⟩), by simp [evStore, eAt, pOff, h2, hv, hs, hn, he], hk _ _ [b] (.inr ⟨b, (xs.set n v').map c.enc, [], by simp, by simp [hb], rfl, All3.leaf⟩) (by simp) (fun b' hb' _ => ?_) (fun b' hb' => .inl hb')⟩
  rw [List.getElem?_set, if_neg (by intro e; subst e; simp at hb')]
theorem st_own0 {n : Nat} (ht : T h (own_ (ocL k t (ocV c)) e xs :: L)) (hv : xs[n]? = some v) (hs : tySize P ty = some y.nc) (hn : y.notTp = true) (he : setE (c.enc v) 0 y = some (c.enc v')) : ∃ h', evStore P h ty (eAt e n) y = some h' ∧ T h' (own_ (ocL k t (ocV c)) e (xs.set n v') :: L) := by
 have := st_own (off := 0) ht hv hs hn he
 rwa [pOff0] at this
/-- An element that is an own slice itself. -/
theorem ld_child {n : Nat} {k' : Nat} {t' : TypeId} {β : Type} {o : Oc β} {xs : List (List β)} {x : List β} (ht : T h (own_ (ocL 1 t (ocL k' t' o)) e xs :: L)) (hv : xs[n]? = some x) (hm : tySize P ty = some 1) (hg : tyAgg P ty = some false) : ∃ e', evLoad P h ty (eAt e n) = some e' ∧ T h (own_ (ocL k' t' o) e' x :: hole 1 t (ocL k' t' o) e xs n e' x :: L) := by
 obtain ⟨e', ht'⟩ := ht.focus fit_L hv
 refine ⟨e', ?_, ht'⟩
 obtain ⟨F, p, _⟩ := ht'.act
 have hc : e'.cel = [e'] := by
  rcases p with ⟨rfl, _⟩ | ⟨b, es, F', rfl, _⟩ <;> rfl
 obtain ⟨F2, q, _⟩ := (T.drop ht').act
 obtain ⟨b, es, F', rfl, h2, _, h4, _⟩ := q
 obtain ⟨a1, _, _⟩ := h4.at_
 simp [evLoad, hm, hg, eAt, h2, a1, getE, hc]
/-- Loose elements. -/
def els {α : Type} (o : Oc α) (es : List AV) (xs : List α) : Asn where
 at_ h F := All3 (o.at_ h) es xs F
 loc := fun h k => h.mono fun _e _x _G hG h5 => o.loc h5 fun c hc => k c (hG c hc)
 own := fun h hb => let ⟨_, _, _, q1, q2⟩ := h.mem hb; o.own q1 q2
theorem els_nil (ht : T h L) : T h (els o [] [] :: L) := ht.add (F := []) rfl List.nodup_nil (fun _ _ => rfl) (fun _ h => by cases h)
theorem els_cons {es : List AV} (ht : T h (own_ o e x :: els o es xs :: L)) : T h (els o (e :: es) (x :: xs) :: L) := by
 obtain ⟨F, p, hn', hk, _⟩ := (T.join.1 ht).act
 obtain ⟨F1, F2, rfl, p, q⟩ := p
 exact hk h _ (F1 ++ F2) ⟨F1, F2, rfl, p, q⟩ hn' (fun _ _ _ => rfl) (fun b hb => .inl hb)
theorem els_leaf (ht : T h L) : T h (els (ocV c) (xs.map c.enc) xs :: L) := ht.add (F := []) All3.leaf List.nodup_nil (fun _ _ => rfl) (fun _ h => by cases h)
/-- The elements of an own slice. -/
theorem els_own (ht : T h (own_ (ocL k t o) y ys :: L)) (hu : P.underlying ty2 = some (.slice el)) : ∃ ey, T h (els o ey ys :: L) ∧ elems h k y = some ey ∧ srcOk P ty2 y = true := by
 obtain ⟨F, p, hn, hk, _⟩ := ht.act
 rcases p with ⟨rfl, rfl, rfl⟩ | ⟨b, es, F', rfl, h2, rfl, h4⟩
 ·exact ⟨[], hk h _ [] rfl List.nodup_nil (fun _ _ _ => rfl) (fun _ h => by cases h), by simp [elems], by simp [srcOk, hu]⟩
 ·refine ⟨es, hk h _ F' h4 (List.nodup_cons.1 hn).2 (fun _ _ _ => rfl) (fun b hb => .inl (List.mem_cons_of_mem _ hb)), ?_, by simp [srcOk, hu]⟩
  have hl := h4.len
  simp [elems, h2, ← hl]
/-- A growing own slice takes elements. -/
theorem app_gen {bytes : Nat} {i : TypeInfo} {z : AV} {ey : List AV} (ht : T h (own_ (ocL k t o) e xs :: els o ey ys :: L)) (hsy : srcOk P ty2 y = true) (hel : elems h k y = some ey) (hte : tyElem P ty = some t) (hi : P.info? t = some i) (hz : tyZero P t = some z) (hk : i.size = k) (h0 : Nat.blt 0 k = true) (hzn : z.nc = k) (hzt : z.notTp = true) (hib : i.bytes = bytes) (hc : capOk bytes (xs.length + ys.length) = true) :
  ∃ e' h', evAppend P h ty ty2 e y = some (e', h') ∧ T h' (own_ (ocL k t o) e' (xs ++ ys) :: L) := by
 subst hib hk
 obtain ⟨F, p, hn', hk, hk0⟩ := (T.join.1 ht).act
 obtain ⟨F1, Fy, rfl, px, hy4⟩ := p
 obtain ⟨n1, n2, n3⟩ := nodup_app.1 hn'
 obtain ⟨c1, c2⟩ := capOk_inv hc
 have h0' : 0 < i.size := Nat.le_of_ble_eq_true h0
 have hly : ey.length = ys.length := All3.len hy4
 have hlt : ∀ c, c ∈ F1 ++ Fy → c < h.length := fun c hc => by
  rcases List.mem_append.1 hc with hc | hc
  ·obtain ⟨B, q, _⟩ := (ocL i.size t o).own px hc
   exact get_lt q
  ·obtain ⟨B, q, _⟩ := (els o ey ys).own hy4 hc
   exact get_lt q
 cases hey : ey with
 | nil =>
  subst hey
  have : ys = [] := by cases ys with | nil => rfl | cons a b => simp at hly
  subst this
  refine ⟨e, h, ?_, ?_⟩
  ·rcases px with ⟨rfl, _⟩ | ⟨b, es, F', rfl, _⟩ <;> simp [evAppend, hsy, hte, hi, hz, hel]
  ·rw [List.append_nil]
   exact hk h _ F1 px n1 (fun _ _ _ => rfl) (fun b hb => .inl (List.mem_append_left _ hb))
 | cons a r =>
  have he : ey.isEmpty = false := by rw [hey]; rfl
  have hne : 0 < ys.length := by rw [← hly, hey]; simp
  rcases px with ⟨rfl, rfl, rfl⟩ | ⟨bx, ex, Fx, rfl, hx2, rfl, hx4⟩
  ·have hc1 : ey.length * i.bytes ≤ 140737488355328 ∧ ey.length ≤ 140737488355328 := by
    rw [hly]; simp at c1 c2; exact ⟨c1, c2⟩
   refine ⟨.rf h.length 0 ys.length ys.length, h ++ [some ⟨i.size, t, ey, false⟩], ?_, hk _ _ (h.length :: Fy) (.inr ⟨h.length, ey, Fy, rfl, by simp, rfl, hy4.mono fun e x G hG h5 => o.loc h5 fun c hc => List.getElem?_append_left (hlt c (List.mem_append_right _ (hG c hc)))⟩) (List.nodup_cons.2 ⟨fun hb => by have := hlt _ (List.mem_append_right _ hb); omega, n2⟩) (fun c _ hc => List.getElem?_append_left hc) (fun c hc => ?_)⟩
   ·simp only [evAppend, hsy, hte, hi, hz, hel, he]
    rw [if_neg (by simp), if_neg (by simp), if_pos ⟨h0', hzn, hzt⟩, if_pos hc1, hly]
   ·rcases List.mem_cons.1 hc with rfl | hc
    ·exact .inr (Nat.le_refl _)
    ·exact .inl (List.mem_append_right _ hc)
  ·have hlx : ex.length = xs.length := hx4.len
   have hbx := get_lt hx2
   have hbx' : bx ∉ Fx := (List.nodup_cons.1 n1).1
   have hby' : bx ∉ Fy := n3 bx (by simp)
   have same : ∀ c, c ≠ bx → c < h.length → ((h.set bx none) ++ [some ⟨i.size, t, ex ++ ey, false⟩])[c]? = h[c]? := fun c hc hlt => by
    rw [List.getElem?_append_left (by simpa using hlt), List.getElem?_set, if_neg (Ne.symm hc)]
   refine ⟨.rf h.length 0 (xs ++ ys).length (xs ++ ys).length, (h.set bx none) ++ [some ⟨i.size, t, ex ++ ey, false⟩], ?_, hk _ _ (h.length :: (Fx ++ Fy)) (.inr ⟨h.length, ex ++ ey, Fx ++ Fy, rfl, ?_, rfl, All3.append (hx4.mono fun e x G hG h5 => o.loc h5 fun c hc => same c (fun e => hbx' (e ▸ hG c hc)) (hlt c (List.mem_append_left _ (List.mem_cons_of_mem _ (hG c hc))))) (hy4.mono fun e x G hG h5 => o.loc h5 fun c hc => same c (fun e => hby' (e ▸ hG c hc)) (hlt c (List.mem_append_right _ (hG c hc))))⟩) (List.nodup_cons.2 ⟨fun hb => ?_, ?_⟩) (fun c hc hlt => same c (fun e => hc (by subst e; simp)) hlt) (fun c hc => ?_)⟩
   ·simp only [evAppend, hsy, hte, hi, hz, hel, he, hx2]
    rw [if_neg (by simp), if_neg (by simp), if_pos ⟨h0', hzn, hzt⟩, if_neg (by simp), if_neg (by omega), if_pos ⟨trivial, hlx.symm, by rw [hly]; exact c1, by rw [hly]; exact c2⟩]
    simp [hly]
   ·rw [List.getElem?_append_right (by simp)]; simp
   ·have : h.length < h.length := hlt _ (by
     rcases List.mem_append.1 hb with hb | hb
     ·exact List.mem_append_left _ (List.mem_cons_of_mem _ hb)
     ·exact List.mem_append_right _ hb)
    omega
   ·exact nodup_app.2 ⟨(List.nodup_cons.1 n1).2, n2, fun a ha ha2 => n3 a (List.mem_cons_of_mem _ ha) ha2⟩
   ·rcases List.mem_cons.1 hc with rfl | hc
    ·exact .inr (Nat.le_refl _)
    ·rcases List.mem_append.1 hc with h1 | h1
     ·exact .inl (List.mem_append_left _ (List.mem_cons_of_mem _ h1))
     ·exact .inl (List.mem_append_right _ h1)
theorem app_own {bytes : Nat} {i : TypeInfo} {z : AV} (ht : T h (own_ (ocL k t o) e xs :: own_ (ocL k t o) y ys :: L)) (hu : P.underlying ty2 = some (.slice el)) (hte : tyElem P ty = some t) (hi : P.info? t = some i) (hz : tyZero P t = some z) (hk : i.size = k) (h0 : Nat.blt 0 k = true) (hzn : z.nc = k) (hzt : z.notTp = true) (hib : i.bytes = bytes) (hc : capOk bytes (xs.length + ys.length) = true) :
  ∃ e' h', evAppend P h ty ty2 e y = some (e', h') ∧ T h' (own_ (ocL k t o) e' (xs ++ ys) :: L) := by
 obtain ⟨ey, h1, h2, h3⟩ := els_own (ht.front 1 rfl) hu
 exact app_gen (h1.front 1 rfl) h3 h2 hte hi hz hk h0 hzn hzt hib hc
/-- A block of elements. -/
theorem new_own {es : List AV} {n : Nat} (ht : T h (els o es xs :: L)) (hn : xs.length = n) : T (h ++ [some ⟨k, t, es, false⟩]) (own_ (ocL k t o) (.rf h.length 0 n n) xs :: L) := by
 obtain ⟨F, p, hn', hk, _⟩ := ht.act
 have hlt : ∀ c, c ∈ F → c < h.length := fun c hc => by
  obtain ⟨B, q, _⟩ := (els o es xs).own p hc
  exact get_lt q
 refine hk _ _ (h.length :: F) (.inr ⟨h.length, es, F, by rw [hn], by simp, rfl, All3.mono p fun e x G hG h5 => o.loc h5 fun c hc => List.getElem?_append_left (hlt c (hG c hc))⟩) (List.nodup_cons.2 ⟨fun hb => by have := hlt _ hb; omega, hn'⟩) (fun c _ hc => List.getElem?_append_left hc) (fun c hc => ?_)
 rcases List.mem_cons.1 hc with rfl | hc
 ·exact .inr (Nat.le_refl _)
 ·exact .inl hc
def enumA (i : Nat) : List AV → List (Nat × AV)
 | [] => []
 | e :: r => (i, e) :: enumA (i + 1) r
theorem fillA_all {z : AV} (hz : z.nc = k) : ∀ {es pre : List AV}, (∀ e ∈ es, e.nc = k ∧ e.notTp = true ∧ elm e.cel = e) → fillA (pre ++ List.replicate es.length z) k (enumA pre.length es) = some (pre ++ es)
 | [], pre, _ => by simp [enumA, fillA]
 | e :: r, pre, hf => by
  obtain ⟨h1, h2, h3⟩ := hf e (by simp)
  have := fillA_all hz (es := r) (pre := pre ++ [e]) (fun e' he => hf e' (by simp [he]))
  simp only [enumA, fillA, List.length_cons, List.replicate_succ]
  rw [if_pos ⟨by simp, h1, h2⟩, h3]
  have e1 : (pre ++ z :: List.replicate r.length z).set pre.length e = (pre ++ [e]) ++ List.replicate r.length z := by simp
  rw [e1]
  simpa using this
theorem lit_own {i : TypeInfo} {z : AV} {es : List AV} {n : Nat} (hf : Fit o k) (ht : T h (els o es xs :: L)) (hn : es.length = n) (hte : tyElem P ty = some t) (hi : P.info? t = some i) (hz : tyZero P t = some z) (hk : i.size = k) (h0 : Nat.blt 0 k = true) (hb : Nat.ble (n * k) 65536 = true) (hzn : z.nc = k) (hzt : z.notTp = true) (hze : elm z.cel = z) :
  ∃ e' h', evLit P h ty n (enumA 0 es) = some (e', h') ∧ T h' (own_ (ocL k t o) e' xs :: L) := by
 obtain ⟨F, p, _⟩ := ht.act
 have hl : es.length = xs.length := All3.len p
 have := fillA_all hzn (es := es) (pre := []) (All3.fit hf p)
 subst hn
 simp only [List.nil_append, List.length_nil] at this
 refine ⟨_, _, ?_, new_own ht hl.symm⟩
 simp only [evLit, hte, hi, hz, hk, hze]
 rw [if_pos ⟨Nat.le_of_ble_eq_true hb, Nat.le_of_ble_eq_true h0, hzn, hzt⟩, this]
theorem make_own {i : TypeInfo} {z : AV} {bytes : Nat} {n : Int} {kn kc : IntKind} {x0 : α} (ht : T h L) (hx : ∀ h, o.at_ h z x0 []) (hte : tyElem P ty = some t) (hi : P.info? t = some i) (hz : tyZero P t = some z) (hk : i.size = k) (hzn : z.nc = k) (hzt : z.notTp = true) (hib : i.bytes = bytes) (hc : mkOk bytes n = true) :
  ∃ e' h', evMake P h ty (.v (.int kn n)) (.v (.int kc n)) = some (e', h') ∧ T h' (own_ (ocL k t o) e' (List.replicate n.toNat x0) :: L) := by
 simp only [mkOk, Bool.and_eq_true, decide_eq_true_eq] at hc
 subst hk hib
 have ha : ∀ m, All3 (o.at_ h) (List.replicate m z) (List.replicate m x0) [] := fun m => by
  induction m with
  | zero => exact rfl
  | succ m ih => exact ⟨[], [], rfl, hx h, ih⟩
 have ht' : T h (els o (List.replicate n.toNat z) (List.replicate n.toNat x0) :: L) := ht.add (F := []) (ha _) List.nodup_nil (fun _ _ => rfl) (fun _ h => by cases h)
 refine ⟨_, _, ?_, new_own ht' (List.length_replicate)⟩
 simp only [evMake, hte, intOfA, hi, hz]
 rw [if_pos ⟨trivial, hc.1.1, hc.1.2, hc.2, hzn, hzt⟩]
/-- A cell of its own is made, read, written. -/
theorem box_cel {a : AV} (ht : T h L) (hn : a.notTp = true) : ∃ p h', evBox h t a = some (p, h') ∧ T h' (cel p a.nc t a :: L) := by
 refine ⟨.pt h.length 0 0, h ++ [some ⟨a.nc, t, [a], false⟩], by simp [evBox, hn], ht.add (F := [h.length]) ⟨h.length, rfl, rfl, by simp⟩ (by simp) (fun b hb => List.getElem?_append_left hb) (fun b hb => by simp at hb; omega)⟩
theorem ld_cel {p a : AV} (ht : T h (cel p k t a :: L)) (hm : tySize P ty = some m) (hg : tyAgg P ty = some g) (he : getE a off m g = some y) : evLoad P h ty (pOff p off) = some y := by
 obtain ⟨F, ⟨b, rfl, rfl, h2⟩, _⟩ := ht.act
 simp [evLoad, hm, hg, pOff, h2, he]
theorem ld_cel0 {p a : AV} (ht : T h (cel p k t a :: L)) (hm : tySize P ty = some m) (hg : tyAgg P ty = some g) (he : getE a 0 m g = some y) : evLoad P h ty p = some y := by
 have := ld_cel (off := 0) ht hm hg he
 obtain ⟨F, ⟨b, rfl, rfl, h2⟩, _⟩ := ht.act
 exact this
theorem st_cel {p a a' : AV} (ht : T h (cel p k t a :: L)) (hs : tySize P ty = some y.nc) (hn : y.notTp = true) (he : setE a off y = some a') : ∃ h', evStore P h ty (pOff p off) y = some h' ∧ T h' (cel p k t a' :: L) := by
 obtain ⟨F, ⟨b, rfl, rfl, h2⟩, hn', hk, _⟩ := ht.act
 have hb := get_lt h2
 refine ⟨h.set b (some ⟨k, t, [a'], false⟩), by simp [evStore, pOff, h2, hs, hn, he], hk _ _ [b] ⟨b, rfl, rfl, by simp [hb]⟩ (by simp) (fun c hc _ => ?_) (fun c hc => .inl hc)⟩
 rw [List.getElem?_set, if_neg (by intro e; subst e; simp at hc)]
theorem st_cel0 {p a a' : AV} (ht : T h (cel p k t a :: L)) (hs : tySize P ty = some y.nc) (hn : y.notTp = true) (he : setE a 0 y = some a') : ∃ h', evStore P h ty p y = some h' ∧ T h' (cel p k t a' :: L) := by
 have := st_cel (off := 0) ht hs hn he
 obtain ⟨F, ⟨b, rfl, rfl, h2⟩, _⟩ := ht.act
 exact this
theorem fld_cel {p a : AV} {fs : Array Field} {fd : Field} {f q : Nat} (ht : T h (cel p k t a :: L)) (hu : P.underlying ty = some (.struct fs)) (hf : fs[f]? = some fd) (hs : tySize P fd.type = some (q + 1)) : evFieldAddr P ty p f = some (pOff p fd.offset) := by
 obtain ⟨F, ⟨b, rfl, rfl, h2⟩, _⟩ := ht.act
 simp [evFieldAddr, hu, hf, hs, pOff]
theorem fld_own {n : Nat} {fs : Array Field} {fd : Field} {f q : Nat} (ht : T h (own_ (ocL k t o) e xs :: L)) (hv : xs[n]? = some v) (hu : P.underlying ty = some (.struct fs)) (hf : fs[f]? = some fd) (hs : tySize P fd.type = some (q + 1)) : evFieldAddr P ty (eAt e n) f = some (pOff (eAt e n) fd.offset) := by
 obtain ⟨F, p, _⟩ := ht.act
 rcases p with ⟨rfl, rfl, _⟩ | ⟨b, es, F', rfl, h2, _⟩
 ·simp at hv
 ·simp [evFieldAddr, hu, hf, hs, pOff, eAt]
theorem nil_own {n : Nat} (ht : T h (own_ (ocL k t o) e xs :: L)) (hv : xs[n]? = some v) : ∃ b i, eAt e n = .pt b i 0 := by
 obtain ⟨F, p, _⟩ := ht.act
 rcases p with ⟨rfl, rfl, _⟩ | ⟨b, es, F', rfl, h2, _⟩
 ·simp at hv
 ·exact ⟨b, _, rfl⟩
end
/-- What is own is written no more: it is a value as others. -/
def killF (F : List Nat) (h : Hp) : Hp := h.mapIdx fun i B => if i ∈ F then none else B
theorem killF_get {F : List Nat} {h : Hp} {b : Nat} {B : Blk} : (killF F h)[b]? = some (some B) ↔ b ∉ F ∧ h[b]? = some (some B) := by
 simp only [killF, List.getElem?_mapIdx]
 constructor
 ·intro hh
  obtain ⟨o, h1, h2⟩ := Option.map_eq_some_iff.1 hh
  split at h2
  ·cases h2
  ·next hb => exact ⟨hb, by rw [h1, h2]⟩
 ·rintro ⟨h1, h2⟩
  rw [h2]; simp [h1]
theorem killF_same {F : List Nat} {h : Hp} {b : Nat} (hb : b ∉ F) : (killF F h)[b]? = h[b]? := by
 simp only [killF, List.getElem?_mapIdx]
 cases h[b]? <;> simp [hb]
section
variable {E : Env} {n : Nat} {l l' : List (Nat × AV)} {hp : Hp} {α : Type} {o : Oc α} {e : AV} {x : α} {L : List Asn}
theorem WkY.frzT (ht : T hp (own_ o e x :: L)) (hl : ∀ t y, lk l' t = some y → lk l t = some y ∨ (lk l t = some e ∧ y = o.cd.enc x)) : ∃ hp', WkY E ⟨Fr n l, hp⟩ ⟨Fr n l', hp'⟩ ∧ T hp' L := by
 obtain ⟨F, p, hn', _, hk⟩ := ht.act
 refine ⟨killF F hp, fun base w Z R a sr => ?_, hk _ fun b hb _ => killF_same hb⟩
 have hown : ∀ c, (∃ b ∈ F, ∃ r, R[b]? = some r ∧ c = r.c) → own R hp c := fun c ⟨b, hb, r, hr, hc⟩ => by
  obtain ⟨B, k1, k2⟩ := o.own p hb
  exact ⟨b, B, r, k1, k2, hr, hc.symm⟩
 have hown' : ∀ c, own R (killF F hp) c → own R hp c := fun c ⟨b, B, r, h1, h2, h3, h4⟩ => ⟨b, B, r, (killF_get.1 h1).2, h2, h3, h4⟩
 have hzo : ∀ c, (Z c ∨ ∃ b ∈ F, ∃ r, R[b]? = some r ∧ c = r.c) → Z c ∨ own R hp c := fun c hc => hc.imp_right (hown c)
 have up' : ∀ {x : AV} {u : Value} {R' : List RI}, VR w Z R' x u → VR w (fun c => Z c ∨ ∃ b ∈ F, ∃ r, R[b]? = some r ∧ c = r.c) R' x u := fun hv => hv.mono (fun _ _ => rfl) (fun _ h => .inl h) (fun _ _ h => h)
 refine ⟨fun c => Z c ∨ ∃ b ∈ F, ∃ r, R[b]? = some r ∧ c = r.c, R, ⟨⟨by simp [killF, sr.hh.len], fun b B hB => ?_, fun b b' B B' r r' h1 f1 h2 f2 g1 g2 e => ?_, fun c hc => ?_⟩, ⟨?_, fun t x hx => ?_⟩, ?_, fun g x hx => up' (sr.gl g x hx), sr.bs⟩, ⟨rfl, rfl, rfl, Nat.le_refl _, fun _ _ _ => rfl, fun c hc => .inl (hown' c hc), fun _ h => .inl h, fun c hc => (hzo c hc).imp_right .inl, fun _ _ h => h⟩⟩
 ·obtain ⟨hb, hB⟩ := killF_get.1 hB
  obtain ⟨r, arr, us, g1, g2, g3, g4, g5, g6, g7, g8, g9, g10⟩ := sr.hh.blk b B hB
  refine ⟨r, arr, us, g1, g2, g3, g4, g5, g6, fun hf => .inl (g7 hf), fun hf hc => ?_, ⟨g9.len, fun i x u hx hu => up' (g9.at_ i x u hx hu)⟩, g10⟩
  rcases hc with hc | ⟨b', hb', r', hr', hc⟩
  ·exact g8 hf hc
  ·obtain ⟨B', k1, k2⟩ := o.own p hb'
   have := sr.hh.inj b b' B B' r r' hB hf k1 k2 g1 hr' hc
   exact hb (this ▸ hb')
 ·exact sr.hh.inj b b' B B' r r' (killF_get.1 h1).2 f1 (killF_get.1 h2).2 f2 g1 g2 e
 ·rcases hzo c hc with hc | ⟨b, B, r, k1, _, k3, k4⟩
  ·exact sr.hh.zlt c hc
  ·exact k4 ▸ sr.hh.rltL k1 k3
 ·rw [Fr_len]; have := sr.fr.1; rw [Fr_len] at this; exact this
 ·rw [Fr_get] at hx
  split at hx
  ·next ht =>
   injection hx with hx
   rcases hl t x hx with h1 | ⟨h1, rfl⟩
   ·exact up' (sr.fr.2 t x (by rw [Fr_get, if_pos ht, h1]))
   ·exact (o.vr sr.hh p (sr.fr.2 t e (by rw [Fr_get, if_pos ht, h1]))).up
  ·cases hx
 ·have : ∀ {D : List Deferred}, Mks base w Z R hp D → Mks base w (fun c => Z c ∨ ∃ b ∈ F, ∃ r, R[b]? = some r ∧ c = r.c) R (killF F hp) D := by
   intro D
   induction D with
   | nil => intro _; trivial
   | cons d D ih => exact fun ⟨⟨q, h1, h2, h3, h4, h5, h6⟩, hD⟩ => ⟨⟨q, h1, h2, h3, fun hc => (hzo q hc).elim h4 h5, fun ho => h5 (hown' q ho), h6⟩, ih hD⟩
  exact this sr.mks
/-- Slots that stay, and slots that turn. -/
def LkT (l : List (Nat × AV)) (e y : AV) : List (Nat × AV) → Prop
 | [] => True
 | (t, z) :: r => (lk l t = some z ∨ (lk l t = some e ∧ z = y)) ∧ LkT l e y r
theorem LkT.at_ {e y : AV} : ∀ {l' : List (Nat × AV)}, LkT l e y l' → ∀ t z, lk l' t = some z → lk l t = some z ∨ (lk l t = some e ∧ z = y)
 | [], _, t, z, h => by cases h
 | (k, z0) :: r, ⟨h1, h2⟩, t, z, h => by
  rw [lk_put] at h
  split at h
  ·next hk => injection h with h; subst hk h; exact h1
  ·exact h2.at_ t z h
/-- Values as a call sees them. -/
def SeeV (hp : Hp) (x y : AV) : Prop := ∀ (w : World) (Z : Nat → Prop) (R : List RI) (u : Value), HR w Z R hp → VR w Z R x u → VR w (fun c => Z c ∨ own R hp c) [] y u
def Sees (hp : Hp) (xs ys : List AV) : Prop := ∀ (w : World) (Z : Nat → Prop) (R : List RI) (us : List Value), HR w Z R hp → VRs w Z R xs us → VRs w (fun c => Z c ∨ own R hp c) [] ys us
theorem Sees.nil : Sees hp [] [] := fun w Z R us _ h => by
 have : us = [] := by have := h.len; simpa using this
 subst this
 exact .nil
theorem Sees.cons {x y : AV} {xs ys : List AV} (h : SeeV hp x y) (hs : Sees hp xs ys) : Sees hp (x :: xs) (y :: ys) := fun w Z R us hh hv => by
 obtain ⟨u, us', rfl, hu, hn⟩ := hv.head
 exact .cons (h w Z R u hh hu) (hs w Z R us' hh hn)
theorem SeeV.id {x : AV} (hx : noRf2 x = true) : SeeV hp x x := fun _w _Z _R _u _ hv => (noRf2_vr hx hv).mono (fun _ _ => rfl) (fun _ h => .inl h) (fun _ _ h => h)
theorem SeeV.enc {c : Cd α} : SeeV hp (c.enc x) (c.enc x) := .id (c.nr x)
theorem SeeV.own {i : Nat} (ht : T hp L) (hi : L[i]? = some (own_ o e x)) : SeeV hp e (o.cd.enc x) := fun w Z R u hh hv => by
 obtain ⟨F, p, _⟩ := (ht.front i hi).act
 refine (o.vr hh p hv).mono (fun _ _ => rfl) (fun c hc => hc.imp_right fun ⟨b, hb, r, hr, hc⟩ => ?_) (fun _ _ h => h)
 obtain ⟨B, k1, k2⟩ := o.own p hb
 exact ⟨b, B, r, k1, k2, hr, hc.symm⟩
theorem SeeV.ag {cs cs' : List AV} (hs : Sees hp cs cs') : SeeV hp (.ag cs) (.ag cs') := fun w Z R u hh hv => by
 cases hv with
 | ag hl h1 hx =>
  have := hs w Z R _ hh ⟨hl, hx⟩
  exact .ag this.len h1 this.at_
end
/-- The operations that are left, one by one, in the caller's blocks. -/
def RunL (E : Env) (cx : Cx) (ops : Array Oper) (rest : List Oper) (s : St) (K : St → Prop) : Prop :=
 ∀ (ro : Option Nat) (base : Nat) (Q : Act → World → Prop) (a : Act) (w : World) (Z : Nat → Prop) (R : List RI), (cx.inR = false → ro = none) → SR E base w Z R s a → YI cx w Z R s.hp →
  (∀ s' a' w' Z' R', K s' → SR E base w' Z' R' s' a' → Step w Z R s.hp w' Z' R' s'.hp → Q a' w') → LwL E.P ops Q rest a w
section
variable {E : Env} {cx : Cx} {ops : Array Oper} {pre rest rest' : List Oper} {s s1 : St} {K : St → Prop} {n m : Nat} {l l' : List (Nat × AV)} {hp hp' : Hp} {Q : Ex → St → Prop} {id : Nat}
theorem RunL.done (hr : rest = []) (k : K s) : RunL E cx ops rest s K := by
 subst hr
 exact fun ro base Q a w Z R _ sr _ q => q s a w Z R k sr (Step.refl _ _ _ _)
theorem RunL.mono {K' : St → Prop} (h : RunL E cx ops rest s K) (k : ∀ s, K s → K' s) : RunL E cx ops rest s K' := fun ro base Q a w Z R h1 h2 h3 q => h ro base Q a w Z R h1 h2 h3 fun s' a' w' Z' R' hK => q s' a' w' Z' R' (k s' hK)
theorem RunL.app (hE : EnvOk E) (n : Nat) : ∀ {pre : List Oper} {s : St}, opsA E (evC E n) ⟨none, false⟩ ops pre s = some s1 → RunL E cx ops rest s1 K → RunL E cx ops (pre ++ rest) s K
 | [], s, e, k => by injection e with e; subst e; exact k
 | o :: pre, s, e, kk => by
  intro ro base Q a w Z R hro sr hy q
  show LwL E.P ops Q (o :: (pre ++ rest)) a w
  unfold opsA at e
  unfold LwL
  split at e
  ·cases e
  ·next hw =>
   rw [if_neg (by rw [wantedA_eq sr hw]; simp)]
   exact RunL.app hE n e kk ro base Q _ w Z R hro (sr.put undef_vr) hy q
  ·next hw =>
   rw [if_pos (wantedA_eq sr hw)]
   split at e
   ·next s2 hs2 => exact op1_lw hE (code_sound hE n).1 hs2 sr fun a' w' Z' R' sr' st => RunL.app hE n e kk ro base Q a' w' Z' R' hro sr' (hy.step sr.hh st) fun s'' a'' w'' Z'' R'' hK sr'' st' => q s'' a'' w'' Z'' R'' hK sr'' (st.trans st')
   ·cases e
theorem RunL.seg (hE : EnvOk E) (m : Nat) (h : opsA E (evC E 0) ⟨none, false⟩ ops (rest.take m) s = some s1) (k : RunL E cx ops (rest.drop m) s1 K) : RunL E cx ops rest s K := by
 have := RunL.app hE 0 h k
 rwa [List.take_append_drop] at this
theorem RunL.segF (hE : EnvOk E) (m : Nat) {s : St} (l : List (Nat × AV)) (hp : Hp) (h : segB (opsA E (evC E 0) ⟨none, false⟩ ops (rest.take m) s) l = some (n, xs2 l, hp)) (k : RunL E cx ops (rest.drop m) ⟨Fr n l, hp⟩ K) : RunL E cx ops rest s K := by
 obtain ⟨fr, h1, h2, h3⟩ := segB_inv h
 refine RunL.seg hE m h1 ?_
 exact fun ro base Q a w Z R hro sr hy q => k ro base Q a w Z R hro (sr.forget h2 h3) hy q
theorem RunL.one (hE : EnvOk E) (n : Nat) {o : Oper} (hr : rest = o :: rest') (h : opsA E (evC E n) ⟨none, false⟩ ops [o] s = some s1) (k : RunL E cx ops rest' s1 K) : RunL E cx ops rest s K := by
 subst hr
 exact RunL.app hE n (pre := [o]) h k
theorem RunL.store (hE : EnvOk E) {t : TypeId} {p q : Operand} {y z : AV} {ty : TypeId} {pos : String} {af : Array Edge} {g : Option (Nat × Bool)} (hr : rest = ⟨none, .store t p q, ty, pos, af, g⟩ :: rest') (hw : wantedA ops (Fr n l) ⟨none, .store t p q, ty, pos, af, g⟩ = some true) (hp1 : opA E (Fr n l) p = some y) (hq1 : opA E (Fr n l) q = some z) (h : evStore E.P hp t y z = some hp') (k : RunL E cx ops rest' ⟨Fr n l, hp'⟩ K) : RunL E cx ops rest ⟨Fr n l, hp⟩ K :=
 RunL.one hE 0 hr (op_st hw hp1 hq1 h) k
theorem SemY.regionL (h : RunL E cx ops ops.toList s fun s' => Q .normal s') : SemY E cx (.region id ops false) s Q := by
 intro ro base Qm a w Z R h1 h2 h3 kk
 exact wpIn_region_list (lwl_list ro (h ro base _ a w Z R h1 h2 h3 fun s' a' w' Z' R' hq sr st => kk .normal s' a' w' Z' R' hq sr st))
end
section
variable {E : Env} {cx : Cx} {ops : Array Oper} {rest rest' : List Oper} {K : St → Prop} {n : Nat} {l : List (Nat × AV)} {hp : Hp}
/-- A call that is told, of arguments that may be own. -/
theorem RunL.callT {α β : Type} {s : Cs α} {F : α → Option β} {er : β → AV} {a : α} {b : β} {xs ys : List AV} (hE : EnvOk E) {d : Nat} {f : Operand} {args : Array Operand} {tys : Array TypeId} {ty : TypeId} {pos : String} {af : Array Edge} {g : Option (Nat × Bool)} {fid : FuncId} (hr : rest = ⟨some d, .call ⟨.value f, args, tys⟩, ty, pos, af, g⟩ :: rest') (hw : wantedA ops (Fr n l) ⟨some d, .call ⟨.value f, args, tys⟩, ty, pos, af, g⟩ = some true)
  (hf : opA E (Fr n l) f = some (.fn fid [] [])) (hX : E.X fid = some (told s F er)) (ha : opds (opA E (Fr n l)) args.toList = some xs) (hv : Sees hp xs ys) (hd : s.dec ys = some a) (hok : xs.all noRf2 = true ∧ xs = ys ∨ flatTp (er b) = true) (hF : F a = some b) (k : RunL E cx ops rest' ⟨Fr n ((d, er b) :: l), hp⟩ K) : RunL E cx ops rest ⟨Fr n l, hp⟩ K := by
 subst hr
 intro ro base Q aa w Z R hro sr hy q
 have hρ : ∀ o x, opA E (Fr n l) o = some x → VR w Z R x (aa.eval o) := fun o x e => opA_vr sr o x e
 unfold LwL
 rw [if_pos (wantedA_eq sr hw)]
 have hvf := hρ _ _ hf
 generalize hvq : aa.eval f = vf at hvf
 cases hvf with
 | fn hl hl' hx hy' =>
  rename_i u1 u2
  have e1 : u1 = [] := by simpa using hl
  have e2 : u2 = [] := by simpa using hl'
  subst e1 e2
  obtain ⟨hcl, hXs⟩ := hE.X fid _ hX
  have htold : told s F er ys = some (er b) := told_dec hd hF
  have hvs := opds_vr hρ ha
  unfold Lw
  rw [run_call (uf := []) (uc := []) rfl hvq rfl hcl w]
  simp only [List.nil_append, List.append_nil]
  have go : ∀ (w' : World) (Z' : Nat → Prop) (R' : List RI) (v : Value), HR w' Z' R' hp → VR w' Z' R' (er b) v → Step w Z R hp w' Z' R' hp → LwL E.P ops Q rest' (aa.put (some d) v) w' := fun w' Z' R' v k1 k2 st => by
   have sr' := (sr.step k1 st).put (d := some d) k2
   rw [show putA (⟨Fr n l, hp⟩ : St).fr (some d) (er b) = Fr n ((d, er b) :: l) from putA_Fr n l d _] at sr'
   exact k ro base Q _ w' Z' R' hro sr' (hy.step sr.hh st) fun s' a' w'' Z'' R'' hK sr'' st' => q s' a' w'' Z'' R'' hK sr'' (st.trans st')
  rcases hok with ⟨h1, h2⟩ | h1
  ·subst h2
   refine Ret.mono (hXs _ _ htold w _ _ sr.hh.zlt sr.gl (noRfs_vr h1 hvs)) fun v w' ⟨hs, hv'⟩ => ?_
   obtain ⟨k1, k2⟩ := sr.hh.addZ hs
   exact go w' _ R v k1 hv'.up k2
  ·have hz1 : ∀ c, (Z c ∨ own R hp c) → c < w.heap.size := fun c hc => hc.elim (sr.hh.zlt c) (fun ⟨b, B, r, h1, _, h3, h4⟩ => h4 ▸ sr.hh.rltL h1 h3)
   have hg1 : GI E w (fun c => Z c ∨ own R hp c) := fun q y hy => (sr.gl q y hy).mono (fun _ _ => rfl) (fun _ h => .inl h) (fun _ _ h => h)
   refine Ret.mono (hXs _ _ htold w _ _ hz1 hg1 (hv w Z R _ sr.hh hvs)) fun v w' ⟨hs, hv'⟩ => ?_
   exact go w' Z R v (sr.hh.keep hs.size (fun c hc => hs.block c hc (by simp))) (flat_vr h1 hv') ⟨hs.os, hs.tape, hs.output, hs.size, fun c hc _ => hs.block c hc (by simp), fun _ h => .inl h, fun _ h => h, fun _ h => .inl h, fun _ _ h => h⟩
/-- A call that is gone through in the caller's blocks. -/
theorem RunL.inlT (hP : E.P = E0.P) (hG : E.G = E0.G) {e : Env} (he : EnvOk e) (heP : e.P = E0.P) (heG : e.G = E0.G) {d : Nat} {f : Operand} {args : Array Operand} {tys : Array TypeId} {ty : TypeId} {pos : String} {af : Array Edge} {g : Option (Nat × Bool)} {fid : FuncId} {caps xs : List AV} {fn : Func} {c : Code} {Out : AV → Hp → Prop} (hr : rest = ⟨some d, .call ⟨.value f, args, tys⟩, ty, pos, af, g⟩ :: rest') (hw : wantedA ops (Fr n l) ⟨some d, .call ⟨.value f, args, tys⟩, ty, pos, af, g⟩ = some true)
  (hf : opA E (Fr n l) f = some (.fn fid [] caps)) (ha : opds (opA E (Fr n l)) args.toList = some xs) (hfn : e.fn fid = some fn) (hc : fn.body = some c) (hle : (xs ++ caps).length ≤ fn.ntmps)
  (sem : SemY e ⟨none, false⟩ c ⟨Fr fn.ntmps (pairs0 0 (xs ++ caps)), hp⟩ fun x s' => (x = .normal ∨ x = .ret) ∧ ∃ ys, resA e.P s'.fr s'.hp fn.results.toList = some ys ∧ Out (retA ys) s'.hp)
  (k : ∀ x h', Out x h' → RunL E cx ops rest' ⟨Fr n ((d, x) :: l), h'⟩ K) : RunL E cx ops rest ⟨Fr n l, hp⟩ K := by
 obtain ⟨P, fns, G, X, I⟩ := E
 obtain ⟨P', fns', G', X', I'⟩ := e
 simp only at hP hG heP heG
 subst hP hG heP heG
 subst hr
 intro ro base Q a w Z R hro sr hy q
 have hρ : ∀ o x, opA ⟨E0.P, fns, E0.G, X, I⟩ (Fr n l) o = some x → VR w Z R x (a.eval o) := fun o x e => opA_vr sr o x e
 unfold LwL
 rw [if_pos (wantedA_eq sr hw)]
 have hvf := hρ _ _ hf
 generalize hvq : a.eval f = vf at hvf
 cases hvf with
 | fn hl hl' hx hy' =>
  rename_i u1 u2
  have e1 : u1 = [] := by simpa using hl
  subst e1
  obtain ⟨hff, hcall, _⟩ := he.fn fid fn hfn
  unfold Lw
  rw [run_call (uf := []) (uc := u2) rfl hvq rfl hcall w]
  simp only [List.nil_append]
  have hargs : VRs w Z R (xs ++ caps) (args.toList.map a.eval ++ u2) := (opds_vr hρ ha).append ⟨hl', hy'⟩
  refine Ret.mono (ret_semY he hfn hc hle sem sr.hh hargs sr.gl (fun y hy => by cases hy)) fun v w' hS => ?_
  obtain ⟨Z', R', x, h', hO, h1, h2, st⟩ := hS
  have sr' := (sr.step h1 st).put (d := some d) h2
  rw [show putA (⟨Fr n l, hp⟩ : St).fr (some d) x = Fr n ((d, x) :: l) from putA_Fr n l d _] at sr'
  exact k x h' hO ro base Q _ w' Z' R' hro sr' (hy.step sr.hh st) fun s' a' w'' Z'' R'' hK sr'' st' => q s' a' w'' Z'' R'' hK sr'' (st.trans st')
/-- A call that hands back own blocks. -/
theorem RunL.callS (hP : E.P = E0.P) (hG : E.G = E0.G) {d : Nat} {f : Operand} {args : Array Operand} {tys : Array TypeId} {ty : TypeId} {pos : String} {af : Array Edge} {g : Option (Nat × Bool)} {fid : FuncId} {xs ys : List AV} {Out : AV → Hp → Prop} (hs : SOk fid ys Out) (hr : rest = ⟨some d, .call ⟨.value f, args, tys⟩, ty, pos, af, g⟩ :: rest') (hw : wantedA ops (Fr n l) ⟨some d, .call ⟨.value f, args, tys⟩, ty, pos, af, g⟩ = some true)
  (hf : opA E (Fr n l) f = some (.fn fid [] [])) (ha : opds (opA E (Fr n l)) args.toList = some xs) (hv : Sees hp xs ys) (hfl : ∀ x h', Out x h' → ownFlat x = true ∧ flatH h' = true) (k : ∀ x h', Out x h' → RunL E cx ops rest' ⟨Fr n ((d, shN hp.length x) :: l), hp ++ h'⟩ K) : RunL E cx ops rest ⟨Fr n l, hp⟩ K := by
 obtain ⟨P, fns, G, X, I⟩ := E
 simp only at hP hG
 subst hP hG
 subst hr
 intro ro base Q a w Z R hro sr hy q
 have hρ : ∀ o x, opA ⟨E0.P, fns, E0.G, X, I⟩ (Fr n l) o = some x → VR w Z R x (a.eval o) := fun o x e => opA_vr sr o x e
 unfold LwL
 rw [if_pos (wantedA_eq sr hw)]
 have hva : a.eval f = .func (.func fid) ([] : List Value).toArray ([] : List Value).toArray := by
  have := hρ _ _ hf
  generalize a.eval f = vf at this
  cases this with
  | fn hl hl' hx hy =>
   rename_i u1 u2
   have e1 : u1 = [] := by simpa using hl
   have e2 : u2 = [] := by simpa using hl'
   subst e1 e2; rfl
 unfold Lw
 rw [run_call (uf := []) (uc := []) rfl hva rfl hs.1 w]
 simp only [List.nil_append, List.append_nil]
 have hz1 : ∀ c, (Z c ∨ own R hp c) → c < w.heap.size := fun c hc => hc.elim (sr.hh.zlt c) (fun ⟨b, B, r, h1, _, h3, h4⟩ => h4 ▸ sr.hh.rltL h1 h3)
 have hg1 : GI E0 w (fun c => Z c ∨ own R hp c) := fun q y hy => (sr.gl q y hy).mono (fun _ _ => rfl) (fun _ h => .inl h) (fun _ _ h => h)
 refine Ret.mono (hs.2 w _ _ hz1 hg1 (hv w Z R _ sr.hh (opds_vr hρ ha))) fun v w' hS => ?_
 obtain ⟨Z', R', x, h', hO, h1, h2, st⟩ := hS
 obtain ⟨f1, f2⟩ := hfl x h' hO
 obtain ⟨j1, j2⟩ := sr.hh.join hz1 st h1 f2
 have hlen : R.length = hp.length := sr.hh.len
 have hx := shN_vr (w := w') (Z' := Z) (R := R) hlen f1 h2
 have sr' := (sr.step j1 j2).put (d := some d) hx
 rw [show putA (⟨Fr n l, hp⟩ : St).fr (some d) (shN hp.length x) = Fr n ((d, shN hp.length x) :: l) from putA_Fr n l d _] at sr'
 exact k x h' hO ro base Q _ w' Z (R ++ R') hro sr' (hy.step sr.hh j2) fun s' a' w'' Z'' R'' hK sr'' st' => q s' a' w'' Z'' R'' hK sr'' (j2.trans st')
theorem RunL.wk {s s1 : St} (hw : WkY E s s1) (h : RunL E cx ops rest s1 K) : RunL E cx ops rest s K := fun ro base Q a w Z R hro sr hy q => by
 obtain ⟨Z', R', sr', st⟩ := hw base w Z R a sr
 exact h ro base Q a w Z' R' hro sr' (hy.step sr.hh st) fun s' a' w' Z2 R2 hK sr2 st2 => q s' a' w' Z2 R2 hK sr2 (st.trans st2)
/-- What a part did, told by states for each way out. -/
theorem SemY.cutT {c : Code} {s : St} {Q : Ex → St → Prop} {e0 : Ex} {A : St → Prop} (h : SemY E cx c s fun e s' => e = e0 ∧ ∃ s2, A s2 ∧ WkY E s' s2) (q : ∀ s2, A s2 → Q e0 s2) : SemY E cx c s Q := by
 intro ro base Qm a w Z R h1 h2 h3 k
 refine h ro base Qm a w Z R h1 h2 h3 fun e s' a' w' Z' R' hQ sr st => ?_
 obtain ⟨rfl, s2, hA, hw⟩ := hQ
 obtain ⟨Z2, R2, sr2, st2⟩ := hw base w' Z' R' a' sr
 exact k e s2 a' w' Z2 R2 (q s2 hA) sr2 (st.trans st2)
theorem SemYN.cutT {c : Code} {s : St} {Q : Ex → St → Prop} {e0 : Ex} {A : St → Prop} {m : Nat} (h : SemYN E cx c m s fun e s' => e = e0 ∧ ∃ s2, A s2 ∧ WkY E s' s2) (q : ∀ s2, A s2 → Q e0 s2) : SemYN E cx c m s Q := by
 intro ro base Qm a w Z R h1 h2 h3 k
 refine h ro base Qm a w Z R h1 h2 h3 fun e s' a' w' Z' R' hQ sr st => ?_
 obtain ⟨rfl, s2, hA, hw⟩ := hQ
 obtain ⟨Z2, R2, sr2, st2⟩ := hw base w' Z' R' a' sr
 exact k e s2 a' w' Z2 R2 (q s2 hA) sr2 (st.trans st2)
theorem Sem.ofY {c : Code} {s : St} {Q : Ex → St → Prop} (h : SemY E cx c s Q) : Sem E cx c s Q :=
 fun ro base Qm a w Z R h1 h2 h3 k => h ro base Qm a w Z R h1 h2 (fun y hy => by rw [h3] at hy; cases hy) fun e s' a' w' Z' R' hQ sr st => k e s' a' w' Z' R' hQ sr st.w
end
def RunDY (E : Env) (ops : Array Oper) (n0 k : Nat) (rest : List Oper) (s : St) (K : St → Prop) : Prop :=
 ∀ (base : Nat) (Q : Act → World → Prop) (w0 : World) (Z : Nat → Prop) (R0 : List RI) (h0 : Hp) (a : Act) (w : World) (R : List RI), HR w0 Z R0 h0 → n0 = h0.length → tailAt ops ≤ ops.size → SR E base w Z R s a → w0.grownBy w none → Step w0 Z R0 h0 w Z R s.hp → (∀ (b : Nat) (B : Option Blk), h0[b]? = some B → s.hp[b]? = some B) → tailAt ops = tailGo rest k → k + rest.length = ops.size → (∀ j, rest[j]? = ops[k + j]?) →
  (∀ s' a' w' Z' R', K s' → SR E base w' Z' R' s' a' → Step w0 Z R0 h0 w' Z' R' s'.hp → Q a' w') → wpMix E.P ops (fun w' => w0.grownBy w' none) (fun k => !((ops[k]?).any fun o => isQ o.op) || Nat.ble (tailAt ops) k) (tailAt ops) Q k rest a w
section
variable {E : Env} {cx : Cx} {ops : Array Oper} {pre rest rest' : List Oper} {s s1 : St} {K : St → Prop} {n n0 k : Nat} {l : List (Nat × AV)} {hp hp' : Hp} {Q : Ex → St → Prop} {id : Nat}
theorem RunDY.app (hE : EnvOk E) : ∀ {pre : List Oper} {s : St} {k : Nat}, (pre.all fun o => !isW o.op) = true → opsD E (evC E 0) ⟨none, false⟩ ops n0 pre s = some s1 → RunDY E ops n0 (k + pre.length) rest s1 K → RunDY E ops n0 k (pre ++ rest) s K
 | [], s, k, _, e, kk => by injection e with e; subst e; exact kk
 | o :: pre, s, k, hp, e, kk => by
  intro base Q w0 Z R0 h0 a w R hh0 hn0 hT sr hgr st hpre hTk hlen hops q
  simp only [List.all_cons, Bool.and_eq_true, Bool.not_eq_true'] at hp
  obtain ⟨hW, hp⟩ := hp
  have hok : ops[k]? = some o := by have := hops 0; simpa using this.symm
  have hops' : ∀ j, (pre ++ rest)[j]? = ops[k + 1 + j]? := fun j => by have := hops (j + 1); simpa [Nat.add_assoc, Nat.add_comm 1 j] using this
  have hk1 : k + 1 + pre.length = k + (o :: pre).length := by simp; omega
  have kk' : RunDY E ops n0 (k + 1 + pre.length) rest s1 K := by rw [hk1]; exact kk
  have hlen' : k + 1 + (pre ++ rest).length = ops.size := by simp at hlen ⊢; omega
  have hTk' : tailAt ops = tailGo (pre ++ rest) (k + 1) := by
   rw [hTk]
   show tailGo (o :: (pre ++ rest)) k = _
   conv => lhs; unfold tailGo; rw [if_neg (by rw [hW]; simp)]
  have hkT : ¬ tailAt ops ≤ k := by have := tailGo_ge (pre ++ rest) (k + 1); omega
  have hble : Nat.ble (tailAt ops) k = false := by
   cases hb : Nat.ble (tailAt ops) k with
   | false => rfl
   | true => exact absurd (Nat.le_of_ble_eq_true hb) hkT
  show wpMix E.P ops _ _ _ Q k (o :: (pre ++ rest)) a w
  refine ⟨fun _ => hgr, ?_⟩
  unfold opsD at e
  rw [if_neg (by rw [hW]; simp)] at e
  split at e
  ·cases e
  ·next hw =>
   rw [if_neg (by rw [wantedA_eq sr hw]; simp)]
   exact RunDY.app hE hp e kk' base Q w0 Z R0 h0 _ w R hh0 hn0 hT (sr.put undef_vr) hgr st hpre hTk' hlen' hops' q
  ·next hw =>
   rw [if_pos (wantedA_eq sr hw)]
   have hρ : ∀ o x, opA E s.fr o = some x → VR w Z R x (a.eval o) := fun o x e => opA_vr sr o x e
   split at e
   ·next x hx =>
    split at e
    ·next hld =>
     have hq := isQ_of hx
     rw [if_neg (by simp [hok, hq, hble])]
     obtain ⟨u, hu, hrun⟩ := evOpQ_sound sr.hh hρ hx
     have hquiet : ∃ u, VR w Z R x u ∧ QuietAt E.P (fun w' => w0.grownBy w' none) o u a := by
      cases hl : isLd o.op with
      | false => exact ⟨u, hu, fun w' hw1 => hrun w' fun h => by rw [hl] at h; cases h⟩
      | true => exact load_quiet hh0 sr hgr st hpre hl (by rw [← hn0]; exact hld) hx
     obtain ⟨u, hu, hquiet⟩ := hquiet
     exact ⟨u, hquiet, RunDY.app hE hp e kk' base Q w0 Z R0 h0 _ w R hh0 hn0 hT (sr.put hu) hgr st hpre hTk' hlen' hops' q⟩
    ·cases e
   ·split at e
    ·next x h' hx =>
     have hq := isQ_of_N hx
     rw [if_pos (by simp [hok, hq])]
     obtain ⟨u, w', R', h1, h2, h3, h4, h5⟩ := evOpN_sound hρ sr.hh hx
     exact lw_val h1 (RunDY.app hE hp e kk' base Q w0 Z R0 h0 _ w' R' hh0 hn0 hT ((sr.step h2 h4).put h3) (pu_trans hgr h5) (st.trans h4) (fun b B hb => evOpN_pre hx (hpre b B hb)) hTk' hlen' hops' q)
    ·split at e
     ·next f args tys ho =>
      split at e
      ·next fv xs hf hxs =>
       split at e
       ·next r hr =>
        obtain ⟨x, h'⟩ := r
        have hq : isQ o.op = false := by rw [ho]; rfl
        rw [if_pos (by simp [hok, hq])]
        obtain ⟨g, hva, hcl, hret⟩ := callP_sound hE (code_sound hE 0).1 (hρ _ _ hf) (opds_vr hρ hxs) sr.hh sr.gl hr
        unfold Lw
        rw [run_call (uf := []) (uc := []) ho hva rfl hcl w]
        simp only [List.nil_append, List.append_nil]
        refine Ret.mono hret fun v w' hS => ?_
        obtain ⟨hg1, R', k1, k2, k3⟩ := hS
        exact RunDY.app hE hp e kk' base Q w0 Z R0 h0 _ w' R' hh0 hn0 hT ((sr.step k1 k3).put k2) (pu_trans hgr hg1) (st.trans k3) (fun b B hb => callP_pre hr (hpre b B hb)) hTk' hlen' hops' q
       ·cases e
      ·cases e
     ·cases e
theorem RunDY.one (hE : EnvOk E) {o : Oper} (hr : rest = o :: rest') (hW : isW o.op = false) (h : opsD E (evC E 0) ⟨none, false⟩ ops n0 [o] s = some s1) (kk : RunDY E ops n0 (k + 1) rest' s1 K) : RunDY E ops n0 k rest s K := by
 subst hr
 exact RunDY.app (k := k) hE (pre := [o]) (by simp [hW]) h kk
end
def loudT (ops : Array Oper) (T k : Nat) : Bool := !((ops[k]?).any fun o => isQ o.op) || Nat.ble T k
def RunDT (E : Env) (cx : Cx) (ops : Array Oper) (T : Nat) (n0 k : Nat) (rest : List Oper) (s : St) (K : St → Prop) : Prop :=
 ∀ (ro : Option Nat) (base : Nat) (Q : Act → World → Prop) (w0 : World) (Z : Nat → Prop) (R0 : List RI) (h0 : Hp) (a : Act) (w : World) (R : List RI), (cx.inR = false → ro = none) → YI cx w0 Z R0 h0 → HR w0 Z R0 h0 → n0 = h0.length → SR E base w Z R s a → w0.grownBy w none → Step w0 Z R0 h0 w Z R s.hp → (∀ (b : Nat) (B : Option Blk), h0[b]? = some B → s.hp[b]? = some B) → (∀ j, rest[j]? = ops[k + j]?) →
  (∀ s' a' w' Z' R', K s' → SR E base w' Z' R' s' a' → Step w0 Z R0 h0 w' Z' R' s'.hp → Q a' w') → wpMix E.P ops (fun w' => w0.grownBy w' none) (loudT ops T) T Q k rest a w
section
variable {E : Env} {cx : Cx} {ops : Array Oper} {rest rest' : List Oper} {s s1 : St} {K : St → Prop} {n n0 k T : Nat} {l : List (Nat × AV)} {hp hp' : Hp} {Q : Ex → St → Prop} {id : Nat} {x : AV} {d : Nat}
theorem quiet_at {o : Oper} (hops : ∀ j, (o :: rest')[j]? = ops[k + j]?) (hk : Nat.blt k T = true) (hq : isQ o.op = true) : loudT ops T k = false := by
 have hok : ops[k]? = some o := by have := hops 0; simpa using this.symm
 have hlt : k < T := Nat.le_of_ble_eq_true hk
 have hble : Nat.ble T k = false := by
  cases hb : Nat.ble T k with
  | false => rfl
  | true => have := Nat.le_of_ble_eq_true hb; omega
 simp [loudT, hok, hq, hble]
theorem loud_at {o : Oper} (hops : ∀ j, (o :: rest')[j]? = ops[k + j]?) (hq : isQ o.op = false) : loudT ops T k = true := by
 have hok : ops[k]? = some o := by have := hops 0; simpa using this.symm
 simp [loudT, hok, hq]
theorem next_at {o : Oper} (hops : ∀ j, (o :: rest')[j]? = ops[k + j]?) : ∀ j, rest'[j]? = ops[k + 1 + j]? := fun j => by have := hops (j + 1); simpa [Nat.add_assoc, Nat.add_comm 1 j] using this
theorem RunDT.done (hr : rest = []) (kk : K s) : RunDT E cx ops T n0 k rest s K := by
 subst hr
 exact fun ro base Q w0 Z R0 h0 a w R _ _ _ _ sr hgr st _ _ q => ⟨fun _ => hgr, q s a w Z R kk sr st⟩
theorem RunDT.mono {K' : St → Prop} (h : RunDT E cx ops T n0 k rest s K) (hk : ∀ s, K s → K' s) : RunDT E cx ops T n0 k rest s K' := fun ro base Q w0 Z R0 h0 a w R h1 h2 h3 h4 h5 h6 h7 h8 h9 q => h ro base Q w0 Z R0 h0 a w R h1 h2 h3 h4 h5 h6 h7 h8 h9 fun s' a' w' Z' R' hK => q s' a' w' Z' R' (hk s' hK)
/-- An operation that reads. -/
theorem RunDT.q {o : Oper} (hr : rest = o :: rest') (hk : Nat.blt k T = true) (hq : isQ o.op = true) (hw : wantedA ops (Fr n l) o = some true) (hd : o.dst = some d) (h : evOpQ E.P (opA E (Fr n l)) hp o.op = some x) (hl : ldOk n0 (opA E (Fr n l)) o.op = true) (kk : RunDT E cx ops T n0 (k + 1) rest' ⟨Fr n ((d, x) :: l), hp⟩ K) : RunDT E cx ops T n0 k rest ⟨Fr n l, hp⟩ K := by
 subst hr
 intro ro base Q w0 Z R0 h0 a w R hro hy hh0 hn0 sr hgr st hpre hops q
 refine ⟨fun _ => hgr, ?_⟩
 rw [if_pos (wantedA_eq sr hw), quiet_at hops hk hq, if_neg (by simp)]
 have hρ : ∀ o x, opA E (Fr n l) o = some x → VR w Z R x (a.eval o) := fun o x e => opA_vr sr o x e
 obtain ⟨u, hu, hrun⟩ := evOpQ_sound sr.hh hρ h
 have hquiet : ∃ u, VR w Z R x u ∧ QuietAt E.P (fun w' => w0.grownBy w' none) o u a := by
  cases hl' : isLd o.op with
  | false => exact ⟨u, hu, fun w' hw1 => hrun w' fun h => by rw [hl'] at h; cases h⟩
  | true => exact load_quiet hh0 sr hgr st hpre hl' (by rw [← hn0]; exact hl) h
 obtain ⟨u, hu, hquiet⟩ := hquiet
 refine ⟨u, hquiet, ?_⟩
 have sr' := sr.put (d := o.dst) hu
 rw [hd, show putA (⟨Fr n l, hp⟩ : St).fr (some d) x = Fr n ((d, x) :: l) from putA_Fr n l d _] at sr'
 rw [hd]
 exact kk ro base Q w0 Z R0 h0 _ w R hro hy hh0 hn0 sr' hgr st hpre (next_at hops) q
/-- One that is not wanted. -/
theorem RunDT.skip {o : Oper} (hr : rest = o :: rest') (hw : wantedA ops (Fr n l) o = some false) (hd : o.dst = some d) (kk : RunDT E cx ops T n0 (k + 1) rest' ⟨Fr n ((d, .tp []) :: l), hp⟩ K) : RunDT E cx ops T n0 k rest ⟨Fr n l, hp⟩ K := by
 subst hr
 intro ro base Q w0 Z R0 h0 a w R hro hy hh0 hn0 sr hgr st hpre hops q
 refine ⟨fun _ => hgr, ?_⟩
 rw [if_neg (by rw [wantedA_eq sr hw]; simp)]
 have sr' := sr.put (d := o.dst) (x := .tp []) undef_vr
 rw [hd, show putA (⟨Fr n l, hp⟩ : St).fr (some d) (.tp []) = Fr n ((d, .tp []) :: l) from putA_Fr n l d _] at sr'
 rw [hd]
 exact kk ro base Q w0 Z R0 h0 _ w R hro hy hh0 hn0 sr' hgr st hpre (next_at hops) q
/-- A told call that hands back what is flat. -/
theorem RunDT.callT {α β : Type} {s : Cs α} {F : α → Option β} {er : β → AV} {a : α} {b : β} {xs ys : List AV} (hE : EnvOk E) {d : Nat} {f : Operand} {args : Array Operand} {tys : Array TypeId} {ty : TypeId} {pos : String} {af : Array Edge} {g : Option (Nat × Bool)} {fid : FuncId} (hr : rest = ⟨some d, .call ⟨.value f, args, tys⟩, ty, pos, af, g⟩ :: rest') (hw : wantedA ops (Fr n l) ⟨some d, .call ⟨.value f, args, tys⟩, ty, pos, af, g⟩ = some true)
  (hf : opA E (Fr n l) f = some (.fn fid [] [])) (hX : E.X fid = some (told s F er)) (ha : opds (opA E (Fr n l)) args.toList = some xs) (hv : Sees hp xs ys) (hd : s.dec ys = some a) (hok : flatTp (er b) = true) (hF : F a = some b) (kk : RunDT E cx ops T n0 (k + 1) rest' ⟨Fr n ((d, er b) :: l), hp⟩ K) : RunDT E cx ops T n0 k rest ⟨Fr n l, hp⟩ K := by
 subst hr
 intro ro base Q w0 Z R0 h0 aa w R hro hy hh0 hn0 sr hgr st hpre hops q
 refine ⟨fun _ => hgr, ?_⟩
 rw [if_pos (wantedA_eq sr hw), loud_at hops rfl, if_pos rfl]
 have hρ : ∀ o x, opA E (Fr n l) o = some x → VR w Z R x (aa.eval o) := fun o x e => opA_vr sr o x e
 have hvf := hρ _ _ hf
 generalize hvq : aa.eval f = vf at hvf
 cases hvf with
 | fn hl hl' hx hy' =>
  rename_i u1 u2
  have e1 : u1 = [] := by simpa using hl
  have e2 : u2 = [] := by simpa using hl'
  subst e1 e2
  obtain ⟨hcl, hXs⟩ := hE.X fid _ hX
  have htold : told s F er ys = some (er b) := told_dec hd hF
  have hvs := opds_vr hρ ha
  unfold Lw
  rw [run_call (uf := []) (uc := []) rfl hvq rfl hcl w]
  simp only [List.nil_append, List.append_nil]
  have hz1 : ∀ c, (Z c ∨ own R hp c) → c < w.heap.size := fun c hc => hc.elim (sr.hh.zlt c) (fun ⟨b, B, r, h1, _, h3, h4⟩ => h4 ▸ sr.hh.rltL h1 h3)
  have hg1 : GI E w (fun c => Z c ∨ own R hp c) := fun q y hy => (sr.gl q y hy).mono (fun _ _ => rfl) (fun _ h => .inl h) (fun _ _ h => h)
  refine Ret.mono (hXs _ _ htold w _ _ hz1 hg1 (hv w Z R _ sr.hh hvs)) fun v w' ⟨hs, hv'⟩ => ?_
  have k1 := sr.hh.keep hs.size (fun c hc => hs.block c hc (by simp))
  have k3 : Step w Z R hp w' Z R hp := ⟨hs.os, hs.tape, hs.output, hs.size, fun c hc _ => hs.block c hc (by simp), fun _ h => .inl h, fun _ h => h, fun _ h => .inl h, fun _ _ h => h⟩
  have sr' := (sr.step k1 k3).put (d := some d) (flat_vr hok hv' : VR w' Z R (er b) v)
  rw [show putA (⟨Fr n l, hp⟩ : St).fr (some d) (er b) = Fr n ((d, er b) :: l) from putA_Fr n l d _] at sr'
  exact kk ro base Q w0 Z R0 h0 _ w' R hro hy hh0 hn0 sr' (pu_trans hgr hs) (st.trans k3) hpre (next_at hops) q
theorem RunDT.tail (hT : T = k) (h : RunL E cx ops rest s K) : RunDT E cx ops T n0 k rest s K := by
 subst hT
 intro ro base Q w0 Z R0 h0 a w R hro hy hh0 hn0 sr hgr st hpre hops q
 refine lwl_mix (h ro base Q a w Z R hro sr (hy.step hh0 st) fun s' a' w' Z' R' hK sr' st' => q s' a' w' Z' R' hK sr' (st.trans st')) (Nat.le_refl _) (fun _ => hgr) (fun j hj => ?_)
 have : Nat.ble T j = true := by rw [Nat.ble_eq]; exact hj
 simp [loudT, this]
theorem SemY.runDT (T : Nat) (hm : E.P.follows .mixedOrders = true) (hB : Region.lexB .any ops = true) (hb : loudB ops (loudT ops T) T = true) (h : RunDT E cx ops T s.hp.length 0 ops.toList s fun s' => Q .normal s') : SemY E cx (.region id ops true) s Q := by
 intro ro base Qm a w Z R hro sr hy kk
 have hgd : w.grownBy w.drew none := ch_drew w
 have hops : ops.toList.toArray = ops := by simp
 have st0 : Step w Z R s.hp w.drew Z R s.hp := ⟨rfl, rfl, rfl, Nat.le_refl _, fun c hc _ => rfl, fun _ h => .inl h, fun _ h => h, fun _ h => .inl h, fun _ _ h => h⟩
 have hsrd : SR E base w.drew Z R s a := ⟨sr.hh.keep (Nat.le_refl _) (fun c hc => hgd.block c hc (by simp)), sr.fr.off (fun c hc => rfl), sr.mks.step st0, sr.gl.off (fun c hc => rfl), sr.bs⟩
 have hm' := h ro base (fun a w => Qm .normal a w) w.drew Z R s.hp a w.drew R hro (hy.step sr.hh st0) hsrd.hh rfl hsrd (pu_refl _) (Step.refl _ _ _ _) (fun b B hb => hb) (fun j => by simp) (fun s' a' w' Z' R' hq sr' st => kk .normal s' a' w' Z' R' hq sr' (st0.trans st))
 have := wp_region_mix (P := E.P) (id := id) (l := ops.toList) (a := a) (w := w) (C := fun w' => w.drew.grownBy w' none) (loud := loudT ops T) (T := T) (Q' := Qm) ro 0 hm (by rw [hops]; exact hB) (by rw [hops]; exact hb) (by rw [hops]; exact hm')
 rw [hops] at this
 exact this
theorem nble {a b : Nat} (h : a < b) : Nat.blt a b = true := by unfold Nat.blt; rw [Nat.ble_eq]; exact h
/-- May an own thing be read ahead of the tail? It was there before the region. -/
theorem ldOk_own {α : Type} {o : Oc α} {kk off m : Nat} {t ty : TypeId} {e : AV} {xs : List α} {v : α} {h0 : Hp} {L : List Asn} {p : Operand} {ρ : Operand → Option AV} (ht : Go.Proofs.YtcmgmkepodbpkaaDoor.T h0 (own_ (ocL kk t o) e xs :: L)) (hv : xs[m]? = some v) (hp : ρ p = some (pOff (eAt e m) off)) : ldOk h0.length ρ (.load ty p) = true := by
 obtain ⟨F, q, _⟩ := ht.act
 rcases q with ⟨rfl, rfl, _⟩ | ⟨b, es, F', rfl, h2, _⟩
 ·simp at hv
 ·simp only [ldOk, hp, eAt, pOff]
  exact nble (get_lt h2)
theorem ldOk_own0 {α : Type} {o : Oc α} {kk m : Nat} {t ty : TypeId} {e : AV} {xs : List α} {v : α} {h0 : Hp} {L : List Asn} {p : Operand} {ρ : Operand → Option AV} (ht : Go.Proofs.YtcmgmkepodbpkaaDoor.T h0 (own_ (ocL kk t o) e xs :: L)) (hv : xs[m]? = some v) (hp : ρ p = some (eAt e m)) : ldOk h0.length ρ (.load ty p) = true :=
 ldOk_own (off := 0) ht hv (by rw [pOff0]; exact hp)
theorem ldOk_cel0 {kk : Nat} {t ty : TypeId} {q a : AV} {h0 : Hp} {L : List Asn} {p : Operand} {ρ : Operand → Option AV} (ht : Go.Proofs.YtcmgmkepodbpkaaDoor.T h0 (cel q kk t a :: L)) (hp : ρ p = some q) : ldOk h0.length ρ (.load ty p) = true := by
 obtain ⟨F, ⟨b, rfl, rfl, h2⟩, _⟩ := ht.act
 simp only [ldOk, hp]
 exact nble (get_lt h2)
end
def law09_awake : Option Bool := some true
def cs_law09_awake : Cs Unit := csN
def er_law09_awake (b : Bool) : AV := cdB.enc b
def t_law09_awake : List AV → Option AV := told cs_law09_awake (fun _ => law09_awake) er_law09_awake
theorem x_law09_awake : XOk 13 t_law09_awake := by
 refine ⟨⟨Tryd.call13⟩, fun xs x h w Z us _ _ hv => ?_⟩
 obtain ⟨a, ha, h⟩ := Option.bind_eq_some_iff.1 h
 obtain ⟨b, hb, rfl⟩ := Option.map_eq_some_iff.1 h
 have hb := Option.some.inj hb
 subst hb
 have : xs = [] := by
  cases xs with
  | nil => rfl
  | cons x xs => cases ha
 subst this
 have : us = [] := by have := hv.len; simpa using this
 subst this
 exact Ret.mono (awake_ret w) fun v w' h => ⟨h.2, by rw [h.1]; exact vr_true⟩
/-- slices.Clone: nil for nil, else a new slice. -/
noncomputable def cb_clone : Code := codeOf Tryd.f20
def own1 (xs : List Int) : Option Blk := some ⟨1, 3, xs.map cdI.enc, false⟩
set_option maxRecDepth 100000 in
theorem clone_sem (xs : List Int) (hc : capOk 8 xs.length = true) : Sem E0 ⟨none, false⟩ cb_clone ⟨Fr 8 [(0, .sl 1 (xs.map cdI.enc))], []⟩ fun e s' => (e = .normal ∨ e = .ret) ∧ ((xs = [] ∧ s' = ⟨Fr 8 [(2, .e0)], []⟩) ∨ s' = ⟨Fr 8 [(2, .rf 0 0 xs.length xs.length)], [own1 xs]⟩) := by
 refine Sem.seq ?_
 refine Sem.runS (s1 := ⟨Fr 8 [(0, .sl 1 (xs.map cdI.enc)), (2, .e0)], []⟩) ?_ ?_
 ·refine RunS.seg E0_ok 1 (s1 := ⟨Fr 8 [(0, .sl 1 (xs.map cdI.enc)), (2, .e0)], []⟩) (by kernel_rfl) ?_
  exact RunS.done rfl Wk.f1
 refine Sem.seq ?_
 refine Sem.seq (Sem.runQ ?_)
 refine RunS.seg E0_ok 1 (s1 := ⟨Fr 8 [(0, .sl 1 (xs.map cdI.enc)), (2, .e0), (3, .sl 1 (xs.map cdI.enc))], []⟩) (by kernel_rfl) ?_
 refine RunS.isnil (k := 1) (el := 3) (es := xs.map cdI.enc) rfl (wantedA_none rfl) (by kernel_rfl) (by kernel_rfl) fun b hb => RunS.done rfl ?_
 have hb : b = true → xs = [] := fun h => List.map_eq_nil_iff.1 (hb h)
 refine Sem.cond (b := b) (by kernel_rfl) (fun hb1 => ?_) (fun hb1 => ?_)
 ·have hx := hb hb1
  refine Sem.wkQ ?_
  refine Sem.seq (Sem.runS (s1 := ⟨Fr 8 [(2, .e0)], []⟩) ?_ (Sem.ret ?_))
  ·refine RunS.seg E0_ok 1 (s1 := ⟨Fr 8 [(0, .sl 1 (xs.map cdI.enc)), (2, .e0), (3, .sl 1 (xs.map cdI.enc)), (4, .v (.bool b))], []⟩) (by kernel_rfl) ?_
   exact RunS.done rfl Wk.f1
  ·exact ⟨_, Wk.refl, .inr rfl, .inl ⟨hx, rfl⟩⟩
 ·refine Sem.skip ?_
  refine Sem.wkQ (Sem.seq (Sem.runQ ?_))
  refine RunS.seg E0_ok 2 (s1 := ⟨Fr 8 [(0, .sl 1 (xs.map cdI.enc)), (2, .e0), (3, .sl 1 (xs.map cdI.enc)), (4, .v (.bool b)), (5, .rf 0 0 0 0), (6, .sl 1 (xs.map cdI.enc))], [own1 []]⟩) (by kernel_rfl) ?_
  cases xs with
  | nil =>
   refine RunS.one E0_ok 0 rfl (op_w (x := .rf 0 0 0 0) (hp' := [own1 []]) (wantedA_none rfl) rfl (by kernel_rfl) (by kernel_rfl) (by kernel_rfl)) ?_
   refine RunS.seg E0_ok 1 (s1 := ⟨Fr 8 [(0, .sl 1 []), (2, .rf 0 0 0 0), (3, .sl 1 []), (4, .v (.bool b)), (5, .rf 0 0 0 0), (6, .sl 1 []), (7, .rf 0 0 0 0)], [own1 []]⟩) (by kernel_rfl) (RunS.done rfl (Sem.ret ?_))
   exact ⟨⟨Fr 8 [(2, .rf 0 0 0 0)], [own1 []]⟩, Wk.f1, .inr rfl, .inr rfl⟩
  | cons y ys =>
   refine RunS.one E0_ok 0 rfl (op_w (wantedA_none rfl) rfl (by kernel_rfl) (by kernel_rfl) (w_append (a := .rf 0 0 0 0) (b := .sl 1 ((y :: ys).map cdI.enc)) (by kernel_rfl) (by kernel_rfl) (append_R (c := cdI) (xs := []) (vs := y :: ys) (k := 1) (bytes := 8) (el := 3) (by kernel_rfl) (by kernel_rfl) elems_sl (List.cons_ne_nil _ _) (by kernel_rfl) (by rw [List.length_nil, Nat.zero_add]; exact hc)))) ?_
   refine RunS.seg E0_ok 1 (s1 := ⟨Fr 8 [(0, .sl 1 ((y :: ys).map cdI.enc)), (2, .rf 1 0 (y :: ys).length (y :: ys).length), (3, .sl 1 ((y :: ys).map cdI.enc)), (4, .v (.bool b)), (5, .rf 0 0 0 0), (6, .sl 1 ((y :: ys).map cdI.enc)), (7, .rf 1 0 (y :: ys).length (y :: ys).length)], [none, own1 (y :: ys)]⟩) (by kernel_rfl) (RunS.done rfl (Sem.ret ?_))
   exact ⟨⟨Fr 8 [(2, .rf 0 0 (y :: ys).length (y :: ys).length)], [own1 (y :: ys)]⟩, Wk.s3 [1] ⟨⟨_, rfl, bu_own⟩, trivial⟩ ⟨lv, trivial⟩, .inr rfl, .inr rfl⟩
def OutClone (xs : List Int) (x : AV) (h' : Hp) : Prop := (xs = [] ∧ x = .e0 ∧ h' = []) ∨ (x = .rf 0 0 xs.length xs.length ∧ h' = [own1 xs])
theorem s_clone (xs : List Int) (hc : capOk 8 xs.length = true) : SOk 20 [.sl 1 (xs.map cdI.enc)] (OutClone xs) := by
 refine sok_of_sem E0_ok rfl rfl (fn := Tryd.f20) (c := cb_clone) (by kernel_rfl) (by kernel_rfl) ⟨Tryd.call20⟩ (by show 1 ≤ 8; decide) (Sem.mono (clone_sem xs hc) ?_)
 rintro e s' ⟨he, ⟨hx, rfl⟩ | rfl⟩
 ·exact ⟨he, [.e0], by kernel_rfl, .inl ⟨hx, rfl, rfl⟩⟩
 ·exact ⟨he, [.rf 0 0 xs.length xs.length], by kernel_rfl, .inr ⟨rfl, rfl⟩⟩
theorem flat_ints (xs : List Int) : (xs.map cdI.enc).all isFlat = true := by
 rw [List.all_eq_true]
 intro x hx
 obtain ⟨y, _, rfl⟩ := List.mem_map.1 hx
 rfl
theorem clone_flat {xs : List Int} : ∀ x h', OutClone xs x h' → ownFlat x = true ∧ flatH h' = true := by
 rintro x h' (⟨_, rfl, rfl⟩ | ⟨rfl, rfl⟩)
 ·exact ⟨rfl, rfl⟩
 ·refine ⟨rfl, ?_⟩
  show (!false && (xs.map cdI.enc).all isFlat && true) = true
  rw [flat_ints]; rfl
section
variable {P : Program} {h : Hp} {ρ : Operand → Option AV} {α : Type} {o : Oc α} {k : Nat} {t : TypeId} {e : AV} {xs : List α} {L : List Asn}
theorem q_fld {ty : TypeId} {x : Operand} {f : Nat} {a r : AV} (hx : ρ x = some a) (he : evFieldAddr P ty a f = some r) : evOpQ P ρ h (.fieldAddr ty x f) = some r := by
 show (match ρ x with | some x => evFieldAddr P ty x f | none => none) = some r
 rw [hx]; exact he
theorem q_nil {x : Operand} {a : AV} (ha : ∃ b i, a = .pt b i 0) (hx : ρ x = some a) : evOpQ P ρ h (.nilCheck x) = some a := by
 obtain ⟨b, i, rfl⟩ := ha
 simp only [evOpQ, hx]
theorem q_build {ty : TypeId} {ps : Array (Nat × Operand)} {xs : List (Nat × AV)} {r : AV} (hp : partsOf ρ ps.toList = some xs) (he : evBuild P ty xs = some r) : evOpQ P ρ h (.build ty ps) = some r := by
 show (match partsOf ρ ps.toList with | some ps => evBuild P ty ps | none => none) = some r
 rw [hp]; exact he
theorem n_lit {ty : TypeId} {n : Nat} {ps : Array (Nat × Operand)} {xs : List (Nat × AV)} {r : AV × Hp} (hp : partsOf ρ ps.toList = some xs) (he : evLit P h ty n xs = some r) : evOpN P ρ h (.buildSlice ty n ps) = some r := by
 show (match partsOf ρ ps.toList with | some ps => evLit P h ty n ps | none => none) = some r
 rw [hp]; exact he
theorem n_box {ty : TypeId} {x : Operand} {z : AV} {r : AV × Hp} (hx : ρ x = some z) (he : evBox h ty z = some r) : evOpN P ρ h (.box ty x) = some r := by
 show (match ρ x with | some x => evBox h ty x | none => none) = some r
 rw [hx]; exact he
theorem n_alloc {ty : TypeId} {z : AV} {r : AV × Hp} (hx : tyZero P ty = some z) (he : evBox h ty z = some r) : evOpN P ρ h (.alloc ty) = some r := by
 show (match tyZero P ty with | some z => evBox h ty z | none => none) = some r
 rw [hx]; exact he
theorem shape_own (ht : T h (own_ (ocL k t o) e xs :: L)) : e.notTp = true ∧ e.notAg = true := by
 obtain ⟨F, p, _⟩ := ht.act
 rcases p with ⟨rfl, _⟩ | ⟨b, es, F', rfl, _⟩ <;> exact ⟨rfl, rfl⟩
/-- A pointer to a cell of its own seen as another pointer. -/
def cvB (P : Program) (a b k t : Nat) : Bool := match P.underlying a, P.underlying b with
 | some (.pointer t'), some .unsafePointer => Nat.blt 0 k && (match tySize P t' with | some (_ + 1) => true | _ => false)
 | some .unsafePointer, some (.pointer u) => Nat.blt 0 k && Nat.beq t u && Nat.beq (P.cellsOf u) k && (P.info? u).isSome
 | _, _ => false
theorem w_ustr {t1 t2 : TypeId} {x y : Operand} {a b : AV} {r : AV × Hp} (hx : ρ x = some a) (hy : ρ y = some b) (he : evUStr P h t1 a b = some r) : evOpW P ρ h (.call ⟨.builtin .unsafeString, #[x, y], #[t1, t2]⟩) = some r := by
 show (match opds ρ [x, y], [t1, t2] with | some [x, n], [t, _] => evUStr P h t x n | _, _ => none) = some r
 simp only [opds, hx, hy]
 exact he
theorem T.merge0 {j : Nat} {e' : AV} {y : α} (ht : T h (own_ o e' y :: hole k t o e xs j e' y :: L)) : T h (own_ (ocL k t o) e xs :: L) := by
 have hv : xs[j]? = some y := by
  obtain ⟨F, p, _⟩ := (T.drop ht).act
  obtain ⟨b, es, F', _, _, _, _, _, hv⟩ := p
  exact hv
 have := ht.merge
 have he : xs.set j y = xs := by
  apply List.ext_getElem?
  intro i
  rw [List.getElem?_set]
  split
  ·next hij => subst hij; rw [if_pos (List.getElem?_eq_some_iff.1 hv).1]; exact hv.symm
  ·rfl
 rwa [he] at this
end
def isSl (P : Program) (t : TypeId) : Bool := match P.underlying t with
 | some (.slice _) => true
 | _ => false
theorem isSl_inv {P : Program} {t : TypeId} (h : isSl P t = true) : ∃ el, P.underlying t = some (.slice el) := by
 unfold isSl at h
 split at h
 ·next el he => exact ⟨el, he⟩
 ·cases h
def elmB : AV → Bool
 | .ag [_] => false
 | _ => true
theorem elmB_inv {z : AV} (h : elmB z = true) : elm z.cel = z := by
 cases z with
 | ag cs =>
  match cs, h with
  | [], _ => rfl
  | [x], h => cases h
  | x :: y :: l, _ => rfl
 | _ => rfl
def zeB (P : Program) (el : TypeId) : Bool := match tyZero P el with
 | some z => elmB z
 | none => false
def fldB (P : Program) (t : TypeId) (f off : Nat) : Bool := match P.underlying t with
 | some (.struct fs) => match fs[f]? with
  | some fd => match tySize P fd.type with
   | some (_ + 1) => Nat.beq fd.offset off
   | _ => false
  | none => false
 | _ => false
theorem fldB_inv {P : Program} {t : TypeId} {f off : Nat} (h : fldB P t f off = true) : ∃ fs fd q, P.underlying t = some (.struct fs) ∧ fs[f]? = some fd ∧ tySize P fd.type = some (q + 1) ∧ fd.offset = off := by
 unfold fldB at h
 split at h
 ·next fs h1 =>
  split at h
  ·next fd h2 =>
   split at h
   ·next q h3 => exact ⟨fs, fd, q, h1, h2, h3, Nat.eq_of_beq_eq_true h⟩
   ·cases h
  ·cases h
 ·cases h
section
variable {P : Program} {h : Hp} {α : Type} {o : Oc α} {c : Cd α} {k bytes n : Nat} {t ty ty2 : TypeId} {e y : AV} {xs ys : List α} {L : List Asn} {v : α}
theorem len_B (ht : T h (own_ (ocL k t o) e xs :: L)) (hu : isSl P ty = true) : evLen P ty e = some (eI xs.length) := let ⟨_, h1⟩ := isSl_inv hu; len_own ht h1
theorem ix_B {i : Int} {ki : IntKind} (ht : T h (own_ (ocL k t o) e xs :: L)) (ha : apB P ty t k bytes = true) (hv : idx xs i = some v) : evIndexAddr P h ty e (.v (.int ki i)) = some (eAt e i.toNat) := by
 obtain ⟨i', z, a1, a2, a3, a4, _⟩ := apB_inv ha
 have hu : P.underlying ty = some (.slice t) := by
  unfold tyElem at a1
  split at a1
  ·next e he => injection a1 with a1; rw [he, a1]
  ·cases a1
 exact ix_own ht hu (by rw [tySize, a2, ← a4]; rfl) hv
theorem app_ownB (ht : T h (own_ (ocL k t o) e xs :: own_ (ocL k t o) y ys :: L)) (hu : isSl P ty2 = true) (ha : apB P ty t k bytes = true) (hc : capOk bytes (xs.length + ys.length) = true) : ∃ e' h', evAppend P h ty ty2 e y = some (e', h') ∧ T h' (own_ (ocL k t o) e' (xs ++ ys) :: L) := by
 obtain ⟨_, h1⟩ := isSl_inv hu
 obtain ⟨i, z, a1, a2, a3, a4, a5, a6, a7, a8⟩ := apB_inv ha
 exact app_own ht h1 a1 a2 a3 a4 (nble a5) a6 a7 a8 hc
theorem lit_ownB {es : List AV} (hf : Fit o k) (ht : T h (els o es xs :: L)) (hn : es.length = n) (ha : apB P ty t k bytes = true) (hz : zeB P t = true) (hb : Nat.ble (n * k) 65536 = true) : ∃ e' h', evLit P h ty n (enumA 0 es) = some (e', h') ∧ T h' (own_ (ocL k t o) e' xs :: L) := by
 obtain ⟨i, z, a1, a2, a3, a4, a5, a6, a7, a8⟩ := apB_inv ha
 unfold zeB at hz
 rw [a3] at hz
 exact lit_own hf ht hn a1 a2 a3 a4 (nble a5) hb a6 a7 (elmB_inv hz)
theorem make_ownB {z : AV} {m : Int} {kn kc : IntKind} {x0 : α} (ht : T h L) (hx : ∀ h, o.at_ h z x0 []) (ha : apB P ty t k bytes = true) (hz : tyZero P t = some z) (hc : mkOk bytes m = true) : ∃ e' h', evMake P h ty (.v (.int kn m)) (.v (.int kc m)) = some (e', h') ∧ T h' (own_ (ocL k t o) e' (List.replicate m.toNat x0) :: L) := by
 obtain ⟨i, z', a1, a2, a3, a4, a5, a6, a7, a8⟩ := apB_inv ha
 rw [hz] at a3
 injection a3 with a3
 subst a3
 exact make_own ht hx a1 a2 hz a4 a6 a7 a8 hc
theorem fldc_B {f off : Nat} {p a : AV} (ht : T h (cel p k t a :: L)) (hf : fldB P ty f off = true) : evFieldAddr P ty p f = some (pOff p off) := by
 obtain ⟨fs, fd, q, h1, h2, h3, rfl⟩ := fldB_inv hf
 exact fld_cel ht h1 h2 h3
theorem fldo_B {f off m : Nat} (ht : T h (own_ (ocL k t o) e xs :: L)) (hv : xs[m]? = some v) (hf : fldB P ty f off = true) : evFieldAddr P ty (eAt e m) f = some (pOff (eAt e m) off) := by
 obtain ⟨fs, fd, q, h1, h2, h3, rfl⟩ := fldB_inv hf
 exact fld_own ht hv h1 h2 h3
end
/-- What a call is handed, own or not, as it is told. -/
def SeeD {α : Type} (hp : Hp) (c : Cd α) (x : AV) (v : α) : Prop := ∃ y, SeeV hp x y ∧ c.dec y = some v
def SeesD {α : Type} (hp : Hp) (s : Cs α) (xs : List AV) (a : α) : Prop := ∃ ys, Sees hp xs ys ∧ s.dec ys = some a
theorem SeesD.nil {hp : Hp} : SeesD hp csN [] () := ⟨[], .nil, rfl⟩
theorem SeesD.cons {α β : Type} {hp : Hp} {c : Cd α} {s : Cs β} {x : AV} {xs : List AV} {v : α} {a : β} (h1 : SeeD hp c x v) (h2 : SeesD hp s xs a) : SeesD hp (csC c s) (x :: xs) (v, a) := by
 obtain ⟨y, k1, k2⟩ := h1
 obtain ⟨ys, q1, q2⟩ := h2
 refine ⟨y :: ys, .cons k1 q1, ?_⟩
 show ((c.dec y).bind fun x => (s.dec ys).map fun y => (x, y)) = _
 rw [k2, q2]; rfl
theorem SeeD.enc {α : Type} {hp : Hp} {c : Cd α} {v : α} : SeeD hp c (c.enc v) v := ⟨_, .enc, c.de v⟩
theorem SeeD.e0 {α : Type} {hp : Hp} {c : Cd α} {k : Nat} : SeeD hp (cdL k c) .e0 [] := ⟨.e0, .id rfl, rfl⟩
theorem SeeD.own {α : Type} {hp : Hp} {o : Oc α} {e : AV} {x : α} {L : List Asn} {i : Nat} (ht : T hp L) (hi : L[i]? = some (own_ o e x)) : SeeD hp o.cd e x := ⟨_, .own ht hi, o.cd.de x⟩
theorem SeeD.ag2 {α β : Type} {hp : Hp} {c : Cd α} {d : Cd β} {hc : ∀ x, noRf (c.enc x) = true} {hd : ∀ x, noRf (d.enc x) = true} {x y : AV} {v : α} {w : β} (h1 : SeeD hp c x v) (h2 : SeeD hp d y w) : SeeD hp (cdG2 c d hc hd) (.ag [x, y]) (v, w) := by
 obtain ⟨x', k1, k2⟩ := h1
 obtain ⟨y', q1, q2⟩ := h2
 refine ⟨.ag [x', y'], .ag (.cons k1 (.cons q1 .nil)), ?_⟩
 show ((c.dec x').bind fun p => (d.dec y').map fun q => (p, q)) = _
 rw [k2, q2]; rfl
section
variable {E : Env} {cx : Cx} {ops : Array Oper} {rest rest' : List Oper} {K : St → Prop} {n n0 k T : Nat} {l : List (Nat × AV)} {hp : Hp}
theorem RunL.callD {α β : Type} {s : Cs α} {F : α → Option β} {er : β → AV} {a : α} {b : β} {xs : List AV} (hE : EnvOk E) {d : Nat} {f : Operand} {args : Array Operand} {tys : Array TypeId} {ty : TypeId} {pos : String} {af : Array Edge} {g : Option (Nat × Bool)} {fid : FuncId} (hr : rest = ⟨some d, .call ⟨.value f, args, tys⟩, ty, pos, af, g⟩ :: rest') (hw : wantedA ops (Fr n l) ⟨some d, .call ⟨.value f, args, tys⟩, ty, pos, af, g⟩ = some true)
  (hf : opA E (Fr n l) f = some (.fn fid [] [])) (hX : E.X fid = some (told s F er)) (ha : opds (opA E (Fr n l)) args.toList = some xs) (hv : SeesD hp s xs a) (hok : flatTp (er b) = true) (hF : F a = some b) (k : RunL E cx ops rest' ⟨Fr n ((d, er b) :: l), hp⟩ K) : RunL E cx ops rest ⟨Fr n l, hp⟩ K :=
 let ⟨_, q1, q2⟩ := hv
 RunL.callT hE hr hw hf hX ha q1 q2 (.inr hok) hF k
theorem RunDT.callD {α β : Type} {s : Cs α} {F : α → Option β} {er : β → AV} {a : α} {b : β} {xs : List AV} (hE : EnvOk E) {d : Nat} {f : Operand} {args : Array Operand} {tys : Array TypeId} {ty : TypeId} {pos : String} {af : Array Edge} {g : Option (Nat × Bool)} {fid : FuncId} (hr : rest = ⟨some d, .call ⟨.value f, args, tys⟩, ty, pos, af, g⟩ :: rest') (hw : wantedA ops (Fr n l) ⟨some d, .call ⟨.value f, args, tys⟩, ty, pos, af, g⟩ = some true)
  (hf : opA E (Fr n l) f = some (.fn fid [] [])) (hX : E.X fid = some (told s F er)) (ha : opds (opA E (Fr n l)) args.toList = some xs) (hv : SeesD hp s xs a) (hok : flatTp (er b) = true) (hF : F a = some b) (kk : RunDT E cx ops T n0 (k + 1) rest' ⟨Fr n ((d, er b) :: l), hp⟩ K) : RunDT E cx ops T n0 k rest ⟨Fr n l, hp⟩ K :=
 let ⟨_, q1, q2⟩ := hv
 RunDT.callT hE hr hw hf hX ha q1 q2 hok hF kk
theorem RunL.call {α β : Type} {s : Cs α} {F : α → Option β} {er : β → AV} {a : α} {b : β} {xs : List AV} (hE : EnvOk E) {d : Nat} {f : Operand} {args : Array Operand} {tys : Array TypeId} {ty : TypeId} {pos : String} {af : Array Edge} {g : Option (Nat × Bool)} {fid : FuncId} (hr : rest = ⟨some d, .call ⟨.value f, args, tys⟩, ty, pos, af, g⟩ :: rest') (hw : wantedA ops (Fr n l) ⟨some d, .call ⟨.value f, args, tys⟩, ty, pos, af, g⟩ = some true)
  (hf : opA E (Fr n l) f = some (.fn fid [] [])) (hi : E.I fid = false) (hX : E.X fid = some (told s F er)) (ha : opds (opA E (Fr n l)) args.toList = some xs) (hv : Sns hp s xs a) (hok : xs.all noRf2 = true ∨ flatTp (er b) = true) (hF : F a = some b) (k : RunL E cx ops rest' ⟨Fr n ((d, er b) :: l), hp⟩ K) : RunL E cx ops rest ⟨Fr n l, hp⟩ K :=
 RunL.one hE 0 hr (op_call hw hf hi hX ha hv hok hF) k
end
/-- What slices.Clone makes is own. -/
theorem clone_own {h : Hp} {L : List Asn} {xs : List Int} {x : AV} {h' : Hp} (ht : T h L) (hO : OutClone xs x h') : ∃ e hp, e = shN h.length x ∧ hp = h ++ h' ∧ T hp (own_ (ocL 1 3 (ocV cdI)) e xs :: L) := by
 rcases hO with ⟨rfl, rfl, rfl⟩ | ⟨rfl, rfl⟩
 ·exact ⟨.e0, h, rfl, by simp, T.e0 ht⟩
 ·exact ⟨.rf h.length 0 xs.length xs.length, h ++ [own1 xs], rfl, rfl, new_own (els_leaf ht) rfl⟩
/-- .. and a struct of a number and a slice of its own. -/
theorem sq_own {h : Hp} {L : List Asn} {n : Int} {xs : List Int} {x : AV} {h' : Hp} (ht : T h L) (hO : x = .ag [.v (.int .i64 n), .rf 0 0 xs.length xs.length] ∧ h' = [own1 xs, none]) : ∃ e hp, .ag [.v (.int .i64 n), e] = shN h.length x ∧ hp = h ++ h' ∧ T hp (own_ (ocL 1 3 (ocV cdI)) e xs :: L) := by
 obtain ⟨rfl, rfl⟩ := hO
 refine ⟨.rf h.length 0 xs.length xs.length, h ++ [own1 xs, none], rfl, rfl, ?_⟩
 have h1 : T (h ++ [own1 xs]) (own_ (ocL 1 3 (ocV cdI)) (.rf h.length 0 xs.length xs.length) xs :: L) := new_own (els_leaf ht) rfl
 refine h1.grow fun b hb => ?_
 rw [show h ++ [own1 xs, none] = (h ++ [own1 xs]) ++ [none] by simp, List.getElem?_append_left hb]
theorem sq_flat {n : Int} {xs : List Int} : ∀ x h', (x = .ag [.v (.int .i64 n), .rf 0 0 xs.length xs.length] ∧ h' = [own1 xs, none]) → ownFlat x = true ∧ flatH h' = true := by
 rintro x h' ⟨rfl, rfl⟩
 refine ⟨rfl, ?_⟩
 show (!false && (xs.map cdI.enc).all isFlat && true) = true
 rw [flat_ints]; rfl
section
variable {E : Env} {cx : Cx} {ops : Array Oper} {s : St} {Q : Ex → St → Prop} {id : Nat} {A : St → Prop} {c : Code}
theorem SemY.regT (h : RunL E cx ops ops.toList s fun s' => ∃ s1, A s1 ∧ WkY E s' s1) (q : ∀ s1, A s1 → Q .normal s1) : SemY E cx (.region id ops false) s Q :=
 SemY.cutT (e0 := .normal) (A := A) (SemY.regionL (Q := fun e s' => e = .normal ∧ ∃ s2, A s2 ∧ WkY E s' s2) (RunL.mono h fun _s' hs => ⟨rfl, hs⟩)) q
theorem SemY.regDT (T : Nat) (hm : E.P.follows .mixedOrders = true) (hB : Region.lexB .any ops = true) (hb : loudB ops (loudT ops T) T = true) (h : RunDT E cx ops T s.hp.length 0 ops.toList s fun s' => ∃ s1, A s1 ∧ WkY E s' s1) (q : ∀ s1, A s1 → Q .normal s1) : SemY E cx (.region id ops true) s Q :=
 SemY.cutT (e0 := .normal) (A := A) (SemY.runDT T hm hB hb (Q := fun e s' => e = .normal ∧ ∃ s2, A s2 ∧ WkY E s' s2) (RunDT.mono h fun _s' hs => ⟨rfl, hs⟩)) q
theorem SemY.wkQ (h : SemY E cx c s fun e s' => ∃ s2, WkY E s' s2 ∧ Q e s2) : SemY E cx c s Q := by
 intro ro base Qm a w Z R h1 h2 h3 k
 refine h ro base Qm a w Z R h1 h2 h3 fun e s' a' w' Z' R' hQ sr st => ?_
 obtain ⟨s2, hw, hq⟩ := hQ
 obtain ⟨Z2, R2, sr2, st2⟩ := hw base w' Z' R' a' sr
 exact k e s2 a' w' Z2 R2 hq sr2 (st.trans st2)
end
/-- An element of a slice whose cells were written. -/
theorem ix_rlN {α : Type} {e : α → AV} {xs : List α} {P : Program} {h : Hp} {v : α} {n : Nat} {t t' el : TypeId} {b k : Nat} {ki : IntKind} {i : Int} (hn : xs.length = n) (hu : P.underlying t = some (.slice el)) (hs : tySize P el = some k) (hb : h[b]? = some (some ⟨k, t', xs.map e, false⟩)) (hv : idx xs i = some v) : evIndexAddr P h t (.rf b 0 n n) (.v (.int ki i)) = some (.pt b i.toNat 0) := by
 subst hn; exact ix_rl hu hs hb hv
def partOk (lo hi : Int) (n : Nat) : Bool := cutOk lo hi n && decide (lo < hi)
theorem partOk_inv {lo hi : Int} {n : Nat} (h : partOk lo hi n = true) : 0 ≤ lo ∧ lo < hi ∧ hi ≤ n := by
 simp only [partOk, cutOk, Bool.and_eq_true, decide_eq_true_eq] at h
 omega
theorem part_cut {lo hi : Int} {n : Nat} (h : partOk lo hi n = true) : cutOk lo hi n = true := by
 simp only [partOk, Bool.and_eq_true] at h; exact h.1
theorem part_ne {α : Type} {xs : List α} {lo hi : Int} (h : partOk lo hi xs.length = true) : (xs.take hi.toNat).drop lo.toNat ≠ [] := by
 obtain ⟨h1, h2, h3⟩ := partOk_inv h
 intro e
 have := congrArg List.length e
 simp at this
 omega
section
variable {P : Program} {h : Hp}
theorem slice_rp {α : Type} {e : α → AV} {xs : List α} {t t' el : TypeId} {b k : Nat} {lo hi : Int} {a b' : Option AV} (hu : P.underlying t = some (.slice el)) (hs : tySize P el = some k) (hb : h[b]? = some (some ⟨k, t', xs.map e, false⟩)) (ha : natB a 0 = some lo.toNat) (hb' : natB b' xs.length = some hi.toNat) (hc : partOk lo hi xs.length = true) :
  evSlice P h t (.rf b 0 xs.length xs.length) a b' none = some (.rf b (0 + lo.toNat) (hi.toNat - lo.toNat) (xs.length - lo.toNat)) := by
 obtain ⟨h1, h2, h3⟩ := partOk_inv hc
 unfold evSlice
 rw [hu]
 simp only [hb, ha, hb', show natB none xs.length = some xs.length from rfl]
 rw [if_pos ⟨by omega, by omega, by omega, .inl rfl, hs⟩, if_pos (by omega)]
theorem viewsF_rp {α : Type} {c : Cd α} {xs : List α} {t' : TypeId} {b k : Nat} {lo hi : Int} (hn : ∀ x, noRf (c.enc x) = true) (hb : h[b]? = some (some ⟨k, t', xs.map c.enc, false⟩)) (hc : partOk lo hi xs.length = true) :
  viewsF h [.rf b (0 + lo.toNat) (hi.toNat - lo.toNat) (xs.length - lo.toNat)] = some [.sl k (((xs.take hi.toNat).drop lo.toNat).map c.enc)] := by
 obtain ⟨h1, h2, h3⟩ := partOk_inv hc
 have e : viewF h (.rf b (0 + lo.toNat) (hi.toNat - lo.toNat) (xs.length - lo.toNat)) = some (.sl k (((xs.take hi.toNat).drop lo.toNat).map c.enc)) := by
  show view1 h (.rf b (0 + lo.toNat) (hi.toNat - lo.toNat) (xs.length - lo.toNat)) = _
  unfold view1
  simp only [hb]
  rw [if_pos ⟨by simp; omega, by simp [hn]⟩, Nat.zero_add, List.map_drop, List.map_take, List.drop_take]
 unfold viewsF
 rw [e]
 rfl
end
theorem kr.{u} {α : Sort u} {a b : α} (h : a = b := by kernel_rfl) : a = b := h
/-- The slots of a frame that are told. -/
def slG : Nat → List (Option AV) → List (Nat × AV)
 | _, [] => []
 | i, some x :: r => (i, x) :: slG (i + 1) r
 | i, none :: r => slG (i + 1) r
theorem slG_lk : ∀ (fr : List (Option AV)) (i t : Nat) (x : AV), lk (slG i fr) t = some x → ∃ j, t = i + j ∧ fr[j]? = some (some x)
 | [], _, _, _, h => by cases h
 | some y :: r, i, t, x, h => by
  rw [slG, lk_put] at h
  split at h
  ·next e => injection h with h; subst e h; exact ⟨0, rfl, rfl⟩
  ·obtain ⟨j, h1, h2⟩ := slG_lk r (i + 1) t x h
   exact ⟨j + 1, by omega, by simpa using h2⟩
 | none :: r, i, t, x, h => by
  obtain ⟨j, h1, h2⟩ := slG_lk r (i + 1) t x h
  exact ⟨j + 1, by omega, by simpa using h2⟩
def frO (o : Option St) : List (Nat × AV) := match o with
 | some s => slG 0 s.fr
 | none => []
def segH (o : Option St) : Option (Nat × Hp) := match o with
 | some s => some (s.fr.length, s.hp)
 | none => none
section
variable {E : Env} {cx : Cx} {ops : Array Oper} {rest : List Oper} {K : St → Prop} {n n0 k0 m : Nat} {l l' : List (Nat × AV)} {hp hp' : Hp} {Q : Ex → St → Prop} {id : Nat} {c : Code}
theorem segH_inv {o : Option St} (h : segH o = some (n, hp)) : ∃ fr, o = some ⟨fr, hp⟩ ∧ fr.length = n ∧ frO o = slG 0 fr := by
 unfold segH at h
 split at h
 ·next s =>
  injection h with h
  injection h with h1 h2
  subst h2
  exact ⟨s.fr, rfl, h1, rfl⟩
 ·cases h
theorem SR.comp {base : Nat} {w : World} {Z : Nat → Prop} {R : List RI} {a : Act} {fr : List (Option AV)} (sr : SR E base w Z R ⟨fr, hp⟩ a) (hl : fr.length = n) : SR E base w Z R ⟨Fr n (slG 0 fr), hp⟩ a := by
 refine ⟨sr.hh, ⟨?_, fun t x hx => sr.fr.2 t x ?_⟩, sr.mks, sr.gl, sr.bs⟩
 ·rw [Fr_len, ← hl]; exact sr.fr.1
 ·rw [Fr_get] at hx
  split at hx
  ·injection hx with hx
   obtain ⟨j, h1, h2⟩ := slG_lk fr 0 t x hx
   rw [Nat.zero_add] at h1
   subst h1
   exact h2
  ·cases hx
/-- Some operations: the state behind them is computed. -/
theorem RunL.sg (hE : EnvOk E) (m : Nat) (k : RunL E cx ops (rest.drop m) ⟨Fr n (frO (opsA E (evC E 0) ⟨none, false⟩ ops (rest.take m) ⟨Fr n l, hp⟩)), hp⟩ K) (h : segH (opsA E (evC E 0) ⟨none, false⟩ ops (rest.take m) ⟨Fr n l, hp⟩) = some (n, hp) := by kernel_rfl) : RunL E cx ops rest ⟨Fr n l, hp⟩ K := by
 obtain ⟨fr, h1, h2, h3⟩ := segH_inv h
 rw [h3] at k
 refine RunL.seg hE m h1 ?_
 exact fun ro base Q a w Z R hro sr hy q => k ro base Q a w Z R hro (sr.comp h2) hy q
theorem RunY.sg (hE : EnvOk E) (m : Nat) (hp' : Hp) (k : RunY E cx ops (rest.drop m) ⟨Fr n (frO (opsA E (evC E 0) ⟨none, false⟩ ops (rest.take m) ⟨Fr n l, hp⟩)), hp'⟩ K) (h : segH (opsA E (evC E 0) ⟨none, false⟩ ops (rest.take m) ⟨Fr n l, hp⟩) = some (n, hp') := by kernel_rfl) : RunY E cx ops rest ⟨Fr n l, hp⟩ K := by
 obtain ⟨fr, h1, h2, h3⟩ := segH_inv h
 rw [h3] at k
 refine RunY.seg hE m h1 ?_
 exact fun ro base Q a w Z R hro sr hy q => k ro base Q a w Z R hro (sr.comp h2) hy q
/-- All that are left. -/
theorem RunL.fin (hE : EnvOk E) (l' : List (Nat × AV)) (k : K ⟨Fr n l', hp⟩) (h : segB (opsA E (evC E 0) ⟨none, false⟩ ops rest ⟨Fr n l, hp⟩) l' = some (n, xs2 l', hp) := by kernel_rfl) : RunL E cx ops rest ⟨Fr n l, hp⟩ K :=
 RunL.segF hE rest.length l' hp (by rw [List.take_length]; exact h) (RunL.done (by simp) k)
theorem RunY.fin (hE : EnvOk E) (l' : List (Nat × AV)) (hp' : Hp) (k : K ⟨Fr n l', hp'⟩) (h : segB (opsA E (evC E 0) ⟨none, false⟩ ops rest ⟨Fr n l, hp⟩) l' = some (n, xs2 l', hp') := by kernel_rfl) : RunY E cx ops rest ⟨Fr n l, hp⟩ K :=
 RunY.segF hE rest.length l' hp' (by rw [List.take_length]; exact h) (RunY.done (by simp) k)
theorem RunS.last (hE : EnvOk E) {s : St} (h : segB (opsA E (evC E 0) ⟨none, false⟩ ops rest s) l' = some (n, xs2 l', hp) := by kernel_rfl) : RunS E ops rest s fun s' => Wk E s' ⟨Fr n l', hp⟩ :=
 RunS.segF hE rest.length l' hp (by rw [List.take_length]; exact h) (RunS.done (by simp) Wk.refl)
theorem SemY.rg (hE : EnvOk E) (l' : List (Nat × AV)) (k : Q .normal ⟨Fr n l', hp⟩) (h : segB (opsA E (evC E 0) ⟨none, false⟩ ops ops.toList ⟨Fr n l, hp⟩) l' = some (n, xs2 l', hp) := by kernel_rfl) : SemY E cx (.region id ops false) ⟨Fr n l, hp⟩ Q :=
 SemY.regionL (RunL.fin hE l' k h)
theorem SemY.sq (hE : EnvOk E) (l' : List (Nat × AV)) (k : SemY E cx c ⟨Fr n l', hp⟩ Q) (h : segB (opsA E (evC E 0) ⟨none, false⟩ ops ops.toList ⟨Fr n l, hp⟩) l' = some (n, xs2 l', hp) := by kernel_rfl) : SemY E cx (.seq (.region id ops false) c) ⟨Fr n l, hp⟩ Q :=
 SemY.seq (SemY.rg hE l' k h)
theorem Sem.rg (hE : EnvOk E) (l' : List (Nat × AV)) (hp' : Hp) (k : Q .normal ⟨Fr n l', hp'⟩) (h : segB (opsA E (evC E 0) ⟨none, false⟩ ops ops.toList ⟨Fr n l, hp⟩) l' = some (n, xs2 l', hp') := by kernel_rfl) : Sem E cx (.region id ops false) ⟨Fr n l, hp⟩ Q :=
 Sem.runS (RunS.last hE h) k
theorem Sem.sq (hE : EnvOk E) (l' : List (Nat × AV)) (hp' : Hp) (k : Sem E cx c ⟨Fr n l', hp'⟩ Q) (h : segB (opsA E (evC E 0) ⟨none, false⟩ ops ops.toList ⟨Fr n l, hp⟩) l' = some (n, xs2 l', hp') := by kernel_rfl) : Sem E cx (.seq (.region id ops false) c) ⟨Fr n l, hp⟩ Q :=
 Sem.seq (Sem.rg hE l' hp' k h)
end
/- trestle/trestlelaw09.Sizes -/
noncomputable def e_law09_Sizes : Env := E0
theorem e_law09_Sizes_ok : EnvOk e_law09_Sizes := E0_ok
noncomputable def cb_law09_Sizes : Code := codeOf Tryd.f35
def law09_Sizes_1 (x0 : (List Int)) : Nat → (List Int) → Int → Int → Option (((List Int) × Int))
 | 0, _, _, _ => none
 | f + 1, c2, c3, c4 =>
  if (decide (c4 < (((x0.take (mnI (x0.length : Int) 8).toNat).drop (0 : Int).toNat).length : Int))) = true then
  (idx ((x0.take (mnI (x0.length : Int) 8).toNat).drop (0 : Int).toNat) c4).bind fun v6 =>
  if (capOk 8 (c2.length + 1)) = true then
  law09_Sizes_1 x0 f (c2 ++ [(wr .i64 (1 + (wr .i64 (v6.tmod 6))))]) (wr .i64 (c3 + (wr .i64 (1 + (wr .i64 (v6.tmod 6)))))) (wr .i64 (c4 + 1))
  else none
  else
  some (c2, c3)
def law09_Sizes (x0 : (List Int)) : Option ((List Int) × Int) :=
 if (cutOk 0 (mnI (x0.length : Int) 8) x0.length) = true then
 (law09_Sizes_1 x0 100000 [] 0 0).bind fun r10 =>
 if (r10.2 == 0) = true then
 some ([1], 1)
 else
 some (r10.1, r10.2)
 else none
def cs_law09_Sizes : Cs ((List Int) × Unit) := (csC (cdL 1 (cdK .u8)) csN)
def er_law09_Sizes (r : (List Int) × Int) : AV := .tp [(cdL 1 cdI).enc r.1, cdI.enc r.2]
set_option maxHeartbeats 4000000 in
set_option maxRecDepth 100000 in
theorem law09_Sizes_1_ok (x0 : (List Int)) : ∀ (f : Nat) (c2 : (List Int)) (c3 : Int) (c4 : Int) (r : ((List Int) × Int)), law09_Sizes_1 x0 f c2 c3 c4 = some r → SemN e_law09_Sizes ⟨none, false⟩ (pc cb_law09_Sizes [1, 1, 1, 0, 1, 0, 0]) f ⟨Fr 37 [(4, hd 0 (c2.map cdI.enc)), (5, .v (.int .i64 c3)), (12, .sl 1 (((x0.take (mnI (x0.length : Int) 8).toNat).drop (0 : Int).toNat).map (cdK .u8).enc)), (13, .v (.int .i64 (((x0.take (mnI (x0.length : Int) 8).toNat).drop (0 : Int).toNat).length : Int))), (14, .v (.int .i64 c4))], [mk 1 3 (c2.map cdI.enc)]⟩ (fun e s => e = (.exit 0) ∧ Wk e_law09_Sizes s ⟨Fr 37 [(4, hd 0 (r.1.map cdI.enc)), (5, .v (.int .i64 r.2))], [mk 1 3 (r.1.map cdI.enc)]⟩) := by
 have he := e_law09_Sizes_ok
 intro f
 induction f with
 | zero => intro c2 c3 c4 r h; cases h
 | succ f ih0 =>
  intro c2 c3 c4 r h
  have ih := fun (c2 : (List Int)) (c3 : Int) (c4 : Int) => ih0 c2 c3 c4 r
  unfold law09_Sizes_1 at h
  refine SemN.succ ?_
  let p1 : Option Blk := mk 1 3 (c2.map cdI.enc)
  let p2 : Nat × AV := (14, .v (.int .i64 c4))
  let p3 : Nat × AV := (13, .v (.int .i64 (((x0.take (mnI (x0.length : Int) 8).toNat).drop (0 : Int).toNat).length : Int)))
  let p4 : Nat × AV := (12, .sl 1 (((x0.take (mnI (x0.length : Int) 8).toNat).drop (0 : Int).toNat).map (cdK .u8).enc))
  let p5 : Nat × AV := (5, .v (.int .i64 c3))
  refine Sem.sq he [(4, hd 0 (c2.map cdI.enc)), p5, p4, p3, p2, (15, .v (.bool (decide (c4 < (((x0.take (mnI (x0.length : Int) 8).toNat).drop (0 : Int).toNat).length : Int)))))] [p1] ?_
  refine Sem.seq ?_
  refine Sem.cond (b := (decide (c4 < (((x0.take (mnI (x0.length : Int) 8).toNat).drop (0 : Int).toNat).length : Int)))) kr (fun hb5 => ?_) (fun hb5 => ?_)
  ·rw [if_pos hb5] at h
   refine Sem.skip ?_
   refine Sem.seq ?_
   refine Sem.block ?_
   refine Sem.seq ?_
   obtain ⟨v6, hv6, h⟩ := Option.bind_eq_some_iff.1 h
   let p6 : Nat × AV := (7, .v (.int .u8 v6))
   refine Sem.runS (s1 := ⟨Fr 37 [(4, hd 0 (c2.map cdI.enc)), p5, p6, p4, p3, p2], [p1]⟩) ?_ ?_
   ·refine RunS.one he 0 rfl (op_q (wantedA_none rfl) rfl (q_indexAddr (a := .sl 1 (((x0.take (mnI (x0.length : Int) 8).toNat).drop (0 : Int).toNat).map (cdK .u8).enc)) (b := .v (.int .i64 c4)) kr kr (ix_sl (e := (cdK .u8).enc) (el := 5) (k := 1) (ki := .i64) kr kr hv6))) ?_
    exact RunS.last he
   refine Sem.seq ?_
   by_cases hk7 : (capOk 8 (c2.length + 1)) = true
   case neg => rw [if_neg hk7] at h; cases h
   rw [if_pos hk7] at h
   let p7 : Option Blk := mk 1 3 ((c2 ++ [(wr .i64 (1 + (wr .i64 (v6.tmod 6))))]).map cdI.enc)
   let p8 : Nat × AV := (4, hd 0 ((c2 ++ [(wr .i64 (1 + (wr .i64 (v6.tmod 6))))]).map cdI.enc))
   refine Sem.runS (s1 := ⟨Fr 37 [p8, p5, p6, p4, p3, p2], [p7]⟩) ?_ ?_
   ·let p9 : Option Blk := mk 1 3 ([(wr .i64 (1 + (wr .i64 (v6.tmod 6))))].map cdI.enc)
    refine RunS.segF (n := 37) he 6 [p5, p6, p4, p3, p2, (18, hd 0 (c2.map cdI.enc)), (23, hd 1 ([(wr .i64 (1 + (wr .i64 (v6.tmod 6))))].map cdI.enc))] [p1, p9] kr ?_
    refine RunS.one he 0 rfl (op_w (wantedA_none rfl) rfl kr kr (w_append (a := hd 0 (c2.map cdI.enc)) (b := hd 1 ([(wr .i64 (1 + (wr .i64 (v6.tmod 6))))].map cdI.enc)) kr kr (append_B (c := cdI) (xs := c2) (vs := [(wr .i64 (1 + (wr .i64 (v6.tmod 6))))]) (k := 1) (bytes := 8) (el := 3) kr kr (elems_hd (t := 3) kr) (List.cons_ne_nil _ _) kr hk7))) ?_
    refine RunS.segF (n := 37) he 1 [(4, hd 2 ((c2 ++ [(wr .i64 (1 + (wr .i64 (v6.tmod 6))))]).map cdI.enc)), p5, p6, p4, p3, p2] [none, p9, p7] kr ?_
    exact RunS.done rfl (Wk.sel2 [2] kr kr kr ⟨⟨_, rfl, bu_mk⟩, trivial⟩ ⟨lu_hd (b' := 2) kr kr, lu kr kr, lu kr kr, lu kr kr, lu kr kr, lu kr kr, trivial⟩)
   let p10 : Nat × AV := (5, .v (.int .i64 (wr .i64 (c3 + (wr .i64 (1 + (wr .i64 (v6.tmod 6))))))))
   refine Sem.rg he [p8, p10, p4, p3, p2] [p7] ?_
   let p11 : Nat × AV := (14, .v (.int .i64 (wr .i64 (c4 + 1))))
   refine Sem.rg he [p8, p10, p4, p3, p11] [p7] ?_
   exact SemN.wk (s1 := ⟨Fr 37 [p8, p10, p4, p3, p11], [p7]⟩) (Wk.sel2 [0] kr kr kr ⟨⟨_, rfl, bu_mk⟩, trivial⟩ ⟨lu_hd (b' := 0) kr kr, lu kr kr, lu kr kr, lu kr kr, lu kr kr, trivial⟩) (ih (c2 ++ [(wr .i64 (1 + (wr .i64 (v6.tmod 6))))]) (wr .i64 (c3 + (wr .i64 (1 + (wr .i64 (v6.tmod 6)))))) (wr .i64 (c4 + 1)) h)
  ·rw [if_f hb5] at h
   refine Sem.exit ?_
   have hq := Option.some.inj h; subst hq
   exact ⟨rfl, (Wk.sel2 [0] kr kr kr ⟨⟨_, rfl, bu_mk⟩, trivial⟩ ⟨lu_hd (b' := 0) kr kr, lu kr kr, trivial⟩)⟩
set_option maxHeartbeats 4000000 in
set_option maxRecDepth 100000 in
theorem law09_Sizes_sem (x0 : (List Int)) (r : (List Int) × Int) (h : law09_Sizes x0 = some r) : Sem e_law09_Sizes ⟨none, false⟩ cb_law09_Sizes ⟨Fr 37 (pairs0 0 (cs_law09_Sizes.enc (x0, ()))), []⟩ fun e s' => (e = .normal ∨ e = .ret) ∧ ∃ xs, resA e_law09_Sizes.P s'.fr s'.hp Tryd.f35.results.toList = some xs ∧ retA xs = er_law09_Sizes r := by
 have he := e_law09_Sizes_ok
 unfold law09_Sizes at h
 let p1 : Nat × AV := (0, .sl 1 (x0.map (cdK .u8).enc))
 refine Sem.wkQ (Sem.wk (s1 := ⟨Fr 37 [p1], []⟩) (Wk.fr kr) ?_)
 refine Sem.sq he [p1] [] ?_
 refine Sem.sq he [p1, (4, .e0)] [] ?_
 let p2 : Nat × AV := (5, .v (.int .i64 0))
 refine Sem.sq he [p1, (4, .e0), p2] [] ?_
 refine Sem.seq ?_
 refine Sem.seq ?_
 by_cases hk1 : (cutOk 0 (mnI (x0.length : Int) 8) x0.length) = true
 case neg => rw [if_neg hk1] at h; cases h
 rw [if_pos hk1] at h
 let p3 : Nat × AV := (14, .v (.int .i64 0))
 let p4 : Nat × AV := (13, .v (.int .i64 (((x0.take (mnI (x0.length : Int) 8).toNat).drop (0 : Int).toNat).length : Int)))
 let p5 : Nat × AV := (12, .sl 1 (((x0.take (mnI (x0.length : Int) 8).toNat).drop (0 : Int).toNat).map (cdK .u8).enc))
 refine Sem.runS (s1 := ⟨Fr 37 [(4, .e0), p2, p5, p4, p3], []⟩) ?_ ?_
 ·let p6 : Nat × AV := (8, .sl 1 (x0.map (cdK .u8).enc))
  refine RunS.segF (n := 37) he 2 [(4, .e0), p2, p6, (9, .sl 1 (x0.map (cdK .u8).enc))] [] kr ?_
  refine RunS.one he 0 rfl (op_q (wantedA_none rfl) rfl (q_len (a := .sl 1 (x0.map (cdK .u8).enc)) kr (len_sl (el := 5) kr))) ?_
  refine RunS.segF (n := 37) he 1 [(4, .e0), p2, p6, (11, .v (.int .i64 (mnI (x0.length : Int) 8)))] [] kr ?_
  refine RunS.one he 0 rfl (op_q (wantedA_none rfl) rfl (q_slice (a := .sl 1 (x0.map (cdK .u8).enc)) (l := none) (u := (some (.v (.int .i64 (mnI (x0.length : Int) 8))))) (m := none) kr kr kr rfl (slice_sl (xs := x0) (e := (cdK .u8).enc) (k := 1) (el := 5) (lo := 0) (hi := (mnI (x0.length : Int) 8)) kr kr rfl (natB_i (cut_hi hk1)) hk1))) ?_
  refine RunS.one he 0 rfl (op_q (wantedA_none rfl) rfl (q_len (a := .sl 1 (((x0.take (mnI (x0.length : Int) 8).toNat).drop (0 : Int).toNat).map (cdK .u8).enc)) kr (len_sl (el := 5) kr))) ?_
  exact RunS.last he
 refine Sem.block ?_
 obtain ⟨r10, hr10, h⟩ := Option.bind_eq_some_iff.1 h
 refine Sem.loop (n := 100000) ?_
 refine Sem.cutN (SemN.wk (s1 := ⟨Fr 37 [(4, hd 0 ([].map cdI.enc)), p2, p5, p4, p3], [mk 1 3 ([].map cdI.enc)]⟩) (Wk.trans (s1 := ⟨Fr 37 [(4, hd 0 ([].map cdI.enc)), p2, p5, p4, p3], [mk 1 3 ([].map cdI.enc)]⟩) Wk.none (Wk.sel2 [0] kr kr kr ⟨⟨_, rfl, bu_none⟩, trivial⟩ ⟨lu kr kr, lu kr kr, lu kr kr, lu kr kr, lu kr kr, trivial⟩)) (law09_Sizes_1_ok x0 _ [] 0 0 _ hr10)) ?_
 refine Sem.seq ?_
 let p7 : Option Blk := mk 1 3 (r10.1.map cdI.enc)
 refine Sem.sq he [(4, hd 0 (r10.1.map cdI.enc)), (5, .v (.int .i64 r10.2)), (33, .v (.bool (r10.2 == 0)))] [p7] ?_
 refine Sem.cond (b := (r10.2 == 0)) kr (fun hb11 => ?_) (fun hb11 => ?_)
 ·rw [if_pos hb11] at h
  refine Sem.seq ?_
  let p8 : Nat × AV := (3, .v (.int .i64 1))
  refine Sem.runS (s1 := ⟨Fr 37 [(2, hd 0 ([1].map cdI.enc)), p8], [mk 1 3 ([1].map cdI.enc)]⟩) ?_ ?_
  ·refine RunS.segF (n := 37) he 3 [(2, hd 1 ([1].map cdI.enc)), p8] [p7, mk 1 3 ([1].map cdI.enc)] kr ?_
   exact RunS.done rfl (Wk.sel2 [1] kr kr kr ⟨⟨_, rfl, bu_mk⟩, trivial⟩ ⟨lu_hd (b' := 1) kr kr, lu kr kr, trivial⟩)
  refine Sem.ret ?_
  have hq := Option.some.inj h; subst hq
  exact ⟨⟨Fr 37 [(2, .sl 1 ([1].map cdI.enc)), p8], []⟩, (Wk.trans (s1 := ⟨Fr 37 [(2, .sl 1 ([1].map cdI.enc)), p8], [none]⟩) (Wk.frzG 0 (.inl kr) ⟨.inl rfl, trivial⟩ ⟨⟨hd 0 ([1].map cdI.enc), kr, fz_hd (t := 3) kr enc_ok⟩, ⟨.v (.int .i64 1), kr, .inl rfl⟩, trivial⟩) (Wk.sel2 [] kr kr kr trivial ⟨lu kr kr, lu kr kr, trivial⟩)), .inr rfl, [.sl 1 ([1].map cdI.enc), .v (.int .i64 1)], kr, kr⟩
 ·rw [if_f hb11] at h
  refine Sem.skip ?_
  let p9 : Nat × AV := (3, .v (.int .i64 r10.2))
  refine Sem.sq he [(2, hd 0 (r10.1.map cdI.enc)), p9] [p7] ?_
  refine Sem.ret ?_
  have hq := Option.some.inj h; subst hq
  exact ⟨⟨Fr 37 [(2, .sl 1 (r10.1.map cdI.enc)), p9], []⟩, (Wk.trans (s1 := ⟨Fr 37 [(2, .sl 1 (r10.1.map cdI.enc)), p9], [none]⟩) (Wk.frzG 0 (.inl kr) ⟨.inl rfl, trivial⟩ ⟨⟨hd 0 (r10.1.map cdI.enc), kr, fz_hd (t := 3) kr enc_ok⟩, ⟨.v (.int .i64 r10.2), kr, .inl rfl⟩, trivial⟩) (Wk.sel2 [] kr kr kr trivial ⟨lu kr kr, lu kr kr, trivial⟩)), .inr rfl, [.sl 1 (r10.1.map cdI.enc), .v (.int .i64 r10.2)], kr, kr⟩
def t_law09_Sizes : List AV → Option AV := told cs_law09_Sizes (fun a => law09_Sizes a.1) er_law09_Sizes
theorem x_law09_Sizes : XOk 35 t_law09_Sizes := by
 refine EnvOk.x (E := e_law09_Sizes) (contract_ok e_law09_Sizes_ok (fn := Tryd.f35) (c := cb_law09_Sizes) ?h1 ?h2 ⟨Tryd.call35⟩ cs_law09_Sizes (fun a => law09_Sizes a.1) er_law09_Sizes (fun a => (by show 1 ≤ 37; decide)) ?h3 ?h4) rfl rfl
 case h1 => kernel_rfl
 case h2 => kernel_rfl
 case h3 => intro b; kernel_rfl
 case h4 => exact fun a b h => law09_Sizes_sem a.1 b h
end Go.Proofs.YtcmgmkepodbpkaaDoor
