/- Lemmas for the proof. -/
import Derived.Test.YtiphapnckldpbaaGreatDoorCourtRefinesM1
import Derived.Test.YtiphapnckldpbaaGreatDoorCourtRefinesM2
import Derived.Test.YtiphapnckldpbaaGreatDoorProg
import Derived.OpenShut
import Derived.Test.YtiphapnckldpbaaGreatDoorCards
import Derived.Test.YtiphapnckldpbaaGreatDoorTie
import Derived.WalkKit
import Derived.ProofKit
import Derived.Deep.DeepHandedRow
import Derived.Lib.LaidTab
namespace Go.Proofs.YtiphapnckldpbaaGreatDoor
open Go.RowKit
noncomputable def fnT0 : Nat → Option Func
 | 2 => some Tryz.f2
 | 3 => some Tryz.f3
 | 4 => some Tryz.f4
 | 5 => some Tryz.f5
 | 6 => some Tryz.f6
 | 7 => some Tryz.f7
 | 8 => some Tryz.f8
 | 9 => some Tryz.f9
 | 10 => some Tryz.f10
 | 11 => some Tryz.f11
 | 12 => some Tryz.f12
 | 13 => some Tryz.f13
 | 14 => some Tryz.f14
 | 15 => some Tryz.f15
 | 16 => some Tryz.f16
 | 17 => some Tryz.f17
 | 18 => some Tryz.f18
 | 19 => some Tryz.f19
 | 20 => some Tryz.f20
 | 21 => some Tryz.f21
 | 22 => some Tryz.f22
 | 23 => some Tryz.f23
 | 24 => some Tryz.f24
 | 25 => some Tryz.f25
 | 27 => some Tryz.f27
 | 28 => some Tryz.f28
 | 29 => some Tryz.f29
 | 30 => some Tryz.f30
 | 32 => some Tryz.f32
 | 33 => some Tryz.f33
 | 34 => some Tryz.f34
 | 35 => some Tryz.f35
 | 36 => some Tryz.f36
 | 37 => some Tryz.f37
 | 38 => some Tryz.f38
 | 39 => some Tryz.f39
 | 40 => some Tryz.f40
 | 41 => some Tryz.f41
 | 42 => some Tryz.f42
 | 43 => some Tryz.f43
 | _ => none
noncomputable def fnT1 : Nat → Option Func
 | 44 => some Tryz.f44
 | 45 => some Tryz.f45
 | 46 => some Tryz.f46
 | 47 => some Tryz.f47
 | 48 => some Tryz.f48
 | 49 => some Tryz.f49
 | 50 => some Tryz.f50
 | 52 => some Tryz.f52
 | 53 => some Tryz.f53
 | 54 => some Tryz.f54
 | 55 => some Tryz.f55
 | 56 => some Tryz.f56
 | 57 => some Tryz.f57
 | 58 => some Tryz.f58
 | 59 => some Tryz.f59
 | 60 => some Tryz.f60
 | 61 => some Tryz.f61
 | 62 => some Tryz.f62
 | 63 => some Tryz.f63
 | 64 => some Tryz.f64
 | 65 => some Tryz.f65
 | 66 => some Tryz.f66
 | 67 => some Tryz.f67
 | 68 => some Tryz.f68
 | 69 => some Tryz.f69
 | 70 => some Tryz.f70
 | 71 => some Tryz.f71
 | 72 => some Tryz.f72
 | 73 => some Tryz.f73
 | 74 => some Tryz.f74
 | 76 => some Tryz.f76
 | 77 => some Tryz.f77
 | 78 => some Tryz.f78
 | 79 => some Tryz.f79
 | 80 => some Tryz.f80
 | 81 => some Tryz.f81
 | 82 => some Tryz.f82
 | 84 => some Tryz.f84
 | 85 => some Tryz.f85
 | 86 => some Tryz.f86
 | _ => none
noncomputable def fnT2 : Nat → Option Func
 | 87 => some Tryz.f87
 | 88 => some Tryz.f88
 | 89 => some Tryz.f89
 | 90 => some Tryz.f90
 | 91 => some Tryz.f91
 | 92 => some Tryz.f92
 | 93 => some Tryz.f93
 | 94 => some Tryz.f94
 | 95 => some Tryz.f95
 | 96 => some Tryz.f96
 | 97 => some Tryz.f97
 | 98 => some Tryz.f98
 | 99 => some Tryz.f99
 | 100 => some Tryz.f100
 | 101 => some Tryz.f101
 | 102 => some Tryz.f102
 | 103 => some Tryz.f103
 | 104 => some Tryz.f104
 | 105 => some Tryz.f105
 | 106 => some Tryz.f106
 | 107 => some Tryz.f107
 | 108 => some Tryz.f108
 | 109 => some Tryz.f109
 | 110 => some Tryz.f110
 | 112 => some Tryz.f112
 | 113 => some Tryz.f113
 | 114 => some Tryz.f114
 | 115 => some Tryz.f115
 | 116 => some Tryz.f116
 | 117 => some Tryz.f117
 | 118 => some Tryz.f118
 | 119 => some Tryz.f119
 | 120 => some Tryz.f120
 | 121 => some Tryz.f121
 | 122 => some Tryz.f122
 | 123 => some Tryz.f123
 | 124 => some Tryz.f124
 | 125 => some Tryz.f125
 | 126 => some Tryz.f126
 | 127 => some Tryz.f127
 | _ => none
noncomputable def fnT3 : Nat → Option Func
 | 128 => some Tryz.f128
 | 129 => some Tryz.f129
 | 130 => some Tryz.f130
 | 131 => some Tryz.f131
 | 132 => some Tryz.f132
 | 133 => some Tryz.f133
 | 134 => some Tryz.f134
 | 135 => some Tryz.f135
 | 136 => some Tryz.f136
 | 137 => some Tryz.f137
 | 138 => some Tryz.f138
 | 139 => some Tryz.f139
 | 140 => some Tryz.f140
 | 142 => some Tryz.f142
 | 143 => some Tryz.f143
 | 144 => some Tryz.f144
 | 145 => some Tryz.f145
 | 147 => some Tryz.f147
 | 148 => some Tryz.f148
 | 149 => some Tryz.f149
 | 150 => some Tryz.f150
 | 151 => some Tryz.f151
 | 152 => some Tryz.f152
 | 153 => some Tryz.f153
 | 154 => some Tryz.f154
 | 155 => some Tryz.f155
 | 156 => some Tryz.f156
 | 157 => some Tryz.f157
 | 159 => some Tryz.f159
 | 160 => some Tryz.f160
 | 162 => some Tryz.f162
 | 163 => some Tryz.f163
 | 164 => some Tryz.f164
 | 165 => some Tryz.f165
 | 166 => some Tryz.f166
 | 167 => some Tryz.f167
 | 168 => some Tryz.f168
 | 169 => some Tryz.f169
 | 170 => some Tryz.f170
 | 171 => some Tryz.f171
 | _ => none
noncomputable def fnT4 : Nat → Option Func
 | 172 => some Tryz.f172
 | 173 => some Tryz.f173
 | 174 => some Tryz.f174
 | 175 => some Tryz.f175
 | 176 => some Tryz.f176
 | 177 => some Tryz.f177
 | 178 => some Tryz.f178
 | 179 => some Tryz.f179
 | 180 => some Tryz.f180
 | 181 => some Tryz.f181
 | 182 => some Tryz.f182
 | 183 => some Tryz.f183
 | 184 => some Tryz.f184
 | 185 => some Tryz.f185
 | 186 => some Tryz.f186
 | 187 => some Tryz.f187
 | 188 => some Tryz.f188
 | 189 => some Tryz.f189
 | 190 => some Tryz.f190
 | 191 => some Tryz.f191
 | 192 => some Tryz.f192
 | 193 => some Tryz.f193
 | 194 => some Tryz.f194
 | 195 => some Tryz.f195
 | 196 => some Tryz.f196
 | 221 => some Tryz.f221
 | _ => none
noncomputable def fnT (f : Nat) : Option Func := (match fnT0 f with | some fn => some fn | none => (match fnT1 f with | some fn => some fn | none => (match fnT2 f with | some fn => some fn | none => (match fnT3 f with | some fn => some fn | none => fnT4 f))))
def idT : Nat → Bool
 | 141 => true
 | _ => false
noncomputable def E0 : Env := ⟨Tryz.prog, fnT, fun _ => none, fun _ => none, idT⟩
def bodyOk (fn : Func) : Bool := match fn.body with
 | some c => drawOk c
 | none => false
theorem bodyOk_inv {fn : Func} (h : bodyOk fn = true) : ∀ c, fn.body = some c → drawOk c = true := fun c hc => by unfold bodyOk at h; rw [hc] at h; exact h
theorem dk2 : bodyOk Tryz.f2 = true := by kernel_rfl
theorem dk3 : bodyOk Tryz.f3 = true := by kernel_rfl
theorem dk4 : bodyOk Tryz.f4 = true := by kernel_rfl
theorem dk5 : bodyOk Tryz.f5 = true := by kernel_rfl
theorem dk6 : bodyOk Tryz.f6 = true := by kernel_rfl
theorem dk7 : bodyOk Tryz.f7 = true := by kernel_rfl
theorem dk8 : bodyOk Tryz.f8 = true := by kernel_rfl
theorem dk9 : bodyOk Tryz.f9 = true := by kernel_rfl
theorem dk10 : bodyOk Tryz.f10 = true := by kernel_rfl
theorem dk11 : bodyOk Tryz.f11 = true := by kernel_rfl
theorem dk12 : bodyOk Tryz.f12 = true := by kernel_rfl
theorem dk13 : bodyOk Tryz.f13 = true := by kernel_rfl
theorem dk14 : bodyOk Tryz.f14 = true := by kernel_rfl
theorem dk15 : bodyOk Tryz.f15 = true := by kernel_rfl
theorem dk16 : bodyOk Tryz.f16 = true := by kernel_rfl
theorem dk17 : bodyOk Tryz.f17 = true := by kernel_rfl
theorem dk18 : bodyOk Tryz.f18 = true := by kernel_rfl
theorem dk19 : bodyOk Tryz.f19 = true := by kernel_rfl
theorem dk20 : bodyOk Tryz.f20 = true := by kernel_rfl
theorem dk21 : bodyOk Tryz.f21 = true := by kernel_rfl
theorem dk22 : bodyOk Tryz.f22 = true := by kernel_rfl
theorem dk23 : bodyOk Tryz.f23 = true := by kernel_rfl
theorem dk24 : bodyOk Tryz.f24 = true := by kernel_rfl
theorem dk25 : bodyOk Tryz.f25 = true := by kernel_rfl
theorem dk27 : bodyOk Tryz.f27 = true := by kernel_rfl
theorem dk28 : bodyOk Tryz.f28 = true := by kernel_rfl
theorem dk29 : bodyOk Tryz.f29 = true := by kernel_rfl
theorem dk30 : bodyOk Tryz.f30 = true := by kernel_rfl
theorem dk32 : bodyOk Tryz.f32 = true := by kernel_rfl
theorem dk33 : bodyOk Tryz.f33 = true := by kernel_rfl
theorem dk34 : bodyOk Tryz.f34 = true := by kernel_rfl
theorem dk35 : bodyOk Tryz.f35 = true := by kernel_rfl
theorem dk36 : bodyOk Tryz.f36 = true := by kernel_rfl
theorem dk37 : bodyOk Tryz.f37 = true := by kernel_rfl
theorem dk38 : bodyOk Tryz.f38 = true := by kernel_rfl
theorem dk39 : bodyOk Tryz.f39 = true := by kernel_rfl
theorem dk40 : bodyOk Tryz.f40 = true := by kernel_rfl
theorem dk41 : bodyOk Tryz.f41 = true := by kernel_rfl
theorem dk42 : bodyOk Tryz.f42 = true := by kernel_rfl
theorem dk43 : bodyOk Tryz.f43 = true := by kernel_rfl
theorem dk44 : bodyOk Tryz.f44 = true := by kernel_rfl
theorem dk45 : bodyOk Tryz.f45 = true := by kernel_rfl
theorem dk46 : bodyOk Tryz.f46 = true := by kernel_rfl
theorem dk47 : bodyOk Tryz.f47 = true := by kernel_rfl
theorem dk48 : bodyOk Tryz.f48 = true := by kernel_rfl
theorem dk49 : bodyOk Tryz.f49 = true := by kernel_rfl
theorem dk50 : bodyOk Tryz.f50 = true := by kernel_rfl
theorem dk52 : bodyOk Tryz.f52 = true := by kernel_rfl
theorem dk53 : bodyOk Tryz.f53 = true := by kernel_rfl
theorem dk54 : bodyOk Tryz.f54 = true := by kernel_rfl
theorem dk55 : bodyOk Tryz.f55 = true := by kernel_rfl
theorem dk56 : bodyOk Tryz.f56 = true := by kernel_rfl
theorem dk57 : bodyOk Tryz.f57 = true := by kernel_rfl
theorem dk58 : bodyOk Tryz.f58 = true := by kernel_rfl
theorem dk59 : bodyOk Tryz.f59 = true := by kernel_rfl
theorem dk60 : bodyOk Tryz.f60 = true := by kernel_rfl
theorem dk61 : bodyOk Tryz.f61 = true := by kernel_rfl
theorem dk62 : bodyOk Tryz.f62 = true := by kernel_rfl
theorem dk63 : bodyOk Tryz.f63 = true := by kernel_rfl
theorem dk64 : bodyOk Tryz.f64 = true := by kernel_rfl
theorem dk65 : bodyOk Tryz.f65 = true := by kernel_rfl
theorem dk66 : bodyOk Tryz.f66 = true := by kernel_rfl
theorem dk67 : bodyOk Tryz.f67 = true := by kernel_rfl
theorem dk68 : bodyOk Tryz.f68 = true := by kernel_rfl
theorem dk69 : bodyOk Tryz.f69 = true := by kernel_rfl
theorem dk70 : bodyOk Tryz.f70 = true := by kernel_rfl
theorem dk71 : bodyOk Tryz.f71 = true := by kernel_rfl
theorem dk72 : bodyOk Tryz.f72 = true := by kernel_rfl
theorem dk73 : bodyOk Tryz.f73 = true := by kernel_rfl
theorem dk74 : bodyOk Tryz.f74 = true := by kernel_rfl
theorem dk76 : bodyOk Tryz.f76 = true := by kernel_rfl
theorem dk77 : bodyOk Tryz.f77 = true := by kernel_rfl
theorem dk78 : bodyOk Tryz.f78 = true := by kernel_rfl
theorem dk79 : bodyOk Tryz.f79 = true := by kernel_rfl
theorem dk80 : bodyOk Tryz.f80 = true := by kernel_rfl
theorem dk81 : bodyOk Tryz.f81 = true := by kernel_rfl
theorem dk82 : bodyOk Tryz.f82 = true := by kernel_rfl
theorem dk84 : bodyOk Tryz.f84 = true := by kernel_rfl
theorem dk85 : bodyOk Tryz.f85 = true := by kernel_rfl
theorem dk86 : bodyOk Tryz.f86 = true := by kernel_rfl
theorem dk87 : bodyOk Tryz.f87 = true := by kernel_rfl
theorem dk88 : bodyOk Tryz.f88 = true := by kernel_rfl
theorem dk89 : bodyOk Tryz.f89 = true := by kernel_rfl
theorem dk90 : bodyOk Tryz.f90 = true := by kernel_rfl
theorem dk91 : bodyOk Tryz.f91 = true := by kernel_rfl
theorem dk92 : bodyOk Tryz.f92 = true := by kernel_rfl
theorem dk93 : bodyOk Tryz.f93 = true := by kernel_rfl
theorem dk94 : bodyOk Tryz.f94 = true := by kernel_rfl
theorem dk95 : bodyOk Tryz.f95 = true := by kernel_rfl
theorem dk96 : bodyOk Tryz.f96 = true := by kernel_rfl
theorem dk97 : bodyOk Tryz.f97 = true := by kernel_rfl
theorem dk98 : bodyOk Tryz.f98 = true := by kernel_rfl
theorem dk99 : bodyOk Tryz.f99 = true := by kernel_rfl
theorem dk100 : bodyOk Tryz.f100 = true := by kernel_rfl
theorem dk101 : bodyOk Tryz.f101 = true := by kernel_rfl
theorem dk102 : bodyOk Tryz.f102 = true := by kernel_rfl
theorem dk103 : bodyOk Tryz.f103 = true := by kernel_rfl
theorem dk104 : bodyOk Tryz.f104 = true := by kernel_rfl
theorem dk105 : bodyOk Tryz.f105 = true := by kernel_rfl
theorem dk106 : bodyOk Tryz.f106 = true := by kernel_rfl
theorem dk107 : bodyOk Tryz.f107 = true := by kernel_rfl
theorem dk108 : bodyOk Tryz.f108 = true := by kernel_rfl
theorem dk109 : bodyOk Tryz.f109 = true := by kernel_rfl
theorem dk110 : bodyOk Tryz.f110 = true := by kernel_rfl
theorem dk112 : bodyOk Tryz.f112 = true := by kernel_rfl
theorem dk113 : bodyOk Tryz.f113 = true := by kernel_rfl
theorem dk114 : bodyOk Tryz.f114 = true := by kernel_rfl
theorem dk115 : bodyOk Tryz.f115 = true := by kernel_rfl
theorem dk116 : bodyOk Tryz.f116 = true := by kernel_rfl
theorem dk117 : bodyOk Tryz.f117 = true := by kernel_rfl
theorem dk118 : bodyOk Tryz.f118 = true := by kernel_rfl
theorem dk119 : bodyOk Tryz.f119 = true := by kernel_rfl
theorem dk120 : bodyOk Tryz.f120 = true := by kernel_rfl
theorem dk121 : bodyOk Tryz.f121 = true := by kernel_rfl
theorem dk122 : bodyOk Tryz.f122 = true := by kernel_rfl
theorem dk123 : bodyOk Tryz.f123 = true := by kernel_rfl
theorem dk124 : bodyOk Tryz.f124 = true := by kernel_rfl
theorem dk125 : bodyOk Tryz.f125 = true := by kernel_rfl
theorem dk126 : bodyOk Tryz.f126 = true := by kernel_rfl
theorem dk127 : bodyOk Tryz.f127 = true := by kernel_rfl
theorem dk128 : bodyOk Tryz.f128 = true := by kernel_rfl
theorem dk129 : bodyOk Tryz.f129 = true := by kernel_rfl
theorem dk130 : bodyOk Tryz.f130 = true := by kernel_rfl
theorem dk131 : bodyOk Tryz.f131 = true := by kernel_rfl
theorem dk132 : bodyOk Tryz.f132 = true := by kernel_rfl
theorem dk133 : bodyOk Tryz.f133 = true := by kernel_rfl
theorem dk134 : bodyOk Tryz.f134 = true := by kernel_rfl
theorem dk135 : bodyOk Tryz.f135 = true := by kernel_rfl
theorem dk136 : bodyOk Tryz.f136 = true := by kernel_rfl
theorem dk137 : bodyOk Tryz.f137 = true := by kernel_rfl
theorem dk138 : bodyOk Tryz.f138 = true := by kernel_rfl
theorem dk139 : bodyOk Tryz.f139 = true := by kernel_rfl
theorem dk140 : bodyOk Tryz.f140 = true := by kernel_rfl
theorem dk142 : bodyOk Tryz.f142 = true := by kernel_rfl
theorem dk143 : bodyOk Tryz.f143 = true := by kernel_rfl
theorem dk144 : bodyOk Tryz.f144 = true := by kernel_rfl
theorem dk145 : bodyOk Tryz.f145 = true := by kernel_rfl
theorem dk147 : bodyOk Tryz.f147 = true := by kernel_rfl
theorem dk148 : bodyOk Tryz.f148 = true := by kernel_rfl
theorem dk149 : bodyOk Tryz.f149 = true := by kernel_rfl
theorem dk150 : bodyOk Tryz.f150 = true := by kernel_rfl
theorem dk151 : bodyOk Tryz.f151 = true := by kernel_rfl
theorem dk152 : bodyOk Tryz.f152 = true := by kernel_rfl
theorem dk153 : bodyOk Tryz.f153 = true := by kernel_rfl
theorem dk154 : bodyOk Tryz.f154 = true := by kernel_rfl
theorem dk155 : bodyOk Tryz.f155 = true := by kernel_rfl
theorem dk156 : bodyOk Tryz.f156 = true := by kernel_rfl
theorem dk157 : bodyOk Tryz.f157 = true := by kernel_rfl
theorem dk159 : bodyOk Tryz.f159 = true := by kernel_rfl
theorem dk160 : bodyOk Tryz.f160 = true := by kernel_rfl
theorem dk162 : bodyOk Tryz.f162 = true := by kernel_rfl
theorem dk163 : bodyOk Tryz.f163 = true := by kernel_rfl
theorem dk164 : bodyOk Tryz.f164 = true := by kernel_rfl
theorem dk165 : bodyOk Tryz.f165 = true := by kernel_rfl
theorem dk166 : bodyOk Tryz.f166 = true := by kernel_rfl
theorem dk167 : bodyOk Tryz.f167 = true := by kernel_rfl
theorem dk168 : bodyOk Tryz.f168 = true := by kernel_rfl
theorem dk169 : bodyOk Tryz.f169 = true := by kernel_rfl
theorem dk170 : bodyOk Tryz.f170 = true := by kernel_rfl
theorem dk171 : bodyOk Tryz.f171 = true := by kernel_rfl
theorem dk172 : bodyOk Tryz.f172 = true := by kernel_rfl
theorem dk173 : bodyOk Tryz.f173 = true := by kernel_rfl
theorem dk174 : bodyOk Tryz.f174 = true := by kernel_rfl
theorem dk175 : bodyOk Tryz.f175 = true := by kernel_rfl
theorem dk176 : bodyOk Tryz.f176 = true := by kernel_rfl
theorem dk177 : bodyOk Tryz.f177 = true := by kernel_rfl
theorem dk178 : bodyOk Tryz.f178 = true := by kernel_rfl
theorem dk179 : bodyOk Tryz.f179 = true := by kernel_rfl
theorem dk180 : bodyOk Tryz.f180 = true := by kernel_rfl
theorem dk181 : bodyOk Tryz.f181 = true := by kernel_rfl
theorem dk182 : bodyOk Tryz.f182 = true := by kernel_rfl
theorem dk183 : bodyOk Tryz.f183 = true := by kernel_rfl
theorem dk184 : bodyOk Tryz.f184 = true := by kernel_rfl
theorem dk185 : bodyOk Tryz.f185 = true := by kernel_rfl
theorem dk186 : bodyOk Tryz.f186 = true := by kernel_rfl
theorem dk187 : bodyOk Tryz.f187 = true := by kernel_rfl
theorem dk188 : bodyOk Tryz.f188 = true := by kernel_rfl
theorem dk189 : bodyOk Tryz.f189 = true := by kernel_rfl
theorem dk190 : bodyOk Tryz.f190 = true := by kernel_rfl
theorem dk191 : bodyOk Tryz.f191 = true := by kernel_rfl
theorem dk192 : bodyOk Tryz.f192 = true := by kernel_rfl
theorem dk193 : bodyOk Tryz.f193 = true := by kernel_rfl
theorem dk194 : bodyOk Tryz.f194 = true := by kernel_rfl
theorem dk195 : bodyOk Tryz.f195 = true := by kernel_rfl
theorem dk196 : bodyOk Tryz.f196 = true := by kernel_rfl
theorem dk221 : bodyOk Tryz.f221 = true := by kernel_rfl
theorem fk2 : Tryz.prog.funcs[2]? = some Tryz.f2 := Tryz.func2
theorem fk3 : Tryz.prog.funcs[3]? = some Tryz.f3 := Tryz.func3
theorem fk4 : Tryz.prog.funcs[4]? = some Tryz.f4 := Tryz.func4
theorem fk5 : Tryz.prog.funcs[5]? = some Tryz.f5 := Tryz.func5
theorem fk6 : Tryz.prog.funcs[6]? = some Tryz.f6 := Tryz.func6
theorem fk7 : Tryz.prog.funcs[7]? = some Tryz.f7 := Tryz.func7
theorem fk8 : Tryz.prog.funcs[8]? = some Tryz.f8 := Tryz.func8
theorem fk9 : Tryz.prog.funcs[9]? = some Tryz.f9 := Tryz.func9
theorem fk10 : Tryz.prog.funcs[10]? = some Tryz.f10 := Tryz.func10
theorem fk11 : Tryz.prog.funcs[11]? = some Tryz.f11 := Tryz.func11
theorem fk12 : Tryz.prog.funcs[12]? = some Tryz.f12 := Tryz.func12
theorem fk13 : Tryz.prog.funcs[13]? = some Tryz.f13 := Tryz.func13
theorem fk14 : Tryz.prog.funcs[14]? = some Tryz.f14 := Tryz.func14
theorem fk15 : Tryz.prog.funcs[15]? = some Tryz.f15 := Tryz.func15
theorem fk16 : Tryz.prog.funcs[16]? = some Tryz.f16 := Tryz.func16
theorem fk17 : Tryz.prog.funcs[17]? = some Tryz.f17 := Tryz.func17
theorem fk18 : Tryz.prog.funcs[18]? = some Tryz.f18 := Tryz.func18
theorem fk19 : Tryz.prog.funcs[19]? = some Tryz.f19 := Tryz.func19
theorem fk20 : Tryz.prog.funcs[20]? = some Tryz.f20 := Tryz.func20
theorem fk21 : Tryz.prog.funcs[21]? = some Tryz.f21 := Tryz.func21
theorem fk22 : Tryz.prog.funcs[22]? = some Tryz.f22 := Tryz.func22
theorem fk23 : Tryz.prog.funcs[23]? = some Tryz.f23 := Tryz.func23
theorem fk24 : Tryz.prog.funcs[24]? = some Tryz.f24 := Tryz.func24
theorem fk25 : Tryz.prog.funcs[25]? = some Tryz.f25 := Tryz.func25
theorem fk27 : Tryz.prog.funcs[27]? = some Tryz.f27 := Tryz.func27
theorem fk28 : Tryz.prog.funcs[28]? = some Tryz.f28 := Tryz.func28
theorem fk29 : Tryz.prog.funcs[29]? = some Tryz.f29 := Tryz.func29
theorem fk30 : Tryz.prog.funcs[30]? = some Tryz.f30 := Tryz.func30
theorem fk32 : Tryz.prog.funcs[32]? = some Tryz.f32 := Tryz.func32
theorem fk33 : Tryz.prog.funcs[33]? = some Tryz.f33 := Tryz.func33
theorem fk34 : Tryz.prog.funcs[34]? = some Tryz.f34 := Tryz.func34
theorem fk35 : Tryz.prog.funcs[35]? = some Tryz.f35 := Tryz.func35
theorem fk36 : Tryz.prog.funcs[36]? = some Tryz.f36 := Tryz.func36
theorem fk37 : Tryz.prog.funcs[37]? = some Tryz.f37 := Tryz.func37
theorem fk38 : Tryz.prog.funcs[38]? = some Tryz.f38 := Tryz.func38
theorem fk39 : Tryz.prog.funcs[39]? = some Tryz.f39 := Tryz.func39
theorem fk40 : Tryz.prog.funcs[40]? = some Tryz.f40 := Tryz.func40
theorem fk41 : Tryz.prog.funcs[41]? = some Tryz.f41 := Tryz.func41
theorem fk42 : Tryz.prog.funcs[42]? = some Tryz.f42 := Tryz.func42
theorem fk43 : Tryz.prog.funcs[43]? = some Tryz.f43 := Tryz.func43
theorem fk44 : Tryz.prog.funcs[44]? = some Tryz.f44 := Tryz.func44
theorem fk45 : Tryz.prog.funcs[45]? = some Tryz.f45 := Tryz.func45
theorem fk46 : Tryz.prog.funcs[46]? = some Tryz.f46 := Tryz.func46
theorem fk47 : Tryz.prog.funcs[47]? = some Tryz.f47 := Tryz.func47
theorem fk48 : Tryz.prog.funcs[48]? = some Tryz.f48 := Tryz.func48
theorem fk49 : Tryz.prog.funcs[49]? = some Tryz.f49 := Tryz.func49
theorem fk50 : Tryz.prog.funcs[50]? = some Tryz.f50 := Tryz.func50
theorem fk52 : Tryz.prog.funcs[52]? = some Tryz.f52 := Tryz.func52
theorem fk53 : Tryz.prog.funcs[53]? = some Tryz.f53 := Tryz.func53
theorem fk54 : Tryz.prog.funcs[54]? = some Tryz.f54 := Tryz.func54
theorem fk55 : Tryz.prog.funcs[55]? = some Tryz.f55 := Tryz.func55
theorem fk56 : Tryz.prog.funcs[56]? = some Tryz.f56 := Tryz.func56
theorem fk57 : Tryz.prog.funcs[57]? = some Tryz.f57 := Tryz.func57
theorem fk58 : Tryz.prog.funcs[58]? = some Tryz.f58 := Tryz.func58
theorem fk59 : Tryz.prog.funcs[59]? = some Tryz.f59 := Tryz.func59
theorem fk60 : Tryz.prog.funcs[60]? = some Tryz.f60 := Tryz.func60
theorem fk61 : Tryz.prog.funcs[61]? = some Tryz.f61 := Tryz.func61
theorem fk62 : Tryz.prog.funcs[62]? = some Tryz.f62 := Tryz.func62
theorem fk63 : Tryz.prog.funcs[63]? = some Tryz.f63 := Tryz.func63
theorem fk64 : Tryz.prog.funcs[64]? = some Tryz.f64 := Tryz.func64
theorem fk65 : Tryz.prog.funcs[65]? = some Tryz.f65 := Tryz.func65
theorem fk66 : Tryz.prog.funcs[66]? = some Tryz.f66 := Tryz.func66
theorem fk67 : Tryz.prog.funcs[67]? = some Tryz.f67 := Tryz.func67
theorem fk68 : Tryz.prog.funcs[68]? = some Tryz.f68 := Tryz.func68
theorem fk69 : Tryz.prog.funcs[69]? = some Tryz.f69 := Tryz.func69
theorem fk70 : Tryz.prog.funcs[70]? = some Tryz.f70 := Tryz.func70
theorem fk71 : Tryz.prog.funcs[71]? = some Tryz.f71 := Tryz.func71
theorem fk72 : Tryz.prog.funcs[72]? = some Tryz.f72 := Tryz.func72
theorem fk73 : Tryz.prog.funcs[73]? = some Tryz.f73 := Tryz.func73
theorem fk74 : Tryz.prog.funcs[74]? = some Tryz.f74 := Tryz.func74
theorem fk76 : Tryz.prog.funcs[76]? = some Tryz.f76 := Tryz.func76
theorem fk77 : Tryz.prog.funcs[77]? = some Tryz.f77 := Tryz.func77
theorem fk78 : Tryz.prog.funcs[78]? = some Tryz.f78 := Tryz.func78
theorem fk79 : Tryz.prog.funcs[79]? = some Tryz.f79 := Tryz.func79
theorem fk80 : Tryz.prog.funcs[80]? = some Tryz.f80 := Tryz.func80
theorem fk81 : Tryz.prog.funcs[81]? = some Tryz.f81 := Tryz.func81
theorem fk82 : Tryz.prog.funcs[82]? = some Tryz.f82 := Tryz.func82
theorem fk84 : Tryz.prog.funcs[84]? = some Tryz.f84 := Tryz.func84
theorem fk85 : Tryz.prog.funcs[85]? = some Tryz.f85 := Tryz.func85
theorem fk86 : Tryz.prog.funcs[86]? = some Tryz.f86 := Tryz.func86
theorem fk87 : Tryz.prog.funcs[87]? = some Tryz.f87 := Tryz.func87
theorem fk88 : Tryz.prog.funcs[88]? = some Tryz.f88 := Tryz.func88
theorem fk89 : Tryz.prog.funcs[89]? = some Tryz.f89 := Tryz.func89
theorem fk90 : Tryz.prog.funcs[90]? = some Tryz.f90 := Tryz.func90
theorem fk91 : Tryz.prog.funcs[91]? = some Tryz.f91 := Tryz.func91
theorem fk92 : Tryz.prog.funcs[92]? = some Tryz.f92 := Tryz.func92
theorem fk93 : Tryz.prog.funcs[93]? = some Tryz.f93 := Tryz.func93
theorem fk94 : Tryz.prog.funcs[94]? = some Tryz.f94 := Tryz.func94
theorem fk95 : Tryz.prog.funcs[95]? = some Tryz.f95 := Tryz.func95
theorem fk96 : Tryz.prog.funcs[96]? = some Tryz.f96 := Tryz.func96
theorem fk97 : Tryz.prog.funcs[97]? = some Tryz.f97 := Tryz.func97
theorem fk98 : Tryz.prog.funcs[98]? = some Tryz.f98 := Tryz.func98
theorem fk99 : Tryz.prog.funcs[99]? = some Tryz.f99 := Tryz.func99
theorem fk100 : Tryz.prog.funcs[100]? = some Tryz.f100 := Tryz.func100
theorem fk101 : Tryz.prog.funcs[101]? = some Tryz.f101 := Tryz.func101
theorem fk102 : Tryz.prog.funcs[102]? = some Tryz.f102 := Tryz.func102
theorem fk103 : Tryz.prog.funcs[103]? = some Tryz.f103 := Tryz.func103
theorem fk104 : Tryz.prog.funcs[104]? = some Tryz.f104 := Tryz.func104
theorem fk105 : Tryz.prog.funcs[105]? = some Tryz.f105 := Tryz.func105
theorem fk106 : Tryz.prog.funcs[106]? = some Tryz.f106 := Tryz.func106
theorem fk107 : Tryz.prog.funcs[107]? = some Tryz.f107 := Tryz.func107
theorem fk108 : Tryz.prog.funcs[108]? = some Tryz.f108 := Tryz.func108
theorem fk109 : Tryz.prog.funcs[109]? = some Tryz.f109 := Tryz.func109
theorem fk110 : Tryz.prog.funcs[110]? = some Tryz.f110 := Tryz.func110
theorem fk112 : Tryz.prog.funcs[112]? = some Tryz.f112 := Tryz.func112
theorem fk113 : Tryz.prog.funcs[113]? = some Tryz.f113 := Tryz.func113
theorem fk114 : Tryz.prog.funcs[114]? = some Tryz.f114 := Tryz.func114
theorem fk115 : Tryz.prog.funcs[115]? = some Tryz.f115 := Tryz.func115
theorem fk116 : Tryz.prog.funcs[116]? = some Tryz.f116 := Tryz.func116
theorem fk117 : Tryz.prog.funcs[117]? = some Tryz.f117 := Tryz.func117
theorem fk118 : Tryz.prog.funcs[118]? = some Tryz.f118 := Tryz.func118
theorem fk119 : Tryz.prog.funcs[119]? = some Tryz.f119 := Tryz.func119
theorem fk120 : Tryz.prog.funcs[120]? = some Tryz.f120 := Tryz.func120
theorem fk121 : Tryz.prog.funcs[121]? = some Tryz.f121 := Tryz.func121
theorem fk122 : Tryz.prog.funcs[122]? = some Tryz.f122 := Tryz.func122
theorem fk123 : Tryz.prog.funcs[123]? = some Tryz.f123 := Tryz.func123
theorem fk124 : Tryz.prog.funcs[124]? = some Tryz.f124 := Tryz.func124
theorem fk125 : Tryz.prog.funcs[125]? = some Tryz.f125 := Tryz.func125
theorem fk126 : Tryz.prog.funcs[126]? = some Tryz.f126 := Tryz.func126
theorem fk127 : Tryz.prog.funcs[127]? = some Tryz.f127 := Tryz.func127
theorem fk128 : Tryz.prog.funcs[128]? = some Tryz.f128 := Tryz.func128
theorem fk129 : Tryz.prog.funcs[129]? = some Tryz.f129 := Tryz.func129
theorem fk130 : Tryz.prog.funcs[130]? = some Tryz.f130 := Tryz.func130
theorem fk131 : Tryz.prog.funcs[131]? = some Tryz.f131 := Tryz.func131
theorem fk132 : Tryz.prog.funcs[132]? = some Tryz.f132 := Tryz.func132
theorem fk133 : Tryz.prog.funcs[133]? = some Tryz.f133 := Tryz.func133
theorem fk134 : Tryz.prog.funcs[134]? = some Tryz.f134 := Tryz.func134
theorem fk135 : Tryz.prog.funcs[135]? = some Tryz.f135 := Tryz.func135
theorem fk136 : Tryz.prog.funcs[136]? = some Tryz.f136 := Tryz.func136
theorem fk137 : Tryz.prog.funcs[137]? = some Tryz.f137 := Tryz.func137
theorem fk138 : Tryz.prog.funcs[138]? = some Tryz.f138 := Tryz.func138
theorem fk139 : Tryz.prog.funcs[139]? = some Tryz.f139 := Tryz.func139
theorem fk140 : Tryz.prog.funcs[140]? = some Tryz.f140 := Tryz.func140
theorem fk142 : Tryz.prog.funcs[142]? = some Tryz.f142 := Tryz.func142
theorem fk143 : Tryz.prog.funcs[143]? = some Tryz.f143 := Tryz.func143
theorem fk144 : Tryz.prog.funcs[144]? = some Tryz.f144 := Tryz.func144
theorem fk145 : Tryz.prog.funcs[145]? = some Tryz.f145 := Tryz.func145
theorem fk147 : Tryz.prog.funcs[147]? = some Tryz.f147 := Tryz.func147
theorem fk148 : Tryz.prog.funcs[148]? = some Tryz.f148 := Tryz.func148
theorem fk149 : Tryz.prog.funcs[149]? = some Tryz.f149 := Tryz.func149
theorem fk150 : Tryz.prog.funcs[150]? = some Tryz.f150 := Tryz.func150
theorem fk151 : Tryz.prog.funcs[151]? = some Tryz.f151 := Tryz.func151
theorem fk152 : Tryz.prog.funcs[152]? = some Tryz.f152 := Tryz.func152
theorem fk153 : Tryz.prog.funcs[153]? = some Tryz.f153 := Tryz.func153
theorem fk154 : Tryz.prog.funcs[154]? = some Tryz.f154 := Tryz.func154
theorem fk155 : Tryz.prog.funcs[155]? = some Tryz.f155 := Tryz.func155
theorem fk156 : Tryz.prog.funcs[156]? = some Tryz.f156 := Tryz.func156
theorem fk157 : Tryz.prog.funcs[157]? = some Tryz.f157 := Tryz.func157
theorem fk159 : Tryz.prog.funcs[159]? = some Tryz.f159 := Tryz.func159
theorem fk160 : Tryz.prog.funcs[160]? = some Tryz.f160 := Tryz.func160
theorem fk162 : Tryz.prog.funcs[162]? = some Tryz.f162 := Tryz.func162
theorem fk163 : Tryz.prog.funcs[163]? = some Tryz.f163 := Tryz.func163
theorem fk164 : Tryz.prog.funcs[164]? = some Tryz.f164 := Tryz.func164
theorem fk165 : Tryz.prog.funcs[165]? = some Tryz.f165 := Tryz.func165
theorem fk166 : Tryz.prog.funcs[166]? = some Tryz.f166 := Tryz.func166
theorem fk167 : Tryz.prog.funcs[167]? = some Tryz.f167 := Tryz.func167
theorem fk168 : Tryz.prog.funcs[168]? = some Tryz.f168 := Tryz.func168
theorem fk169 : Tryz.prog.funcs[169]? = some Tryz.f169 := Tryz.func169
theorem fk170 : Tryz.prog.funcs[170]? = some Tryz.f170 := Tryz.func170
theorem fk171 : Tryz.prog.funcs[171]? = some Tryz.f171 := Tryz.func171
theorem fk172 : Tryz.prog.funcs[172]? = some Tryz.f172 := Tryz.func172
theorem fk173 : Tryz.prog.funcs[173]? = some Tryz.f173 := Tryz.func173
theorem fk174 : Tryz.prog.funcs[174]? = some Tryz.f174 := Tryz.func174
theorem fk175 : Tryz.prog.funcs[175]? = some Tryz.f175 := Tryz.func175
theorem fk176 : Tryz.prog.funcs[176]? = some Tryz.f176 := Tryz.func176
theorem fk177 : Tryz.prog.funcs[177]? = some Tryz.f177 := Tryz.func177
theorem fk178 : Tryz.prog.funcs[178]? = some Tryz.f178 := Tryz.func178
theorem fk179 : Tryz.prog.funcs[179]? = some Tryz.f179 := Tryz.func179
theorem fk180 : Tryz.prog.funcs[180]? = some Tryz.f180 := Tryz.func180
theorem fk181 : Tryz.prog.funcs[181]? = some Tryz.f181 := Tryz.func181
theorem fk182 : Tryz.prog.funcs[182]? = some Tryz.f182 := Tryz.func182
theorem fk183 : Tryz.prog.funcs[183]? = some Tryz.f183 := Tryz.func183
theorem fk184 : Tryz.prog.funcs[184]? = some Tryz.f184 := Tryz.func184
theorem fk185 : Tryz.prog.funcs[185]? = some Tryz.f185 := Tryz.func185
theorem fk186 : Tryz.prog.funcs[186]? = some Tryz.f186 := Tryz.func186
theorem fk187 : Tryz.prog.funcs[187]? = some Tryz.f187 := Tryz.func187
theorem fk188 : Tryz.prog.funcs[188]? = some Tryz.f188 := Tryz.func188
theorem fk189 : Tryz.prog.funcs[189]? = some Tryz.f189 := Tryz.func189
theorem fk190 : Tryz.prog.funcs[190]? = some Tryz.f190 := Tryz.func190
theorem fk191 : Tryz.prog.funcs[191]? = some Tryz.f191 := Tryz.func191
theorem fk192 : Tryz.prog.funcs[192]? = some Tryz.f192 := Tryz.func192
theorem fk193 : Tryz.prog.funcs[193]? = some Tryz.f193 := Tryz.func193
theorem fk194 : Tryz.prog.funcs[194]? = some Tryz.f194 := Tryz.func194
theorem fk195 : Tryz.prog.funcs[195]? = some Tryz.f195 := Tryz.func195
theorem fk196 : Tryz.prog.funcs[196]? = some Tryz.f196 := Tryz.func196
theorem fk221 : Tryz.prog.funcs[221]? = some Tryz.f221 := Tryz.func221
theorem id141 : ∀ v w, (callFunc 141 #[v]).run Tryz.prog w = .ok (.value v) w := fun v w => run_callFunc_extern (fn := Tryz.f141) (e := Extern.AbiNoEscape.same) Tryz.func141 (by kernel_rfl) (by kernel_rfl) (by kernel_rfl) (by kernel_rfl) #[v] w
theorem fnT0_ok (f : Nat) (fn : Func) (h : fnT0 f = some fn) : Tryz.prog.funcs[f]? = some fn ∧ Callable Tryz.prog f ∧ ∀ c, fn.body = some c → drawOk c = true := by
 unfold fnT0 at h
 split at h
 ·injection h with h; subst h; exact ⟨fk2, ⟨Tryz.call2⟩, bodyOk_inv dk2⟩
 ·injection h with h; subst h; exact ⟨fk3, ⟨Tryz.call3⟩, bodyOk_inv dk3⟩
 ·injection h with h; subst h; exact ⟨fk4, ⟨Tryz.call4⟩, bodyOk_inv dk4⟩
 ·injection h with h; subst h; exact ⟨fk5, ⟨Tryz.call5⟩, bodyOk_inv dk5⟩
 ·injection h with h; subst h; exact ⟨fk6, ⟨Tryz.call6⟩, bodyOk_inv dk6⟩
 ·injection h with h; subst h; exact ⟨fk7, ⟨Tryz.call7⟩, bodyOk_inv dk7⟩
 ·injection h with h; subst h; exact ⟨fk8, ⟨Tryz.call8⟩, bodyOk_inv dk8⟩
 ·injection h with h; subst h; exact ⟨fk9, ⟨Tryz.call9⟩, bodyOk_inv dk9⟩
 ·injection h with h; subst h; exact ⟨fk10, ⟨Tryz.call10⟩, bodyOk_inv dk10⟩
 ·injection h with h; subst h; exact ⟨fk11, ⟨Tryz.call11⟩, bodyOk_inv dk11⟩
 ·injection h with h; subst h; exact ⟨fk12, ⟨Tryz.call12⟩, bodyOk_inv dk12⟩
 ·injection h with h; subst h; exact ⟨fk13, ⟨Tryz.call13⟩, bodyOk_inv dk13⟩
 ·injection h with h; subst h; exact ⟨fk14, ⟨Tryz.call14⟩, bodyOk_inv dk14⟩
 ·injection h with h; subst h; exact ⟨fk15, ⟨Tryz.call15⟩, bodyOk_inv dk15⟩
 ·injection h with h; subst h; exact ⟨fk16, ⟨Tryz.call16⟩, bodyOk_inv dk16⟩
 ·injection h with h; subst h; exact ⟨fk17, ⟨Tryz.call17⟩, bodyOk_inv dk17⟩
 ·injection h with h; subst h; exact ⟨fk18, ⟨Tryz.call18⟩, bodyOk_inv dk18⟩
 ·injection h with h; subst h; exact ⟨fk19, ⟨Tryz.call19⟩, bodyOk_inv dk19⟩
 ·injection h with h; subst h; exact ⟨fk20, ⟨Tryz.call20⟩, bodyOk_inv dk20⟩
 ·injection h with h; subst h; exact ⟨fk21, ⟨Tryz.call21⟩, bodyOk_inv dk21⟩
 ·injection h with h; subst h; exact ⟨fk22, ⟨Tryz.call22⟩, bodyOk_inv dk22⟩
 ·injection h with h; subst h; exact ⟨fk23, ⟨Tryz.call23⟩, bodyOk_inv dk23⟩
 ·injection h with h; subst h; exact ⟨fk24, ⟨Tryz.call24⟩, bodyOk_inv dk24⟩
 ·injection h with h; subst h; exact ⟨fk25, ⟨Tryz.call25⟩, bodyOk_inv dk25⟩
 ·injection h with h; subst h; exact ⟨fk27, ⟨Tryz.call27⟩, bodyOk_inv dk27⟩
 ·injection h with h; subst h; exact ⟨fk28, ⟨Tryz.call28⟩, bodyOk_inv dk28⟩
 ·injection h with h; subst h; exact ⟨fk29, ⟨Tryz.call29⟩, bodyOk_inv dk29⟩
 ·injection h with h; subst h; exact ⟨fk30, ⟨Tryz.call30⟩, bodyOk_inv dk30⟩
 ·injection h with h; subst h; exact ⟨fk32, ⟨Tryz.call32⟩, bodyOk_inv dk32⟩
 ·injection h with h; subst h; exact ⟨fk33, ⟨Tryz.call33⟩, bodyOk_inv dk33⟩
 ·injection h with h; subst h; exact ⟨fk34, ⟨Tryz.call34⟩, bodyOk_inv dk34⟩
 ·injection h with h; subst h; exact ⟨fk35, ⟨Tryz.call35⟩, bodyOk_inv dk35⟩
 ·injection h with h; subst h; exact ⟨fk36, ⟨Tryz.call36⟩, bodyOk_inv dk36⟩
 ·injection h with h; subst h; exact ⟨fk37, ⟨Tryz.call37⟩, bodyOk_inv dk37⟩
 ·injection h with h; subst h; exact ⟨fk38, ⟨Tryz.call38⟩, bodyOk_inv dk38⟩
 ·injection h with h; subst h; exact ⟨fk39, ⟨Tryz.call39⟩, bodyOk_inv dk39⟩
 ·injection h with h; subst h; exact ⟨fk40, ⟨Tryz.call40⟩, bodyOk_inv dk40⟩
 ·injection h with h; subst h; exact ⟨fk41, ⟨Tryz.call41⟩, bodyOk_inv dk41⟩
 ·injection h with h; subst h; exact ⟨fk42, ⟨Tryz.call42⟩, bodyOk_inv dk42⟩
 ·injection h with h; subst h; exact ⟨fk43, ⟨Tryz.call43⟩, bodyOk_inv dk43⟩
 ·cases h
theorem fnT1_ok (f : Nat) (fn : Func) (h : fnT1 f = some fn) : Tryz.prog.funcs[f]? = some fn ∧ Callable Tryz.prog f ∧ ∀ c, fn.body = some c → drawOk c = true := by
 unfold fnT1 at h
 split at h
 ·injection h with h; subst h; exact ⟨fk44, ⟨Tryz.call44⟩, bodyOk_inv dk44⟩
 ·injection h with h; subst h; exact ⟨fk45, ⟨Tryz.call45⟩, bodyOk_inv dk45⟩
 ·injection h with h; subst h; exact ⟨fk46, ⟨Tryz.call46⟩, bodyOk_inv dk46⟩
 ·injection h with h; subst h; exact ⟨fk47, ⟨Tryz.call47⟩, bodyOk_inv dk47⟩
 ·injection h with h; subst h; exact ⟨fk48, ⟨Tryz.call48⟩, bodyOk_inv dk48⟩
 ·injection h with h; subst h; exact ⟨fk49, ⟨Tryz.call49⟩, bodyOk_inv dk49⟩
 ·injection h with h; subst h; exact ⟨fk50, ⟨Tryz.call50⟩, bodyOk_inv dk50⟩
 ·injection h with h; subst h; exact ⟨fk52, ⟨Tryz.call52⟩, bodyOk_inv dk52⟩
 ·injection h with h; subst h; exact ⟨fk53, ⟨Tryz.call53⟩, bodyOk_inv dk53⟩
 ·injection h with h; subst h; exact ⟨fk54, ⟨Tryz.call54⟩, bodyOk_inv dk54⟩
 ·injection h with h; subst h; exact ⟨fk55, ⟨Tryz.call55⟩, bodyOk_inv dk55⟩
 ·injection h with h; subst h; exact ⟨fk56, ⟨Tryz.call56⟩, bodyOk_inv dk56⟩
 ·injection h with h; subst h; exact ⟨fk57, ⟨Tryz.call57⟩, bodyOk_inv dk57⟩
 ·injection h with h; subst h; exact ⟨fk58, ⟨Tryz.call58⟩, bodyOk_inv dk58⟩
 ·injection h with h; subst h; exact ⟨fk59, ⟨Tryz.call59⟩, bodyOk_inv dk59⟩
 ·injection h with h; subst h; exact ⟨fk60, ⟨Tryz.call60⟩, bodyOk_inv dk60⟩
 ·injection h with h; subst h; exact ⟨fk61, ⟨Tryz.call61⟩, bodyOk_inv dk61⟩
 ·injection h with h; subst h; exact ⟨fk62, ⟨Tryz.call62⟩, bodyOk_inv dk62⟩
 ·injection h with h; subst h; exact ⟨fk63, ⟨Tryz.call63⟩, bodyOk_inv dk63⟩
 ·injection h with h; subst h; exact ⟨fk64, ⟨Tryz.call64⟩, bodyOk_inv dk64⟩
 ·injection h with h; subst h; exact ⟨fk65, ⟨Tryz.call65⟩, bodyOk_inv dk65⟩
 ·injection h with h; subst h; exact ⟨fk66, ⟨Tryz.call66⟩, bodyOk_inv dk66⟩
 ·injection h with h; subst h; exact ⟨fk67, ⟨Tryz.call67⟩, bodyOk_inv dk67⟩
 ·injection h with h; subst h; exact ⟨fk68, ⟨Tryz.call68⟩, bodyOk_inv dk68⟩
 ·injection h with h; subst h; exact ⟨fk69, ⟨Tryz.call69⟩, bodyOk_inv dk69⟩
 ·injection h with h; subst h; exact ⟨fk70, ⟨Tryz.call70⟩, bodyOk_inv dk70⟩
 ·injection h with h; subst h; exact ⟨fk71, ⟨Tryz.call71⟩, bodyOk_inv dk71⟩
 ·injection h with h; subst h; exact ⟨fk72, ⟨Tryz.call72⟩, bodyOk_inv dk72⟩
 ·injection h with h; subst h; exact ⟨fk73, ⟨Tryz.call73⟩, bodyOk_inv dk73⟩
 ·injection h with h; subst h; exact ⟨fk74, ⟨Tryz.call74⟩, bodyOk_inv dk74⟩
 ·injection h with h; subst h; exact ⟨fk76, ⟨Tryz.call76⟩, bodyOk_inv dk76⟩
 ·injection h with h; subst h; exact ⟨fk77, ⟨Tryz.call77⟩, bodyOk_inv dk77⟩
 ·injection h with h; subst h; exact ⟨fk78, ⟨Tryz.call78⟩, bodyOk_inv dk78⟩
 ·injection h with h; subst h; exact ⟨fk79, ⟨Tryz.call79⟩, bodyOk_inv dk79⟩
 ·injection h with h; subst h; exact ⟨fk80, ⟨Tryz.call80⟩, bodyOk_inv dk80⟩
 ·injection h with h; subst h; exact ⟨fk81, ⟨Tryz.call81⟩, bodyOk_inv dk81⟩
 ·injection h with h; subst h; exact ⟨fk82, ⟨Tryz.call82⟩, bodyOk_inv dk82⟩
 ·injection h with h; subst h; exact ⟨fk84, ⟨Tryz.call84⟩, bodyOk_inv dk84⟩
 ·injection h with h; subst h; exact ⟨fk85, ⟨Tryz.call85⟩, bodyOk_inv dk85⟩
 ·injection h with h; subst h; exact ⟨fk86, ⟨Tryz.call86⟩, bodyOk_inv dk86⟩
 ·cases h
theorem fnT2_ok (f : Nat) (fn : Func) (h : fnT2 f = some fn) : Tryz.prog.funcs[f]? = some fn ∧ Callable Tryz.prog f ∧ ∀ c, fn.body = some c → drawOk c = true := by
 unfold fnT2 at h
 split at h
 ·injection h with h; subst h; exact ⟨fk87, ⟨Tryz.call87⟩, bodyOk_inv dk87⟩
 ·injection h with h; subst h; exact ⟨fk88, ⟨Tryz.call88⟩, bodyOk_inv dk88⟩
 ·injection h with h; subst h; exact ⟨fk89, ⟨Tryz.call89⟩, bodyOk_inv dk89⟩
 ·injection h with h; subst h; exact ⟨fk90, ⟨Tryz.call90⟩, bodyOk_inv dk90⟩
 ·injection h with h; subst h; exact ⟨fk91, ⟨Tryz.call91⟩, bodyOk_inv dk91⟩
 ·injection h with h; subst h; exact ⟨fk92, ⟨Tryz.call92⟩, bodyOk_inv dk92⟩
 ·injection h with h; subst h; exact ⟨fk93, ⟨Tryz.call93⟩, bodyOk_inv dk93⟩
 ·injection h with h; subst h; exact ⟨fk94, ⟨Tryz.call94⟩, bodyOk_inv dk94⟩
 ·injection h with h; subst h; exact ⟨fk95, ⟨Tryz.call95⟩, bodyOk_inv dk95⟩
 ·injection h with h; subst h; exact ⟨fk96, ⟨Tryz.call96⟩, bodyOk_inv dk96⟩
 ·injection h with h; subst h; exact ⟨fk97, ⟨Tryz.call97⟩, bodyOk_inv dk97⟩
 ·injection h with h; subst h; exact ⟨fk98, ⟨Tryz.call98⟩, bodyOk_inv dk98⟩
 ·injection h with h; subst h; exact ⟨fk99, ⟨Tryz.call99⟩, bodyOk_inv dk99⟩
 ·injection h with h; subst h; exact ⟨fk100, ⟨Tryz.call100⟩, bodyOk_inv dk100⟩
 ·injection h with h; subst h; exact ⟨fk101, ⟨Tryz.call101⟩, bodyOk_inv dk101⟩
 ·injection h with h; subst h; exact ⟨fk102, ⟨Tryz.call102⟩, bodyOk_inv dk102⟩
 ·injection h with h; subst h; exact ⟨fk103, ⟨Tryz.call103⟩, bodyOk_inv dk103⟩
 ·injection h with h; subst h; exact ⟨fk104, ⟨Tryz.call104⟩, bodyOk_inv dk104⟩
 ·injection h with h; subst h; exact ⟨fk105, ⟨Tryz.call105⟩, bodyOk_inv dk105⟩
 ·injection h with h; subst h; exact ⟨fk106, ⟨Tryz.call106⟩, bodyOk_inv dk106⟩
 ·injection h with h; subst h; exact ⟨fk107, ⟨Tryz.call107⟩, bodyOk_inv dk107⟩
 ·injection h with h; subst h; exact ⟨fk108, ⟨Tryz.call108⟩, bodyOk_inv dk108⟩
 ·injection h with h; subst h; exact ⟨fk109, ⟨Tryz.call109⟩, bodyOk_inv dk109⟩
 ·injection h with h; subst h; exact ⟨fk110, ⟨Tryz.call110⟩, bodyOk_inv dk110⟩
 ·injection h with h; subst h; exact ⟨fk112, ⟨Tryz.call112⟩, bodyOk_inv dk112⟩
 ·injection h with h; subst h; exact ⟨fk113, ⟨Tryz.call113⟩, bodyOk_inv dk113⟩
 ·injection h with h; subst h; exact ⟨fk114, ⟨Tryz.call114⟩, bodyOk_inv dk114⟩
 ·injection h with h; subst h; exact ⟨fk115, ⟨Tryz.call115⟩, bodyOk_inv dk115⟩
 ·injection h with h; subst h; exact ⟨fk116, ⟨Tryz.call116⟩, bodyOk_inv dk116⟩
 ·injection h with h; subst h; exact ⟨fk117, ⟨Tryz.call117⟩, bodyOk_inv dk117⟩
 ·injection h with h; subst h; exact ⟨fk118, ⟨Tryz.call118⟩, bodyOk_inv dk118⟩
 ·injection h with h; subst h; exact ⟨fk119, ⟨Tryz.call119⟩, bodyOk_inv dk119⟩
 ·injection h with h; subst h; exact ⟨fk120, ⟨Tryz.call120⟩, bodyOk_inv dk120⟩
 ·injection h with h; subst h; exact ⟨fk121, ⟨Tryz.call121⟩, bodyOk_inv dk121⟩
 ·injection h with h; subst h; exact ⟨fk122, ⟨Tryz.call122⟩, bodyOk_inv dk122⟩
 ·injection h with h; subst h; exact ⟨fk123, ⟨Tryz.call123⟩, bodyOk_inv dk123⟩
 ·injection h with h; subst h; exact ⟨fk124, ⟨Tryz.call124⟩, bodyOk_inv dk124⟩
 ·injection h with h; subst h; exact ⟨fk125, ⟨Tryz.call125⟩, bodyOk_inv dk125⟩
 ·injection h with h; subst h; exact ⟨fk126, ⟨Tryz.call126⟩, bodyOk_inv dk126⟩
 ·injection h with h; subst h; exact ⟨fk127, ⟨Tryz.call127⟩, bodyOk_inv dk127⟩
 ·cases h
theorem fnT3_ok (f : Nat) (fn : Func) (h : fnT3 f = some fn) : Tryz.prog.funcs[f]? = some fn ∧ Callable Tryz.prog f ∧ ∀ c, fn.body = some c → drawOk c = true := by
 unfold fnT3 at h
 split at h
 ·injection h with h; subst h; exact ⟨fk128, ⟨Tryz.call128⟩, bodyOk_inv dk128⟩
 ·injection h with h; subst h; exact ⟨fk129, ⟨Tryz.call129⟩, bodyOk_inv dk129⟩
 ·injection h with h; subst h; exact ⟨fk130, ⟨Tryz.call130⟩, bodyOk_inv dk130⟩
 ·injection h with h; subst h; exact ⟨fk131, ⟨Tryz.call131⟩, bodyOk_inv dk131⟩
 ·injection h with h; subst h; exact ⟨fk132, ⟨Tryz.call132⟩, bodyOk_inv dk132⟩
 ·injection h with h; subst h; exact ⟨fk133, ⟨Tryz.call133⟩, bodyOk_inv dk133⟩
 ·injection h with h; subst h; exact ⟨fk134, ⟨Tryz.call134⟩, bodyOk_inv dk134⟩
 ·injection h with h; subst h; exact ⟨fk135, ⟨Tryz.call135⟩, bodyOk_inv dk135⟩
 ·injection h with h; subst h; exact ⟨fk136, ⟨Tryz.call136⟩, bodyOk_inv dk136⟩
 ·injection h with h; subst h; exact ⟨fk137, ⟨Tryz.call137⟩, bodyOk_inv dk137⟩
 ·injection h with h; subst h; exact ⟨fk138, ⟨Tryz.call138⟩, bodyOk_inv dk138⟩
 ·injection h with h; subst h; exact ⟨fk139, ⟨Tryz.call139⟩, bodyOk_inv dk139⟩
 ·injection h with h; subst h; exact ⟨fk140, ⟨Tryz.call140⟩, bodyOk_inv dk140⟩
 ·injection h with h; subst h; exact ⟨fk142, ⟨Tryz.call142⟩, bodyOk_inv dk142⟩
 ·injection h with h; subst h; exact ⟨fk143, ⟨Tryz.call143⟩, bodyOk_inv dk143⟩
 ·injection h with h; subst h; exact ⟨fk144, ⟨Tryz.call144⟩, bodyOk_inv dk144⟩
 ·injection h with h; subst h; exact ⟨fk145, ⟨Tryz.call145⟩, bodyOk_inv dk145⟩
 ·injection h with h; subst h; exact ⟨fk147, ⟨Tryz.call147⟩, bodyOk_inv dk147⟩
 ·injection h with h; subst h; exact ⟨fk148, ⟨Tryz.call148⟩, bodyOk_inv dk148⟩
 ·injection h with h; subst h; exact ⟨fk149, ⟨Tryz.call149⟩, bodyOk_inv dk149⟩
 ·injection h with h; subst h; exact ⟨fk150, ⟨Tryz.call150⟩, bodyOk_inv dk150⟩
 ·injection h with h; subst h; exact ⟨fk151, ⟨Tryz.call151⟩, bodyOk_inv dk151⟩
 ·injection h with h; subst h; exact ⟨fk152, ⟨Tryz.call152⟩, bodyOk_inv dk152⟩
 ·injection h with h; subst h; exact ⟨fk153, ⟨Tryz.call153⟩, bodyOk_inv dk153⟩
 ·injection h with h; subst h; exact ⟨fk154, ⟨Tryz.call154⟩, bodyOk_inv dk154⟩
 ·injection h with h; subst h; exact ⟨fk155, ⟨Tryz.call155⟩, bodyOk_inv dk155⟩
 ·injection h with h; subst h; exact ⟨fk156, ⟨Tryz.call156⟩, bodyOk_inv dk156⟩
 ·injection h with h; subst h; exact ⟨fk157, ⟨Tryz.call157⟩, bodyOk_inv dk157⟩
 ·injection h with h; subst h; exact ⟨fk159, ⟨Tryz.call159⟩, bodyOk_inv dk159⟩
 ·injection h with h; subst h; exact ⟨fk160, ⟨Tryz.call160⟩, bodyOk_inv dk160⟩
 ·injection h with h; subst h; exact ⟨fk162, ⟨Tryz.call162⟩, bodyOk_inv dk162⟩
 ·injection h with h; subst h; exact ⟨fk163, ⟨Tryz.call163⟩, bodyOk_inv dk163⟩
 ·injection h with h; subst h; exact ⟨fk164, ⟨Tryz.call164⟩, bodyOk_inv dk164⟩
 ·injection h with h; subst h; exact ⟨fk165, ⟨Tryz.call165⟩, bodyOk_inv dk165⟩
 ·injection h with h; subst h; exact ⟨fk166, ⟨Tryz.call166⟩, bodyOk_inv dk166⟩
 ·injection h with h; subst h; exact ⟨fk167, ⟨Tryz.call167⟩, bodyOk_inv dk167⟩
 ·injection h with h; subst h; exact ⟨fk168, ⟨Tryz.call168⟩, bodyOk_inv dk168⟩
 ·injection h with h; subst h; exact ⟨fk169, ⟨Tryz.call169⟩, bodyOk_inv dk169⟩
 ·injection h with h; subst h; exact ⟨fk170, ⟨Tryz.call170⟩, bodyOk_inv dk170⟩
 ·injection h with h; subst h; exact ⟨fk171, ⟨Tryz.call171⟩, bodyOk_inv dk171⟩
 ·cases h
theorem fnT4_ok (f : Nat) (fn : Func) (h : fnT4 f = some fn) : Tryz.prog.funcs[f]? = some fn ∧ Callable Tryz.prog f ∧ ∀ c, fn.body = some c → drawOk c = true := by
 unfold fnT4 at h
 split at h
 ·injection h with h; subst h; exact ⟨fk172, ⟨Tryz.call172⟩, bodyOk_inv dk172⟩
 ·injection h with h; subst h; exact ⟨fk173, ⟨Tryz.call173⟩, bodyOk_inv dk173⟩
 ·injection h with h; subst h; exact ⟨fk174, ⟨Tryz.call174⟩, bodyOk_inv dk174⟩
 ·injection h with h; subst h; exact ⟨fk175, ⟨Tryz.call175⟩, bodyOk_inv dk175⟩
 ·injection h with h; subst h; exact ⟨fk176, ⟨Tryz.call176⟩, bodyOk_inv dk176⟩
 ·injection h with h; subst h; exact ⟨fk177, ⟨Tryz.call177⟩, bodyOk_inv dk177⟩
 ·injection h with h; subst h; exact ⟨fk178, ⟨Tryz.call178⟩, bodyOk_inv dk178⟩
 ·injection h with h; subst h; exact ⟨fk179, ⟨Tryz.call179⟩, bodyOk_inv dk179⟩
 ·injection h with h; subst h; exact ⟨fk180, ⟨Tryz.call180⟩, bodyOk_inv dk180⟩
 ·injection h with h; subst h; exact ⟨fk181, ⟨Tryz.call181⟩, bodyOk_inv dk181⟩
 ·injection h with h; subst h; exact ⟨fk182, ⟨Tryz.call182⟩, bodyOk_inv dk182⟩
 ·injection h with h; subst h; exact ⟨fk183, ⟨Tryz.call183⟩, bodyOk_inv dk183⟩
 ·injection h with h; subst h; exact ⟨fk184, ⟨Tryz.call184⟩, bodyOk_inv dk184⟩
 ·injection h with h; subst h; exact ⟨fk185, ⟨Tryz.call185⟩, bodyOk_inv dk185⟩
 ·injection h with h; subst h; exact ⟨fk186, ⟨Tryz.call186⟩, bodyOk_inv dk186⟩
 ·injection h with h; subst h; exact ⟨fk187, ⟨Tryz.call187⟩, bodyOk_inv dk187⟩
 ·injection h with h; subst h; exact ⟨fk188, ⟨Tryz.call188⟩, bodyOk_inv dk188⟩
 ·injection h with h; subst h; exact ⟨fk189, ⟨Tryz.call189⟩, bodyOk_inv dk189⟩
 ·injection h with h; subst h; exact ⟨fk190, ⟨Tryz.call190⟩, bodyOk_inv dk190⟩
 ·injection h with h; subst h; exact ⟨fk191, ⟨Tryz.call191⟩, bodyOk_inv dk191⟩
 ·injection h with h; subst h; exact ⟨fk192, ⟨Tryz.call192⟩, bodyOk_inv dk192⟩
 ·injection h with h; subst h; exact ⟨fk193, ⟨Tryz.call193⟩, bodyOk_inv dk193⟩
 ·injection h with h; subst h; exact ⟨fk194, ⟨Tryz.call194⟩, bodyOk_inv dk194⟩
 ·injection h with h; subst h; exact ⟨fk195, ⟨Tryz.call195⟩, bodyOk_inv dk195⟩
 ·injection h with h; subst h; exact ⟨fk196, ⟨Tryz.call196⟩, bodyOk_inv dk196⟩
 ·injection h with h; subst h; exact ⟨fk221, ⟨Tryz.call221⟩, bodyOk_inv dk221⟩
 ·cases h
theorem E0_ok : EnvOk E0 := by
 refine ⟨fun f fn h => ?_, by kernel_rfl, fun f h => ?_, fun f g h => (by cases h)⟩
 ·change fnT f = some fn at h
  unfold fnT at h
  cases h0 : fnT0 f with
  | some g0 => rw [h0] at h; injection h with h; subst h; exact fnT0_ok f _ h0
  | none =>
  rw [h0] at h
  dsimp only at h
  cases h1 : fnT1 f with
  | some g1 => rw [h1] at h; injection h with h; subst h; exact fnT1_ok f _ h1
  | none =>
  rw [h1] at h
  dsimp only at h
  cases h2 : fnT2 f with
  | some g2 => rw [h2] at h; injection h with h; subst h; exact fnT2_ok f _ h2
  | none =>
  rw [h2] at h
  dsimp only at h
  cases h3 : fnT3 f with
  | some g3 => rw [h3] at h; injection h with h; subst h; exact fnT3_ok f _ h3
  | none =>
  rw [h3] at h
  dsimp only at h
  exact fnT4_ok f fn h
 ·change idT f = true at h
  unfold idT at h
  split at h
  ·exact id141
  ·cases h
abbrev andI (k : IntKind) (a b : Int) : Int := k.wrap (BitVec.ofInt k.bits a &&& BitVec.ofInt k.bits b).toNat
def codeOf (f : Func) : Code := match f.body with
 | some c => c
 | none => .skip
/-- A part of code, by its way. -/
def pc : Code → List Nat → Code
 | c, [] => c
 | .seq a _, 0 :: l => pc a l
 | .seq _ b, _ :: l => pc b l
 | .cond _ a _, 0 :: l => pc a l
 | .cond _ _ b, _ :: l => pc b l
 | .block _ a, _ :: l => pc a l
 | .loop a, _ :: l => pc a l
 | c, _ :: _ => c
/-- What is told of a function, in no environment of its own. -/
def XOk (f : FuncId) (g : List AV → Option AV) : Prop := Callable E0.P f ∧ ∀ xs x, g xs = some x → ∀ w Z us, (∀ c, Z c → c < w.heap.size) → GI E0 w Z → VRs w Z [] xs us → Ret E0.P f us.toArray w fun v w' => w.grownBy w' none ∧ VR w' (fun c => Z c ∨ (w.heap.size ≤ c ∧ c < w'.heap.size)) [] x v
section
variable {E : Env} {cx : Cx} {c : Code} {s s1 : St} {Q : Ex → St → Prop} {n : Nat} {e0 : Ex}
theorem SemN.mono {Q' : Ex → St → Prop} (h : SemN E cx c n s Q) (hq : ∀ e s, Q e s → Q' e s) : SemN E cx c n s Q' :=
 fun ro base Qm a w Z R h1 h2 h3 k => h ro base Qm a w Z R h1 h2 h3 fun e s' a' w' Z' R' hQ => k e s' a' w' Z' R' (hq e s' hQ)
theorem SemN.wkQ (h : SemN E cx c n s fun e s' => ∃ s2, Wk E s' s2 ∧ Q e s2) : SemN E cx c n s Q := by
 intro ro base Qm a w Z R h1 h2 h3 k
 refine h ro base Qm a w Z R h1 h2 h3 fun e s' a' w' Z' R' hQ sr st => ?_
 obtain ⟨s2, hw, hq⟩ := hQ
 obtain ⟨Z2, R2, sr2, st2⟩ := hw _ w' Z' R' a' sr
 exact k e s2 a' w' Z2 R2 hq sr2 (st.trans st2)
theorem Sem.cutN (h : SemN E cx c n s fun e s' => e = e0 ∧ Wk E s' s1) (k : Q e0 s1) : SemN E cx c n s Q :=
 SemN.wkQ (SemN.mono h fun e s' h => ⟨s1, h.2, by rw [h.1]; exact k⟩)
end
theorem EnvOk.x {E : Env} {f : FuncId} {g : List AV → Option AV} (h : EnvOk (E.withX f g)) (hP : E.P = E0.P) (hG : E.G = E0.G) : XOk f g := by
 obtain ⟨h1, h2⟩ := h.X f g (if_pos rfl)
 have e1 : (E.withX f g).P = E0.P := hP
 refine ⟨e1 ▸ h1, fun xs x hx w Z us hz hg hv => ?_⟩
 have := h2 xs x hx w Z us hz (fun q y hy => hg q y (by rw [← hG]; exact hy)) hv
 exact e1 ▸ this
def flatO : AV → Bool
 | .v _ => true
 | .st _ => true
 | .e0 => true
 | .rf _ _ _ _ => true
 | .pt _ _ _ => true
 | _ => false
/-- Flat, but for names of own blocks. -/
def ownFlat : AV → Bool
 | .ag cs => cs.all flatO
 | .tp cs => cs.all flatO
 | x => flatO x
def sh1 (n : Nat) : AV → AV
 | .rf b lo k m => .rf (n + b) lo k m
 | .pt b i o => .pt (n + b) i o
 | x => x
def shN (n : Nat) : AV → AV
 | .ag cs => .ag (cs.map (sh1 n))
 | .tp cs => .tp (cs.map (sh1 n))
 | x => sh1 n x
def flatH : Hp → Bool
 | [] => true
 | none :: r => flatH r
 | some B :: r => !B.fz && B.es.all isFlat && flatH r
theorem flatH_at : ∀ {h : Hp}, flatH h = true → ∀ (b : Nat) (B : Blk), h[b]? = some (some B) → B.fz = false ∧ B.es.all isFlat = true
 | [], _, b, B, hb => by simp at hb
 | none :: r, h, 0, B, hb => by simp at hb
 | none :: r, h, b + 1, B, hb => flatH_at (h := r) h b B (by simpa using hb)
 | some C :: r, h, 0, B, hb => by
  simp at hb; subst hb
  simp only [flatH, Bool.and_eq_true, Bool.not_eq_true'] at h
  exact h.1
 | some C :: r, h, b + 1, B, hb => by
  simp only [flatH, Bool.and_eq_true] at h
  exact flatH_at h.2 b B (by simpa using hb)
section
variable {w w' : World} {Z Z' : Nat → Prop} {R R' : List RI} {h h' : Hp}
theorem sh1_vr {n : Nat} (hn : R.length = n) {x : AV} {u : Value} (hf : flatO x = true) (hv : VR w Z R' x u) : VR w Z' (R ++ R') (sh1 n x) u := by
 have hg : ∀ {b : Nat} {r : RI}, R'[b]? = some r → (R ++ R')[n + b]? = some r := fun {b r} hr => by
  rw [List.getElem?_append_right (by omega), ← hn, Nat.add_sub_cancel_left]; exact hr
 cases hv with
 | v h => exact .v h
 | st h hn => exact .st h hn
 | e0 => exact .e0
 | rf hr h0 h1 h2 hm => exact .rf (hg hr) h0 h1 h2 hm
 | pt hr => exact .pt (hg hr)
 | _ => simp [flatO] at hf
theorem shN_vr {n : Nat} (hn : R.length = n) {x : AV} {u : Value} (hf : ownFlat x = true) (hv : VR w Z R' x u) : VR w Z' (R ++ R') (shN n x) u := by
 have hl : ∀ {cs : List AV} {us : List Value}, cs.all flatO = true → (∀ (i : Nat) (x : AV) (u : Value), cs[i]? = some x → us[i]? = some u → VR w Z R' x u) → ∀ (i : Nat) (x : AV) (u : Value), (cs.map (sh1 n))[i]? = some x → us[i]? = some u → VR w Z' (R ++ R') x u := fun {cs us} hc hx i x u hi hu => by
  rw [List.getElem?_map] at hi
  obtain ⟨y, hy, rfl⟩ := Option.map_eq_some_iff.1 hi
  exact sh1_vr hn (List.all_eq_true.1 hc y (List.mem_of_getElem? hy)) (hx i y u hy hu)
 cases hv with
 | ag h1 h2 hx => exact .ag (by simpa using h1) h2 (hl hf hx)
 | tp h1 hx => exact .tp (by simpa using h1) (hl hf hx)
 | v h => exact sh1_vr (Z := Z) hn rfl (.v h)
 | st h hn' => exact sh1_vr (Z := Z) hn rfl (.st h hn')
 | e0 => exact sh1_vr (Z := Z) hn rfl .e0
 | rf hr h0 h1 h2 hm => exact sh1_vr (Z := Z) hn rfl (.rf hr h0 h1 h2 hm)
 | pt hr => exact sh1_vr (Z := Z) hn rfl (.pt hr)
 | _ => simp [ownFlat, flatO] at hf
/-- What a call made stands beside what was there. -/
theorem HR.join {Z0 : Nat → Prop} (hh : HR w Z R h) (_hz : ∀ c, Z0 c → c < w.heap.size) (st : StepW w Z0 [] [] w' Z' R' h') (hh' : HR w' Z' R' h') (hf : flatH h' = true) : HR w' Z (R ++ R') (h ++ h') ∧ Step w Z R h w' Z (R ++ R') (h ++ h') := by
 have hold : ∀ c, c < w.heap.size → w'.heap[c]? = w.heap[c]? := fun c hc => st.block c hc fun ⟨b, B, r, hb, _⟩ => by simp at hb
 have hr : ∀ (i : Nat) (x : RI), R[i]? = some x → (R ++ R')[i]? = some x := fun i x hx => by
  rw [List.getElem?_append_left (List.getElem?_eq_some_iff.1 hx).1]; exact hx
 have hnew : ∀ c, own R' h' c → w.heap.size ≤ c := fun c hc => (st.own_ c hc).resolve_left fun ⟨b, B, r, hb, _⟩ => by simp at hb
 have hlen := hh.len
 -- where a block lies
 have hat : ∀ (b : Nat) (B : Blk), (h ++ h')[b]? = some (some B) → (b < h.length ∧ h[b]? = some (some B) ∧ (R ++ R')[b]? = R[b]?) ∨ (∃ j, b = h.length + j ∧ h'[j]? = some (some B) ∧ (R ++ R')[b]? = R'[j]?) := fun b B hb => by
  by_cases hlt : b < h.length
  ·rw [List.getElem?_append_left hlt] at hb
   exact .inl ⟨hlt, hb, List.getElem?_append_left (by omega)⟩
  ·rw [List.getElem?_append_right (by omega)] at hb
   exact .inr ⟨b - h.length, by omega, hb, by rw [List.getElem?_append_right (by omega), hlen]⟩
 have hRb : ∀ (b : Nat) (B : Blk) (r : RI), h[b]? = some (some B) → R[b]? = some r → r.c < w.heap.size := fun b B r h1 h2 => hh.rltL h1 h2
 have hRn : ∀ (j : Nat) (B : Blk) (r : RI), h'[j]? = some (some B) → R'[j]? = some r → w.heap.size ≤ r.c := fun j B r h1 h2 => hnew _ ⟨j, B, r, h1, (flatH_at hf j B h1).1, h2, rfl⟩
 refine ⟨⟨by simp [hh.len, hh'.len], fun b B hB => ?_, fun b b' B B' r r' hB hfz hB' hfz' h1 h2 e => ?_, fun c hc => Nat.lt_of_lt_of_le (hh.zlt c hc) st.size⟩, ⟨st.os, st.tape, st.output, st.size, fun c hc _ => hold c hc, fun c hc => ?_, fun _ h => h, fun _ h => .inl h, hr⟩⟩
 ·rcases hat b B hB with ⟨hlt, hb, hRR⟩ | ⟨j, rfl, hb, hRR⟩
  ·obtain ⟨r, arr, us, g1, g2, g3, g4, g5, g6, g7, g8, g9, g10⟩ := hh.blk b B hb
   exact ⟨r, arr, us, hRR.trans g1, g2, (hold _ (hRb b B r hb g1)).trans g3, g4, g5, g6, g7, g8, ⟨g9.len, fun i x u hx hu => (g9.at_ i x u hx hu).mono (fun c hc => hold c (hh.zlt c hc)) (fun _ h => h) hr⟩, g10⟩
  ·obtain ⟨r, arr, us, g1, g2, g3, g4, g5, g6, g7, g8, g9, g10⟩ := hh'.blk j B hb
   obtain ⟨f1, f2⟩ := flatH_at hf j B hb
   exact ⟨r, arr, us, hRR.trans g1, g2, g3, g4, g5, g6, (fun h => by rw [f1] at h; cases h), (fun _ hz' => by have := hh.zlt _ hz'; have := hRn j B r hb g1; omega), ⟨g9.len, fun i x u hx hu => flat_vr (by have := List.all_eq_true.1 f2 x (List.mem_of_getElem? hx); cases x <;> first | exact this | (simp [isFlat] at this)) (g9.at_ i x u hx hu)⟩, g10⟩
 ·rcases hat b B hB with ⟨_, hb, hRR⟩ | ⟨j, rfl, hb, hRR⟩ <;> rcases hat b' B' hB' with ⟨_, hb', hRR'⟩ | ⟨j', rfl, hb', hRR'⟩ <;> rw [hRR] at h1 <;> rw [hRR'] at h2
  ·exact hh.inj b b' B B' r r' hb hfz hb' hfz' h1 h2 e
  ·have := hRb b B r hb h1; have := hRn j' B' r' hb' h2; omega
  ·have := hRb b' B' r' hb' h2; have := hRn j B r hb h1; omega
  ·rw [hh'.inj j j' B B' r r' hb hfz hb' hfz' h1 h2 e]
 ·obtain ⟨b, B, r, h1, h2, h3, rfl⟩ := hc
  rcases hat b B h1 with ⟨_, hb, hRR⟩ | ⟨j, rfl, hb, hRR⟩ <;> rw [hRR] at h3
  ·exact .inl ⟨b, B, r, hb, h2, h3, rfl⟩
  ·exact .inr (hRn j B r hb h3)
end
/-- What a call may hand back, and the blocks that come with it. -/
def SOk (f : FuncId) (ys : List AV) (Out : AV → Hp → Prop) : Prop := Callable E0.P f ∧ ∀ w Z us, (∀ c, Z c → c < w.heap.size) → GI E0 w Z → VRs w Z [] ys us → Ret E0.P f us.toArray w fun v w' => ∃ Z' R' x h', Out x h' ∧ HR w' Z' R' h' ∧ VR w' Z' R' x v ∧ StepW w Z [] [] w' Z' R' h'
theorem sok_of_sem {e : Env} (hE : EnvOk e) (hP : e.P = E0.P) (hG : e.G = E0.G) {f : FuncId} {fn : Func} {c : Code} (hf : e.fn f = some fn) (hc : fn.body = some c) (hcall : Callable E0.P f) {ys : List AV} (hle : ys.length ≤ fn.ntmps) {Out : AV → Hp → Prop}
  (sem : Sem e ⟨none, false⟩ c ⟨Fr fn.ntmps (pairs0 0 ys), []⟩ fun x s' => (x = .normal ∨ x = .ret) ∧ ∃ xs, resA e.P s'.fr s'.hp fn.results.toList = some xs ∧ Out (retA xs) s'.hp) : SOk f ys Out := by
 obtain ⟨P, fns, G, X, I⟩ := e
 simp only at hP hG
 subst hP hG
 refine ⟨hcall, fun w Z us hz hg hv => ?_⟩
 have hh : HR w Z [] [] := ⟨rfl, fun b B hB => by simp at hB, fun b b' B B' r r' hB => by simp at hB, hz⟩
 refine Ret.mono (ret_sem hE hf hc hle (Q := fun _ s => ∃ x, s.fr = [some x] ∧ Out x s.hp) (Sem.mono (Sem.wk (Wk.enter hle) sem) fun e s' hs => ?_) hh hv hg) fun v w' hS => ?_
 ·obtain ⟨h1, xs, h2, h3⟩ := hs
  exact ⟨h1, xs, h2, _, rfl, h3⟩
 ·obtain ⟨Z', R', x, h', ⟨y, hy, hO⟩, k1, k2, st⟩ := hS
  have hy : x = y := by simpa using hy
  subst hy
  exact ⟨Z', R', x, h', hO, k1, k2, st⟩
def viewF (h : Hp) : AV → Option AV
 | .fn f [] [] => some (.fn f [] [])
 | x => view2 h x
def viewsF (h : Hp) : List AV → Option (List AV)
 | [] => some []
 | x :: l => match viewF h x, viewsF h l with
  | some y, some r => some (y :: r)
  | _, _ => none
theorem viewsF_vr {w : World} {Z : Nat → Prop} {R : List RI} {h : Hp} (hh : HR w Z R h) : ∀ {xs ys : List AV} {us : List Value}, VRs w Z R xs us → viewsF h xs = some ys → VRs w (fun c => Z c ∨ own R h c) [] ys us
 | [], ys, us, hv, e => by
  injection e with e; subst e
  have : us = [] := by have := hv.len; simpa using this
  subst this
  exact .nil
 | x :: xs, ys, us, hv, e => by
  obtain ⟨u, us', rfl, hu, hn⟩ := hv.head
  unfold viewsF at e
  split at e
  ·next y r h1 h2 =>
   injection e with e; subst e
   refine .cons ?_ (viewsF_vr hh hn h2)
   unfold viewF at h1
   split at h1
   ·injection h1 with h1; subst h1
    cases hu with
    | fn hl hl' hx hy =>
     rename_i u1 u2
     have e1 : u1 = [] := by simpa using hl
     have e2 : u2 = [] := by simpa using hl'
     subst e1 e2
     exact .fn (us := []) (vs := []) rfl rfl (fun i x u hx => by simp at hx) (fun i x u hx => by simp at hx)
   ·exact view2_vr hh hu h1
  ·cases e
section
variable {E : Env} {ops : Array Oper} {rest rest' : List Oper} {K : St → Prop} {n : Nat} {l : List (Nat × AV)} {hp : Hp} {xs ys : List AV} {Out : AV → Hp → Prop}
theorem RunS.callS (hP : E.P = E0.P) (hG : E.G = E0.G) {d : Nat} {f : Operand} {args : Array Operand} {tys : Array TypeId} {ty : TypeId} {pos : String} {af : Array Edge} {g : Option (Nat × Bool)} {fid : FuncId} (hs : SOk fid ys Out) (hr : rest = ⟨some d, .call ⟨.value f, args, tys⟩, ty, pos, af, g⟩ :: rest') (hw : wantedA ops (Fr n l) ⟨some d, .call ⟨.value f, args, tys⟩, ty, pos, af, g⟩ = some true)
  (hf : opA E (Fr n l) f = some (.fn fid [] [])) (ha : opds (opA E (Fr n l)) args.toList = some xs) (hv : viewsF hp xs = some ys) (hfl : ∀ x h', Out x h' → ownFlat x = true ∧ flatH h' = true) (k : ∀ x h', Out x h' → RunS E ops rest' ⟨Fr n ((d, shN hp.length x) :: l), hp ++ h'⟩ K) : RunS E ops rest ⟨Fr n l, hp⟩ K := by
 obtain ⟨P, fns, G, X, I⟩ := E
 simp only at hP hG
 subst hP hG
 subst hr
 intro base Q a w Z R sr q
 have hρ : ∀ o x, opA ⟨E0.P, fns, E0.G, X, I⟩ (Fr n l) o = some x → VR w Z R x (a.eval o) := fun o x e => opA_vr sr o x e
 refine lwl_loud rfl (wantedA_eq sr hw) ?_
 have hva : a.eval f = .func (.func fid) ([] : List Value).toArray ([] : List Value).toArray := by
  have := hρ _ _ hf
  generalize a.eval f = vf at this
  cases this with
  | fn hl hl' hx hy =>
   rename_i u1 u2
   have e1 : u1 = [] := by simpa using hl
   have e2 : u2 = [] := by simpa using hl'
   subst e1 e2; rfl
 unfold Lw
 rw [run_call (uf := []) (uc := []) rfl hva rfl hs.1 w]
 simp only [List.nil_append, List.append_nil]
 have hz1 : ∀ c, (Z c ∨ own R hp c) → c < w.heap.size := fun c hc => hc.elim (sr.hh.zlt c) (fun ⟨b, B, r, h1, _, h3, h4⟩ => h4 ▸ sr.hh.rltL h1 h3)
 have hg1 : GI E0 w (fun c => Z c ∨ own R hp c) := fun q y hy => (sr.gl q y hy).mono (fun _ _ => rfl) (fun _ h => .inl h) (fun _ _ h => h)
 refine Ret.mono (hs.2 w _ _ hz1 hg1 (viewsF_vr sr.hh (opds_vr hρ ha) hv)) fun v w' hS => ?_
 obtain ⟨Z', R', x, h', hO, h1, h2, st⟩ := hS
 obtain ⟨f1, f2⟩ := hfl x h' hO
 obtain ⟨j1, j2⟩ := sr.hh.join hz1 st h1 f2
 have hlen : R.length = hp.length := sr.hh.len
 have hx := shN_vr (w := w') (Z' := Z) (R := R) hlen f1 h2
 have sr' := (sr.step j1 j2).put (d := some d) hx
 rw [show putA (⟨Fr n l, hp⟩ : St).fr (some d) (shN hp.length x) = Fr n ((d, shN hp.length x) :: l) from putA_Fr n l d _] at sr'
 exact k x h' hO base Q _ w' Z (R ++ R') sr' fun s' a' w'' Z'' R'' hK sr'' st' => q s' a' w'' Z'' R'' hK sr'' (j2.w.trans st')
end
/-- As Fr1, and in the cells of a struct. -/
def Fr2 (h : Hp) (b : Nat) (x x' : AV) : Prop := Fr1 h b x x' ∨ ∃ cs cs', x = .ag cs ∧ x' = .ag cs' ∧ EsFz h b cs cs'
theorem Fr2.vr {w : World} {Z : Nat → Prop} {R : List RI} {h : Hp} {b : Nat} {x x' : AV} {u : Value} (f : Fr2 h b x x') (hh : HR w Z R h) (hv : VR w Z R x u) : VR w (ZFr Z R h b) R x' u := by
 rcases f with f | ⟨cs, cs', rfl, rfl, f⟩
 ·exact f.vr hh hv
 ·obtain ⟨k1, k2⟩ := f.at_
  cases hv with
  | ag hl h1 hx =>
   refine .ag (hl.trans k1) h1 fun i y u hy hu => ?_
   obtain ⟨x, q1, q2⟩ := k2 i y hy
   exact q2.vr hh (hx i x u q1 hu)
def EsF2 (h : Hp) (b : Nat) : List AV → List AV → Prop
 | [], [] => True
 | x :: r, x' :: r' => Fr2 h b x x' ∧ EsF2 h b r r'
 | _, _ => False
theorem EsF2.at_ {h : Hp} {b : Nat} : ∀ {es es' : List AV}, EsF2 h b es es' → es.length = es'.length ∧ ∀ (i : Nat) (x' : AV), es'[i]? = some x' → ∃ x, es[i]? = some x ∧ Fr2 h b x x'
 | [], [], _ => ⟨rfl, fun i x' hx => by simp at hx⟩
 | x :: r, x' :: r', ⟨h1, h2⟩ => by
  obtain ⟨k1, k2⟩ := h2.at_
  refine ⟨by simp [k1], fun i y hy => ?_⟩
  cases i with
  | zero => simp at hy; subst hy; exact ⟨x, rfl, h1⟩
  | succ i => simpa using k2 i y (by simpa using hy)
 | [], _ :: _, h => h.elim
 | _ :: _, [], h => h.elim
def EnF2 (h : Hp) (b : Nat) (o o' : Option Blk) : Prop := o' = none ∨ o = o' ∨ ∃ k t es es', o = some ⟨k, t, es, false⟩ ∧ o' = some ⟨k, t, es', false⟩ ∧ EsF2 h b es es'
def HpF2 (h : Hp) (b : Nat) : Hp → Hp → Prop
 | [], [] => True
 | o :: r, o' :: r' => EnF2 h b o o' ∧ HpF2 h b r r'
 | _, _ => False
theorem HpF2.at_ {h : Hp} {b : Nat} : ∀ {q q' : Hp}, HpF2 h b q q' → q.length = q'.length ∧ ∀ (j : Nat) (B' : Blk), q'[j]? = some (some B') → ∃ es, q[j]? = some (some { B' with es := es }) ∧ es.length = B'.es.length ∧ ∀ (i : Nat) (x' : AV), B'.es[i]? = some x' → ∃ x, es[i]? = some x ∧ Fr2 h b x x'
 | [], [], _ => ⟨rfl, fun j B' hx => by simp at hx⟩
 | o :: r, o' :: r', ⟨h1, h2⟩ => by
  obtain ⟨k1, k2⟩ := h2.at_
  refine ⟨by simp [k1], fun j B' hB => ?_⟩
  cases j with
  | zero =>
   simp at hB
   subst hB
   rcases h1 with h1 | h1 | ⟨k, t, es, es', rfl, h1, h3⟩
   ·cases h1
   ·subst h1
    exact ⟨B'.es, rfl, rfl, fun i x' hx => ⟨x', hx, .inl (.inl rfl)⟩⟩
   ·have h1 := Option.some.inj h1
    subst h1
    obtain ⟨q1, q2⟩ := h3.at_
    exact ⟨es, rfl, q1, q2⟩
  | succ j => simpa using k2 j B' (by simpa using hB)
 | [], _ :: _, h => h.elim
 | _ :: _, [], h => h.elim
def LkF2 (h : Hp) (b : Nat) (l : List (Nat × AV)) : List (Nat × AV) → Prop
 | [] => True
 | (t, x') :: r => (∃ x, lk l t = some x ∧ Fr2 h b x x') ∧ LkF2 h b l r
theorem LkF2.at_ {h : Hp} {b : Nat} {l : List (Nat × AV)} : ∀ {l' : List (Nat × AV)}, LkF2 h b l l' → ∀ t x', lk l' t = some x' → ∃ x, lk l t = some x ∧ Fr2 h b x x'
 | [], _, t, x, h => by cases h
 | (k, y) :: r, hk, t, x, h => by
  rw [lk_put] at h
  split at h
  ·next e => injection h with h; subst e h; exact hk.1
  ·exact hk.2.at_ t x h
/-- Block b is frozen, wherever it is named. -/
theorem Wk.frzG2 {E : Env} {n : Nat} {l l' : List (Nat × AV)} {h h' : Hp} (b : Nat) (hb : h'[b]? = some Option.none ∨ h[b]? = some Option.none) (hh : HpF2 h b h h') (hl : LkF2 h b l l') : Wk E ⟨Fr n l, h⟩ ⟨Fr n l', h'⟩ := by
 intro base w Z R a sr
 obtain ⟨hlen, hblk⟩ := hh.at_
 have hne : ∀ (j : Nat) (B' B r : _), h'[j]? = some (some B') → h[b]? = some (some B) → R[b]? = some r → B.fz = false → B'.fz = false → ∀ r', R[j]? = some r' → r'.c ≠ r.c := by
  intro j B' B r hj hB hr hf hf' r' hr' e
  obtain ⟨es, k1, _⟩ := hblk j B' hj
  have := sr.hh.inj j b _ B r' r k1 hf' hB hf hr' hr e
  subst this
  rcases hb with hb | hb
  ·rw [hb] at hj; cases hj
  ·rw [hb] at hB; cases hB
 have hown : ∀ c, own R h' c → own R h c := fun c ⟨j, B, r, h1, h2, h3, h4⟩ => by
  obtain ⟨es, k1, _⟩ := hblk j B h1
  exact ⟨j, _, r, k1, h2, h3, h4⟩
 have hzo : ∀ c, ZFr Z R h b c → Z c ∨ own R h c := fun c hc => hc.elim .inl fun ⟨B, r, h1, h2, h3, h4⟩ => .inr ⟨b, B, r, h1, h2, h3, h4.symm⟩
 refine ⟨ZFr Z R h b, R, ⟨⟨sr.hh.len.trans hlen, fun j B' hB' => ?_, fun j j' B B' r r' hB hf hB' hf' h1 h2 e => ?_, fun c hc => ?_⟩, ⟨?_, fun t x hx => ?_⟩, ?_, fun g x hx => (sr.gl g x hx).mono (fun _ _ => rfl) (fun _ h => .inl h) (fun _ _ h => h), sr.bs⟩, ⟨rfl, rfl, rfl, Nat.le_refl _, fun _ _ _ => rfl, fun c hc => .inl (hown c hc), fun _ h => .inl h, fun c hc => (hzo c hc).elim .inl (fun h => .inr (.inl h))⟩⟩
 ·obtain ⟨es, k1, k2, k3⟩ := hblk j B' hB'
  obtain ⟨r, arr, us, g1, g2, g3, g4, g5, g6, g7, g8, g9, g10⟩ := sr.hh.blk j _ k1
  refine ⟨r, arr, us, g1, g2, g3, g4, by rw [← k2]; exact g5, g6, fun hf => .inl (g7 hf), fun hf hc => ?_, ⟨by rw [g9.len]; exact k2, fun i x' u hx hu => ?_⟩, g10⟩
  ·rcases hc with hc | ⟨B, r2, q1, q2, q3, q4⟩
   ·exact g8 hf hc
   ·exact hne j B' B r2 hB' q1 q3 q2 hf r g1 q4
  ·obtain ⟨x, q1, q2⟩ := k3 i x' hx
   exact q2.vr sr.hh (g9.at_ i x u q1 hu)
 ·obtain ⟨es, k1, _⟩ := hblk j B hB
  obtain ⟨es', k1', _⟩ := hblk j' B' hB'
  exact sr.hh.inj j j' _ _ r r' k1 hf k1' hf' h1 h2 e
 ·rcases hc with hc | ⟨B, r, q1, q2, q3, rfl⟩
  ·exact sr.hh.zlt c hc
  ·exact sr.hh.rltL q1 q3
 ·rw [Fr_len]; have := sr.fr.1; rw [Fr_len] at this; exact this
 ·rw [Fr_get] at hx
  split at hx
  ·next ht =>
   injection hx with hx
   obtain ⟨y, h1, h2⟩ := hl.at_ t x hx
   exact h2.vr sr.hh (sr.fr.2 t y (by rw [Fr_get, if_pos ht, h1]))
  ·cases hx
 ·exact sr.mks.imp fun q h3 h4 h5 => ⟨h3, fun hc => (hzo q hc).elim h4 h5, fun ho => h5 (hown q ho)⟩
/-- Structs of values. -/
def cdG1 {α : Type} (c : Cd α) (hc : ∀ x, noRf (c.enc x) = true) : Cd α where
 enc x := .ag [c.enc x]
 dec a := match a with
  | .ag [y] => c.dec y
  | _ => none
 de x := c.de x
 vr := fun {w Z a x u} h hv => by
  split at h
  ·cases hv with
   | ag hl h1 hx =>
    refine .ag (by simpa using hl) h1 fun i y u hy hu => ?_
    match i with
    | 0 => simp at hy; subst hy; exact c.vr h (hx 0 _ u rfl hu)
    | i + 1 => simp at hy
  ·cases h
 nr x := by simp [noRf2, hc]
def cdG2 {α β : Type} (c : Cd α) (d : Cd β) (hc : ∀ x, noRf (c.enc x) = true) (hd : ∀ x, noRf (d.enc x) = true) : Cd (α × β) where
 enc x := .ag [c.enc x.1, d.enc x.2]
 dec a := match a with
  | .ag [y, z] => (c.dec y).bind fun p => (d.dec z).map fun q => (p, q)
  | _ => none
 de x := by simp [c.de, d.de]
 vr := fun {w Z a x u} h hv => by
  split at h
  ·obtain ⟨p, h1, h⟩ := Option.bind_eq_some_iff.1 h
   obtain ⟨q, h2, rfl⟩ := Option.map_eq_some_iff.1 h
   cases hv with
   | ag hl hh hx =>
    refine .ag (by simpa using hl) hh fun i y u hy hu => ?_
    match i with
    | 0 => simp at hy; subst hy; exact c.vr h1 (hx 0 _ u rfl hu)
    | 1 => simp at hy; subst hy; exact d.vr h2 (hx 1 _ u rfl hu)
    | i + 2 => simp at hy
  ·cases h
 nr x := by simp [noRf2, hc, hd]
def notAg : AV → Bool
 | .ag _ => false
 | _ => true
/-- As Sem, but the numbers of the blocks are kept, and a range over a function may be under way. -/
def SemY (E : Env) (cx : Cx) (c : Code) (s : St) (Q : Ex → St → Prop) : Prop :=
 ∀ (ro : Option Nat) (base : Bs) (Qm : Exit → Act → World → Prop) (a : Act) (w : World) (Z : Nat → Prop) (R : List RI), (cx.inR = false → ro = none) → SR E base w Z R s a → YI cx w Z R s.hp →
  (∀ e s' a' w' Z' R', Q e s' → SR E base w' Z' R' s' a' → Step w Z R s.hp w' Z' R' s'.hp → Qm (exOf e) a' w') → c.wpIn (Fw ro) 0 E.P Qm a w
def SemYN (E : Env) (cx : Cx) (c : Code) (n : Nat) (s : St) (Q : Ex → St → Prop) : Prop :=
 ∀ (ro : Option Nat) (base : Bs) (Qm : Exit → Act → World → Prop) (a : Act) (w : World) (Z : Nat → Prop) (R : List RI), (cx.inR = false → ro = none) → SR E base w Z R s a → YI cx w Z R s.hp →
  (∀ e s' a' w' Z' R', Q e s' → SR E base w' Z' R' s' a' → Step w Z R s.hp w' Z' R' s'.hp → Qm (exOf e) a' w') → Code.roundsIn (Fw ro) 0 E.P c Qm n a w
def RunY (E : Env) (cx : Cx) (ops : Array Oper) (rest : List Oper) (s : St) (K : St → Prop) : Prop :=
 ∀ (ro : Option Nat) (base : Bs) (Q : Exit → Act → World → Prop) (a : Act) (w : World) (Z : Nat → Prop) (R : List RI), (cx.inR = false → ro = none) → SR E base w Z R s a → YI cx w Z R s.hp →
  (∀ s' a' w' Z' R', K s' → SR E base w' Z' R' s' a' → Step w Z R s.hp w' Z' R' s'.hp → Q .normal a' w') → wpListIn (Fw ro) 0 E.P ops Q rest a w
/-- A state that says less of the same worlds; the numbers are kept. -/
def WkY (E : Env) (s s' : St) : Prop := ∀ base w Z R a, SR E base w Z R s a → ∃ Z' R', SR E base w Z' R' s' a ∧ Step w Z R s.hp w Z' R' s'.hp
section
variable {E : Env} {cx : Cx} {ops : Array Oper} {pre rest rest' : List Oper} {s s1 : St} {K : St → Prop} {n m : Nat} {l l' : List (Nat × AV)} {hp hp' : Hp} {Q Q' : Ex → St → Prop} {id : Nat} {c c' : Code}
theorem SemY.skip (q : Q .normal s) : SemY E cx .skip s Q := fun _ _ _ a w Z R _ h2 _ k => wpIn_skip (k .normal s a w Z R q h2 (Step.refl _ _ _ _))
theorem SemY.exit {id : Nat} (q : Q (.exit id) s) : SemY E cx (.exit id) s Q := fun _ _ _ a w Z R _ h2 _ k => wpIn_exit (k (.exit id) s a w Z R q h2 (Step.refl _ _ _ _))
theorem SemY.ret (q : Q .ret s) : SemY E cx .ret s Q := fun _ _ _ a w Z R _ h2 _ k => wpIn_ret (k .ret s a w Z R q h2 (Step.refl _ _ _ _))
theorem SemY.cond_true {x : Operand} (hx : opA E s.fr x = some (.v (.bool true))) (h : SemY E cx c s Q) : SemY E cx (.cond x c c') s Q :=
 fun ro base Qm a w Z R h1 h2 h3 k => wpIn_cond_true (opA_vr h2 _ _ hx).v_inv (h ro base Qm a w Z R h1 h2 h3 k)
theorem SemY.cond_false {x : Operand} (hx : opA E s.fr x = some (.v (.bool false))) (h : SemY E cx c' s Q) : SemY E cx (.cond x c c') s Q :=
 fun ro base Qm a w Z R h1 h2 h3 k => wpIn_cond_false (opA_vr h2 _ _ hx).v_inv (h ro base Qm a w Z R h1 h2 h3 k)
theorem SemY.cond {x : Operand} {b : Bool} (hx : opA E s.fr x = some (.v (.bool b))) (h : b = true → SemY E cx c s Q) (h' : b = false → SemY E cx c' s Q) : SemY E cx (.cond x c c') s Q := by
 cases b with
 | true => exact .cond_true hx (h rfl)
 | false => exact .cond_false hx (h' rfl)
theorem SemY.block {id : Nat} (h : SemY E cx c s fun e s' => match e with | .exit id' => if id' = id then Q .normal s' else Q (.exit id') s' | e => Q e s') : SemY E cx (.block id c) s Q := by
 intro ro base Qm a w Z R h1 h2 h3 k
 refine wpIn_block (h ro base _ a w Z R h1 h2 h3 fun e s' a' w' Z' R' hQ sr st => ?_)
 cases e with
 | normal => exact k _ s' a' w' Z' R' hQ sr st
 | exit id' =>
  show if id' = id then Qm .normal a' w' else Qm (.exit id') a' w'
  simp only at hQ
  split at hQ
  ·next h => rw [if_pos h]; exact k .normal s' a' w' Z' R' hQ sr st
  ·next h => rw [if_neg h]; exact k _ s' a' w' Z' R' hQ sr st
 | ret => exact k _ s' a' w' Z' R' hQ sr st
theorem SemY.loop (h : SemYN E cx c n s Q) : SemY E cx (.loop c) s Q :=
 fun ro base Qm a w Z R h1 h2 h3 k => wpIn_loop_rounds n (h ro base Qm a w Z R h1 h2 h3 k)
theorem SemY.mono (h : SemY E cx c s Q) (hq : ∀ e s, Q e s → Q' e s) : SemY E cx c s Q' :=
 fun ro base Qm a w Z R h1 h2 h3 k => h ro base Qm a w Z R h1 h2 h3 fun e s' a' w' Z' R' hQ => k e s' a' w' Z' R' (hq e s' hQ)
theorem WkY.refl : WkY E s s := fun _ _ Z R _ h => ⟨Z, R, h, Step.refl _ _ _ _⟩
theorem WkY.trans {s2 : St} (h : WkY E s s1) (h' : WkY E s1 s2) : WkY E s s2 := fun base w Z R a k =>
 let ⟨Z1, R1, k1, st1⟩ := h base w Z R a k
 let ⟨Z2, R2, k2, st2⟩ := h' base w Z1 R1 a k1
 ⟨Z2, R2, k2, st1.trans st2⟩
theorem WkY.fr (h : lkAll l l' = xsAll l') : WkY E ⟨Fr n l, hp⟩ ⟨Fr n l', hp⟩ := fun base w Z R a sr => by
 refine ⟨Z, R, ⟨sr.hh, ⟨?_, fun t x hx => sr.fr.2 t x ?_⟩, sr.mks, sr.gl, sr.bs⟩, Step.refl _ _ _ _⟩
 ·rw [Fr_len]; have := sr.fr.1; rw [Fr_len] at this; exact this
 ·rw [Fr_get] at hx ⊢
  split at hx
  ·next ht => rw [if_pos ht]; injection hx with hx; rw [lk_mem h hx]
  ·cases hx
theorem WkY.f1 {E : Env} {n : Nat} {l l' : List (Nat × AV)} {hp : Hp} (h : lkAll l l' = xsAll l' := by kernel_rfl) : WkY E ⟨Fr n l, hp⟩ ⟨Fr n l', hp⟩ := WkY.fr h
theorem SemY.wk (hw : WkY E s s1) (h : SemY E cx c s1 Q) : SemY E cx c s Q := by
 intro ro base Qm a w Z R h1 h2 h3 k
 obtain ⟨Z', R', h2', st⟩ := hw base w Z R a h2
 exact h ro base Qm a w Z' R' h1 h2' (h3.step h2.hh st) fun e s' a' w' Z2 R2 hQ sr st2 => k e s' a' w' Z2 R2 hQ sr (st.trans st2)
theorem SemYN.wk (hw : WkY E s s1) (h : SemYN E cx c n s1 Q) : SemYN E cx c n s Q := by
 intro ro base Qm a w Z R h1 h2 h3 k
 obtain ⟨Z', R', h2', st⟩ := hw base w Z R a h2
 exact h ro base Qm a w Z' R' h1 h2' (h3.step h2.hh st) fun e s' a' w' Z2 R2 hQ sr st2 => k e s' a' w' Z2 R2 hQ sr (st.trans st2)
theorem SemY.fr (h : lkAll l l' = xsAll l') (k : SemY E cx c ⟨Fr n l', hp⟩ Q) : SemY E cx c ⟨Fr n l, hp⟩ Q := SemY.wk (WkY.fr h) k
theorem RunY.done (hr : rest = []) (k : K s) : RunY E cx ops rest s K := by
 subst hr
 exact fun ro base Q a w Z R _ sr _ q => q s a w Z R k sr (Step.refl _ _ _ _)
theorem RunY.app (hE : EnvOk E) (n : Nat) : ∀ {pre : List Oper} {s : St}, opsA E (evC E n) ⟨none, false⟩ ops pre s = some s1 → RunY E cx ops rest s1 K → RunY E cx ops (pre ++ rest) s K
 | [], s, e, k => by injection e with e; subst e; exact k
 | o :: pre, s, e, kk => by
  intro ro base Q a w Z R hro sr hy q
  show wpListIn (Fw ro) 0 E.P ops Q (o :: (pre ++ rest)) a w
  unfold opsA at e
  unfold wpListIn
  split at e
  ·cases e
  ·next hw =>
   rw [if_neg (by rw [wantedA_eq sr hw]; simp)]
   exact ⟨fun _ _ => trivial, RunY.app hE n e kk ro base Q _ w Z R hro (sr.put undef_vr) hy q⟩
  ·next hw =>
   rw [if_pos (wantedA_eq sr hw)]
   split at e
   ·next s2 hs2 => exact lw_wpIn ro (op1_lw hE (code_sound hE n).1 hs2 sr fun a' w' Z' R' sr' st => RunY.app hE n e kk ro base Q a' w' Z' R' hro sr' (hy.step sr.hh st) fun s'' a'' w'' Z'' R'' hK sr'' st' => q s'' a'' w'' Z'' R'' hK sr'' (st.trans st'))
   ·cases e
theorem RunY.one (hE : EnvOk E) (n : Nat) {o : Oper} (hr : rest = o :: rest') (h : opsA E (evC E n) ⟨none, false⟩ ops [o] s = some s1) (k : RunY E cx ops rest' s1 K) : RunY E cx ops rest s K := by
 subst hr
 exact RunY.app hE n (pre := [o]) h k
theorem RunY.call {α β : Type} {s : Cs α} {F : α → Option β} {er : β → AV} {a : α} {b : β} {xs : List AV} (hE : EnvOk E) {d : Nat} {f : Operand} {args : Array Operand} {tys : Array TypeId} {ty : TypeId} {pos : String} {af : Array Edge} {g : Option (Nat × Bool)} {fid : FuncId} (hr : rest = ⟨some d, .call ⟨.value f, args, tys⟩, ty, pos, af, g⟩ :: rest') (hw : wantedA ops (Fr n l) ⟨some d, .call ⟨.value f, args, tys⟩, ty, pos, af, g⟩ = some true)
  (hf : opA E (Fr n l) f = some (.fn fid [] [])) (hi : E.I fid = false) (hX : E.X fid = some (told s F er)) (ha : opds (opA E (Fr n l)) args.toList = some xs) (hv : Sns hp s xs a) (hok : xs.all noRf2 = true ∨ flatTp (er b) = true) (hF : F a = some b) (k : RunY E cx ops rest' ⟨Fr n ((d, er b) :: l), hp⟩ K) : RunY E cx ops rest ⟨Fr n l, hp⟩ K :=
 RunY.one hE 0 hr (op_call hw hf hi hX ha hv hok hF) k
theorem SemY.region (h : RunY E cx ops ops.toList s fun s' => Q .normal s') : SemY E cx (.region id ops false) s Q := by
 intro ro base Qm a w Z R h1 h2 h3 kk
 exact wpIn_region_list (h ro base _ a w Z R h1 h2 h3 fun s' a' w' Z' R' hq sr st => kk .normal s' a' w' Z' R' hq sr st)
end
def pz : List Nat → List AV → List (Nat × AV) → List (Nat × AV)
 | p :: ps, x :: xs, l => pz ps xs ((p, x) :: l)
 | _, _, l => l
theorem setPs_Fr {n : Nat} : ∀ {ps : List Nat} {xs : List AV} {l : List (Nat × AV)}, setPs (Fr n l) ps xs = Fr n (pz ps xs l)
 | [], _, _ => by unfold setPs pz; rfl
 | _ :: _, [], _ => by unfold setPs pz; rfl
 | p :: ps, x :: xs, l => by
  unfold setPs pz
  rw [show (Fr n l).set p (some x) = Fr n ((p, x) :: l) from putA_Fr n l p x]
  exact setPs_Fr
/-- A function, entered: what its body does. -/
theorem ret_semY {e : Env} (he : EnvOk e) {y : Option YC} {f : FuncId} {fn : Func} {c : Code} (hfn : e.fn f = some fn) (hc : fn.body = some c) {args : List AV} (hle : args.length ≤ fn.ntmps) {hp : Hp} {Out : AV → Hp → Prop}
  (sem : SemY e ⟨y, false⟩ c ⟨Fr fn.ntmps (pairs0 0 args), hp⟩ fun x s' => (x = .normal ∨ x = .ret) ∧ ∃ ys, resA e.P s'.fr s'.hp fn.results.toList = some ys ∧ Out (retA ys) s'.hp)
  {w : World} {Z : Nat → Prop} {R : List RI} {us : List Value} (hh : HR w Z R hp) (hv : VRs w Z R args us) (hg : GI e w Z) (hy : YI ⟨y, false⟩ w Z R hp) :
  Ret e.P f us.toArray w fun v w' => ∃ Z' R' x h', Out x h' ∧ HR w' Z' R' h' ∧ VR w' Z' R' x v ∧ Step w Z R hp w' Z' R' h' := by
 obtain ⟨hff, hcall, _⟩ := he.fn f fn hfn
 refine callsIn_wide.1 (callsIn_of_wp_marks (F := Fw none) (n := 0) hff hc trivial ?_)
 have hul : us.length = args.length := hv.len
 have hsr : SR e (.of w.heap.size) w Z R ⟨Fr fn.ntmps (pairs0 0 args), hp⟩ { tmps := us.toArray ++ Array.replicate (fn.ntmps - us.toArray.size) undef, defers := [] } := by
  refine ⟨hh, ⟨by rw [Fr_len]; simp; omega, fun t x hx => ?_⟩, rfl, hg, Nat.le_refl _⟩
  rw [Fr_get] at hx
  split at hx
  ·injection hx with hx
   obtain ⟨j, h1, h2⟩ := lk_pairs0 _ 0 t x hx
   rw [Nat.zero_add] at h1
   subst h1
   obtain ⟨u, hu1, hu2⟩ := hv.get h2
   have e0 : us.toArray ++ Array.replicate (fn.ntmps - us.toArray.size) undef = (us ++ List.replicate (fn.ntmps - us.length) undef).toArray := by simp
   rw [e0, Array.getD_eq_getD_getElem?, List.getElem?_toArray, List.getElem?_append_left (List.getElem?_eq_some_iff.1 hu1).1, hu1]
   exact hu2
  ·cases hx
 refine sem none (.of w.heap.size) _ _ w Z R (fun _ => rfl) hsr hy fun x s' a' w' Z' R' hQ sr' st => ?_
 obtain ⟨hex, ys, hys, hO⟩ := hQ
 have hl := leaves_mks (base := .of w.heap.size) rfl (E := e) (w := w') (a := a') (fn := fn) (S := fun v w'' => ∃ Z' R' x h', Out x h' ∧ HR w'' Z' R' h' ∧ VR w'' Z' R' x v ∧ Step w Z R hp w'' Z' R' h') hys (fun w'' u g1 g2 g3 g4 g5 g6 g7 => ⟨Z', R', _, _, hO, g6, g7, ⟨g2.trans st.os, g3.trans st.tape, g4.trans st.output, by rw [g1]; exact st.size, fun c hc hn => (g5 c hc).trans (st.block c hc hn), st.own_, st.z, st.z', st.r⟩⟩) (D := a'.defers) (w1 := w') sr' rfl rfl rfl rfl (fun _ _ => rfl)
 rcases hex with rfl | rfl
 ·exact hl
 ·exact hl
section
variable {E : Env} {cx : Cx} {ops : Array Oper} {rest rest' : List Oper} {K : St → Prop} {n : Nat} {l : List (Nat × AV)} {hp : Hp}
/-- Only the first m blocks are kept. -/
theorem HR.trunc {w0 w : World} {Z0 Z : Nat → Prop} {R0 R : List RI} {h0 h h' : Hp} {m : Nat} (st : Step w0 Z0 R0 h0 w Z R h) (hl0 : R0.length = h0.length) (hm0 : h0.length ≤ m) (hh : HR w Z R h) (hm : (Nat.ble m h.length && Nat.ble h.length 1000000000) = true) (hk : HpUp (List.range m) h (List.range m) h') :
  HR w Z (newR (List.range m) R) h' ∧ Step w0 Z0 R0 h0 w Z (newR (List.range m) R) h' := by
 simp only [Bool.and_eq_true] at hm
 have hm1 := Nat.le_of_ble_eq_true hm.1
 have hb := Nat.le_of_ble_eq_true hm.2
 have hlen := hh.len
 obtain ⟨k1, k2⟩ := hk.at_
 rw [List.length_range] at k1
 have hι : ∀ i ∈ List.range m, i < R.length := fun i hi => by have := List.mem_range.1 hi; omega
 have hbR : R.length ≤ 1000000000 := by omega
 have hget : ∀ j, j < m → (newR (List.range m) R)[j]? = R[j]? := fun j hj => by
  unfold newR
  rw [List.getElem?_map, List.getElem?_range hj, Option.map_some, List.getD_eq_getElem?_getD, List.getElem?_eq_getElem (by omega : j < R.length)]; rfl
 have hrange : ∀ (j b : Nat), (List.range m)[j]? = some b → j < m ∧ b = j := fun j b hj => by
  obtain ⟨h1, h2⟩ := List.getElem?_eq_some_iff.1 hj
  rw [List.length_range] at h1
  rw [List.getElem_range] at h2
  exact ⟨h1, h2.symm⟩
 have hown : ∀ c, own (newR (List.range m) R) h' c → own R h c := fun c ⟨j, B, r, h1, h2, h3, h4⟩ => by
  obtain ⟨b, q1, q2, _⟩ := k2 j B h1
  obtain ⟨hj, rfl⟩ := hrange _ _ q1
  rw [hget b hj] at h3
  exact ⟨b, _, r, q2, h2, h3, h4⟩
 refine ⟨⟨by rw [k1]; simp [newR], fun j B hB => ?_, fun j j' B B' r r' hB hf hB' hf' h1 h2 e => ?_, hh.zlt⟩, ⟨st.os, st.tape, st.output, st.size, st.block, fun c hc => st.own_ c (hown c hc), st.z, st.z', fun i x hi => ?_⟩⟩
 ·obtain ⟨b, q1, q2, q3⟩ := k2 j B hB
  obtain ⟨hj, rfl⟩ := hrange _ _ q1
  obtain ⟨r, arr, us, g1, g2, g3, g4, g5, g6, g7, g8, g9, g10⟩ := hh.blk b _ q2
  refine ⟨r, arr, us, (hget b hj).trans g1, g2, g3, g4, by simpa using g5, g6, g7, g8, ⟨by have := g9.len; simpa using this, fun i x u hx hu => ?_⟩, g10⟩
  exact up_vr hι hbR (q3 x (List.mem_of_getElem? hx)) (g9.at_ i _ u (by simp [hx]) hu)
 ·obtain ⟨b, q1, q2, _⟩ := k2 j B hB
  obtain ⟨b', q1', q2', _⟩ := k2 j' B' hB'
  obtain ⟨hj, rfl⟩ := hrange _ _ q1
  obtain ⟨hj', rfl⟩ := hrange _ _ q1'
  rw [hget b hj] at h1
  rw [hget b' hj'] at h2
  exact hh.inj b b' _ _ r r' q2 hf q2' hf' h1 h2 e
 ·have := (List.getElem?_eq_some_iff.1 hi).1
  rw [hget i (by omega)]
  exact st.r i x hi
/-- .. in the midst of such a body: what it made is dropped. -/
theorem RunY.inl (hP : E.P = E0.P) (hG : E.G = E0.G) {e : Env} (he : EnvOk e) (heP : e.P = E0.P) (heG : e.G = E0.G) {d : Nat} {f : Operand} {args : Array Operand} {tys : Array TypeId} {ty : TypeId} {pos : String} {af : Array Edge} {g : Option (Nat × Bool)} {fid : FuncId} {caps xs : List AV} {fn : Func} {c : Code} {Out : AV → Hp → Prop} (m : Nat) (hm0 : hp.length = m) (hr : rest = ⟨some d, .call ⟨.value f, args, tys⟩, ty, pos, af, g⟩ :: rest') (hw : wantedA ops (Fr n l) ⟨some d, .call ⟨.value f, args, tys⟩, ty, pos, af, g⟩ = some true)
  (hf : opA E (Fr n l) f = some (.fn fid [] caps)) (ha : opds (opA E (Fr n l)) args.toList = some xs) (hfn : e.fn fid = some fn) (hc : fn.body = some c) (hle : (xs ++ caps).length ≤ fn.ntmps)
  (sem : SemY e ⟨none, false⟩ c ⟨Fr fn.ntmps (pairs0 0 (xs ++ caps)), hp⟩ fun x s' => (x = .normal ∨ x = .ret) ∧ ∃ ys, resA e.P s'.fr s'.hp fn.results.toList = some ys ∧ Out (retA ys) s'.hp)
  (k : ∀ x h', Out x h' → ∃ h'', (Nat.ble m h'.length && Nat.ble h'.length 1000000000) = true ∧ HpUp (List.range m) h' (List.range m) h'' ∧ (up (List.range m) x = x ∧ flat2 x = true) ∧ RunY E cx ops rest' ⟨Fr n ((d, x) :: l), h''⟩ K) : RunY E cx ops rest ⟨Fr n l, hp⟩ K := by
 obtain ⟨P, fns, G, X, I⟩ := E
 obtain ⟨P', fns', G', X', I'⟩ := e
 simp only at hP hG heP heG
 subst hP hG heP heG
 subst hr
 intro ro base Q a w Z R hro sr hy q
 have hρ : ∀ o x, opA ⟨E0.P, fns, E0.G, X, I⟩ (Fr n l) o = some x → VR w Z R x (a.eval o) := fun o x e => opA_vr sr o x e
 unfold wpListIn
 rw [if_pos (wantedA_eq sr hw)]
 refine lw_wpIn ro ?_
 have hvf := hρ _ _ hf
 generalize hvq : a.eval f = vf at hvf
 cases hvf with
 | fn hl hl' hx hy' =>
  rename_i u1 u2
  have e1 : u1 = [] := by simpa using hl
  subst e1
  obtain ⟨hff, hcall, _⟩ := he.fn fid fn hfn
  unfold Lw
  rw [run_call (uf := []) (uc := u2) rfl hvq rfl hcall w]
  simp only [List.nil_append]
  have hargs : VRs w Z R (xs ++ caps) (args.toList.map a.eval ++ u2) := (opds_vr hρ ha).append ⟨hl', hy'⟩
  refine Ret.mono (ret_semY he hfn hc hle sem sr.hh hargs sr.gl (fun y hy => by cases hy)) fun v w' hS => ?_
  obtain ⟨Z', R', x, h', hO, h1, h2, st⟩ := hS
  obtain ⟨h'', hm, hk, ⟨hx1, hx2⟩, kk⟩ := k x h' hO
  have hl1 : R.length = hp.length := sr.hh.len
  obtain ⟨j1, j2⟩ := HR.trunc st hl1 (Nat.le_of_eq hm0) h1 hm hk
  simp only [Bool.and_eq_true] at hm
  have hm1 := Nat.le_of_ble_eq_true hm.1
  have hm2 := Nat.le_of_ble_eq_true hm.2
  have hl2 := h1.len
  have hvx : VR w' Z' (newR (List.range m) R') x v := up_vr (fun i hi => by have := List.mem_range.1 hi; omega) (by omega) hx2 (by rw [hx1]; exact h2)
  have sr' := (sr.step j1 j2).put (d := some d) hvx
  rw [show putA (⟨Fr n l, hp⟩ : St).fr (some d) x = Fr n ((d, x) :: l) from putA_Fr n l d _] at sr'
  exact kk ro base Q _ w' Z' _ hro sr' (hy.step sr.hh j2) fun s' a' w'' Z'' R'' hK sr'' st' => q s' a' w'' Z'' R'' hK sr'' (j2.trans st')
/-- A yield: a round of the range that is under way. -/
theorem RunY.yield (hP : E.P = E0.P) (hG : E.G = E0.G) {eb : Env} (hbP : eb.P = E0.P) (hbG : eb.G = E0.G) {y : YC} (hcx : cx.y = some y) (hin : cx.inR = false) {d : Nat} {f : Operand} {args : Array Operand} {tys : Array TypeId} {ty : TypeId} {pos : String} {af : Array Edge} {g : Option (Nat × Bool)} {xs : List AV} {K1 : Hp → Prop} (hr : rest = ⟨some d, .call ⟨.value f, args, tys⟩, ty, pos, af, g⟩ :: rest') (hw : wantedA ops (Fr n l) ⟨some d, .call ⟨.value f, args, tys⟩, ty, pos, af, g⟩ = some true)
  (hf : opA E (Fr n l) f = some (.yl y.b)) (ha : opds (opA E (Fr n l)) args.toList = some xs) (hlen : xs.length = y.ps.length) {n0 : Nat} {l0 : List (Nat × AV)} (hfr : y.fr = Fr n0 l0)
  (hb : SemY eb ⟨none, true⟩ y.assign ⟨Fr n0 (pz y.ps xs l0), hp⟩ fun e s1 => e = .normal ∧ SemY eb ⟨none, true⟩ y.body s1 fun e s2 => e = .normal ∧ K1 s2.hp)
  (k : ∀ h', K1 h' → RunY E cx ops rest' ⟨Fr n ((d, .v (.bool true)) :: l), h'⟩ K) : RunY E cx ops rest ⟨Fr n l, hp⟩ K := by
 obtain ⟨P, fns, G, X, I⟩ := E
 obtain ⟨P', fns', G', X', I'⟩ := eb
 simp only at hP hG hbP hbG
 subst hP hG hbP hbG
 subst hr
 intro ro base Q a w Z R hro sr hy q
 have hρ : ∀ o x, opA ⟨E0.P, fns, E0.G, X, I⟩ (Fr n l) o = some x → VR w Z R x (a.eval o) := fun o x e => opA_vr sr o x e
 unfold wpListIn
 rw [if_pos (wantedA_eq sr hw)]
 have hro' := hro hin
 subst hro'
 have hvs := opds_vr hρ ha
 have hvf := hρ _ _ hf
 have hyy := hy
 obtain ⟨d1, d2, r, L, g1, g2, g3, g4, g5, g6, g7, g8, g9, g10⟩ := hy y hcx
 generalize hvq : a.eval f = vf at hvf
 cases hvf with
 | yl hr =>
  rename_i r'
  rw [g1] at hr
  injection hr with hr
  subst hr
  generalize hus : args.toList.map a.eval = us at hvs
  have hargs : args.map a.eval = us.toArray := by
   apply Array.ext'
   rw [← hus, Array.toList_map]
  have hps : us.toArray.size = L.params.size := by rw [g7]; simp [hvs.len, hlen]
  have hrun : (execOp a.eval (⟨some d, .call ⟨.value f, args, tys⟩, ty, pos, af, g⟩ : Oper)).run E0.P w = .ok (.round r.c L.fn ((L.params.zip us.toArray).foldl (fun tmps (t, a) => tmps.setIfInBounds t a) L.tmps) L.assign L.body) w := by
   simp only [execOp, resolve, hvq, hargs, Deferred.ofValue]
   rw [Sem.run_bind, Sem.run_pure]
   simp only [Result.andThen, invoke, Array.empty_append]
   exact run_yield g4 hps
  refine ⟨fun _ _ => trivial, ?_⟩
  rw [show (Fw none).round = none from rfl, semAt_run none hrun (by simp), Oper.uponIn_round]
  refine ⟨(fun h => by cases h), ?_⟩
  refine roundIn_of_wpIn (F := Fw none) trivial ?_
  rw [g8, g9]
  have hfr0 : FrR w Z R (setPs y.fr y.ps xs) ((L.params.zip us.toArray).foldl (fun tmps (t, a) => tmps.setIfInBounds t a) L.tmps) := by
   have := setPs_fr (ps := y.ps) g10 hvs
   have e0 : (L.params.zip us.toArray).foldl (fun tmps (t, a) => tmps.setIfInBounds t a) L.tmps = (y.ps.zip us).foldl (fun tmps (x : Tmp × Value) => tmps.setIfInBounds x.1 x.2) L.tmps := by
    rw [g7, ← Array.foldl_toList]; simp
   rw [e0]; exact this
  rw [hfr, setPs_Fr] at hfr0
  have hlt := heapLt g4
  refine hb (some r.c) (.of 0) _ { tmps := _, defers := [] } w Z R (fun h => by cases h) ⟨sr.hh, hfr0, rfl, sr.gl, Nat.zero_le _⟩ (fun y hy => by cases hy) fun e1 s1 a1 w1 Z1 R1 hQ1 sr1 st1 => ?_
  obtain ⟨rfl, hb2⟩ := hQ1
  obtain ⟨p1, p2, p3⟩ := st1.other g4 g2 g3
  refine ⟨_, run_beginRound p1 g5, ?_⟩
  have hlt1 := heapLt p1
  have hb1 : ∀ c, (Z1 c ∨ own R1 s1.hp c) → (w1.putObj r.c (.loop { L with state := .busy })).heap[c]? = w1.heap[c]? := fun c hc => put_ne (fun e => by subst e; exact hc.elim p2 p3)
  have hh2 := sr1.hh.off (put_size _ _ _) hb1
  refine hb2 (some r.c) (.of 0) _ a1 _ Z1 R1 (fun h => by cases h) ⟨hh2, sr1.fr.off fun c hc => hb1 c (.inl hc), ?_, sr1.gl.off fun c hc => hb1 c (.inl hc), Nat.zero_le _⟩ (fun y hy => by cases hy) fun e2 s2 a2 w3 Z3 R3 hQ2 sr3 st3 => ?_
  ·exact sr1.mks.put (Mks.no (by rw [p1]; intro e; cases e) sr1.mks)
  ·obtain ⟨rfl, hK1⟩ := hQ2
   have hput : (w1.putObj r.c (.loop { L with state := .busy })).heap[r.c]? = some (.loop { L with state := .busy }) := World.putObj_heap_same hlt1
   obtain ⟨q1, q2, q3⟩ := st3.other hput p2 p3
   have hlt3 := heapLt q1
   refine ⟨_, _, run_endRound none q1, ?_⟩
   have hb3 : ∀ c, (Z3 c ∨ own R3 s2.hp c) → (w3.putObj r.c (.loop { { L with state := .busy } with state := if (none : Option Code).isNone then .ready else .done, pending := none })).heap[c]? = w3.heap[c]? := fun c hc => put_ne (fun e => by subst e; exact hc.elim q2 q3)
   have hL : ({ { L with state := .busy } with state := if (none : Option Code).isNone then .ready else .done, pending := none } : Loop) = L := by
    cases L; simp at g5 g6; subst g5 g6; rfl
   have stF : Step w Z R hp (w3.putObj r.c (.loop { { L with state := .busy } with state := if (none : Option Code).isNone then .ready else .done, pending := none })) Z3 R3 s2.hp := by
    refine ⟨?_, ?_, ?_, ?_, fun c hc hn => ?_, fun c hc => ?_, fun c hc => st3.z c (st1.z c hc), fun c hc => ?_, fun i q hq => st3.r i q (st1.r i q hq)⟩
    ·exact st3.os.trans st1.os
    ·exact st3.tape.trans st1.tape
    ·exact st3.output.trans st1.output
    ·rw [put_size]
     have := st3.size
     rw [put_size] at this
     exact Nat.le_trans st1.size this
    ·by_cases hcr : c = r.c
     ·subst hcr
      rw [World.putObj_heap_same hlt3, hL]
      exact g4.symm
     ·rw [put_ne hcr]
      have hc1 : c < w1.heap.size := Nat.lt_of_lt_of_le hc st1.size
      have hno : ¬ own R1 s1.hp c := fun ho => by
       rcases st1.own_ c ho with h1 | h1
       ·exact hn h1
       ·omega
      rw [st3.block c (by rw [put_size]; exact hc1) hno, put_ne hcr]
      exact st1.block c hc hn
    ·rcases st3.own_ c hc with h1 | h1
     ·exact st1.own_ c h1
     ·rw [put_size] at h1; exact .inr (Nat.le_trans st1.size h1)
    ·rcases st3.z' c hc with h1 | h1 | h1
     ·exact st1.z' c h1
     ·rcases st1.own_ c h1 with h2 | h2
      ·exact .inr (.inl h2)
      ·exact .inr (.inr h2)
     ·rw [put_size] at h1; exact .inr (.inr (Nat.le_trans st1.size h1))
   have sr' := (sr.step (sr3.hh.off (put_size _ _ _) hb3) stF).put (d := some d) (x := .v (.bool true)) (u := .bool true) (.v rfl)
   rw [show putA (⟨Fr n l, hp⟩ : St).fr (some d) (.v (.bool true)) = Fr n ((d, .v (.bool true)) :: l) from putA_Fr n l d _] at sr'
   exact k s2.hp hK1 none base Q _ _ Z3 R3 hro sr' (hyy.step sr.hh stF) fun s' a' w'' Z'' R'' hK sr'' st' => q s' a' w'' Z'' R'' hK sr'' (stF.trans st')
/-- A range over a function. -/
theorem Sem.range {cx : Cx} {Q : Ex → St → Prop} (hP : E.P = E0.P) (hG : E.G = E0.G) {e : Env} (he : EnvOk e) (heP : e.P = E0.P) (heG : e.G = E0.G) (hin : cx.inR = false) {f : Operand} {ps : Array Tmp} {assign body : Code} {gid : FuncId} {caps : List AV} {fn : Func} {c : Code} {Out : AV → Hp → Prop} (hd1 : drawOk assign = true) (hd2 : drawOk body = true)
  (hf : opA E (Fr n l) f = some (.fn gid [] caps)) (hfn : e.fn gid = some fn) (hc : fn.body = some c) (hle : (.yl hp.length :: caps).length ≤ fn.ntmps)
  (sem : SemY e ⟨some ⟨hp.length, Fr n l, ps.toList, assign, body⟩, false⟩ c ⟨Fr fn.ntmps (pairs0 0 (.yl hp.length :: caps)), hp ++ [none]⟩ fun x s' => (x = .normal ∨ x = .ret) ∧ ∃ ys, resA e.P s'.fr s'.hp fn.results.toList = some ys ∧ Out (retA ys) s'.hp)
  (k : ∀ x h', Out x h' → Q .normal ⟨Fr n l, h'⟩) : Sem E cx (.rangeFunc f ps assign body) ⟨Fr n l, hp⟩ Q := by
 obtain ⟨P, fns, G, X, I⟩ := E
 obtain ⟨P', fns', G', X', I'⟩ := e
 simp only at hP hG heP heG
 subst hP hG heP heG
 intro ro base Qm a w Z R h1 sr h3 kk
 have hro := h1 hin
 subst hro
 have hvf : VR w Z R (.fn gid [] caps) (a.eval f) := opA_vr sr _ _ hf
 generalize hva : a.eval f = va at hvf
 cases hvf with
 | fn hl hl' hx hy' =>
  rename_i uf uc
  have e1 : uf = [] := by simpa using hl
  subst e1
  refine wpIn_rangeFunc fun fnn _ => ?_
  obtain ⟨hff, hcall, _⟩ := he.fn gid fn hfn
  obtain ⟨L, hL⟩ : ∃ L : Loop, L = { state := .ready, pending := none, fn := fnn, tmps := a.tmps, params := ps, assign, body, defers := w.heap.size } := ⟨_, rfl⟩
  obtain ⟨w1, hw1⟩ : ∃ w1, w1 = (w.alloc (.deferred (some []))).alloc (.loop L) := ⟨_, rfl⟩
  have hsz : w1.heap.size = w.heap.size + 2 := by rw [hw1]; simp
  have hg1 : w.grownBy w1 none := by
   rw [hw1]
   refine ⟨rfl, rfl, rfl, by simp; omega, fun c hc _ => ?_⟩
   rw [heap_alloc_old _ _ (by simp; omega), heap_alloc_old _ _ hc]
  have hmk : w1.heap[w.heap.size]? = some (.deferred (some [])) := by
   rw [hw1, heap_alloc_old _ _ (by simp)]; exact heap_alloc_new w _
  have hlp : w1.heap[w.heap.size + 1]? = some (.loop L) := by
   rw [hw1]
   have := heap_alloc_new (w.alloc (.deferred (some []))) (.loop L)
   simpa using this
  have hh1 := sr.hh.keep (w' := w1) hg1.size (fun c hc => hg1.block c hc (by simp))
  have st0 : Step w Z R hp w1 Z R hp := ⟨hg1.os, hg1.tape, hg1.output, hg1.size, fun c hc _ => hg1.block c hc (by simp), fun _ h => .inl h, fun _ h => h, fun _ h => .inl h, fun _ _ h => h⟩
  obtain ⟨hh2, st2, hlast, hown2⟩ := hh1.dead (r := ⟨w.heap.size + 1, 0, 0⟩)
  have st02 := st0.trans st2
  have hnz : ∀ c, w.heap.size ≤ c → ¬ Z c := fun c hc hz => by have := sr.hh.zlt c hz; omega
  have hno : ∀ c, w.heap.size ≤ c → ¬ own (R ++ [⟨w.heap.size + 1, 0, 0⟩]) (hp ++ [none]) c := fun c hc ho => by
   obtain ⟨b, B, r, q1, q2, q3, rfl⟩ := hown2 c ho
   have := sr.hh.rltL q1 q3; omega
  have hvs : VRs w1 Z (R ++ [⟨w.heap.size + 1, 0, 0⟩]) (.yl hp.length :: caps) (Value.func (.yield (w.heap.size + 1)) #[] #[] :: uc) :=
   .cons (.yl hlast) (VRs.step ⟨hl', hy'⟩ sr.hh st02)
  have hy : YI ⟨some ⟨hp.length, Fr n l, ps.toList, assign, body⟩, false⟩ w1 Z (R ++ [⟨w.heap.size + 1, 0, 0⟩]) (hp ++ [none]) := by
   intro y hy
   injection hy with hy
   subst hy
   exact ⟨hd1, hd2, _, L, hlast, hnz _ (by simp), hno _ (by simp), hlp, by rw [hL], by rw [hL], by rw [hL], by rw [hL], by rw [hL], by rw [hL]; exact sr.fr.step sr.hh st02⟩
  have hr := ret_semY he hfn hc hle sem hh2 hvs (sr.gl.step sr.hh st02) hy
  refine ⟨w.heap.size + 1, [mark w.heap.size], w1, { target := .fn (.func gid) uc.toArray, args := ([] : List Value).toArray ++ #[Value.func (.yield (w.heap.size + 1)) #[] #[]] }, w1, gid, (Value.func (.yield (w.heap.size + 1)) #[] #[] :: uc).toArray, w1, ?_, ?_, fun _ _ => trivial, ?_, (fun h => by cases h), ?_⟩
  ·rw [hw1, hL]; exact run_enterLoop_outer fnn a.tmps ps assign body
  ·simp [resolve, hva, Deferred.ofValue]
   rfl
  ·simp [invoke, hcall.run]
  ·refine callsIn_fw none _ (Ret.calls hr fun v w3 hS => ?_)
   obtain ⟨Z3, R3, x3, h', hO, hh3, _, st3⟩ := hS
   obtain ⟨p1, p2, p3⟩ := st3.other hlp (hnz _ (by simp)) (hno _ (by simp))
   obtain ⟨m1, m2, m3⟩ := st3.other hmk (hnz _ (Nat.le_refl _)) (hno _ (Nat.le_refl _))
   refine ⟨_, _, run_endLoop p1 (by rw [hL]; simp), ?_⟩
   have hpend : L.pending = none := by rw [hL]
   split
   rotate_left
   ·next hc => rw [hpend] at hc; cases hc
   have hb : ∀ c, (Z3 c ∨ own R3 h' c) → (w3.putObj (w.heap.size + 1) (.loop { L with state := .exhausted })).heap[c]? = w3.heap[c]? := fun c hc => put_ne (fun e => by subst e; exact hc.elim p2 p3)
   have st03 := st02.trans st3
   refine kk .normal ⟨Fr n l, h'⟩ _ _ Z3 R3 (k x3 h' hO) ⟨hh3.off (put_size _ _ _) hb, (sr.fr.step sr.hh st03).off fun c hc => hb c (.inl hc), ?_, (sr.gl.step sr.hh st03).off fun c hc => hb c (.inl hc), ?_⟩ (Step.w ⟨st03.os, st03.tape, st03.output, ?_, fun c hc hn => ?_, st03.own_, st03.z, st03.z', st03.r⟩)
   ·refine .inr ⟨⟨w.heap.size, sr.bs, rfl, (put_ne (by omega)).trans m1, m2, m3, fun d hd e => ?_⟩, ?_⟩
    ·exact Mks.no (fun e => by have := heapLt e; omega) sr.mks d hd e
    ·exact Mks.put (sr.mks.step st03) (Mks.no (fun e => by have := heapLt e; omega) sr.mks)
   ·rw [put_size]; exact Nat.le_trans sr.bs st03.size
   ·rw [put_size]; exact st03.size
   ·rw [put_ne (by omega)]; exact st03.block c hc hn
end
/-- The last of a list. -/
def csE {α : Type} (c : Cd α) : Cs α where
 enc x := [c.enc x]
 dec l := match l with
  | [a] => c.dec a
  | _ => none
 de x := c.de x
 vr := fun {w Z a x u} h hv => by
  split at h
  ·next a =>
   obtain ⟨u, us, rfl, k1, k2⟩ := hv.head
   have : us = [] := by have := k2.len; simpa using this
   subst this
   exact .cons (c.vr h k1) .nil
  ·cases h
 nr x := by simp [c.nr]
/-- Lists one behind the other; the first has n values. -/
def csG {α β : Type} (n : Nat) (s : Cs α) (hn : ∀ x, (s.enc x).length = n) (t : Cs β) : Cs (α × β) where
 enc x := s.enc x.1 ++ t.enc x.2
 dec l := (s.dec (l.take n)).bind fun x => (t.dec (l.drop n)).map fun y => (x, y)
 de x := by
  rw [List.take_left' (hn x.1), List.drop_left' (hn x.1), s.de, t.de]; rfl
 vr := fun {w Z a x u} h hv => by
  obtain ⟨x1, h1, h⟩ := Option.bind_eq_some_iff.1 h
  obtain ⟨x2, h2, rfl⟩ := Option.map_eq_some_iff.1 h
  have k1 := s.vr h1 (hv.take n)
  have k2 := t.vr h2 (hv.drop n)
  have := k1.append k2
  rwa [List.take_append_drop] at this
 nr x := by simp [s.nr, t.nr]
/-- Structs. -/
def cdA {α : Type} (s : Cs α) (h : ∀ x, (s.enc x).all noRf = true) : Cd α where
 enc x := .ag (s.enc x)
 dec a := match a with
  | .ag l => s.dec l
  | _ => none
 de x := s.de x
 vr := fun {w Z a x u} hd hv => by
  split at hd
  ·cases hv with
   | ag hl h1 hx =>
    have := s.vr hd ⟨hl, hx⟩
    exact .ag this.len h1 this.at_
  ·cases hd
 nr x := h x
/-- The address of something that nobody writes. -/
def cdP {α : Type} (c : Cd α) : Cd α where
 enc x := .pe (c.enc x) 0
 dec a := match a with
  | .pe y 0 => c.dec y
  | _ => none
 de x := c.de x
 vr := fun {w Z a x u} hd hv => by
  split at hd
  ·cases hv with
   | pe hs hz h1 hu hx => exact .pe hs hz h1 hu (c.vr hd hx)
  ·cases hd
 nr _ := rfl
/-- Anything that is told by one value. -/
noncomputable def cdJ {α : Type} (e : α → AV) (hi : ∀ x y, e x = e y → x = y) (hn : ∀ x, noRf2 (e x) = true) : Cd α where
 enc := e
 dec a := open Classical in if h : ∃ x, e x = a then some h.choose else none
 de x := by
  have h : ∃ y, e y = e x := ⟨x, rfl⟩
  rw [dif_pos h, hi _ _ h.choose_spec]
 vr := fun {w Z a x u} hd hv => by
  split at hd
  ·next h => injection hd with hd; subst hd; rw [h.choose_spec]; exact hv
  ·cases hd
 nr := hn
end Go.Proofs.YtiphapnckldpbaaGreatDoor
namespace Go.Proofs.YtiphapnckldpbaaGreatDoor
open Go.RowKit Go.ChangeShapes Go.WideShapes Go.Deep
/-- What a reading of a value's cells says. -/
structure Rc {α : Type} (P : Program) (c : Cd α) (t : TypeId) (good : α → Prop) : Prop where
 el : ∀ a, elm (c.enc a).cel = c.enc a
 nc : ∀ a, (c.enc a).nc = P.cellsOf t
 rd : ∀ {H : Type} {enc : TypeId × Value → H} {w : World} {base : Nat} {spare : Nat → Bool} {held : Bool} {fuel : Nat} {cs : List Value} {x : DataW H × List MemPlace}, DataW.trod enc P w base spare held fuel t cs = some x → (DataW.weights P t x.1).all (· ≤ reachBytes) = true → ∃ a, VRs w (fun c => c < w.heap.size) [] (c.enc a).cel cs ∧ cs.all Value.oneCell' = true ∧ good a
theorem rc_int {P : Program} {t : TypeId} {k : IntKind} (ht : P.underlying t = some (.int k)) (hc : P.cellsOf t = 1) : Rc P (cdK k) t (fun n => (Lit.int k n).wf = true) := ⟨fun _ => rfl, fun _ => hc.symm, fun h _ => by
 obtain ⟨n, rfl, _, h3⟩ := DataW.trod_int ht h
 exact ⟨n, .cons (.v rfl) .nil, rfl, h3⟩⟩
theorem rc_bool {P : Program} {t : TypeId} (ht : P.underlying t = some .bool) (hc : P.cellsOf t = 1) : Rc P cdB t (fun _ => True) := ⟨fun _ => rfl, fun _ => hc.symm, fun h _ => by
 obtain ⟨b, rfl, _⟩ := DataW.trod_bool ht h
 exact ⟨b, .cons (.v rfl) .nil, rfl, trivial⟩⟩
/-- The fields of a struct, one behind the other. -/
structure Rf {α : Type} (P : Program) (s : Cs α) (l : List Field) (off : Nat) (good : α → Prop) : Prop where
 rd : ∀ {H : Type} {enc : TypeId × Value → H} {w : World} {base : Nat} {spare : Nat → Bool} {held : Bool} {n : Nat} {cs : List Value} {xs : List (DataW H × List MemPlace)}, cs.length = off + l.length → xs.length = l.length →
  (∀ (j : Nat) (f : Field), l[j]? = some f → DataW.trod enc P w base spare held n f.type ((cs.drop f.offset).take (P.cellsOf f.type)) = xs[j]?) → (DataW.weightsEach P (l.map (·.type)) (xs.map (·.1))).all (· ≤ reachBytes) = true →
  ∃ a, VRs w (fun c => c < w.heap.size) [] (s.enc a) (cs.drop off) ∧ (cs.drop off).all Value.oneCell' = true ∧ good a
theorem VR.cel_one {w : World} {Z : Nat → Prop} {R : List RI} {x : AV} {cs : List Value} (h1 : x.cel = [x]) (h : VRs w Z R x.cel cs) : ∃ v, cs = [v] ∧ VR w Z R x v := by
 rw [h1] at h
 obtain ⟨u, us, rfl, k1, k2⟩ := h.head
 have : us = [] := by have := k2.len; simpa using this
 subst this
 exact ⟨u, rfl, k1⟩
theorem rf_end {α : Type} {P : Program} {c : Cd α} {f : Field} {good : α → Prop} {off : Nat} (r : Rc P c f.type good) (ho : f.offset = off) (hc : P.cellsOf f.type = 1) (h1 : ∀ a, (c.enc a).cel = [c.enc a]) : Rf P (csE c) [f] off good := ⟨fun {H enc w base spare held n cs xs} hl hx ht hw => by
 match xs, hx with
 | [y], _ =>
  have h0 := ht 0 f rfl
  rw [ho, hc, List.take_of_length_le (by simp at hl ⊢; omega)] at h0
  simp only [List.map_cons, List.map_nil, DataW.weightsEach, List.append_nil] at hw
  obtain ⟨a, k1, k2, k3⟩ := r.rd h0 hw
  obtain ⟨v, hv, k4⟩ := VR.cel_one (h1 a) k1
  refine ⟨a, ?_, k2, k3⟩
  rw [hv]
  exact .cons k4 .nil⟩
theorem rf_cons {α β : Type} {P : Program} {c : Cd α} {s : Cs β} {f : Field} {l : List Field} {good : α → Prop} {good' : β → Prop} {off : Nat} (r : Rc P c f.type good) (ho : f.offset = off) (hc : P.cellsOf f.type = 1) (h1 : ∀ a, (c.enc a).cel = [c.enc a]) (q : Rf P s l (off + 1) good') : Rf P (csC c s) (f :: l) off (fun x => good x.1 ∧ good' x.2) := ⟨fun {H enc w base spare held n cs xs} hl hx ht hw => by
 match xs, hx with
 | y :: ys, hx =>
  have h0 := ht 0 f rfl
  rw [ho, hc] at h0
  simp only [List.map_cons, DataW.weightsEach, List.all_append, Bool.and_eq_true] at hw
  obtain ⟨a, k1, k2, k3⟩ := r.rd h0 hw.1
  obtain ⟨v, hv, k4⟩ := VR.cel_one (h1 a) k1
  obtain ⟨b, q1, q2, q3⟩ := q.rd (cs := cs) (xs := ys) (by simp at hl ⊢; omega) (by simpa using hx) (fun j g hg => by simpa using ht (j + 1) g (by simpa using hg)) hw.2
  have hd : cs.drop off = v :: cs.drop (off + 1) := by
   have hlt : off < cs.length := by simp at hl; omega
   rw [List.drop_eq_getElem_cons hlt] at hv ⊢
   rw [List.take_succ_cons, List.take_zero] at hv
   injection hv with hv
   rw [hv]
  refine ⟨(a, b), ?_, ?_, k3, q3⟩
  ·rw [hd]; exact .cons k4 q1
  ·rw [hd, List.all_cons, q2, Bool.and_true]
   rw [hv] at k2
   simpa using k2⟩
theorem rc_struct {α : Type} {P : Program} {s : Cs α} {t : TypeId} {fs : Array Field} {good : α → Prop} {hn : ∀ x, (s.enc x).all noRf = true} (ht : P.underlying t = some (.struct fs)) (hl : P.cellsOf t = fs.size) (hs : ∀ a, (s.enc a).length = fs.size) (he : ∀ a, elm (s.enc a) = .ag (s.enc a)) (r : Rf P s fs.toList 0 good) : Rc P (cdA s hn) t good := ⟨fun a => he a, fun a => (hs a).trans hl.symm, fun {H enc w base spare held fuel cs x} h hw => by
 obtain ⟨xs, n, _, rfl, hlc, hlx, hf⟩ := DataW.trod_struct ht h
 simp only [DataW.weights, ht] at hw
 obtain ⟨a, k1, k2, k3⟩ := r.rd (cs := cs) (xs := xs) (n := n) (by rw [hlc, hl]; simp) (by simpa using hlx) (fun j f hj => hf j f (by simpa using hj)) hw
 exact ⟨a, k1, k2, k3⟩⟩
theorem rc_slice {α : Type} {P : Program} {c : Cd α} {t e : TypeId} {good : α → Prop} {k : Nat} (ht : P.underlying t = some (.slice e)) (hct : P.cellsOf t = 1) (hk : P.cellsOf e = k) (hk0 : Nat.blt 0 k = true) (hb : Nat.blt 0 (P.bytesOf e) = true) (r : Rc P c e good) : Rc P (cdL k c) t (fun xs => xs.length ≤ 140737488355328 ∧ ∀ a ∈ xs, good a) := ⟨fun _ => rfl, fun _ => hct.symm, fun {H enc w base spare held fuel v x} h hw => by
 rcases open_slice ht h with ⟨rfl, _⟩ | ⟨a, len, cap, m, n, D, Pl, rfl, h2, h3, h4, h5, hx, h6⟩
 ·exact ⟨[], .cons (.sl (us := []) rfl rfl (Nat.le_refl _) (by unfold maxLen; omega) (fun h => by omega) (fun i x u hx => by simp at hx)) .nil, rfl, by simp, fun a ha => by cases ha⟩
 ·have hlm : len ≤ m := by rw [h5]; split <;> omega
  rw [hx] at hw
  simp only [DataW.weights, ht, List.all_cons, List.all_append, Bool.and_eq_true, decide_eq_true_eq] at hw
  obtain ⟨hw1, hw2, _⟩ := hw
  have hb' : 0 < P.bytesOf e := Nat.le_of_ble_eq_true hb
  have hk' : 0 < k := Nat.le_of_ble_eq_true hk0
  have hlen : len ≤ 140737488355328 := by
   have h7 : (((List.range len).map D).length + ((List.range (m - len)).map fun j => D (len + j)).length) * 1 ≤ (((List.range len).map D).length + ((List.range (m - len)).map fun j => D (len + j)).length) * P.bytesOf e := Nat.mul_le_mul_left _ hb'
   have h8 : reachBytes = 140737488351232 := rfl
   simp only [List.length_map, List.length_range, Nat.mul_one] at h7 hw1
   omega
  have hwi : ∀ i, i < len → (DataW.weights P e (D i)).all (· ≤ reachBytes) = true := fun i hi => by
   rw [List.all_eq_true] at hw2 ⊢
   exact fun n hn => hw2 n (weights_mem (List.mem_map.2 ⟨i, by simpa using hi, rfl⟩) n hn)
  obtain ⟨A, hAl, hA⟩ := list_of (n := len) (p := fun i (q : α × Value) => VR w (fun c => c < w.heap.size) [] (c.enc q.1) q.2 ∧ good q.1 ∧ q.2.cells.size = k ∧ (∀ z ∈ q.2.cells, z.oneCell' = true) ∧ ∀ (j : Nat) (z : Value), q.2.cells[j]? = some z → w.cell? (a.add (i * k + j)) = some z) (fun i hi => by
   obtain ⟨cs', k1, k2⟩ := h6 i (by omega)
   obtain ⟨_, hl2, hcell⟩ := World.cells?_some k1
   obtain ⟨b, q1, q2, q3⟩ := r.rd k2 (hwi i hi)
   obtain ⟨u, u1, u2, _⟩ := q1.elm q2
   rw [r.el] at u1
   refine ⟨(b, u), u1, q3, ?_, fun z hz => ?_, fun j z hz => ?_⟩
   ·rw [u2]; simp [hl2, hk]
   ·rw [u2] at hz
    exact List.all_eq_true.1 q2 z (by simpa using hz)
   ·rw [u2] at hz
    simp only [List.getElem?_toArray] at hz
    have hj : j < P.cellsOf e := by have := (List.getElem?_eq_some_iff.1 hz).1; omega
    have := hcell j hj
    rw [Go.Deep.add_add, hk, hz] at this
    exact this)
  refine ⟨A.map (·.1), .cons ?_ .nil, rfl, by simp [hAl, hlen], fun q hq => ?_⟩
  ·refine .sl (us := A.map (·.2)) (by simp [hAl]) (by simp) h3 h4 (fun h0 => ?_) (fun i x u hx hu => ?_)
   ·obtain ⟨g1, g2, g3, g4, g5⟩ := hA 0 (A[0]'(by omega)) (List.getElem?_eq_getElem (by omega))
    have g6 := g5 0 _ (Array.getElem?_eq_getElem (by omega))
    have hs := spot_none (by simpa using g6)
    refine ⟨a, rfl, hs, ?_, fun i u hu => ?_⟩
    ·have := g6
     unfold World.cell? at this
     split at this
     ·next hb => have := (Array.getElem?_eq_some_iff.1 hb).1; rw [show (a.add (0 * k + 0)).block = a.block by unfold Addr.add; split <;> rfl] at this; exact this
     ·cases this
    ·rw [List.getElem?_map] at hu
     obtain ⟨p, hp, rfl⟩ := Option.map_eq_some_iff.1 hu
     obtain ⟨_, _, q1, q2, q3⟩ := hA i p hp
     refine ⟨q1, q2, fun j z hz => ?_⟩
     have := q3 j z hz
     obtain ⟨ab, ao, asp⟩ := a
     simp only at hs
     subst hs
     rw [addr_add] at this
     exact this
   ·rw [List.getElem?_map, List.getElem?_map] at hx
    rw [List.getElem?_map] at hu
    obtain ⟨p, hp, rfl⟩ := Option.map_eq_some_iff.1 hx
    obtain ⟨p1, hp1, rfl⟩ := Option.map_eq_some_iff.1 hp
    obtain ⟨p2, hp2, rfl⟩ := Option.map_eq_some_iff.1 hu
    rw [hp1] at hp2
    injection hp2 with hp2
    subst hp2
    exact (hA i p1 hp1).1
  ·obtain ⟨i, hi⟩ := List.getElem?_of_mem hq
   rw [List.getElem?_map] at hi
   obtain ⟨p, hp, rfl⟩ := Option.map_eq_some_iff.1 hi
   exact (hA i p hp).2.1⟩
/-- An argument of one cell. -/
theorem rc_arg {α : Type} {H : Type} {enc : TypeId × Value → H} {P : Program} {c : Cd α} {t : TypeId} {good : α → Prop} (r : Rc P c t good) {w : World} {base : Nat} {spare : Nat → Bool} {held : Bool} {v : Value} {d : DataW H} {ps : List MemPlace} (ho : v.oneCell' = true) (h1 : ∀ a, (c.enc a).cel = [c.enc a]) (h : DataW.Trod enc P w base spare held t v d ps)
  {ts : List TypeId} {ds : List (DataW H)} (hs : (DataW.weightsEach P ts ds).all (· ≤ reachBytes) = true) {j : Nat} (ht : ts[j]? = some t) (hd : ds[j]? = some d) : ∃ a, VR w (fun c => c < w.heap.size) [] (c.enc a) v ∧ good a := by
 obtain ⟨fuel, hf⟩ := h
 rw [oneCell_cells ho] at hf
 obtain ⟨a, k1, _, k2⟩ := r.rd hf (List.all_eq_true.2 fun n hn => List.all_eq_true.1 hs n (DataW.weights_mem_each ht hd n hn))
 obtain ⟨u, hu, k3⟩ := VR.cel_one (h1 a) k1
 injection hu with hu
 subst hu
 exact ⟨a, k3, k2⟩
/-- Kind, Among, Last, Names, N. -/
abbrev Clause : Type := Int × List UInt8 × Bool × List (List UInt8) × Int
def csClause : Cs Clause := csC (cdK .u8) (csC cdS (csC cdB (csC (cdL 1 cdS) (csE cdI))))
def cdClause : Cd Clause := cdA csClause (fun _ => rfl)
/-- Name, Rank, Court, Since, Side, Diet, Host, Access, Tongues. -/
abbrev Guest : Type := List UInt8 × List UInt8 × List UInt8 × Int × Int × List UInt8 × Bool × Bool × List (List UInt8)
def csGuest : Cs Guest := csC cdS (csC cdS (csC cdS (csC cdI (csC cdI (csC cdS (csC cdB (csC cdB (csE (cdL 1 cdS)))))))))
def cdGuest : Cd Guest := cdA csGuest (fun _ => rfl)
/-- A guest at a place. -/
abbrev Seated : Type := Guest × Int
def csSeated : Cs Seated := csG 9 csGuest (fun _ => rfl) (csE cdI)
def cdSeated : Cd Seated := cdA csSeated (fun _ => rfl)
end Go.Proofs.YtiphapnckldpbaaGreatDoor
namespace Go.Proofs.YtiphapnckldpbaaGreatDoor
open Go.ChangeShapes Go.WideShapes Go.ChangeAt Go.RowKit
def cells0 {H : Type} : DataW H → List Value
 | .lit (.int k n) => [Value.int k n]
 | _ => [.bool false]
def cells1 {H : Type} : DataW H → List Value
 | .agg xs => xs.flatMap cells0
 | x => cells0 x
def cellsOfData {H : Type} : DataW H → Array Value
 | .agg xs => (xs.flatMap cells1).toArray
 | _ => #[]
def putCells (vs : Array Value) : Obj → Obj
 | .cells _ t frozen => .cells vs t frozen
 | o => o
noncomputable def laidWorld (os : Os) : World :=
 { World.holding Tryz.prog os ⟨#[], #[], []⟩ with heap := (((((World.holding Tryz.prog os ⟨#[], #[], []⟩).heap.modify 1 (putCells (cellsOfData (Rows.laid_internal_strconv_uint64pow10 (H := Unit))))).modify 2 (putCells (cellsOfData (Rows.laid_math_bits_deBruijn32tab (H := Unit))))).modify 3 (putCells (cellsOfData (Rows.laid_math_bits_deBruijn64tab (H := Unit))))).modify 4 (putCells (cellsOfData Rows.laid_unicode_utf8_first))).modify 5 (putCells (cellsOfData (Rows.laid_unicode_utf8_acceptRanges (H := Unit)))) }
theorem ownKnob0 : ownKnob Tryz.prog.godebug = none := by kernel_rfl
theorem laidOut : laidOutB Tryz.prog = true := by kernel_rfl
theorem mem_of_laid {x : TypeId} {l : List TypeId} (p : TypeId → Bool) (h : l.all p = true) (hx : x ∈ l) : p x = true := List.all_eq_true.1 h x hx
def RunDY (E : Env) (ops : Array Oper) (n0 k : Nat) (rest : List Oper) (s : St) (K : St → Prop) : Prop :=
 ∀ (base : Bs) (Q : Act → World → Prop) (w0 : World) (Z : Nat → Prop) (R0 : List RI) (h0 : Hp) (a : Act) (w : World) (R : List RI), HR w0 Z R0 h0 → n0 = h0.length → tailAt ops ≤ ops.size → SR E base w Z R s a → w0.grownBy w none → Step w0 Z R0 h0 w Z R s.hp → (∀ (b : Nat) (B : Option Blk), h0[b]? = some B → s.hp[b]? = some B) → tailAt ops = tailGo rest k → k + rest.length = ops.size → (∀ j, rest[j]? = ops[k + j]?) →
  (∀ s' a' w' Z' R', K s' → SR E base w' Z' R' s' a' → Step w0 Z R0 h0 w' Z' R' s'.hp → Q a' w') → wpMix E.P ops (fun w' => w0.grownBy w' none) (loudT ops (tailAt ops)) (tailAt ops) Q k rest a w
section
variable {E : Env} {cx : Cx} {ops : Array Oper} {pre rest rest' : List Oper} {s s1 : St} {K : St → Prop} {n n0 k : Nat} {l : List (Nat × AV)} {hp hp' : Hp} {Q : Ex → St → Prop} {id : Nat}
theorem RunDY.done (hr : rest = []) (kk : K s) : RunDY E ops n0 k rest s K := by
 subst hr
 exact fun base Q w0 Z R0 h0 a w R _ _ _ sr hgr st _ _ _ _ q => ⟨fun _ => hgr, q s a w Z R kk sr st⟩
theorem RunDY.app (hE : EnvOk E) : ∀ {pre : List Oper} {s : St} {k : Nat}, (pre.all fun o => !isW o.op) = true → opsD E (evC E 0) ⟨none, false⟩ ops n0 pre s = some s1 → RunDY E ops n0 (k + pre.length) rest s1 K → RunDY E ops n0 k (pre ++ rest) s K
 | [], s, k, _, e, kk => by injection e with e; subst e; exact kk
 | o :: pre, s, k, hp, e, kk => by
  intro base Q w0 Z R0 h0 a w R hh0 hn0 hT sr hgr st hpre hTk hlen hops q
  simp only [List.all_cons, Bool.and_eq_true, Bool.not_eq_true'] at hp
  obtain ⟨hW, hp⟩ := hp
  have hok : ops[k]? = some o := by have := hops 0; simpa using this.symm
  have hops' : ∀ j, (pre ++ rest)[j]? = ops[k + 1 + j]? := fun j => by have := hops (j + 1); simpa [Nat.add_assoc, Nat.add_comm 1 j] using this
  have hk1 : k + 1 + pre.length = k + (o :: pre).length := by simp; omega
  have kk' : RunDY E ops n0 (k + 1 + pre.length) rest s1 K := by rw [hk1]; exact kk
  have hlen' : k + 1 + (pre ++ rest).length = ops.size := by simp at hlen ⊢; omega
  have hTk' : tailAt ops = tailGo (pre ++ rest) (k + 1) := by
   rw [hTk]
   show tailGo (o :: (pre ++ rest)) k = _
   conv => lhs; unfold tailGo; rw [if_neg (by rw [hW]; simp)]
  have hkT : ¬ tailAt ops ≤ k := by have := tailGo_ge (pre ++ rest) (k + 1); omega
  show wpMix E.P ops _ _ _ Q k (o :: (pre ++ rest)) a w
  refine ⟨fun _ => hgr, ?_⟩
  unfold opsD at e
  rw [if_neg (by rw [hW]; simp)] at e
  split at e
  ·cases e
  ·next hw =>
   rw [if_neg (by rw [wantedA_eq sr hw]; simp)]
   exact RunDY.app hE hp e kk' base Q w0 Z R0 h0 _ w R hh0 hn0 hT (sr.put undef_vr) hgr st hpre hTk' hlen' hops' q
  ·next hw =>
   rw [if_pos (wantedA_eq sr hw)]
   have hρ : ∀ o x, opA E s.fr o = some x → VR w Z R x (a.eval o) := fun o x e => opA_vr sr o x e
   split at e
   ·next x hx =>
    split at e
    ·next hld =>
     have hq := isQ_of hx
     rw [if_neg (by rw [loudT_q hok hq hkT]; simp)]
     obtain ⟨u, hu, hrun⟩ := evOpQ_sound sr.hh hρ hx
     have hquiet : ∃ u, VR w Z R x u ∧ QuietAt E.P (Cf (fun w' => w0.grownBy w' none) o) o u a := by
      cases hl : isLd o.op with
      | false => exact ⟨u, hu, fun w' _ => hrun w' fun h => by rw [hl] at h; cases h⟩
      | true =>
       obtain ⟨u1, hu1, hq1⟩ := load_quiet hh0 sr hgr st hpre hl (by rw [← hn0]; exact hld) hx
       exact ⟨u1, hu1, hq1.up (free_ld hl)⟩
     obtain ⟨u, hu, hquiet⟩ := hquiet
     exact ⟨u, hquiet, RunDY.app hE hp e kk' base Q w0 Z R0 h0 _ w R hh0 hn0 hT (sr.put hu) hgr st hpre hTk' hlen' hops' q⟩
    ·cases e
   ·split at e
    ·next x h' hx =>
     have hq := isQ_of_N hx
     rw [if_pos (loudT_n hok hq)]
     obtain ⟨u, w', R', h1, h2, h3, h4, h5⟩ := evOpN_sound hρ sr.hh hx
     exact lw_val h1 (RunDY.app hE hp e kk' base Q w0 Z R0 h0 _ w' R' hh0 hn0 hT ((sr.step h2 h4).put h3) (pu_trans hgr h5) (st.trans h4) (fun b B hb => evOpN_pre hx (hpre b B hb)) hTk' hlen' hops' q)
    ·split at e
     ·next f args tys ho =>
      split at e
      ·next fv xs hf hxs =>
       split at e
       ·next r hr =>
        obtain ⟨x, h'⟩ := r
        have hq : isQ o.op = false := by rw [ho]; rfl
        rw [if_pos (loudT_n hok hq)]
        obtain ⟨g, uf, uc, hva, hcl, hret⟩ := callP_sound hE (code_sound hE 0).1 (hρ _ _ hf) (opds_vr hρ hxs) sr.hh sr.gl hr
        unfold Lw
        rw [run_call (uf := uf) (uc := uc) ho hva rfl hcl w]
        refine Ret.mono hret fun v w' hS => ?_
        obtain ⟨hg1, R', k1, k2, k3⟩ := hS
        exact RunDY.app hE hp e kk' base Q w0 Z R0 h0 _ w' R' hh0 hn0 hT ((sr.step k1 k3).put k2) (pu_trans hgr hg1) (st.trans k3) (fun b B hb => callP_pre hr (hpre b B hb)) hTk' hlen' hops' q
       ·cases e
      ·cases e
     ·cases e
theorem RunDY.one (hE : EnvOk E) {o : Oper} (hr : rest = o :: rest') (hW : isW o.op = false) (h : opsD E (evC E 0) ⟨none, false⟩ ops n0 [o] s = some s1) (kk : RunDY E ops n0 (k + 1) rest' s1 K) : RunDY E ops n0 k rest s K := by
 subst hr
 exact RunDY.app (k := k) hE (pre := [o]) (by simp [hW]) h kk
end
theorem allV_id {g : AV → Option AV} : ∀ {xs : List AV}, (∀ x ∈ xs, g x = some x) → allV g xs = some xs
 | [], _ => rfl
 | x :: xs, h => by
  unfold allV
  rw [h x (by simp), allV_id fun y hy => h y (List.mem_cons_of_mem _ hy)]
theorem viewN_id0 {h : Hp} {x : AV} (hn : noRf0 x = true) : ∀ n, viewN h n x = some x
 | 0 => by
  have : noRf x = true := by cases x <;> first | exact hn | (simp [noRf0] at hn)
  unfold viewN
  rw [if_pos this]
 | n + 1 => by
  cases x <;> first | (simp [noRf0] at hn; done) | (unfold viewN; rfl)
theorem viewN_id1 {h : Hp} {x : AV} (hn : noRf x = true) (n : Nat) : viewN h (n + 1) x = some x := by
 cases x with
 | fn f p q =>
  simp only [noRf, Bool.and_eq_true] at hn
  show (match allV (viewN h n) p, allV (viewN h n) q with | some p, some q => some (AV.fn f p q) | _, _ => none) = _
  rw [allV_id (g := viewN h n) fun y hy => viewN_id0 (List.all_eq_true.1 hn.1 y hy) n, allV_id (g := viewN h n) fun y hy => viewN_id0 (List.all_eq_true.1 hn.2 y hy) n]
 | _ =>
  refine viewN_id0 ?_ (n + 1)
  exact hn
theorem viewN_id2 {h : Hp} {x : AV} (hn : noRf2 x = true) (n : Nat) : viewN h (n + 2) x = some x := by
 cases x with
 | ag cs =>
  show (allV (viewN h (n + 1)) cs).map AV.ag = _
  rw [allV_id (g := viewN h (n + 1)) fun y hy => viewN_id1 (List.all_eq_true.1 hn y hy) n]; rfl
 | _ =>
  refine viewN_id1 ?_ (n + 1)
  exact hn
/-- What a call sees of an argument. -/
def Sm {α : Type} (n : Nat) (h : Hp) (c : Cd α) (x : AV) (v : α) : Prop := ∃ y, viewN h n x = some y ∧ c.dec y = some v
def Sl {α : Type} (n : Nat) (h : Hp) (s : Cs α) (xs : List AV) (a : α) : Prop := ∃ ys, allV (viewN h n) xs = some ys ∧ s.dec ys = some a
section
variable {α β : Type} {n b k : Nat} {h : Hp} {c : Cd α} {t : TypeId}
theorem Sm.enc {v : α} : Sm (n + 2) h c (c.enc v) v := ⟨_, viewN_id2 (c.nr v) n, c.de v⟩
theorem Sm.e0 : Sm n h (cdL k c) .e0 [] := ⟨.e0, viewN_id0 rfl n, rfl⟩
theorem Sm.rl {xs : List α} (hb : h[b]? = some (some ⟨k, t, xs.map c.enc, false⟩)) : Sm (n + 3) h (cdL k c) (.rf b 0 xs.length xs.length) xs := by
 refine ⟨.sl k (xs.map c.enc), ?_, (cdL k c).de xs⟩
 unfold viewN
 simp only [hb]
 rw [if_pos (by simp), List.drop_zero, List.take_of_length_le (by simp), allV_id]
 ·rfl
 ·intro y hy
  obtain ⟨z, _, rfl⟩ := List.mem_map.1 hy
  exact viewN_id2 (c.nr z) n
theorem Sm.rf {xs : List α} {m q : Nat} (hb : h[b]? = some (some ⟨k, t, xs.map c.enc, false⟩)) (hm : m ≤ xs.length) : Sm (n + 3) h (cdL k c) (.rf b 0 m q) (xs.take m) := by
 refine ⟨.sl k ((xs.take m).map c.enc), ?_, (cdL k c).de _⟩
 unfold viewN
 simp only [hb]
 rw [if_pos (by simp; omega), List.drop_zero, ← List.map_take, allV_id]
 ·rfl
 ·intro y hy
  obtain ⟨z, _, rfl⟩ := List.mem_map.1 hy
  exact viewN_id2 (c.nr z) n
theorem Sm.hd {xs : List α} (hb : h[b]? = some (mk k t (xs.map c.enc))) : Sm (n + 3) h (cdL k c) (hd b (xs.map c.enc)) xs := by
 cases xs with
 | nil => exact .e0
 | cons x xs =>
  have := Sm.rl (n := n) (c := c) (xs := x :: xs) (b := b) (k := k) hb
  simpa [Go.Proofs.YtiphapnckldpbaaGreatDoor.hd] using this
theorem Sm.pt {y : AV} {v : α} {fz : Bool} (hb : h[b]? = some (some ⟨k, t, [y], fz⟩)) (hy : Sm n h c y v) : Sm (n + 1) h (cdP c) (.pt b 0 0) v := by
 obtain ⟨z, h1, h2⟩ := hy
 refine ⟨.pe z 0, ?_, h2⟩
 unfold viewN
 simp only [hb, List.getElem?_cons_zero]
 rw [h1]; rfl
theorem Sl.nil : Sl n h csN [] () := ⟨[], rfl, rfl⟩
theorem Sl.cons {s : Cs β} {x : AV} {xs : List AV} {v : α} {a : β} (h1 : Sm n h c x v) (h2 : Sl n h s xs a) : Sl n h (csC c s) (x :: xs) (v, a) := by
 obtain ⟨y, k1, k2⟩ := h1
 obtain ⟨ys, q1, q2⟩ := h2
 refine ⟨y :: ys, ?_, ?_⟩
 ·unfold allV; rw [k1, q1]
 ·show ((c.dec y).bind fun x => (s.dec ys).map fun y => (x, y)) = _
  rw [k2, q2]; rfl
theorem Sl.last {x : AV} {v : α} (h1 : Sm n h c x v) : Sl n h (csE c) [x] v := by
 obtain ⟨y, k1, k2⟩ := h1
 exact ⟨[y], by unfold allV allV; rw [k1], k2⟩
theorem Sm.ag {s : Cs α} {hn : ∀ x, (s.enc x).all noRf = true} {xs : List AV} {a : α} (h1 : Sl n h s xs a) : Sm (n + 1) h (cdA s hn) (.ag xs) a := by
 obtain ⟨ys, k1, k2⟩ := h1
 refine ⟨.ag ys, ?_, k2⟩
 show (allV (viewN h n) xs).map AV.ag = _
 rw [k1]; rfl
end
/-- A closure of a given function. -/
def cdF {α : Type} (f : FuncId) (s : Cs α) (hn : ∀ x, (s.enc x).all noRf0 = true) : Cd α where
 enc x := .fn f [] (s.enc x)
 dec a := match a with
  | .fn g [] q => if g = f then s.dec q else none
  | _ => none
 de x := by simp [s.de]
 vr := fun {w Z a x u} hd hv => by
  split at hd
  ·split at hd
   ·next e =>
    subst e
    cases hv with
    | fn hl hl' hx hy =>
     have := s.vr hd ⟨hl', hy⟩
     exact .fn hl this.len hx this.at_
   ·cases hd
  ·cases hd
 nr x := by simp [noRf2, noRf, hn]
theorem Sm.fn {α : Type} {n : Nat} {h : Hp} {f : FuncId} {s : Cs α} {hn : ∀ x, (s.enc x).all noRf0 = true} {q : List AV} {a : α} (h1 : Sl n h s q a) : Sm (n + 1) h (cdF f s hn) (.fn f [] q) a := by
 obtain ⟨ys, k1, k2⟩ := h1
 refine ⟨.fn f [] ys, ?_, ?_⟩
 ·show (match allV (viewN h n) [], allV (viewN h n) q with | some p, some q => some (AV.fn f p q) | _, _ => none) = _
  rw [k1]; rfl
 ·show (if f = f then s.dec ys else none) = _
  rw [if_pos rfl]; exact k2
section
variable {E : Env} {cx : Cx} {ops : Array Oper} {rest rest' : List Oper} {K : St → Prop} {n n0 k : Nat} {l : List (Nat × AV)} {hp : Hp} {α β : Type} {s : Cs α} {F : α → Option β} {er : β → AV} {u : α} {v : β} {fid : FuncId} {w : World} {Z : Nat → Prop} {R : List RI}
/-- A told call, in a world. -/
theorem V_ret (hX : XOk fid (told s F er)) (hh : HR w Z R hp) (hg : GI E0 w Z) {xs : List AV} {us : List Value} (hvs : VRs w Z R xs us) (hv : Sl 12 hp s xs u) (hok : flatTp (er v) = true ∨ xs.all noRf2 = true) (hF : F u = some v) :
  Ret E0.P fid us.toArray w fun x w' => ∃ Z', HR w' Z' R hp ∧ VR w' Z' R (er v) x ∧ Step w Z R hp w' Z' R hp ∧ w.grownBy w' none ∧ (flatTp (er v) = true → Z' = Z) := by
 obtain ⟨ys, h1, h2⟩ := hv
 by_cases hf : flatTp (er v) = true
 ·have hz1 : ∀ c, (Z c ∨ own R hp c) → c < w.heap.size := fun c hc => hc.elim (hh.zlt c) (fun ⟨b, B, r, h1, _, h3, h4⟩ => h4 ▸ hh.rltL h1 h3)
  have hg1 : GI E0 w (fun c => Z c ∨ own R hp c) := fun q y hy => (hg q y hy).mono (fun _ _ => rfl) (fun _ h => .inl h) (fun _ _ h => h)
  refine Ret.mono (hX.2 ys (er v) (told_dec h2 hF) w _ us hz1 hg1 (allV_vr (viewN_vr hh 12) hvs h1)) fun x w' ⟨hs, hx⟩ => ?_
  exact ⟨Z, hh.keep hs.size (fun c hc => hs.block c hc (by simp)), flat_vr hf hx, ⟨hs.os, hs.tape, hs.output, hs.size, fun c hc _ => hs.block c hc (by simp), fun _ h => .inl h, fun _ h => h, fun _ h => .inl h, fun _ _ h => h⟩, hs, fun _ => rfl⟩
 ·have hn := hok.resolve_left hf
  have e : xs = ys := Option.some.inj ((allV_id fun y hy => viewN_id2 (List.all_eq_true.1 hn y hy) 10).symm.trans h1)
  subst e
  refine Ret.mono (hX.2 xs (er v) (told_dec h2 hF) w Z us hh.zlt hg (noRfs_vr hn hvs)) fun x w' ⟨hs, hx⟩ => ?_
  obtain ⟨k1, k2⟩ := hh.addZ hs
  exact ⟨_, k1, hx.up, k2, hs, fun h => absurd h hf⟩
/-- .. at an operation. -/
theorem V_op (hP : E.P = E0.P) (hG : E.G = E0.G) {caps xs : List AV} {d : Option Nat} {f : Operand} {args : Array Operand} {tys : Array TypeId} {ty : TypeId} {pos : String} {af : Array Edge} {g : Option (Nat × Bool)} {base : Bs} {a : Act} (hX : XOk fid (told s F er)) (sr : SR E base w Z R ⟨Fr n l, hp⟩ a)
  (hf : opA E (Fr n l) f = some (.fn fid [] caps)) (ha : opds (opA E (Fr n l)) args.toList = some xs) (hv : Sl 12 hp s (xs ++ caps) u) (hok : flatTp (er v) = true ∨ (xs ++ caps).all noRf2 = true) (hF : F u = some v) {Q : Act → World → Prop}
  (kk : ∀ x w' Z', HR w' Z' R hp → VR w' Z' R (er v) x → Step w Z R hp w' Z' R hp → w.grownBy w' none → (flatTp (er v) = true → Z' = Z) → SR E base w' Z' R ⟨Fr n l, hp⟩ a → Q (a.put d x) w') : Lw E.P ⟨d, .call ⟨.value f, args, tys⟩, ty, pos, af, g⟩ a w Q := by
 have hρ : ∀ o x, opA E (Fr n l) o = some x → VR w Z R x (a.eval o) := fun o x e => opA_vr sr o x e
 have hvf := hρ _ _ hf
 have hva : ∃ uc : List Value, a.eval f = .func (.func fid) #[] uc.toArray ∧ VRs w Z R caps uc := by
  generalize a.eval f = vf at hvf
  cases hvf with
  | fn hl hl' hx hy =>
   rename_i u1 u2
   have e1 : u1 = [] := by simpa using hl
   subst e1
   exact ⟨u2, rfl, hl', hy⟩
 obtain ⟨uc, hva, huc⟩ := hva
 have hcl : Callable E.P fid := hP ▸ hX.1
 unfold Lw
 rw [run_call (uf := []) (uc := uc) rfl hva rfl hcl w]
 have hret := V_ret hX sr.hh (by have := sr.gl; exact fun q y hy => this q y (by rw [hG]; exact hy)) ((opds_vr hρ ha).append huc) hv hok hF
 rw [← hP] at hret
 simp only [List.nil_append]
 refine Ret.mono hret fun x w' ⟨Z', k1, k2, k3, k4, k5⟩ => ?_
 exact kk x w' Z' k1 k2 k3 k4 k5 (sr.step k1 k3)
theorem RunS.callV (hP : E.P = E0.P) (hG : E.G = E0.G) (hX : XOk fid (told s F er)) {caps xs : List AV} {d : Nat} {f : Operand} {args : Array Operand} {tys : Array TypeId} {ty : TypeId} {pos : String} {af : Array Edge} {g : Option (Nat × Bool)} (hr : rest = ⟨some d, .call ⟨.value f, args, tys⟩, ty, pos, af, g⟩ :: rest') (hw : wantedA ops (Fr n l) ⟨some d, .call ⟨.value f, args, tys⟩, ty, pos, af, g⟩ = some true)
  (hf : opA E (Fr n l) f = some (.fn fid [] caps)) (ha : opds (opA E (Fr n l)) args.toList = some xs) (hv : Sl 12 hp s (xs ++ caps) u) (hok : flatTp (er v) = true ∨ (xs ++ caps).all noRf2 = true) (hF : F u = some v) (kk : RunS E ops rest' ⟨Fr n ((d, er v) :: l), hp⟩ K) : RunS E ops rest ⟨Fr n l, hp⟩ K := by
 subst hr
 intro base Q a w Z R sr q
 refine lwl_loud rfl (wantedA_eq sr hw) (V_op hP hG hX sr hf ha hv hok hF fun x w' Z' k1 k2 k3 k4 k5 sr' => ?_)
 refine kk base Q _ w' Z' R ?_ fun s' a' w'' Z'' R'' hK sr'' st' => q s' a' w'' Z'' R'' hK sr'' (k3.w.trans st')
 have := sr'.put (d := some d) k2
 rwa [putA_Fr] at this
/-- In a region that draws its order; what is handed back is flat. -/
theorem RunDS.callV (hP : E.P = E0.P) (hG : E.G = E0.G) (hX : XOk fid (told s F er)) {caps xs : List AV} {d : Nat} {f : Operand} {args : Array Operand} {tys : Array TypeId} {ty : TypeId} {pos : String} {af : Array Edge} {g : Option (Nat × Bool)} (hr : rest = ⟨some d, .call ⟨.value f, args, tys⟩, ty, pos, af, g⟩ :: rest') (hw : wantedA ops (Fr n l) ⟨some d, .call ⟨.value f, args, tys⟩, ty, pos, af, g⟩ = some true)
  (hf : opA E (Fr n l) f = some (.fn fid [] caps)) (ha : opds (opA E (Fr n l)) args.toList = some xs) (hv : Sl 12 hp s (xs ++ caps) u) (hok : flatTp (er v) = true) (hF : F u = some v) (kk : RunDS E ops n0 (k + 1) rest' ⟨Fr n ((d, er v) :: l), hp⟩ K) : RunDS E ops n0 k rest ⟨Fr n l, hp⟩ K := by
 subst hr
 intro base Q w0 Z R0 h0 a w R hh0 hn0 hT sr hgr st hpre hTk hlen hops q
 have hok' : ops[k]? = some ⟨some d, .call ⟨.value f, args, tys⟩, ty, pos, af, g⟩ := by have := hops 0; simpa using this.symm
 have hops' : ∀ j, rest'[j]? = ops[k + 1 + j]? := fun j => by have := hops (j + 1); simpa [Nat.add_assoc, Nat.add_comm 1 j] using this
 have hlen' : k + 1 + rest'.length = ops.size := by simp at hlen ⊢; omega
 have hTk' : tailAt ops = tailGo rest' (k + 1) := by
  rw [hTk]
  conv => lhs; unfold tailGo; rw [if_neg (by simp [isW])]
 refine ⟨fun _ => hgr, ?_⟩
 rw [if_pos (wantedA_eq sr hw)]
 have hq : isQ (.call ⟨.value f, args, tys⟩ : Op) = false := rfl
 rw [if_pos (loudT_n hok' hq)]
 refine V_op hP hG hX sr hf ha hv (.inl hok) hF fun x w' Z' k1 k2 k3 k4 k5 sr' => ?_
 have e := k5 hok
 subst e
 exact kk base Q w0 Z' R0 h0 _ w' R hh0 hn0 hT (by have := sr'.put (d := some d) k2; rwa [putA_Fr] at this) (pu_trans hgr k4) (st.trans k3) hpre hTk' hlen' hops' q
/-- A call that hands back own blocks, in a region that draws its order. -/
theorem RunDS.callS (hP : E.P = E0.P) (hG : E.G = E0.G) {xs ys : List AV} {Out : AV → Hp → Prop} {d : Nat} {f : Operand} {args : Array Operand} {tys : Array TypeId} {ty : TypeId} {pos : String} {af : Array Edge} {g : Option (Nat × Bool)} (hs : SOk fid ys Out) (hr : rest = ⟨some d, .call ⟨.value f, args, tys⟩, ty, pos, af, g⟩ :: rest') (hw : wantedA ops (Fr n l) ⟨some d, .call ⟨.value f, args, tys⟩, ty, pos, af, g⟩ = some true)
  (hf : opA E (Fr n l) f = some (.fn fid [] [])) (ha : opds (opA E (Fr n l)) args.toList = some xs) (hv : viewsF hp xs = some ys) (hfl : ∀ x h', Out x h' → ownFlat x = true ∧ flatH h' = true) (kk : ∀ x h', Out x h' → RunDS E ops n0 (k + 1) rest' ⟨Fr n ((d, shN hp.length x) :: l), hp ++ h'⟩ K) : RunDS E ops n0 k rest ⟨Fr n l, hp⟩ K := by
 subst hr
 intro base Q w0 Z R0 h0 a w R hh0 hn0 hT sr hgr st hpre hTk hlen hops q
 have hok' : ops[k]? = some ⟨some d, .call ⟨.value f, args, tys⟩, ty, pos, af, g⟩ := by have := hops 0; simpa using this.symm
 have hops' : ∀ j, rest'[j]? = ops[k + 1 + j]? := fun j => by have := hops (j + 1); simpa [Nat.add_assoc, Nat.add_comm 1 j] using this
 have hlen' : k + 1 + rest'.length = ops.size := by simp at hlen ⊢; omega
 have hTk' : tailAt ops = tailGo rest' (k + 1) := by
  rw [hTk]
  conv => lhs; unfold tailGo; rw [if_neg (by simp [isW])]
 refine ⟨fun _ => hgr, ?_⟩
 rw [if_pos (wantedA_eq sr hw)]
 have hq : isQ (.call ⟨.value f, args, tys⟩ : Op) = false := rfl
 rw [if_pos (loudT_n hok' hq)]
 have hρ : ∀ o x, opA E (Fr n l) o = some x → VR w Z R x (a.eval o) := fun o x e => opA_vr sr o x e
 have hva : a.eval f = .func (.func fid) ([] : List Value).toArray ([] : List Value).toArray := by
  have := hρ _ _ hf
  generalize a.eval f = vf at this
  cases this with
  | fn hl hl' hx hy =>
   rename_i u1 u2
   have e1 : u1 = [] := by simpa using hl
   have e2 : u2 = [] := by simpa using hl'
   subst e1 e2; rfl
 have hcl : Callable E.P fid := hP ▸ hs.1
 unfold Lw
 rw [run_call (uf := []) (uc := []) rfl hva rfl hcl w]
 simp only [List.nil_append, List.append_nil]
 have hz1 : ∀ c, (Z c ∨ own R hp c) → c < w.heap.size := fun c hc => hc.elim (sr.hh.zlt c) (fun ⟨b, B, r, h1, _, h3, h4⟩ => h4 ▸ sr.hh.rltL h1 h3)
 have hg1 : GI E0 w (fun c => Z c ∨ own R hp c) := fun q y hy => (sr.gl q y (by rw [hG]; exact hy)).mono (fun _ _ => rfl) (fun _ h => .inl h) (fun _ _ h => h)
 have hret := hs.2 w _ _ hz1 hg1 (viewsF_vr sr.hh (opds_vr hρ ha) hv)
 rw [← hP] at hret
 refine Ret.mono hret fun v w' hS => ?_
 obtain ⟨Z', R', x, h', hO, h1, h2, st1⟩ := hS
 obtain ⟨f1, f2⟩ := hfl x h' hO
 obtain ⟨j1, j2⟩ := sr.hh.join hz1 st1 h1 f2
 have hlen1 : R.length = hp.length := sr.hh.len
 have hx := shN_vr (w := w') (Z' := Z) (R := R) hlen1 f1 h2
 have sr' := (sr.step j1 j2).put (d := some d) hx
 rw [show putA (⟨Fr n l, hp⟩ : St).fr (some d) (shN hp.length x) = Fr n ((d, shN hp.length x) :: l) from putA_Fr n l d _] at sr'
 have hg2 : w.grownBy w' none := ⟨st1.os, st1.tape, st1.output, st1.size, fun c hc _ => st1.block c hc fun ⟨b, B, r, hb, _⟩ => by simp at hb⟩
 exact kk x h' hO base Q w0 Z R0 h0 _ w' (R ++ R') hh0 hn0 hT sr' (pu_trans hgr hg2) (st.trans j2) (fun b B hb => by
  have hlt : b < hp.length := (List.getElem?_eq_some_iff.1 (hpre b B hb)).1
  show (hp ++ h')[b]? = _
  rw [List.getElem?_append_left hlt]; exact hpre b B hb) hTk' hlen' hops' q
/-- What is left of a region that draws its order, of which nothing is read any more. -/
def RunDZ (E : Env) (ops : Array Oper) (k : Nat) (rest : List Oper) (s : St) (K : St → Prop) : Prop :=
 ∀ (base : Bs) (Q : Act → World → Prop) (w0 : World) (Z : Nat → Prop) (a : Act) (w : World) (R : List RI), tailAt ops ≤ ops.size → SR E base w Z R s a → w0.grownBy w none → tailAt ops = tailGo rest k → k + rest.length = ops.size → (∀ j, rest[j]? = ops[k + j]?) →
  (∀ s' a' w' Z' R', K s' → SR E base w' Z' R' s' a' → StepW w Z R s.hp w' Z' R' s'.hp → Q a' w') → wpMix E.P ops (fun w' => w0.grownBy w' none) (loudT ops (tailAt ops)) (tailAt ops) Q k rest a w
/-- From now on nothing is read. -/
theorem RunDS.z {s : St} (kk : RunDZ E ops k rest s K) : RunDS E ops n0 k rest s K :=
 fun base Q w0 Z _ _ a w R _ _ hT sr hgr st _ hTk hlen hops q => kk base Q w0 Z a w R hT sr hgr hTk hlen hops fun s' a' w' Z' R' hK sr' st' => q s' a' w' Z' R' hK sr' (st.w.trans st')
theorem RunDZ.done {s : St} (hr : rest = []) (kk : K s) : RunDZ E ops k rest s K := by
 subst hr
 exact fun base Q w0 Z a w R _ sr hgr _ _ _ q => ⟨fun _ => hgr, q s a w Z R kk sr (StepW.refl _ _ _ _)⟩
theorem RunDZ.wk {s s1 : St} (hw : Wk E s s1) (h : RunDZ E ops k rest s1 K) : RunDZ E ops k rest s K := fun base Q w0 Z a w R hT sr hgr hTk hlen hops q => by
 obtain ⟨Z', R', sr', st⟩ := hw base w Z R a sr
 exact h base Q w0 Z' a w R' hT sr' hgr hTk hlen hops fun s' a' w' Z2 R2 hK sr2 st2 => q s' a' w' Z2 R2 hK sr2 (st.trans st2)
theorem RunDZ.tail {s : St} {o : Oper} (hr : rest = o :: rest') (hW : isW o.op = true) (h : RunS E ops rest s K) : RunDZ E ops k rest s K := by
 subst hr
 intro base Q w0 Z a w R hT sr hgr hTk hlen hops q
 have hTk' : tailAt ops = k := by rw [hTk]; unfold tailGo; rw [if_pos hW]
 exact lwl_mix (h base Q a w Z R sr fun s' a' w' Z' R' hK sr' st' => q s' a' w' Z' R' hK sr' st') (by omega) (fun _ => hgr) (fun j hj => loudT_or (by omega)) hops
theorem RunDZ.app (hE : EnvOk E) : ∀ {pre : List Oper} {s s1 : St} {k : Nat}, (pre.all fun o => !isW o.op && !isLd o.op) = true → opsD E (evC E 0) ⟨none, false⟩ ops n0 pre s = some s1 → RunDZ E ops (k + pre.length) rest s1 K → RunDZ E ops k (pre ++ rest) s K
 | [], s, s1, k, _, e, kk => by injection e with e; subst e; exact kk
 | o :: pre, s, s1, k, hp, e, kk => by
  intro base Q w0 Z a w R hT sr hgr hTk hlen hops q
  simp only [List.all_cons, Bool.and_eq_true, Bool.not_eq_true'] at hp
  obtain ⟨⟨hW, hLd⟩, hp⟩ := hp
  have hok : ops[k]? = some o := by have := hops 0; simpa using this.symm
  have hops' : ∀ j, (pre ++ rest)[j]? = ops[k + 1 + j]? := fun j => by have := hops (j + 1); simpa [Nat.add_assoc, Nat.add_comm 1 j] using this
  have hk1 : k + 1 + pre.length = k + (o :: pre).length := by simp; omega
  have kk' : RunDZ E ops (k + 1 + pre.length) rest s1 K := by rw [hk1]; exact kk
  have hp' : (pre.all fun o => !isW o.op && !isLd o.op) = true := by simpa using hp
  have hlen' : k + 1 + (pre ++ rest).length = ops.size := by simp at hlen ⊢; omega
  have hTk' : tailAt ops = tailGo (pre ++ rest) (k + 1) := by
   rw [hTk]
   show tailGo (o :: (pre ++ rest)) k = _
   conv => lhs; unfold tailGo; rw [if_neg (by rw [hW]; simp)]
  have hkT : ¬ tailAt ops ≤ k := by have := tailGo_ge (pre ++ rest) (k + 1); omega
  show wpMix E.P ops _ _ _ Q k (o :: (pre ++ rest)) a w
  refine ⟨fun _ => hgr, ?_⟩
  unfold opsD at e
  rw [if_neg (by rw [hW]; simp)] at e
  split at e
  ·cases e
  ·next hw =>
   rw [if_neg (by rw [wantedA_eq sr hw]; simp)]
   exact RunDZ.app hE hp' e kk' base Q w0 Z _ w R hT (sr.put undef_vr) hgr hTk' hlen' hops' q
  ·next hw =>
   rw [if_pos (wantedA_eq sr hw)]
   have hρ : ∀ o x, opA E s.fr o = some x → VR w Z R x (a.eval o) := fun o x e => opA_vr sr o x e
   split at e
   ·next x hx =>
    split at e
    ·have hq := isQ_of hx
     rw [if_neg (by rw [loudT_q hok hq hkT]; simp)]
     obtain ⟨u, hu, hrun⟩ := evOpQ_sound sr.hh hρ hx
     exact ⟨u, (fun w' _ => hrun w' fun h => by rw [hLd] at h; cases h), RunDZ.app hE hp' e kk' base Q w0 Z _ w R hT (sr.put hu) hgr hTk' hlen' hops' q⟩
    ·cases e
   ·split at e
    ·next x h' hx =>
     have hq := isQ_of_N hx
     rw [if_pos (loudT_n hok hq)]
     obtain ⟨u, w', R', h1, h2, h3, h4, h5⟩ := evOpN_sound hρ sr.hh hx
     exact lw_val h1 (RunDZ.app hE hp' e kk' base Q w0 Z _ w' R' hT ((sr.step h2 h4).put h3) (pu_trans hgr h5) hTk' hlen' hops' fun s' a' w'' Z'' R'' hK sr'' st' => q s' a' w'' Z'' R'' hK sr'' (h4.w.trans st'))
    ·split at e
     ·next f args tys ho =>
      split at e
      ·next fv xs hf hxs =>
       split at e
       ·next r hr =>
        obtain ⟨x, h'⟩ := r
        have hq : isQ o.op = false := by rw [ho]; rfl
        rw [if_pos (loudT_n hok hq)]
        obtain ⟨g, uf, uc, hva, hcl, hret⟩ := callP_sound hE (code_sound hE 0).1 (hρ _ _ hf) (opds_vr hρ hxs) sr.hh sr.gl hr
        unfold Lw
        rw [run_call (uf := uf) (uc := uc) ho hva rfl hcl w]
        refine Ret.mono hret fun v w' hS => ?_
        obtain ⟨hg1, R', k1, k2, k3⟩ := hS
        exact RunDZ.app hE hp' e kk' base Q w0 Z _ w' R' hT ((sr.step k1 k3).put k2) (pu_trans hgr hg1) hTk' hlen' hops' fun s' a' w'' Z'' R'' hK sr'' st' => q s' a' w'' Z'' R'' hK sr'' (k3.w.trans st')
       ·cases e
      ·cases e
     ·cases e
theorem RunDZ.one (hE : EnvOk E) {s s1 : St} {o : Oper} (hr : rest = o :: rest') (hW : (!isW o.op && !isLd o.op) = true) (h : opsD E (evC E 0) ⟨none, false⟩ ops n0 [o] s = some s1) (kk : RunDZ E ops (k + 1) rest' s1 K) : RunDZ E ops k rest s K := by
 subst hr
 exact RunDZ.app (k := k) hE (pre := [o]) (by simpa using hW) h kk
end
/-- A function, entered: from what its body does; the interpreter need not take it. -/
theorem ret_sem2 {E : Env} {c : Code} {Q : Ex → St → Prop} {f : FuncId} {fn : Func} {args : List AV} {h : Hp} (hff : E.P.funcs[f]? = some fn) (hc : fn.body = some c) (hle : args.length ≤ fn.ntmps)
  (hb : Sem E ⟨none, false⟩ c ⟨args.map some ++ List.replicate (fn.ntmps - args.length) (some (.tp [])), h⟩ fun e s => (e = .normal ∨ e = .ret) ∧ ∃ xs, resA E.P s.fr s.hp fn.results.toList = some xs ∧ Q .ret ⟨[some (retA xs)], s.hp⟩)
  {w : World} {Z : Nat → Prop} {R : List RI} {us : List Value} (hh : HR w Z R h) (hv : VRs w Z R args us) (hg : GI E w Z) :
  Ret E.P f us.toArray w fun v w' => ∃ Z' R' x h', Q .ret ⟨[some x], h'⟩ ∧ HR w' Z' R' h' ∧ VR w' Z' R' x v ∧ StepW w Z R h w' Z' R' h' := by
 refine callsIn_wide.1 (callsIn_of_wp_marks (F := Fw none) (n := 0) hff hc trivial ?_)
 have hul : us.length = args.length := hv.len
 have hsr : SR E (.of w.heap.size) w Z R ⟨args.map some ++ List.replicate (fn.ntmps - args.length) (some (.tp [])), h⟩ { tmps := us.toArray ++ Array.replicate (fn.ntmps - us.toArray.size) undef, defers := [] } := by
  refine ⟨hh, ⟨by simp [hul], fun t x hx => ?_⟩, rfl, hg, Nat.le_refl _⟩
  have e0 : us.toArray ++ Array.replicate (fn.ntmps - us.toArray.size) undef = (us ++ List.replicate (fn.ntmps - us.length) undef).toArray := by simp
  rw [e0, Array.getD_eq_getD_getElem?, List.getElem?_toArray]
  by_cases ht : t < args.length
  ·rw [List.getElem?_append_left (by simpa using ht), List.getElem?_map] at hx
   rw [List.getElem?_append_left (by omega)]
   cases hat : args[t]? with
   | none => rw [hat] at hx; cases hx
   | some q =>
    rw [hat] at hx
    have hx := Option.some.inj (Option.some.inj hx)
    subst hx
    obtain ⟨u, hu1, hu2⟩ := hv.get hat
    rw [hu1]; exact hu2
  ·rw [List.getElem?_append_right (by simp; omega), List.getElem?_replicate] at hx
   split at hx
   ·next hlt =>
    have hx := Option.some.inj (Option.some.inj hx)
    subst hx
    rw [List.getElem?_append_right (by omega), List.getElem?_replicate, if_pos (by rw [hul]; simpa using hlt)]
    exact .tp (us := []) rfl (fun i x u hx => by simp at hx)
   ·cases hx
 refine hb none (.of w.heap.size) _ _ w Z R (fun _ => rfl) hsr rfl fun e s' a' w' Z' R' hQ sr' st => ?_
 obtain ⟨hex, xs, hxs, hq⟩ := hQ
 have hl := leaves_mks (base := .of w.heap.size) rfl (E := E) (w := w') (a := a') (fn := fn) (S := fun v w'' => ∃ Z' R' x h', Q .ret ⟨[some x], h'⟩ ∧ HR w'' Z' R' h' ∧ VR w'' Z' R' x v ∧ StepW w Z R h w'' Z' R' h') hxs (fun w'' u g1 g2 g3 g4 g5 g6 g7 => ⟨Z', R', _, _, hq, g6, g7, ⟨g2.trans st.os, g3.trans st.tape, g4.trans st.output, by rw [g1]; exact st.size, fun c hc hn => (g5 c hc).trans (st.block c hc hn), st.own_, st.z, st.z'⟩⟩) (D := a'.defers) (w1 := w') sr' rfl rfl rfl rfl (fun _ _ => rfl)
 rcases hex with rfl | rfl
 ·exact hl
 ·exact hl
/-- A contract out of what the body does. -/
theorem xok_of_sem {f : FuncId} {fn : Func} {c : Code} (hf : E0.P.funcs[f]? = some fn) (hc : fn.body = some c) (hcall : Callable E0.P f) {α β : Type} (s : Cs α) (F : α → Option β) (er : β → AV) (hle : ∀ a, (s.enc a).length ≤ fn.ntmps) (hnr : ∀ b, noRfT (er b) = true)
  (sem : ∀ a b, F a = some b → Sem E0 ⟨none, false⟩ c ⟨Fr fn.ntmps (pairs0 0 (s.enc a)), []⟩ fun e s' => (e = .normal ∨ e = .ret) ∧ ∃ xs, resA E0.P s'.fr s'.hp fn.results.toList = some xs ∧ retA xs = er b) :
  XOk f (told s F er) := by
 refine ⟨hcall, fun xs x h w Z us hz hg hv => ?_⟩
 obtain ⟨a, ha, h⟩ := Option.bind_eq_some_iff.1 h
 obtain ⟨b, hb, rfl⟩ := Option.map_eq_some_iff.1 h
 have hh : HR w Z [] [] := ⟨rfl, fun b B hB => by simp at hB, fun b b' B B' r r' hB => by simp at hB, hz⟩
 refine Ret.mono (ret_sem2 hf hc (hle a) (Q := fun _ s => s.fr = [some (er b)]) (Sem.mono (Sem.wk (Wk.enter (hle a)) (sem a b hb)) fun e s' hs => ?_) hh (s.vr ha hv) hg) fun v w' hS => ?_
 ·obtain ⟨h1, xs, h2, h3⟩ := hs
  exact ⟨h1, xs, h2, by rw [h3]⟩
 ·obtain ⟨Z', R', x, h', hQ, k1, k2, st⟩ := hS
  have hx : x = er b := by simpa using hQ
  subst hx
  refine ⟨⟨st.os, st.tape, st.output, st.size, fun c hc _ => st.block c hc (fun ⟨b, B, r, hb, _⟩ => by simp at hb)⟩, (noRfT_vr (hnr b) k2).mono (fun _ _ => rfl) (fun c hc => ?_) (fun _ _ h => h)⟩
  rcases st.z' c hc with h1 | ⟨b, B, r, hb, _⟩ | h1
  ·exact .inl h1
  ·simp at hb
  ·exact .inr ⟨h1, k1.zlt c hc⟩
/-- The first n blocks are given up. -/
def killN : Nat → Hp → Hp
 | 0, h => h
 | n + 1, h => (killN n h).set n none
theorem killN_hr {w : World} {Z : Nat → Prop} {R : List RI} {h : Hp} (hh : HR w Z R h) : ∀ n, HR w Z R (killN n h)
 | 0 => hh
 | n + 1 => ((killN_hr hh n).kill n).1
theorem killN_get {h : Hp} : ∀ {n b : Nat} {B : Blk}, (killN n h)[b]? = some (some B) → n ≤ b ∧ h[b]? = some (some B)
 | 0, b, B, e => ⟨Nat.zero_le _, e⟩
 | n + 1, b, B, e => by
  unfold killN at e
  rw [List.getElem?_set] at e
  split at e
  ·split at e <;> cases e
  ·next hne =>
   obtain ⟨h1, h2⟩ := killN_get e
   exact ⟨by omega, h2⟩
def RunDX (E : Env) (ops : Array Oper) (T : Nat) (n0 k : Nat) (rest : List Oper) (s : St) (K : St → Prop) : Prop :=
 ∀ (base : Bs) (Q : Act → World → Prop) (w0 : World) (Z : Nat → Prop) (R0 : List RI) (h0 : Hp) (a : Act) (w : World) (R : List RI), HR w0 Z R0 h0 → n0 = h0.length → SR E base w Z R s a → w0.grownBy w none → Step w0 Z R0 h0 w Z R s.hp → (∀ (b : Nat) (B : Option Blk), h0[b]? = some B → s.hp[b]? = some B) → (∀ j, rest[j]? = ops[k + j]?) →
  (∀ s' a' w' Z' R', K s' → SR E base w' Z' R' s' a' → StepW w0 Z R0 h0 w' Z' R' s'.hp → Q a' w') → wpMix E.P ops (fun w' => w0.grownBy w' none) (loudT ops T) T Q k rest a w
section
variable {E : Env} {cx : Cx} {ops : Array Oper} {pre rest rest' : List Oper} {s s1 : St} {K : St → Prop} {n n0 k T : Nat} {l : List (Nat × AV)} {hp hp' : Hp} {Q : Ex → St → Prop} {id : Nat} {fid : FuncId}
theorem RunDX.done (hr : rest = []) (kk : K s) : RunDX E ops T n0 k rest s K := by
 subst hr
 exact fun base Q w0 Z R0 h0 a w R _ _ sr hgr st _ _ q => ⟨fun _ => hgr, q s a w Z R kk sr st.w⟩
theorem RunDX.tail (hT : T = k) (h : RunS E ops rest s K) : RunDX E ops T n0 k rest s K := by
 subst hT
 intro base Q w0 Z R0 h0 a w R _ _ sr hgr st _ hops q
 exact lwl_mix (h base Q a w Z R sr fun s' a' w' Z' R' hK sr' st' => q s' a' w' Z' R' hK sr' (st.w.trans st')) (Nat.le_refl _) (fun _ => hgr) (fun j hj => loudT_or hj) hops
theorem RunDX.app (hE : EnvOk E) : ∀ {pre : List Oper} {s : St} {k : Nat}, (pre.all fun o => !isW o.op) = true → k + pre.length ≤ T → opsD E (evC E 0) ⟨none, false⟩ ops n0 pre s = some s1 → RunDX E ops T n0 (k + pre.length) rest s1 K → RunDX E ops T n0 k (pre ++ rest) s K
 | [], s, k, _, _, e, kk => by injection e with e; subst e; exact kk
 | o :: pre, s, k, hp, hT, e, kk => by
  intro base Q w0 Z R0 h0 a w R hh0 hn0 sr hgr st hpre hops q
  simp only [List.all_cons, Bool.and_eq_true, Bool.not_eq_true'] at hp
  obtain ⟨hW, hp⟩ := hp
  have hok : ops[k]? = some o := by have := hops 0; simpa using this.symm
  have hops' : ∀ j, (pre ++ rest)[j]? = ops[k + 1 + j]? := fun j => by have := hops (j + 1); simpa [Nat.add_assoc, Nat.add_comm 1 j] using this
  have hk1 : k + 1 + pre.length = k + (o :: pre).length := by simp; omega
  have kk' : RunDX E ops T n0 (k + 1 + pre.length) rest s1 K := by rw [hk1]; exact kk
  have hT' : k + 1 + pre.length ≤ T := by rw [hk1]; exact hT
  have hkT : ¬ T ≤ k := by omega
  show wpMix E.P ops _ _ _ Q k (o :: (pre ++ rest)) a w
  refine ⟨fun _ => hgr, ?_⟩
  unfold opsD at e
  rw [if_neg (by rw [hW]; simp)] at e
  split at e
  ·cases e
  ·next hw =>
   rw [if_neg (by rw [wantedA_eq sr hw]; simp)]
   exact RunDX.app hE hp hT' e kk' base Q w0 Z R0 h0 _ w R hh0 hn0 (sr.put undef_vr) hgr st hpre hops' q
  ·next hw =>
   rw [if_pos (wantedA_eq sr hw)]
   have hρ : ∀ o x, opA E s.fr o = some x → VR w Z R x (a.eval o) := fun o x e => opA_vr sr o x e
   split at e
   ·next x hx =>
    split at e
    ·next hld =>
     have hq := isQ_of hx
     rw [if_neg (by rw [loudT_q hok hq hkT]; simp)]
     obtain ⟨u, hu, hrun⟩ := evOpQ_sound sr.hh hρ hx
     have hquiet : ∃ u, VR w Z R x u ∧ QuietAt E.P (Cf (fun w' => w0.grownBy w' none) o) o u a := by
      cases hl : isLd o.op with
      | false => exact ⟨u, hu, fun w' _ => hrun w' fun h => by rw [hl] at h; cases h⟩
      | true =>
       obtain ⟨u1, hu1, hq1⟩ := load_quiet hh0 sr hgr st hpre hl (by rw [← hn0]; exact hld) hx
       exact ⟨u1, hu1, hq1.up (free_ld hl)⟩
     obtain ⟨u, hu, hquiet⟩ := hquiet
     exact ⟨u, hquiet, RunDX.app hE hp hT' e kk' base Q w0 Z R0 h0 _ w R hh0 hn0 (sr.put hu) hgr st hpre hops' q⟩
    ·cases e
   ·split at e
    ·next x h' hx =>
     have hq := isQ_of_N hx
     rw [if_pos (loudT_n hok hq)]
     obtain ⟨u, w', R', h1, h2, h3, h4, h5⟩ := evOpN_sound hρ sr.hh hx
     exact lw_val h1 (RunDX.app hE hp hT' e kk' base Q w0 Z R0 h0 _ w' R' hh0 hn0 ((sr.step h2 h4).put h3) (pu_trans hgr h5) (st.trans h4) (fun b B hb => evOpN_pre hx (hpre b B hb)) hops' q)
    ·split at e
     ·next f args tys ho =>
      split at e
      ·next fv xs hf hxs =>
       split at e
       ·next r hr =>
        obtain ⟨x, h'⟩ := r
        have hq : isQ o.op = false := by rw [ho]; rfl
        rw [if_pos (loudT_n hok hq)]
        obtain ⟨g, uf, uc, hva, hcl, hret⟩ := callP_sound hE (code_sound hE 0).1 (hρ _ _ hf) (opds_vr hρ hxs) sr.hh sr.gl hr
        unfold Lw
        rw [run_call (uf := uf) (uc := uc) ho hva rfl hcl w]
        refine Ret.mono hret fun v w' hS => ?_
        obtain ⟨hg1, R', k1, k2, k3⟩ := hS
        exact RunDX.app hE hp hT' e kk' base Q w0 Z R0 h0 _ w' R' hh0 hn0 ((sr.step k1 k3).put k2) (pu_trans hgr hg1) (st.trans k3) (fun b B hb => callP_pre hr (hpre b B hb)) hops' q
       ·cases e
      ·cases e
     ·cases e
theorem RunDX.one (hE : EnvOk E) {s s1 : St} {o : Oper} (hr : rest = o :: rest') (hW : (!isW o.op && Nat.blt k T) = true) (h : opsD E (evC E 0) ⟨none, false⟩ ops n0 [o] s = some s1) (kk : RunDX E ops T n0 (k + 1) rest' s1 K) : RunDX E ops T n0 k rest s K := by
 subst hr
 rw [Bool.and_eq_true] at hW
 exact RunDX.app (k := k) hE (pre := [o]) (by simpa using hW.1) (by have := Nat.le_of_ble_eq_true hW.2; simpa using this) h kk
/-- An append to a block that was made in this region. -/
theorem RunDX.append (_hE : EnvOk E) {o : Oper} {x : AV} {d : Nat} {hM : Hp} (hr : rest = o :: rest') (hw : wantedA ops (Fr n l) o = some true) (hd : o.dst = some d) (hq : isQ o.op = false) (h : evOpW E.P (opA E (Fr n l)) hp o.op = some (x, hp')) (hm : evOpW E.P (opA E (Fr n l)) (killN n0 hp) o.op = some (x, hM)) (hpr : hp'.take n0 = hp.take n0) (kk : RunDX E ops T n0 (k + 1) rest' ⟨Fr n ((d, x) :: l), hp'⟩ K) : RunDX E ops T n0 k rest ⟨Fr n l, hp⟩ K := by
 subst hr
 intro base Q w0 Z R0 h0 a w R hh0 hn0 sr hgr st hpre hops q
 have hok' : ops[k]? = some o := by have := hops 0; simpa using this.symm
 have hops' : ∀ j, rest'[j]? = ops[k + 1 + j]? := fun j => by have := hops (j + 1); simpa [Nat.add_assoc, Nat.add_comm 1 j] using this
 refine ⟨fun _ => hgr, ?_⟩
 rw [if_pos (wantedA_eq sr hw), if_pos (loudT_n hok' hq)]
 have hρ : ∀ o x, opA E (Fr n l) o = some x → VR w Z R x (a.eval o) := fun o x e => opA_vr sr o x e
 obtain ⟨u, w', R', h1, h2, h3, h4⟩ := evOpW_sound (o := o) hρ sr.hh h
 obtain ⟨u2, w2, R2, g1, g2, g3, g4⟩ := evOpW_sound (o := o) hρ (killN_hr sr.hh n0) hm
 rw [h1] at g1
 injection g1 with _ e2
 subst e2
 -- the blocks of before stay
 have hown : ∀ c, own R (killN n0 hp) c → w0.heap.size ≤ c := fun c ⟨b, B, r, k1, k2, k3, k4⟩ => by
  obtain ⟨hb, k1⟩ := killN_get k1
  rcases st.own_ c ⟨b, B, r, k1, k2, k3, k4⟩ with ⟨b0, B0, r0, q1, q2, q3, q4⟩ | h
  ·have hlt : b0 < h0.length := (List.getElem?_eq_some_iff.1 q1).1
   have := sr.hh.inj b b0 B B0 r r0 k1 k2 (hpre b0 _ q1) q2 k3 (st.r b0 r0 q3) (by rw [k4, q4])
   omega
  ·exact h
 have hgr2 : w0.grownBy w' none := ⟨g4.os.trans hgr.os, g4.tape.trans hgr.tape, g4.output.trans hgr.output, Nat.le_trans hgr.size g4.size, fun c hc _ => by
  rw [g4.block c (Nat.lt_of_lt_of_le hc hgr.size) fun ho => by have := hown c ho; omega]
  exact hgr.block c hc (by simp)⟩
 refine lw_val h1 ?_
 have sr' := (sr.step h2 h4).put (d := o.dst) h3
 rw [hd, show putA (⟨Fr n l, hp⟩ : St).fr (some d) x = Fr n ((d, x) :: l) from putA_Fr n l d _] at sr'
 rw [hd]
 exact kk base Q w0 Z R0 h0 _ w' R' hh0 hn0 sr' hgr2 (st.trans h4) (fun b B hb => by
  have hlt : b < n0 := by rw [hn0]; exact (List.getElem?_eq_some_iff.1 hb).1
  have e := congrArg (fun l => l[b]?) hpr
  simp only [List.getElem?_take, hlt, if_true] at e
  show hp'[b]? = _
  rw [e]; exact hpre b B hb) hops' q
end
section
variable {P : Program} {ops : Array Oper} {C : World → Prop} {Q : Act → World → Prop} {loud : Nat → Bool} {T : Nat}
/-- What a quiet operation yields may come ahead of a loud one. -/
theorem mOp_after {n i j fuel : Nat} {oi oj : Oper} {v : Value} {listed : Array Bool} {a : Act} {w : World} (ht : TailOk ops loud T n) (hi : ops[i]? = some oi) (hoj : ops[j]? = some oj) (hsel : ∀ (j : Nat) (o : Oper) cs b, ops[j]? = some o → o.op ≠ .select cs b) (hcl : Closed ops listed) (hsz : listed.size = ops.size)
  (ap1 : ∀ d, oi.dst = some d → d ∉ oj.looksAt ops) (ap2 : ∀ d, oi.dst = some d → oj.dst ≠ some d) (ap3 : ∀ d, oj.dst = some d → d ∉ oi.looksAt ops) (hr : i ∈ Region.ready .any ops listed) (hj : j ∈ Region.ready .any ops listed) (hji : j ≠ i) (hlj : loud j = false) (hya : YieldsM P ops C oj v a)
  (H : mOp P ops C loud i (wpM P ops C loud T Q (fuel + 1) (listed.setIfInBounds i true)) a w) : mOp P ops C loud i (wpM P ops C loud T Q fuel ((listed.setIfInBounds j true).setIfInBounds i true)) (a.put oj.dst v) w := by
 have ap2' : ∀ d, oj.dst = some d → oi.dst ≠ some d := fun d hd hd' => ap2 d hd' hd
 rw [mOp_put hi ap3 ap2' (fun cs b => hsel i oi cs b hi)]
 have hG : ∀ u, YieldsM P ops C oj v (a.put oi.dst u) := fun u => hya.same (execOp_put oj (fun cs b => hsel j oj cs b hoj) a oi.dst u ap1) (wanted_put oj a oi.dst u ap1)
 have hr2 := ready_mono (md := .any) (ops := ops) hj hji
 refine mOp_mono (fun a' w'' h2 => ?_) (mOp_and hi hG H)
 obtain ⟨v', hy', h3⟩ := yields_of_mOp hoj hlj (h2.2.2.2 j hr2)
 rw [YieldsM.unique (cf_of ht (hcl.set hr) (by simpa using hsz) hoj hlj (mem_ready.1 hr2).1 h2.2.c) h2.1 hy', Array.setIfInBounds_comm _ _ hji]
 exact h3
/-- As wpM_lex, from an operation on behind which the loud ones stand in one order. -/
theorem wpM_lexG (hs : Region.noSelect ops = true) {n k0 : Nat} (hsp : ∀ k j, k0 ≤ k → k < ops.size → j < ops.size → loud k = true → loud j = true → k < j → waitsT ops n j k = true) (htl : TailOk ops loud T n) (hTl : T < ops.size → loud T = true) : ∀ (l : List Oper) (k : Nat) (listed : Array Bool) (a : Act) (w : World), k0 ≤ k → k + l.length = ops.size → (∀ j, l[j]? = ops[k + j]?) →
  Region.lexFrom .any ops l.length k listed = true → Closed ops listed → listed.size = ops.size → (∀ j, j < k → listed.getD j true = true) → wpMix P ops C loud T Q k l a w → wpM P ops C loud T Q l.length listed a w
 | [], k, listed, a, w, _, hkl, _, hB, _, _, hlt, h => by
  refine ⟨fun hn => h.1 ?_, by simpa [Region.lexFrom] using hB, h.2⟩
  rcases Nat.lt_or_ge T k with h1 | h1
  ·exfalso
   have hTs : T < ops.size := by simp at hkl; omega
   have h2 := hn T (Nat.le_refl _) hTs (hTl hTs)
   rw [hlt T h1] at h2
   cases h2
  ·exact h1
 | o :: l, k, listed, a, w, hk0, hkl, hl, hB, hcl, hsz, hlt, h => by
  have h0 : ops[k]? = some o := by simpa using (hl 0).symm
  have hk : k < ops.size := (Array.getElem?_eq_some_iff.1 h0).1
  simp only [List.length_cons, Region.lexFrom, Bool.and_eq_true] at hB
  obtain ⟨⟨hr, hf⟩, hB'⟩ := hB
  have hr' : k ∈ Region.ready .any ops listed := by simpa using hr
  have rec_ : ∀ a w, wpMix P ops C loud T Q (k + 1) l a w → wpM P ops C loud T Q l.length (listed.setIfInBounds k true) a w := fun a w hh =>
   wpM_lexG hs hsp htl hTl l (k + 1) _ a w (by omega) (by simp at hkl; omega) (fun j => by have := hl (j + 1); simpa [Nat.add_assoc, Nat.add_comm 1 j] using this) hB' (hcl.set hr') (by simpa using hsz) (fun j hj => by
    by_cases hjk : k = j
    ·subst hjk
     have hlt' : k < listed.size := by omega
     simp [hlt']
    ·rw [getD_set_ne true hjk]; exact hlt j (by omega)) hh
  obtain ⟨hC, hh⟩ := h
  have hle : Need ops loud T listed → k ≤ T := fun hn => by
   rcases Nat.lt_or_ge T k with h1 | h1
   ·exfalso
    have h2 := hn T (Nat.le_refl _) (by omega) (hTl (by omega))
    rw [hlt T h1] at h2
    cases h2
   ·exact h1
  have hst : mOp P ops C loud k (wpMix P ops C loud T Q (k + 1) l) a w := by
   unfold mOp
   rw [h0]
   exact hh
  cases hlk : loud k with
  | false =>
   obtain ⟨v, hy, hK⟩ := yields_of_mOp h0 hlk hst
   exact wpM_first h0 hlk (Region.noSelect_spec hs) l.length listed a w (fun hn => hC (hle hn)) hcl hsz (Region.free_spec h0 hf) hr' hy (rec_ _ _ hK)
  | true =>
   refine wpM_loud (n := n) htl h0 (Region.noSelect_spec hs) l.length listed a w (fun j hj hjk hlj hun => ?_) hcl hsz (fun hn => hC (hle hn)) (Region.free_spec h0 hf) hr' (mOp_mono rec_ hst)
   ·have hkj : k < j := by
     rcases Nat.lt_trichotomy k j with h1 | h1 | h1
     ·exact h1
     ·exact absurd h1.symm hjk
     ·rw [hlt j h1] at hun; cases hun
    exact hsp k j hk0 hk hj hlk hlj hkj
/-- The walk, of which p and the operation behind it are taken in both orders. -/
def wpPair (P : Program) (ops : Array Oper) (C : World → Prop) (loud : Nat → Bool) (T : Nat) (Q : Act → World → Prop) (p : Nat) (rest : List Oper) (a : Act) (w : World) : Prop :=
 C w ∧ mOp P ops C loud p (fun a w => C w ∧ mOp P ops C loud (p + 1) (wpMix P ops C loud T Q (p + 2) rest) a w) a w ∧ mOp P ops C loud (p + 1) (fun a w => C w ∧ mOp P ops C loud p (wpMix P ops C loud T Q (p + 2) rest) a w) a w
def wpMixP (P : Program) (ops : Array Oper) (C : World → Prop) (loud : Nat → Bool) (T : Nat) (Q : Act → World → Prop) (p : Nat) : Nat → List Oper → Act → World → Prop
 | _, [], _, _ => False
 | k, _ :: rest, a, w => if k = p then wpPair P ops C loud T Q p (rest.drop 1) a w else (k ≤ T → C w) ∧ mOp P ops C loud k (wpMixP P ops C loud T Q p (k + 1) rest) a w
end
/-- One operation of such a region, whatever stands behind it. -/
def Op1 (E : Env) (ops : Array Oper) (T n0 k : Nat) (o : Oper) (s : St) (Ks : St → Prop) : Prop :=
 ∀ (base : Bs) (K : Act → World → Prop) (w0 : World) (Z : Nat → Prop) (R0 : List RI) (h0 : Hp) (a : Act) (w : World) (R : List RI), HR w0 Z R0 h0 → n0 = h0.length → SR E base w Z R s a → w0.grownBy w none → Step w0 Z R0 h0 w Z R s.hp → (∀ (b : Nat) (B : Option Blk), h0[b]? = some B → s.hp[b]? = some B) → ops[k]? = some o →
  (∀ s' a' w' R', Ks s' → SR E base w' Z R' s' a' → w0.grownBy w' none → Step w0 Z R0 h0 w' Z R' s'.hp → (∀ (b : Nat) (B : Option Blk), h0[b]? = some B → s'.hp[b]? = some B) → K a' w') → mOp E.P ops (fun w' => w0.grownBy w' none) (loudT ops T) k K a w
def RunDP (E : Env) (ops : Array Oper) (T p n0 k : Nat) (rest : List Oper) (s : St) (K : St → Prop) : Prop :=
 ∀ (base : Bs) (Q : Act → World → Prop) (w0 : World) (Z : Nat → Prop) (R0 : List RI) (h0 : Hp) (a : Act) (w : World) (R : List RI), HR w0 Z R0 h0 → n0 = h0.length → SR E base w Z R s a → w0.grownBy w none → Step w0 Z R0 h0 w Z R s.hp → (∀ (b : Nat) (B : Option Blk), h0[b]? = some B → s.hp[b]? = some B) → (∀ j, rest[j]? = ops[k + j]?) →
  (∀ s' a' w' Z' R', K s' → SR E base w' Z' R' s' a' → StepW w0 Z R0 h0 w' Z' R' s'.hp → Q a' w') → wpMixP E.P ops (fun w' => w0.grownBy w' none) (loudT ops T) T Q p k rest a w
section
variable {E : Env} {cx : Cx} {ops : Array Oper} {pre rest rest' : List Oper} {s s1 : St} {K Ks : St → Prop} {n n0 k T p : Nat} {l : List (Nat × AV)} {hp hp' : Hp} {Q : Ex → St → Prop} {id : Nat} {fid : FuncId} {o : Oper}
theorem opsD_cons (hW : isW o.op = false) (e : opsD E (evC E 0) ⟨none, false⟩ ops n0 (o :: pre) s = some s1) : ∃ s2, opsD E (evC E 0) ⟨none, false⟩ ops n0 [o] s = some s2 ∧ opsD E (evC E 0) ⟨none, false⟩ ops n0 pre s2 = some s1 := by
 have hW' : ¬ isW o.op = true := by rw [hW]; simp
 unfold opsD at e
 rw [if_neg hW'] at e
 split at e
 ·cases e
 ·next hw => exact ⟨_, by unfold opsD; rw [if_neg hW']; simp only [hw]; rfl, e⟩
 ·next hw =>
  split at e
  ·next x hx =>
   split at e
   ·next hld => exact ⟨_, by unfold opsD; rw [if_neg hW']; simp only [hw, hx, hld, if_true]; rfl, e⟩
   ·cases e
  ·next hx =>
   split at e
   ·next x h' hn => exact ⟨_, by unfold opsD; rw [if_neg hW']; simp only [hw, hx, hn]; rfl, e⟩
   ·next hn =>
    split at e
    ·next f args tys ho =>
     split at e
     ·next fv xs hf hxs =>
      split at e
      ·next r hr => exact ⟨_, by unfold opsD; rw [if_neg hW']; simp only [hw, hx, hn, ho, hf, hxs, hr]; rfl, e⟩
      ·cases e
     ·cases e
    ·cases e
theorem Op1.d (hE : EnvOk E) (hW : isW o.op = false) (hk : k < T) (e : opsD E (evC E 0) ⟨none, false⟩ ops n0 [o] s = some s1) (kk : Ks s1) : Op1 E ops T n0 k o s Ks := by
 intro base K w0 Z R0 h0 a w R hh0 hn0 sr hgr st hpre hok q
 have hkT : ¬ T ≤ k := by omega
 unfold mOp
 rw [hok]
 dsimp only
 unfold opsD at e
 rw [if_neg (by rw [hW]; simp)] at e
 split at e
 ·cases e
 ·next hw =>
  rw [if_neg (by rw [wantedA_eq sr hw]; simp)]
  injection e with e
  subst e
  exact q _ _ w R kk (sr.put undef_vr) hgr st hpre
 ·next hw =>
  rw [if_pos (wantedA_eq sr hw)]
  have hρ : ∀ o x, opA E s.fr o = some x → VR w Z R x (a.eval o) := fun o x e => opA_vr sr o x e
  split at e
  ·next x hx =>
   split at e
   ·next hld =>
    injection e with e
    subst e
    have hq := isQ_of hx
    rw [if_neg (by rw [loudT_q hok hq hkT]; simp)]
    obtain ⟨u, hu, hrun⟩ := evOpQ_sound sr.hh hρ hx
    have hquiet : ∃ u, VR w Z R x u ∧ QuietAt E.P (Cf (fun w' => w0.grownBy w' none) o) o u a := by
     cases hl : isLd o.op with
     | false => exact ⟨u, hu, fun w' _ => hrun w' fun h => by rw [hl] at h; cases h⟩
     | true =>
      obtain ⟨u1, hu1, hq1⟩ := load_quiet hh0 sr hgr st hpre hl (by rw [← hn0]; exact hld) hx
      exact ⟨u1, hu1, hq1.up (free_ld hl)⟩
    obtain ⟨u, hu, hquiet⟩ := hquiet
    exact ⟨u, hquiet, q _ _ w R kk (sr.put hu) hgr st hpre⟩
   ·cases e
  ·split at e
   ·next x h' hx =>
    injection e with e
    subst e
    have hq := isQ_of_N hx
    rw [if_pos (loudT_n hok hq)]
    obtain ⟨u, w', R', h1, h2, h3, h4, h5⟩ := evOpN_sound hρ sr.hh hx
    exact lw_val h1 (q _ _ w' R' kk ((sr.step h2 h4).put h3) (pu_trans hgr h5) (st.trans h4) fun b B hb => evOpN_pre hx (hpre b B hb))
   ·split at e
    ·next f args tys ho =>
     split at e
     ·next fv xs hf hxs =>
      split at e
      ·next r hr =>
       injection e with e
       subst e
       obtain ⟨x, h'⟩ := r
       have hq : isQ o.op = false := by rw [ho]; rfl
       rw [if_pos (loudT_n hok hq)]
       obtain ⟨g, uf, uc, hva, hcl, hret⟩ := callP_sound hE (code_sound hE 0).1 (hρ _ _ hf) (opds_vr hρ hxs) sr.hh sr.gl hr
       unfold Lw
       rw [run_call (uf := uf) (uc := uc) ho hva rfl hcl w]
       refine Ret.mono hret fun v w' hS => ?_
       obtain ⟨hg1, R', k1, k2, k3⟩ := hS
       exact q _ _ w' R' kk ((sr.step k1 k3).put k2) (pu_trans hgr hg1) (st.trans k3) fun b B hb => callP_pre hr (hpre b B hb)
      ·cases e
     ·cases e
    ·cases e
theorem Op1.one (hE : EnvOk E) (hW : (!isW o.op && Nat.blt k T) = true) (h : opsD E (evC E 0) ⟨none, false⟩ ops n0 [o] s = some s1) (kk : Ks s1) : Op1 E ops T n0 k o s Ks := by
 simp only [Bool.and_eq_true, Bool.not_eq_true'] at hW
 exact Op1.d hE hW.1 (Nat.le_of_ble_eq_true hW.2) h kk
/-- The walk up to the two. -/
theorem RunDP.app (hE : EnvOk E) : ∀ {pre : List Oper} {s : St} {k : Nat}, (pre.all fun o => !isW o.op) = true → k + pre.length ≤ p → p + 2 ≤ T → opsD E (evC E 0) ⟨none, false⟩ ops n0 pre s = some s1 → RunDP E ops T p n0 (k + pre.length) rest s1 K → RunDP E ops T p n0 k (pre ++ rest) s K
 | [], s, k, _, _, _, e, kk => by injection e with e; subst e; exact kk
 | o :: pre, s, k, hp, hT, hpT, e, kk => by
  intro base Q w0 Z R0 h0 a w R hh0 hn0 sr hgr st hpre hops q
  simp only [List.all_cons, Bool.and_eq_true, Bool.not_eq_true'] at hp
  obtain ⟨hW, hp⟩ := hp
  obtain ⟨s2, e1, e2⟩ := opsD_cons hW e
  have hok : ops[k]? = some o := by have := hops 0; simpa using this.symm
  have hops' : ∀ j, (pre ++ rest)[j]? = ops[k + 1 + j]? := fun j => by have := hops (j + 1); simpa [Nat.add_assoc, Nat.add_comm 1 j] using this
  have hk1 : k + 1 + pre.length = k + (o :: pre).length := by simp; omega
  have kk' : RunDP E ops T p n0 (k + 1 + pre.length) rest s1 K := by rw [hk1]; exact kk
  simp only [List.length_cons] at hT
  show wpMixP E.P ops _ _ _ Q p k (o :: (pre ++ rest)) a w
  unfold wpMixP
  rw [if_neg (by omega)]
  refine ⟨fun _ => hgr, ?_⟩
  refine Op1.d (Ks := fun s => s = s2) hE hW (by omega) e1 rfl base _ w0 Z R0 h0 a w R hh0 hn0 sr hgr st hpre hok fun s' a' w' R' hs sr' hg' st' hp' => ?_
  subst hs
  exact RunDP.app hE hp (by omega) hpT e2 kk' base Q w0 Z R0 h0 a' w' R' hh0 hn0 sr' hg' st' hp' hops' q
theorem RunDP.one (hE : EnvOk E) (hr : rest = o :: rest') (hW : (!isW o.op && Nat.blt k p && Nat.ble (p + 2) T) = true) (h : opsD E (evC E 0) ⟨none, false⟩ ops n0 [o] s = some s1) (kk : RunDP E ops T p n0 (k + 1) rest' s1 K) : RunDP E ops T p n0 k rest s K := by
 subst hr
 simp only [Bool.and_eq_true] at hW
 exact RunDP.app (k := k) hE (pre := [o]) (by simpa using hW.1.1) (by have := Nat.le_of_ble_eq_true hW.1.2; simpa using this) (Nat.le_of_ble_eq_true hW.2) h kk
/-- The two, in both orders. -/
theorem RunDP.two {o1 o2 : Oper} (hr : rest = o1 :: o2 :: rest') (hA : Op1 E ops T n0 p o1 s fun s1 => Op1 E ops T n0 (p + 1) o2 s1 fun s2 => RunDX E ops T n0 (p + 2) rest' s2 K) (hB : Op1 E ops T n0 (p + 1) o2 s fun s1 => Op1 E ops T n0 p o1 s1 fun s2 => RunDX E ops T n0 (p + 2) rest' s2 K) : RunDP E ops T p n0 p rest s K := by
 subst hr
 intro base Q w0 Z R0 h0 a w R hh0 hn0 sr hgr st hpre hops q
 have hk1 : ops[p]? = some o1 := by have := hops 0; simpa using this.symm
 have hk2 : ops[p + 1]? = some o2 := by have := hops 1; simpa using this.symm
 have hops' : ∀ j, rest'[j]? = ops[p + 2 + j]? := fun j => by have := hops (j + 2); rw [show p + 2 + j = p + (j + 2) by omega]; simpa using this
 unfold wpMixP
 rw [if_pos rfl]
 refine ⟨hgr, ?_, ?_⟩
 ·refine hA base _ w0 Z R0 h0 a w R hh0 hn0 sr hgr st hpre hk1 fun s1 a1 w1 R1 h1 sr1 hg1 st1 hp1 => ⟨hg1, ?_⟩
  exact h1 base _ w0 Z R0 h0 a1 w1 R1 hh0 hn0 sr1 hg1 st1 hp1 hk2 fun s2 a2 w2 R2 h2 sr2 hg2 st2 hp2 => h2 base Q w0 Z R0 h0 a2 w2 R2 hh0 hn0 sr2 hg2 st2 hp2 hops' q
 ·refine hB base _ w0 Z R0 h0 a w R hh0 hn0 sr hgr st hpre hk2 fun s1 a1 w1 R1 h1 sr1 hg1 st1 hp1 => ⟨hg1, ?_⟩
  exact h1 base _ w0 Z R0 h0 a1 w1 R1 hh0 hn0 sr1 hg1 st1 hp1 hk1 fun s2 a2 w2 R2 h2 sr2 hg2 st2 hp2 => h2 base Q w0 Z R0 h0 a2 w2 R2 hh0 hn0 sr2 hg2 st2 hp2 hops' q
end
section
variable {P : Program} {ops : Array Oper} {C : World → Prop} {Q : Act → World → Prop} {loud : Nat → Bool} {T : Nat}
/-- Loud operations that may come up now: one of them is the first loud one, if every other stands behind one of them. -/
theorem wpM_loudL {n : Nat} (L : List Nat) (hL : L ≠ []) (ht : TailOk ops loud T n) (hin : ∀ i ∈ L, ∃ o, ops[i]? = some o) (hsel : ∀ (j : Nat) (o : Oper) cs b, ops[j]? = some o → o.op ≠ .select cs b) :
  ∀ (fuel : Nat) (listed : Array Bool) (a : Act) (w : World), (∀ j, j < ops.size → j ∉ L → loud j = true → listed.getD j true = false → ∃ i ∈ L, waitsT ops n j i = true) → Closed ops listed → listed.size = ops.size → (Need ops loud T listed → C w) →
   (∀ i ∈ L, ∀ oi, ops[i]? = some oi → ∀ j oj, ops[j]? = some oj → j ≠ i → listed.getD j true = false → (∀ e ∈ oj.after, Region.binds .any e = true → e.on ≠ i) → oi.apart ops oj = true) →
   (∀ i ∈ L, i ∈ Region.ready .any ops listed) →
   (∀ i ∈ L, mOp P ops C loud i (wpM P ops C loud T Q fuel (listed.setIfInBounds i true)) a w) → wpM P ops C loud T Q (fuel + 1) listed a w := by
 intro fuel
 obtain ⟨i0, hi0⟩ := List.exists_mem_of_ne_nil L hL
 obtain ⟨o0, ho0⟩ := hin i0 hi0
 induction fuel with
 | zero =>
  intro listed a w _ _ _ hC _ hr H
  refine ⟨hC, fun h => (by have := hr i0 hi0; rw [h] at this; cases this), fun j hj => ?_⟩
  by_cases hji : j ∈ L
  ·exact H j hji
  ·obtain ⟨u, w', h1⟩ := mOp_meets ho0 (H i0 hi0)
   have := ready_mono hj (fun e => hji (e ▸ hi0))
   rw [h1.2.1] at this
   cases this
 | succ fuel ih =>
  intro listed a w hT hcl hsz hC hfree hr H
  refine ⟨hC, fun h => (by have := hr i0 hi0; rw [h] at this; cases this), fun j hj => ?_⟩
  by_cases hji : j ∈ L
  ·exact H j hji
  obtain ⟨hjun, oj, hoj, hall⟩ := mem_ready.1 hj
  have hnl : ∀ i ∈ L, ¬ listed.getD i false = true := fun i hi h1 => by
   obtain ⟨ox, hx⟩ := hin i hi
   have hun := (mem_ready.1 (hr i hi)).1
   have hlt : i < ops.size := (Array.getElem?_eq_some_iff.1 hx).1
   have h' : i < listed.size := by omega
   simp [h'] at hun h1; rw [hun] at h1; cases h1
  have hne : ∀ i ∈ L, j ≠ i := fun i hi e => hji (e ▸ hi)
  have hnot : ∀ i ∈ L, ∀ e ∈ oj.after, Region.binds .any e = true → e.on ≠ i := fun i hi e he hb heq => hnl i hi (by rw [← heq]; exact hall e he hb)
  have hjlt : j < ops.size := (Array.getElem?_eq_some_iff.1 hoj).1
  have hlj : loud j = false := by
   cases hlj : loud j with
   | false => rfl
   | true =>
    obtain ⟨i, hi, hw⟩ := hT j hjlt hji hlj hjun
    exact absurd (waitsT_spec hcl n j i hw fun o ho e he hb => by rw [hoj] at ho; injection ho with ho; subst ho; exact hall e he hb) (hnl i hi)
  have ap : ∀ i ∈ L, ∀ oi, ops[i]? = some oi → oi.apart ops oj = true := fun i hi oi hoi => hfree i hi oi hoi j oj hoj (hne i hi) hjun (hnot i hi)
  have hun' : ∀ k, (listed.setIfInBounds j true).getD k true = false → listed.getD k true = false := fun k hun => by
   by_cases hjk : j = k
   ·subst hjk; exact hjun
   ·rw [getD_set_ne true hjk] at hun; exact hun
  have hCw : Need ops loud T (listed.setIfInBounds j true) → C w := fun hn => hC fun k hTk hk hlk => hun' k (hn k hTk hk hlk)
  obtain ⟨ap1, ap2, ap3⟩ := Oper.apart_spec (ap i0 hi0 o0 ho0)
  obtain ⟨u, w', h1⟩ := mOp_meets ho0 (H i0 hi0)
  obtain ⟨v, hy, _⟩ := yields_of_mOp hoj hlj (h1.2.2 j (ready_mono hj (hne i0 hi0)))
  have hya : YieldsM P ops C oj v a := hy.same (execOp_put oj (fun cs b => hsel j oj cs b hoj) _ o0.dst u ap1).symm (wanted_put oj _ o0.dst u ap1).symm
  refine hya.mOp hoj hlj ?_
  exact ih (listed.setIfInBounds j true) (a.put oj.dst v) w (fun k hk h1 h2 h3 => hT k hk h1 h2 (hun' k h3)) (hcl.set hj) (by simpa using hsz) hCw (fun i hi oi hoi k ok hk h1 h2 h3 => hfree i hi oi hoi k ok hk h1 (hun' k h2) h3) (fun i hi => ready_mono (hr i hi) (Ne.symm (hne i hi)))
   (fun i hi => by
    obtain ⟨oi, hoi⟩ := hin i hi
    obtain ⟨bp1, bp2, bp3⟩ := Oper.apart_spec (ap i hi oi hoi)
    exact mOp_after ht hoi hoj hsel hcl hsz bp1 bp2 bp3 (hr i hi) hj (hne i hi) hlj hya (H i hi))
/-- What holds of the region throughout. -/
structure MOk (ops : Array Oper) (T : Nat) : Prop where
 ns : Region.noSelect ops = true
 tl : TailOk ops (loudT ops T) T ops.size
 tT : T < ops.size → loudT ops T T = true
/-- What is checked of an operation that may come up now. -/
def readyB (ops : Array Oper) (m : List Bool) (i : Nat) : Bool := (Region.ready .any ops m.toArray).contains i && Region.free .any ops m.toArray i
def loudLB (ops : Array Oper) (T : Nat) (m : List Bool) (L : List Nat) : Bool :=
 (L.all fun i => readyB ops m i) && (List.range ops.size).all fun j => L.contains j || !loudT ops T j || m.toArray.getD j true || L.any fun i => waitsT ops ops.size j i
def tailMB (ops : Array Oper) (T p f : Nat) (m : List Bool) : Bool :=
 Nat.beq (p + f) ops.size && Region.lexFrom .any ops f p m.toArray && ((List.range p).all fun j => m.toArray.getD j true) && (List.range ops.size).all fun k => !(Nat.ble p k && loudT ops T k) || (List.range ops.size).all fun j => !(Nat.blt k j && loudT ops T j) || waitsT ops ops.size j k
end
def RunM (E : Env) (ops : Array Oper) (T n0 f : Nat) (m : List Bool) (s : St) (K : St → Prop) : Prop :=
 ∀ (base : Bs) (Q : Act → World → Prop) (w0 : World) (Z : Nat → Prop) (R0 : List RI) (h0 : Hp) (a : Act) (w : World) (R : List RI), MOk ops T → Closed ops m.toArray → m.length = ops.size → HR w0 Z R0 h0 → n0 = h0.length → SR E base w Z R s a → w0.grownBy w none → Step w0 Z R0 h0 w Z R s.hp → (∀ (b : Nat) (B : Option Blk), h0[b]? = some B → s.hp[b]? = some B) →
  (∀ s' a' w' Z' R', K s' → SR E base w' Z' R' s' a' → StepW w0 Z R0 h0 w' Z' R' s'.hp → Q a' w') → wpM E.P ops (fun w' => w0.grownBy w' none) (loudT ops T) T Q f m.toArray a w
section
variable {E : Env} {cx : Cx} {ops : Array Oper} {s s1 : St} {K : St → Prop} {n0 f T i j k : Nat} {m : List Bool} {Q : Ex → St → Prop} {id : Nat} {o o2 o3 : Oper}
theorem set_mark (m : List Bool) (i : Nat) : m.toArray.setIfInBounds i true = (m.set i true).toArray := by simp
/-- An operation that is quiet. -/
theorem RunM.q (i : Nat) (hq : (readyB ops m i && !loudT ops T i) = true) (ho : ops[i]? = some o) (h : Op1 E ops T n0 i o s fun s' => RunM E ops T n0 f (m.set i true) s' K) : RunM E ops T n0 (f + 1) m s K := by
 intro base Q w0 Z R0 h0 a w R hM hcl hsz hh0 hn0 sr hgr st hpre q
 unfold readyB at hq
 simp only [Bool.and_eq_true, Bool.not_eq_true'] at hq
 obtain ⟨⟨hr, hf⟩, hl⟩ := hq
 have hr' : i ∈ Region.ready .any ops m.toArray := by simpa using hr
 have hst := h base (fun a w => wpM E.P ops (fun w' => w0.grownBy w' none) (loudT ops T) T Q f (m.set i true).toArray a w) w0 Z R0 h0 a w R hh0 hn0 sr hgr st hpre ho fun s' a' w' R' hk sr' hg' st' hp' =>
  hk base Q w0 Z R0 h0 a' w' R' hM (by rw [← set_mark]; exact hcl.set hr') (by simpa using hsz) hh0 hn0 sr' hg' st' hp' q
 obtain ⟨v, hy, hK⟩ := yields_of_mOp ho hl hst
 refine wpM_first ho hl (Region.noSelect_spec hM.ns) f m.toArray a w (fun _ => hgr) hcl (by simpa using hsz) (Region.free_spec ho hf) hr' hy ?_
 rw [set_mark]
 exact hK
/-- The loud ones that may come up now: each of them. -/
theorem RunM.loud (L : List Nat) (hne : L ≠ []) (hl : loudLB ops T m L = true) (h : ∀ i ∈ L, ∃ o, ops[i]? = some o ∧ Op1 E ops T n0 i o s fun s' => RunM E ops T n0 f (m.set i true) s' K) : RunM E ops T n0 (f + 1) m s K := by
 intro base Q w0 Z R0 h0 a w R hM hcl hsz hh0 hn0 sr hgr st hpre q
 unfold loudLB at hl
 simp only [Bool.and_eq_true] at hl
 obtain ⟨h1, h2⟩ := hl
 have hr : ∀ i ∈ L, i ∈ Region.ready .any ops m.toArray ∧ Region.free .any ops m.toArray i = true := fun i hi => by
  have := List.all_eq_true.1 h1 i hi
  unfold readyB at this
  simp only [Bool.and_eq_true] at this
  exact ⟨by simpa using this.1, this.2⟩
 refine wpM_loudL (n := ops.size) L hne hM.tl (fun i hi => ⟨_, (h i hi).choose_spec.1⟩) (Region.noSelect_spec hM.ns) f m.toArray a w (fun j hj hjL hlj hun => ?_) hcl (by simpa using hsz) (fun _ => hgr) (fun i hi oi hoi => Region.free_spec hoi (hr i hi).2) (fun i hi => (hr i hi).1) fun i hi => ?_
 ·have := List.all_eq_true.1 h2 j (by simpa using hj)
  simp only [Bool.or_eq_true, Bool.not_eq_true', List.any_eq_true] at this
  rcases this with ((h3 | h3) | h3) | h3
  ·exact absurd (by simpa using h3) hjL
  ·rw [hlj] at h3; cases h3
  ·rw [hun] at h3; cases h3
  ·exact h3
 ·obtain ⟨o, ho, hop⟩ := h i hi
  rw [set_mark]
  exact hop base (fun a w => wpM E.P ops (fun w' => w0.grownBy w' none) (loudT ops T) T Q f (m.set i true).toArray a w) w0 Z R0 h0 a w R hh0 hn0 sr hgr st hpre ho fun s' a' w' R' hk sr' hg' st' hp' =>
   hk base Q w0 Z R0 h0 a' w' R' hM (by rw [← set_mark]; exact hcl.set (hr i hi).1) (by simpa using hsz) hh0 hn0 sr' hg' st' hp' q
/-- What is left stands in one order. -/
theorem RunM.tail (p : Nat) (hp : tailMB ops T p f m = true) (h : RunDX E ops T n0 p (ops.toList.drop p) s K) : RunM E ops T n0 f m s K := by
 intro base Q w0 Z R0 h0 a w R hM hcl hsz hh0 hn0 sr hgr st hpre q
 unfold tailMB at hp
 simp only [Bool.and_eq_true] at hp
 obtain ⟨⟨⟨h1, h2⟩, h3⟩, h4⟩ := hp
 have h1 := Nat.eq_of_beq_eq_true h1
 have hlen : (ops.toList.drop p).length = f := by simp; omega
 have hops : ∀ j, (ops.toList.drop p)[j]? = ops[p + j]? := fun j => by simp
 have := wpM_lexG hM.ns (n := ops.size) (k0 := p) (fun k j hk hks hj hlk hlj hkj => ?_) hM.tl hM.tT (ops.toList.drop p) p m.toArray a w (Nat.le_refl _) (by omega) hops (by rw [hlen]; exact h2) hcl (by simpa using hsz) (fun j hj => List.all_eq_true.1 h3 j (by simpa using hj)) (h base Q w0 Z R0 h0 a w R hh0 hn0 sr hgr st hpre hops q)
 ·rwa [hlen] at this
 ·have a1 := List.all_eq_true.1 h4 k (by simpa using hks)
  simp only [hlk, Nat.ble_eq_true_of_le hk, Bool.and_self, Bool.not_true, Bool.false_or] at a1
  have a2 := List.all_eq_true.1 a1 j (by simpa using hj)
  have hb : Nat.blt k j = true := Nat.ble_eq_true_of_le hkj
  simpa [hlj, hb] using a2
end
/-- As Op1, of an operation behind which nothing is read any more. -/
def OpZ (E : Env) (ops : Array Oper) (T k : Nat) (o : Oper) (s : St) (Ks : St → Prop) : Prop :=
 ∀ (base : Bs) (K : Act → World → Prop) (w0 : World) (Z : Nat → Prop) (a : Act) (w : World) (R : List RI), SR E base w Z R s a → w0.grownBy w none → ops[k]? = some o →
  (∀ s' a' w' Z' R', Ks s' → SR E base w' Z' R' s' a' → w0.grownBy w' none → StepW w Z R s.hp w' Z' R' s'.hp → K a' w') → mOp E.P ops (fun w' => w0.grownBy w' none) (loudT ops T) k K a w
def RunZ (E : Env) (ops : Array Oper) (T f : Nat) (m : List Bool) (s : St) (K : St → Prop) : Prop :=
 ∀ (base : Bs) (Q : Act → World → Prop) (w0 : World) (Z : Nat → Prop) (a : Act) (w : World) (R : List RI), MOk ops T → Closed ops m.toArray → m.length = ops.size → SR E base w Z R s a → w0.grownBy w none →
  (∀ s' a' w' Z' R', K s' → SR E base w' Z' R' s' a' → StepW w Z R s.hp w' Z' R' s'.hp → Q a' w') → wpM E.P ops (fun w' => w0.grownBy w' none) (loudT ops T) T Q f m.toArray a w
section
variable {E : Env} {cx : Cx} {ops : Array Oper} {s s1 : St} {K Ks : St → Prop} {n n0 f T i j k : Nat} {m : List Bool} {o o2 o3 : Oper} {l : List (Nat × AV)} {hp : Hp} {fid : FuncId}
theorem OpZ.d (hE : EnvOk E) (hW : isW o.op = false) (hLd : isLd o.op = false) (hk : k < T) (e : opsD E (evC E 0) ⟨none, false⟩ ops n0 [o] s = some s1) (kk : Ks s1) : OpZ E ops T k o s Ks := by
 intro base K w0 Z a w R sr hgr hok q
 have hkT : ¬ T ≤ k := by omega
 unfold mOp
 rw [hok]
 dsimp only
 unfold opsD at e
 rw [if_neg (by rw [hW]; simp)] at e
 split at e
 ·cases e
 ·next hw =>
  rw [if_neg (by rw [wantedA_eq sr hw]; simp)]
  injection e with e
  subst e
  exact q _ _ w Z R kk (sr.put undef_vr) hgr (StepW.refl _ _ _ _)
 ·next hw =>
  rw [if_pos (wantedA_eq sr hw)]
  have hρ : ∀ o x, opA E s.fr o = some x → VR w Z R x (a.eval o) := fun o x e => opA_vr sr o x e
  split at e
  ·next x hx =>
   split at e
   ·injection e with e
    subst e
    have hq := isQ_of hx
    rw [if_neg (by rw [loudT_q hok hq hkT]; simp)]
    obtain ⟨u, hu, hrun⟩ := evOpQ_sound sr.hh hρ hx
    exact ⟨u, (fun w' _ => hrun w' fun h => by rw [hLd] at h; cases h), q _ _ w Z R kk (sr.put hu) hgr (StepW.refl _ _ _ _)⟩
   ·cases e
  ·split at e
   ·next x h' hx =>
    injection e with e
    subst e
    have hq := isQ_of_N hx
    rw [if_pos (loudT_n hok hq)]
    obtain ⟨u, w', R', h1, h2, h3, h4, h5⟩ := evOpN_sound hρ sr.hh hx
    exact lw_val h1 (q _ _ w' Z R' kk ((sr.step h2 h4).put h3) (pu_trans hgr h5) h4.w)
   ·split at e
    ·next f args tys ho =>
     split at e
     ·next fv xs hf hxs =>
      split at e
      ·next r hr =>
       injection e with e
       subst e
       obtain ⟨x, h'⟩ := r
       have hq : isQ o.op = false := by rw [ho]; rfl
       rw [if_pos (loudT_n hok hq)]
       obtain ⟨g, uf, uc, hva, hcl, hret⟩ := callP_sound hE (code_sound hE 0).1 (hρ _ _ hf) (opds_vr hρ hxs) sr.hh sr.gl hr
       unfold Lw
       rw [run_call (uf := uf) (uc := uc) ho hva rfl hcl w]
       refine Ret.mono hret fun v w' hS => ?_
       obtain ⟨hg1, R', k1, k2, k3⟩ := hS
       exact q _ _ w' Z R' kk ((sr.step k1 k3).put k2) (pu_trans hgr hg1) k3.w
      ·cases e
     ·cases e
    ·cases e
theorem OpZ.one (hE : EnvOk E) (hW : (!isW o.op && !isLd o.op && Nat.blt k T) = true) (h : opsD E (evC E 0) ⟨none, false⟩ ops 0 [o] s = some s1) (kk : Ks s1) : OpZ E ops T k o s Ks := by
 simp only [Bool.and_eq_true, Bool.not_eq_true'] at hW
 exact OpZ.d hE hW.1.1 hW.1.2 (Nat.le_of_ble_eq_true hW.2) h kk
theorem RunM.z (h : RunZ E ops T f m s K) : RunM E ops T n0 f m s K := fun base Q w0 Z _ _ a w R hM hcl hsz _ _ sr hgr st _ q => h base Q w0 Z a w R hM hcl hsz sr hgr fun s' a' w' Z' R' hK sr' st' => q s' a' w' Z' R' hK sr' (st.w.trans st')
theorem RunZ.q (i : Nat) (hq : (readyB ops m i && !loudT ops T i) = true) (ho : ops[i]? = some o) (h : OpZ E ops T i o s fun s' => RunZ E ops T f (m.set i true) s' K) : RunZ E ops T (f + 1) m s K := by
 intro base Q w0 Z a w R hM hcl hsz sr hgr q
 unfold readyB at hq
 simp only [Bool.and_eq_true, Bool.not_eq_true'] at hq
 obtain ⟨⟨hr, hf⟩, hl⟩ := hq
 have hr' : i ∈ Region.ready .any ops m.toArray := by simpa using hr
 have hst := h base (fun a w => wpM E.P ops (fun w' => w0.grownBy w' none) (loudT ops T) T Q f (m.set i true).toArray a w) w0 Z a w R sr hgr ho fun s' a' w' Z' R' hk sr' hg' st' =>
  hk base Q w0 Z' a' w' R' hM (by rw [← set_mark]; exact hcl.set hr') (by simpa using hsz) sr' hg' fun s2 a2 w2 Z2 R2 hK sr2 st2 => q s2 a2 w2 Z2 R2 hK sr2 (st'.trans st2)
 obtain ⟨v, hy, hK⟩ := yields_of_mOp ho hl hst
 refine wpM_first ho hl (Region.noSelect_spec hM.ns) f m.toArray a w (fun _ => hgr) hcl (by simpa using hsz) (Region.free_spec ho hf) hr' hy ?_
 rw [set_mark]
 exact hK
theorem RunZ.loud (L : List Nat) (hne : L ≠ []) (hl : loudLB ops T m L = true) (h : ∀ i ∈ L, ∃ o, ops[i]? = some o ∧ OpZ E ops T i o s fun s' => RunZ E ops T f (m.set i true) s' K) : RunZ E ops T (f + 1) m s K := by
 intro base Q w0 Z a w R hM hcl hsz sr hgr q
 unfold loudLB at hl
 simp only [Bool.and_eq_true] at hl
 obtain ⟨h1, h2⟩ := hl
 have hr : ∀ i ∈ L, i ∈ Region.ready .any ops m.toArray ∧ Region.free .any ops m.toArray i = true := fun i hi => by
  have := List.all_eq_true.1 h1 i hi
  unfold readyB at this
  simp only [Bool.and_eq_true] at this
  exact ⟨by simpa using this.1, this.2⟩
 refine wpM_loudL (n := ops.size) L hne hM.tl (fun i hi => ⟨_, (h i hi).choose_spec.1⟩) (Region.noSelect_spec hM.ns) f m.toArray a w (fun j hj hjL hlj hun => ?_) hcl (by simpa using hsz) (fun _ => hgr) (fun i hi oi hoi => Region.free_spec hoi (hr i hi).2) (fun i hi => (hr i hi).1) fun i hi => ?_
 ·have := List.all_eq_true.1 h2 j (by simpa using hj)
  simp only [Bool.or_eq_true, Bool.not_eq_true', List.any_eq_true] at this
  rcases this with ((h3 | h3) | h3) | h3
  ·exact absurd (by simpa using h3) hjL
  ·rw [hlj] at h3; cases h3
  ·rw [hun] at h3; cases h3
  ·exact h3
 ·obtain ⟨o, ho, hop⟩ := h i hi
  rw [set_mark]
  exact hop base (fun a w => wpM E.P ops (fun w' => w0.grownBy w' none) (loudT ops T) T Q f (m.set i true).toArray a w) w0 Z a w R sr hgr ho fun s' a' w' Z' R' hk sr' hg' st' =>
   hk base Q w0 Z' a' w' R' hM (by rw [← set_mark]; exact hcl.set (hr i hi).1) (by simpa using hsz) sr' hg' fun s2 a2 w2 Z2 R2 hK sr2 st2 => q s2 a2 w2 Z2 R2 hK sr2 (st'.trans st2)
theorem RunZ.wk (hw : Wk E s s1) (h : RunZ E ops T f m s1 K) : RunZ E ops T f m s K := fun base Q w0 Z a w R hM hcl hsz sr hgr q => by
 obtain ⟨Z', R', sr', st⟩ := hw base w Z R a sr
 exact h base Q w0 Z' a w R' hM hcl hsz sr' hgr fun s' a' w' Z2 R2 hK sr2 st2 => q s' a' w' Z2 R2 hK sr2 (st.trans st2)
/-- The stores. -/
theorem RunZ.tail (hp : tailMB ops T T f m = true) (h : RunS E ops (ops.toList.drop T) s K) : RunZ E ops T f m s K := by
 intro base Q w0 Z a w R hM hcl hsz sr hgr q
 unfold tailMB at hp
 simp only [Bool.and_eq_true] at hp
 obtain ⟨⟨⟨h1, h2⟩, h3⟩, h4⟩ := hp
 have h1 := Nat.eq_of_beq_eq_true h1
 have hlen : (ops.toList.drop T).length = f := by simp; omega
 have hops : ∀ j, (ops.toList.drop T)[j]? = ops[T + j]? := fun j => by simp
 have := wpM_lexG (C := fun w' => w0.grownBy w' none) hM.ns (n := ops.size) (k0 := T) (fun k j hk hks hj hlk hlj hkj => ?_) hM.tl hM.tT (ops.toList.drop T) T m.toArray a w (Nat.le_refl _) (by omega) hops (by rw [hlen]; exact h2) hcl (by simpa using hsz) (fun j hj => List.all_eq_true.1 h3 j (by simpa using hj))
  (lwl_mix (h base Q a w Z R sr q) (Nat.le_refl _) (fun _ => hgr) (fun j hj => loudT_or (by omega)) hops)
 ·rwa [hlen] at this
 ·have a1 := List.all_eq_true.1 h4 k (by simpa using hks)
  simp only [hlk, Nat.ble_eq_true_of_le hk, Bool.and_self, Bool.not_true, Bool.false_or] at a1
  have a2 := List.all_eq_true.1 a1 j (by simpa using hj)
  have hb : Nat.blt k j = true := Nat.ble_eq_true_of_le hkj
  simpa [hlj, hb] using a2
end
/-- Every order of what is not free is gone through, in the world as it is. -/
def RunA (E : Env) (ops : Array Oper) (f : Nat) (m : List Bool) (s : St) (K : St → Prop) : Prop :=
 ∀ (base : Bs) (Q : Act → World → Prop) (a : Act) (w : World) (Z : Nat → Prop) (R : List RI), Region.noSelect ops = true → Closed ops m.toArray → m.length = ops.size → SR E base w Z R s a →
  (∀ s' a' w' Z' R', K s' → SR E base w' Z' R' s' a' → StepW w Z R s.hp w' Z' R' s'.hp → Q a' w') → wpM E.P ops (fun _ => True) (loudT ops 0) 0 Q f m.toArray a w
section
variable {E : Env} {cx : Cx} {ops : Array Oper} {s s1 : St} {K : St → Prop} {f i j : Nat} {m : List Bool} {Q : Ex → St → Prop} {id k : Nat} {o o2 o3 : Oper}
theorem loud0 {i : Nat} (h : loudT ops 0 i = false) : freeAt ops i = true := by
 unfold loudT at h
 simp only [Bool.or_eq_false_iff, Bool.and_eq_false_iff, Bool.not_eq_false'] at h
 rcases h.2 with h1 | h1
 ·cases h1
 ·exact h1
theorem tail0 (n : Nat) : TailOk ops (loudT ops 0) 0 n := fun j _ _ _ i _ hl hf => by rw [loud0 hl] at hf; cases hf
theorem Sem.runA (hE : EnvOk E) (f : Nat) (hb : (Region.noSelect ops && Nat.beq f ops.size) = true) (h : RunA E ops f (List.replicate f false) s fun s' => Wk E s' s1) (q : Q .normal s1) : Sem E cx (.region id ops true) s Q := by
 intro ro base Qm a w Z R _ sr _ kk
 simp only [Bool.and_eq_true] at hb
 have hf := Nat.eq_of_beq_eq_true hb.2
 have hgd : w.grownBy w.drew none := ch_drew w
 have st0 : Step w Z R s.hp w.drew Z R s.hp := ⟨rfl, rfl, rfl, Nat.le_refl _, fun c hc _ => rfl, fun _ h => .inl h, fun _ h => h, fun _ h => .inl h, fun _ _ h => h⟩
 have hsrd : SR E base w.drew Z R s a := ⟨sr.hh.keep (Nat.le_refl _) (fun c hc => hgd.block c hc (by simp)), sr.fr.off (fun c hc => rfl), sr.mks.step st0, sr.gl.off (fun c hc => rfl), sr.bs⟩
 have hrep : (List.replicate f false).toArray = Array.replicate ops.size false := by rw [hf]; simp
 have hcl : Closed ops (Array.replicate ops.size false) := fun k o hk hlis => by
  rw [getD_replicate_false] at hlis; cases hlis
 have hm := h base (fun a w => Qm .normal a w) a w.drew Z R hb.1 (by rw [hrep]; exact hcl) (by simp [hf]) hsrd (fun s' a' w' Z' R' hw sr' st => by
  obtain ⟨Z2, R2, sr2, st2⟩ := hw base w' Z' R' a' sr'
  exact kk .normal s1 a' w' Z2 R2 q sr2 ((st0.w.trans st).trans st2))
 rw [hrep, hf] at hm
 exact wpIn_region_any hE.mixed (wpAny_of_wpM (C := fun _ => True) (loud := loudT ops 0) (T := 0) (n := ops.size) (Q := fun a w => Qm .normal a w) ro 0 (tail0 _) (fun _ _ h => h) _ _ _ _ hcl (by simp) hm)
theorem RunA.q (i : Nat) (hq : (readyB ops m i && !loudT ops 0 i) = true) (ho : ops[i]? = some o) (h : RunS E ops [o] s fun s' => RunA E ops f (m.set i true) s' K) : RunA E ops (f + 1) m s K := by
 intro base Q a w Z R hns hcl hsz sr q
 unfold readyB at hq
 simp only [Bool.and_eq_true, Bool.not_eq_true'] at hq
 obtain ⟨⟨hr, hf⟩, hl⟩ := hq
 have hr' : i ∈ Region.ready .any ops m.toArray := by simpa using hr
 have hst := h base (fun a w => wpM E.P ops (fun _ => True) (loudT ops 0) 0 Q f (m.set i true).toArray a w) a w Z R sr fun s' a' w' Z' R' hk sr' st' =>
  hk base Q a' w' Z' R' hns (by rw [← set_mark]; exact hcl.set hr') (by simpa using hsz) sr' fun s2 a2 w2 Z2 R2 hK sr2 st2 => q s2 a2 w2 Z2 R2 hK sr2 (st'.trans st2)
 have hfr : isFree o = true := by have := loud0 hl; simpa [freeAt, ho] using this
 have hy : ∃ v, YieldsM E.P ops (fun _ => True) o v a ∧ wpM E.P ops (fun _ => True) (loudT ops 0) 0 Q f (m.set i true).toArray (a.put o.dst v) w := by
  unfold LwL at hst
  split at hst
  ·next hw =>
   obtain ⟨u, h1, h2⟩ := hst
   exact ⟨u, .inl ⟨hw, fun w' _ => h1 w'⟩, h2⟩
  ·next hw => exact ⟨undef, .inr ⟨by simpa using hw, rfl⟩, hst⟩
 obtain ⟨v, hy, hK⟩ := hy
 refine wpM_first ho hl (Region.noSelect_spec hns) f m.toArray a w (fun _ => trivial) hcl (by simpa using hsz) (Region.free_spec ho hf) hr' hy ?_
 rw [set_mark]
 exact hK
theorem RunA.loud (L : List Nat) (hne : L ≠ []) (hl : (loudLB ops 0 m L && L.all fun i => !freeAt ops i) = true) (h : ∀ i ∈ L, ∃ o, ops[i]? = some o ∧ RunS E ops [o] s fun s' => RunA E ops f (m.set i true) s' K) : RunA E ops (f + 1) m s K := by
 intro base Q a w Z R hns hcl hsz sr q
 simp only [Bool.and_eq_true] at hl
 obtain ⟨hl, hfr⟩ := hl
 unfold loudLB at hl
 simp only [Bool.and_eq_true] at hl
 obtain ⟨h1, h2⟩ := hl
 have hr : ∀ i ∈ L, i ∈ Region.ready .any ops m.toArray ∧ Region.free .any ops m.toArray i = true := fun i hi => by
  have := List.all_eq_true.1 h1 i hi
  unfold readyB at this
  simp only [Bool.and_eq_true] at this
  exact ⟨by simpa using this.1, this.2⟩
 refine wpM_loudL (n := ops.size) L hne (tail0 _) (fun i hi => ⟨_, (h i hi).choose_spec.1⟩) (Region.noSelect_spec hns) f m.toArray a w (fun j hj hjL hlj hun => ?_) hcl (by simpa using hsz) (fun _ => trivial) (fun i hi oi hoi => Region.free_spec hoi (hr i hi).2) (fun i hi => (hr i hi).1) fun i hi => ?_
 ·have := List.all_eq_true.1 h2 j (by simpa using hj)
  simp only [Bool.or_eq_true, Bool.not_eq_true', List.any_eq_true] at this
  rcases this with ((h3 | h3) | h3) | h3
  ·exact absurd (by simpa using h3) hjL
  ·rw [hlj] at h3; cases h3
  ·rw [hun] at h3; cases h3
  ·exact h3
 ·obtain ⟨o, ho, hop⟩ := h i hi
  have hfi : freeAt ops i = false := by simpa using List.all_eq_true.1 hfr i hi
  have hli : loudT ops 0 i = true := by
   cases hh : loudT ops 0 i with
   | true => rfl
   | false => rw [loud0 hh] at hfi; cases hfi
  have hfo : isFree o = false := by simpa [freeAt, ho] using hfi
  rw [set_mark]
  have hst := hop base (fun a w => wpM E.P ops (fun _ => True) (loudT ops 0) 0 Q f (m.set i true).toArray a w) a w Z R sr fun s' a' w' Z' R' hk sr' st' =>
   hk base Q a' w' Z' R' hns (by rw [← set_mark]; exact hcl.set (hr i hi).1) (by simpa using hsz) sr' fun s2 a2 w2 Z2 R2 hK sr2 st2 => q s2 a2 w2 Z2 R2 hK sr2 (st'.trans st2)
  unfold mOp
  rw [ho]
  dsimp only
  unfold LwL at hst
  split at hst
  ·next hw =>
   rw [if_pos hw, if_pos hli]
   rw [hfo] at hst
   exact hst
  ·next hw => rw [if_neg hw]; exact hst
theorem RunA.l1 (i : Nat) (hl : (loudLB ops 0 m [i] && [i].all fun i => !freeAt ops i) = true) (hi : ops[i]? = some o) (h : RunS E ops [o] s fun s' => RunA E ops f (m.set i true) s' K) : RunA E ops (f + 1) m s K :=
 RunA.loud [i] (by simp) hl fun x hx => by
  obtain rfl : x = i := by simpa using hx
  exact ⟨o, hi, h⟩
theorem RunA.l2 (i j : Nat) (hl : (loudLB ops 0 m [i, j] && [i, j].all fun i => !freeAt ops i) = true) (hi : ops[i]? = some o) (hj : ops[j]? = some o2) (h : RunS E ops [o] s fun s' => RunA E ops f (m.set i true) s' K) (h2 : RunS E ops [o2] s fun s' => RunA E ops f (m.set j true) s' K) : RunA E ops (f + 1) m s K :=
 RunA.loud [i, j] (by simp) hl fun x hx => by
  rcases (by simpa using hx : x = i ∨ x = j) with rfl | rfl
  ·exact ⟨o, hi, h⟩
  ·exact ⟨o2, hj, h2⟩
theorem RunS.only {n : Nat} (hE : EnvOk E) {s : St} (l : List (Nat × AV)) (hp : Hp) (h : segB (opsA E (evC E 0) ⟨none, false⟩ ops [o] s) l = some (n, xs2 l, hp)) (k : K ⟨Fr n l, hp⟩) : RunS E ops [o] s K :=
 RunS.segF (rest := [o]) hE 1 l hp h (RunS.done rfl k)
theorem RunA.done (h : (Region.ready .any ops m.toArray).isEmpty = true) (kk : K s) : RunA E ops 0 m s K := fun base Q a w Z R _ _ _ sr q =>
 ⟨fun _ => trivial, by simpa using h, q s a w Z R kk sr (StepW.refl _ _ _ _)⟩
end
/-- A block that a call made is given up. -/
theorem SOk.kill {f : FuncId} {ys : List AV} {Out Out2 : AV → Hp → Prop} (b : Nat) (hs : SOk f ys Out) (h : ∀ x h', Out x h' → Out2 x (h'.set b none)) : SOk f ys Out2 :=
 ⟨hs.1, fun w Z us hz hg hv => Ret.mono (hs.2 w Z us hz hg hv) fun v w' ⟨Z', R', x, h', hO, h1, h2, st⟩ =>
  let ⟨k1, k2⟩ := h1.kill b
  ⟨Z', R', x, h'.set b none, h x h' hO, k1, h2, st.trans k2.w⟩⟩
/-- How a Lean value is held by an abstract value and own blocks (the list tells which). -/
structure Oc (α : Type) where
 cd : Cd α
 at_ : Hp → AV → α → List Nat → Prop
 loc : ∀ {h h' : Hp} {e : AV} {x : α} {F : List Nat}, at_ h e x F → (∀ b ∈ F, h'[b]? = h[b]?) → at_ h' e x F
 own : ∀ {h : Hp} {e : AV} {x : α} {F : List Nat} {b : Nat}, at_ h e x F → b ∈ F → ∃ B, h[b]? = some (some B) ∧ B.fz = false
 vr : ∀ {w : World} {Z : Nat → Prop} {R : List RI} {h : Hp} {e : AV} {x : α} {F : List Nat} {u : Value}, HR w Z R h → at_ h e x F → VR w Z R e u → VR w (fun c => Z c ∨ ∃ b ∈ F, ∃ r, R[b]? = some r ∧ c = r.c) [] (cd.enc x) u
/-- A part of a heap. -/
structure Asn where
 at_ : Hp → List Nat → Prop
 loc : ∀ {h h' : Hp} {F : List Nat}, at_ h F → (∀ b ∈ F, h'[b]? = h[b]?) → at_ h' F
 own : ∀ {h : Hp} {F : List Nat} {b : Nat}, at_ h F → b ∈ F → ∃ B, h[b]? = some (some B) ∧ B.fz = false
def TF (h : Hp) : List Asn → List Nat → Prop
 | [], F => F = []
 | P :: L, F => ∃ F1 F2, F = F1 ++ F2 ∧ P.at_ h F1 ∧ TF h L F2
/-- The assertions hold of different blocks. -/
def T (h : Hp) (L : List Asn) : Prop := ∃ F, TF h L F ∧ F.Nodup
theorem get_lt {h : Hp} {b : Nat} {o : Option Blk} (e : h[b]? = some o) : b < h.length := (List.getElem?_eq_some_iff.1 e).1
theorem TF.loc {h h' : Hp} : ∀ {L : List Asn} {F : List Nat}, TF h L F → (∀ b ∈ F, h'[b]? = h[b]?) → TF h' L F
 | [], _, e, _ => e
 | _ :: _, _, ⟨F1, F2, e, p, q⟩, k => ⟨F1, F2, e, Asn.loc _ p (fun b hb => k b (by rw [e]; exact List.mem_append_left _ hb)), TF.loc q fun b hb => k b (by rw [e]; exact List.mem_append_right _ hb)⟩
theorem TF.own {h : Hp} : ∀ {L : List Asn} {F : List Nat} {b : Nat}, TF h L F → b ∈ F → ∃ B, h[b]? = some (some B) ∧ B.fz = false
 | [], _, _, e, hb => by rw [show _ = [] from e] at hb; cases hb
 | _ :: _, _, _, ⟨F1, F2, e, p, q⟩, hb => by
  rw [e] at hb
  rcases List.mem_append.1 hb with hb | hb
  ·exact Asn.own _ p hb
  ·exact TF.own q hb
theorem TF.lt {h : Hp} {L : List Asn} {F : List Nat} {b : Nat} (t : TF h L F) (hb : b ∈ F) : b < h.length := let ⟨_, e, _⟩ := t.own hb; get_lt e
theorem Asn.lt {P : Asn} {h : Hp} {F : List Nat} {b : Nat} (t : P.at_ h F) (hb : b ∈ F) : b < h.length := let ⟨_, e, _⟩ := P.own t hb; get_lt e
theorem TF.front {h : Hp} {P : Asn} : ∀ {i : Nat} {L : List Asn} {F : List Nat}, TF h L F → L[i]? = some P → ∃ F', TF h (P :: L.eraseIdx i) F' ∧ F'.Perm F
 | _, [], _, _, e => by simp at e
 | 0, Q :: L, F, t, e => by
  simp at e; subst e
  exact ⟨F, t, List.Perm.refl _⟩
 | i + 1, Q :: L, F, ⟨F1, F2, e0, p, q⟩, e => by
  obtain ⟨F', ⟨G1, G2, e1, p1, q1⟩, hp⟩ := TF.front q (by simpa using e)
  subst e0 e1
  refine ⟨G1 ++ (F1 ++ G2), ⟨G1, _, rfl, p1, F1, G2, rfl, p, q1⟩, ?_⟩
  have h1 : (G1 ++ (F1 ++ G2)).Perm (F1 ++ (G1 ++ G2)) := by
   rw [← List.append_assoc, ← List.append_assoc]
   exact List.Perm.append_right _ List.perm_append_comm
  exact h1.trans (List.Perm.append_left _ hp)
theorem T.front {h : Hp} {L : List Asn} {P : Asn} (i : Nat) (t : T h L) (e : L[i]? = some P) : T h (P :: L.eraseIdx i) :=
 let ⟨_, t1, hn⟩ := t; let ⟨F', t2, hp⟩ := t1.front e; ⟨F', t2, hp.nodup_iff.2 hn⟩
theorem nodup_app {F1 F2 : List Nat} : (F1 ++ F2).Nodup ↔ F1.Nodup ∧ F2.Nodup ∧ ∀ a ∈ F1, a ∉ F2 := by
 rw [List.nodup_append]
 constructor
 ·rintro ⟨h1, h2, h3⟩
  exact ⟨h1, h2, fun a ha hb => h3 a ha a hb rfl⟩
 ·rintro ⟨h1, h2, h3⟩
  exact ⟨h1, h2, fun a ha b hb e => h3 a ha (e ▸ hb)⟩
/-- The first assertion turns into another; the rest is as it was. -/
theorem T.act {h : Hp} {P : Asn} {L : List Asn} (t : T h (P :: L)) : ∃ F, P.at_ h F ∧ F.Nodup ∧ (∀ (h' : Hp) (P' : Asn) (F' : List Nat), P'.at_ h' F' → F'.Nodup → (∀ b, b ∉ F → b < h.length → h'[b]? = h[b]?) → (∀ b ∈ F', b ∈ F ∨ h.length ≤ b) → T h' (P' :: L)) ∧ ∀ h' : Hp, (∀ b, b ∉ F → b < h.length → h'[b]? = h[b]?) → T h' L := by
 obtain ⟨F, ⟨F1, F2, rfl, p, q⟩, hn⟩ := t
 obtain ⟨n1, n2, n3⟩ := nodup_app.1 hn
 have hq : ∀ h' : Hp, (∀ b, b ∉ F1 → b < h.length → h'[b]? = h[b]?) → TF h' L F2 := fun h' hs => q.loc fun b hb => hs b (fun hb1 => n3 b hb1 hb) (q.lt hb)
 refine ⟨F1, p, n1, fun h' P' F' p' hn' hs hb => ⟨F' ++ F2, ⟨F', F2, rfl, p', hq h' hs⟩, nodup_app.2 ⟨hn', n2, fun a ha ha2 => ?_⟩⟩, fun h' hs => ⟨F2, hq h' hs, n2⟩⟩
 rcases hb a ha with h1 | h1
 ·exact n3 a h1 ha2
 ·have := q.lt ha2; omega
theorem T.drop {h : Hp} {P : Asn} {L : List Asn} (t : T h (P :: L)) : T h L := let ⟨_, _, _, _, k⟩ := t.act; k h fun _ _ _ => rfl
/-- New blocks, a new assertion. -/
theorem T.add {h h' : Hp} {P : Asn} {L : List Asn} {F : List Nat} (t : T h L) (p : P.at_ h' F) (hn : F.Nodup) (hs : ∀ b, b < h.length → h'[b]? = h[b]?) (hb : ∀ b ∈ F, h.length ≤ b) : T h' (P :: L) := by
 obtain ⟨F2, q, n2⟩ := t
 exact ⟨F ++ F2, ⟨F, F2, rfl, p, q.loc fun b hb => hs b (q.lt hb)⟩, nodup_app.2 ⟨hn, n2, fun a ha ha2 => by have := hb a ha; have := q.lt ha2; omega⟩⟩
theorem T.nil {h : Hp} : T h [] := ⟨[], rfl, List.nodup_nil⟩
/-- An own value. -/
def own_ {α : Type} (o : Oc α) (e : AV) (x : α) : Asn := ⟨fun h F => o.at_ h e x F, o.loc, o.own⟩
/-- A cell of its own (a variable that closures hold, a struct with an address). -/
def cel (p : AV) (k : Nat) (t : TypeId) (a : AV) : Asn where
 at_ h F := ∃ b, p = .pt b 0 0 ∧ F = [b] ∧ h[b]? = some (some ⟨k, t, [a], false⟩)
 loc := fun ⟨b, e1, e2, e3⟩ k => ⟨b, e1, e2, (k b (by rw [e2]; simp)).trans e3⟩
 own := fun ⟨b, e1, e2, e3⟩ hb => by
  rw [e2] at hb
  simp at hb
  subst hb
  exact ⟨_, e3, rfl⟩
section
variable {α : Type} {p p' : AV → α → List Nat → Prop}
def All3 (p : AV → α → List Nat → Prop) : List AV → List α → List Nat → Prop
 | [], [], F => F = []
 | e :: es, x :: xs, F => ∃ F1 F2, F = F1 ++ F2 ∧ p e x F1 ∧ All3 p es xs F2
 | _, _, _ => False
def All3h (p : AV → α → List Nat → Prop) : Nat → AV → List AV → List α → List Nat → Prop
 | 0, e', e :: es, _ :: xs, F => e = e' ∧ All3 p es xs F
 | j + 1, e', e :: es, x :: xs, F => ∃ F1 F2, F = F1 ++ F2 ∧ p e x F1 ∧ All3h p j e' es xs F2
 | _, _, _, _, _ => False
theorem All3.len : ∀ {es : List AV} {xs : List α} {F : List Nat}, All3 p es xs F → es.length = xs.length
 | [], [], _, _ => rfl
 | _ :: _, _ :: _, _, ⟨_, _, _, _, h⟩ => by simp [All3.len h]
 | [], _ :: _, _, h => h.elim
 | _ :: _, [], _, h => h.elim
theorem All3.mono : ∀ {es : List AV} {xs : List α} {F : List Nat}, All3 p es xs F → (∀ e x F', (∀ b ∈ F', b ∈ F) → p e x F' → p' e x F') → All3 p' es xs F
 | [], [], _, h, _ => h
 | _ :: _, _ :: _, _, ⟨F1, F2, e, h1, h2⟩, k => ⟨F1, F2, e, k _ _ F1 (fun b hb => by rw [e]; exact List.mem_append_left _ hb) h1, h2.mono fun e' x F' hF => k e' x F' fun b hb => by rw [e]; exact List.mem_append_right _ (hF b hb)⟩
 | [], _ :: _, _, h, _ => h.elim
 | _ :: _, [], _, h, _ => h.elim
theorem All3h.mono : ∀ {j : Nat} {e' : AV} {es : List AV} {xs : List α} {F : List Nat}, All3h p j e' es xs F → (∀ e x F', (∀ b ∈ F', b ∈ F) → p e x F' → p' e x F') → All3h p' j e' es xs F
 | 0, _, _ :: _, _ :: _, _, ⟨h1, h2⟩, k => ⟨h1, h2.mono k⟩
 | _ + 1, _, _ :: _, _ :: _, _, ⟨F1, F2, e, h1, h2⟩, k => ⟨F1, F2, e, k _ _ F1 (fun b hb => by rw [e]; exact List.mem_append_left _ hb) h1, h2.mono fun e' x F' hF => k e' x F' fun b hb => by rw [e]; exact List.mem_append_right _ (hF b hb)⟩
 | 0, _, [], _, _, h, _ => by unfold All3h at h; exact h.elim
 | 0, _, _ :: _, [], _, h, _ => by unfold All3h at h; exact h.elim
 | _ + 1, _, [], _, _, h, _ => by unfold All3h at h; exact h.elim
 | _ + 1, _, _ :: _, [], _, h, _ => by unfold All3h at h; exact h.elim
theorem All3.get : ∀ {es : List AV} {xs : List α} {F : List Nat} {i : Nat} {x : α}, All3 p es xs F → xs[i]? = some x → ∃ e Fi, es[i]? = some e ∧ p e x Fi ∧ ∀ b ∈ Fi, b ∈ F
 | _ :: _, _ :: _, _, 0, _, ⟨F1, F2, e, h1, h2⟩, hx => by
  simp at hx; subst hx
  exact ⟨_, F1, rfl, h1, fun b hb => by rw [e]; exact List.mem_append_left _ hb⟩
 | _ :: _, _ :: _, _, i + 1, _, ⟨F1, F2, e, h1, h2⟩, hx => by
  obtain ⟨e', Fi, k1, k2, k3⟩ := h2.get (i := i) (by simpa using hx)
  exact ⟨e', Fi, by simpa using k1, k2, fun b hb => by rw [e]; exact List.mem_append_right _ (k3 b hb)⟩
 | [], [], _, _, _, _, hx => by simp at hx
 | [], _ :: _, _, _, _, h, _ => h.elim
 | _ :: _, [], _, _, _, h, _ => h.elim
theorem All3h.at_ : ∀ {j : Nat} {e' : AV} {es : List AV} {xs : List α} {F' : List Nat}, All3h p j e' es xs F' → es[j]? = some e' ∧ es.length = xs.length ∧ j < xs.length
 | 0, _, _ :: _, _ :: _, _, ⟨h1, h2⟩ => ⟨by simp [h1], by simp [h2.len], by simp⟩
 | _ + 1, _, _ :: _, _ :: _, _, ⟨_, _, _, _, h2⟩ => by
  obtain ⟨k1, k2, k3⟩ := h2.at_
  exact ⟨by simpa using k1, by simp [k2], by simp; omega⟩
 | 0, _, [], _, _, h => by unfold All3h at h; exact h.elim
 | 0, _, _ :: _, [], _, h => by unfold All3h at h; exact h.elim
 | _ + 1, _, [], _, _, h => by unfold All3h at h; exact h.elim
 | _ + 1, _, _ :: _, [], _, h => by unfold All3h at h; exact h.elim
theorem All3.append : ∀ {es : List AV} {xs : List α} {F : List Nat} {es' : List AV} {xs' : List α} {F' : List Nat}, All3 p es xs F → All3 p es' xs' F' → All3 p (es ++ es') (xs ++ xs') (F ++ F')
 | [], [], _, _, _, _, h, h' => by rw [show _ = [] from h]; exact h'
 | _ :: _, _ :: _, _, _, _, _, ⟨F1, F2, e, h1, h2⟩, h' => ⟨F1, _, by rw [e, List.append_assoc], h1, h2.append h'⟩
 | [], _ :: _, _, _, _, _, h, _ => h.elim
 | _ :: _, [], _, _, _, _, h, _ => h.elim
theorem All3.mem : ∀ {es : List AV} {xs : List α} {F : List Nat} {b : Nat}, All3 p es xs F → b ∈ F → ∃ e x F', p e x F' ∧ b ∈ F'
 | [], [], _, _, h, hb => by rw [show _ = [] from h] at hb; cases hb
 | _ :: _, _ :: _, _, _, ⟨F1, F2, e, h1, h2⟩, hb => by
  rw [e] at hb
  rcases List.mem_append.1 hb with hb | hb
  ·exact ⟨_, _, F1, h1, hb⟩
  ·exact h2.mem hb
 | [], _ :: _, _, _, h, _ => h.elim
 | _ :: _, [], _, _, h, _ => h.elim
theorem All3h.mem : ∀ {j : Nat} {e' : AV} {es : List AV} {xs : List α} {F : List Nat} {b : Nat}, All3h p j e' es xs F → b ∈ F → ∃ e x F', p e x F' ∧ b ∈ F'
 | 0, _, _ :: _, _ :: _, _, _, ⟨_, h2⟩, hb => h2.mem hb
 | _ + 1, _, _ :: _, _ :: _, _, _, ⟨F1, F2, e, h1, h2⟩, hb => by
  rw [e] at hb
  rcases List.mem_append.1 hb with hb | hb
  ·exact ⟨_, _, F1, h1, hb⟩
  ·exact h2.mem hb
 | 0, _, [], _, _, _, h, _ => by unfold All3h at h; exact h.elim
 | 0, _, _ :: _, [], _, _, h, _ => by unfold All3h at h; exact h.elim
 | _ + 1, _, [], _, _, _, h, _ => by unfold All3h at h; exact h.elim
 | _ + 1, _, _ :: _, [], _, _, h, _ => by unfold All3h at h; exact h.elim
end
/-- An own slice of own values. -/
def ocL {α : Type} (k : Nat) (t : TypeId) (o : Oc α) : Oc (List α) where
 cd := cdL k o.cd
 at_ h e xs F := (e = .e0 ∧ xs = [] ∧ F = []) ∨ ∃ b es F', e = .rf b 0 xs.length xs.length ∧ h[b]? = some (some ⟨k, t, es, false⟩) ∧ F = b :: F' ∧ All3 (o.at_ h) es xs F'
 loc := fun {h h' e x F} ha k => by
  rcases ha with h1 | ⟨b, es, F', h1, h2, h3, h4⟩
  ·exact .inl h1
  ·subst h3
   exact .inr ⟨b, es, F', h1, (k b (by simp)).trans h2, rfl, h4.mono fun e x G hG h5 => o.loc h5 fun c hc => k c (List.mem_cons_of_mem _ (hG c hc))⟩
 own := fun {h e x F b} ha hb => by
  rcases ha with ⟨_, _, h1⟩ | ⟨b', es, F', h1, h2, h3, h4⟩
  ·rw [h1] at hb; cases hb
  ·subst h3
   rcases List.mem_cons.1 hb with rfl | hb
   ·exact ⟨_, h2, rfl⟩
   ·obtain ⟨e, x, G, k1, k2⟩ := h4.mem hb
    exact o.own k1 k2
 vr := fun {w Z R h e xs F u} hh ha hv => by
  rcases ha with ⟨rfl, rfl, rfl⟩ | ⟨b, es, F', rfl, h2, rfl, h4⟩
  ·cases hv
   exact .sl (us := []) rfl rfl (Nat.le_refl _) (by unfold maxLen; omega) (fun h => by omega) (fun i x u hx => by simp at hx)
  ·obtain ⟨r, arr, us, g1, g2, g3, g4, g5, g6, g7, g8, g9, g10⟩ := hh.blk b _ h2
   have hl := h4.len
   cases hv with
   | rf hr' q0 q1 q2 q3 =>
    rename_i c r'
    rw [g1] at hr'
    injection hr' with hr'
    subst hr'
    have hul : us.length = es.length := g9.len
    refine .sl (us := us) (by simp) (by simp; omega) (by omega) (by omega) (fun _ => ⟨⟨r.c, 0 * r.k, none⟩, rfl, rfl, .inr ⟨b, by simp, r, g1, rfl⟩, fun i u hu => ?_⟩) (fun i x u hx hu => ?_)
    ·obtain ⟨k1, k2, k3⟩ := g10 i u hu
     refine ⟨k1, k2, fun j q hq => ?_⟩
     have := k3 j q hq
     rw [Nat.zero_mul, Nat.zero_add]
     simp only [World.cell?, g3]
     simpa using this
    ·rw [List.getElem?_map] at hx
     obtain ⟨y, hy, rfl⟩ := Option.map_eq_some_iff.1 hx
     obtain ⟨e, Fi, k1, k2, k3⟩ := h4.get hy
     have hvi := g9.at_ i e u k1 hu
     exact (o.vr hh k2 hvi).mono (fun _ _ => rfl) (fun c hc => hc.imp_right fun ⟨b', hb', hr⟩ => ⟨b', List.mem_cons_of_mem _ (k3 b' hb'), hr⟩) (fun _ _ h => h)
section
variable {α : Type} {o : Oc α} {k j : Nat} {t : TypeId} {e e' : AV} {xs : List α} {x y : α} {h : Hp} {L : List Asn} {c : Cd α}
theorem T.e0 {k : Nat} {ty : TypeId} (t : T h L) : T h (own_ (ocL k ty o) .e0 [] :: L) := t.add (F := []) (.inl ⟨rfl, rfl, rfl⟩) List.nodup_nil (fun _ _ => rfl) (fun _ h => by cases h)
end
section
variable {P : Program} {α : Type} {o : Oc α} {k j m off : Nat} {t ty ty2 el : TypeId} {e e' y : AV} {xs ys vs : List α} {x v v' : α} {h : Hp} {L : List Asn} {c : Cd α} {i : Int} {ki : IntKind} {g : Bool}
end
section
variable {E : Env} {n : Nat} {l l' : List (Nat × AV)} {hp : Hp} {α : Type} {o : Oc α} {e : AV} {x : α} {L : List Asn}
/-- Slots that stay, and slots that turn. -/
def LkT (l : List (Nat × AV)) (e y : AV) : List (Nat × AV) → Prop
 | [] => True
 | (t, z) :: r => (lk l t = some z ∨ (lk l t = some e ∧ z = y)) ∧ LkT l e y r
theorem LkT.at_ {e y : AV} : ∀ {l' : List (Nat × AV)}, LkT l e y l' → ∀ t z, lk l' t = some z → lk l t = some z ∨ (lk l t = some e ∧ z = y)
 | [], _, t, z, h => by cases h
 | (k, z0) :: r, ⟨h1, h2⟩, t, z, h => by
  rw [lk_put] at h
  split at h
  ·next hk => injection h with h; subst hk h; exact h1
  ·exact h2.at_ t z h
/-- Values as a call sees them. -/
def SeeV (hp : Hp) (x y : AV) : Prop := ∀ (w : World) (Z : Nat → Prop) (R : List RI) (u : Value), HR w Z R hp → VR w Z R x u → VR w (fun c => Z c ∨ own R hp c) [] y u
def Sees (hp : Hp) (xs ys : List AV) : Prop := ∀ (w : World) (Z : Nat → Prop) (R : List RI) (us : List Value), HR w Z R hp → VRs w Z R xs us → VRs w (fun c => Z c ∨ own R hp c) [] ys us
theorem Sees.nil : Sees hp [] [] := fun w Z R us _ h => by
 have : us = [] := by have := h.len; simpa using this
 subst this
 exact .nil
theorem Sees.cons {x y : AV} {xs ys : List AV} (h : SeeV hp x y) (hs : Sees hp xs ys) : Sees hp (x :: xs) (y :: ys) := fun w Z R us hh hv => by
 obtain ⟨u, us', rfl, hu, hn⟩ := hv.head
 exact .cons (h w Z R u hh hu) (hs w Z R us' hh hn)
theorem SeeV.id {x : AV} (hx : noRf2 x = true) : SeeV hp x x := fun _w _Z _R _u _ hv => (noRf2_vr hx hv).mono (fun _ _ => rfl) (fun _ h => .inl h) (fun _ _ h => h)
theorem SeeV.enc {c : Cd α} : SeeV hp (c.enc x) (c.enc x) := .id (c.nr x)
theorem SeeV.own {i : Nat} (ht : T hp L) (hi : L[i]? = some (own_ o e x)) : SeeV hp e (o.cd.enc x) := fun w Z R u hh hv => by
 obtain ⟨F, p, _⟩ := (ht.front i hi).act
 refine (o.vr hh p hv).mono (fun _ _ => rfl) (fun c hc => hc.imp_right fun ⟨b, hb, r, hr, hc⟩ => ?_) (fun _ _ h => h)
 obtain ⟨B, k1, k2⟩ := o.own p hb
 exact ⟨b, B, r, k1, k2, hr, hc.symm⟩
theorem SeeV.ag {cs cs' : List AV} (hs : Sees hp cs cs') : SeeV hp (.ag cs) (.ag cs') := fun w Z R u hh hv => by
 cases hv with
 | ag hl h1 hx =>
  have := hs w Z R _ hh ⟨hl, hx⟩
  exact .ag this.len h1 this.at_
end
/-- The operations that are left, one by one, in the caller's blocks. -/
def RunL (E : Env) (cx : Cx) (ops : Array Oper) (rest : List Oper) (s : St) (K : St → Prop) : Prop :=
 ∀ (ro : Option Nat) (base : Bs) (Q : Act → World → Prop) (a : Act) (w : World) (Z : Nat → Prop) (R : List RI), (cx.inR = false → ro = none) → SR E base w Z R s a → YI cx w Z R s.hp →
  (∀ s' a' w' Z' R', K s' → SR E base w' Z' R' s' a' → Step w Z R s.hp w' Z' R' s'.hp → Q a' w') → LwL E.P ops Q rest a w
section
variable {E : Env} {cx : Cx} {ops : Array Oper} {pre rest rest' : List Oper} {s s1 : St} {K : St → Prop} {n m : Nat} {l l' : List (Nat × AV)} {hp hp' : Hp} {Q : Ex → St → Prop} {id : Nat}
theorem RunL.done (hr : rest = []) (k : K s) : RunL E cx ops rest s K := by
 subst hr
 exact fun ro base Q a w Z R _ sr _ q => q s a w Z R k sr (Step.refl _ _ _ _)
theorem RunL.mono {K' : St → Prop} (h : RunL E cx ops rest s K) (k : ∀ s, K s → K' s) : RunL E cx ops rest s K' := fun ro base Q a w Z R h1 h2 h3 q => h ro base Q a w Z R h1 h2 h3 fun s' a' w' Z' R' hK => q s' a' w' Z' R' (k s' hK)
theorem RunL.app (hE : EnvOk E) (n : Nat) : ∀ {pre : List Oper} {s : St}, opsA E (evC E n) ⟨none, false⟩ ops pre s = some s1 → RunL E cx ops rest s1 K → RunL E cx ops (pre ++ rest) s K
 | [], s, e, k => by injection e with e; subst e; exact k
 | o :: pre, s, e, kk => by
  intro ro base Q a w Z R hro sr hy q
  unfold opsA at e
  split at e
  ·cases e
  ·next hw => exact lwl_no (wantedA_eq sr hw) (RunL.app hE n e kk ro base Q _ w Z R hro (sr.put undef_vr) hy q)
  ·next hw =>
   split at e
   ·next s2 hs2 => exact lwl_op1 hE (code_sound hE n).1 hs2 sr (wantedA_eq sr hw) fun a' w' Z' R' sr' st => RunL.app hE n e kk ro base Q a' w' Z' R' hro sr' (hy.step sr.hh st) fun s'' a'' w'' Z'' R'' hK sr'' st' => q s'' a'' w'' Z'' R'' hK sr'' (st.trans st')
   ·cases e
theorem RunL.one (hE : EnvOk E) (n : Nat) {o : Oper} (hr : rest = o :: rest') (h : opsA E (evC E n) ⟨none, false⟩ ops [o] s = some s1) (k : RunL E cx ops rest' s1 K) : RunL E cx ops rest s K := by
 subst hr
 exact RunL.app hE n (pre := [o]) h k
end
section
variable {E : Env} {cx : Cx} {ops : Array Oper} {rest rest' : List Oper} {K : St → Prop} {n : Nat} {l : List (Nat × AV)} {hp : Hp}
theorem RunL.wk {s s1 : St} (hw : WkY E s s1) (h : RunL E cx ops rest s1 K) : RunL E cx ops rest s K := fun ro base Q a w Z R hro sr hy q => by
 obtain ⟨Z', R', sr', st⟩ := hw base w Z R a sr
 exact h ro base Q a w Z' R' hro sr' (hy.step sr.hh st) fun s' a' w' Z2 R2 hK sr2 st2 => q s' a' w' Z2 R2 hK sr2 (st.trans st2)
end
def RunDT (E : Env) (cx : Cx) (ops : Array Oper) (T : Nat) (n0 k : Nat) (rest : List Oper) (s : St) (K : St → Prop) : Prop :=
 ∀ (ro : Option Nat) (base : Bs) (Q : Act → World → Prop) (w0 : World) (Z : Nat → Prop) (R0 : List RI) (h0 : Hp) (a : Act) (w : World) (R : List RI), (cx.inR = false → ro = none) → YI cx w0 Z R0 h0 → HR w0 Z R0 h0 → n0 = h0.length → SR E base w Z R s a → w0.grownBy w none → Step w0 Z R0 h0 w Z R s.hp → (∀ (b : Nat) (B : Option Blk), h0[b]? = some B → s.hp[b]? = some B) → (∀ j, rest[j]? = ops[k + j]?) →
  (∀ s' a' w' Z' R', K s' → SR E base w' Z' R' s' a' → Step w0 Z R0 h0 w' Z' R' s'.hp → Q a' w') → wpMix E.P ops (fun w' => w0.grownBy w' none) (loudT ops T) T Q k rest a w
section
variable {E : Env} {cx : Cx} {ops : Array Oper} {rest rest' : List Oper} {s s1 : St} {K : St → Prop} {n n0 k T : Nat} {l : List (Nat × AV)} {hp hp' : Hp} {Q : Ex → St → Prop} {id : Nat} {x : AV} {d : Nat}
theorem quiet_at {o : Oper} (hops : ∀ j, (o :: rest')[j]? = ops[k + j]?) (hk : Nat.blt k T = true) (hq : isQ o.op = true) : loudT ops T k = false := by
 have hok : ops[k]? = some o := by have := hops 0; simpa using this.symm
 have hlt : k < T := Nat.le_of_ble_eq_true hk
 exact loudT_q hok hq (by omega)
theorem loud_at {o : Oper} (hops : ∀ j, (o :: rest')[j]? = ops[k + j]?) (hq : isQ o.op = false) : loudT ops T k = true := by
 have hok : ops[k]? = some o := by have := hops 0; simpa using this.symm
 exact loudT_n hok hq
theorem next_at {o : Oper} (hops : ∀ j, (o :: rest')[j]? = ops[k + j]?) : ∀ j, rest'[j]? = ops[k + 1 + j]? := fun j => by have := hops (j + 1); simpa [Nat.add_assoc, Nat.add_comm 1 j] using this
theorem RunDT.done (hr : rest = []) (kk : K s) : RunDT E cx ops T n0 k rest s K := by
 subst hr
 exact fun ro base Q w0 Z R0 h0 a w R _ _ _ _ sr hgr st _ _ q => ⟨fun _ => hgr, q s a w Z R kk sr st⟩
theorem RunDT.mono {K' : St → Prop} (h : RunDT E cx ops T n0 k rest s K) (hk : ∀ s, K s → K' s) : RunDT E cx ops T n0 k rest s K' := fun ro base Q w0 Z R0 h0 a w R h1 h2 h3 h4 h5 h6 h7 h8 h9 q => h ro base Q w0 Z R0 h0 a w R h1 h2 h3 h4 h5 h6 h7 h8 h9 fun s' a' w' Z' R' hK => q s' a' w' Z' R' (hk s' hK)
/-- An operation that reads. -/
theorem RunDT.q {o : Oper} (hr : rest = o :: rest') (hk : Nat.blt k T = true) (hq : isQ o.op = true) (hw : wantedA ops (Fr n l) o = some true) (hd : o.dst = some d) (h : evOpQ E.P (opA E (Fr n l)) hp o.op = some x) (hl : ldOk n0 (opA E (Fr n l)) o.op = true) (kk : RunDT E cx ops T n0 (k + 1) rest' ⟨Fr n ((d, x) :: l), hp⟩ K) : RunDT E cx ops T n0 k rest ⟨Fr n l, hp⟩ K := by
 subst hr
 intro ro base Q w0 Z R0 h0 a w R hro hy hh0 hn0 sr hgr st hpre hops q
 refine ⟨fun _ => hgr, ?_⟩
 rw [if_pos (wantedA_eq sr hw), quiet_at hops hk hq, if_neg (by simp)]
 have hρ : ∀ o x, opA E (Fr n l) o = some x → VR w Z R x (a.eval o) := fun o x e => opA_vr sr o x e
 obtain ⟨u, hu, hrun⟩ := evOpQ_sound sr.hh hρ h
 have hquiet : ∃ u, VR w Z R x u ∧ QuietAt E.P (Cf (fun w' => w0.grownBy w' none) o) o u a := by
  cases hl' : isLd o.op with
  | false => exact ⟨u, hu, fun w' _ => hrun w' fun h => by rw [hl'] at h; cases h⟩
  | true =>
   obtain ⟨u1, hu1, hq1⟩ := load_quiet hh0 sr hgr st hpre hl' (by rw [← hn0]; exact hl) h
   exact ⟨u1, hu1, hq1.up (free_ld hl')⟩
 obtain ⟨u, hu, hquiet⟩ := hquiet
 refine ⟨u, hquiet, ?_⟩
 have sr' := sr.put (d := o.dst) hu
 rw [hd, show putA (⟨Fr n l, hp⟩ : St).fr (some d) x = Fr n ((d, x) :: l) from putA_Fr n l d _] at sr'
 rw [hd]
 exact kk ro base Q w0 Z R0 h0 _ w R hro hy hh0 hn0 sr' hgr st hpre (next_at hops) q
/-- One that is not wanted. -/
theorem RunDT.skip {o : Oper} (hr : rest = o :: rest') (hw : wantedA ops (Fr n l) o = some false) (hd : o.dst = some d) (kk : RunDT E cx ops T n0 (k + 1) rest' ⟨Fr n ((d, .tp []) :: l), hp⟩ K) : RunDT E cx ops T n0 k rest ⟨Fr n l, hp⟩ K := by
 subst hr
 intro ro base Q w0 Z R0 h0 a w R hro hy hh0 hn0 sr hgr st hpre hops q
 refine ⟨fun _ => hgr, ?_⟩
 rw [if_neg (by rw [wantedA_eq sr hw]; simp)]
 have sr' := sr.put (d := o.dst) (x := .tp []) undef_vr
 rw [hd, show putA (⟨Fr n l, hp⟩ : St).fr (some d) (.tp []) = Fr n ((d, .tp []) :: l) from putA_Fr n l d _] at sr'
 rw [hd]
 exact kk ro base Q w0 Z R0 h0 _ w R hro hy hh0 hn0 sr' hgr st hpre (next_at hops) q
/-- A new block. -/
theorem RunDT.new {o : Oper} (hr : rest = o :: rest') (hw : wantedA ops (Fr n l) o = some true) (hd : o.dst = some d) (h : evOpN E.P (opA E (Fr n l)) hp o.op = some (x, hp')) (kk : RunDT E cx ops T n0 (k + 1) rest' ⟨Fr n ((d, x) :: l), hp'⟩ K) : RunDT E cx ops T n0 k rest ⟨Fr n l, hp⟩ K := by
 subst hr
 intro ro base Q w0 Z R0 h0 a w R hro hy hh0 hn0 sr hgr st hpre hops q
 refine ⟨fun _ => hgr, ?_⟩
 have hq := isQ_of_N h
 rw [if_pos (wantedA_eq sr hw), loud_at hops hq, if_pos rfl]
 have hρ : ∀ o x, opA E (Fr n l) o = some x → VR w Z R x (a.eval o) := fun o x e => opA_vr sr o x e
 obtain ⟨u, w', R', h1, h2, h3, h4, h5⟩ := evOpN_sound hρ sr.hh h
 have sr' := (sr.step h2 h4).put (d := o.dst) h3
 rw [hd, show putA (⟨Fr n l, hp⟩ : St).fr (some d) x = Fr n ((d, x) :: l) from putA_Fr n l d _] at sr'
 refine lw_val h1 ?_
 rw [hd]
 exact kk ro base Q w0 Z R0 h0 _ w' R' hro hy hh0 hn0 sr' (pu_trans hgr h5) (st.trans h4) (fun b B hb => evOpN_pre h (hpre b B hb)) (next_at hops) q
theorem RunDT.tail (hT : T = k) (h : RunL E cx ops rest s K) : RunDT E cx ops T n0 k rest s K := by
 subst hT
 intro ro base Q w0 Z R0 h0 a w R hro hy hh0 hn0 sr hgr st hpre hops q
 exact lwl_mix (h ro base Q a w Z R hro sr (hy.step hh0 st) fun s' a' w' Z' R' hK sr' st' => q s' a' w' Z' R' hK sr' (st.trans st')) (Nat.le_refl _) (fun _ => hgr) (fun j hj => loudT_or hj) hops
end
section
variable {P : Program} {h : Hp} {ρ : Operand → Option AV} {α : Type} {o : Oc α} {k : Nat} {t : TypeId} {e : AV} {xs : List α} {L : List Asn}
end
section
variable {P : Program} {h : Hp} {α : Type} {o : Oc α} {c : Cd α} {k bytes n : Nat} {t ty ty2 : TypeId} {e y : AV} {xs ys : List α} {L : List Asn} {v : α}
end
/-- What a call is handed, own or not, as it is told. -/
def SeeD {α : Type} (hp : Hp) (c : Cd α) (x : AV) (v : α) : Prop := ∃ y, SeeV hp x y ∧ c.dec y = some v
def SeesD {α : Type} (hp : Hp) (s : Cs α) (xs : List AV) (a : α) : Prop := ∃ ys, Sees hp xs ys ∧ s.dec ys = some a
theorem SeesD.nil {hp : Hp} : SeesD hp csN [] () := ⟨[], .nil, rfl⟩
theorem SeesD.cons {α β : Type} {hp : Hp} {c : Cd α} {s : Cs β} {x : AV} {xs : List AV} {v : α} {a : β} (h1 : SeeD hp c x v) (h2 : SeesD hp s xs a) : SeesD hp (csC c s) (x :: xs) (v, a) := by
 obtain ⟨y, k1, k2⟩ := h1
 obtain ⟨ys, q1, q2⟩ := h2
 refine ⟨y :: ys, .cons k1 q1, ?_⟩
 show ((c.dec y).bind fun x => (s.dec ys).map fun y => (x, y)) = _
 rw [k2, q2]; rfl
theorem SeeD.enc {α : Type} {hp : Hp} {c : Cd α} {v : α} : SeeD hp c (c.enc v) v := ⟨_, .enc, c.de v⟩
theorem SeeD.e0 {α : Type} {hp : Hp} {c : Cd α} {k : Nat} : SeeD hp (cdL k c) .e0 [] := ⟨.e0, .id rfl, rfl⟩
theorem SeeD.own {α : Type} {hp : Hp} {o : Oc α} {e : AV} {x : α} {L : List Asn} {i : Nat} (ht : T hp L) (hi : L[i]? = some (own_ o e x)) : SeeD hp o.cd e x := ⟨_, .own ht hi, o.cd.de x⟩
section
variable {E : Env} {cx : Cx} {ops : Array Oper} {rest rest' : List Oper} {K : St → Prop} {n n0 k T : Nat} {l : List (Nat × AV)} {hp : Hp}
theorem RunL.call {α β : Type} {s : Cs α} {F : α → Option β} {er : β → AV} {a : α} {b : β} {xs : List AV} (hE : EnvOk E) {d : Nat} {f : Operand} {args : Array Operand} {tys : Array TypeId} {ty : TypeId} {pos : String} {af : Array Edge} {g : Option (Nat × Bool)} {fid : FuncId} (hr : rest = ⟨some d, .call ⟨.value f, args, tys⟩, ty, pos, af, g⟩ :: rest') (hw : wantedA ops (Fr n l) ⟨some d, .call ⟨.value f, args, tys⟩, ty, pos, af, g⟩ = some true)
  (hf : opA E (Fr n l) f = some (.fn fid [] [])) (hi : E.I fid = false) (hX : E.X fid = some (told s F er)) (ha : opds (opA E (Fr n l)) args.toList = some xs) (hv : Sns hp s xs a) (hok : xs.all noRf2 = true ∨ flatTp (er b) = true) (hF : F a = some b) (k : RunL E cx ops rest' ⟨Fr n ((d, er b) :: l), hp⟩ K) : RunL E cx ops rest ⟨Fr n l, hp⟩ K :=
 RunL.one hE 0 hr (op_call hw hf hi hX ha hv hok hF) k
end
section
variable {E : Env} {cx : Cx} {ops : Array Oper} {s : St} {Q : Ex → St → Prop} {id : Nat} {A : St → Prop} {c : Code}
theorem SemY.wkQ (h : SemY E cx c s fun e s' => ∃ s2, WkY E s' s2 ∧ Q e s2) : SemY E cx c s Q := by
 intro ro base Qm a w Z R h1 h2 h3 k
 refine h ro base Qm a w Z R h1 h2 h3 fun e s' a' w' Z' R' hQ sr st => ?_
 obtain ⟨s2, hw, hq⟩ := hQ
 obtain ⟨Z2, R2, sr2, st2⟩ := hw base w' Z' R' a' sr
 exact k e s2 a' w' Z2 R2 hq sr2 (st.trans st2)
end
theorem kr.{u} {α : Sort u} {a b : α} (h : a = b := by kernel_rfl) : a = b := h
section
variable {E : Env} {cx : Cx} {ops : Array Oper} {rest : List Oper} {K : St → Prop} {n n0 k0 m : Nat} {l l' : List (Nat × AV)} {hp hp' : Hp} {Q : Ex → St → Prop} {id : Nat} {c : Code}
theorem RunS.last (hE : EnvOk E) {s : St} (h : segB (opsA E (evC E 0) ⟨none, false⟩ ops rest s) l' = some (n, xs2 l', hp) := by kernel_rfl) : RunS E ops rest s fun s' => Wk E s' ⟨Fr n l', hp⟩ :=
 RunS.segF hE rest.length l' hp (by rw [List.take_length]; exact h) (RunS.done (by simp) Wk.refl)
theorem Sem.rg (hE : EnvOk E) (l' : List (Nat × AV)) (hp' : Hp) (k : Q .normal ⟨Fr n l', hp'⟩) (h : segB (opsA E (evC E 0) ⟨none, false⟩ ops ops.toList ⟨Fr n l, hp⟩) l' = some (n, xs2 l', hp') := by kernel_rfl) : Sem E cx (.region id ops false) ⟨Fr n l, hp⟩ Q :=
 Sem.runS (RunS.last hE h) k
theorem Sem.sq (hE : EnvOk E) (l' : List (Nat × AV)) (hp' : Hp) (k : Sem E cx c ⟨Fr n l', hp'⟩ Q) (h : segB (opsA E (evC E 0) ⟨none, false⟩ ops ops.toList ⟨Fr n l, hp⟩) l' = some (n, xs2 l', hp') := by kernel_rfl) : Sem E cx (.seq (.region id ops false) c) ⟨Fr n l, hp⟩ Q :=
 Sem.seq (Sem.rg hE l' hp' k h)
end
end Go.Proofs.YtiphapnckldpbaaGreatDoor
