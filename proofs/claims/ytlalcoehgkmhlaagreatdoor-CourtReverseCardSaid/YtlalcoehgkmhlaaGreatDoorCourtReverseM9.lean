/- trestlelaw03.CourtReverse returns true for every input, and its arguments read behind the call as before; conditions: those that the given row names. -/
import Derived.Test.YtlalcoehgkmhlaaGreatDoorCourtReverseM1
import Derived.Test.YtlalcoehgkmhlaaGreatDoorCourtReverseM2
import Derived.Test.YtlalcoehgkmhlaaGreatDoorCourtReverseM3
import Derived.Test.YtlalcoehgkmhlaaGreatDoorCourtReverseM4
import Derived.Test.YtlalcoehgkmhlaaGreatDoorCourtReverseM5
import Derived.Test.YtlalcoehgkmhlaaGreatDoorCourtReverseM6
import Derived.Test.YtlalcoehgkmhlaaGreatDoorCourtReverseM7
import Derived.Test.YtlalcoehgkmhlaaGreatDoorCourtReverseM8
namespace Go.Proofs.YtlalcoehgkmhlaaGreatDoor.courtReverse
open Go.ChangeShapes Go.WideShapes Go.ChangeAt Go.RowKit
theorem WK (a0:(List (List (Int×Int×Int×Bool×Bool)))) (a1:(List (Int×Int))) (a2:(List (Int×Int))) (h:Cz a0 a1 a2=some true){w:World}{v0 v1 v2:Value}(h0:VR w (fun c=>c < w.heap.size) [] ((cdL 1 (cdL 5 (cdA (csC (cdK .u8) (csC (cdK .u8) (csC (cdK .u8) (csC cdB (csE cdB))))) (fun _=>rfl)))).enc a0) v0) (h1:VR w (fun c=>c < w.heap.size) [] ((cdL 2 (CL (cdK .u8) (cdK .u8) (fun _=>rfl) (fun _=>rfl))).enc a1) v1) (h2:VR w (fun c=>c < w.heap.size) [] ((cdL 2 (CL (cdK .u8) (cdK .u8) (fun _=>rfl) (fun _=>rfl))).enc a2) v2):Ret Tryz.prog 12 #[v0,v1,v2] w fun v w'=>v = .bool true/\w.grownBy w' none :=
 Ret.mono (Kx.2 (EA.enc (a0,a1,a2,())) (FE true) (NI (s:=EA) (a:=(a0,a1,a2,())) h) w (fun c=>c < w.heap.size) [v0,v1,v2] (fun c hc=>hc) (fun g x h=>by cases h) (.cons h0 (.cons h1 (.cons h2 .nil)))) fun v w' h=>⟨h.2.v_inv,h.1⟩
set_option maxRecDepth 100000 in
theorem UR (H:Type) (enc:TypeId×Value->H) (W:World) (base:Nat) (args:Array Value) (ds gs:List (DataW H)) (before:List MemPlace)
  (hval:∀ (j:Nat) t v,Tryz.f12.params[j]? = some t->args[j]? = some v->Value.okWide Tryz.prog W .any base t v)
  (hW:DataW.Whole enc Tryz.prog Tryz.f12.params.toList Rows.courtReverseSpec.vars false W args.toList ds gs before)
  (hsz:(DataW.weightsEach Tryz.prog (Tryz.f12.params.toList++(OpenSpec.ofChange Rows.courtReverseSpec).bare.plain.varTypes Tryz.prog) (ds++gs)).all (·<=reachBytes)=true) :
  Calls Tryz.prog 12 args W fun e W'=>∃ v,e = .returned v/\Rows.courtReverseSpec.post enc Tryz.prog Tryz.f12 false true false false W args v W':=by
 have hW':=hW
 obtain ⟨p,q,hA0,hV,rfl,hfz,hnd⟩:=hW
 have hA:DataW.TrodAll enc Tryz.prog W 0 (fun _=>true) true Tryz.f12.params.toList args.toList ds p:=hA0
 have hpar:Tryz.f12.params=#[73,36,56]:=by kernel_rfl
 rw [hpar] at hA hval
 obtain ⟨v0,vs0,d0,ds0,p0,q0,hargs,rfl,rfl,h0,r0⟩:=trodAll_cons hA
 obtain ⟨v1,vs1,d1,ds1,p1,q1,rfl,rfl,rfl,h1,r1⟩:=trodAll_cons r0
 obtain ⟨v2,vs2,d2,ds2,p2,q2,rfl,rfl,rfl,h2,r2⟩:=trodAll_cons r1
 obtain ⟨rfl,rfl,rfl⟩:=trodAll_nil r2
 obtain rfl:args=#[v0,v1,v2]:=by apply Array.ext'; simpa using hargs
 obtain ⟨a0, k0, g0⟩ := To (NE (by kernel_rfl : Tryz.prog.underlying 73 = some (.slice 28)) (by kernel_rfl) (by kernel_rfl) (by kernel_rfl) (by kernel_rfl) (NE (by kernel_rfl : Tryz.prog.underlying 28 = some (.slice 107)) (by kernel_rfl) (by kernel_rfl) (by kernel_rfl) (by kernel_rfl) (QZ (hn := fun _ => rfl) (fs := #[(Field.mk "Kind" 5 0 false "" "" 0), (Field.mk "N" 5 1 false "" "" 1), (Field.mk "Names" 5 2 false "" "" 2), (Field.mk "Last" 4 3 false "" "" 3), (Field.mk "Among" 4 4 false "" "" 4)]) (by kernel_rfl) (by kernel_rfl) (fun _ => rfl) (fun _ => rfl) (MT (O8 (by kernel_rfl : Tryz.prog.underlying 5 = some (.int .u8)) (by kernel_rfl)) rfl (by kernel_rfl) (fun _ => rfl) (MT (O8 (by kernel_rfl : Tryz.prog.underlying 5 = some (.int .u8)) (by kernel_rfl)) rfl (by kernel_rfl) (fun _ => rfl) (MT (O8 (by kernel_rfl : Tryz.prog.underlying 5 = some (.int .u8)) (by kernel_rfl)) rfl (by kernel_rfl) (fun _ => rfl) (MT (Tp (by kernel_rfl : Tryz.prog.underlying 4 = some .bool) (by kernel_rfl)) rfl (by kernel_rfl) (fun _ => rfl) (Tq (Tp (by kernel_rfl : Tryz.prog.underlying 4 = some .bool) (by kernel_rfl)) rfl (by kernel_rfl) (fun _ => rfl))))))))) (Nr (by kernel_rfl : Tryz.prog.underlying 73 = some (.slice 28)) (hval 0 73 v0 rfl rfl)) (fun _ => rfl) h0 hsz (j := 0) (by kernel_rfl) rfl
 obtain ⟨a1, k1, g1⟩ := To (NE (by kernel_rfl : Tryz.prog.underlying 36 = some (.slice 30)) (by kernel_rfl) (by kernel_rfl) (by kernel_rfl) (by kernel_rfl) (QZ (hn := fun _ => rfl) (fs := #[(Field.mk "A" 5 0 false "" "" 0), (Field.mk "B" 5 1 false "" "" 1)]) (by kernel_rfl) (by kernel_rfl) (fun _ => rfl) (fun _ => rfl) (MT (O8 (by kernel_rfl : Tryz.prog.underlying 5 = some (.int .u8)) (by kernel_rfl)) rfl (by kernel_rfl) (fun _ => rfl) (Tq (O8 (by kernel_rfl : Tryz.prog.underlying 5 = some (.int .u8)) (by kernel_rfl)) rfl (by kernel_rfl) (fun _ => rfl))))) (Nr (by kernel_rfl : Tryz.prog.underlying 36 = some (.slice 30)) (hval 1 36 v1 rfl rfl)) (fun _ => rfl) h1 hsz (j := 1) (by kernel_rfl) rfl
 obtain ⟨a2,k2,g2⟩:=To (NE (by kernel_rfl:Tryz.prog.underlying 56=some (.slice 63)) (by kernel_rfl) (by kernel_rfl) (by kernel_rfl) (by kernel_rfl) (Wj (hn:=fun _=>rfl) (by kernel_rfl:Tryz.prog.underlying 63=some (.array 2 5)) (by kernel_rfl) (by kernel_rfl) (fun _=>rfl) (fun _=>rfl) (fun _=>rfl) (O8 (by kernel_rfl:Tryz.prog.underlying 5=some (.int .u8)) (by kernel_rfl)))) (Nr (by kernel_rfl:Tryz.prog.underlying 56=some (.slice 63)) (hval 2 56 v2 rfl rfl)) (fun _=>rfl) h2 hsz (j:=2) (by kernel_rfl) rfl
 have hc:=WK a0 a1 a2 (Wm a0 a1 a2 (fun x hx v hv=>⟨bounds_u8 ((g0.2 x hx).2 v hv).1,bounds_u8 ((g0.2 x hx).2 v hv).2.1,bounds_u8 ((g0.2 x hx).2 v hv).2.2.1⟩) (fun v hv=>⟨bounds_u8 (g1.2 v hv).1,bounds_u8 (g1.2 v hv).2⟩) (fun v hv=>⟨bounds_u8 (g2.2 v hv).1,bounds_u8 (g2.2 v hv).2⟩)) k0 k1 k2
 unfold Ret at hc
 refine hc.mono fun e W' he=>?_
 cases e with
 | returned v =>
  obtain ⟨rfl,hg⟩:=he
  exact ⟨_,rfl,Tk WJ (fun t ht=>⟨LK (fun t=>Tryz.prog.readableRec t) (by kernel_rfl) ht,of_decide_eq_true (LK (fun t=>decide (t < Tryz.prog.types.size)) (by kernel_rfl) ht)⟩) hW' rfl (by kernel_rfl) (by kernel_rfl:Tryz.prog.underlying 4=some .bool) rfl hg⟩
 | panicked c=>exact he.elim
 | outgrown=>exact he.elim
theorem Ug (os:Os):laidMet Tryz.prog Rows.courtReverseRow.laid ((Nk os).forCall (fun _ _=>0) ⟨#[],#[Value.slice none 0 0,Value.slice none 0 0,Value.slice none 0 0],[]⟩).memory :=
 laidMet_of_run' 8 (by kernel_rfl) (by kernel_rfl)
theorem ZR (os:Os){H:Type}(enc:TypeId×Value->H):∃ places,DataW.whole enc Tryz.prog ((Nk os).forCall (fun _ _=>0) ⟨#[],#[Value.slice none 0 0,Value.slice none 0 0,Value.slice none 0 0],[]⟩).memory Tryz.f12.params.toList Rows.courtReverseSpec.vars false #[Value.slice none 0 0,Value.slice none 0 0,Value.slice none 0 0].toList 8=some ([.nil,.nil,.nil],[],places) :=
 ⟨[],by kernel_rfl⟩
set_option maxRecDepth 100000 in
theorem Xu (os:Os) (started:os.Started) (H:Type) (enc:TypeId×Value->H) (F:Stop.Interp) :
  ReturnsInHanded {} Tryz.checked os 12 .any ((OpenSpec.ofChange Rows.courtReverseSpec).preRow enc Tryz.prog Tryz.f12 Rows.courtReverseRow.domain false Rows.courtReverseRow.laid) (((OpenSpec.ofChange Rows.courtReverseSpec).at F).post enc Tryz.prog Tryz.f12 false true false false):=by
 obtain ⟨places,hx⟩:=ZR os enc
 refine returnsInHanded_of_row (C:=Tryz.checked) (s:=OpenSpec.ofChange Rows.courtReverseSpec) Ut started (by kernel_rfl) Tryz.func12
  (witness_row_at (enc:=enc) (C:=Tryz.checked) false (Nk os) #[Value.slice none 0 0,Value.slice none 0 0,Value.slice none 0 0] rfl (by kernel_rfl) (by kernel_rfl) (by kernel_rfl)
   (OpenSpec.preRow_of_cond 8 hx (by kernel_rfl) (fun k hk=>by cases hk) (by kernel_rfl) (Ug os))) ?_
 intro W base args ds gs before hval hW _ _ hsz _ _ _
 exact UR H enc W base args ds gs before hval hW hsz
theorem Vo:Tryz.pinned.checked.prog.funcNamed Rows.courtReverseRow.func=some 12:=by kernel_rfl
theorem UO:joinedFacts Tryz.pinned.checked.prog 12 Tryz.f12 (OpenSpec.ofChange Rows.courtReverseSpec).bare Rows.courtReverseRow=true:=by kernel_rfl
theorem Zl:Rows.CourtReverseSaid :=
 OpenClaim.holds_of_cond 12 Tryz.f12 rfl rfl rfl rfl rfl rfl rfl ⟨rfl,rfl,rfl,rfl,rfl⟩ rfl rfl rfl rfl rfl Vo Tryz.func12 UO
  (of_decide_eq_true (by kernel_rfl)) (by unfold Func.isWrapper; first | (rw [if_pos (by decide +kernel)]; kernel_rfl) | (rw [if_neg (by decide +kernel)]; exact ⟨rfl,rfl⟩))
  (fun os started H enc _ F=>by rw [OpenClaim.pre_eq_preRow]; exact Xu os started H enc F)
theorem ZP (f : FuncId) (fn : Func) (hf : Tryz.pinned.checked.prog.funcNamed "trestle/trestlelaw03.CourtReverse" = some f) (hfn : Tryz.pinned.checked.prog.funcs[f]? = some fn) :
  true=Tryz.pinned.checked.prog.looks []/\∀ (j:Nat) t,fn.params[j]? = some t->Tryz.pinned.checked.prog.wantsStandIn t=false:=by
 obtain rfl : f = 12 := OI ((show Tryz.prog.funcNamed "trestle/trestlelaw03.CourtReverse" = some 12 by kernel_rfl).symm.trans hf) |>.symm
 obtain rfl:fn=Tryz.f12:=(OI (Tryz.func12.symm.trans hfn)).symm
 refine ⟨by kernel_rfl,fun j t ht=>?_⟩
 have hm:t ∈ Tryz.f12.params.toList:=by simpa using Array.mem_of_getElem? ht
 exact (show Tryz.prog.wantsStandIn t=false from Bool.not_eq_true' _ |>.mp (LK (fun t=>!Tryz.prog.wantsStandIn t) (by kernel_rfl) hm))
theorem card:Rows.CourtReverseCardSaid :=
 Claim7.holds_tied_plain_at .later [] _ _ _ _ Zl (fun _ h=>by cases h) (by kernel_rfl) (fun _ h=>by cases h) courtReverse_row_tie rfl ⟨rfl,rfl⟩ (by kernel_rfl) rfl ZP (by kernel_rfl)
end Go.Proofs.YtlalcoehgkmhlaaGreatDoor.courtReverse
