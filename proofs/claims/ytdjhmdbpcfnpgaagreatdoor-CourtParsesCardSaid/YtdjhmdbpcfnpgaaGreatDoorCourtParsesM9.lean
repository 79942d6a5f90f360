/-  -/
import Derived.Test.YtdjhmdbpcfnpgaaGreatDoorCourtParsesM1
import Derived.Test.YtdjhmdbpcfnpgaaGreatDoorCourtParsesM2
import Derived.Test.YtdjhmdbpcfnpgaaGreatDoorCourtParsesM3
import Derived.Test.YtdjhmdbpcfnpgaaGreatDoorCourtParsesM4
import Derived.Test.YtdjhmdbpcfnpgaaGreatDoorCourtParsesM5
import Derived.Test.YtdjhmdbpcfnpgaaGreatDoorCourtParsesM6
import Derived.Test.YtdjhmdbpcfnpgaaGreatDoorCourtParsesM7
import Derived.Test.YtdjhmdbpcfnpgaaGreatDoorCourtParsesM8
namespace Go.Proofs.YtdjhmdbpcfnpgaaGreatDoor.courtParses
open Go.ChangeShapes Go.WideShapes Go.ChangeAt Go.RowKit
theorem Sx (a0:(List UInt8)) (h:CC a0=some true){w:World}{v0:Value}(h0:VR w (fun c=>c < w.heap.size) [] (cdS.enc a0) v0):Ret Tryz.prog 3 #[v0] w fun v w'=>v = .bool true/\w.grownBy w' none :=
 Ret.mono (JA.2 (Cc.enc (a0,())) (C8 true) (M1 (s:=Cc) (a:=(a0,())) h) w (fun c=>c < w.heap.size) [v0] (fun c hc=>hc) (fun g x h=>by cases h) (.cons h0 .nil)) fun v w' h=>⟨h.2.v_inv,h.1⟩
set_option maxRecDepth 100000 in
theorem RF (H:Type) (enc:TypeId×Value->H) (W:World) (base:Nat) (args:Array Value) (ds gs:List (DataW H)) (before:List MemPlace)
  (hval:∀ (j:Nat) t v,Tryz.f3.params[j]? = some t->args[j]? = some v->Value.okWide Tryz.prog W .any base t v)
  (hW:DataW.Whole enc Tryz.prog Tryz.f3.params.toList Rows.courtParsesSpec.vars false W args.toList ds gs before)
  (hsz:(DataW.weightsEach Tryz.prog (Tryz.f3.params.toList++(OpenSpec.ofChange Rows.courtParsesSpec).bare.plain.varTypes Tryz.prog) (ds++gs)).all (·<=reachBytes)=true) :
  Calls Tryz.prog 3 args W fun e W'=>∃ v,e = .returned v/\Rows.courtParsesSpec.post enc Tryz.prog Tryz.f3 false true false false W args v W':=by
 have hW':=hW
 obtain ⟨p,q,hA0,hV,rfl,hfz,hnd⟩:=hW
 have hA:DataW.TrodAll enc Tryz.prog W 0 (fun _=>true) true Tryz.f3.params.toList args.toList ds p:=hA0
 have hpar:Tryz.f3.params=#[9]:=by kernel_rfl
 rw [hpar] at hA hval
 obtain ⟨v0,vs0,d0,ds0,p0,q0,hargs,rfl,rfl,h0,r0⟩:=trodAll_cons hA
 obtain ⟨rfl,rfl,rfl⟩:=trodAll_nil r0
 obtain rfl:args=#[v0]:=by apply Array.ext'; simpa using hargs
 obtain ⟨a0,k0,g0⟩:=UL (Qf (by kernel_rfl:Tryz.prog.underlying 9=some .string) (by kernel_rfl)) (Pa (by kernel_rfl:Tryz.prog.underlying 9=some .string) (hval 0 9 v0 rfl rfl)) (fun _=>rfl) h0 hsz (j:=0) (by kernel_rfl) rfl
 have hc:=Sx a0 (Pb a0) k0
 unfold Ret at hc
 refine hc.mono fun e W' he=>?_
 cases e with
 | returned v =>
  obtain ⟨rfl,hg⟩:=he
  exact ⟨_,rfl,Qe Sw (fun t ht=>⟨I1 (fun t=>Tryz.prog.readableRec t) (by kernel_rfl) ht,of_decide_eq_true (I1 (fun t=>decide (t < Tryz.prog.types.size)) (by kernel_rfl) ht)⟩) hW' rfl (by kernel_rfl) (by kernel_rfl:Tryz.prog.underlying 4=some .bool) rfl hg⟩
 | panicked c=>exact he.elim
 | outgrown=>exact he.elim
theorem RQ (os:Os):laidMet Tryz.prog Rows.courtParsesRow.laid ((LF os).forCall (fun _ _=>0) ⟨#[],#[Value.string ⟨#[]⟩],[]⟩).memory :=
 laidMet_of_run' 8 (by kernel_rfl) (by kernel_rfl)
theorem Vc (os:Os){H:Type}(enc:TypeId×Value->H):∃ places,DataW.whole enc Tryz.prog ((LF os).forCall (fun _ _=>0) ⟨#[],#[Value.string ⟨#[]⟩],[]⟩).memory Tryz.f3.params.toList Rows.courtParsesSpec.vars false #[Value.string ⟨#[]⟩].toList 8=some ([.lit (.string [])],[],places) :=
 ⟨[],by kernel_rfl⟩
set_option maxRecDepth 100000 in
theorem T7 (os:Os) (started:os.Started) (H:Type) (enc:TypeId×Value->H) (F:Stop.Interp) :
  ReturnsInHanded {} Tryz.checked os 3 .any ((OpenSpec.ofChange Rows.courtParsesSpec).preRow enc Tryz.prog Tryz.f3 Rows.courtParsesRow.domain false Rows.courtParsesRow.laid) (((OpenSpec.ofChange Rows.courtParsesSpec).at F).post enc Tryz.prog Tryz.f3 false true false false):=by
 obtain ⟨places,hx⟩:=Vc os enc
 refine returnsInHanded_of_row (C:=Tryz.checked) (s:=OpenSpec.ofChange Rows.courtParsesSpec) Ra started (by kernel_rfl) Tryz.func3
  (witness_row_at (enc:=enc) (C:=Tryz.checked) false (LF os) #[Value.string ⟨#[]⟩] rfl (by kernel_rfl) (by kernel_rfl) (by kernel_rfl)
   (OpenSpec.preRow_of_cond 8 hx (by kernel_rfl) (fun k hk=>by cases hk) (by kernel_rfl) (RQ os))) ?_
 intro W base args ds gs before hval hW _ _ hsz _ _ _
 exact RF H enc W base args ds gs before hval hW hsz
theorem SZ:Tryz.pinned.checked.prog.funcNamed Rows.courtParsesRow.func=some 3:=by kernel_rfl
theorem RC:joinedFacts Tryz.pinned.checked.prog 3 Tryz.f3 (OpenSpec.ofChange Rows.courtParsesSpec).bare Rows.courtParsesRow=true:=by kernel_rfl
theorem V2:Rows.CourtParsesSaid :=
 OpenClaim.holds_of_cond 3 Tryz.f3 rfl rfl rfl rfl rfl rfl rfl ⟨rfl,rfl,rfl,rfl,rfl⟩ rfl rfl rfl rfl rfl SZ Tryz.func3 RC
  (of_decide_eq_true (by kernel_rfl)) (by unfold Func.isWrapper; first | (rw [if_pos (by decide +kernel)]; kernel_rfl) | (rw [if_neg (by decide +kernel)]; exact ⟨rfl,rfl⟩))
  (fun os started H enc _ F=>by rw [OpenClaim.pre_eq_preRow]; exact T7 os started H enc F)
theorem plain (f : FuncId) (fn : Func) (hf : Tryz.pinned.checked.prog.funcNamed "trestle/trestlelaw03.CourtParses" = some f) (hfn : Tryz.pinned.checked.prog.funcs[f]? = some fn) :
  true=Tryz.pinned.checked.prog.looks []/\∀ (j:Nat) t,fn.params[j]? = some t->Tryz.pinned.checked.prog.wantsStandIn t=false:=by
 obtain rfl : f = 3 := OI ((show Tryz.prog.funcNamed "trestle/trestlelaw03.CourtParses" = some 3 by kernel_rfl).symm.trans hf) |>.symm
 obtain rfl:fn=Tryz.f3:=(OI (Tryz.func3.symm.trans hfn)).symm
 refine ⟨by kernel_rfl,fun j t ht=>?_⟩
 have hm:t ∈ Tryz.f3.params.toList:=by simpa using Array.mem_of_getElem? ht
 exact (show Tryz.prog.wantsStandIn t=false from Bool.not_eq_true' _ |>.mp (I1 (fun t=>!Tryz.prog.wantsStandIn t) (by kernel_rfl) hm))
theorem card:Rows.CourtParsesCardSaid :=
 Claim7.holds_tied_plain_at .later [] _ _ _ _ V2 (fun _ h=>by cases h) (by kernel_rfl) (fun _ h=>by cases h) courtParses_row_tie rfl ⟨rfl,rfl⟩ (by kernel_rfl) rfl plain (by kernel_rfl)
end Go.Proofs.YtdjhmdbpcfnpgaaGreatDoor.courtParses
