/- trestlelaw03.CourtFormats returns true for every input, and its arguments read behind the call as before; conditions: those that the given row names. -/
import Derived.Test.YtiphapnckldpbaaGreatDoorCourtFormatsM1
import Derived.Test.YtiphapnckldpbaaGreatDoorCourtFormatsM2
import Derived.Test.YtiphapnckldpbaaGreatDoorCourtFormatsM3
import Derived.Test.YtiphapnckldpbaaGreatDoorCourtFormatsM4
import Derived.Test.YtiphapnckldpbaaGreatDoorCourtFormatsM5
import Derived.Test.YtiphapnckldpbaaGreatDoorCourtFormatsM6
namespace Go.Proofs.YtiphapnckldpbaaGreatDoor.courtFormats
open Go.ChangeShapes Go.WideShapes Go.ChangeAt Go.RowKit
theorem SN (a0:(List AG)) (h:CH a0=some true){w:World}{v0:Value}(h0:VR w (fun c=>c < w.heap.size) [] ((cdL 5 AA).enc a0) v0):Ret Tryz.prog 7 #[v0] w fun v w'=>v = .bool true/\w.grownBy w' none :=
 Ret.mono (Ih.2 (CX.enc (a0,())) (DI true) (Ms (s:=CX) (a:=(a0,())) h) w (fun c=>c < w.heap.size) [v0] (fun c hc=>hc) (fun g x h=>by cases h) (.cons h0 .nil)) fun v w' h=>⟨h.2.v_inv,h.1⟩
set_option maxRecDepth 100000 in
theorem Qo (H:Type) (enc:TypeId×Value->H) (W:World) (base:Nat) (args:Array Value) (ds gs:List (DataW H)) (before:List MemPlace)
  (hval:∀ (j:Nat) t v,Tryz.f7.params[j]? = some t->args[j]? = some v->Value.okWide Tryz.prog W .any base t v)
  (hW:DataW.Whole enc Tryz.prog Tryz.f7.params.toList Rows.courtFormatsSpec.vars false W args.toList ds gs before)
  (hsz:(DataW.weightsEach Tryz.prog (Tryz.f7.params.toList++(OpenSpec.ofChange Rows.courtFormatsSpec).bare.plain.varTypes Tryz.prog) (ds++gs)).all (·<=reachBytes)=true) :
  Calls Tryz.prog 7 args W fun e W'=>∃ v,e = .returned v/\Rows.courtFormatsSpec.post enc Tryz.prog Tryz.f7 false true false false W args v W':=by
 have hW':=hW
 obtain ⟨p,q,hA0,hV,rfl,hfz,hnd⟩:=hW
 have hA:DataW.TrodAll enc Tryz.prog W 0 (fun _=>true) true Tryz.f7.params.toList args.toList ds p:=hA0
 have hpar:Tryz.f7.params=#[22]:=by kernel_rfl
 rw [hpar] at hA hval
 obtain ⟨v0,vs0,d0,ds0,p0,q0,hargs,rfl,rfl,h0,r0⟩:=trodAll_cons hA
 obtain ⟨rfl,rfl,rfl⟩:=trodAll_nil r0
 obtain rfl:args=#[v0]:=by apply Array.ext'; simpa using hargs
 obtain ⟨a0, k0, g0⟩ := TY (Ow (by kernel_rfl : Tryz.prog.underlying 22 = some (.slice 70)) (by kernel_rfl) (by kernel_rfl) (by kernel_rfl) (by kernel_rfl) (QJ (hn := fun _ => rfl) (fs := #[(Field.mk "Kind" 68 0 false "" "" 0), (Field.mk "Among" 9 1 false "" "" 8), (Field.mk "Last" 4 2 false "" "" 24), (Field.mk "Names" 42 3 false "" "" 32), (Field.mk "N" 3 4 false "" "" 56)]) (by kernel_rfl) (by kernel_rfl) (fun _ => rfl) (fun _ => rfl) (Mh (Rj (by kernel_rfl : Tryz.prog.underlying 68 = some (.int .u8)) (by kernel_rfl)) rfl (by kernel_rfl) (fun _ => rfl) (Mh (NQ (by kernel_rfl : Tryz.prog.underlying 9 = some .string) (by kernel_rfl)) rfl (by kernel_rfl) (fun _ => rfl) (Mh (Sd (by kernel_rfl : Tryz.prog.underlying 4 = some .bool) (by kernel_rfl)) rfl (by kernel_rfl) (fun _ => rfl) (Mh (Ow (by kernel_rfl : Tryz.prog.underlying 42 = some (.slice 9)) (by kernel_rfl) (by kernel_rfl) (by kernel_rfl) (by kernel_rfl) (NQ (by kernel_rfl : Tryz.prog.underlying 9 = some .string) (by kernel_rfl))) rfl (by kernel_rfl) (fun _ => rfl) (TZ (RC (by kernel_rfl : Tryz.prog.underlying 3 = some (.int .i64)) (by kernel_rfl)) rfl (by kernel_rfl) (fun _ => rfl)))))))) (QF (by kernel_rfl : Tryz.prog.underlying 22 = some (.slice 70)) (hval 0 22 v0 rfl rfl)) (fun _ => rfl) h0 hsz (j := 0) (by kernel_rfl) rfl
 have hc:=SN a0 (Nz a0) k0
 unfold Ret at hc
 refine hc.mono fun e W' he=>?_
 cases e with
 | returned v =>
  obtain ⟨rfl,hg⟩:=he
  exact ⟨_,rfl,QI SM (fun t ht=>⟨I4 (fun t=>Tryz.prog.readableRec t) (by kernel_rfl) ht,of_decide_eq_true (I4 (fun t=>decide (t < Tryz.prog.types.size)) (by kernel_rfl) ht)⟩) hW' rfl (by kernel_rfl) (by kernel_rfl:Tryz.prog.underlying 4=some .bool) rfl hg⟩
 | panicked c=>exact he.elim
 | outgrown=>exact he.elim
theorem Q1 (os:Os):laidMet Tryz.prog Rows.courtFormatsRow.laid ((K4 os).forCall (fun _ _=>0) ⟨#[],#[Value.slice none 0 0],[]⟩).memory :=
 laidMet_of_run' 8 (by kernel_rfl) (by kernel_rfl)
theorem Uc (os:Os){H:Type}(enc:TypeId×Value->H):∃ places,DataW.whole enc Tryz.prog ((K4 os).forCall (fun _ _=>0) ⟨#[],#[Value.slice none 0 0],[]⟩).memory Tryz.f7.params.toList Rows.courtFormatsSpec.vars false #[Value.slice none 0 0].toList 8=some ([.nil],[],places) :=
 ⟨[],by kernel_rfl⟩
set_option maxRecDepth 100000 in
theorem TP (os:Os) (started:os.Started) (H:Type) (enc:TypeId×Value->H) (F:Stop.Interp) :
  ReturnsInHanded {} Tryz.checked os 7 .any ((OpenSpec.ofChange Rows.courtFormatsSpec).preRow enc Tryz.prog Tryz.f7 Rows.courtFormatsRow.domain false Rows.courtFormatsRow.laid) (((OpenSpec.ofChange Rows.courtFormatsSpec).at F).post enc Tryz.prog Tryz.f7 false true false false):=by
 obtain ⟨places,hx⟩:=Uc os enc
 refine returnsInHanded_of_row (C:=Tryz.checked) (s:=OpenSpec.ofChange Rows.courtFormatsSpec) Q8 started (by kernel_rfl) Tryz.func7
  (witness_row_at (enc:=enc) (C:=Tryz.checked) false (K4 os) #[Value.slice none 0 0] rfl (by kernel_rfl) (by kernel_rfl) (by kernel_rfl)
   (OpenSpec.preRow_of_cond 8 hx (by kernel_rfl) (fun k hk=>by cases hk) (by kernel_rfl) (Q1 os))) ?_
 intro W base args ds gs before hval hW _ _ hsz _ _ _
 exact Qo H enc W base args ds gs before hval hW hsz
theorem Rw:Tryz.pinned.checked.prog.funcNamed Rows.courtFormatsRow.func=some 7:=by kernel_rfl
theorem Qn:joinedFacts Tryz.pinned.checked.prog 7 Tryz.f7 (OpenSpec.ofChange Rows.courtFormatsSpec).bare Rows.courtFormatsRow=true:=by kernel_rfl
theorem Uw:Rows.CourtFormatsSaid :=
 OpenClaim.holds_of_cond 7 Tryz.f7 rfl rfl rfl rfl rfl rfl rfl ⟨rfl,rfl,rfl,rfl,rfl⟩ rfl rfl rfl rfl rfl Rw Tryz.func7 Qn
  (of_decide_eq_true (by kernel_rfl)) (by unfold Func.isWrapper; first | (rw [if_pos (by decide +kernel)]; kernel_rfl) | (rw [if_neg (by decide +kernel)]; exact ⟨rfl,rfl⟩))
  (fun os started H enc _ F=>by rw [OpenClaim.pre_eq_preRow]; exact TP os started H enc F)
theorem Ub (f : FuncId) (fn : Func) (hf : Tryz.pinned.checked.prog.funcNamed "trestle/trestlelaw03.CourtFormats" = some f) (hfn : Tryz.pinned.checked.prog.funcs[f]? = some fn) :
  true=Tryz.pinned.checked.prog.looks []/\∀ (j:Nat) t,fn.params[j]? = some t->Tryz.pinned.checked.prog.wantsStandIn t=false:=by
 obtain rfl : f = 7 := OI ((show Tryz.prog.funcNamed "trestle/trestlelaw03.CourtFormats" = some 7 by kernel_rfl).symm.trans hf) |>.symm
 obtain rfl:fn=Tryz.f7:=(OI (Tryz.func7.symm.trans hfn)).symm
 refine ⟨by kernel_rfl,fun j t ht=>?_⟩
 have hm:t ∈ Tryz.f7.params.toList:=by simpa using Array.mem_of_getElem? ht
 exact (show Tryz.prog.wantsStandIn t=false from Bool.not_eq_true' _ |>.mp (I4 (fun t=>!Tryz.prog.wantsStandIn t) (by kernel_rfl) hm))
theorem card:Rows.CourtFormatsCardSaid :=
 Claim7.holds_tied_plain_at .later [] _ _ _ _ Uw (fun _ h=>by cases h) (by kernel_rfl) (fun _ h=>by cases h) courtFormats_row_tie rfl ⟨rfl,rfl⟩ (by kernel_rfl) rfl Ub (by kernel_rfl)
end Go.Proofs.YtiphapnckldpbaaGreatDoor.courtFormats
