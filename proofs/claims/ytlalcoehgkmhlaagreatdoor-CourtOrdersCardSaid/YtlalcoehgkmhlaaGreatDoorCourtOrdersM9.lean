/- trestlelaw03.CourtOrders returns true for every input, and its arguments read behind the call as before; conditions: those that the given row names. -/
import Derived.Test.YtlalcoehgkmhlaaGreatDoorCourtOrdersM1
import Derived.Test.YtlalcoehgkmhlaaGreatDoorCourtOrdersM2
import Derived.Test.YtlalcoehgkmhlaaGreatDoorCourtOrdersM3
import Derived.Test.YtlalcoehgkmhlaaGreatDoorCourtOrdersM4
import Derived.Test.YtlalcoehgkmhlaaGreatDoorCourtOrdersM5
import Derived.Test.YtlalcoehgkmhlaaGreatDoorCourtOrdersM6
import Derived.Test.YtlalcoehgkmhlaaGreatDoorCourtOrdersM7
import Derived.Test.YtlalcoehgkmhlaaGreatDoorCourtOrdersM8
namespace Go.Proofs.YtlalcoehgkmhlaaGreatDoor.courtOrders
open Go.ChangeShapes Go.WideShapes Go.ChangeAt Go.RowKit
theorem ACZ (a0:(List AH)) (a1:(List Af)) (h:ET a0 a1=some true){w:World}{v0 v1:Value}(h0:VR w (fun c=>c < w.heap.size) [] ((cdL 5 AA).enc a0) v0) (h1:VR w (fun c=>c < w.heap.size) [] ((cdL 9 AE).enc a1) v1):Ret Tryz.prog 3 #[v0,v1] w fun v w'=>v = .bool true/\w.grownBy w' none :=
 Ret.mono (Pa.2 (FE.enc (a0,a1,())) (GT true) (SP (s:=FE) (a:=(a0,a1,())) h) w (fun c=>c < w.heap.size) [v0,v1] (fun c hc=>hc) (fun g x h=>by cases h) (.cons h0 (.cons h1 .nil))) fun v w' h=>⟨h.2.v_inv,h.1⟩
set_option maxRecDepth 100000 in
theorem AAc (H:Type) (enc:TypeId×Value->H) (W:World) (base:Nat) (args:Array Value) (ds gs:List (DataW H)) (before:List MemPlace)
  (hval:∀ (j:Nat) t v,Tryz.f3.params[j]? = some t->args[j]? = some v->Value.okWide Tryz.prog W .any base t v)
  (hW:DataW.Whole enc Tryz.prog Tryz.f3.params.toList Rows.courtOrdersSpec.vars false W args.toList ds gs before)
  (hsz:(DataW.weightsEach Tryz.prog (Tryz.f3.params.toList++(OpenSpec.ofChange Rows.courtOrdersSpec).bare.plain.varTypes Tryz.prog) (ds++gs)).all (·<=reachBytes)=true) :
  Calls Tryz.prog 3 args W fun e W'=>∃ v,e = .returned v/\Rows.courtOrdersSpec.post enc Tryz.prog Tryz.f3 false true false false W args v W':=by
 have hW':=hW
 obtain ⟨p,q,hA0,hV,rfl,hfz,hnd⟩:=hW
 have hA:DataW.TrodAll enc Tryz.prog W 0 (fun _=>true) true Tryz.f3.params.toList args.toList ds p:=hA0
 have hpar:Tryz.f3.params=#[22,23]:=by kernel_rfl
 rw [hpar] at hA hval
 obtain ⟨v0,vs0,d0,ds0,p0,q0,hargs,rfl,rfl,h0,r0⟩:=trodAll_cons hA
 obtain ⟨v1,vs1,d1,ds1,p1,q1,rfl,rfl,rfl,h1,r1⟩:=trodAll_cons r0
 obtain ⟨rfl,rfl,rfl⟩:=trodAll_nil r1
 obtain rfl:args=#[v0,v1]:=by apply Array.ext'; simpa using hargs
 obtain ⟨a0, k0, g0⟩ := ABl (QA (by kernel_rfl : Tryz.prog.underlying 22 = some (.slice 60)) (by kernel_rfl) (by kernel_rfl) (by kernel_rfl) (by kernel_rfl) (WI (hn := fun _ => rfl) (fs := #[(Field.mk "Kind" 58 0 false "" "" 0), (Field.mk "Among" 9 1 false "" "" 8), (Field.mk "Last" 4 2 false "" "" 24), (Field.mk "Names" 40 3 false "" "" 32), (Field.mk "N" 3 4 false "" "" 56)]) (by kernel_rfl) (by kernel_rfl) (fun _ => rfl) (fun _ => rfl) (KP (ABm (by kernel_rfl : Tryz.prog.underlying 58 = some (.int .u8)) (by kernel_rfl)) rfl (by kernel_rfl) (fun _ => rfl) (KP (LH (by kernel_rfl : Tryz.prog.underlying 9 = some .string) (by kernel_rfl)) rfl (by kernel_rfl) (fun _ => rfl) (KP (XN (by kernel_rfl : Tryz.prog.underlying 4 = some .bool) (by kernel_rfl)) rfl (by kernel_rfl) (fun _ => rfl) (KP (QA (by kernel_rfl : Tryz.prog.underlying 40 = some (.slice 9)) (by kernel_rfl) (by kernel_rfl) (by kernel_rfl) (by kernel_rfl) (LH (by kernel_rfl : Tryz.prog.underlying 9 = some .string) (by kernel_rfl))) rfl (by kernel_rfl) (fun _ => rfl) (ABn (VB (by kernel_rfl : Tryz.prog.underlying 3 = some (.int .i64)) (by kernel_rfl)) rfl (by kernel_rfl) (fun _ => rfl)))))))) (WE (by kernel_rfl : Tryz.prog.underlying 22 = some (.slice 60)) (hval 0 22 v0 rfl rfl)) (fun _ => rfl) h0 hsz (j := 0) (by kernel_rfl) rfl
 obtain ⟨a1, k1, g1⟩ := ABl (QA (by kernel_rfl : Tryz.prog.underlying 23 = some (.slice 42)) (by kernel_rfl) (by kernel_rfl) (by kernel_rfl) (by kernel_rfl) (WI (hn := fun _ => rfl) (fs := #[(Field.mk "Name" 9 0 false "" "" 0), (Field.mk "Rank" 9 1 false "" "" 16), (Field.mk "Court" 9 2 false "" "" 32), (Field.mk "Since" 3 3 false "" "" 48), (Field.mk "Side" 3 4 false "" "" 56), (Field.mk "Diet" 9 5 false "" "" 64), (Field.mk "Host" 4 6 false "" "" 80), (Field.mk "Access" 4 7 false "" "" 81), (Field.mk "Tongues" 40 8 false "" "" 88)]) (by kernel_rfl) (by kernel_rfl) (fun _ => rfl) (fun _ => rfl) (KP (LH (by kernel_rfl : Tryz.prog.underlying 9 = some .string) (by kernel_rfl)) rfl (by kernel_rfl) (fun _ => rfl) (KP (LH (by kernel_rfl : Tryz.prog.underlying 9 = some .string) (by kernel_rfl)) rfl (by kernel_rfl) (fun _ => rfl) (KP (LH (by kernel_rfl : Tryz.prog.underlying 9 = some .string) (by kernel_rfl)) rfl (by kernel_rfl) (fun _ => rfl) (KP (VB (by kernel_rfl : Tryz.prog.underlying 3 = some (.int .i64)) (by kernel_rfl)) rfl (by kernel_rfl) (fun _ => rfl) (KP (VB (by kernel_rfl : Tryz.prog.underlying 3 = some (.int .i64)) (by kernel_rfl)) rfl (by kernel_rfl) (fun _ => rfl) (KP (LH (by kernel_rfl : Tryz.prog.underlying 9 = some .string) (by kernel_rfl)) rfl (by kernel_rfl) (fun _ => rfl) (KP (XN (by kernel_rfl : Tryz.prog.underlying 4 = some .bool) (by kernel_rfl)) rfl (by kernel_rfl) (fun _ => rfl) (KP (XN (by kernel_rfl : Tryz.prog.underlying 4 = some .bool) (by kernel_rfl)) rfl (by kernel_rfl) (fun _ => rfl) (ABn (QA (by kernel_rfl : Tryz.prog.underlying 40 = some (.slice 9)) (by kernel_rfl) (by kernel_rfl) (by kernel_rfl) (by kernel_rfl) (LH (by kernel_rfl : Tryz.prog.underlying 9 = some .string) (by kernel_rfl))) rfl (by kernel_rfl) (fun _ => rfl)))))))))))) (WE (by kernel_rfl : Tryz.prog.underlying 23 = some (.slice 42)) (hval 1 23 v1 rfl rfl)) (fun _ => rfl) h1 hsz (j := 1) (by kernel_rfl) rfl
 have hc:=ACZ a0 a1 (Yp a0 a1 (fun v hv=>by have h:=(g1.2 v hv).2.2.2.2.2.2.2.2.1.2; have e:Tryz.prog.bytesOf 9=16:=(by kernel_rfl); rw [e] at h; omega)) k0 k1
 unfold Ret at hc
 refine hc.mono fun e W' he=>?_
 cases e with
 | returned v =>
  obtain ⟨rfl,hg⟩:=he
  exact ⟨_,rfl,Zu ACY (fun t ht=>⟨PV (fun t=>Tryz.prog.readableRec t) (by kernel_rfl) ht,of_decide_eq_true (PV (fun t=>decide (t < Tryz.prog.types.size)) (by kernel_rfl) ht)⟩) hW' rfl (by kernel_rfl) (by kernel_rfl:Tryz.prog.underlying 4=some .bool) rfl hg⟩
 | panicked c=>exact he.elim
 | outgrown=>exact he.elim
theorem AAs (os:Os):laidMet Tryz.prog Rows.courtOrdersRow.laid ((Sr os).forCall (fun _ _=>0) ⟨#[],#[Value.slice none 0 0,Value.slice none 0 0],[]⟩).memory :=
 laidMet_of_run' 8 (by kernel_rfl) (by kernel_rfl)
theorem AFg (os:Os){H:Type}(enc:TypeId×Value->H):∃ places,DataW.whole enc Tryz.prog ((Sr os).forCall (fun _ _=>0) ⟨#[],#[Value.slice none 0 0,Value.slice none 0 0],[]⟩).memory Tryz.f3.params.toList Rows.courtOrdersSpec.vars false #[Value.slice none 0 0,Value.slice none 0 0].toList 8=some ([.nil,.nil],[],places) :=
 ⟨[],by kernel_rfl⟩
set_option maxRecDepth 100000 in
theorem AEG (os:Os) (started:os.Started) (H:Type) (enc:TypeId×Value->H) (F:Stop.Interp) :
  ReturnsInHanded {} Tryz.checked os 3 .any ((OpenSpec.ofChange Rows.courtOrdersSpec).preRow enc Tryz.prog Tryz.f3 Rows.courtOrdersRow.domain false Rows.courtOrdersRow.laid) (((OpenSpec.ofChange Rows.courtOrdersSpec).at F).post enc Tryz.prog Tryz.f3 false true false false):=by
 obtain ⟨places,hx⟩:=AFg os enc
 refine returnsInHanded_of_row (C:=Tryz.checked) (s:=OpenSpec.ofChange Rows.courtOrdersSpec) AA4 started (by kernel_rfl) Tryz.func3
  (witness_row_at (enc:=enc) (C:=Tryz.checked) false (Sr os) #[Value.slice none 0 0,Value.slice none 0 0] rfl (by kernel_rfl) (by kernel_rfl) (by kernel_rfl)
   (OpenSpec.preRow_of_cond 8 hx (by kernel_rfl) (fun k hk=>by cases hk) (by kernel_rfl) (AAs os))) ?_
 intro W base args ds gs before hval hW _ _ hsz _ _ _
 exact AAc H enc W base args ds gs before hval hW hsz
theorem ABz:Tryz.pinned.checked.prog.funcNamed Rows.courtOrdersRow.func=some 3:=by kernel_rfl
theorem AAX:joinedFacts Tryz.pinned.checked.prog 3 Tryz.f3 (OpenSpec.ofChange Rows.courtOrdersSpec).bare Rows.courtOrdersRow=true:=by kernel_rfl
theorem AF3:Rows.CourtOrdersSaid :=
 OpenClaim.holds_of_cond 3 Tryz.f3 rfl rfl rfl rfl rfl rfl rfl ⟨rfl,rfl,rfl,rfl,rfl⟩ rfl rfl rfl rfl rfl ABz Tryz.func3 AAX
  (of_decide_eq_true (by kernel_rfl)) (by unfold Func.isWrapper; first | (rw [if_pos (by decide +kernel)]; kernel_rfl) | (rw [if_neg (by decide +kernel)]; exact ⟨rfl,rfl⟩))
  (fun os started H enc _ F=>by rw [OpenClaim.pre_eq_preRow]; exact AEG os started H enc F)
theorem AFe (f : FuncId) (fn : Func) (hf : Tryz.pinned.checked.prog.funcNamed "trestle/trestlelaw03.CourtOrders" = some f) (hfn : Tryz.pinned.checked.prog.funcs[f]? = some fn) :
  true=Tryz.pinned.checked.prog.looks []/\∀ (j:Nat) t,fn.params[j]? = some t->Tryz.pinned.checked.prog.wantsStandIn t=false:=by
 obtain rfl : f = 3 := OI ((show Tryz.prog.funcNamed "trestle/trestlelaw03.CourtOrders" = some 3 by kernel_rfl).symm.trans hf) |>.symm
 obtain rfl:fn=Tryz.f3:=(OI (Tryz.func3.symm.trans hfn)).symm
 refine ⟨by kernel_rfl,fun j t ht=>?_⟩
 have hm:t ∈ Tryz.f3.params.toList:=by simpa using Array.mem_of_getElem? ht
 exact (show Tryz.prog.wantsStandIn t=false from Bool.not_eq_true' _ |>.mp (PV (fun t=>!Tryz.prog.wantsStandIn t) (by kernel_rfl) hm))
theorem card:Rows.CourtOrdersCardSaid :=
 Claim7.holds_tied_plain_at .later [] _ _ _ _ AF3 (fun _ h=>by cases h) (by kernel_rfl) (fun _ h=>by cases h) courtOrders_row_tie rfl ⟨rfl,rfl⟩ (by kernel_rfl) rfl AFe (by kernel_rfl)
end Go.Proofs.YtlalcoehgkmhlaaGreatDoor.courtOrders
