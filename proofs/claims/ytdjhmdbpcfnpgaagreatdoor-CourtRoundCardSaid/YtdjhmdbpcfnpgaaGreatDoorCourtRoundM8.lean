/-  -/
import Derived.Test.YtdjhmdbpcfnpgaaGreatDoorCourtRoundM1
import Derived.Test.YtdjhmdbpcfnpgaaGreatDoorCourtRoundM2
import Derived.Test.YtdjhmdbpcfnpgaaGreatDoorCourtRoundM3
import Derived.Test.YtdjhmdbpcfnpgaaGreatDoorCourtRoundM4
import Derived.Test.YtdjhmdbpcfnpgaaGreatDoorCourtRoundM5
import Derived.Test.YtdjhmdbpcfnpgaaGreatDoorCourtRoundM6
import Derived.Test.YtdjhmdbpcfnpgaaGreatDoorCourtRoundM7
namespace Go.Proofs.YtdjhmdbpcfnpgaaGreatDoor.courtRound
open Go.ChangeShapes Go.WideShapes Go.ChangeAt Go.RowKit
theorem T9 (a0:(List (Int×Int×Int×Bool×Bool))) (a1:(List UInt8)) (h:Cj a0 a1=some true){w:World}{v0 v1:Value}(h0:VR w (fun c=>c < w.heap.size) [] ((cdL 5 (cdA (csC (cdK .u8) (csC (cdK .u8) (csC (cdK .u8) (csC cdB (csE cdB))))) (fun _=>rfl))).enc a0) v0) (h1:VR w (fun c=>c < w.heap.size) [] (cdS.enc a1) v1):Ret Tryz.prog 4 #[v0,v1] w fun v w'=>v = .bool true/\w.grownBy w' none :=
 Ret.mono (J4.2 (Cw.enc (a0,a1,())) (Dr true) (NO (s:=Cw) (a:=(a0,a1,())) h) w (fun c=>c < w.heap.size) [v0,v1] (fun c hc=>hc) (fun g x h=>by cases h) (.cons h0 (.cons h1 .nil))) fun v w' h=>⟨h.2.v_inv,h.1⟩
set_option maxRecDepth 100000 in
theorem SE (H:Type) (enc:TypeId×Value->H) (W:World) (base:Nat) (args:Array Value) (ds gs:List (DataW H)) (before:List MemPlace)
  (hval:∀ (j:Nat) t v,Tryz.f4.params[j]? = some t->args[j]? = some v->Value.okWide Tryz.prog W .any base t v)
  (hW:DataW.Whole enc Tryz.prog Tryz.f4.params.toList Rows.courtRoundSpec.vars false W args.toList ds gs before)
  (hsz:(DataW.weightsEach Tryz.prog (Tryz.f4.params.toList++(OpenSpec.ofChange Rows.courtRoundSpec).bare.plain.varTypes Tryz.prog) (ds++gs)).all (·<=reachBytes)=true) :
  Calls Tryz.prog 4 args W fun e W'=>∃ v,e = .returned v/\Rows.courtRoundSpec.post enc Tryz.prog Tryz.f4 false true false false W args v W':=by
 have hW':=hW
 obtain ⟨p,q,hA0,hV,rfl,hfz,hnd⟩:=hW
 have hA:DataW.TrodAll enc Tryz.prog W 0 (fun _=>true) true Tryz.f4.params.toList args.toList ds p:=hA0
 have hpar:Tryz.f4.params=#[24,9]:=by kernel_rfl
 rw [hpar] at hA hval
 obtain ⟨v0,vs0,d0,ds0,p0,q0,hargs,rfl,rfl,h0,r0⟩:=trodAll_cons hA
 obtain ⟨v1,vs1,d1,ds1,p1,q1,rfl,rfl,rfl,h1,r1⟩:=trodAll_cons r0
 obtain ⟨rfl,rfl,rfl⟩:=trodAll_nil r1
 obtain rfl:args=#[v0,v1]:=by apply Array.ext'; simpa using hargs
 obtain ⟨a0, k0, g0⟩ := Ta (Sp (by kernel_rfl : Tryz.prog.underlying 24 = some (.slice 63)) (by kernel_rfl) (by kernel_rfl) (by kernel_rfl) (by kernel_rfl) (RN (hn := fun _ => rfl) (fs := #[(Field.mk "Kind" 5 0 false "" "" 0), (Field.mk "N" 5 1 false "" "" 1), (Field.mk "Names" 5 2 false "" "" 2), (Field.mk "Last" 4 3 false "" "" 3), (Field.mk "Among" 4 4 false "" "" 4)]) (by kernel_rfl) (by kernel_rfl) (fun _ => rfl) (fun _ => rfl) (NE (RL (by kernel_rfl : Tryz.prog.underlying 5 = some (.int .u8)) (by kernel_rfl)) rfl (by kernel_rfl) (fun _ => rfl) (NE (RL (by kernel_rfl : Tryz.prog.underlying 5 = some (.int .u8)) (by kernel_rfl)) rfl (by kernel_rfl) (fun _ => rfl) (NE (RL (by kernel_rfl : Tryz.prog.underlying 5 = some (.int .u8)) (by kernel_rfl)) rfl (by kernel_rfl) (fun _ => rfl) (NE (RK (by kernel_rfl : Tryz.prog.underlying 4 = some .bool) (by kernel_rfl)) rfl (by kernel_rfl) (fun _ => rfl) (Vh (RK (by kernel_rfl : Tryz.prog.underlying 4 = some .bool) (by kernel_rfl)) rfl (by kernel_rfl) (fun _ => rfl)))))))) (Q8 (by kernel_rfl : Tryz.prog.underlying 24 = some (.slice 63)) (hval 0 24 v0 rfl rfl)) (fun _ => rfl) h0 hsz (j := 0) (by kernel_rfl) rfl
 obtain ⟨a1,k1,g1⟩:=Ta (RM (by kernel_rfl:Tryz.prog.underlying 9=some .string) (by kernel_rfl)) (P2 (by kernel_rfl:Tryz.prog.underlying 9=some .string) (hval 1 9 v1 rfl rfl)) (fun _=>rfl) h1 hsz (j:=1) (by kernel_rfl) rfl
 have hc:=T9 a0 a1 (RO a0 (fun v hv=>⟨bounds_u8 (g0.2 v hv).1,bounds_u8 (g0.2 v hv).2.1,bounds_u8 (g0.2 v hv).2.2.1⟩) a1) k0 k1
 unfold Ret at hc
 refine hc.mono fun e W' he=>?_
 cases e with
 | returned v =>
  obtain ⟨rfl,hg⟩:=he
  exact ⟨_,rfl,RJ T8 (fun t ht=>⟨JI (fun t=>Tryz.prog.readableRec t) (by kernel_rfl) ht,of_decide_eq_true (JI (fun t=>decide (t < Tryz.prog.types.size)) (by kernel_rfl) ht)⟩) hW' rfl (by kernel_rfl) (by kernel_rfl:Tryz.prog.underlying 4=some .bool) rfl hg⟩
 | panicked c=>exact he.elim
 | outgrown=>exact he.elim
theorem SX (os:Os):laidMet Tryz.prog Rows.courtRoundRow.laid ((LX os).forCall (fun _ _=>0) ⟨#[],#[Value.slice none 0 0,Value.string ⟨#[]⟩],[]⟩).memory :=
 laidMet_of_run' 8 (by kernel_rfl) (by kernel_rfl)
theorem W5 (os:Os){H:Type}(enc:TypeId×Value->H):∃ places,DataW.whole enc Tryz.prog ((LX os).forCall (fun _ _=>0) ⟨#[],#[Value.slice none 0 0,Value.string ⟨#[]⟩],[]⟩).memory Tryz.f4.params.toList Rows.courtRoundSpec.vars false #[Value.slice none 0 0,Value.string ⟨#[]⟩].toList 8=some ([.nil,.lit (.string [])],[],places) :=
 ⟨[],by kernel_rfl⟩
set_option maxRecDepth 100000 in
theorem VI (os:Os) (started:os.Started) (H:Type) (enc:TypeId×Value->H) (F:Stop.Interp) :
  ReturnsInHanded {} Tryz.checked os 4 .any ((OpenSpec.ofChange Rows.courtRoundSpec).preRow enc Tryz.prog Tryz.f4 Rows.courtRoundRow.domain false Rows.courtRoundRow.laid) (((OpenSpec.ofChange Rows.courtRoundSpec).at F).post enc Tryz.prog Tryz.f4 false true false false):=by
 obtain ⟨places,hx⟩:=W5 os enc
 refine returnsInHanded_of_row (C:=Tryz.checked) (s:=OpenSpec.ofChange Rows.courtRoundSpec) Sk started (by kernel_rfl) Tryz.func4
  (witness_row_at (enc:=enc) (C:=Tryz.checked) false (LX os) #[Value.slice none 0 0,Value.string ⟨#[]⟩] rfl (by kernel_rfl) (by kernel_rfl) (by kernel_rfl)
   (OpenSpec.preRow_of_cond 8 hx (by kernel_rfl) (fun k hk=>by cases hk) (by kernel_rfl) (SX os))) ?_
 intro W base args ds gs before hval hW _ _ hsz _ _ _
 exact SE H enc W base args ds gs before hval hW hsz
theorem Tn:Tryz.pinned.checked.prog.funcNamed Rows.courtRoundRow.func=some 4:=by kernel_rfl
theorem SB:joinedFacts Tryz.pinned.checked.prog 4 Tryz.f4 (OpenSpec.ofChange Rows.courtRoundSpec).bare Rows.courtRoundRow=true:=by kernel_rfl
theorem XU:Rows.CourtRoundSaid :=
 OpenClaim.holds_of_cond 4 Tryz.f4 rfl rfl rfl rfl rfl rfl rfl ⟨rfl,rfl,rfl,rfl,rfl⟩ rfl rfl rfl rfl rfl Tn Tryz.func4 SB
  (of_decide_eq_true (by kernel_rfl)) (by unfold Func.isWrapper; first | (rw [if_pos (by decide +kernel)]; kernel_rfl) | (rw [if_neg (by decide +kernel)]; exact ⟨rfl,rfl⟩))
  (fun os started H enc _ F=>by rw [OpenClaim.pre_eq_preRow]; exact VI os started H enc F)
theorem W2 (f : FuncId) (fn : Func) (hf : Tryz.pinned.checked.prog.funcNamed "trestle/trestlelaw03.CourtRound" = some f) (hfn : Tryz.pinned.checked.prog.funcs[f]? = some fn) :
  true=Tryz.pinned.checked.prog.looks []/\∀ (j:Nat) t,fn.params[j]? = some t->Tryz.pinned.checked.prog.wantsStandIn t=false:=by
 obtain rfl : f = 4 := OI ((show Tryz.prog.funcNamed "trestle/trestlelaw03.CourtRound" = some 4 by kernel_rfl).symm.trans hf) |>.symm
 obtain rfl:fn=Tryz.f4:=(OI (Tryz.func4.symm.trans hfn)).symm
 refine ⟨by kernel_rfl,fun j t ht=>?_⟩
 have hm:t ∈ Tryz.f4.params.toList:=by simpa using Array.mem_of_getElem? ht
 exact (show Tryz.prog.wantsStandIn t=false from Bool.not_eq_true' _ |>.mp (JI (fun t=>!Tryz.prog.wantsStandIn t) (by kernel_rfl) hm))
theorem card:Rows.CourtRoundCardSaid :=
 Claim7.holds_tied_plain_at .later [] _ _ _ _ XU (fun _ h=>by cases h) (by kernel_rfl) (fun _ h=>by cases h) courtRound_row_tie rfl ⟨rfl,rfl⟩ (by kernel_rfl) rfl W2 (by kernel_rfl)
end Go.Proofs.YtdjhmdbpcfnpgaaGreatDoor.courtRound
