/- trestlelaw03.CourtPairs returns true for every input, and its arguments read behind the call as before; conditions: those that the given row names. -/
import Derived.Test.YtlalcoehgkmhlaaGreatDoorCourtPairsM1
import Derived.Test.YtlalcoehgkmhlaaGreatDoorCourtPairsM2
import Derived.Test.YtlalcoehgkmhlaaGreatDoorCourtPairsM3
import Derived.Test.YtlalcoehgkmhlaaGreatDoorCourtPairsM4
import Derived.Test.YtlalcoehgkmhlaaGreatDoorCourtPairsM5
import Derived.Test.YtlalcoehgkmhlaaGreatDoorCourtPairsM6
import Derived.Test.YtlalcoehgkmhlaaGreatDoorCourtPairsM7
import Derived.Test.YtlalcoehgkmhlaaGreatDoorCourtPairsM8
namespace Go.Proofs.YtlalcoehgkmhlaaGreatDoor.courtPairs
open Go.ChangeShapes Go.WideShapes Go.ChangeAt Go.RowKit
theorem ADE (a0:(List (List AF))) (a1:(List Ai)) (a2:(List Int)) (h:Fc a0 a1 a2=some true){w:World}{v0 v1 v2:Value}(h0:VR w (fun c=>c < w.heap.size) [] ((cdL 1 (cdL 5 AA)).enc a0) v0) (h1:VR w (fun c=>c < w.heap.size) [] ((cdL 9 AE).enc a1) v1) (h2:VR w (fun c=>c < w.heap.size) [] ((cdL 1 cdI).enc a2) v2):Ret Tryz.prog 11 #[v0,v1,v2] w fun v w'=>v = .bool true/\w.grownBy w' none :=
 Ret.mono (RR.2 (GE.enc (a0,a1,a2,())) (HW true) (TV (s:=GE) (a:=(a0,a1,a2,())) h) w (fun c=>c < w.heap.size) [v0,v1,v2] (fun c hc=>hc) (fun g x h=>by cases h) (.cons h0 (.cons h1 (.cons h2 .nil)))) fun v w' h=>⟨h.2.v_inv,h.1⟩
set_option maxRecDepth 100000 in
theorem ABE (H:Type) (enc:TypeId×Value->H) (W:World) (base:Nat) (args:Array Value) (ds gs:List (DataW H)) (before:List MemPlace)
  (hval:∀ (j:Nat) t v,Tryz.f11.params[j]? = some t->args[j]? = some v->Value.okWide Tryz.prog W .any base t v)
  (hW:DataW.Whole enc Tryz.prog Tryz.f11.params.toList Rows.courtPairsSpec.vars false W args.toList ds gs before)
  (hsz:(DataW.weightsEach Tryz.prog (Tryz.f11.params.toList++(OpenSpec.ofChange Rows.courtPairsSpec).bare.plain.varTypes Tryz.prog) (ds++gs)).all (·<=reachBytes)=true) :
  Calls Tryz.prog 11 args W fun e W'=>∃ v,e = .returned v/\Rows.courtPairsSpec.post enc Tryz.prog Tryz.f11 false true false false W args v W':=by
 have hW':=hW
 obtain ⟨p,q,hA0,hV,rfl,hfz,hnd⟩:=hW
 have hA:DataW.TrodAll enc Tryz.prog W 0 (fun _=>true) true Tryz.f11.params.toList args.toList ds p:=hA0
 have hpar:Tryz.f11.params=#[68,23,48]:=by kernel_rfl
 rw [hpar] at hA hval
 obtain ⟨v0,vs0,d0,ds0,p0,q0,hargs,rfl,rfl,h0,r0⟩:=trodAll_cons hA
 obtain ⟨v1,vs1,d1,ds1,p1,q1,rfl,rfl,rfl,h1,r1⟩:=trodAll_cons r0
 obtain ⟨v2,vs2,d2,ds2,p2,q2,rfl,rfl,rfl,h2,r2⟩:=trodAll_cons r1
 obtain ⟨rfl,rfl,rfl⟩:=trodAll_nil r2
 obtain rfl:args=#[v0,v1,v2]:=by apply Array.ext'; simpa using hargs
 obtain ⟨a0, k0, g0⟩ := AAU (Pp (by kernel_rfl : Tryz.prog.underlying 68 = some (.slice 22)) (by kernel_rfl) (by kernel_rfl) (by kernel_rfl) (by kernel_rfl) (Pp (by kernel_rfl : Tryz.prog.underlying 22 = some (.slice 60)) (by kernel_rfl) (by kernel_rfl) (by kernel_rfl) (by kernel_rfl) (XK (hn := fun _ => rfl) (fs := #[(Field.mk "Kind" 58 0 false "" "" 0), (Field.mk "Among" 9 1 false "" "" 8), (Field.mk "Last" 4 2 false "" "" 24), (Field.mk "Names" 40 3 false "" "" 32), (Field.mk "N" 3 4 false "" "" 56)]) (by kernel_rfl) (by kernel_rfl) (fun _ => rfl) (fun _ => rfl) (LV (ACM (by kernel_rfl : Tryz.prog.underlying 58 = some (.int .u8)) (by kernel_rfl)) rfl (by kernel_rfl) (fun _ => rfl) (LV (MR (by kernel_rfl : Tryz.prog.underlying 9 = some .string) (by kernel_rfl)) rfl (by kernel_rfl) (fun _ => rfl) (LV (YE (by kernel_rfl : Tryz.prog.underlying 4 = some .bool) (by kernel_rfl)) rfl (by kernel_rfl) (fun _ => rfl) (LV (Pp (by kernel_rfl : Tryz.prog.underlying 40 = some (.slice 9)) (by kernel_rfl) (by kernel_rfl) (by kernel_rfl) (by kernel_rfl) (MR (by kernel_rfl : Tryz.prog.underlying 9 = some .string) (by kernel_rfl))) rfl (by kernel_rfl) (fun _ => rfl) (ACN (TQ (by kernel_rfl : Tryz.prog.underlying 3 = some (.int .i64)) (by kernel_rfl)) rfl (by kernel_rfl) (fun _ => rfl))))))))) (Tz (by kernel_rfl : Tryz.prog.underlying 68 = some (.slice 22)) (hval 0 68 v0 rfl rfl)) (fun _ => rfl) h0 hsz (j := 0) (by kernel_rfl) rfl
 obtain ⟨a1, k1, g1⟩ := AAU (Pp (by kernel_rfl : Tryz.prog.underlying 23 = some (.slice 42)) (by kernel_rfl) (by kernel_rfl) (by kernel_rfl) (by kernel_rfl) (XK (hn := fun _ => rfl) (fs := #[(Field.mk "Name" 9 0 false "" "" 0), (Field.mk "Rank" 9 1 false "" "" 16), (Field.mk "Court" 9 2 false "" "" 32), (Field.mk "Since" 3 3 false "" "" 48), (Field.mk "Side" 3 4 false "" "" 56), (Field.mk "Diet" 9 5 false "" "" 64), (Field.mk "Host" 4 6 false "" "" 80), (Field.mk "Access" 4 7 false "" "" 81), (Field.mk "Tongues" 40 8 false "" "" 88)]) (by kernel_rfl) (by kernel_rfl) (fun _ => rfl) (fun _ => rfl) (LV (MR (by kernel_rfl : Tryz.prog.underlying 9 = some .string) (by kernel_rfl)) rfl (by kernel_rfl) (fun _ => rfl) (LV (MR (by kernel_rfl : Tryz.prog.underlying 9 = some .string) (by kernel_rfl)) rfl (by kernel_rfl) (fun _ => rfl) (LV (MR (by kernel_rfl : Tryz.prog.underlying 9 = some .string) (by kernel_rfl)) rfl (by kernel_rfl) (fun _ => rfl) (LV (TQ (by kernel_rfl : Tryz.prog.underlying 3 = some (.int .i64)) (by kernel_rfl)) rfl (by kernel_rfl) (fun _ => rfl) (LV (TQ (by kernel_rfl : Tryz.prog.underlying 3 = some (.int .i64)) (by kernel_rfl)) rfl (by kernel_rfl) (fun _ => rfl) (LV (MR (by kernel_rfl : Tryz.prog.underlying 9 = some .string) (by kernel_rfl)) rfl (by kernel_rfl) (fun _ => rfl) (LV (YE (by kernel_rfl : Tryz.prog.underlying 4 = some .bool) (by kernel_rfl)) rfl (by kernel_rfl) (fun _ => rfl) (LV (YE (by kernel_rfl : Tryz.prog.underlying 4 = some .bool) (by kernel_rfl)) rfl (by kernel_rfl) (fun _ => rfl) (ACN (Pp (by kernel_rfl : Tryz.prog.underlying 40 = some (.slice 9)) (by kernel_rfl) (by kernel_rfl) (by kernel_rfl) (by kernel_rfl) (MR (by kernel_rfl : Tryz.prog.underlying 9 = some .string) (by kernel_rfl))) rfl (by kernel_rfl) (fun _ => rfl)))))))))))) (Tz (by kernel_rfl : Tryz.prog.underlying 23 = some (.slice 42)) (hval 1 23 v1 rfl rfl)) (fun _ => rfl) h1 hsz (j := 1) (by kernel_rfl) rfl
 obtain ⟨a2,k2,g2⟩:=AAU (Pp (by kernel_rfl:Tryz.prog.underlying 48=some (.slice 3)) (by kernel_rfl) (by kernel_rfl) (by kernel_rfl) (by kernel_rfl) (TQ (by kernel_rfl:Tryz.prog.underlying 3=some (.int .i64)) (by kernel_rfl))) (Tz (by kernel_rfl:Tryz.prog.underlying 48=some (.slice 3)) (hval 2 48 v2 rfl rfl)) (fun _=>rfl) h2 hsz (j:=2) (by kernel_rfl) rfl
 have hc:=ADE a0 a1 a2 (AAP a0 a1 a2) k0 k1 k2
 unfold Ret at hc
 refine hc.mono fun e W' he=>?_
 cases e with
 | returned v =>
  obtain ⟨rfl,hg⟩:=he
  exact ⟨_,rfl,AAR ADD (fun t ht=>⟨Qc (fun t=>Tryz.prog.readableRec t) (by kernel_rfl) ht,of_decide_eq_true (Qc (fun t=>decide (t < Tryz.prog.types.size)) (by kernel_rfl) ht)⟩) hW' rfl (by kernel_rfl) (by kernel_rfl:Tryz.prog.underlying 4=some .bool) rfl hg⟩
 | panicked c=>exact he.elim
 | outgrown=>exact he.elim
theorem ABT (os:Os):laidMet Tryz.prog Rows.courtPairsRow.laid ((Ts os).forCall (fun _ _=>0) ⟨#[],#[Value.slice none 0 0,Value.slice none 0 0,Value.slice none 0 0],[]⟩).memory :=
 laidMet_of_run' 8 (by kernel_rfl) (by kernel_rfl)
theorem AF9 (os:Os){H:Type}(enc:TypeId×Value->H):∃ places,DataW.whole enc Tryz.prog ((Ts os).forCall (fun _ _=>0) ⟨#[],#[Value.slice none 0 0,Value.slice none 0 0,Value.slice none 0 0],[]⟩).memory Tryz.f11.params.toList Rows.courtPairsSpec.vars false #[Value.slice none 0 0,Value.slice none 0 0,Value.slice none 0 0].toList 8=some ([.nil,.nil,.nil],[],places) :=
 ⟨[],by kernel_rfl⟩
set_option maxRecDepth 100000 in
theorem AEk (os:Os) (started:os.Started) (H:Type) (enc:TypeId×Value->H) (F:Stop.Interp) :
  ReturnsInHanded {} Tryz.checked os 11 .any ((OpenSpec.ofChange Rows.courtPairsSpec).preRow enc Tryz.prog Tryz.f11 Rows.courtPairsRow.domain false Rows.courtPairsRow.laid) (((OpenSpec.ofChange Rows.courtPairsSpec).at F).post enc Tryz.prog Tryz.f11 false true false false):=by
 obtain ⟨places,hx⟩:=AF9 os enc
 refine returnsInHanded_of_row (C:=Tryz.checked) (s:=OpenSpec.ofChange Rows.courtPairsSpec) ABf started (by kernel_rfl) Tryz.func11
  (witness_row_at (enc:=enc) (C:=Tryz.checked) false (Ts os) #[Value.slice none 0 0,Value.slice none 0 0,Value.slice none 0 0] rfl (by kernel_rfl) (by kernel_rfl) (by kernel_rfl)
   (OpenSpec.preRow_of_cond 8 hx (by kernel_rfl) (fun k hk=>by cases hk) (by kernel_rfl) (ABT os))) ?_
 intro W base args ds gs before hval hW _ _ hsz _ _ _
 exact ABE H enc W base args ds gs before hval hW hsz
theorem ACb:Tryz.pinned.checked.prog.funcNamed Rows.courtPairsRow.func=some 11:=by kernel_rfl
theorem ABB:joinedFacts Tryz.pinned.checked.prog 11 Tryz.f11 (OpenSpec.ofChange Rows.courtPairsSpec).bare Rows.courtPairsRow=true:=by kernel_rfl
theorem AGZ:Rows.CourtPairsSaid :=
 OpenClaim.holds_of_cond 11 Tryz.f11 rfl rfl rfl rfl rfl rfl rfl ⟨rfl,rfl,rfl,rfl,rfl⟩ rfl rfl rfl rfl rfl ACb Tryz.func11 ABB
  (of_decide_eq_true (by kernel_rfl)) (by unfold Func.isWrapper; first | (rw [if_pos (by decide +kernel)]; kernel_rfl) | (rw [if_neg (by decide +kernel)]; exact ⟨rfl,rfl⟩))
  (fun os started H enc _ F=>by rw [OpenClaim.pre_eq_preRow]; exact AEk os started H enc F)
theorem AF7 (f : FuncId) (fn : Func) (hf : Tryz.pinned.checked.prog.funcNamed "trestle/trestlelaw03.CourtPairs" = some f) (hfn : Tryz.pinned.checked.prog.funcs[f]? = some fn) :
  true=Tryz.pinned.checked.prog.looks []/\∀ (j:Nat) t,fn.params[j]? = some t->Tryz.pinned.checked.prog.wantsStandIn t=false:=by
 obtain rfl : f = 11 := OI ((show Tryz.prog.funcNamed "trestle/trestlelaw03.CourtPairs" = some 11 by kernel_rfl).symm.trans hf) |>.symm
 obtain rfl:fn=Tryz.f11:=(OI (Tryz.func11.symm.trans hfn)).symm
 refine ⟨by kernel_rfl,fun j t ht=>?_⟩
 have hm:t ∈ Tryz.f11.params.toList:=by simpa using Array.mem_of_getElem? ht
 exact (show Tryz.prog.wantsStandIn t=false from Bool.not_eq_true' _ |>.mp (Qc (fun t=>!Tryz.prog.wantsStandIn t) (by kernel_rfl) hm))
theorem card:Rows.CourtPairsCardSaid :=
 Claim7.holds_tied_plain_at .later [] _ _ _ _ AGZ (fun _ h=>by cases h) (by kernel_rfl) (fun _ h=>by cases h) courtPairs_row_tie rfl ⟨rfl,rfl⟩ (by kernel_rfl) rfl AF7 (by kernel_rfl)
end Go.Proofs.YtlalcoehgkmhlaaGreatDoor.courtPairs
