/- trestlelaw03.CourtCompromises returns true for every input, and its arguments read behind the call as before; conditions: those that the given row names. -/
import Derived.Test.YtlalcoehgkmhlaaGreatDoorCourtCompromisesM1
import Derived.Test.YtlalcoehgkmhlaaGreatDoorCourtCompromisesM2
import Derived.Test.YtlalcoehgkmhlaaGreatDoorCourtCompromisesM3
import Derived.Test.YtlalcoehgkmhlaaGreatDoorCourtCompromisesM4
import Derived.Test.YtlalcoehgkmhlaaGreatDoorCourtCompromisesM5
import Derived.Test.YtlalcoehgkmhlaaGreatDoorCourtCompromisesM6
import Derived.Test.YtlalcoehgkmhlaaGreatDoorCourtCompromisesM7
import Derived.Test.YtlalcoehgkmhlaaGreatDoorCourtCompromisesM8
import Derived.Test.YtlalcoehgkmhlaaGreatDoorCourtCompromisesM9
import Derived.Test.YtlalcoehgkmhlaaGreatDoorCourtCompromisesM10
namespace Go.Proofs.YtlalcoehgkmhlaaGreatDoor.courtCompromises
open Go.ChangeShapes Go.WideShapes Go.ChangeAt Go.RowKit
theorem ABk (a0:(List (List AG))) (a1:(List Ai)) (h:DJ a0 a1=some true){w:World}{v0 v1:Value}(h0:VR w (fun c=>c < w.heap.size) [] ((cdL 1 (cdL 5 AA)).enc a0) v0) (h1:VR w (fun c=>c < w.heap.size) [] ((cdL 9 AE).enc a1) v1):Ret Tryz.prog 10 #[v0,v1] w fun v w'=>v = .bool true/\w.grownBy w' none :=
 Ret.mono (MV.2 (Dq.enc (a0,a1,())) (Ei true) (Rn (s:=Dq) (a:=(a0,a1,())) h) w (fun c=>c < w.heap.size) [v0,v1] (fun c hc=>hc) (fun g x h=>by cases h) (.cons h0 (.cons h1 .nil))) fun v w' h=>⟨h.2.v_inv,h.1⟩
set_option maxRecDepth 100000 in
theorem ZP (H:Type) (enc:TypeId×Value->H) (W:World) (base:Nat) (args:Array Value) (ds gs:List (DataW H)) (before:List MemPlace)
  (hval:∀ (j:Nat) t v,Tryz.f10.params[j]? = some t->args[j]? = some v->Value.okWide Tryz.prog W .any base t v)
  (hW:DataW.Whole enc Tryz.prog Tryz.f10.params.toList Rows.courtCompromisesSpec.vars false W args.toList ds gs before)
  (hsz:(DataW.weightsEach Tryz.prog (Tryz.f10.params.toList++(OpenSpec.ofChange Rows.courtCompromisesSpec).bare.plain.varTypes Tryz.prog) (ds++gs)).all (·<=reachBytes)=true) :
  Calls Tryz.prog 10 args W fun e W'=>∃ v,e = .returned v/\Rows.courtCompromisesSpec.post enc Tryz.prog Tryz.f10 false true false false W args v W':=by
 have hW':=hW
 obtain ⟨p,q,hA0,hV,rfl,hfz,hnd⟩:=hW
 have hA:DataW.TrodAll enc Tryz.prog W 0 (fun _=>true) true Tryz.f10.params.toList args.toList ds p:=hA0
 have hpar:Tryz.f10.params=#[68,23]:=by kernel_rfl
 rw [hpar] at hA hval
 obtain ⟨v0,vs0,d0,ds0,p0,q0,hargs,rfl,rfl,h0,r0⟩:=trodAll_cons hA
 obtain ⟨v1,vs1,d1,ds1,p1,q1,rfl,rfl,rfl,h1,r1⟩:=trodAll_cons r0
 obtain ⟨rfl,rfl,rfl⟩:=trodAll_nil r1
 obtain rfl:args=#[v0,v1]:=by apply Array.ext'; simpa using hargs
 obtain ⟨a0, k0, g0⟩ := AAm (N7 (by kernel_rfl : Tryz.prog.underlying 68 = some (.slice 22)) (by kernel_rfl) (by kernel_rfl) (by kernel_rfl) (by kernel_rfl) (N7 (by kernel_rfl : Tryz.prog.underlying 22 = some (.slice 60)) (by kernel_rfl) (by kernel_rfl) (by kernel_rfl) (by kernel_rfl) (VU (hn := fun _ => rfl) (fs := #[(Field.mk "Kind" 58 0 false "" "" 0), (Field.mk "Among" 9 1 false "" "" 8), (Field.mk "Last" 4 2 false "" "" 24), (Field.mk "Names" 40 3 false "" "" 32), (Field.mk "N" 3 4 false "" "" 56)]) (by kernel_rfl) (by kernel_rfl) (fun _ => rfl) (fun _ => rfl) (Kb (AAn (by kernel_rfl : Tryz.prog.underlying 58 = some (.int .u8)) (by kernel_rfl)) rfl (by kernel_rfl) (fun _ => rfl) (Kb (LP (by kernel_rfl : Tryz.prog.underlying 9 = some .string) (by kernel_rfl)) rfl (by kernel_rfl) (fun _ => rfl) (Kb (WN (by kernel_rfl : Tryz.prog.underlying 4 = some .bool) (by kernel_rfl)) rfl (by kernel_rfl) (fun _ => rfl) (Kb (N7 (by kernel_rfl : Tryz.prog.underlying 40 = some (.slice 9)) (by kernel_rfl) (by kernel_rfl) (by kernel_rfl) (by kernel_rfl) (LP (by kernel_rfl : Tryz.prog.underlying 9 = some .string) (by kernel_rfl))) rfl (by kernel_rfl) (fun _ => rfl) (AAo (US (by kernel_rfl : Tryz.prog.underlying 3 = some (.int .i64)) (by kernel_rfl)) rfl (by kernel_rfl) (fun _ => rfl))))))))) (VP (by kernel_rfl : Tryz.prog.underlying 68 = some (.slice 22)) (hval 0 68 v0 rfl rfl)) (fun _ => rfl) h0 hsz (j := 0) (by kernel_rfl) rfl
 obtain ⟨a1, k1, g1⟩ := AAm (N7 (by kernel_rfl : Tryz.prog.underlying 23 = some (.slice 42)) (by kernel_rfl) (by kernel_rfl) (by kernel_rfl) (by kernel_rfl) (VU (hn := fun _ => rfl) (fs := #[(Field.mk "Name" 9 0 false "" "" 0), (Field.mk "Rank" 9 1 false "" "" 16), (Field.mk "Court" 9 2 false "" "" 32), (Field.mk "Since" 3 3 false "" "" 48), (Field.mk "Side" 3 4 false "" "" 56), (Field.mk "Diet" 9 5 false "" "" 64), (Field.mk "Host" 4 6 false "" "" 80), (Field.mk "Access" 4 7 false "" "" 81), (Field.mk "Tongues" 40 8 false "" "" 88)]) (by kernel_rfl) (by kernel_rfl) (fun _ => rfl) (fun _ => rfl) (Kb (LP (by kernel_rfl : Tryz.prog.underlying 9 = some .string) (by kernel_rfl)) rfl (by kernel_rfl) (fun _ => rfl) (Kb (LP (by kernel_rfl : Tryz.prog.underlying 9 = some .string) (by kernel_rfl)) rfl (by kernel_rfl) (fun _ => rfl) (Kb (LP (by kernel_rfl : Tryz.prog.underlying 9 = some .string) (by kernel_rfl)) rfl (by kernel_rfl) (fun _ => rfl) (Kb (US (by kernel_rfl : Tryz.prog.underlying 3 = some (.int .i64)) (by kernel_rfl)) rfl (by kernel_rfl) (fun _ => rfl) (Kb (US (by kernel_rfl : Tryz.prog.underlying 3 = some (.int .i64)) (by kernel_rfl)) rfl (by kernel_rfl) (fun _ => rfl) (Kb (LP (by kernel_rfl : Tryz.prog.underlying 9 = some .string) (by kernel_rfl)) rfl (by kernel_rfl) (fun _ => rfl) (Kb (WN (by kernel_rfl : Tryz.prog.underlying 4 = some .bool) (by kernel_rfl)) rfl (by kernel_rfl) (fun _ => rfl) (Kb (WN (by kernel_rfl : Tryz.prog.underlying 4 = some .bool) (by kernel_rfl)) rfl (by kernel_rfl) (fun _ => rfl) (AAo (N7 (by kernel_rfl : Tryz.prog.underlying 40 = some (.slice 9)) (by kernel_rfl) (by kernel_rfl) (by kernel_rfl) (by kernel_rfl) (LP (by kernel_rfl : Tryz.prog.underlying 9 = some .string) (by kernel_rfl))) rfl (by kernel_rfl) (fun _ => rfl)))))))))))) (VP (by kernel_rfl : Tryz.prog.underlying 23 = some (.slice 42)) (hval 1 23 v1 rfl rfl)) (fun _ => rfl) h1 hsz (j := 1) (by kernel_rfl) rfl
 have hc:=ABk a0 a1 (ZO a0 a1 (fun v hv=>by have h:=(g1.2 v hv).2.2.2.2.2.2.2.2.1.2; have e:Tryz.prog.bytesOf 9=16:=(by kernel_rfl); rw [e] at h; omega)) k0 k1
 unfold Ret at hc
 refine hc.mono fun e W' he=>?_
 cases e with
 | returned v =>
  obtain ⟨rfl,hg⟩:=he
  exact ⟨_,rfl,Yk ABj (fun t ht=>⟨PD (fun t=>Tryz.prog.readableRec t) (by kernel_rfl) ht,of_decide_eq_true (PD (fun t=>decide (t < Tryz.prog.types.size)) (by kernel_rfl) ht)⟩) hW' rfl (by kernel_rfl) (by kernel_rfl:Tryz.prog.underlying 4=some .bool) rfl hg⟩
 | panicked c=>exact he.elim
 | outgrown=>exact he.elim
theorem Zh (os:Os):laidMet Tryz.prog Rows.courtCompromisesRow.laid ((SE os).forCall (fun _ _=>0) ⟨#[],#[Value.slice none 0 0,Value.slice none 0 0],[]⟩).memory :=
 laidMet_of_run' 8 (by kernel_rfl) (by kernel_rfl)
theorem AEl (os:Os){H:Type}(enc:TypeId×Value->H):∃ places,DataW.whole enc Tryz.prog ((SE os).forCall (fun _ _=>0) ⟨#[],#[Value.slice none 0 0,Value.slice none 0 0],[]⟩).memory Tryz.f10.params.toList Rows.courtCompromisesSpec.vars false #[Value.slice none 0 0,Value.slice none 0 0].toList 8=some ([.nil,.nil],[],places) :=
 ⟨[],by kernel_rfl⟩
set_option maxRecDepth 100000 in
theorem ADR (os:Os) (started:os.Started) (H:Type) (enc:TypeId×Value->H) (F:Stop.Interp) :
  ReturnsInHanded {} Tryz.checked os 10 .any ((OpenSpec.ofChange Rows.courtCompromisesSpec).preRow enc Tryz.prog Tryz.f10 Rows.courtCompromisesRow.domain false Rows.courtCompromisesRow.laid) (((OpenSpec.ofChange Rows.courtCompromisesSpec).at F).post enc Tryz.prog Tryz.f10 false true false false):=by
 obtain ⟨places,hx⟩:=AEl os enc
 refine returnsInHanded_of_row (C:=Tryz.checked) (s:=OpenSpec.ofChange Rows.courtCompromisesSpec) Zx started (by kernel_rfl) Tryz.func10
  (witness_row_at (enc:=enc) (C:=Tryz.checked) false (SE os) #[Value.slice none 0 0,Value.slice none 0 0] rfl (by kernel_rfl) (by kernel_rfl) (by kernel_rfl)
   (OpenSpec.preRow_of_cond 8 hx (by kernel_rfl) (fun k hk=>by cases hk) (by kernel_rfl) (Zh os))) ?_
 intro W base args ds gs before hval hW _ _ hsz _ _ _
 exact ZP H enc W base args ds gs before hval hW hsz
theorem AA4:Tryz.pinned.checked.prog.funcNamed Rows.courtCompromisesRow.func=some 10:=by kernel_rfl
theorem ZL:joinedFacts Tryz.pinned.checked.prog 10 Tryz.f10 (OpenSpec.ofChange Rows.courtCompromisesSpec).bare Rows.courtCompromisesRow=true:=by kernel_rfl
theorem AFE:Rows.CourtCompromisesSaid :=
 OpenClaim.holds_of_cond 10 Tryz.f10 rfl rfl rfl rfl rfl rfl rfl ⟨rfl,rfl,rfl,rfl,rfl⟩ rfl rfl rfl rfl rfl AA4 Tryz.func10 ZL
  (of_decide_eq_true (by kernel_rfl)) (by unfold Func.isWrapper; first | (rw [if_pos (by decide +kernel)]; kernel_rfl) | (rw [if_neg (by decide +kernel)]; exact ⟨rfl,rfl⟩))
  (fun os started H enc _ F=>by rw [OpenClaim.pre_eq_preRow]; exact ADR os started H enc F)
theorem AEk (f : FuncId) (fn : Func) (hf : Tryz.pinned.checked.prog.funcNamed "trestle/trestlelaw03.CourtCompromises" = some f) (hfn : Tryz.pinned.checked.prog.funcs[f]? = some fn) :
  true=Tryz.pinned.checked.prog.looks []/\∀ (j:Nat) t,fn.params[j]? = some t->Tryz.pinned.checked.prog.wantsStandIn t=false:=by
 obtain rfl : f = 10 := OI ((show Tryz.prog.funcNamed "trestle/trestlelaw03.CourtCompromises" = some 10 by kernel_rfl).symm.trans hf) |>.symm
 obtain rfl:fn=Tryz.f10:=(OI (Tryz.func10.symm.trans hfn)).symm
 refine ⟨by kernel_rfl,fun j t ht=>?_⟩
 have hm:t ∈ Tryz.f10.params.toList:=by simpa using Array.mem_of_getElem? ht
 exact (show Tryz.prog.wantsStandIn t=false from Bool.not_eq_true' _ |>.mp (PD (fun t=>!Tryz.prog.wantsStandIn t) (by kernel_rfl) hm))
theorem card:Rows.CourtCompromisesCardSaid :=
 Claim7.holds_tied_plain_at .later [] _ _ _ _ AFE (fun _ h=>by cases h) (by kernel_rfl) (fun _ h=>by cases h) courtCompromises_row_tie rfl ⟨rfl,rfl⟩ (by kernel_rfl) rfl AEk (by kernel_rfl)
end Go.Proofs.YtlalcoehgkmhlaaGreatDoor.courtCompromises
