/- trestlelaw03.CourtMerges returns true for every input, and its arguments read behind the call as before; conditions: those that the given row names. -/
import Derived.Test.YtdjhmdbpcfnpgaaGreatDoorCourtMergesM1
import Derived.Test.YtdjhmdbpcfnpgaaGreatDoorCourtMergesM2
import Derived.Test.YtdjhmdbpcfnpgaaGreatDoorCourtMergesM3
import Derived.Test.YtdjhmdbpcfnpgaaGreatDoorCourtMergesM4
import Derived.Test.YtdjhmdbpcfnpgaaGreatDoorCourtMergesM5
import Derived.Test.YtdjhmdbpcfnpgaaGreatDoorCourtMergesM6
namespace Go.Proofs.YtdjhmdbpcfnpgaaGreatDoor.courtMerges
open Go.ChangeShapes Go.WideShapes Go.ChangeAt Go.RowKit
theorem QJ (a0:(List AE)) (a1:(List AE)) (h:CB a0 a1=some true){w:World}{v0 v1:Value}(h0:VR w (fun c=>c < w.heap.size) [] ((cdL 5 AA).enc a0) v0) (h1:VR w (fun c=>c < w.heap.size) [] ((cdL 5 AA).enc a1) v1):Ret Tryz.prog 6 #[v0,v1] w fun v w'=>v = .bool true/\w.grownBy w' none :=
 Ret.mono (Hj.2 (Cb.enc (a0,a1,())) (DD true) (Kt (s:=Cb) (a:=(a0,a1,())) h) w (fun c=>c < w.heap.size) [v0,v1] (fun c hc=>hc) (fun g x h=>by cases h) (.cons h0 (.cons h1 .nil))) fun v w' h=>⟨h.2.v_inv,h.1⟩
set_option maxRecDepth 100000 in
theorem Ov (H:Type) (enc:TypeId×Value->H) (W:World) (base:Nat) (args:Array Value) (ds gs:List (DataW H)) (before:List MemPlace)
  (hval:∀ (j:Nat) t v,Tryz.f6.params[j]? = some t->args[j]? = some v->Value.okWide Tryz.prog W .any base t v)
  (hW:DataW.Whole enc Tryz.prog Tryz.f6.params.toList Rows.courtMergesSpec.vars false W args.toList ds gs before)
  (hsz:(DataW.weightsEach Tryz.prog (Tryz.f6.params.toList++(OpenSpec.ofChange Rows.courtMergesSpec).bare.plain.varTypes Tryz.prog) (ds++gs)).all (·<=reachBytes)=true) :
  Calls Tryz.prog 6 args W fun e W'=>∃ v,e = .returned v/\Rows.courtMergesSpec.post enc Tryz.prog Tryz.f6 false true false false W args v W':=by
 have hW':=hW
 obtain ⟨p,q,hA0,hV,rfl,hfz,hnd⟩:=hW
 have hA:DataW.TrodAll enc Tryz.prog W 0 (fun _=>true) true Tryz.f6.params.toList args.toList ds p:=hA0
 have hpar:Tryz.f6.params=#[25,25]:=by kernel_rfl
 rw [hpar] at hA hval
 obtain ⟨v0,vs0,d0,ds0,p0,q0,hargs,rfl,rfl,h0,r0⟩:=trodAll_cons hA
 obtain ⟨v1,vs1,d1,ds1,p1,q1,rfl,rfl,rfl,h1,r1⟩:=trodAll_cons r0
 obtain ⟨rfl,rfl,rfl⟩:=trodAll_nil r1
 obtain rfl:args=#[v0,v1]:=by apply Array.ext'; simpa using hargs
 obtain ⟨a0, k0, g0⟩ := Pk (I5 (by kernel_rfl : Tryz.prog.underlying 25 = some (.slice 66)) (by kernel_rfl) (by kernel_rfl) (by kernel_rfl) (by kernel_rfl) (LQ (hn := fun _ => rfl) (fs := #[(Field.mk "Kind" 64 0 false "" "" 0), (Field.mk "Among" 9 1 false "" "" 8), (Field.mk "Last" 4 2 false "" "" 24), (Field.mk "Names" 45 3 false "" "" 32), (Field.mk "N" 3 4 false "" "" 56)]) (by kernel_rfl) (by kernel_rfl) (fun _ => rfl) (fun _ => rfl) (G0 (OJ (by kernel_rfl : Tryz.prog.underlying 64 = some (.int .u8)) (by kernel_rfl)) rfl (by kernel_rfl) (fun _ => rfl) (G0 (H5 (by kernel_rfl : Tryz.prog.underlying 9 = some .string) (by kernel_rfl)) rfl (by kernel_rfl) (fun _ => rfl) (G0 (OH (by kernel_rfl : Tryz.prog.underlying 4 = some .bool) (by kernel_rfl)) rfl (by kernel_rfl) (fun _ => rfl) (G0 (I5 (by kernel_rfl : Tryz.prog.underlying 45 = some (.slice 9)) (by kernel_rfl) (by kernel_rfl) (by kernel_rfl) (by kernel_rfl) (H5 (by kernel_rfl : Tryz.prog.underlying 9 = some .string) (by kernel_rfl))) rfl (by kernel_rfl) (fun _ => rfl) (Pm (Mn (by kernel_rfl : Tryz.prog.underlying 3 = some (.int .i64)) (by kernel_rfl)) rfl (by kernel_rfl) (fun _ => rfl)))))))) (LP (by kernel_rfl : Tryz.prog.underlying 25 = some (.slice 66)) (hval 0 25 v0 rfl rfl)) (fun _ => rfl) h0 hsz (j := 0) (by kernel_rfl) rfl
 obtain ⟨a1, k1, g1⟩ := Pk (I5 (by kernel_rfl : Tryz.prog.underlying 25 = some (.slice 66)) (by kernel_rfl) (by kernel_rfl) (by kernel_rfl) (by kernel_rfl) (LQ (hn := fun _ => rfl) (fs := #[(Field.mk "Kind" 64 0 false "" "" 0), (Field.mk "Among" 9 1 false "" "" 8), (Field.mk "Last" 4 2 false "" "" 24), (Field.mk "Names" 45 3 false "" "" 32), (Field.mk "N" 3 4 false "" "" 56)]) (by kernel_rfl) (by kernel_rfl) (fun _ => rfl) (fun _ => rfl) (G0 (OJ (by kernel_rfl : Tryz.prog.underlying 64 = some (.int .u8)) (by kernel_rfl)) rfl (by kernel_rfl) (fun _ => rfl) (G0 (H5 (by kernel_rfl : Tryz.prog.underlying 9 = some .string) (by kernel_rfl)) rfl (by kernel_rfl) (fun _ => rfl) (G0 (OH (by kernel_rfl : Tryz.prog.underlying 4 = some .bool) (by kernel_rfl)) rfl (by kernel_rfl) (fun _ => rfl) (G0 (I5 (by kernel_rfl : Tryz.prog.underlying 45 = some (.slice 9)) (by kernel_rfl) (by kernel_rfl) (by kernel_rfl) (by kernel_rfl) (H5 (by kernel_rfl : Tryz.prog.underlying 9 = some .string) (by kernel_rfl))) rfl (by kernel_rfl) (fun _ => rfl) (Pm (Mn (by kernel_rfl : Tryz.prog.underlying 3 = some (.int .i64)) (by kernel_rfl)) rfl (by kernel_rfl) (fun _ => rfl)))))))) (LP (by kernel_rfl : Tryz.prog.underlying 25 = some (.slice 66)) (hval 1 25 v1 rfl rfl)) (fun _ => rfl) h1 hsz (j := 1) (by kernel_rfl) rfl
 have hc:=QJ a0 a1 (ND a0 a1) k0 k1
 unfold Ret at hc
 refine hc.mono fun e W' he=>?_
 cases e with
 | returned v =>
  obtain ⟨rfl,hg⟩:=he
  exact ⟨_,rfl,OF QI (fun t ht=>⟨Hh (fun t=>Tryz.prog.readableRec t) (by kernel_rfl) ht,of_decide_eq_true (Hh (fun t=>decide (t < Tryz.prog.types.size)) (by kernel_rfl) ht)⟩) hW' rfl (by kernel_rfl) (by kernel_rfl:Tryz.prog.underlying 4=some .bool) rfl hg⟩
 | panicked c=>exact he.elim
 | outgrown=>exact he.elim
theorem O4 (os:Os):laidMet Tryz.prog Rows.courtMergesRow.laid ((JN os).forCall (fun _ _=>0) ⟨#[],#[Value.slice none 0 0,Value.slice none 0 0],[]⟩).memory :=
 laidMet_of_run' 8 (by kernel_rfl) (by kernel_rfl)
theorem SV (os:Os){H:Type}(enc:TypeId×Value->H):∃ places,DataW.whole enc Tryz.prog ((JN os).forCall (fun _ _=>0) ⟨#[],#[Value.slice none 0 0,Value.slice none 0 0],[]⟩).memory Tryz.f6.params.toList Rows.courtMergesSpec.vars false #[Value.slice none 0 0,Value.slice none 0 0].toList 8=some ([.nil,.nil],[],places) :=
 ⟨[],by kernel_rfl⟩
set_option maxRecDepth 100000 in
theorem RJ (os:Os) (started:os.Started) (H:Type) (enc:TypeId×Value->H) (F:Stop.Interp) :
  ReturnsInHanded {} Tryz.checked os 6 .any ((OpenSpec.ofChange Rows.courtMergesSpec).preRow enc Tryz.prog Tryz.f6 Rows.courtMergesRow.domain false Rows.courtMergesRow.laid) (((OpenSpec.ofChange Rows.courtMergesSpec).at F).post enc Tryz.prog Tryz.f6 false true false false):=by
 obtain ⟨places,hx⟩:=SV os enc
 refine returnsInHanded_of_row (C:=Tryz.checked) (s:=OpenSpec.ofChange Rows.courtMergesSpec) PB started (by kernel_rfl) Tryz.func6
  (witness_row_at (enc:=enc) (C:=Tryz.checked) false (JN os) #[Value.slice none 0 0,Value.slice none 0 0] rfl (by kernel_rfl) (by kernel_rfl) (by kernel_rfl)
   (OpenSpec.preRow_of_cond 8 hx (by kernel_rfl) (fun k hk=>by cases hk) (by kernel_rfl) (O4 os))) ?_
 intro W base args ds gs before hval hW _ _ hsz _ _ _
 exact Ov H enc W base args ds gs before hval hW hsz
theorem Pw:Tryz.pinned.checked.prog.funcNamed Rows.courtMergesRow.func=some 6:=by kernel_rfl
theorem Ot:joinedFacts Tryz.pinned.checked.prog 6 Tryz.f6 (OpenSpec.ofChange Rows.courtMergesSpec).bare Rows.courtMergesRow=true:=by kernel_rfl
theorem Sp:Rows.CourtMergesSaid :=
 OpenClaim.holds_of_cond 6 Tryz.f6 rfl rfl rfl rfl rfl rfl rfl ⟨rfl,rfl,rfl,rfl,rfl⟩ rfl rfl rfl rfl rfl Pw Tryz.func6 Ot
  (of_decide_eq_true (by kernel_rfl)) (by unfold Func.isWrapper; first | (rw [if_pos (by decide +kernel)]; kernel_rfl) | (rw [if_neg (by decide +kernel)]; exact ⟨rfl,rfl⟩))
  (fun os started H enc _ F=>by rw [OpenClaim.pre_eq_preRow]; exact RJ os started H enc F)
theorem SU (f : FuncId) (fn : Func) (hf : Tryz.pinned.checked.prog.funcNamed "trestle/trestlelaw03.CourtMerges" = some f) (hfn : Tryz.pinned.checked.prog.funcs[f]? = some fn) :
  true=Tryz.pinned.checked.prog.looks []/\∀ (j:Nat) t,fn.params[j]? = some t->Tryz.pinned.checked.prog.wantsStandIn t=false:=by
 obtain rfl : f = 6 := OI ((show Tryz.prog.funcNamed "trestle/trestlelaw03.CourtMerges" = some 6 by kernel_rfl).symm.trans hf) |>.symm
 obtain rfl:fn=Tryz.f6:=(OI (Tryz.func6.symm.trans hfn)).symm
 refine ⟨by kernel_rfl,fun j t ht=>?_⟩
 have hm:t ∈ Tryz.f6.params.toList:=by simpa using Array.mem_of_getElem? ht
 exact (show Tryz.prog.wantsStandIn t=false from Bool.not_eq_true' _ |>.mp (Hh (fun t=>!Tryz.prog.wantsStandIn t) (by kernel_rfl) hm))
theorem card:Rows.CourtMergesCardSaid :=
 Claim7.holds_tied_plain_at .later [] _ _ _ _ Sp (fun _ h=>by cases h) (by kernel_rfl) (fun _ h=>by cases h) courtMerges_row_tie rfl ⟨rfl,rfl⟩ (by kernel_rfl) rfl SU (by kernel_rfl)
end Go.Proofs.YtdjhmdbpcfnpgaaGreatDoor.courtMerges
