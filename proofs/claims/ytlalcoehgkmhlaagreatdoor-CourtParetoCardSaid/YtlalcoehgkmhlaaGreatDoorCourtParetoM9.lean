/- trestlelaw03.CourtPareto returns true for every input, and its arguments read behind the call as before; conditions: those that the given row names. -/
import Derived.Test.YtlalcoehgkmhlaaGreatDoorCourtParetoM1
import Derived.Test.YtlalcoehgkmhlaaGreatDoorCourtParetoM2
import Derived.Test.YtlalcoehgkmhlaaGreatDoorCourtParetoM3
import Derived.Test.YtlalcoehgkmhlaaGreatDoorCourtParetoM4
import Derived.Test.YtlalcoehgkmhlaaGreatDoorCourtParetoM5
import Derived.Test.YtlalcoehgkmhlaaGreatDoorCourtParetoM6
import Derived.Test.YtlalcoehgkmhlaaGreatDoorCourtParetoM7
import Derived.Test.YtlalcoehgkmhlaaGreatDoorCourtParetoM8
namespace Go.Proofs.YtlalcoehgkmhlaaGreatDoor.courtPareto
open Go.ChangeShapes Go.WideShapes Go.ChangeAt Go.RowKit
theorem V7 (a0:(List (List (Int×Int×Int×Bool×Bool)))) (a1:(List (Int×Int))) (h:DA a0 a1=some true){w:World}{v0 v1:Value}(h0:VR w (fun c=>c < w.heap.size) [] ((cdL 1 (cdL 5 (cdA (csC (cdK .u8) (csC (cdK .u8) (csC (cdK .u8) (csC cdB (csE cdB))))) (fun _=>rfl)))).enc a0) v0) (h1:VR w (fun c=>c < w.heap.size) [] ((cdL 2 (Fl (cdK .u8) (cdK .u8) (fun _=>rfl) (fun _=>rfl))).enc a1) v1):Ret Tryz.prog 14 #[v0,v1] w fun v w'=>v = .bool true/\w.grownBy w' none :=
 Ret.mono (Kz.2 (DU.enc (a0,a1,())) (EE true) (Mr (s:=DU) (a:=(a0,a1,())) h) w (fun c=>c < w.heap.size) [v0,v1] (fun c hc=>hc) (fun g x h=>by cases h) (.cons h0 (.cons h1 .nil))) fun v w' h=>⟨h.2.v_inv,h.1⟩
set_option maxRecDepth 100000 in
theorem T2 (H:Type) (enc:TypeId×Value->H) (W:World) (base:Nat) (args:Array Value) (ds gs:List (DataW H)) (before:List MemPlace)
  (hval:∀ (j:Nat) t v,Tryz.f14.params[j]? = some t->args[j]? = some v->Value.okWide Tryz.prog W .any base t v)
  (hW:DataW.Whole enc Tryz.prog Tryz.f14.params.toList Rows.courtParetoSpec.vars false W args.toList ds gs before)
  (hsz:(DataW.weightsEach Tryz.prog (Tryz.f14.params.toList++(OpenSpec.ofChange Rows.courtParetoSpec).bare.plain.varTypes Tryz.prog) (ds++gs)).all (·<=reachBytes)=true) :
  Calls Tryz.prog 14 args W fun e W'=>∃ v,e = .returned v/\Rows.courtParetoSpec.post enc Tryz.prog Tryz.f14 false true false false W args v W':=by
 have hW':=hW
 obtain ⟨p,q,hA0,hV,rfl,hfz,hnd⟩:=hW
 have hA:DataW.TrodAll enc Tryz.prog W 0 (fun _=>true) true Tryz.f14.params.toList args.toList ds p:=hA0
 have hpar:Tryz.f14.params=#[73,36]:=by kernel_rfl
 rw [hpar] at hA hval
 obtain ⟨v0,vs0,d0,ds0,p0,q0,hargs,rfl,rfl,h0,r0⟩:=trodAll_cons hA
 obtain ⟨v1,vs1,d1,ds1,p1,q1,rfl,rfl,rfl,h1,r1⟩:=trodAll_cons r0
 obtain ⟨rfl,rfl,rfl⟩:=trodAll_nil r1
 obtain rfl:args=#[v0,v1]:=by apply Array.ext'; simpa using hargs
 obtain ⟨a0, k0, g0⟩ := VF (PJ (by kernel_rfl : Tryz.prog.underlying 73 = some (.slice 28)) (by kernel_rfl) (by kernel_rfl) (by kernel_rfl) (by kernel_rfl) (PJ (by kernel_rfl : Tryz.prog.underlying 28 = some (.slice 107)) (by kernel_rfl) (by kernel_rfl) (by kernel_rfl) (by kernel_rfl) (QE (hn := fun _ => rfl) (fs := #[(Field.mk "Kind" 5 0 false "" "" 0), (Field.mk "N" 5 1 false "" "" 1), (Field.mk "Names" 5 2 false "" "" 2), (Field.mk "Last" 4 3 false "" "" 3), (Field.mk "Among" 4 4 false "" "" 4)]) (by kernel_rfl) (by kernel_rfl) (fun _ => rfl) (fun _ => rfl) (NS (QD (by kernel_rfl : Tryz.prog.underlying 5 = some (.int .u8)) (by kernel_rfl)) rfl (by kernel_rfl) (fun _ => rfl) (NS (QD (by kernel_rfl : Tryz.prog.underlying 5 = some (.int .u8)) (by kernel_rfl)) rfl (by kernel_rfl) (fun _ => rfl) (NS (QD (by kernel_rfl : Tryz.prog.underlying 5 = some (.int .u8)) (by kernel_rfl)) rfl (by kernel_rfl) (fun _ => rfl) (NS (TO (by kernel_rfl : Tryz.prog.underlying 4 = some .bool) (by kernel_rfl)) rfl (by kernel_rfl) (fun _ => rfl) (VG (TO (by kernel_rfl : Tryz.prog.underlying 4 = some .bool) (by kernel_rfl)) rfl (by kernel_rfl) (fun _ => rfl))))))))) (P9 (by kernel_rfl : Tryz.prog.underlying 73 = some (.slice 28)) (hval 0 73 v0 rfl rfl)) (fun _ => rfl) h0 hsz (j := 0) (by kernel_rfl) rfl
 obtain ⟨a1, k1, g1⟩ := VF (PJ (by kernel_rfl : Tryz.prog.underlying 36 = some (.slice 30)) (by kernel_rfl) (by kernel_rfl) (by kernel_rfl) (by kernel_rfl) (QE (hn := fun _ => rfl) (fs := #[(Field.mk "A" 5 0 false "" "" 0), (Field.mk "B" 5 1 false "" "" 1)]) (by kernel_rfl) (by kernel_rfl) (fun _ => rfl) (fun _ => rfl) (NS (QD (by kernel_rfl : Tryz.prog.underlying 5 = some (.int .u8)) (by kernel_rfl)) rfl (by kernel_rfl) (fun _ => rfl) (VG (QD (by kernel_rfl : Tryz.prog.underlying 5 = some (.int .u8)) (by kernel_rfl)) rfl (by kernel_rfl) (fun _ => rfl))))) (P9 (by kernel_rfl : Tryz.prog.underlying 36 = some (.slice 30)) (hval 1 36 v1 rfl rfl)) (fun _ => rfl) h1 hsz (j := 1) (by kernel_rfl) rfl
 have hc:=V7 a0 a1 (SA a0 a1 (fun x hx v hv=>⟨bounds_u8 ((g0.2 x hx).2 v hv).1,bounds_u8 ((g0.2 x hx).2 v hv).2.1,bounds_u8 ((g0.2 x hx).2 v hv).2.2.1⟩) (fun v hv=>⟨bounds_u8 (g1.2 v hv).1,bounds_u8 (g1.2 v hv).2⟩)) k0 k1
 unfold Ret at hc
 refine hc.mono fun e W' he=>?_
 cases e with
 | returned v =>
  obtain ⟨rfl,hg⟩:=he
  exact ⟨_,rfl,TK V6 (fun t ht=>⟨Kr (fun t=>Tryz.prog.readableRec t) (by kernel_rfl) ht,of_decide_eq_true (Kr (fun t=>decide (t < Tryz.prog.types.size)) (by kernel_rfl) ht)⟩) hW' rfl (by kernel_rfl) (by kernel_rfl:Tryz.prog.underlying 4=some .bool) rfl hg⟩
 | panicked c=>exact he.elim
 | outgrown=>exact he.elim
theorem UJ (os:Os):laidMet Tryz.prog Rows.courtParetoRow.laid ((NI os).forCall (fun _ _=>0) ⟨#[],#[Value.slice none 0 0,Value.slice none 0 0],[]⟩).memory :=
 laidMet_of_run' 8 (by kernel_rfl) (by kernel_rfl)
theorem ZC (os:Os){H:Type}(enc:TypeId×Value->H):∃ places,DataW.whole enc Tryz.prog ((NI os).forCall (fun _ _=>0) ⟨#[],#[Value.slice none 0 0,Value.slice none 0 0],[]⟩).memory Tryz.f14.params.toList Rows.courtParetoSpec.vars false #[Value.slice none 0 0,Value.slice none 0 0].toList 8=some ([.nil,.nil],[],places) :=
 ⟨[],by kernel_rfl⟩
set_option maxRecDepth 100000 in
theorem Xf (os:Os) (started:os.Started) (H:Type) (enc:TypeId×Value->H) (F:Stop.Interp) :
  ReturnsInHanded {} Tryz.checked os 14 .any ((OpenSpec.ofChange Rows.courtParetoSpec).preRow enc Tryz.prog Tryz.f14 Rows.courtParetoRow.domain false Rows.courtParetoRow.laid) (((OpenSpec.ofChange Rows.courtParetoSpec).at F).post enc Tryz.prog Tryz.f14 false true false false):=by
 obtain ⟨places,hx⟩:=ZC os enc
 refine returnsInHanded_of_row (C:=Tryz.checked) (s:=OpenSpec.ofChange Rows.courtParetoSpec) Ua started (by kernel_rfl) Tryz.func14
  (witness_row_at (enc:=enc) (C:=Tryz.checked) false (NI os) #[Value.slice none 0 0,Value.slice none 0 0] rfl (by kernel_rfl) (by kernel_rfl) (by kernel_rfl)
   (OpenSpec.preRow_of_cond 8 hx (by kernel_rfl) (fun k hk=>by cases hk) (by kernel_rfl) (UJ os))) ?_
 intro W base args ds gs before hval hW _ _ hsz _ _ _
 exact T2 H enc W base args ds gs before hval hW hsz
theorem Va:Tryz.pinned.checked.prog.funcNamed Rows.courtParetoRow.func=some 14:=by kernel_rfl
theorem Tz:joinedFacts Tryz.pinned.checked.prog 14 Tryz.f14 (OpenSpec.ofChange Rows.courtParetoSpec).bare Rows.courtParetoRow=true:=by kernel_rfl
theorem Zd:Rows.CourtParetoSaid :=
 OpenClaim.holds_of_cond 14 Tryz.f14 rfl rfl rfl rfl rfl rfl rfl ⟨rfl,rfl,rfl,rfl,rfl⟩ rfl rfl rfl rfl rfl Va Tryz.func14 Tz
  (of_decide_eq_true (by kernel_rfl)) (by unfold Func.isWrapper; first | (rw [if_pos (by decide +kernel)]; kernel_rfl) | (rw [if_neg (by decide +kernel)]; exact ⟨rfl,rfl⟩))
  (fun os started H enc _ F=>by rw [OpenClaim.pre_eq_preRow]; exact Xf os started H enc F)
theorem ZB (f : FuncId) (fn : Func) (hf : Tryz.pinned.checked.prog.funcNamed "trestle/trestlelaw03.CourtPareto" = some f) (hfn : Tryz.pinned.checked.prog.funcs[f]? = some fn) :
  true=Tryz.pinned.checked.prog.looks []/\∀ (j:Nat) t,fn.params[j]? = some t->Tryz.pinned.checked.prog.wantsStandIn t=false:=by
 obtain rfl : f = 14 := OI ((show Tryz.prog.funcNamed "trestle/trestlelaw03.CourtPareto" = some 14 by kernel_rfl).symm.trans hf) |>.symm
 obtain rfl:fn=Tryz.f14:=(OI (Tryz.func14.symm.trans hfn)).symm
 refine ⟨by kernel_rfl,fun j t ht=>?_⟩
 have hm:t ∈ Tryz.f14.params.toList:=by simpa using Array.mem_of_getElem? ht
 exact (show Tryz.prog.wantsStandIn t=false from Bool.not_eq_true' _ |>.mp (Kr (fun t=>!Tryz.prog.wantsStandIn t) (by kernel_rfl) hm))
theorem card:Rows.CourtParetoCardSaid :=
 Claim7.holds_tied_plain_at .later [] _ _ _ _ Zd (fun _ h=>by cases h) (by kernel_rfl) (fun _ h=>by cases h) courtPareto_row_tie rfl ⟨rfl,rfl⟩ (by kernel_rfl) rfl ZB (by kernel_rfl)
end Go.Proofs.YtlalcoehgkmhlaaGreatDoor.courtPareto
