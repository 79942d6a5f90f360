/- trestlelaw03.CourtLeast returns true for every input, and its arguments read behind the call as before; conditions: those that the given row names. -/
import Derived.Test.YtlalcoehgkmhlaaGreatDoorCourtLeastM1
import Derived.Test.YtlalcoehgkmhlaaGreatDoorCourtLeastM2
import Derived.Test.YtlalcoehgkmhlaaGreatDoorCourtLeastM3
import Derived.Test.YtlalcoehgkmhlaaGreatDoorCourtLeastM4
import Derived.Test.YtlalcoehgkmhlaaGreatDoorCourtLeastM5
import Derived.Test.YtlalcoehgkmhlaaGreatDoorCourtLeastM6
import Derived.Test.YtlalcoehgkmhlaaGreatDoorCourtLeastM7
namespace Go.Proofs.YtlalcoehgkmhlaaGreatDoor.courtLeast
open Go.ChangeShapes Go.WideShapes Go.ChangeAt Go.RowKit
theorem Vc (a0:(List (List (Int×Int×Int×Bool×Bool)))) (a1:(List (Int×Int))) (a2:(List (Int×Int))) (h:DK a0 a1 a2=some true){w:World}{v0 v1 v2:Value}(h0:VR w (fun c=>c < w.heap.size) [] ((cdL 1 (cdL 5 (cdA (csC (cdK .u8) (csC (cdK .u8) (csC (cdK .u8) (csC cdB (csE cdB))))) (fun _=>rfl)))).enc a0) v0) (h1:VR w (fun c=>c < w.heap.size) [] ((cdL 2 (G5 (cdK .u8) (cdK .u8) (fun _=>rfl) (fun _=>rfl))).enc a1) v1) (h2:VR w (fun c=>c < w.heap.size) [] ((cdL 2 (G5 (cdK .u8) (cdK .u8) (fun _=>rfl) (fun _=>rfl))).enc a2) v2):Ret Tryz.prog 13 #[v0,v1,v2] w fun v w'=>v = .bool true/\w.grownBy w' none :=
 Ret.mono (LI.2 (EY.enc (a0,a1,a2,())) (Ff true) (Mc (s:=EY) (a:=(a0,a1,a2,())) h) w (fun c=>c < w.heap.size) [v0,v1,v2] (fun c hc=>hc) (fun g x h=>by cases h) (.cons h0 (.cons h1 (.cons h2 .nil)))) fun v w' h=>⟨h.2.v_inv,h.1⟩
set_option maxRecDepth 100000 in
theorem Td (H:Type) (enc:TypeId×Value->H) (W:World) (base:Nat) (args:Array Value) (ds gs:List (DataW H)) (before:List MemPlace)
  (hval:∀ (j:Nat) t v,Tryz.f13.params[j]? = some t->args[j]? = some v->Value.okWide Tryz.prog W .any base t v)
  (hW:DataW.Whole enc Tryz.prog Tryz.f13.params.toList Rows.courtLeastSpec.vars false W args.toList ds gs before)
  (hsz:(DataW.weightsEach Tryz.prog (Tryz.f13.params.toList++(OpenSpec.ofChange Rows.courtLeastSpec).bare.plain.varTypes Tryz.prog) (ds++gs)).all (·<=reachBytes)=true) :
  Calls Tryz.prog 13 args W fun e W'=>∃ v,e = .returned v/\Rows.courtLeastSpec.post enc Tryz.prog Tryz.f13 false true false false W args v W':=by
 have hW':=hW
 obtain ⟨p,q,hA0,hV,rfl,hfz,hnd⟩:=hW
 have hA:DataW.TrodAll enc Tryz.prog W 0 (fun _=>true) true Tryz.f13.params.toList args.toList ds p:=hA0
 have hpar:Tryz.f13.params=#[73,36,56]:=by kernel_rfl
 rw [hpar] at hA hval
 obtain ⟨v0,vs0,d0,ds0,p0,q0,hargs,rfl,rfl,h0,r0⟩:=trodAll_cons hA
 obtain ⟨v1,vs1,d1,ds1,p1,q1,rfl,rfl,rfl,h1,r1⟩:=trodAll_cons r0
 obtain ⟨v2,vs2,d2,ds2,p2,q2,rfl,rfl,rfl,h2,r2⟩:=trodAll_cons r1
 obtain ⟨rfl,rfl,rfl⟩:=trodAll_nil r2
 obtain rfl:args=#[v0,v1,v2]:=by apply Array.ext'; simpa using hargs
 obtain ⟨a0, k0, g0⟩ := S2 (MY (by kernel_rfl : Tryz.prog.underlying 73 = some (.slice 28)) (by kernel_rfl) (by kernel_rfl) (by kernel_rfl) (by kernel_rfl) (MY (by kernel_rfl : Tryz.prog.underlying 28 = some (.slice 107)) (by kernel_rfl) (by kernel_rfl) (by kernel_rfl) (by kernel_rfl) (Pr (hn := fun _ => rfl) (fs := #[(Field.mk "Kind" 5 0 false "" "" 0), (Field.mk "N" 5 1 false "" "" 1), (Field.mk "Names" 5 2 false "" "" 2), (Field.mk "Last" 4 3 false "" "" 3), (Field.mk "Among" 4 4 false "" "" 4)]) (by kernel_rfl) (by kernel_rfl) (fun _ => rfl) (fun _ => rfl) (Lt (OL (by kernel_rfl : Tryz.prog.underlying 5 = some (.int .u8)) (by kernel_rfl)) rfl (by kernel_rfl) (fun _ => rfl) (Lt (OL (by kernel_rfl : Tryz.prog.underlying 5 = some (.int .u8)) (by kernel_rfl)) rfl (by kernel_rfl) (fun _ => rfl) (Lt (OL (by kernel_rfl : Tryz.prog.underlying 5 = some (.int .u8)) (by kernel_rfl)) rfl (by kernel_rfl) (fun _ => rfl) (Lt (S3 (by kernel_rfl : Tryz.prog.underlying 4 = some .bool) (by kernel_rfl)) rfl (by kernel_rfl) (fun _ => rfl) (S4 (S3 (by kernel_rfl : Tryz.prog.underlying 4 = some .bool) (by kernel_rfl)) rfl (by kernel_rfl) (fun _ => rfl))))))))) (NC (by kernel_rfl : Tryz.prog.underlying 73 = some (.slice 28)) (hval 0 73 v0 rfl rfl)) (fun _ => rfl) h0 hsz (j := 0) (by kernel_rfl) rfl
 obtain ⟨a1, k1, g1⟩ := S2 (MY (by kernel_rfl : Tryz.prog.underlying 36 = some (.slice 30)) (by kernel_rfl) (by kernel_rfl) (by kernel_rfl) (by kernel_rfl) (Pr (hn := fun _ => rfl) (fs := #[(Field.mk "A" 5 0 false "" "" 0), (Field.mk "B" 5 1 false "" "" 1)]) (by kernel_rfl) (by kernel_rfl) (fun _ => rfl) (fun _ => rfl) (Lt (OL (by kernel_rfl : Tryz.prog.underlying 5 = some (.int .u8)) (by kernel_rfl)) rfl (by kernel_rfl) (fun _ => rfl) (S4 (OL (by kernel_rfl : Tryz.prog.underlying 5 = some (.int .u8)) (by kernel_rfl)) rfl (by kernel_rfl) (fun _ => rfl))))) (NC (by kernel_rfl : Tryz.prog.underlying 36 = some (.slice 30)) (hval 1 36 v1 rfl rfl)) (fun _ => rfl) h1 hsz (j := 1) (by kernel_rfl) rfl
 obtain ⟨a2,k2,g2⟩:=S2 (MY (by kernel_rfl:Tryz.prog.underlying 56=some (.slice 63)) (by kernel_rfl) (by kernel_rfl) (by kernel_rfl) (by kernel_rfl) (V1 (hn:=fun _=>rfl) (by kernel_rfl:Tryz.prog.underlying 63=some (.array 2 5)) (by kernel_rfl) (by kernel_rfl) (fun _=>rfl) (fun _=>rfl) (fun _=>rfl) (OL (by kernel_rfl:Tryz.prog.underlying 5=some (.int .u8)) (by kernel_rfl)))) (NC (by kernel_rfl:Tryz.prog.underlying 56=some (.slice 63)) (hval 2 56 v2 rfl rfl)) (fun _=>rfl) h2 hsz (j:=2) (by kernel_rfl) rfl
 have hc:=Vc a0 a1 a2 (Si a0 a1 a2 (fun x hx v hv=>⟨bounds_u8 ((g0.2 x hx).2 v hv).1,bounds_u8 ((g0.2 x hx).2 v hv).2.1,bounds_u8 ((g0.2 x hx).2 v hv).2.2.1⟩) (fun v hv=>⟨bounds_u8 (g1.2 v hv).1,bounds_u8 (g1.2 v hv).2⟩) (fun v hv=>⟨bounds_u8 (g2.2 v hv).1,bounds_u8 (g2.2 v hv).2⟩)) k0 k1 k2
 unfold Ret at hc
 refine hc.mono fun e W' he=>?_
 cases e with
 | returned v =>
  obtain ⟨rfl,hg⟩:=he
  exact ⟨_,rfl,S0 Vb (fun t ht=>⟨Ki (fun t=>Tryz.prog.readableRec t) (by kernel_rfl) ht,of_decide_eq_true (Ki (fun t=>decide (t < Tryz.prog.types.size)) (by kernel_rfl) ht)⟩) hW' rfl (by kernel_rfl) (by kernel_rfl:Tryz.prog.underlying 4=some .bool) rfl hg⟩
 | panicked c=>exact he.elim
 | outgrown=>exact he.elim
theorem Tu (os:Os):laidMet Tryz.prog Rows.courtLeastRow.laid ((M6 os).forCall (fun _ _=>0) ⟨#[],#[Value.slice none 0 0,Value.slice none 0 0,Value.slice none 0 0],[]⟩).memory :=
 laidMet_of_run' 8 (by kernel_rfl) (by kernel_rfl)
theorem YY (os:Os){H:Type}(enc:TypeId×Value->H):∃ places,DataW.whole enc Tryz.prog ((M6 os).forCall (fun _ _=>0) ⟨#[],#[Value.slice none 0 0,Value.slice none 0 0,Value.slice none 0 0],[]⟩).memory Tryz.f13.params.toList Rows.courtLeastSpec.vars false #[Value.slice none 0 0,Value.slice none 0 0,Value.slice none 0 0].toList 8=some ([.nil,.nil,.nil],[],places) :=
 ⟨[],by kernel_rfl⟩
set_option maxRecDepth 100000 in
theorem W8 (os:Os) (started:os.Started) (H:Type) (enc:TypeId×Value->H) (F:Stop.Interp) :
  ReturnsInHanded {} Tryz.checked os 13 .any ((OpenSpec.ofChange Rows.courtLeastSpec).preRow enc Tryz.prog Tryz.f13 Rows.courtLeastRow.domain false Rows.courtLeastRow.laid) (((OpenSpec.ofChange Rows.courtLeastSpec).at F).post enc Tryz.prog Tryz.f13 false true false false):=by
 obtain ⟨places,hx⟩:=YY os enc
 refine returnsInHanded_of_row (C:=Tryz.checked) (s:=OpenSpec.ofChange Rows.courtLeastSpec) UC started (by kernel_rfl) Tryz.func13
  (witness_row_at (enc:=enc) (C:=Tryz.checked) false (M6 os) #[Value.slice none 0 0,Value.slice none 0 0,Value.slice none 0 0] rfl (by kernel_rfl) (by kernel_rfl) (by kernel_rfl)
   (OpenSpec.preRow_of_cond 8 hx (by kernel_rfl) (fun k hk=>by cases hk) (by kernel_rfl) (Tu os))) ?_
 intro W base args ds gs before hval hW _ _ hsz _ _ _
 exact Td H enc W base args ds gs before hval hW hsz
theorem U4:Tryz.pinned.checked.prog.funcNamed Rows.courtLeastRow.func=some 13:=by kernel_rfl
theorem Tb:joinedFacts Tryz.pinned.checked.prog 13 Tryz.f13 (OpenSpec.ofChange Rows.courtLeastSpec).bare Rows.courtLeastRow=true:=by kernel_rfl
theorem Y0:Rows.CourtLeastSaid :=
 OpenClaim.holds_of_cond 13 Tryz.f13 rfl rfl rfl rfl rfl rfl rfl ⟨rfl,rfl,rfl,rfl,rfl⟩ rfl rfl rfl rfl rfl U4 Tryz.func13 Tb
  (of_decide_eq_true (by kernel_rfl)) (by unfold Func.isWrapper; first | (rw [if_pos (by decide +kernel)]; kernel_rfl) | (rw [if_neg (by decide +kernel)]; exact ⟨rfl,rfl⟩))
  (fun os started H enc _ F=>by rw [OpenClaim.pre_eq_preRow]; exact W8 os started H enc F)
theorem YX (f : FuncId) (fn : Func) (hf : Tryz.pinned.checked.prog.funcNamed "trestle/trestlelaw03.CourtLeast" = some f) (hfn : Tryz.pinned.checked.prog.funcs[f]? = some fn) :
  true=Tryz.pinned.checked.prog.looks []/\∀ (j:Nat) t,fn.params[j]? = some t->Tryz.pinned.checked.prog.wantsStandIn t=false:=by
 obtain rfl : f = 13 := OI ((show Tryz.prog.funcNamed "trestle/trestlelaw03.CourtLeast" = some 13 by kernel_rfl).symm.trans hf) |>.symm
 obtain rfl:fn=Tryz.f13:=(OI (Tryz.func13.symm.trans hfn)).symm
 refine ⟨by kernel_rfl,fun j t ht=>?_⟩
 have hm:t ∈ Tryz.f13.params.toList:=by simpa using Array.mem_of_getElem? ht
 exact (show Tryz.prog.wantsStandIn t=false from Bool.not_eq_true' _ |>.mp (Ki (fun t=>!Tryz.prog.wantsStandIn t) (by kernel_rfl) hm))
theorem card:Rows.CourtLeastCardSaid :=
 Claim7.holds_tied_plain_at .later [] _ _ _ _ Y0 (fun _ h=>by cases h) (by kernel_rfl) (fun _ h=>by cases h) courtLeast_row_tie rfl ⟨rfl,rfl⟩ (by kernel_rfl) rfl YX (by kernel_rfl)
end Go.Proofs.YtlalcoehgkmhlaaGreatDoor.courtLeast
