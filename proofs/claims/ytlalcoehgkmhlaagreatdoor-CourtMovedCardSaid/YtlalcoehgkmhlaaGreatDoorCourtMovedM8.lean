/- trestlelaw03.CourtMoved returns true for every input, and its arguments read behind the call as before; conditions: those that the given row names. -/
import Derived.Test.YtlalcoehgkmhlaaGreatDoorCourtMovedM1
import Derived.Test.YtlalcoehgkmhlaaGreatDoorCourtMovedM2
import Derived.Test.YtlalcoehgkmhlaaGreatDoorCourtMovedM3
import Derived.Test.YtlalcoehgkmhlaaGreatDoorCourtMovedM4
import Derived.Test.YtlalcoehgkmhlaaGreatDoorCourtMovedM5
import Derived.Test.YtlalcoehgkmhlaaGreatDoorCourtMovedM6
import Derived.Test.YtlalcoehgkmhlaaGreatDoorCourtMovedM7
namespace Go.Proofs.YtlalcoehgkmhlaaGreatDoor.courtMoved
open Go.ChangeShapes Go.WideShapes Go.ChangeAt Go.RowKit
theorem Vk (a0:(List (Int×Int×Int×Bool×Bool))) (a1:(List (Int×Int))) (a2:(List (Int×Int))) (h:DY a0 a1 a2=some true){w:World}{v0 v1 v2:Value}(h0:VR w (fun c=>c < w.heap.size) [] ((cdL 5 (cdA (csC (cdK .u8) (csC (cdK .u8) (csC (cdK .u8) (csC cdB (csE cdB))))) (fun _=>rfl))).enc a0) v0) (h1:VR w (fun c=>c < w.heap.size) [] ((cdL 2 (IZ (cdK .u8) (cdK .u8) (fun _=>rfl) (fun _=>rfl))).enc a1) v1) (h2:VR w (fun c=>c < w.heap.size) [] ((cdL 2 (IZ (cdK .u8) (cdK .u8) (fun _=>rfl) (fun _=>rfl))).enc a2) v2):Ret Tryz.prog 6 #[v0,v1,v2] w fun v w'=>v = .bool true/\w.grownBy w' none :=
 Ret.mono (LN.2 (El.enc (a0,a1,a2,())) (Fv true) (Mn (s:=El) (a:=(a0,a1,a2,())) h) w (fun c=>c < w.heap.size) [v0,v1,v2] (fun c hc=>hc) (fun g x h=>by cases h) (.cons h0 (.cons h1 (.cons h2 .nil)))) fun v w' h=>⟨h.2.v_inv,h.1⟩
set_option maxRecDepth 100000 in
theorem Tw (H:Type) (enc:TypeId×Value->H) (W:World) (base:Nat) (args:Array Value) (ds gs:List (DataW H)) (before:List MemPlace)
  (hval:∀ (j:Nat) t v,Tryz.f6.params[j]? = some t->args[j]? = some v->Value.okWide Tryz.prog W .any base t v)
  (hW:DataW.Whole enc Tryz.prog Tryz.f6.params.toList Rows.courtMovedSpec.vars false W args.toList ds gs before)
  (hsz:(DataW.weightsEach Tryz.prog (Tryz.f6.params.toList++(OpenSpec.ofChange Rows.courtMovedSpec).bare.plain.varTypes Tryz.prog) (ds++gs)).all (·<=reachBytes)=true) :
  Calls Tryz.prog 6 args W fun e W'=>∃ v,e = .returned v/\Rows.courtMovedSpec.post enc Tryz.prog Tryz.f6 false true false false W args v W':=by
 have hW':=hW
 obtain ⟨p,q,hA0,hV,rfl,hfz,hnd⟩:=hW
 have hA:DataW.TrodAll enc Tryz.prog W 0 (fun _=>true) true Tryz.f6.params.toList args.toList ds p:=hA0
 have hpar:Tryz.f6.params=#[28,36,56]:=by kernel_rfl
 rw [hpar] at hA hval
 obtain ⟨v0,vs0,d0,ds0,p0,q0,hargs,rfl,rfl,h0,r0⟩:=trodAll_cons hA
 obtain ⟨v1,vs1,d1,ds1,p1,q1,rfl,rfl,rfl,h1,r1⟩:=trodAll_cons r0
 obtain ⟨v2,vs2,d2,ds2,p2,q2,rfl,rfl,rfl,h2,r2⟩:=trodAll_cons r1
 obtain ⟨rfl,rfl,rfl⟩:=trodAll_nil r2
 obtain rfl:args=#[v0,v1,v2]:=by apply Array.ext'; simpa using hargs
 obtain ⟨a0, k0, g0⟩ := TP (O9 (by kernel_rfl : Tryz.prog.underlying 28 = some (.slice 107)) (by kernel_rfl) (by kernel_rfl) (by kernel_rfl) (by kernel_rfl) (P4 (hn := fun _ => rfl) (fs := #[(Field.mk "Kind" 5 0 false "" "" 0), (Field.mk "N" 5 1 false "" "" 1), (Field.mk "Names" 5 2 false "" "" 2), (Field.mk "Last" 4 3 false "" "" 3), (Field.mk "Among" 4 4 false "" "" 4)]) (by kernel_rfl) (by kernel_rfl) (fun _ => rfl) (fun _ => rfl) (Lv (OU (by kernel_rfl : Tryz.prog.underlying 5 = some (.int .u8)) (by kernel_rfl)) rfl (by kernel_rfl) (fun _ => rfl) (Lv (OU (by kernel_rfl : Tryz.prog.underlying 5 = some (.int .u8)) (by kernel_rfl)) rfl (by kernel_rfl) (fun _ => rfl) (Lv (OU (by kernel_rfl : Tryz.prog.underlying 5 = some (.int .u8)) (by kernel_rfl)) rfl (by kernel_rfl) (fun _ => rfl) (Lv (TQ (by kernel_rfl : Tryz.prog.underlying 4 = some .bool) (by kernel_rfl)) rfl (by kernel_rfl) (fun _ => rfl) (TR (TQ (by kernel_rfl : Tryz.prog.underlying 4 = some .bool) (by kernel_rfl)) rfl (by kernel_rfl) (fun _ => rfl)))))))) (NH (by kernel_rfl : Tryz.prog.underlying 28 = some (.slice 107)) (hval 0 28 v0 rfl rfl)) (fun _ => rfl) h0 hsz (j := 0) (by kernel_rfl) rfl
 obtain ⟨a1, k1, g1⟩ := TP (O9 (by kernel_rfl : Tryz.prog.underlying 36 = some (.slice 30)) (by kernel_rfl) (by kernel_rfl) (by kernel_rfl) (by kernel_rfl) (P4 (hn := fun _ => rfl) (fs := #[(Field.mk "A" 5 0 false "" "" 0), (Field.mk "B" 5 1 false "" "" 1)]) (by kernel_rfl) (by kernel_rfl) (fun _ => rfl) (fun _ => rfl) (Lv (OU (by kernel_rfl : Tryz.prog.underlying 5 = some (.int .u8)) (by kernel_rfl)) rfl (by kernel_rfl) (fun _ => rfl) (TR (OU (by kernel_rfl : Tryz.prog.underlying 5 = some (.int .u8)) (by kernel_rfl)) rfl (by kernel_rfl) (fun _ => rfl))))) (NH (by kernel_rfl : Tryz.prog.underlying 36 = some (.slice 30)) (hval 1 36 v1 rfl rfl)) (fun _ => rfl) h1 hsz (j := 1) (by kernel_rfl) rfl
 obtain ⟨a2,k2,g2⟩:=TP (O9 (by kernel_rfl:Tryz.prog.underlying 56=some (.slice 63)) (by kernel_rfl) (by kernel_rfl) (by kernel_rfl) (by kernel_rfl) (WB (hn:=fun _=>rfl) (by kernel_rfl:Tryz.prog.underlying 63=some (.array 2 5)) (by kernel_rfl) (by kernel_rfl) (fun _=>rfl) (fun _=>rfl) (fun _=>rfl) (OU (by kernel_rfl:Tryz.prog.underlying 5=some (.int .u8)) (by kernel_rfl)))) (NH (by kernel_rfl:Tryz.prog.underlying 56=some (.slice 63)) (hval 2 56 v2 rfl rfl)) (fun _=>rfl) h2 hsz (j:=2) (by kernel_rfl) rfl
 have hc:=Vk a0 a1 a2 (TD a0 a1 a2 (fun v hv=>⟨bounds_u8 (g0.2 v hv).1,bounds_u8 (g0.2 v hv).2.1,bounds_u8 (g0.2 v hv).2.2.1⟩) (fun v hv=>⟨bounds_u8 (g1.2 v hv).1,bounds_u8 (g1.2 v hv).2⟩) (fun v hv=>⟨bounds_u8 (g2.2 v hv).1,bounds_u8 (g2.2 v hv).2⟩)) k0 k1 k2
 unfold Ret at hc
 refine hc.mono fun e W' he=>?_
 cases e with
 | returned v =>
  obtain ⟨rfl,hg⟩:=he
  exact ⟨_,rfl,TM Vj (fun t ht=>⟨Km (fun t=>Tryz.prog.readableRec t) (by kernel_rfl) ht,of_decide_eq_true (Km (fun t=>decide (t < Tryz.prog.types.size)) (by kernel_rfl) ht)⟩) hW' rfl (by kernel_rfl) (by kernel_rfl:Tryz.prog.underlying 4=some .bool) rfl hg⟩
 | panicked c=>exact he.elim
 | outgrown=>exact he.elim
theorem UF (os:Os):laidMet Tryz.prog Rows.courtMovedRow.laid ((NB os).forCall (fun _ _=>0) ⟨#[],#[Value.slice none 0 0,Value.slice none 0 0,Value.slice none 0 0],[]⟩).memory :=
 laidMet_of_run' 8 (by kernel_rfl) (by kernel_rfl)
theorem Ym (os:Os){H:Type}(enc:TypeId×Value->H):∃ places,DataW.whole enc Tryz.prog ((NB os).forCall (fun _ _=>0) ⟨#[],#[Value.slice none 0 0,Value.slice none 0 0,Value.slice none 0 0],[]⟩).memory Tryz.f6.params.toList Rows.courtMovedSpec.vars false #[Value.slice none 0 0,Value.slice none 0 0,Value.slice none 0 0].toList 8=some ([.nil,.nil,.nil],[],places) :=
 ⟨[],by kernel_rfl⟩
set_option maxRecDepth 100000 in
theorem XE (os:Os) (started:os.Started) (H:Type) (enc:TypeId×Value->H) (F:Stop.Interp) :
  ReturnsInHanded {} Tryz.checked os 6 .any ((OpenSpec.ofChange Rows.courtMovedSpec).preRow enc Tryz.prog Tryz.f6 Rows.courtMovedRow.domain false Rows.courtMovedRow.laid) (((OpenSpec.ofChange Rows.courtMovedSpec).at F).post enc Tryz.prog Tryz.f6 false true false false):=by
 obtain ⟨places,hx⟩:=Ym os enc
 refine returnsInHanded_of_row (C:=Tryz.checked) (s:=OpenSpec.ofChange Rows.courtMovedSpec) UQ started (by kernel_rfl) Tryz.func6
  (witness_row_at (enc:=enc) (C:=Tryz.checked) false (NB os) #[Value.slice none 0 0,Value.slice none 0 0,Value.slice none 0 0] rfl (by kernel_rfl) (by kernel_rfl) (by kernel_rfl)
   (OpenSpec.preRow_of_cond 8 hx (by kernel_rfl) (fun k hk=>by cases hk) (by kernel_rfl) (UF os))) ?_
 intro W base args ds gs before hval hW _ _ hsz _ _ _
 exact Tw H enc W base args ds gs before hval hW hsz
theorem U7:Tryz.pinned.checked.prog.funcNamed Rows.courtMovedRow.func=some 6:=by kernel_rfl
theorem Tr:joinedFacts Tryz.pinned.checked.prog 6 Tryz.f6 (OpenSpec.ofChange Rows.courtMovedSpec).bare Rows.courtMovedRow=true:=by kernel_rfl
theorem Y5:Rows.CourtMovedSaid :=
 OpenClaim.holds_of_cond 6 Tryz.f6 rfl rfl rfl rfl rfl rfl rfl ⟨rfl,rfl,rfl,rfl,rfl⟩ rfl rfl rfl rfl rfl U7 Tryz.func6 Tr
  (of_decide_eq_true (by kernel_rfl)) (by unfold Func.isWrapper; first | (rw [if_pos (by decide +kernel)]; kernel_rfl) | (rw [if_neg (by decide +kernel)]; exact ⟨rfl,rfl⟩))
  (fun os started H enc _ F=>by rw [OpenClaim.pre_eq_preRow]; exact XE os started H enc F)
theorem Yk (f : FuncId) (fn : Func) (hf : Tryz.pinned.checked.prog.funcNamed "trestle/trestlelaw03.CourtMoved" = some f) (hfn : Tryz.pinned.checked.prog.funcs[f]? = some fn) :
  true=Tryz.pinned.checked.prog.looks []/\∀ (j:Nat) t,fn.params[j]? = some t->Tryz.pinned.checked.prog.wantsStandIn t=false:=by
 obtain rfl : f = 6 := OI ((show Tryz.prog.funcNamed "trestle/trestlelaw03.CourtMoved" = some 6 by kernel_rfl).symm.trans hf) |>.symm
 obtain rfl:fn=Tryz.f6:=(OI (Tryz.func6.symm.trans hfn)).symm
 refine ⟨by kernel_rfl,fun j t ht=>?_⟩
 have hm:t ∈ Tryz.f6.params.toList:=by simpa using Array.mem_of_getElem? ht
 exact (show Tryz.prog.wantsStandIn t=false from Bool.not_eq_true' _ |>.mp (Km (fun t=>!Tryz.prog.wantsStandIn t) (by kernel_rfl) hm))
theorem card:Rows.CourtMovedCardSaid :=
 Claim7.holds_tied_plain_at .later [] _ _ _ _ Y5 (fun _ h=>by cases h) (by kernel_rfl) (fun _ h=>by cases h) courtMoved_row_tie rfl ⟨rfl,rfl⟩ (by kernel_rfl) rfl Yk (by kernel_rfl)
end Go.Proofs.YtlalcoehgkmhlaaGreatDoor.courtMoved
