/- trestlelaw03.CourtWeak returns true for every input, and its arguments read behind the call as before; conditions: those that the given row names. -/
import Derived.Test.YtdjhmdbpcfnpgaaGreatDoorCourtWeakM1
import Derived.Test.YtdjhmdbpcfnpgaaGreatDoorCourtWeakM2
import Derived.Test.YtdjhmdbpcfnpgaaGreatDoorCourtWeakM3
import Derived.Test.YtdjhmdbpcfnpgaaGreatDoorCourtWeakM4
import Derived.Test.YtdjhmdbpcfnpgaaGreatDoorCourtWeakM5
import Derived.Test.YtdjhmdbpcfnpgaaGreatDoorCourtWeakM6
import Derived.Test.YtdjhmdbpcfnpgaaGreatDoorCourtWeakM7
namespace Go.Proofs.YtdjhmdbpcfnpgaaGreatDoor.courtWeak
open Go.ChangeShapes Go.WideShapes Go.ChangeAt Go.RowKit
theorem Sj (a0:(List (Int×Int×Int×Bool×Bool))) (a1:Pe3) (a2:(Bool×Bool)) (a3:(Int×Int×Int)) (h:DA a0 a1 a2 a3=some true){w:World}{v0 v1 v2 v3:Value}(h0:VR w (fun c=>c < w.heap.size) [] ((cdL 5 (cdA (csC (cdK .u8) (csC (cdK .u8) (csC (cdK .u8) (csC cdB (csE cdB))))) (fun _=>rfl))).enc a0) v0) (h1:VR w (fun c=>c < w.heap.size) [] (Tu.enc a1) v1) (h2:VR w (fun c=>c < w.heap.size) [] ((MQ cdB cdB (fun _=>rfl) (fun _=>rfl)).enc a2) v2) (h3:VR w (fun c=>c < w.heap.size) [] ((VT cdI cdI cdI (fun _=>rfl) (fun _=>rfl) (fun _=>rfl)).enc a3) v3):Ret Tryz.prog 5 #[v0,v1,v2,v3] w fun v w'=>v = .bool true/\w.grownBy w' none :=
 Ret.mono (KU.2 (D5.enc (a0,a1,a2,a3,())) (FL true) (K3 (s:=D5) (a:=(a0,a1,a2,a3,())) h) w (fun c=>c < w.heap.size) [v0,v1,v2,v3] (fun c hc=>hc) (fun g x h=>by cases h) (.cons h0 (.cons h1 (.cons h2 (.cons h3 .nil))))) fun v w' h=>⟨h.2.v_inv,h.1⟩
set_option maxRecDepth 100000 in
theorem Q8 (H:Type) (enc:TypeId×Value->H) (W:World) (base:Nat) (args:Array Value) (ds gs:List (DataW H)) (before:List MemPlace)
  (hval:∀ (j:Nat) t v,Tryz.f5.params[j]? = some t->args[j]? = some v->Value.okWide Tryz.prog W .any base t v)
  (hW:DataW.Whole enc Tryz.prog Tryz.f5.params.toList Rows.courtWeakSpec.vars false W args.toList ds gs before)
  (hsz:(DataW.weightsEach Tryz.prog (Tryz.f5.params.toList++(OpenSpec.ofChange Rows.courtWeakSpec).bare.plain.varTypes Tryz.prog) (ds++gs)).all (·<=reachBytes)=true) :
  Calls Tryz.prog 5 args W fun e W'=>∃ v,e = .returned v/\Rows.courtWeakSpec.post enc Tryz.prog Tryz.f5 false true false false W args v W':=by
 have hW':=hW
 obtain ⟨p,q,hA0,hV,rfl,hfz,hnd⟩:=hW
 have hA:DataW.TrodAll enc Tryz.prog W 0 (fun _=>true) true Tryz.f5.params.toList args.toList ds p:=hA0
 have hpar:Tryz.f5.params=#[24,36,37,38]:=by kernel_rfl
 rw [hpar] at hA hval
 obtain ⟨v0,vs0,d0,ds0,p0,q0,hargs,rfl,rfl,h0,r0⟩:=trodAll_cons hA
 obtain ⟨v1,vs1,d1,ds1,p1,q1,rfl,rfl,rfl,h1,r1⟩:=trodAll_cons r0
 obtain ⟨v2,vs2,d2,ds2,p2,q2,rfl,rfl,rfl,h2,r2⟩:=trodAll_cons r1
 obtain ⟨v3,vs3,d3,ds3,p3,q3,rfl,rfl,rfl,h3,r3⟩:=trodAll_cons r2
 obtain ⟨rfl,rfl,rfl⟩:=trodAll_nil r3
 obtain rfl:args=#[v0,v1,v2,v3]:=by apply Array.ext'; simpa using hargs
 obtain ⟨a0, k0, g0⟩ := UK (RX (by kernel_rfl : Tryz.prog.underlying 24 = some (.slice 63)) (by kernel_rfl) (by kernel_rfl) (by kernel_rfl) (by kernel_rfl) (Nj (hn := fun _ => rfl) (fs := #[(Field.mk "Kind" 5 0 false "" "" 0), (Field.mk "N" 5 1 false "" "" 1), (Field.mk "Names" 5 2 false "" "" 2), (Field.mk "Last" 4 3 false "" "" 3), (Field.mk "Among" 4 4 false "" "" 4)]) (by kernel_rfl) (by kernel_rfl) (fun _ => rfl) (fun _ => rfl) (Ik (Mb (by kernel_rfl : Tryz.prog.underlying 5 = some (.int .u8)) (by kernel_rfl)) rfl (by kernel_rfl) (fun _ => rfl) (Ik (Mb (by kernel_rfl : Tryz.prog.underlying 5 = some (.int .u8)) (by kernel_rfl)) rfl (by kernel_rfl) (fun _ => rfl) (Ik (Mb (by kernel_rfl : Tryz.prog.underlying 5 = some (.int .u8)) (by kernel_rfl)) rfl (by kernel_rfl) (fun _ => rfl) (Ik (OR (by kernel_rfl : Tryz.prog.underlying 4 = some .bool) (by kernel_rfl)) rfl (by kernel_rfl) (fun _ => rfl) (PB (OR (by kernel_rfl : Tryz.prog.underlying 4 = some .bool) (by kernel_rfl)) rfl (by kernel_rfl) (fun _ => rfl)))))))) (QT (by kernel_rfl : Tryz.prog.underlying 24 = some (.slice 63)) (hval 0 24 v0 rfl rfl)) (fun _ => rfl) h0 hsz (j := 0) (by kernel_rfl) rfl
 obtain ⟨a1, k1, g1⟩ := OQ (RV (hn := fun _ => rfl) (by kernel_rfl : Tryz.prog.underlying 36 = some (.array 3 35)) (by kernel_rfl) (by kernel_rfl) (Nj (hn := fun _ => rfl) (fs := #[(Field.mk "A" 5 0 false "" "" 0), (Field.mk "B" 5 1 false "" "" 1)]) (by kernel_rfl) (by kernel_rfl) (fun _ => rfl) (fun _ => rfl) (Ik (Mb (by kernel_rfl : Tryz.prog.underlying 5 = some (.int .u8)) (by kernel_rfl)) rfl (by kernel_rfl) (fun _ => rfl) (PB (Mb (by kernel_rfl : Tryz.prog.underlying 5 = some (.int .u8)) (by kernel_rfl)) rfl (by kernel_rfl) (fun _ => rfl))))) (K9 (by kernel_rfl : Tryz.prog.underlying 36 = some (.array 3 35)) (hval 1 36 v1 rfl rfl)) h1 hsz (j := 1) (by kernel_rfl) rfl
 obtain ⟨a2,k2,g2⟩:=OQ (S8 (hn:=fun _=>rfl) (by kernel_rfl:Tryz.prog.underlying 37=some (.array 2 4)) (by kernel_rfl) (by kernel_rfl) (fun _=>rfl) (fun _=>rfl) (fun _=>rfl) (OR (by kernel_rfl:Tryz.prog.underlying 4=some .bool) (by kernel_rfl))) (K9 (by kernel_rfl:Tryz.prog.underlying 37=some (.array 2 4)) (hval 2 37 v2 rfl rfl)) h2 hsz (j:=2) (by kernel_rfl) rfl
 obtain ⟨a3,k3,g3⟩:=OQ (S9 (hn:=fun _=>rfl) (by kernel_rfl:Tryz.prog.underlying 38=some (.array 3 3)) (by kernel_rfl) (by kernel_rfl) (fun _=>rfl) (fun _=>rfl) (fun _=>rfl) (RW (by kernel_rfl:Tryz.prog.underlying 3=some (.int .i64)) (by kernel_rfl))) (K9 (by kernel_rfl:Tryz.prog.underlying 38=some (.array 3 3)) (hval 3 38 v3 rfl rfl)) h3 hsz (j:=3) (by kernel_rfl) rfl
 have hc:=Sj a0 a1 a2 a3 (Rm a0 (fun v hv=>⟨bounds_u8 (g0.2 v hv).1,bounds_u8 (g0.2 v hv).2.1,bounds_u8 (g0.2 v hv).2.2.1⟩) a1 ⟨⟨bounds_u8 g1.1.1,bounds_u8 g1.1.2⟩,⟨bounds_u8 g1.2.1.1,bounds_u8 g1.2.1.2⟩,bounds_u8 g1.2.2.1,bounds_u8 g1.2.2.2⟩ a2 a3) k0 k1 k2 k3
 unfold Ret at hc
 refine hc.mono fun e W' he=>?_
 cases e with
 | returned v =>
  obtain ⟨rfl,hg⟩:=he
  exact ⟨_,rfl,QW Si (fun t ht=>⟨JN (fun t=>Tryz.prog.readableRec t) (by kernel_rfl) ht,of_decide_eq_true (JN (fun t=>decide (t < Tryz.prog.types.size)) (by kernel_rfl) ht)⟩) hW' rfl (by kernel_rfl) (by kernel_rfl:Tryz.prog.underlying 4=some .bool) rfl hg⟩
 | panicked c=>exact he.elim
 | outgrown=>exact he.elim
theorem RL (os:Os):laidMet Tryz.prog Rows.courtWeakRow.laid ((LQ os).forCall (fun _ _=>0) ⟨#[],#[Value.slice none 0 0,Value.agg #[Value.int .u8 0,Value.int .u8 0,Value.int .u8 0,Value.int .u8 0,Value.int .u8 0,Value.int .u8 0],Value.agg #[Value.bool false,Value.bool false],Value.agg #[Value.int .i64 0,Value.int .i64 0,Value.int .i64 0]],[]⟩).memory :=
 laidMet_of_run' 8 (by kernel_rfl) (by kernel_rfl)
theorem VO (os:Os){H:Type}(enc:TypeId×Value->H):∃ places,DataW.whole enc Tryz.prog ((LQ os).forCall (fun _ _=>0) ⟨#[],#[Value.slice none 0 0,Value.agg #[Value.int .u8 0,Value.int .u8 0,Value.int .u8 0,Value.int .u8 0,Value.int .u8 0,Value.int .u8 0],Value.agg #[Value.bool false,Value.bool false],Value.agg #[Value.int .i64 0,Value.int .i64 0,Value.int .i64 0]],[]⟩).memory Tryz.f5.params.toList Rows.courtWeakSpec.vars false #[Value.slice none 0 0,Value.agg #[Value.int .u8 0,Value.int .u8 0,Value.int .u8 0,Value.int .u8 0,Value.int .u8 0,Value.int .u8 0],Value.agg #[Value.bool false,Value.bool false],Value.agg #[Value.int .i64 0,Value.int .i64 0,Value.int .i64 0]].toList 8=some ([.nil,.agg [.agg [.lit (.int .u8 0),.lit (.int .u8 0)],.agg [.lit (.int .u8 0),.lit (.int .u8 0)],.agg [.lit (.int .u8 0),.lit (.int .u8 0)]],.agg [.lit (.bool false),.lit (.bool false)],.agg [.lit (.int .i64 0),.lit (.int .i64 0),.lit (.int .i64 0)]],[],places) :=
 ⟨[],by kernel_rfl⟩
set_option maxRecDepth 100000 in
theorem UC (os:Os) (started:os.Started) (H:Type) (enc:TypeId×Value->H) (F:Stop.Interp) :
  ReturnsInHanded {} Tryz.checked os 5 .any ((OpenSpec.ofChange Rows.courtWeakSpec).preRow enc Tryz.prog Tryz.f5 Rows.courtWeakRow.domain false Rows.courtWeakRow.laid) (((OpenSpec.ofChange Rows.courtWeakSpec).at F).post enc Tryz.prog Tryz.f5 false true false false):=by
 obtain ⟨places,hx⟩:=VO os enc
 refine returnsInHanded_of_row (C:=Tryz.checked) (s:=OpenSpec.ofChange Rows.courtWeakSpec) RS started (by kernel_rfl) Tryz.func5
  (witness_row_at (enc:=enc) (C:=Tryz.checked) false (LQ os) #[Value.slice none 0 0,Value.agg #[Value.int .u8 0,Value.int .u8 0,Value.int .u8 0,Value.int .u8 0,Value.int .u8 0,Value.int .u8 0],Value.agg #[Value.bool false,Value.bool false],Value.agg #[Value.int .i64 0,Value.int .i64 0,Value.int .i64 0]] rfl (by kernel_rfl) (by kernel_rfl) (by kernel_rfl)
   (OpenSpec.preRow_of_cond 8 hx (by kernel_rfl) (fun k hk=>by cases hk) (by kernel_rfl) (RL os))) ?_
 intro W base args ds gs before hval hW _ _ hsz _ _ _
 exact Q8 H enc W base args ds gs before hval hW hsz
theorem SI:Tryz.pinned.checked.prog.funcNamed Rows.courtWeakRow.func=some 5:=by kernel_rfl
theorem Q4:joinedFacts Tryz.pinned.checked.prog 5 Tryz.f5 (OpenSpec.ofChange Rows.courtWeakSpec).bare Rows.courtWeakRow=true:=by kernel_rfl
theorem Ve:Rows.CourtWeakSaid :=
 OpenClaim.holds_of_cond 5 Tryz.f5 rfl rfl rfl rfl rfl rfl rfl ⟨rfl,rfl,rfl,rfl,rfl⟩ rfl rfl rfl rfl rfl SI Tryz.func5 Q4
  (of_decide_eq_true (by kernel_rfl)) (by unfold Func.isWrapper; first | (rw [if_pos (by decide +kernel)]; kernel_rfl) | (rw [if_neg (by decide +kernel)]; exact ⟨rfl,rfl⟩))
  (fun os started H enc _ F=>by rw [OpenClaim.pre_eq_preRow]; exact UC os started H enc F)
theorem VM (f : FuncId) (fn : Func) (hf : Tryz.pinned.checked.prog.funcNamed "trestle/trestlelaw03.CourtWeak" = some f) (hfn : Tryz.pinned.checked.prog.funcs[f]? = some fn) :
  true=Tryz.pinned.checked.prog.looks []/\∀ (j:Nat) t,fn.params[j]? = some t->Tryz.pinned.checked.prog.wantsStandIn t=false:=by
 obtain rfl : f = 5 := OI ((show Tryz.prog.funcNamed "trestle/trestlelaw03.CourtWeak" = some 5 by kernel_rfl).symm.trans hf) |>.symm
 obtain rfl:fn=Tryz.f5:=(OI (Tryz.func5.symm.trans hfn)).symm
 refine ⟨by kernel_rfl,fun j t ht=>?_⟩
 have hm:t ∈ Tryz.f5.params.toList:=by simpa using Array.mem_of_getElem? ht
 exact (show Tryz.prog.wantsStandIn t=false from Bool.not_eq_true' _ |>.mp (JN (fun t=>!Tryz.prog.wantsStandIn t) (by kernel_rfl) hm))
theorem card:Rows.CourtWeakCardSaid :=
 Claim7.holds_tied_plain_at .later [] _ _ _ _ Ve (fun _ h=>by cases h) (by kernel_rfl) (fun _ h=>by cases h) courtWeak_row_tie rfl ⟨rfl,rfl⟩ (by kernel_rfl) rfl VM (by kernel_rfl)
end Go.Proofs.YtdjhmdbpcfnpgaaGreatDoor.courtWeak
