/- trestlelaw03.CourtTurns returns true for every input, and its arguments read behind the call as before; conditions: those that the given row names. -/
import Derived.Test.YtlalcoehgkmhlaaGreatDoorCourtTurnsM1
import Derived.Test.YtlalcoehgkmhlaaGreatDoorCourtTurnsM2
import Derived.Test.YtlalcoehgkmhlaaGreatDoorCourtTurnsM3
import Derived.Test.YtlalcoehgkmhlaaGreatDoorCourtTurnsM4
import Derived.Test.YtlalcoehgkmhlaaGreatDoorCourtTurnsM5
import Derived.Test.YtlalcoehgkmhlaaGreatDoorCourtTurnsM6
import Derived.Test.YtlalcoehgkmhlaaGreatDoorCourtTurnsM7
import Derived.Test.YtlalcoehgkmhlaaGreatDoorCourtTurnsM8
namespace Go.Proofs.YtlalcoehgkmhlaaGreatDoor.courtTurns
open Go.ChangeShapes Go.WideShapes Go.ChangeAt Go.RowKit
theorem ACZ (a0:(List (List AF))) (a1:(List (List UInt8))) (a2:(List An)) (h:F0 a0 a1 a2=some true){w:World}{v0 v1 v2:Value}(h0:VR w (fun c=>c < w.heap.size) [] ((cdL 1 (cdL 5 AA)).enc a0) v0) (h1:VR w (fun c=>c < w.heap.size) [] ((cdL 1 cdS).enc a1) v1) (h2:VR w (fun c=>c < w.heap.size) [] ((cdL 9 AE).enc a2) v2):Ret Tryz.prog 8 #[v0,v1,v2] w fun v w'=>v = .bool true/\w.grownBy w' none :=
 Ret.mono (RE.2 (Ga.enc (a0,a1,a2,())) (Ht true) (S9 (s:=Ga) (a:=(a0,a1,a2,())) h) w (fun c=>c < w.heap.size) [v0,v1,v2] (fun c hc=>hc) (fun g x h=>by cases h) (.cons h0 (.cons h1 (.cons h2 .nil)))) fun v w' h=>⟨h.2.v_inv,h.1⟩
set_option maxRecDepth 100000 in
theorem AAa (H:Type) (enc:TypeId×Value->H) (W:World) (base:Nat) (args:Array Value) (ds gs:List (DataW H)) (before:List MemPlace)
  (hval:∀ (j:Nat) t v,Tryz.f8.params[j]? = some t->args[j]? = some v->Value.okWide Tryz.prog W .any base t v)
  (hW:DataW.Whole enc Tryz.prog Tryz.f8.params.toList Rows.courtTurnsSpec.vars false W args.toList ds gs before)
  (hsz:(DataW.weightsEach Tryz.prog (Tryz.f8.params.toList++(OpenSpec.ofChange Rows.courtTurnsSpec).bare.plain.varTypes Tryz.prog) (ds++gs)).all (·<=reachBytes)=true) :
  Calls Tryz.prog 8 args W fun e W'=>∃ v,e = .returned v/\Rows.courtTurnsSpec.post enc Tryz.prog Tryz.f8 false true false false W args v W':=by
 have hW':=hW
 obtain ⟨p,q,hA0,hV,rfl,hfz,hnd⟩:=hW
 have hA:DataW.TrodAll enc Tryz.prog W 0 (fun _=>true) true Tryz.f8.params.toList args.toList ds p:=hA0
 have hpar:Tryz.f8.params=#[68,40,23]:=by kernel_rfl
 rw [hpar] at hA hval
 obtain ⟨v0,vs0,d0,ds0,p0,q0,hargs,rfl,rfl,h0,r0⟩:=trodAll_cons hA
 obtain ⟨v1,vs1,d1,ds1,p1,q1,rfl,rfl,rfl,h1,r1⟩:=trodAll_cons r0
 obtain ⟨v2,vs2,d2,ds2,p2,q2,rfl,rfl,rfl,h2,r2⟩:=trodAll_cons r1
 obtain ⟨rfl,rfl,rfl⟩:=trodAll_nil r2
 obtain rfl:args=#[v0,v1,v2]:=by apply Array.ext'; simpa using hargs
 obtain ⟨a0, k0, g0⟩ := Zr (Na (by kernel_rfl : Tryz.prog.underlying 68 = some (.slice 22)) (by kernel_rfl) (by kernel_rfl) (by kernel_rfl) (by kernel_rfl) (Na (by kernel_rfl : Tryz.prog.underlying 22 = some (.slice 60)) (by kernel_rfl) (by kernel_rfl) (by kernel_rfl) (by kernel_rfl) (Wl (hn := fun _ => rfl) (fs := #[(Field.mk "Kind" 58 0 false "" "" 0), (Field.mk "Among" 9 1 false "" "" 8), (Field.mk "Last" 4 2 false "" "" 24), (Field.mk "Names" 40 3 false "" "" 32), (Field.mk "N" 3 4 false "" "" 56)]) (by kernel_rfl) (by kernel_rfl) (fun _ => rfl) (fun _ => rfl) (LX (ABj (by kernel_rfl : Tryz.prog.underlying 58 = some (.int .u8)) (by kernel_rfl)) rfl (by kernel_rfl) (fun _ => rfl) (LX (KV (by kernel_rfl : Tryz.prog.underlying 9 = some .string) (by kernel_rfl)) rfl (by kernel_rfl) (fun _ => rfl) (LX (Xc (by kernel_rfl : Tryz.prog.underlying 4 = some .bool) (by kernel_rfl)) rfl (by kernel_rfl) (fun _ => rfl) (LX (Na (by kernel_rfl : Tryz.prog.underlying 40 = some (.slice 9)) (by kernel_rfl) (by kernel_rfl) (by kernel_rfl) (by kernel_rfl) (KV (by kernel_rfl : Tryz.prog.underlying 9 = some .string) (by kernel_rfl))) rfl (by kernel_rfl) (fun _ => rfl) (ABk (Vm (by kernel_rfl : Tryz.prog.underlying 3 = some (.int .i64)) (by kernel_rfl)) rfl (by kernel_rfl) (fun _ => rfl))))))))) (Td (by kernel_rfl : Tryz.prog.underlying 68 = some (.slice 22)) (hval 0 68 v0 rfl rfl)) (fun _ => rfl) h0 hsz (j := 0) (by kernel_rfl) rfl
 obtain ⟨a1,k1,g1⟩:=Zr (Na (by kernel_rfl:Tryz.prog.underlying 40=some (.slice 9)) (by kernel_rfl) (by kernel_rfl) (by kernel_rfl) (by kernel_rfl) (KV (by kernel_rfl:Tryz.prog.underlying 9=some .string) (by kernel_rfl))) (Td (by kernel_rfl:Tryz.prog.underlying 40=some (.slice 9)) (hval 1 40 v1 rfl rfl)) (fun _=>rfl) h1 hsz (j:=1) (by kernel_rfl) rfl
 obtain ⟨a2, k2, g2⟩ := Zr (Na (by kernel_rfl : Tryz.prog.underlying 23 = some (.slice 42)) (by kernel_rfl) (by kernel_rfl) (by kernel_rfl) (by kernel_rfl) (Wl (hn := fun _ => rfl) (fs := #[(Field.mk "Name" 9 0 false "" "" 0), (Field.mk "Rank" 9 1 false "" "" 16), (Field.mk "Court" 9 2 false "" "" 32), (Field.mk "Since" 3 3 false "" "" 48), (Field.mk "Side" 3 4 false "" "" 56), (Field.mk "Diet" 9 5 false "" "" 64), (Field.mk "Host" 4 6 false "" "" 80), (Field.mk "Access" 4 7 false "" "" 81), (Field.mk "Tongues" 40 8 false "" "" 88)]) (by kernel_rfl) (by kernel_rfl) (fun _ => rfl) (fun _ => rfl) (LX (KV (by kernel_rfl : Tryz.prog.underlying 9 = some .string) (by kernel_rfl)) rfl (by kernel_rfl) (fun _ => rfl) (LX (KV (by kernel_rfl : Tryz.prog.underlying 9 = some .string) (by kernel_rfl)) rfl (by kernel_rfl) (fun _ => rfl) (LX (KV (by kernel_rfl : Tryz.prog.underlying 9 = some .string) (by kernel_rfl)) rfl (by kernel_rfl) (fun _ => rfl) (LX (Vm (by kernel_rfl : Tryz.prog.underlying 3 = some (.int .i64)) (by kernel_rfl)) rfl (by kernel_rfl) (fun _ => rfl) (LX (Vm (by kernel_rfl : Tryz.prog.underlying 3 = some (.int .i64)) (by kernel_rfl)) rfl (by kernel_rfl) (fun _ => rfl) (LX (KV (by kernel_rfl : Tryz.prog.underlying 9 = some .string) (by kernel_rfl)) rfl (by kernel_rfl) (fun _ => rfl) (LX (Xc (by kernel_rfl : Tryz.prog.underlying 4 = some .bool) (by kernel_rfl)) rfl (by kernel_rfl) (fun _ => rfl) (LX (Xc (by kernel_rfl : Tryz.prog.underlying 4 = some .bool) (by kernel_rfl)) rfl (by kernel_rfl) (fun _ => rfl) (ABk (Na (by kernel_rfl : Tryz.prog.underlying 40 = some (.slice 9)) (by kernel_rfl) (by kernel_rfl) (by kernel_rfl) (by kernel_rfl) (KV (by kernel_rfl : Tryz.prog.underlying 9 = some .string) (by kernel_rfl))) rfl (by kernel_rfl) (fun _ => rfl)))))))))))) (Td (by kernel_rfl : Tryz.prog.underlying 23 = some (.slice 42)) (hval 2 23 v2 rfl rfl)) (fun _ => rfl) h2 hsz (j := 2) (by kernel_rfl) rfl
 have hc:=ACZ a0 a1 a2 (AAA a0 a1 a2 (fun v hv=>by have h:=(g2.2 v hv).2.2.2.2.2.2.2.2.1.2; have e:Tryz.prog.bytesOf 9=16:=(by kernel_rfl); rw [e] at h; omega)) k0 k1 k2
 unfold Ret at hc
 refine hc.mono fun e W' he=>?_
 cases e with
 | returned v =>
  obtain ⟨rfl,hg⟩:=he
  exact ⟨_,rfl,Zq ACY (fun t ht=>⟨QO (fun t=>Tryz.prog.readableRec t) (by kernel_rfl) ht,of_decide_eq_true (QO (fun t=>decide (t < Tryz.prog.types.size)) (by kernel_rfl) ht)⟩) hW' rfl (by kernel_rfl) (by kernel_rfl:Tryz.prog.underlying 4=some .bool) rfl hg⟩
 | panicked c=>exact he.elim
 | outgrown=>exact he.elim
theorem AAq (os:Os):laidMet Tryz.prog Rows.courtTurnsRow.laid ((TV os).forCall (fun _ _=>0) ⟨#[],#[Value.slice none 0 0,Value.slice none 0 0,Value.slice none 0 0],[]⟩).memory :=
 laidMet_of_run' 8 (by kernel_rfl) (by kernel_rfl)
theorem AFW (os:Os){H:Type}(enc:TypeId×Value->H):∃ places,DataW.whole enc Tryz.prog ((TV os).forCall (fun _ _=>0) ⟨#[],#[Value.slice none 0 0,Value.slice none 0 0,Value.slice none 0 0],[]⟩).memory Tryz.f8.params.toList Rows.courtTurnsSpec.vars false #[Value.slice none 0 0,Value.slice none 0 0,Value.slice none 0 0].toList 8=some ([.nil,.nil,.nil],[],places) :=
 ⟨[],by kernel_rfl⟩
set_option maxRecDepth 100000 in
theorem AD6 (os:Os) (started:os.Started) (H:Type) (enc:TypeId×Value->H) (F:Stop.Interp) :
  ReturnsInHanded {} Tryz.checked os 8 .any ((OpenSpec.ofChange Rows.courtTurnsSpec).preRow enc Tryz.prog Tryz.f8 Rows.courtTurnsRow.domain false Rows.courtTurnsRow.laid) (((OpenSpec.ofChange Rows.courtTurnsSpec).at F).post enc Tryz.prog Tryz.f8 false true false false):=by
 obtain ⟨places,hx⟩:=AFW os enc
 refine returnsInHanded_of_row (C:=Tryz.checked) (s:=OpenSpec.ofChange Rows.courtTurnsSpec) AA1 started (by kernel_rfl) Tryz.func8
  (witness_row_at (enc:=enc) (C:=Tryz.checked) false (TV os) #[Value.slice none 0 0,Value.slice none 0 0,Value.slice none 0 0] rfl (by kernel_rfl) (by kernel_rfl) (by kernel_rfl)
   (OpenSpec.preRow_of_cond 8 hx (by kernel_rfl) (fun k hk=>by cases hk) (by kernel_rfl) (AAq os))) ?_
 intro W base args ds gs before hval hW _ _ hsz _ _ _
 exact AAa H enc W base args ds gs before hval hW hsz
theorem ABw:Tryz.pinned.checked.prog.funcNamed Rows.courtTurnsRow.func=some 8:=by kernel_rfl
theorem AAW:joinedFacts Tryz.pinned.checked.prog 8 Tryz.f8 (OpenSpec.ofChange Rows.courtTurnsSpec).bare Rows.courtTurnsRow=true:=by kernel_rfl
theorem AFt:Rows.CourtTurnsSaid :=
 OpenClaim.holds_of_cond 8 Tryz.f8 rfl rfl rfl rfl rfl rfl rfl ⟨rfl,rfl,rfl,rfl,rfl⟩ rfl rfl rfl rfl rfl ABw Tryz.func8 AAW
  (of_decide_eq_true (by kernel_rfl)) (by unfold Func.isWrapper; first | (rw [if_pos (by decide +kernel)]; kernel_rfl) | (rw [if_neg (by decide +kernel)]; exact ⟨rfl,rfl⟩))
  (fun os started H enc _ F=>by rw [OpenClaim.pre_eq_preRow]; exact AD6 os started H enc F)
theorem AFV (f : FuncId) (fn : Func) (hf : Tryz.pinned.checked.prog.funcNamed "trestle/trestlelaw03.CourtTurns" = some f) (hfn : Tryz.pinned.checked.prog.funcs[f]? = some fn) :
  true=Tryz.pinned.checked.prog.looks []/\∀ (j:Nat) t,fn.params[j]? = some t->Tryz.pinned.checked.prog.wantsStandIn t=false:=by
 obtain rfl : f = 8 := OI ((show Tryz.prog.funcNamed "trestle/trestlelaw03.CourtTurns" = some 8 by kernel_rfl).symm.trans hf) |>.symm
 obtain rfl:fn=Tryz.f8:=(OI (Tryz.func8.symm.trans hfn)).symm
 refine ⟨by kernel_rfl,fun j t ht=>?_⟩
 have hm:t ∈ Tryz.f8.params.toList:=by simpa using Array.mem_of_getElem? ht
 exact (show Tryz.prog.wantsStandIn t=false from Bool.not_eq_true' _ |>.mp (QO (fun t=>!Tryz.prog.wantsStandIn t) (by kernel_rfl) hm))
theorem card:Rows.CourtTurnsCardSaid :=
 Claim7.holds_tied_plain_at .later [] _ _ _ _ AFt (fun _ h=>by cases h) (by kernel_rfl) (fun _ h=>by cases h) courtTurns_row_tie rfl ⟨rfl,rfl⟩ (by kernel_rfl) rfl AFV (by kernel_rfl)
end Go.Proofs.YtlalcoehgkmhlaaGreatDoor.courtTurns
