/- Lemmas for the proof. -/
import Derived.Test.YtdjhmdbpcfnpgaaGreatDoorCourtRoundM1
import Derived.Test.YtdjhmdbpcfnpgaaGreatDoorCourtRoundM2
import Derived.Test.YtdjhmdbpcfnpgaaGreatDoorCourtRoundM3
import Derived.Test.YtdjhmdbpcfnpgaaGreatDoorCourtRoundM4
import Derived.Test.YtdjhmdbpcfnpgaaGreatDoorCourtRoundM5
import Derived.Test.YtdjhmdbpcfnpgaaGreatDoorCourtRoundM6
set_option maxHeartbeats 4000000
set_option maxRecDepth 100000
namespace Go.Proofs.YtdjhmdbpcfnpgaaGreatDoor
open Go.RowKit
def isT (r:Option (AV×Hp)):Bool:=match r with
 | some (.v (.bool true),_)=>true
 | _=>false
theorem T7 {r:Option (AV×Hp)}(h:isT r=true):∃ h',r=some (.v (.bool true),h'):=by
 unfold isT at h
 split at h
 ·exact ⟨_,rfl⟩
 ·cases h
set_option maxRecDepth 1000000 in
theorem U1:isT (PI E13 3000 8 [] [])=true:=by kernel_rfl
theorem R8:∃ h,PI E13 3000 8 [] []=some (.v (.bool true),h):=T7 U1
theorem QQ (w:World):Ret Tryz.prog 8 #[] w fun v w'=>v = .bool true/\w.grownBy w' none:=by
 obtain ⟨h,e⟩:=R8
 exact Sv (E:=E13) (Z:=fun _=>False) (us:=[]) Um e (fun c hc=>hc.elim) (fun g x h=>by cases h) .nil
theorem UU {w:World}{Z:Nat->Prop}:VR w Z [] (.v (.bool true)) (.bool true):= .v rfl
def Hs:Option Bool:=some true
def L5:Cs Unit:=csN
def L6 (b:Bool):AV:=cdB.enc b
def NM:List AV->Option AV:=FZ L5 (fun _=>Hs) L6
theorem H2:XOk 8 NM:=by
 refine ⟨⟨Tryz.call8⟩,fun xs x h w Z us _ _ hv=>?_⟩
 obtain ⟨a,ha,h⟩:=OB h
 obtain ⟨b,hb,rfl⟩:=Option.map_eq_some_iff.1 h
 have hb:=OI hb
 subst hb
 have:xs=[]:=by
  cases xs with
  | nil=>rfl
  | cons x xs=>cases ha
 subst this
 have:us=[]:=by have:=hv.len; simpa using this
 subst this
 exact Ret.mono (QQ w) fun v w' h=>⟨h.2,by rw [h.1]; exact UU⟩
/- trestle/trestlelaw03.CourtRound -/
noncomputable def GN:Code:=BX Tryz.f4
def Cj (x0:(List (Int×Int×Int×Bool×Bool))) (x1:(List UInt8)):Option (Bool) :=
 (FP x0).bind fun v1 =>
 (DE v1).bind fun v2 =>
 (EA v2).bind fun v3 =>
 (if (v3.2.2 != 0)=true then some true else if (v3.2.1 != 0)=true then some true else (FQ v3.1 v1).bind fun v4 =>
 if (!v4)=true then some true else (Du v2 [10]).bind fun v5 =>
 some (v5 != (v1.length:Int))).bind fun j7 =>
 if j7=true then
 some false
 else
 if (decide ((x1.length:Int) > 3000))=true then
 Hs.bind fun v10 =>
 some v10
 else
 (EA x1).bind fun v11 =>
 if (v11.2.2 != 0)=true then
 (if ((v11.1.length:Int)==0)=true then if (decide (v11.2.1≥0))=true then (Du x1 [10]).bind fun v13 =>
 if (decide (v11.2.1<=v13))=true then Hs.bind fun v14 =>
 some v14 else some false else some false else some false).bind fun j16 =>
 some j16
 else
 (DE v11.1).bind fun v20 =>
 (if (v20==x1)=true then if (v11.2.1==0)=true then Hs.bind fun v21 =>
 some v21 else some false else some false).bind fun j23 =>
 some j23
def Cw:Cs (((List (Int×Int×Int×Bool×Bool)))×(List UInt8)×Unit):=(csC (cdL 5 (cdA (csC (cdK .u8) (csC (cdK .u8) (csC (cdK .u8) (csC cdB (csE cdB))))) (fun _=>rfl))) (csC cdS csN))
def Dr (r:Bool):AV:=cdB.enc r
theorem Iz (x0:(List (Int×Int×Int×Bool×Bool))) (x1:(List UInt8)) (r:Bool) (h:Cj x0 x1=some r):Sem E0 ⟨none,false⟩ GN ⟨Fr 78 (BB 0 (Cw.enc (x0,x1,()))),[]⟩ fun e s'=>(e = .normal\/e = .ret)/\∃ xs,D4 E0.P s'.fr s'.hp Tryz.f4.results.toList=some xs/\Eh xs=Dr r:=by
 unfold Cj at h;refine CB (DP (s1:=⟨Fr 78 [(0,.sl 5 (x0.map (cdA (csC (cdK .u8) (csC (cdK .u8) (csC (cdK .u8) (csC cdB (csE cdB))))) (fun _=>rfl)).enc)),(1,.st x1)],[]⟩) AQ ?_);refine Ae AC [(0,.sl 5 (x0.map (cdA (csC (cdK .u8) (csC (cdK .u8) (csC (cdK .u8) (csC cdB (csE cdB))))) (fun _=>rfl)).enc)),(1,.st x1)] [] ?_;refine AI ?_;obtain ⟨v1,hv1,h⟩:=OB h;refine AL (s1:=⟨Fr 78 [(1,.st x1),(5,.sl 5 (v1.map AB.enc))],[]⟩) ?_ ?_
 ·refine AD (n:=78) AC 1 [(1,.st x1),(10,.sl 5 (x0.map (cdA (csC (cdK .u8) (csC (cdK .u8) (csC (cdK .u8) (csC cdB (csE cdB))))) (fun _=>rfl)).enc))] [] kr ?_
  refine Af (caps:=[]) (xs:=[.sl 5 (x0.map (cdA (csC (cdK .u8) (csC (cdK .u8) (csC (cdK .u8) (csC cdB (csE cdB))))) (fun _=>rfl)).enc)]) (u:=(x0,())) rfl rfl OF rfl (AA rfl) kr kr (As (BU (c:=(cdL 5 (cdA (csC (cdK .u8) (csC (cdK .u8) (csC (cdK .u8) (csC cdB (csE cdB))))) (fun _=>rfl)))) (v:=x0)) B3) (.inr kr) hv1 ?_;exact Ar AC
 refine AI ?_;obtain ⟨v2,hv2,h⟩:=OB h;refine AL (s1:=⟨Fr 78 [(1,.st x1),(5,.sl 5 (v1.map AB.enc)),(6,.st v2)],[]⟩) ?_ ?_
 ·refine AD (n:=78) AC 1 [(1,.st x1),(5,.sl 5 (v1.map AB.enc)),(12,.sl 5 (v1.map AB.enc))] [] kr ?_
  refine Af (caps:=[]) (xs:=[.sl 5 (v1.map AB.enc)]) (u:=(v1,())) rfl rfl JB rfl (AA rfl) kr kr (As (BU (c:=(cdL 5 AB)) (v:=v1)) B3) (.inl kr) hv2 ?_;exact Ar AC
 refine AI ?_;obtain ⟨v3,hv3,h⟩:=OB h;refine AL (s1:=⟨Fr 78 [(1,.st x1),(5,.sl 5 (v1.map AB.enc)),(6,.st v2),(7,.sl 5 (v3.1.map AB.enc)),(8,.j v3.2.1),(9,.j v3.2.2)],[]⟩) ?_ ?_
 ·refine AD (n:=78) AC 1 [(1,.st x1),(5,.sl 5 (v1.map AB.enc)),(6,.st v2),(15,.st v2)] [] kr ?_
  refine Af (caps:=[]) (xs:=[.st v2]) (u:=(v2,())) rfl rfl J2 rfl (AA rfl) kr kr (As (BU (c:=cdS) (v:=v2)) B3) (.inr kr) hv3 ?_;exact Ar AC
 refine AI ?_;refine AI ?_;obtain ⟨j7,hj7,h⟩:=OB h;refine AL (s1:=⟨Fr 78 [(1,.st x1),(38,.b j7)],[]⟩) ?_ ?_
 ·refine AD (n:=78) AC 3 [(1,.st x1),(5,.sl 5 (v1.map AB.enc)),(6,.st v2),(7,.sl 5 (v3.1.map AB.enc)),(8,.j v3.2.1),(22,.b (v3.2.2 != 0))] [] kr ?_
  rcases BE (v3.2.2 != 0) with hc26 | hc26
  ·rw [if_pos hc26] at hj7
   rw [hc26];refine AD (n:=78) AC 16 [(1,.st x1),(38,.b true)] [] kr ?_;have hq:=OI hj7; subst hq;exact AJ rfl AQ
  ·rw [Bx hc26] at hj7
   rw [hc26];refine AD (n:=78) AC 4 [(1,.st x1),(5,.sl 5 (v1.map AB.enc)),(6,.st v2),(7,.sl 5 (v3.1.map AB.enc)),(26,.b (v3.2.1 != 0))] [] kr ?_;rcases BE (v3.2.1 != 0) with hc27 | hc27
   ·rw [if_pos hc27] at hj7
    rw [hc27];refine AD (n:=78) AC 12 [(1,.st x1),(38,.b true)] [] kr ?_;have hq:=OI hj7; subst hq;exact AJ rfl AQ
   ·rw [Bx hc27] at hj7
    rw [hc27];refine AD (n:=78) AC 2 [(1,.st x1),(5,.sl 5 (v1.map AB.enc)),(6,.st v2),(26,.b false),(27,.sl 5 (v3.1.map AB.enc)),(28,.sl 5 (v1.map AB.enc))] [] kr ?_;obtain ⟨v4,hv4,hj7⟩:=OB hj7;refine Af (caps:=[]) (xs:=[.sl 5 (v3.1.map AB.enc),.sl 5 (v1.map AB.enc)]) (u:=(v3.1,v1,())) rfl rfl OG rfl kr kr kr (As (BU (c:=(cdL 5 AB)) (v:=v3.1)) (As (BU (c:=(cdL 5 AB)) (v:=v1)) B3)) (.inl kr) hv4 ?_;refine AD (n:=78) AC 3 [(1,.st x1),(5,.sl 5 (v1.map AB.enc)),(6,.st v2),(32,.b (!v4))] [] kr ?_;rcases BE (!v4) with hc28 | hc28
    ·rw [if_pos hc28] at hj7
     rw [hc28];refine AD (n:=78) AC 6 [(1,.st x1),(38,.b true)] [] kr ?_;have hq:=OI hj7; subst hq;exact AJ rfl AQ
    ·rw [Bx hc28] at hj7
     rw [hc28];refine AD (n:=78) AC 1 [(1,.st x1),(5,.sl 5 (v1.map AB.enc)),(32,.b false),(33,.st v2)] [] kr ?_;obtain ⟨v5,hv5,hj7⟩:=OB hj7;refine Af (caps:=[]) (xs:=[.st v2,.st [10]]) (u:=(v2,[10],())) rfl rfl Gg rfl kr kr kr (As (BU (c:=cdS) (v:=v2)) (As (BU (c:=cdS) (v:=[10])) B3)) (.inl kr) hv5 ?_;refine AD (n:=78) AC 1 [(1,.st x1),(32,.b false),(34,.j v5),(35,.sl 5 (v1.map AB.enc))] [] kr ?_;refine Aw AC 0 rfl (BH kr rfl (FT (a:= .sl 5 (v1.map AB.enc)) kr (Dx (el:=66) kr))) ?_;refine AD (n:=78) AC 2 [(1,.st x1),(38,.b (v5 != (v1.length:Int)))] [] kr ?_;have hq:=OI hj7; subst hq;exact AJ rfl AQ
 refine AU (b:=j7) kr (fun hb8=>?_) (fun hb8=>?_)
 ·rw [if_pos hb8] at h
  refine Ae AC [(4,.b false)] [] ?_;refine Ah ?_;have hq:=OI h; subst hq;exact ⟨⟨Fr 78 [(4,.b false)],[]⟩,AQ,.inr rfl,[.b false],kr,kr⟩
 ·rw [Bx hb8] at h
  refine Ax ?_;refine AI ?_;refine Ae AC [(1,.st x1),(41,.b (decide ((x1.length:Int) > 3000)))] [] ?_;refine AU (b:=(decide ((x1.length:Int) > 3000))) kr (fun hb9=>?_) (fun hb9=>?_)
  ·rw [if_pos hb9] at h
   refine AI ?_;obtain ⟨v10,hv10,h⟩:=OB h;refine AL (s1:=⟨Fr 78 [(4,.b v10)],[]⟩) ?_ ?_
   ·refine Af (caps:=[]) (xs:=[]) (u:=(())) rfl rfl H2 rfl (AA rfl) kr kr B3 (.inl kr) hv10 ?_
    exact Ar AC
   refine Ah ?_;have hq:=OI h; subst hq;exact ⟨⟨Fr 78 [(4,.b v10)],[]⟩,AQ,.inr rfl,[.b v10],kr,kr⟩
  ·rw [Bx hb9] at h
   refine Ax ?_;refine AI ?_;obtain ⟨v11,hv11,h⟩:=OB h;refine AL (s1:=⟨Fr 78 [(1,.st x1),(7,.sl 5 (v11.1.map AB.enc)),(8,.j v11.2.1),(9,.j v11.2.2)],[]⟩) ?_ ?_
   ·refine AD (n:=78) AC 1 [(1,.st x1),(44,.st x1)] [] kr ?_
    refine Af (caps:=[]) (xs:=[.st x1]) (u:=(x1,())) rfl rfl J2 rfl (AA rfl) kr kr (As (BU (c:=cdS) (v:=x1)) B3) (.inr kr) hv11 ?_;exact Ar AC
   refine AI ?_;refine Ae AC [(1,.st x1),(7,.sl 5 (v11.1.map AB.enc)),(8,.j v11.2.1),(50,.b (v11.2.2 != 0))] [] ?_;refine AU (b:=(v11.2.2 != 0)) kr (fun hb12=>?_) (fun hb12=>?_)
   ·rw [if_pos hb12] at h
    refine AI ?_;obtain ⟨j16,hj16,h⟩:=OB h;refine AL (s1:=⟨Fr 78 [(4,.b j16)],[]⟩) ?_ ?_
    ·refine AD (n:=78) AC 1 [(1,.st x1),(8,.j v11.2.1),(51,.sl 5 (v11.1.map AB.enc))] [] kr ?_
     refine Aw AC 0 rfl (BH (AA rfl) rfl (FT (a:= .sl 5 (v11.1.map AB.enc)) kr (Dx (el:=66) kr))) ?_;refine AD (n:=78) AC 2 [(1,.st x1),(8,.j v11.2.1),(54,.b ((v11.1.length:Int)==0))] [] kr ?_;rcases BE ((v11.1.length:Int)==0) with hc17 | hc17
     ·rw [if_pos hc17] at hj16
      rw [hc17];refine AD (n:=78) AC 4 [(1,.st x1),(8,.j v11.2.1),(58,.b (decide (v11.2.1≥0)))] [] kr ?_;rcases BE (decide (v11.2.1≥0)) with hc18 | hc18
      ·rw [if_pos hc18] at hj16
       rw [hc18];refine AD (n:=78) AC 2 [(58,.b true),(59,.j v11.2.1),(60,.st x1)] [] kr ?_;obtain ⟨v13,hv13,hj16⟩:=OB hj16;refine Af (caps:=[]) (xs:=[.st x1,.st [10]]) (u:=(x1,[10],())) rfl rfl Gg rfl kr kr kr (As (BU (c:=cdS) (v:=x1)) (As (BU (c:=cdS) (v:=[10])) B3)) (.inl kr) hv13 ?_;refine AD (n:=78) AC 3 [(64,.b (decide (v11.2.1<=v13)))] [] kr ?_;rcases BE (decide (v11.2.1<=v13)) with hc19 | hc19
       ·rw [if_pos hc19] at hj16
        rw [hc19];obtain ⟨v14,hv14,hj16⟩:=OB hj16;refine Af (caps:=[]) (xs:=[]) (u:=(())) rfl rfl H2 rfl kr kr kr B3 (.inl kr) hv14 ?_;refine AD (n:=78) AC 2 [(4,.b v14)] [] kr ?_;have hq:=OI hj16; subst hq;exact AJ rfl AQ
       ·rw [Bx hc19] at hj16
        rw [hc19];refine AD (n:=78) AC 3 [(4,.b false)] [] kr ?_;have hq:=OI hj16; subst hq;exact AJ rfl AQ
      ·rw [Bx hc18] at hj16
       rw [hc18];refine AD (n:=78) AC 9 [(4,.b false)] [] kr ?_;have hq:=OI hj16; subst hq;exact AJ rfl AQ
     ·rw [Bx hc17] at hj16
      rw [hc17];refine AD (n:=78) AC 13 [(4,.b false)] [] kr ?_;have hq:=OI hj16; subst hq;exact AJ rfl AQ
    refine Ah ?_;have hq:=OI h; subst hq;exact ⟨⟨Fr 78 [(4,.b j16)],[]⟩,AQ,.inr rfl,[.b j16],kr,kr⟩
   ·rw [Bx hb12] at h
    refine Ax ?_;refine AI ?_;obtain ⟨v20,hv20,h⟩:=OB h;obtain ⟨j23,hj23,h⟩:=OB h;refine AL (s1:=⟨Fr 78 [(4,.b j23)],[]⟩) ?_ ?_
    ·refine AD (n:=78) AC 1 [(1,.st x1),(8,.j v11.2.1),(67,.sl 5 (v11.1.map AB.enc))] [] kr ?_
     refine Af (caps:=[]) (xs:=[.sl 5 (v11.1.map AB.enc)]) (u:=(v11.1,())) rfl rfl JB rfl (AA rfl) kr kr (As (BU (c:=(cdL 5 AB)) (v:=v11.1)) B3) (.inl kr) hv20 ?_;refine AD (n:=78) AC 3 [(8,.j v11.2.1),(71,.b (v20==x1))] [] kr ?_;rcases BE (v20==x1) with hc24 | hc24
     ·rw [if_pos hc24] at hj23
      rw [hc24];refine AD (n:=78) AC 4 [(75,.b (v11.2.1==0))] [] kr ?_;rcases BE (v11.2.1==0) with hc25 | hc25
      ·rw [if_pos hc25] at hj23
       rw [hc25];obtain ⟨v21,hv21,hj23⟩:=OB hj23;refine Af (caps:=[]) (xs:=[]) (u:=(())) rfl rfl H2 rfl kr kr kr B3 (.inl kr) hv21 ?_;refine AD (n:=78) AC 2 [(4,.b v21)] [] kr ?_;have hq:=OI hj23; subst hq;exact AJ rfl AQ
      ·rw [Bx hc25] at hj23
       rw [hc25];refine AD (n:=78) AC 3 [(4,.b false)] [] kr ?_;have hq:=OI hj23; subst hq;exact AJ rfl AQ
     ·rw [Bx hc24] at hj23
      rw [hc24];refine AD (n:=78) AC 7 [(4,.b false)] [] kr ?_;have hq:=OI hj23; subst hq;exact AJ rfl AQ
    refine Ah ?_;have hq:=OI h; subst hq;exact ⟨⟨Fr 78 [(4,.b j23)],[]⟩,AQ,.inr rfl,[.b j23],kr,kr⟩
def Ju:List AV->Option AV:=FZ Cw (fun a=>Cj a.1 a.2.1) Dr
theorem J4:XOk 4 Ju:=by
 refine Az Tryz.func4 (c:=GN) ?h2 ⟨Tryz.call4⟩ Cw (fun a=>Cj a.1 a.2.1) Dr (fun a=>(by show 2<=78; decide)) ?h3 ?h4
 case h2=>kernel_rfl
 case h3=>intro b; kernel_rfl
 case h4=>exact fun a b h=>Iz a.1 a.2.1 b h
theorem NS {n:Int}(h1 : -9223372036854775808<=n) (h2:n<=9223372036854775807):wr .i64 n=n:=by
 show (if _ then n else _)=n
 rw [if_pos ⟨h1,h2⟩]
theorem Ga {α:Type}(pre:List α) (v:α) (r:List α):idx (pre++v::r) (pre.length:Int)=some v:=by
 unfold idx
 rw [if_pos (by omega)]
 simp
theorem TM {α:Type}{xs:List α}{i:Nat}(h:i < xs.length):idx xs (i:Int)=some xs[i]:=by
 unfold idx
 rw [if_pos (by omega)]
 simp [h]
theorem Pf {α:Type}(pre:List α) (v:α):((pre.length:Int) + 1)=((pre++[v]).length:Int):=by simp
theorem KV {α:Type}(pre:List α) (v:α) (r:List α) (h:(pre++v::r).length<=1000000000):wr .i64 ((pre.length:Int) + 1)=((pre++[v]).length:Int):=by
 simp at h
 rw [NS (by omega) (by omega)]; simp
theorem MY {α:Type}(pre:List α) (v:α) (r:List α):decide ((pre.length:Int) < ((pre++v::r).length:Int))=true:=by
 simp; omega
theorem UH {α:Type}(pre:List α):decide ((pre.length:Int) < ((pre++[]).length:Int))=false:=by simp
theorem GA {b n:Nat}(hb:b<=1000) (h:n<=1000000000):Dy b n=true:=by
 have h1:n * b<=1000000000 * 1000:=Nat.mul_le_mul h hb
 unfold Dy
 rw [Bool.and_eq_true]
 exact ⟨Nat.ble_eq_true_of_le (by omega),Nat.ble_eq_true_of_le (by omega)⟩
/-- A loop over a list: v, its index, the rest. -/
def goU {α ρ:Type}(B:α->Nat->Option ρ->Option ρ) (D:Option ρ):List α->Nat->Option ρ
 | [],_=>D
 | v::r,i=>B v i (goU B D r (i + 1))
theorem VM {α ρ:Type}(xs:List α) (L:Nat->Int->Option ρ) (B:α->Nat->Option ρ->Option ρ) (D:Option ρ)
  (hs:∀ f (pre:List α) v r,xs=pre++v::r->L (f + 1) (pre.length:Int)=B v pre.length (L f (((pre++[v]).length:Nat):Int))) (hd:∀ f,L (f + 1) (xs.length:Int)=D) :
  ∀ (r pre:List α) (f:Nat),xs=pre++r->r.length < f->L f (pre.length:Int)=goU B D r pre.length
 | [],pre,f + 1,hx,_=>by
  rw [show pre.length=xs.length by rw [hx]; simp]
  exact hd f
 | v::r,pre,f + 1,hx,hf=>by
  rw [hs f pre v r hx]
  have:=VM xs L B D hs hd r (pre++[v]) f (by rw [hx]; simp) (by simp at hf; omega)
  rw [this]
  show B v pre.length _=B v pre.length _
  congr 1
  simp
theorem PV {α ρ:Type}(xs:List α) (L:Nat->Int->Option ρ) (B:α->Nat->Option ρ->Option ρ) (D:Option ρ) (f:Nat) (hf:xs.length < f)
  (hs:∀ f (pre:List α) v r,xs=pre++v::r->L (f + 1) (pre.length:Int)=B v pre.length (L f (((pre++[v]).length:Nat):Int))) (hd:∀ f,L (f + 1) (xs.length:Int)=D):L f 0=goU B D xs 0 :=
 VM xs L B D hs hd xs [] f rfl hf
/-- The first that meets a test. -/
theorem Qk {α:Type}(P:α->Option Bool) (p:α->Bool):∀ (xs:List α) (i:Nat),(∀ x ∈ xs,P x=some (p x))->∃ r:Unit ⊕ Int,goU (fun v i k=>(P v).bind fun b=>if b=true then some (.inr (i:Int)) else k) (some (.inl ())) xs i=some r/\(match r with | .inl _=>xs.any p=false | .inr n=>xs.any p=true/\0<=n)
 | [],i,_=>⟨.inl (),rfl,rfl⟩
 | x::xs,i,h=>by
  unfold goU
  rw [h x (by simp),OS]
  cases hp:p x with
  | true=>exact ⟨.inr i,by simp,by simp [hp]⟩
  | false =>
   obtain ⟨r,h1,h2⟩:=Qk P p xs (i + 1) fun y hy=>h y (List.mem_cons_of_mem _ hy)
   refine ⟨r,by simpa using h1,?_⟩
   cases r with
   | inl u=>simpa [hp] using h2
   | inr n=>simpa [hp] using h2
/-- slices.IndexFunc and slices.ContainsFunc. -/
theorem QK {α:Type}(xs:List α) (hx:xs.length<=99999) (P:α->Option Bool) (p:α->Bool) (hP:∀ x ∈ xs,P x=some (p x)) (L:Nat->Int->Option (Unit ⊕ Int))
  (h:∀ f c,L (f + 1) c=if decide (c < (xs.length:Int))=true then (idx xs c).bind fun v=>(P v).bind fun b=>if b=true then some (.inr c) else L f (wr .i64 (c + 1)) else some (.inl ())) :
  ∃ n,((L 100000 0).bind fun r=>match r with | .inl _=>some (-1) | .inr w=>some w)=some n/\decide (n≥0)=xs.any p:=by
 have e:=PV xs L (fun v i k=>(P v).bind fun b=>if b=true then some (.inr (i:Int)) else k) (some (.inl ())) 100000 (by omega) (fun f pre v r e=>by
  subst e
  rw [h,if_pos (MY pre v r),Ga,OS,KV pre v r (by omega)]) (fun f=>by rw [h,if_neg (by simp)])
 obtain ⟨r,h1,h2⟩:=Qk P p xs 0 hP
 rw [e,h1]
 cases r with
 | inl u=>exact ⟨-1,rfl,by rw [h2]; rfl⟩
 | inr n=>exact ⟨n,rfl,by rw [h2.1]; simpa using h2.2⟩
/-- Two lists side by side. -/
def go2 {α β ρ:Type}(B:α->β->Option ρ->Option ρ) (D:Option ρ):List α->List β->Option ρ
 | v::r,u::q=>B v u (go2 B D r q)
 | _,_=>D
theorem VL {α β ρ:Type}(L:Nat->Int->Option ρ) (B:α->β->Option ρ->Option ρ) (D:Option ρ) (xs:List α) (ys:List β) (hl:xs.length=ys.length) (hx:xs.length<=1000000)
  (h:∀ f c,L (f + 1) c=if decide (c < (xs.length:Int))=true then (idx xs c).bind fun v=>(idx ys c).bind fun u=>B v u (L f (wr .i64 (c + 1))) else D) :
  ∀ (r:List α) (q:List β) (pre:List α) (pre':List β) (f:Nat),xs=pre++r->ys=pre'++q->pre.length=pre'.length->r.length < f->L f (pre.length:Int)=go2 B D r q
 | [],q,pre,pre',f + 1,e1,e2,e3,_=>by
  have:q=[]:=by
   have:xs.length=pre.length:=by rw [e1]; simp
   have h2:ys.length=pre'.length + q.length:=by rw [e2]; simp
   exact List.eq_nil_of_length_eq_zero (by omega)
  subst this
  subst e1
  rw [h,UH]
  rfl
 | v::r,[],pre,pre',f + 1,e1,e2,e3,_=>by
  exfalso
  have h1:xs.length=pre.length + (r.length + 1):=by rw [e1]; simp
  have h2:ys.length=pre'.length:=by rw [e2]; simp
  omega
 | v::r,u::q,pre,pre',f + 1,e1,e2,e3,hf=>by
  have ih:=VL L B D xs ys hl hx h r q (pre++[v]) (pre'++[u]) f (by rw [e1]; simp) (by rw [e2]; simp) (by simp [e3]) (by simp at hf; omega)
  have k1:idx xs (pre.length:Int)=some v:=by rw [e1,Ga]
  have k2:idx ys (pre.length:Int)=some u:=by rw [e2,e3,Ga]
  have k3:decide ((pre.length:Int) < (xs.length:Int))=true:=by rw [e1]; exact MY pre v r
  have k4:wr .i64 ((pre.length:Int) + 1)=((pre++[v]).length:Int):=KV pre v r (by rw [<-e1]; omega)
  rw [h,if_pos k3,k1,OS,k2,OS,k4,ih]
  rfl
theorem Qj {α β:Type}(P:α->β->Option Bool) (p:α->β->Bool):∀ (xs:List α) (ys:List β),(∀ x ∈ xs,∀ y ∈ ys,P x y=some (p x y))->xs.length=ys.length ->
  go2 (fun v u k=>(P v u).bind fun b=>if (!b)=true then some (Sum.inr false) else k) (some (Sum.inl ())) xs ys=some (if (xs.zip ys).all (fun x=>p x.1 x.2) then Sum.inl () else Sum.inr false)
 | [],[],_,_=>rfl
 | x::xs,y::ys,h,hl=>by
  unfold go2
  rw [h x (by simp) y (by simp),OS,Qj P p xs ys (fun a ha b hb=>h a (List.mem_cons_of_mem _ ha) b (List.mem_cons_of_mem _ hb)) (by simpa using hl)]
  rw [List.zip_cons_cons,List.all_cons]
  show (if (!p x y)=true then _ else _)=some (if (p x y&&_)=true then _ else _)
  cases p x y <;> rfl
 | [],_::_,_,hl=>by simp at hl
 | _::_,[],_,hl=>by simp at hl
/-- slices.EqualFunc. -/
theorem QI {α β:Type}(xs:List α) (ys:List β) (hx:xs.length<=99999) (P:α->β->Option Bool) (p:α->β->Bool) (hP:∀ x ∈ xs,∀ y ∈ ys,P x y=some (p x y)) (L:Nat->Int->Option (Unit ⊕ Bool))
  (h:∀ f c,L (f + 1) c=if decide (c < (xs.length:Int))=true then (idx xs c).bind fun v=>(idx ys c).bind fun u=>(P v u).bind fun b=>if (!b)=true then some (.inr false) else L f (wr .i64 (c + 1)) else some (.inl ())) :
  (if ((xs.length:Int)!=(ys.length:Int))=true then some false else (L 100000 0).bind fun r=>match r with | .inl _=>some true | .inr w=>some w)=some (decide (xs.length=ys.length)&&(xs.zip ys).all fun x=>p x.1 x.2):=by
 by_cases hl:xs.length=ys.length
 ·rw [if_neg (by simp [hl])]
  have e:=VL L (fun v u k=>(P v u).bind fun b=>if (!b)=true then some (Sum.inr false) else k) (some (Sum.inl ())) xs ys hl (by omega) h xs ys [] [] 100000 rfl rfl rfl (by omega)
  have e0:L 100000 (([]:List α).length:Int)=L 100000 0:=rfl
  rw [<-e0,e,Qj P p xs ys hP hl]
  cases hq:(xs.zip ys).all (fun x=>p x.1 x.2) <;> simp [hl]
 ·rw [if_pos (by simp; omega)]
  simp [hl]
theorem KX {α:Type} [DecidableEq α] {p:α->α->Bool}(hp:∀ a b,p a b=decide (a=b)):∀ (xs ys:List α),(decide (xs.length=ys.length)&&(xs.zip ys).all fun x=>p x.1 x.2)=decide (xs=ys)
 | [],[]=>rfl
 | x::xs,y::ys=>by
  have ih:=KX hp xs ys
  simp only [List.length_cons,Nat.add_right_cancel_iff,List.zip_cons_cons,List.all_cons,List.cons.injEq,hp]
  simp only [hp] at ih
  by_cases h1:x=y
  ·subst h1; simpa using ih
  ·simp [h1]
 | [],_::_=>by simp
 | _::_,[]=>by simp
/-- slices.Equal. -/
theorem Wf {α:Type} [DecidableEq α] [BEq α] [LawfulBEq α] (xs ys:List α) (hx:xs.length<=99999) (L:Nat->Int->Option (Unit ⊕ Bool))
  (h:∀ f c,L (f + 1) c=if decide (c < (xs.length:Int))=true then (idx xs c).bind fun v=>(idx ys c).bind fun u=>if (v != u)=true then some (.inr false) else L f (wr .i64 (c + 1)) else some (.inl ())) :
  (if ((xs.length:Int)!=(ys.length:Int))=true then some false else (L 100000 0).bind fun r=>match r with | .inl _=>some true | .inr w=>some w)=some (decide (xs=ys)):=by
 rw [QI xs ys hx (fun v u=>some (v==u)) (fun v u=>v==u) (fun _ _ _ _=>rfl) L (fun f c=>by rw [h]; rfl),KX (fun a b=>by by_cases h:a=b <;> simp [h])]
/- trestle/trestlelaw03.Copy -/
/- trestle/trestlelaw03.Few$1$1 -/
/- slices.IndexFunc[[]string,string] -/
/- slices.ContainsFunc[[]string,string] -/
/- trestle/trestlelaw03.Few$1 -/
/- slices.IndexFunc[[]trestle/api.Clause,trestle/api.Clause] -/
/- slices.ContainsFunc[[]trestle/api.Clause,trestle/api.Clause] -/
/- trestle/trestlelaw03.Few -/
/- trestle/trestleref03.between -/
def A1 (x0:Int) (x1:Int) (x2:Int):Option (Bool) :=
 (if (decide (x1<=x0))=true then some (decide (x0<=x2)) else some false).bind fun j2 =>
 some j2
/- trestle/trestleref03.formed -/
def C3 (x0:AF):Option ((Bool)) :=
 if (x0.1==8)=true then
 some (x0.1==8)
 else
 some (x0.1==9)
def C2 (x0:AF):Option ((Bool)) :=
 if (x0.1==3)=true then
 some (x0.1==3)
 else
 (C3 x0).bind fun r14 =>
 some r14
def C1 (x0:AF):Option ((Bool)) :=
 if (x0.1==2)=true then
 some (x0.1==2)
 else
 (C2 x0).bind fun r15 =>
 some r15
def C4 (x0:AF):Option ((Bool)) :=
 if (x0.1==6)=true then
 some (x0.1==6)
 else
 some (x0.1==7)
def Ac (x0:AF):Option (Bool) :=
 if (x0.1==1)=true then
 (A1 (x0.2.2.2.1.length:Int) 1 16).bind fun v2 =>
 (if v2=true then if (x0.2.2.2.2==0)=true then if (!x0.2.2.1)=true then some (x0.2.1==[]) else some false else some false else some false).bind fun j4 =>
 some j4
 else
 (C1 x0).bind fun r16 =>
 if r16=true then
 (if ((x0.2.2.2.1.length:Int)==0)=true then if (x0.2.2.2.2==0)=true then some (!x0.2.2.1) else some false else some false).bind fun j19 =>
 some j19
 else
 if (x0.1==4)=true then
 (if ((x0.2.2.2.1.length:Int)==0)=true then (A1 x0.2.2.2.2 1 2).bind fun v23 =>
 some v23 else some false).bind fun j25 =>
 some j25
 else
 if (x0.1==5)=true then
 (if ((x0.2.2.2.1.length:Int)==0)=true then some (x0.2.2.2.2==0) else some false).bind fun j29 =>
 some j29
 else
 (C4 x0).bind fun r33 =>
 if r33=true then
 (A1 (x0.2.2.2.1.length:Int) 1 16).bind fun v35 =>
 (if v35=true then some (x0.2.2.2.2==0) else some false).bind fun j37 =>
 some j37
 else
 if (x0.1==10)=true then
 (if ((x0.2.2.2.1.length:Int)==0)=true then (A1 x0.2.2.2.2 0 63).bind fun v40 =>
 if v40=true then some (!x0.2.2.1) else some false else some false).bind fun j42 =>
 some j42
 else
 some false
/- trestle/trestlekit.Name -/
/- trestle/trestleref03.has -/
/- trestle/trestleref03.CheckOne -/
/- trestle/trestleref03.Check -/
def Ue (x:AF):Prop:=x.2.1.length<=40/\x.2.2.2.1.length<=20/\∀ s ∈ x.2.2.2.1,s.length<=40
def few (c:List AF):Prop:=c.length<=40/\∀ x ∈ c,Ue x
/-- Comparisons. -/
theorem Tz (xs ys:List (List UInt8)) (h:xs.length<=99999):A7 xs ys=some (decide (xs=ys)):=by
 unfold A7
 exact Wf xs ys h (BQ xs ys) (fun f c=>rfl)
theorem Vi (a b:AF) (h:a.2.2.2.1.length<=99999):CA a b=some (decide (a=b)):=by
 unfold CA
 rw [Tz _ _ h]
 obtain ⟨a1,a2,a3,a4,a5⟩:=a
 obtain ⟨b1,b2,b3,b4,b5⟩:=b
 by_cases h1:a1=b1
 ·by_cases h2:a2=b2
  ·by_cases h3:a3=b3
   ·by_cases h5:a5=b5
    ·simp [h1,h2,h3,h5]
    ·simp [h5]
   ·simp [h3]
  ·simp [h2]
 ·simp [h1]
theorem UP (a b:List AF) (h:few a):FQ a b=some (decide (a=b)):=by
 unfold FQ AK
 rw [<-KX (p:=fun x y=>decide (x=y)) (fun _ _=>rfl) a b]
 have:=QI a b (by have:=h.1; omega) CA (fun x y=>decide (x=y)) (fun x hx y _=>Vi x y (by have:=(h.2 x hx).2.1; omega)) (AN a b) (fun f c=>rfl)
 exact (congrArg (fun o=>o.bind fun v1=>some v1) this)
/-- Names. -/
def TU (c:UInt8):Bool:=decide ((c.toNat:Int) < 97)||decide ((c.toNat:Int) > 122)
def CL (s:List UInt8):Bool:=decide (1<=s.length)&&decide (s.length<=12)&&!s.any TU
theorem Qo:∀ (s:List UInt8) (i:Nat),goU (fun v _ (k:Option (Unit ⊕ Bool))=>if TU v=true then some (.inr false) else k) (some (.inl ())) s i=some (if s.any TU=true then .inr false else .inl ())
 | [],_=>rfl
 | c::s,i=>by
  unfold goU
  rw [Qo s (i + 1),List.any_cons]
  cases TU c <;> rfl
theorem VS (s:List UInt8) (h:s.length<=99999):DF s 100000 0=some (if s.any TU=true then .inr false else .inl ()):=by
 rw [<-Qo s 0]
 refine PV s (DF s) _ _ 100000 (by omega) (fun f pre v r e=>?_) (fun f=>?_)
 ·conv=>lhs; unfold DF
  rw [e,if_pos (MY pre v r),Ga,OS,OS,KV pre v r (by rw [<-e]; omega)]
  unfold TU
  by_cases h:(v.toNat:Int) < 97 <;> simp [h]
 ·conv=>lhs; unfold DF
  rw [if_neg (by simp)]
theorem Ok (s:List UInt8) (h:s.length<=99999):Ed s=some (CL s):=by
 unfold Ed CL
 rw [VS s h,OS]
 cases hb:s.any TU
 ·by_cases h1:s.length < 1
  ·have:s.length=0:=by omega
   simp [this]
  ·simp [show (s.length:Int)≥1 by omega,show 1<=s.length by omega]; omega
 ·simp
theorem Q3 (l:List (List UInt8)) (h:l.length<=99999) (hs:∀ s ∈ l,s.length<=99999):AP l=some (l.any fun s=>!CL s):=by
 unfold AP Ab
 obtain ⟨n,h1,h2⟩:=QK l h Do (fun s=>!CL s) (fun x hx=>by unfold Do; rw [Ok x (hs x hx)]; rfl) (Ad l) (fun f c=>rfl)
 rw [<-h2]
 exact (congrArg (fun o=>o.bind fun v1=>some (decide (v1≥0))) h1)
def Rj (l:List (List UInt8)) (s:List UInt8):Bool:=l.any fun v=>s==v
theorem LG (l:List (List UInt8)) (s:List UInt8) (h:l.length<=99999):Am l s=some (Rj l s):=by
 unfold Am BN
 obtain ⟨n,h1,h2⟩:=QK l h (fun v=>some (s==v)) (fun v=>s==v) (fun _ _=>rfl) (BR l s) (fun f c=>rfl)
 unfold Rj
 rw [<-h2]
 exact (congrArg (fun o=>o.bind fun v1=>some (decide (v1≥0))) h1)
/-- What is asked of the fields, by a row: names, from, to, last. -/
def fin (L:Nat) (n:Int) (la:Bool) (w:Int×Int×Int×Bool):Option Bool :=
 (if (decide ((L:Int)<=w.1))=true then if (w.1==0)=true then if (decide (n≥w.2.1))=true then if (decide (n<=w.2.2.1))=true then if w.2.2.2=true then some true else some (!la) else some false else some false else if (decide ((L:Int) > 0))=true then if (decide (n≥w.2.1))=true then if (decide (n<=w.2.2.1))=true then if w.2.2.2=true then some true else some (!la) else some false else some false else some false else some false).bind fun j58=>some j58
theorem I7 (L:Nat) (n:Int) (la:Bool) (a lo hi:Int) (last:Bool):fin L n la (a,lo,hi,last)=some ((decide ((L:Int)<=a)&&(a==0||decide ((L:Int) > 0)))&&(decide (n≥lo)&&(decide (n<=hi)&&(last||!la)))):=by
 unfold fin
 dsimp only
 generalize decide ((L:Int)<=a)=b1
 generalize (a==0)=b2
 generalize decide ((L:Int) > 0)=b3
 generalize decide (n≥lo)=b4
 generalize decide (n<=hi)=b5
 cases b1 <;> cases b2 <;> cases b3 <;> cases b4 <;> cases b5 <;> cases last <;> cases la <;> rfl
theorem Qe (x:AF):∃ b,A2 x=some b/\Ac x=some b:=by
 obtain ⟨k,am,la,nm,n⟩:=x
 by_cases h1:k=1
 ·subst h1
  have hr:Ac (1,am,la,nm,n)=some ((decide (1<=(nm.length:Int))&&decide ((nm.length:Int)<=16))&&((n==0)&&(!la&&(am==[])))):=by
   unfold Ac
   unfold A1
   dsimp only
   generalize decide (1<=(nm.length:Int))=b0
   generalize decide ((nm.length:Int)<=16)=b1
   generalize (n==0)=b2
   generalize (am==[])=b3
   cases b0 <;> cases b1 <;> cases b2 <;> cases la <;> cases b3 <;> rfl
  refine ⟨_,?_,hr⟩
  cases am with
  | cons a am =>
   have hc:A2 (1,a::am,la,nm,n)=some false:=rfl
   rw [hc]
   simp
  | nil =>
   have hc:A2 (1,[],la,nm,n)=fin nm.length n la (16,0,0,false):=rfl
   rw [hc,I7]
   congr 1
   rw [Bool.eq_iff_iff]
   generalize nm.length=L
   cases la <;> simp <;> omega
 by_cases h2:k=2
 ·subst h2
  have hr:Ac (2,am,la,nm,n)=some (((nm.length:Int)==0)&&((n==0)&&!la)):=by
   unfold Ac
   unfold A1
   dsimp only
   generalize ((nm.length:Int)==0)=b0
   generalize (n==0)=b1
   cases b0 <;> cases b1 <;> cases la <;> rfl
  refine ⟨_,?_,hr⟩
  have hc:A2 (2,am,la,nm,n)=fin nm.length n la (0,0,0,false):=rfl
  rw [hc,I7]
  congr 1
  rw [Bool.eq_iff_iff]
  generalize nm.length=L
  cases la <;> simp <;> omega
 by_cases h3:k=3
 ·subst h3
  have hr:Ac (3,am,la,nm,n)=some (((nm.length:Int)==0)&&((n==0)&&!la)):=by
   unfold Ac
   unfold A1
   dsimp only
   generalize ((nm.length:Int)==0)=b0
   generalize (n==0)=b1
   cases b0 <;> cases b1 <;> cases la <;> rfl
  refine ⟨_,?_,hr⟩
  have hc:A2 (3,am,la,nm,n)=fin nm.length n la (0,0,0,false):=rfl
  rw [hc,I7]
  congr 1
  rw [Bool.eq_iff_iff]
  generalize nm.length=L
  cases la <;> simp <;> omega
 by_cases h8:k=8
 ·subst h8
  have hr:Ac (8,am,la,nm,n)=some (((nm.length:Int)==0)&&((n==0)&&!la)):=by
   unfold Ac
   unfold A1
   dsimp only
   generalize ((nm.length:Int)==0)=b0
   generalize (n==0)=b1
   cases b0 <;> cases b1 <;> cases la <;> rfl
  refine ⟨_,?_,hr⟩
  have hc:A2 (8,am,la,nm,n)=fin nm.length n la (0,0,0,false):=rfl
  rw [hc,I7]
  congr 1
  rw [Bool.eq_iff_iff]
  generalize nm.length=L
  cases la <;> simp <;> omega
 by_cases h9:k=9
 ·subst h9
  have hr:Ac (9,am,la,nm,n)=some (((nm.length:Int)==0)&&((n==0)&&!la)):=by
   unfold Ac
   unfold A1
   dsimp only
   generalize ((nm.length:Int)==0)=b0
   generalize (n==0)=b1
   cases b0 <;> cases b1 <;> cases la <;> rfl
  refine ⟨_,?_,hr⟩
  have hc:A2 (9,am,la,nm,n)=fin nm.length n la (0,0,0,false):=rfl
  rw [hc,I7]
  congr 1
  rw [Bool.eq_iff_iff]
  generalize nm.length=L
  cases la <;> simp <;> omega
 by_cases h4:k=4
 ·subst h4
  have hr:Ac (4,am,la,nm,n)=some (((nm.length:Int)==0)&&(decide (1<=n)&&decide (n<=2))):=by
   unfold Ac
   unfold A1
   dsimp only
   generalize ((nm.length:Int)==0)=b0
   generalize decide (1<=n)=b1
   generalize decide (n<=2)=b2
   cases b0 <;> cases b1 <;> cases b2 <;> cases la <;> rfl
  refine ⟨_,?_,hr⟩
  have hc:A2 (4,am,la,nm,n)=fin nm.length n la (0,1,2,true):=rfl
  rw [hc,I7]
  congr 1
  rw [Bool.eq_iff_iff]
  generalize nm.length=L
  cases la <;> simp <;> omega
 by_cases h5:k=5
 ·subst h5
  have hr:Ac (5,am,la,nm,n)=some (((nm.length:Int)==0)&&(n==0)):=by
   unfold Ac
   unfold A1
   dsimp only
   generalize ((nm.length:Int)==0)=b0
   generalize (n==0)=b1
   cases b0 <;> cases b1 <;> cases la <;> rfl
  refine ⟨_,?_,hr⟩
  have hc:A2 (5,am,la,nm,n)=fin nm.length n la (0,0,0,true):=rfl
  rw [hc,I7]
  congr 1
  rw [Bool.eq_iff_iff]
  generalize nm.length=L
  cases la <;> simp <;> omega
 by_cases h6:k=6
 ·subst h6
  have hr:Ac (6,am,la,nm,n)=some ((decide (1<=(nm.length:Int))&&decide ((nm.length:Int)<=16))&&(n==0)):=by
   unfold Ac
   unfold A1
   dsimp only
   generalize decide (1<=(nm.length:Int))=b0
   generalize decide ((nm.length:Int)<=16)=b1
   generalize (n==0)=b2
   cases b0 <;> cases b1 <;> cases b2 <;> cases la <;> rfl
  refine ⟨_,?_,hr⟩
  have hc:A2 (6,am,la,nm,n)=fin nm.length n la (16,0,0,true):=rfl
  rw [hc,I7]
  congr 1
  rw [Bool.eq_iff_iff]
  generalize nm.length=L
  cases la <;> simp <;> omega
 by_cases h7:k=7
 ·subst h7
  have hr:Ac (7,am,la,nm,n)=some ((decide (1<=(nm.length:Int))&&decide ((nm.length:Int)<=16))&&(n==0)):=by
   unfold Ac
   unfold A1
   dsimp only
   generalize decide (1<=(nm.length:Int))=b0
   generalize decide ((nm.length:Int)<=16)=b1
   generalize (n==0)=b2
   cases b0 <;> cases b1 <;> cases b2 <;> cases la <;> rfl
  refine ⟨_,?_,hr⟩
  have hc:A2 (7,am,la,nm,n)=fin nm.length n la (16,0,0,true):=rfl
  rw [hc,I7]
  congr 1
  rw [Bool.eq_iff_iff]
  generalize nm.length=L
  cases la <;> simp <;> omega
 by_cases h10:k=10
 ·subst h10
  have hr:Ac (10,am,la,nm,n)=some (((nm.length:Int)==0)&&((decide (0<=n)&&decide (n<=63))&&!la)):=by
   unfold Ac
   unfold A1
   dsimp only
   generalize ((nm.length:Int)==0)=b0
   generalize decide (0<=n)=b1
   generalize decide (n<=63)=b2
   cases b0 <;> cases b1 <;> cases b2 <;> cases la <;> rfl
  refine ⟨_,?_,hr⟩
  have hc:A2 (10,am,la,nm,n)=fin nm.length n la (0,0,63,false):=rfl
  rw [hc,I7]
  congr 1
  rw [Bool.eq_iff_iff]
  generalize nm.length=L
  cases la <;> simp <;> omega
 have e:∀ m:Int,(m=1\/m=2\/m=3\/m=4\/m=5\/m=6\/m=7\/m=8\/m=9\/m=10)->(k==m)=false:=fun m hm=>by
  rw [beq_eq_false_iff_ne]
  rintro rfl
  omega
 refine ⟨false,?_,?_⟩
 ·simp [A2,EB,Er,Es,Et,Eu,Ev,Ew,Ey,Ez,e]
 ·simp [Ac,C1,C2,C3,C4,e]
def fm (x:AF):Bool:=(Ac x).getD false
theorem Wl (x:AF):A2 x=some (fm x):=by
 obtain ⟨b,h1,h2⟩:=Qe x
 rw [h1]; unfold fm; rw [h2]; rfl
/-- Is a name there twice? -/
def QZ (l:List (List UInt8)):List (List UInt8)->Nat->Bool
 | [],_=>false
 | v::r,i=>Rj (l.take i) v||QZ l r (i + 1)
def G6 (before:List AF) (am:List UInt8):Bool:=before.any fun b=>(b.1==1)&&Rj b.2.2.2.1 am
def chk (before:List AF) (x:AF):Int :=
 if fm x=false then 30 else
 if ((!(x.2.1==[]))&&!CL x.2.1)=true\/(x.2.2.2.1.any fun s=>!CL s)=true then 4 else
 if QZ x.2.2.2.1 x.2.2.2.1 0=true then 5 else
 if x.2.1=[]\/G6 before x.2.1=true then 0 else 31
theorem Qn (l:List (List UInt8)):∀ (r:List (List UInt8)) (i:Nat),goU (fun v i (k:Option (Unit ⊕ Int))=>if Rj (l.take i) v=true then some (.inr 5) else k) (some (.inl ())) r i=some (if QZ l r i=true then .inr 5 else .inl ())
 | [],_=>rfl
 | v::r,i=>by
  unfold goU QZ
  rw [Qn l r (i + 1)]
  cases Rj (l.take i) v <;> rfl
theorem VA (b:List AF) (j:AF) (h:j.2.2.2.1.length<=99999):Cp b j 100000 0=some (if QZ j.2.2.2.1 j.2.2.2.1 0=true then .inr 5 else .inl ()):=by
 rw [<-Qn]
 refine PV j.2.2.2.1 (Cp b j) _ _ 100000 (by omega) (fun f pre v r e=>?_) (fun f=>?_)
 ·conv=>lhs; unfold Cp
  have hl:j.2.2.2.1.length=pre.length + r.length + 1:=by rw [e]; simp; omega
  rw [if_pos (by rw [e]; exact MY pre v r),show idx j.2.2.2.1 (pre.length:Int)=some v by rw [e,Ga],OS,if_pos (by unfold Cn; simp; omega),Int.toNat_natCast]
  rw [show ((j.2.2.2.1.take pre.length).drop (0:Int).toNat)=j.2.2.2.1.take pre.length from rfl,LG _ _ (by simp; omega),OS,KV pre v r (by rw [<-e]; omega)]
 ·conv=>lhs; unfold Cp
  rw [if_neg (by simp)]
theorem Pb (b:List AF) (x:AF) (h:b.length<=99999) (hb:∀ y ∈ b,y.2.2.2.1.length<=99999):AO b x=some (G6 b x.2.1):=by
 unfold AO AR
 obtain ⟨n,h1,h2⟩:=QK b h (fun v=>Dp v x) (fun y=>(y.1==1)&&Rj y.2.2.2.1 x.2.1) (fun y hy=>by
  unfold Dp
  rw [LG _ _ (hb y hy)]
  cases (y.1==1) <;> rfl) (AT b x) (fun f c=>rfl)
 unfold G6
 rw [<-h2]
 exact (congrArg (fun o=>o.bind fun v1=>some (decide (v1≥0))) h1)
theorem Wb (b:List AF) (x:AF) (hb:few b) (hx:Ue x):DM b x=some (chk b x):=by
 have hn:∀ s ∈ x.2.2.2.1,s.length<=99999:=fun s hs=>by have:=hx.2.2 s hs; omega
 unfold DM chk
 rw [Wl,OS]
 cases hf:fm x with
 | false=>simp
 | true =>
  rw [if_neg (show ¬ ((!true)=true) by simp),if_neg (show ¬ (true=false) by simp),Q3 _ (by have:=hx.2.1; omega) hn,Ok _ (by have:=hx.1; omega)]
  have e:((if (!(x.2.1==[]))=true then (some (CL x.2.1)).bind fun v3=>if (!v3)=true then some true else (some (x.2.2.2.1.any fun s=>!CL s)).bind fun v4=>some v4 else (some (x.2.2.2.1.any fun s=>!CL s)).bind fun v5=>some v5):Option Bool)=some (((!(x.2.1==[]))&&!CL x.2.1)||(x.2.2.2.1.any fun s=>!CL s)):=by
   cases (x.2.1==[]) <;> cases CL x.2.1 <;> rfl
  rw [e,OS]
  cases hq:(((!(x.2.1==[]))&&!CL x.2.1)||(x.2.2.2.1.any fun s=>!CL s)) with
  | true=>rw [if_pos rfl,if_pos (by simpa using hq)]
  | false =>
   rw [if_neg (show ¬ (false=true) by simp),if_neg (show ¬ (((!(x.2.1==[]))&&!CL x.2.1)=true\/(x.2.2.2.1.any fun s=>!CL s)=true) by simpa using hq),VA _ _ (by have:=hx.2.1; omega),OS]
   try dsimp only
   cases hd:QZ x.2.2.2.1 x.2.2.2.1 0 with
   | true=>rfl
   | false =>
    rw [if_neg (show ¬ (false=true) by simp)]
    dsimp only
    have hr:=Pb b x (by have:=hb.1; omega) (fun y hy=>by have:=(hb.2 y hy).2.1; omega)
    rw [hr]
    by_cases ha:x.2.1=[]
    ·simp [ha]
    ·simp only [ha,false_or]
     cases G6 b x.2.1 <;> simp [ha]
section
variable (c pre r:List AF) (x:AF) (e:c=pre++x::r) (h:few c)
include e h
end
/-- The first error of a text: its place, and which. -/
def SC (c:List AF):List AF->Nat->Unit ⊕ (Int×Int)
 | [],_=> .inl ()
 | x::r,i=>if chk (c.take i) x≠0 then .inr ((i:Int),chk (c.take i) x) else SC c r (i + 1)
def V0 (c:List AF):Int×Int:=if c.length > 32 then (0,7) else match SC c c 0 with
 | .inl _=>(0,0)
 | .inr w=>w
theorem Ql (c:List AF):∀ (r:List AF) (i:Nat),goU (fun x i (k:Option (Unit ⊕ (Int×Int)))=>if (chk (c.take i) x != 0)=true then some (.inr ((i:Int),chk (c.take i) x)) else k) (some (.inl ())) r i=some (SC c r i)
 | [],_=>rfl
 | x::r,i=>by
  unfold goU SC
  rw [Ql c r (i + 1)]
  by_cases h:chk (c.take i) x=0 <;> simp [h]
theorem SK {c:List AF}(h:few c) (n:Nat):few (c.take n):=⟨by have:=h.1; simp; omega,fun x hx=>h.2 x (List.mem_of_mem_take hx)⟩
theorem Tt (c:List AF) (h:few c):D6 c=some (V0 c):=by
 have hl:=h.1
 have e1:Co c 100000 0=some (SC c c 0):=by
  rw [<-Ql]
  refine PV c (Co c) _ _ 100000 (by omega) (fun f pre v r e=>?_) (fun f=>?_)
  ·conv=>lhs; unfold Co
   have hl2:c.length=pre.length + r.length + 1:=by rw [e]; simp; omega
   rw [if_pos (by rw [e]; exact MY pre v r),show idx c (pre.length:Int)=some v by rw [e,Ga],OS,if_pos (by unfold Cn; simp; omega),Int.toNat_natCast,
    show ((c.take pre.length).drop (0:Int).toNat)=c.take pre.length from rfl,Wb _ v (SK h _) (h.2 v (by rw [e]; simp)),OS,KV pre v r (by rw [<-e]; omega)]
  ·conv=>lhs; unfold Co
   rw [if_neg (by simp)]
 unfold D6 V0
 by_cases h32:c.length > 32
 ·rw [if_pos (by simp; omega),if_pos h32]
 ·rw [if_neg (by simp; omega),if_neg h32,e1,OS]
  cases SC c c 0 <;> rfl
/-- The pieces between the bytes c. -/
def pcs (c:UInt8):List UInt8->List (List UInt8)
 | []=>[[]]
 | b::r=>if b=c then []::pcs c r else match pcs c r with
  | []=>[[b]]
  | w::ws=>(b::w)::ws
theorem RG (c:UInt8):∀ s:List UInt8,pcs c s≠[]
 | []=>by simp [pcs]
 | b::r=>by
  unfold pcs
  split
  ·simp
  ·split <;> simp
theorem K9 (c:UInt8) (s:List UInt8):∃ w ws,pcs c s=w::ws:=List.exists_cons_of_ne_nil (RG c s)
/-- A text without the separator is one piece. -/
theorem Lg (c:UInt8):∀ {s:List UInt8},c ∉ s->pcs c s=[s]
 | [],_=>rfl
 | b::r,h=>by
  have h1:b≠c:=fun e=>h (by simp [e])
  unfold pcs
  rw [if_neg h1,Lg c fun e=>h (by simp [e])]
/-- The first piece ahead of a separator. -/
theorem NB (c:UInt8):∀ {s:List UInt8}(r:List UInt8),c ∉ s->pcs c (s++c::r)=s::pcs c r
 | [],r,_=>by
  show pcs c (c::r)=_
  conv=>lhs; unfold pcs
  rw [if_pos rfl]
 | b::s,r,h=>by
  have h1:b≠c:=fun e=>h (by simp [e])
  show pcs c (b::(s++c::r))=_
  conv=>lhs; unfold pcs
  rw [if_neg h1,NB c r fun e=>h (by simp [e])]
theorem Le (c:UInt8) (s:List UInt8):(pcs c s).length=s.count c + 1:=by
 induction s with
 | nil=>rfl
 | cons b s ih =>
  unfold pcs
  by_cases h:b=c
  ·rw [if_pos h,List.length_cons,ih,h]; simp
  ·rw [if_neg h]
   obtain ⟨w,ws,e⟩:=K9 c s
   rw [e] at ih ⊢
   rw [List.count_cons_of_ne h]
   exact ih
/-- Where the first separator stands. -/
def NW (c:UInt8):List UInt8->Option Nat
 | []=>none
 | b::r=>if b=c then some 0 else (NW c r).map (· + 1)
theorem Mt {c:UInt8}:∀ {s:List UInt8},NW c s=none->c ∉ s
 | [],_=>by simp
 | b::r,h=>by
  unfold NW at h
  split at h
  ·cases h
  ·next h1 =>
   simp only [Option.map_eq_none_iff] at h
   simp only [List.mem_cons,not_or]
   exact ⟨fun e=>h1 e.symm,Mt h⟩
theorem Jm {c:UInt8}:∀ {s:List UInt8}{i:Nat},NW c s=some i->i < s.length/\c ∉ s.take i/\s=s.take i++c::s.drop (i + 1)
 | [],_,h=>by cases h
 | b::r,i,h=>by
  unfold NW at h
  split at h
  ·next h1 =>
   injection h with h
   subst h
   subst h1
   simp
  ·next h1 =>
   obtain ⟨j,hj,rfl⟩:=Option.map_eq_some_iff.1 h
   obtain ⟨a1,a2,a3⟩:=Jm hj
   refine ⟨by simp; omega,?_,?_⟩
   ·simp only [List.take_succ_cons,List.mem_cons,not_or]
    exact ⟨fun e=>h1 e.symm,a2⟩
   ·simp only [List.take_succ_cons,List.drop_succ_cons,List.cons_append]
    rw [<-a3]
theorem TX {c:UInt8}{s:List UInt8}{i:Nat}(h:NW c s=some i):pcs c s=s.take i::pcs c (s.drop (i + 1)):=by
 obtain ⟨_,a2,a3⟩:=Jm h
 conv=>lhs; rw [a3]
 exact NB c _ a2
/-- A number of 1 to 9 digits that does not start with 0 unless it is 0. -/
def Ox:Nat->List UInt8->Option Nat
 | n,[]=>some n
 | n,b::r=>if 48<=b.toNat/\b.toNat<=57 then Ox (10 * n + (b.toNat - 48)) r else none
def M6 (w:List UInt8):Option Nat:=if w.length=0\/9 < w.length then none else if 1 < w.length/\w.head? = some 48 then none else Ox 0 w
/- trestle/trestlekit.Number -/
/- trestle/trestlekit.Words -/
/- trestle/trestlekit.Lines -/
theorem Qp (s:List UInt8) (c:UInt8):Lib.indexByte s c=match NW c s with | some i=>(i:Int) | none=> -1:=by
 induction s with
 | nil=>rfl
 | cons b s ih =>
  unfold Lib.indexByte NW
  by_cases h:b=c
  ·rw [if_pos (by simpa using h),if_pos h]; rfl
  ·rw [if_neg (by simpa using h),if_neg h,ih]
   cases NW c s with
   | none=>rfl
   | some i =>
    show (if ((i:Int) == -1)=true then (-1:Int) else (i:Int) + 1)=_
    rw [if_neg (by simp)]
    show (i:Int) + 1=((i + 1:Nat):Int)
    omega
theorem N2 (s:List UInt8) (c:UInt8) (hc:[c]≠s\/NW c s=some 0):CN s [c]=some (match NW c s with | some i=>(i:Int) | none=> -1):=by
 have hu:((c.toNat:Int)).toNat.toUInt8=c:=by rw [Int.toNat_natCast]; exact UInt8.ofNat_toNat
 unfold CN CK
 rw [if_neg (by simp)]
 by_cases h:[c]=s
 ·rw [show ([c]==s)=true by simpa using h]
  rcases hc with hc | hc
  ·exact absurd h hc
  ·rw [hc]; rfl
 ·rw [show ([c]==s)=false by simpa using h]
  rw [OS,if_neg (by simp),if_pos (by simp),show idx [c] 0=some c from rfl,OS]
  unfold EF
  rw [hu,Qp]
  rfl
theorem SS (c:UInt8) (r:List UInt8):NW c (c::r)=some 0:=by unfold NW; rw [if_pos rfl]
theorem PR (s:List UInt8) (c:UInt8):CN s [c]=some (match NW c s with | some i=>(i:Int) | none=> -1):=by
 by_cases h:[c]=s
 ·exact N2 s c (.inr (by rw [<-h]; exact SS c []))
 ·exact N2 s c (.inl h)
theorem U8 (s:List UInt8) (c:UInt8) (hs:s.length<=100000):Ea s [c]=some (match NW c s with | some i=>(s.take i,s.drop (i + 1),true) | none=>(s,[],false)):=by
 have hx:=PR s c
 unfold CN at hx
 obtain ⟨v,h1,h2⟩:=OB hx
 have h2:v=_:=OI h2
 unfold Ea Df
 rw [h1,OS]
 cases hf:NW c s with
 | none =>
  rw [hf] at h2
  have h2:v = -1:=h2
  subst h2
  rw [if_neg (by decide)]
  rfl
 | some i =>
  rw [hf] at h2
  have h2:v=(i:Int):=h2
  subst h2
  obtain ⟨a1,_,_⟩:=Jm hf
  have e:wr .i64 ((i:Int) + (([c]:List UInt8).length:Int))=((i + 1:Nat):Int):=by
   rw [NS (by simp; omega) (by simp; omega)]; simp
  rw [if_pos (by simp),if_pos (by simp [Cn]; omega),e,if_pos (by simp only [Cn,Bool.and_eq_true,decide_eq_true_eq]; omega),Int.toNat_natCast,Int.toNat_natCast,Int.toNat_natCast,List.take_length]
  rfl
/- Numbers. -/
theorem Vv {n:Int}(h0:0<=n) (h1:n<=255):wr .u8 n=n:=by
 have e:wr .u8 n=n % 256:=rfl
 rw [e]
 omega
/- Words: none where a piece is empty. -/
theorem RP {α:Type}(a b:List α) (x y:α):(a++x::b).set a.length y=a++y::b:=by
 rw [List.set_append_right _ _ (Nat.le_refl _),Nat.sub_self]; rfl
theorem RH {c:UInt8}{s:List UInt8}(h:(pcs c s).length=1):pcs c s=[s]:=by
 rw [Le] at h
 exact Lg c fun hm=>by
  have:=List.count_pos_iff.2 hm
  omega
theorem PC {lo hi n:Nat}(h1:lo<=hi) (h2:hi<=n):Cn (lo:Int) (hi:Int) n=true:=by
 simp only [Cn,Bool.and_eq_true,decide_eq_true_eq]; omega
theorem Mf (line:List UInt8) (N:Nat) (hN:N<=3001) (r7:Int) (hr:wr .i64 ((mnI r7 (wr .i64 ((line.length:Int) + 1))) - 1)=(N:Int) - 1):∀ (d:Nat) (s:List UInt8) (ws:List (List UInt8)) (f:Nat),s.length<=3000->(pcs 32 s).length=d + 1->ws.length + d + 1=N->d < f->∃ (last:List UInt8) (W:List (List UInt8)),Bd line [32] 0 r7 f s ws.length (ws++List.replicate (d + 1) [])=some (last,(W.length:Int),W++[[]])/\W++[last]=ws++pcs 32 s/\W.length + 1=N
 | 0,s,ws,f + 1,_,h,hw,_=>by
  refine ⟨s,ws,?_,by rw [RH h],hw⟩
  unfold Bd
  rw [hr,if_neg (by rw [decide_eq_true_eq]; omega)]
  rfl
 | d + 1,s,ws,f + 1,hs,h,hw,hf=>by
  cases hf2:NW 32 s with
  | none =>
   rw [Lg 32 (Mt hf2)] at h
   simp at h
  | some m =>
   obtain ⟨a1,_,_⟩:=Jm hf2
   have hp:=TX hf2
   obtain ⟨last,W,b1,b2,b3⟩:=Mf line N hN r7 hr d (s.drop (m + 1)) (ws++[s.take m]) f (by simp; omega) (by rw [hp] at h; simpa using h) (by simp; omega) (by omega)
   refine ⟨last,W,?_,by rw [b2,hp]; simp,b3⟩
   have hx:CN s [32]=some (m:Int):=by rw [PR,hf2]
   have e1:wr .i64 ((m:Int) + 0)=(m:Int):=by rw [NS (by omega) (by omega)]; omega
   have e2:wr .i64 ((m:Int) + (([32]:List UInt8).length:Int))=((m + 1:Nat):Int):=by rw [NS (by simp; omega) (by simp; omega)]; simp
   have e3:wr .i64 ((ws.length:Int) + 1)=((ws++[s.take m]).length:Int):=by rw [NS (by omega) (by omega)]; simp
   have e4:ws++List.replicate (d + 1 + 1) ([]:List UInt8)=ws++[]::List.replicate (d + 1) []:=by rw [List.replicate_succ]
   have e5:(ws++List.replicate (d + 1 + 1) ([]:List UInt8)).set ws.length (s.take m)=(ws++[s.take m])++List.replicate (d + 1) []:=by rw [e4,RP]; simp
   have k1:Cn ((0:Nat):Int) (m:Int) s.length=true:=PC (Nat.zero_le _) (Nat.le_of_lt a1)
   have k1:Cn 0 (m:Int) s.length=true:=k1
   have k2:Cn ((m + 1:Nat):Int) (s.length:Int) s.length=true:=PC a1 (Nat.le_refl _)
   have g1:(ws.length:Int) < (N:Int) - 1:=by clear hr; omega
   have g2:¬ (m:Int) < 0:=by clear hr; omega
   have k3:idx (ws++List.replicate (d + 1 + 1) ([]:List UInt8)) (ws.length:Int)=some []:=by rw [e4]; exact Ga _ _ _
   conv=>lhs; unfold Bd
   rw [hr,if_pos (decide_eq_true g1),hx,OS,if_neg (by rw [decide_eq_true_eq]; exact g2),e1,if_pos k1,k3,OS,e2,if_pos k2,Int.toNat_natCast,Int.toNat_natCast,Int.toNat_natCast,Int.toNat_natCast,List.take_length,e3]
   rw [<-b1,<-e5]
   rfl
theorem Sw (line:List UInt8) (hl:line.length<=3000):EE line [32]=some (pcs 32 line):=by
 have hc:line.count 32<=line.length:=List.count_le_length
 have hN:=Le 32 line
 have hj:CX line [32] (-1)=some (((line.count 32 + 1:Nat)):Int):=by
  unfold CX
  rw [if_pos (by decide)]
  show some (wr .i64 (((line.count 32:Nat):Int) + 1))=_
  rw [NS (by omega) (by omega)]
  rfl
 have hM:mnI ((line.count 32 + 1:Nat):Int) (wr .i64 ((line.length:Int) + 1))=((line.count 32 + 1:Nat):Int):=by
  rw [NS (by omega) (by omega)]
  unfold mnI
  rw [if_neg (by omega)]
 obtain ⟨last,W,a1,a2,a3⟩:=Mf line (line.count 32 + 1) (by omega) ((line.count 32 + 1:Nat):Int) (by rw [hM,NS (by omega) (by omega)]) (line.count 32) line [] 100000 hl hN (by simp) (by omega)
 rw [List.nil_append,show ((([]:List (List UInt8)).length:Nat):Int)=0 from rfl] at a1
 rw [List.nil_append] at a2
 unfold EE D3
 rw [if_neg (by decide),if_neg (by decide),hj,OS,hM,if_pos (by simp only [Uf,Bool.and_eq_true,decide_eq_true_eq]; omega),Int.toNat_natCast,a1,OS]
 have e1:wr .i64 ((W.length:Int) + 1)=((W.length + 1:Nat):Int):=by rw [NS (by omega) (by omega)]; omega
 have e2:(W++[[]]).set W.length last=W++[last]:=RP W [] [] last
 have e3:(W++[last]).take (W.length + 1)=W++[last]:=List.take_of_length_le (by simp)
 have k1:Ub ((W.length + 1:Nat):Int) (W++[last]).length=true:=by simp only [Ub,List.length_append,List.length_singleton,Bool.and_eq_true,decide_eq_true_eq]; omega
 simp only []
 rw [show idx (W++[[]]) (W.length:Int)=some [] from Ga _ _ _,OS,Int.toNat_natCast,e1,e2,if_pos k1,Int.toNat_natCast,e3,OS,a2]
def S8 (x:AF):Prop:=x.2.1.length<=9999/\x.2.2.2.1.length<=9999/\∀ s ∈ x.2.2.2.1,s.length<=9999
def Uh (c:List AF):Prop:=c.length<=9999/\∀ x ∈ c,S8 x
theorem U3 (b:List AF) (x:AF) (hb:Uh b) (hx:S8 x):DM b x=some (chk b x):=by
 have hn:∀ s ∈ x.2.2.2.1,s.length<=99999:=fun s hs=>by have:=hx.2.2 s hs; omega
 unfold DM chk
 rw [Wl,OS]
 cases hf:fm x with
 | false=>simp
 | true =>
  rw [if_neg (show ¬ ((!true)=true) by simp),if_neg (show ¬ (true=false) by simp),Q3 _ (by have:=hx.2.1; omega) hn,Ok _ (by have:=hx.1; omega)]
  have e:((if (!(x.2.1==[]))=true then (some (CL x.2.1)).bind fun v3=>if (!v3)=true then some true else (some (x.2.2.2.1.any fun s=>!CL s)).bind fun v4=>some v4 else (some (x.2.2.2.1.any fun s=>!CL s)).bind fun v5=>some v5):Option Bool)=some (((!(x.2.1==[]))&&!CL x.2.1)||(x.2.2.2.1.any fun s=>!CL s)):=by
   cases (x.2.1==[]) <;> cases CL x.2.1 <;> rfl
  rw [e,OS]
  cases hq:(((!(x.2.1==[]))&&!CL x.2.1)||(x.2.2.2.1.any fun s=>!CL s)) with
  | true=>rw [if_pos rfl,if_pos (by simpa using hq)]
  | false =>
   rw [if_neg (show ¬ (false=true) by simp),if_neg (show ¬ (((!(x.2.1==[]))&&!CL x.2.1)=true\/(x.2.2.2.1.any fun s=>!CL s)=true) by simpa using hq),VA _ _ (by have:=hx.2.1; omega),OS]
   try dsimp only
   cases hd:QZ x.2.2.2.1 x.2.2.2.1 0 with
   | true=>rfl
   | false =>
    rw [if_neg (show ¬ (false=true) by simp)]
    dsimp only
    have hr:=Pb b x (by have:=hb.1; omega) (fun y hy=>by have:=(hb.2 y hy).2.1; omega)
    rw [hr]
    by_cases ha:x.2.1=[]
    ·simp [ha]
    ·simp only [ha,false_or]
     cases G6 b x.2.1 <;> simp [ha]
section
variable (c pre r:List AF) (x:AF) (e:c=pre++x::r) (h:Uh c)
include e h
end
/- trestle/trestleref03.word -/
def P5 (x0:Int):Option ((List UInt8)) :=
 (idx [[114,97,110,107],[101,108,100,101,114],[121,111,117,116,104],[115,105,100,101],[104,111,115,116],[116,111,110,103,117,101],[99,111,117,114,116],[110,97,109,101],[108,105,115,116],[108,111,116]] (wr .i64 (x0 - 1))).bind fun v1 =>
 some v1
/- trestle/trestleref03.clause -/
/- trestle/trestleref03.Parse -/
theorem Bp {α β:Type}(v:α) (k:α->Option (β ⊕ Int)):CE (some (.inl v)) k=k v:=rfl
theorem D0 {α β:Type}(e:Int) (k:α->Option (β ⊕ Int)):CE (some (.inr e)) k=some (.inr e):=rfl
theorem Jq (e:Int):BJ true e=some (.inl ()):=rfl
theorem Id (e:Int):BJ false e=some (.inr e):=rfl
def wdB (k:Int):List UInt8:=(Ee k).getD []
theorem NQ {k:Int}(h1:1<=k) (h2:k<=10):Ee k=some (wdB k)/\P5 k=some (wdB k)/\0 < (wdB k).length/\(wdB k).length<=10:=by
 have:k=1\/k=2\/k=3\/k=4\/k=5\/k=6\/k=7\/k=8\/k=9\/k=10:=by omega
 rcases this with rfl | rfl | rfl | rfl | rfl | rfl | rfl | rfl | rfl | rfl <;> exact ⟨rfl,rfl,by decide,by decide⟩
/- The kind of a word. -/
def kdG (w:List UInt8):Nat->Int->Int->Int
 | 0,_,acc=>acc
 | d + 1,k,acc=>kdG w d (k + 1) (if (wdB k==w)=true then k else acc)
def kd (w:List UInt8):Int:=kdG w 10 1 0
theorem Wr (s:List UInt8) (r:List (List UInt8)) (am:List UInt8):∀ (d:Nat) (k acc:Int) (f:Nat),k + d=11->1<=k->d < f->Cv (s,r,am) f k acc=some (.inl (kdG s d k acc))
 | 0,k,acc,f + 1,h,_,_=>by
  unfold Cv
  rw [if_neg (by rw [decide_eq_true_eq]; omega)]
  rfl
 | d + 1,k,acc,f + 1,h,h1,hf=>by
  unfold Cv
  rw [if_pos (decide_eq_true (by omega)),(NQ h1 (by omega)).1,OS]
  unfold Eq
  have ih:=Wr s r am d (k + 1) (if (wdB k==s)=true then k else acc) f (by omega) (by omega) (by omega)
  unfold kdG
  rw [<-ih,Vv (by omega) (by omega)]
  split <;> rfl
theorem TQ (w:List UInt8):∀ (d:Nat) (k acc:Int),1<=k->k + d=11->0<=acc->acc<=10->0<=kdG w d k acc/\kdG w d k acc<=10
 | 0,_,acc,_,_,h1,h2=>⟨h1,h2⟩
 | d + 1,k,acc,hk,he,h1,h2=>by
  unfold kdG
  refine TQ w d (k + 1) _ (by omega) (by omega) ?_ ?_ <;> split <;> omega
theorem SV (w:List UInt8):0<=kd w/\kd w<=10:=TQ w 10 1 0 (by omega) (by omega) (by omega) (by omega)
/- Numbers of the program. -/
theorem Nj (w:List UInt8) (hw:w.length<=9):∀ (r pre:List UInt8) (f acc:Nat),w=pre++r->r.length < f->acc < 10 ^ pre.length->B6 w f acc pre.length=some (match Ox acc r with | some x=> .inl (x:Int) | none=> .inr 3)
 | [],pre,f + 1,acc,h,_,_=>by
  unfold B6
  rw [if_neg (by rw [h]; simp)]
  rfl
 | b::r,pre,f + 1,acc,h,hf,ha=>by
  have hi:idx w (pre.length:Int)=some b:=by rw [h]; exact Ga pre b r
  have hl:pre.length < w.length:=by rw [h]; simp
  unfold B6
  rw [if_pos (by simp; exact hl),hi,OS,OS,OS]
  unfold Ox
  by_cases hb:48<=b.toNat/\b.toNat<=57
  ·have hp:10 ^ pre.length<=10 ^ 8:=Nat.pow_le_pow_right (by omega) (by omega)
   have e1:(10:Nat) ^ 8=100000000:=by decide
   have e2:(10:Nat) ^ (pre++[b]).length=10 ^ pre.length * 10:=by rw [List.length_append,List.length_singleton,Nat.pow_succ]
   have e3:wr .i64 (wr .i64 (10 * (acc:Int)) + wr .i64 (wr .u8 ((b.toNat:Int) - 48)))=((10 * acc + (b.toNat - 48):Nat):Int):=by
    rw [Vv (by omega) (by omega),NS (n:=10 * (acc:Int)) (by omega) (by omega),NS (n:=(b.toNat:Int) - 48) (by omega) (by omega),NS (by omega) (by omega)]
    omega
   have ih:=Nj w hw r (pre++[b]) f (10 * acc + (b.toNat - 48)) (by rw [h]; simp) (by simp at hf; omega) (by rw [e2]; omega)
   rw [if_pos (decide_eq_true (by omega)),OS,show decide ((b.toNat:Int)<=57)=true from decide_eq_true (by omega),Jq,Bp,if_pos hb,e3,NS (n:=(pre.length:Int) + 1) (by omega) (by omega),<-ih,Pf pre b]
  ·rw [if_neg hb]
   by_cases h1:(b.toNat:Int)≥48
   ·rw [if_pos (decide_eq_true h1),OS,show decide ((b.toNat:Int)<=57)=false from decide_eq_false (by omega),Id,D0]
   ·rw [if_neg (by simpa using h1),OS,Id,D0]
theorem HP (w : List UInt8) : Dj w = some (match M6 w with | some x => .inl (x : Int) | none => .inr 3) := by
  unfold Dj M6
  by_cases h0 : w.length = 0
  · rw [if_neg (by rw [decide_eq_true_eq]; omega), OS, Id, D0, if_pos (.inl h0)]
  · rw [if_pos (decide_eq_true (by omega))]
    by_cases h9 : 9 < w.length
    · rw [if_neg (by rw [decide_eq_true_eq]; omega), OS, Id, D0, if_pos (.inr h9)]
    · rw [if_pos (decide_eq_true (by omega)), if_neg (show ¬ (w.length = 0 ∨ 9 < w.length) by omega)]
      obtain ⟨b, r, rfl⟩ := List.exists_cons_of_ne_nil (fun e => h0 (by rw [e]; rfl) : w ≠ [])
      have hb : (((b.toNat : Int) != 48) = true) ↔ b ≠ 48 := by
        rw [bne_iff_ne]
        constructor
        · intro h e; exact h (by rw [e]; rfl)
        · intro h e; exact h (UInt8.toNat.inj (by have : b.toNat = 48 := by omega
                                                  rw [this]; rfl))
      have hgo : (CE (B6 (b :: r) 100000 0 0) fun r20 => some (.inl r20)) = some (match Ox 0 (b :: r) with | some x => .inl (x : Int) | none => .inr 3) := by
        have hl := Nj (b :: r) (by omega) (b :: r) [] 100000 0 rfl (by omega) (by simp)
        have hl : B6 (b :: r) 100000 0 0 = _ := hl
        rw [hl]
        cases Ox 0 (b :: r) <;> rfl
      by_cases h1 : r.length = 0
      · rw [if_pos (by rw [beq_iff_eq, List.length_cons, h1]; rfl), OS, Jq, Bp, if_neg (by rw [List.length_cons]; omega), hgo]
      · rw [if_neg (by rw [beq_iff_eq, List.length_cons]; omega), show idx (b :: r) 0 = some b from rfl, OS, OS]
        by_cases hz : b = 48
        · rw [show ((b.toNat : Int) != 48) = false by rw [Bool.eq_false_iff]; exact fun h => hb.1 h hz, Id, D0, if_pos ⟨by rw [List.length_cons]; omega, by rw [hz]; rfl⟩]
        · rw [hb.2 hz, Jq, Bp, if_neg (fun h => hz (by simpa using h.2)), hgo]
def QJ:List UInt8:=[97,109,111,110,103]
def ftB:List UInt8:=[102,105,114,115,116]
def laB:List UInt8:=[108,97,115,116]
def Kl (w:List UInt8):Bool:=(w==ftB)||(w==laB)
/-- What stands behind the kind. -/
def clK (am:List UInt8) (k:Int) (r:List (List UInt8)):Option AF :=
 if k=0 then none
 else if k=1 then (if r=[] then none else some (1,am,false,r,0))
 else if k=4 then (match r with
  | [n,l]=>match M6 n with
   | some x=>if Kl l=true then some (4,am,l==laB,[],(x:Int)) else none
   | none=>none
  | _=>none)
 else if k=5 then (match r with
  | [l]=>if Kl l=true then some (5,am,l==laB,[],0) else none
  | _=>none)
 else if k=6\/k=7 then (match r with
  | l::n::ns=>if Kl l=true then some (k,am,l==laB,n::ns,0) else none
  | _=>none)
 else if k=10 then (match r with
  | [n]=>match M6 n with
   | some x=>some (10,am,false,[],(x:Int))
   | none=>none
  | _=>none)
 else if r=[] then some (k,am,false,[],0) else none
def clW:List (List UInt8)->Option AF
 | []=>none
 | s::r=>if s=QJ then (match r with
  | a::s'::r'=>clK a (kd s') r'
  | _=>none) else clK [] (kd s) r
def inR {α:Type}:Option α->α ⊕ Int
 | some c=> .inl c
 | none=> .inr 3
/- The reader. -/
theorem XL {α:Type}(a:α) (r:List α) (h:r.length<=9999):Cn 1 ((a::r).length:Int) (a::r).length=true/\(((a::r).take ((a::r).length:Int).toNat).drop (1:Int).toNat)=r:=by
 refine ⟨?_,?_⟩
 ·simp only [Cn,Bool.and_eq_true,decide_eq_true_eq,List.length_cons]; omega
 ·rw [Int.toNat_natCast,List.take_length]; rfl
def nxR:List (List UInt8)->(List UInt8×List (List UInt8)) ⊕ Int
 | []=> .inr 3
 | s::r=> .inl (s,r)
theorem MZ (ws:List (List UInt8)) (h:ws.length<=9999):A6 ws=some (nxR ws):=by
 unfold A6
 cases ws with
 | nil=>rfl
 | cons s r =>
  obtain ⟨h1,h2⟩:=XL s r (by simp at h; omega)
  rw [show decide (((s::r).length:Int) > 0)=true from decide_eq_true (by rw [List.length_cons]; omega),Jq,Bp,show idx (s::r) 0=some s from rfl,OS,if_pos h1,h2]
  rfl
theorem VT (ws:List (List UInt8)) (h:ws.length<=9999):Dq ws=some (nxR ws):=MZ ws h
theorem La (ws:List (List UInt8)):B9 ws=some (if ws=[] then .inr 3 else .inl (ws,[])):=by
 unfold B9
 cases ws with
 | nil=>rfl
 | cons s r=>rw [show decide (((s::r).length:Int) > 0)=true from decide_eq_true (by rw [List.length_cons]; omega),Jq,Bp]; rfl
def laR:List (List UInt8)->(Bool×List (List UInt8)) ⊕ Int
 | []=> .inr 3
 | l::r=>if Kl l=true then .inl (l==laB,r) else .inr 3
theorem Ny (ws:List (List UInt8)) (h:ws.length<=9999):Bv ws=some (laR ws):=by
 unfold Bv
 rw [MZ ws h]
 cases ws with
 | nil=>rfl
 | cons l r =>
  show (CE (some (.inl (l,r))) _)=some (if Kl l=true then _ else _)
  rw [Bp]
  unfold Kl
  show ((if (l==ftB)=true then some true else some (l==laB)).bind fun j4=>CE (BJ j4 3) fun v11=>some (.inl ((l==laB),r)))=_
  cases l==ftB <;> cases l==laB <;> rfl
/- All words stand for something. -/
theorem MQ (v:List (List UInt8)) (hv:v.length<=9999):∀ (r pre:List (List UInt8)) (f:Nat),v=pre++r->r.length < f->CV v f pre.length=some (if [] ∈ r then .inr 3 else .inl ())
 | [],pre,f + 1,h,_=>by
  unfold CV
  rw [if_neg (by rw [h]; simp)]
  rfl
 | w::r,pre,f + 1,h,hf=>by
  have hl:v.length=pre.length + r.length + 1:=by rw [h]; simp; omega
  unfold CV
  rw [if_pos (decide_eq_true (by omega)),show idx v (pre.length:Int)=some w by rw [h]; exact Ga pre w r,OS]
  cases w with
  | nil=>rw [show (!(([]:List UInt8)==[]))=false from rfl,Id,D0,if_pos (by simp)]
  | cons b w =>
   rw [show (!((b::w)==[]))=true from rfl,Jq,Bp,NS (by omega) (by omega),Pf pre (b::w),MQ v hv r (pre++[b::w]) f (by rw [h]; simp) (by simp at hf; omega)]
   have:([] ∈ (b::w)::r)↔[] ∈ r:=by simp
   by_cases hm:[] ∈ r
   ·rw [if_pos hm,if_pos (this.2 hm)]
   ·rw [if_neg hm,if_neg (fun e=>hm (this.1 e))]
/-- What the program does behind the kind. -/
theorem Td (s am:List UInt8) (r:List (List UInt8)) (k:Int) (hr:r.length<=9999) (h0:0<=k) (h10:k<=10) :
  (CE (BJ (k != 0) 3) fun _=>CE (Ay (s,r,am) k) fun r192=>CE (BJ ((r192.1.length:Int)==0) 3) fun _=>some (.inl (k,am,r192.2.1,r192.2.2.1,r192.2.2.2)))=some (inR (clK am k r)):=by
 have hk:k=0\/k=1\/k=2\/k=3\/k=4\/k=5\/k=6\/k=7\/k=8\/k=9\/k=10:=by omega
 have hd:∀ (x:List UInt8) (q:List (List UInt8)),r=x::q->q.length<=9999:=fun x q e=>by rw [e] at hr; simp at hr; omega
 have ne:∀ (x:List UInt8) (q:List (List UInt8)),(((x::q).length:Int)==0)=false:=fun x q=>by rw [beq_eq_false_iff_ne,List.length_cons]; omega
 have nil0:((([]:List (List UInt8)).length:Int)==0)=true:=rfl
 rcases hk with rfl | rfl | rfl | rfl | rfl | rfl | rfl | rfl | rfl | rfl | rfl
 ·rfl
 ·show (CE (Ay (s,r,am) 1) _)=_
  unfold Ay
  rw [if_pos (by rfl),La]
  cases r <;> rfl
 ·cases r with
  | nil=>rfl
  | cons x q=>show (CE (BJ (((x::q).length:Int)==0) 3) fun _=>some (.inl ((2:Int),am,false,([]:List (List UInt8)),(0:Int))))=_; rw [ne]; rfl
 ·cases r with
  | nil=>rfl
  | cons x q=>show (CE (BJ (((x::q).length:Int)==0) 3) fun _=>some (.inl ((3:Int),am,false,([]:List (List UInt8)),(0:Int))))=_; rw [ne]; rfl
 ·show (CE (Ay (s,r,am) 4) _)=_
  unfold Ay CU
  rw [if_neg (by decide),if_pos (by rfl),MZ _ hr]
  match r,hr with
  | [],_=>rfl
  | [n],_ =>
   simp only [nxR,Bp,HP]
   cases M6 n <;> rfl
  | [n,l],_ =>
   have e:clK am 4 [n,l]=(match M6 n with
    | some x=>if Kl l=true then some (4,am,l==laB,[],(x:Int)) else none
    | none=>none):=rfl
   rw [e]
   simp only [nxR,Bp,HP,Ny [l] (by simp)]
   cases M6 n with
   | none=>rfl
   | some x =>
    cases hf:Kl l with
    | false=>simp only [laR,hf,Bp,D0,Bool.false_eq_true,if_false]; rfl
    | true=>simp only [laR,hf,Bp,if_true]; rfl
  | n::l::y::q,hr =>
   have e:clK am 4 (n::l::y::q)=none:=rfl
   rw [e]
   simp only [nxR,Bp,HP,Ny (l::y::q) (by simp at hr ⊢; omega)]
   cases M6 n with
   | none=>rfl
   | some x =>
    cases hf:Kl l with
    | false=>simp only [laR,hf,Bp,D0,Bool.false_eq_true,if_false]; rfl
    | true=>simp only [laR,hf,Bp,if_true,ne,Id,D0]; rfl
 ·show (CE (Ay (s,r,am) 5) _)=_
  unfold Ay CU Cu
  rw [if_neg (by decide),if_neg (by decide),if_pos (by rfl),Ny _ hr]
  match r,hr with
  | [],_=>rfl
  | [l],_ =>
   have e:clK am 5 [l]=if Kl l=true then some (5,am,l==laB,[],0) else none:=rfl
   rw [e]
   cases hf:Kl l with
   | false=>simp only [laR,hf,D0,Bool.false_eq_true,if_false]; rfl
   | true=>simp only [laR,hf,Bp,if_true]; rfl
  | l::y::q,_ =>
   have e:clK am 5 (l::y::q)=none:=rfl
   rw [e]
   cases hf:Kl l with
   | false=>simp only [laR,hf,D0,Bool.false_eq_true,if_false]; rfl
   | true=>simp only [laR,hf,Bp,if_true,ne,Id,D0]; rfl
 ·show (CE (Ay (s,r,am) 6) _)=_
  unfold Ay CU Cu Dc Dd
  rw [if_neg (by decide),if_neg (by decide),if_neg (by decide),if_pos (by rfl),Bp,if_pos (by rfl),Ny _ hr]
  match r,hr with
  | [],_=>rfl
  | [l],_ =>
   cases hf:Kl l with
   | false=>simp only [laR,hf,D0,Bool.false_eq_true,if_false]; rfl
   | true=>simp only [laR,hf,Bp,if_true,La]; rfl
  | l::n::ns,_ =>
   have e:clK am 6 (l::n::ns)=if Kl l=true then some (6,am,l==laB,n::ns,0) else none:=rfl
   rw [e]
   cases hf:Kl l with
   | false=>simp only [laR,hf,D0,Bool.false_eq_true,if_false]; rfl
   | true=>simp only [laR,hf,Bp,if_true,La]; rfl
 ·show (CE (Ay (s,r,am) 7) _)=_
  unfold Ay CU Cu Dc Dd
  rw [if_neg (by decide),if_neg (by decide),if_neg (by decide),if_neg (by decide),Bp,if_pos (by rfl),Ny _ hr]
  match r,hr with
  | [],_=>rfl
  | [l],_ =>
   cases hf:Kl l with
   | false=>simp only [laR,hf,D0,Bool.false_eq_true,if_false]; rfl
   | true=>simp only [laR,hf,Bp,if_true,La]; rfl
  | l::n::ns,_ =>
   have e:clK am 7 (l::n::ns)=if Kl l=true then some (7,am,l==laB,n::ns,0) else none:=rfl
   rw [e]
   cases hf:Kl l with
   | false=>simp only [laR,hf,D0,Bool.false_eq_true,if_false]; rfl
   | true=>simp only [laR,hf,Bp,if_true,La]; rfl
 ·cases r with
  | nil=>rfl
  | cons x q=>show (CE (BJ (((x::q).length:Int)==0) 3) fun _=>some (.inl ((8:Int),am,false,([]:List (List UInt8)),(0:Int))))=_; rw [ne]; rfl
 ·cases r with
  | nil=>rfl
  | cons x q=>show (CE (BJ (((x::q).length:Int)==0) 3) fun _=>some (.inl ((9:Int),am,false,([]:List (List UInt8)),(0:Int))))=_; rw [ne]; rfl
 ·show (CE (Ay (s,r,am) 10) _)=_
  unfold Ay CU Cu Dc Dd EU
  rw [if_neg (by decide),if_neg (by decide),if_neg (by decide),if_neg (by decide),Bp,if_neg (by decide),if_pos (by rfl),MZ _ hr]
  match r,hr with
  | [],_=>rfl
  | [n],_ =>
   have e:clK am 10 [n]=(match M6 n with
    | some x=>some (10,am,false,[],(x:Int))
    | none=>none):=rfl
   rw [e]
   simp only [nxR,Bp,HP]
   cases M6 n <;> rfl
  | n::y::q,_ =>
   have e:clK am 10 (n::y::q)=none:=rfl
   rw [e]
   simp only [nxR,Bp,HP]
   cases M6 n with
   | none=>rfl
   | some x=>simp only [Bp,ne,Id,D0]; rfl
theorem SD (line:List UInt8) (hl:line.length<=3000):Di line=some (if [] ∈ pcs 32 line then .inr 3 else inR (clW (pcs 32 line))):=by
 have hlen:(pcs 32 line).length<=3001:=by
  have:line.count 32<=line.length:=List.count_le_length
  rw [Le]; omega
 unfold Di
 rw [Sw line hl,OS]
 generalize pcs 32 line=v at *
 have h1:CV v 100000 0=_:=MQ v (by omega) v [] 100000 rfl (by omega)
 rw [h1]
 by_cases hm:[] ∈ v
 ·rw [if_pos hm,if_pos hm,D0]
 ·rw [if_neg hm,if_neg hm,Bp,VT v (by omega)]
  match v,hlen with
  | [],_=>rfl
  | s::r,hlen =>
   simp only [List.length_cons] at hlen
   show (CE (some (.inl (s,r))) _)=_
   rw [Bp]
   unfold Ep
   show (CE (if (s==QJ)=true then _ else _) _)=_
   by_cases hs:s=QJ
   ·rw [if_pos (by simpa using hs),MZ r (by omega)]
    match r,hlen with
    | [],_=>rw [hs]; rfl
    | [a],_=>rw [hs]; rfl
    | a::s'::r',hlen =>
     simp only [List.length_cons] at hlen
     show (CE (CE (A6 (s'::r')) fun v48=>some (.inl (v48.1,v48.2,a))) _)=_
     rw [MZ _ (by simp; omega)]
     show (CE (some (.inl (s',r',a))) _)=_
     rw [Bp,Wr s' r' a 10 1 0 100000 (by omega) (by omega) (by omega),Bp]
     have e:clW (s::a::s'::r')=clK a (kd s') r':=by
      show (if s=QJ then _ else _)=_
      rw [if_pos hs]
     rw [e]
     exact Td s' a r' (kd s') (by omega) (SV s').1 (SV s').2
   ·rw [if_neg (by simpa using hs),Bp,Wr s r [] 10 1 0 100000 (by omega) (by omega) (by omega),Bp]
    have e:clW (s::r)=clK [] (kd s) r:=by
     show (if s=QJ then _ else _)=_
     rw [if_neg hs]
    rw [e]
    exact Td s [] r (kd s) (by omega) (SV s).1 (SV s).2
theorem Kz (s:List UInt8) (r:List (List UInt8)):clW (s::r)=if s=QJ then (match r with
  | a::s'::r'=>clK a (kd s') r'
  | _=>none) else clK [] (kd s) r:=rfl
def lnP (p:List UInt8):Option AF:=if [] ∈ pcs 32 p then none else clW (pcs 32 p)
def P3:List (List UInt8)->Nat->List AF->List AF×Int×Int
 | [],_,out=>(out,0,0)
 | [p],line,out=>if p=[] then (out,0,0) else ([],(line:Int),3)
 | p::q::r,line,out=>match lnP p with
  | none=>([],(line:Int),3)
  | some x=>if chk out x≠0 then ([],(line:Int),chk out x) else if out.length=32 then ([],(line:Int),7) else P3 (q::r) (line + 1) (out++[x])
theorem Lf (c:UInt8):∀ (s w:List UInt8),w ∈ pcs c s->w.length<=s.length
 | [],w,h=>by
  have:w=[]:=by simpa [pcs] using h
  rw [this]; exact Nat.le_refl _
 | b::r,w,h=>by
  unfold pcs at h
  split at h
  ·rcases List.mem_cons.1 h with rfl | h
   ·simp
   ·have:=Lf c r w h; simp; omega
  ·cases hp:pcs c r with
   | nil=>exact absurd hp (RG c r)
   | cons v vs =>
    rw [hp] at h
    rcases List.mem_cons.1 h with rfl | h
    ·have:=Lf c r v (by rw [hp]; simp); simp; omega
    ·have:=Lf c r w (by rw [hp]; simp [h]); simp; omega
theorem RF (c:UInt8) (s:List UInt8):(pcs c s).length<=s.length + 1:=by
 have:s.count c<=s.length:=List.count_le_length
 rw [Le]; omega
/-- What a clause is made of. -/
theorem TI {am:List UInt8}{k:Int}{r:List (List UInt8)}{x:AF}(h:clK am k r=some x):x.2.1=am/\x.2.2.2.1.length<=r.length/\∀ w ∈ x.2.2.2.1,w ∈ r:=by
 unfold clK at h
 split at h
 ·cases h
 split at h
 ·split at h
  ·cases h
  ·obtain rfl:=OI h; exact ⟨rfl,Nat.le_refl _,fun _ h=>h⟩
 split at h
 ·split at h
  ·split at h
   ·split at h
    ·obtain rfl:=OI h; exact ⟨rfl,Nat.zero_le _,fun _ h=>by cases h⟩
    ·cases h
   ·cases h
  ·cases h
 split at h
 ·split at h
  ·split at h
   ·obtain rfl:=OI h; exact ⟨rfl,Nat.zero_le _,fun _ h=>by cases h⟩
   ·cases h
  ·cases h
 split at h
 ·split at h
  ·split at h
   ·obtain rfl:=OI h; exact ⟨rfl,by simp,fun w hw=>List.mem_cons_of_mem _ hw⟩
   ·cases h
  ·cases h
 split at h
 ·split at h
  ·split at h
   ·obtain rfl:=OI h; exact ⟨rfl,Nat.zero_le _,fun _ h=>by cases h⟩
   ·cases h
  ·cases h
 ·split at h
  ·obtain rfl:=OI h; exact ⟨rfl,Nat.zero_le _,fun _ h=>by cases h⟩
  ·cases h
theorem U6 {ws:List (List UInt8)}{x:AF}(h:clW ws=some x):(x.2.1=[]\/x.2.1 ∈ ws)/\x.2.2.2.1.length<=ws.length/\∀ w ∈ x.2.2.2.1,w ∈ ws:=by
 match ws,h with
 | s::r,h =>
  rw [Kz] at h
  split at h
  ·match r,h with
   | a::s'::r',h =>
    obtain ⟨h1,h2,h3⟩:=TI h
    exact ⟨.inr (by rw [h1]; simp),by simp only [List.length_cons]; omega,fun w hw=>by simp [h3 w hw]⟩
  ·obtain ⟨h1,h2,h3⟩:=TI h
   exact ⟨.inl h1,by simp only [List.length_cons]; omega,fun w hw=>by simp [h3 w hw]⟩
theorem Sa {p:List UInt8}(hp:p.length<=3000){x:AF}(h:lnP p=some x):S8 x:=by
 unfold lnP at h
 split at h
 ·cases h
 ·obtain ⟨h1,h2,h3⟩:=U6 h
  have hl:=RF 32 p
  refine ⟨?_,by omega,fun w hw=>by have:=Lf 32 p w (h3 w hw); omega⟩
  rcases h1 with h1 | h1
  ·rw [h1]; simp
  ·have:=Lf 32 p _ h1; omega
theorem QU (p:List UInt8) (hp:p.length<=3000):Di p=some (inR (lnP p)):=by
 rw [SD p hp]
 unfold lnP
 split <;> rfl
theorem Re {out:List AF}{x:AF}(h:Uh out) (hx:S8 x) (hl:out.length<=32):Uh (out++[x]) :=
 ⟨by simp; omega,fun y hy=>by
  rcases List.mem_append.1 hy with hy | hy
  ·exact h.2 y hy
  ·have:y=x:=by simpa using hy
   rw [this]; exact hx⟩
theorem V9 {α β:Type}(v:α) (n:Int) (k:α->Option (β ⊕ (Int×Int))):Oo (some (.inl v)) n k=k v:=rfl
theorem XD {α β:Type}(e n:Int) (k:α->Option (β ⊕ (Int×Int))):Oo (some (.inr e)) n k=some (.inr (e,n)):=rfl
def W8:(Int×List AF) ⊕ (Int×Int)->List AF×Int×Int
 | .inl q=>(q.2,0,0)
 | .inr e=>([],e.2,e.1)
theorem RD:∀ (f:Nat) (text:List UInt8) (out:List AF),text.length<=3000->Uh out->out.length<=32->text.length < f->∃ r,Br f text (out.length:Int) out=some r/\W8 r=P3 (pcs 10 text) out.length out
 | f + 1,text,out,ht,hw,hl,hf=>by
  unfold Br
  by_cases h0:text=[]
  ·rw [h0,if_neg (by decide)]
   exact ⟨_,rfl,rfl⟩
  ·rw [if_pos (by simpa using h0),U8 text 10 (by omega),OS]
   cases h10:NW 10 text with
   | none =>
    rw [Lg 10 (Mt h10)]
    refine ⟨.inr (3,(out.length:Int)),rfl,?_⟩
    unfold P3
    rw [if_neg h0]
    rfl
   | some i =>
    obtain ⟨a1,_,_⟩:=Jm h10
    dsimp only
    rw [Jq,V9,QU _ (by rw [List.length_take]; omega),TX h10]
    obtain ⟨q,ws,hq⟩:=K9 10 (text.drop (i + 1))
    have e:P3 (text.take i::pcs 10 (text.drop (i + 1))) out.length out=match lnP (text.take i) with
      | none=>([],(out.length:Int),3)
      | some x=>if chk out x≠0 then ([],(out.length:Int),chk out x) else if out.length=32 then ([],(out.length:Int),7) else P3 (pcs 10 (text.drop (i + 1))) (out.length + 1) (out++[x]):=by rw [hq]; rfl
    rw [e]
    cases hx:lnP (text.take i) with
    | none=>exact ⟨_,rfl,rfl⟩
    | some x =>
     have hx1:=Sa (by rw [List.length_take]; omega) hx
     simp only [inR]
     rw [V9,U3 out x hw hx1,OS]
     by_cases hc:chk out x=0
     ·rw [hc,show ((0:Int)==0)=true from rfl,Jq,V9,if_neg (show ¬ ((0:Int)≠0) from fun h=>h rfl)]
      by_cases h32:out.length=32
      ·rw [if_pos h32,show decide ((out.length:Int) < 32)=false from decide_eq_false (by omega),Id,XD]
       exact ⟨_,rfl,rfl⟩
      ·rw [if_neg h32,show decide ((out.length:Int) < 32)=true from decide_eq_true (by omega),Jq,V9,if_pos (GA (by omega) (by simp; omega)),NS (by omega) (by omega)]
       obtain ⟨r,h1,h2⟩:=RD f (text.drop (i + 1)) (out++[x]) (by rw [List.length_drop]; omega) (Re hw hx1 hl) (by simp; omega) (by rw [List.length_drop]; omega)
       have el:(out++[x]).length=out.length + 1:=by simp
       rw [el] at h1 h2
       exact ⟨r,h1,h2⟩
     ·rw [show (chk out x==0)=false from beq_eq_false_iff_ne.2 hc,Id,XD,if_pos hc]
      exact ⟨_,rfl,rfl⟩
theorem S9:Uh []:=⟨by simp,fun _ h=>by cases h⟩
theorem QB (text:List UInt8) (ht:text.length<=3000):EA text=some (P3 (pcs 10 text) 0 []):=by
 unfold EA
 obtain ⟨r,h1,h2⟩:=RD 100000 text [] ht S9 (by simp) (by omega)
 have h1:Br 100000 text 0 []=some r:=h1
 rw [if_neg (by rw [decide_eq_true_eq]; omega),h1,OS]
 have h2:W8 r=P3 (pcs 10 text) 0 []:=h2
 rw [<-h2]
 cases r <;> rfl
/- The reference. -/
/- trestle/trestlelaw03.parses -/
/- trestle/trestlelaw03.CourtParses -/
theorem IV {α:Type}(f:α->List UInt8) (B:Nat):∀ (xs:List α),(∀ x ∈ xs,(f x).length<=B)->((xs.map f).flatten).length<=xs.length * B
 | [],_=>by simp
 | x::r,h=>by
  have h1:=h x (by simp)
  have h2:=IV f B r fun y hy=>h y (List.mem_cons_of_mem _ hy)
  simp only [List.map_cons,List.flatten_cons,List.length_append,List.length_cons,Nat.add_mul]
  omega
/-- A number below 100. -/
def M4 (n:Nat):List UInt8:=(Cr (n:Int)).getD []
theorem UK:((List.range 100).all fun n=>(Cr (n:Int)==some (M4 n))&&(decide (0 < (M4 n).length)&&decide ((M4 n).length<=2)))=true:=by kernel_rfl
theorem VU {n:Nat}(h:n < 100):Cr (n:Int)=some (M4 n)/\0 < (M4 n).length/\(M4 n).length<=2:=by
 have:=List.all_eq_true.1 UK n (by simpa using h)
 simp only [Bool.and_eq_true,beq_iff_eq,decide_eq_true_eq] at this
 exact ⟨this.1,this.2.1,this.2.2⟩
/-- .. as a number. -/
def M5 (x:Int):List UInt8:=M4 x.toNat
theorem UJ {x:Int}(h0:0<=x) (h:x < 100):Cr x=some (M5 x)/\0 < (M5 x).length/\(M5 x).length<=2:=by
 obtain ⟨n,rfl⟩:=Int.eq_ofNat_of_zero_le h0
 have:=VU (n:=n) (by omega)
 unfold M5
 rw [Int.toNat_natCast]
 exact this
theorem W9 {σ ρ:Type}(n:Nat) (S:Nat->σ) (R:Option ρ) (L:Nat->Int->σ->Option ρ) (hn:n<=99999) (hs:∀ i,i < n->∀ f,L (f + 1) (i:Int) (S i)=L f (wr .i64 ((i:Int) + 1)) (S (i + 1))) (he:∀ f,L (f + 1) (n:Int) (S n)=R):L 100000 0 (S 0)=R:=by
 have go:∀ (d i f:Nat),i + d=n->d < f->L f (i:Int) (S i)=R:=by
  intro d
  induction d with
  | zero =>
   intro i f e hf
   obtain ⟨f,rfl⟩:∃ q,f=q + 1:=⟨f - 1,by omega⟩
   rw [show i=n by omega]; exact he f
  | succ d ih =>
   intro i f e hf
   obtain ⟨f,rfl⟩:∃ q,f=q + 1:=⟨f - 1,by omega⟩
   rw [hs i (by omega) f,NS (by omega) (by omega),show ((i:Int) + 1)=((i + 1:Nat):Int) by omega]
   exact ih (i + 1) f (by omega) (by omega)
 exact go n 0 100000 (by omega) (by omega)
theorem N0 {s:List UInt8}(h:s.length<=10000000):okB s=true:=Nat.ble_eq_true_of_le (Nat.le_trans h (Nat.le_of_ble_eq_true (by kernel_rfl)))
theorem Pi {α:Type}{xs:List α}{i:Nat}(h:i < xs.length):xs.take (i + 1)=xs.take i++[xs[i]]:=List.take_succ_eq_append_getElem h
theorem G3 {x:AF}(h:fm x=true):1<=x.1/\x.1<=10:=by
 by_cases hk:1<=x.1/\x.1<=10
 ·exact hk
 ·exfalso
  have n:∀ q:Int,1<=q->q<=10->¬ (x.1==q)=true:=fun q h1 h2 e=>hk (by have:x.1=q:=(by simpa using e); omega)
  have e:Ac x=some false:=by
   unfold Ac C1 C2 C3 C4
   have n9:(x.1==9)=false:=by simpa using n 9 (by omega) (by omega)
   have n7:(x.1==7)=false:=by simpa using n 7 (by omega) (by omega)
   rw [if_neg (n 1 (by omega) (by omega)),if_neg (n 2 (by omega) (by omega)),if_neg (n 3 (by omega) (by omega)),if_neg (n 8 (by omega) (by omega)),if_neg (n 4 (by omega) (by omega)),if_neg (n 5 (by omega) (by omega)),if_neg (n 6 (by omega) (by omega)),if_neg (n 10 (by omega) (by omega)),n9,n7]
   rfl
  unfold fm at h
  rw [e] at h
  cases h
theorem Qc {x:AF}(h:fm x=true) (hk:x.1=4\/x.1=10):0<=x.2.2.2.2/\x.2.2.2.2 < 100:=by
 unfold fm Ac C1 C2 C3 C4 A1 at h
 rcases hk with hk | hk
 ·by_cases a:1<=x.2.2.2.2
  ·by_cases b:x.2.2.2.2<=2
   ·omega
   ·simp [hk,a,b] at h
  ·simp [hk,a] at h
 ·by_cases a:0<=x.2.2.2.2
  ·by_cases b:x.2.2.2.2<=63
   ·omega
   ·simp [hk,a,b] at h
  ·simp [hk,a] at h
def lnA (x:AF):List UInt8:=if (!(x.2.1==[]))=true then [97,109,111,110,103,32]++x.2.1++[32] else []
def lnN (x:AF):List UInt8:=if ((x.1==4)||(x.1==10))=true then [32]++M5 x.2.2.2.2 else []
def lnL (x:AF):List UInt8:=if (decide (x.1≥4)&&decide (x.1<=7))=true then (if x.2.2.1=true then [32,108,97,115,116] else [32,102,105,114,115,116]) else []
def lnS (l:List (List UInt8)):List UInt8:=(l.map fun s=>[32]++s).flatten
def lnF (x:AF):List UInt8:=lnA x++(wdB x.1++(lnN x++(lnL x++(lnS x.2.2.2.1++[10]))))
def txF (c:List AF):List UInt8:=(c.map lnF).flatten
theorem Sb (l:List (List UInt8)) (s:List UInt8):lnS (l++[s])=lnS l++([32]++s):=by
 unfold lnS
 rw [List.map_append,List.flatten_append]; simp
theorem S2 (c:List AF) (x:AF):txF (c++[x])=txF c++lnF x:=by
 unfold txF
 rw [List.map_append,List.flatten_append]; simp
section
variable {x:AF}(hf:Ue x) (hx:fm x=true)
include hf hx
theorem Oe:(lnA x).length<=47:=by
 have _:=hx
 have:=hf.1
 unfold lnA
 split
 ·simp; omega
 ·simp
theorem TS:((x.1==4)||(x.1==10))=true->Cr x.2.2.2.2=some (M5 x.2.2.2.2)/\(M5 x.2.2.2.2).length<=2:=fun h=>by
 have _:=hf
 obtain ⟨a,b⟩:=Qc hx (by simpa using h)
 obtain ⟨n1,_,n4⟩:=UJ a b
 exact ⟨n1,n4⟩
theorem My:(lnN x).length<=3:=by
 unfold lnN
 split
 ·next h =>
  have:=(TS hf hx h).2
  simp; omega
 ·simp
omit hf hx in
theorem Of:(lnL x).length<=6:=by
 unfold lnL
 split
 ·split <;> simp
 ·simp
omit hx in
theorem Og (l:List (List UInt8)) (hl:∀ s ∈ l,s ∈ x.2.2.2.1) (hn:l.length<=20):(lnS l).length<=820:=by
 have:=IV (fun s=>[32]++s) 41 l fun s hs=>by
  have:=hf.2.2 s (hl s hs)
  simp; omega
 unfold lnS
 omega
theorem UC:(lnF x).length<=1000:=by
 have h1:=Oe hf hx
 have h2:=(NQ (G3 hx).1 (G3 hx).2).2.2.2
 have h3:=My hf hx
 have h4:=Of (x:=x)
 have h5:=Og hf x.2.2.2.1 (fun _ h=>h) hf.2.1
 unfold lnF
 simp only [List.length_append,List.length_cons,List.length_nil]
 omega
theorem XJ (acc:List UInt8) (ha:acc.length<=1000000):D7 acc x=some (acc++lnA x):=by
 have h1:=Oe hf hx
 have:=hf.1
 unfold D7
 unfold lnA at h1 ⊢
 by_cases h:(!(x.2.1==[]))=true
 ·rw [if_pos h] at h1
  rw [if_pos h,if_pos h,if_pos (N0 (by simp; omega)),if_pos (N0 (by omega)),if_pos (by simp),if_pos (GA (by omega) (by omega))]
 ·rw [if_neg h,if_neg h,List.append_nil]
theorem Wx (r w:List UInt8) (hr:(r++w).length<=1000000):D8 x r w ((x.1==4)||(x.1==10))=some (r++w++lnN x):=by
 have h1:=My hf hx
 unfold D8
 unfold lnN at h1 ⊢
 by_cases h:((x.1==4)||(x.1==10))=true
 ·obtain ⟨n1,n3⟩:=TS hf hx h
  rw [if_pos h] at h1
  rw [if_pos h,if_pos h,n1,OS,if_pos (N0 (by omega)),if_pos (by simp),if_pos (GA (by omega) (by omega))]
 ·rw [if_neg h,if_neg h,List.append_nil]
omit hf hx in
theorem VG (r:List UInt8) (hr:r.length<=1000000):D9 x r (decide (x.1≥4)&&decide (x.1<=7))=some (r++lnL x):=by
 unfold D9 Eo lnL
 by_cases h:(decide (x.1≥4)&&decide (x.1<=7))=true
 ·rw [if_pos h,if_pos h]
  by_cases h2:x.2.2.1=true
  ·rw [if_pos h2,if_pos h2,if_pos (by simp),if_pos (GA (by omega) (by simp; omega))]; rfl
  ·rw [if_neg h2,if_neg h2,if_pos (by simp),if_pos (GA (by omega) (by simp; omega))]; rfl
 ·rw [if_neg h,if_neg h,List.append_nil]
omit hx in
theorem UG (acc:List UInt8) (ha:acc.length<=1000000):Ba x 100000 0 acc=some (acc++lnS x.2.2.2.1):=by
 have hn:=hf.2.1
 have hh:=W9 (σ:=List UInt8) x.2.2.2.1.length (fun k=>acc++lnS (x.2.2.2.1.take k)) (some (acc++lnS x.2.2.2.1)) (fun f c q=>Ba x f c q) (by omega) (fun k hk f=>by
  show Ba x (f + 1) (k:Int) (acc++lnS (x.2.2.2.1.take k))=_
  conv=>lhs; unfold Ba
  have hl:=Og hf (x.2.2.2.1.take k) (fun s hs=>List.mem_of_mem_take hs) (by rw [List.length_take]; omega)
  have hs:=hf.2.2 _ (List.getElem_mem hk)
  have e:acc++lnS (x.2.2.2.1.take k)++([32]++x.2.2.2.1[k])=acc++lnS (x.2.2.2.1.take (k + 1)):=by
   rw [Pi hk,Sb,List.append_assoc]
  rw [if_pos (by simp; omega),TM hk,OS,if_pos (N0 (by simp; omega)),if_pos (by simp),if_pos (GA (by omega) (by simp only [List.length_append]; simp; omega)),e]) (fun f=>by
  show Ba x (f + 1) (x.2.2.2.1.length:Int) _=_
  conv=>lhs; unfold Ba
  rw [if_neg (by simp),List.take_length])
 have hh':Ba x 100000 0 (acc++[])=some (acc++lnS x.2.2.2.1):=hh
 rwa [List.append_nil] at hh'
end
section
variable {c:List AF}(hc:few c) (hv:∀ x ∈ c,fm x=true)
include hc hv
theorem RW (m:List AF) (hm:∀ x ∈ m,x ∈ c) (hl:m.length<=40):(txF m).length<=40000:=by
 have:=IV lnF 1000 m fun x hx=>UC (hc.2 x (hm x hx)) (hv x (hm x hx))
 unfold txF
 omega
theorem Qd:Bo c 100000 0 []=some (txF c):=by
 have hn:=hc.1
 exact W9 (σ:=List UInt8) c.length (fun k=>txF (c.take k)) (some (txF c)) (fun f i q=>Bo c f i q) (by omega) (fun k hk f=>by
  show Bo c (f + 1) (k:Int) (txF (c.take k))=_
  conv=>lhs; unfold Bo
  have hm:c[k] ∈ c:=List.getElem_mem hk
  have hf:=hc.2 _ hm
  have hx:=hv _ hm
  have hl:=RW hc hv (c.take k) (fun x hx=>List.mem_of_mem_take hx) (by rw [List.length_take]; omega)
  have a1:=Oe hf hx
  obtain ⟨w1,_,w3,w4⟩:=NQ (G3 hx).1 (G3 hx).2
  have a3:=My hf hx
  have a4:=Of (x:=c[k])
  have a5:=Og hf c[k].2.2.2.1 (fun _ h=>h) hf.2.1
  have e1:(if (c[k].1==4)=true then some true else some (c[k].1==10))=some ((c[k].1==4)||(c[k].1==10)):=by cases (c[k].1==4) <;> rfl
  have e2:(if (decide (c[k].1≥4))=true then some (decide (c[k].1<=7)) else some false)=some (decide (c[k].1≥4)&&decide (c[k].1<=7)):=by cases (decide (c[k].1≥4)) <;> rfl
  have e3:txF (c.take (k + 1))=txF (c.take k)++lnA c[k]++wdB c[k].1++lnN c[k]++lnL c[k]++lnS c[k].2.2.2.1++[10]:=by
   rw [Pi hk,S2]
   unfold lnF
   simp only [List.append_assoc]
  have l1:(txF (c.take k)++lnA c[k]++wdB c[k].1).length<=100000:=by simp only [List.length_append]; omega
  have l2:(txF (c.take k)++lnA c[k]++wdB c[k].1++lnN c[k]).length<=100000:=by simp only [List.length_append]; omega
  have l3:(txF (c.take k)++lnA c[k]++wdB c[k].1++lnN c[k]++lnL c[k]).length<=100000:=by simp only [List.length_append]; omega
  have l4:(txF (c.take k)++lnA c[k]++wdB c[k].1++lnN c[k]++lnL c[k]++lnS c[k].2.2.2.1).length<=100000:=by simp only [List.length_append]; omega
  have l0:(txF (c.take k)++lnA c[k]).length<=100000:=by simp only [List.length_append]; omega
  rw [if_pos (by simp; omega),TM hk,OS,XJ hf hx _ (by omega),OS,w1,OS,if_pos (by simpa using w3),if_pos (GA (by omega) (by omega)),e1,OS,Wx hf hx _ _ (by omega),OS,e2,OS,VG _ (by omega),OS,UG hf _ (by omega),OS,if_pos (by simp),if_pos (GA (by omega) (by simp; omega)),e3]) (fun f=>by
  show Bo c (f + 1) (c.length:Int) _=_
  conv=>lhs; unfold Bo
  rw [if_neg (by simp),List.take_length])
theorem SQ:D6 c=some (0,0)->DE c=some (txF c):=fun h=>by
 have hl:=RW hc hv c (fun _ h=>h) hc.1
 unfold DE
 rw [h,OS,if_neg (by decide),Qd hc hv,OS,if_pos (N0 (by omega))]
end
/- Words side by side. -/
def jn:List (List UInt8)->List UInt8
 | []=>[]
 | w::r=>w++lnS r
theorem Is (w:List UInt8) (r:List (List UInt8)):lnS (w::r)=32::(w++lnS r):=by unfold lnS; simp
theorem Qx (a b:List (List UInt8)):lnS (a++b)=lnS a++lnS b:=by unfold lnS; simp
theorem TP:∀ s:List UInt8,jn (pcs 32 s)=s
 | []=>by simp [pcs,jn,lnS]
 | b::r=>by
  have ih:=TP r
  unfold pcs
  obtain ⟨w,ws,hw⟩:=K9 32 r
  rw [hw] at ih
  have ih:w++lnS ws=r:=ih
  split
  ·next h =>
   rw [hw]
   show []++lnS (w::ws)=b::r
   rw [Is,ih,h]; rfl
  ·rw [hw]
   show (b::w)++lnS ws=b::r
   rw [List.cons_append,ih]
theorem TY:∀ (ws:List (List UInt8)) (w:List UInt8),(∀ v ∈ w::ws,(32:UInt8) ∉ v)->pcs 32 (jn (w::ws))=w::ws
 | [],w,h=>by
  show pcs 32 (w++lnS [])=_
  rw [show lnS []=[] from rfl,List.append_nil]
  exact Lg 32 (h w (by simp))
 | v::vs,w,h=>by
  show pcs 32 (w++lnS (v::vs))=_
  rw [Is,NB 32 _ (h w (by simp))]
  have:=TY vs v fun u hu=>h u (List.mem_cons_of_mem _ hu)
  have e:v++lnS vs=jn (v::vs):=rfl
  rw [e,this]
/- Numbers below 100. -/
theorem Sg:((List.range 100).all fun n=>(M6 (M4 n)==some n)&&(!(M4 n).contains 32&&(!(M4 n).contains 10&&(!(M4 n==[])&&(if n < 10 then M4 n==[UInt8.ofNat (48 + n)] else M4 n==[UInt8.ofNat (48 + n / 10),UInt8.ofNat (48 + n % 10)])))))=true:=by kernel_rfl
theorem M7 {n:Nat}(h:n < 100):M6 (M4 n)=some n/\(32:UInt8) ∉ M4 n/\(10:UInt8) ∉ M4 n/\M4 n≠[]/\M4 n=(if n < 10 then [UInt8.ofNat (48 + n)] else [UInt8.ofNat (48 + n / 10),UInt8.ofNat (48 + n % 10)]):=by
 have:=List.all_eq_true.1 Sg n (by simpa using h)
 simp only [Bool.and_eq_true,beq_iff_eq,Bool.not_eq_true',List.contains_eq_mem,decide_eq_false_iff_not] at this
 obtain ⟨h1,h2,h3,h4,h5⟩:=this
 refine ⟨h1,h2,h3,fun e=>by rw [e] at h4; simp at h4,?_⟩
 by_cases hn:n < 10
 ·rw [if_pos hn] at h5; rw [if_pos hn]; simpa using h5
 ·rw [if_neg hn] at h5; rw [if_neg hn]; simpa using h5
theorem RY:∀ (w:List UInt8) (acc v:Nat),Ox acc w=some v->acc * 10 ^ w.length<=v
 | [],acc,v,h=>by
  have:acc=v:=by simpa [Ox] using h
  rw [this]; simp
 | b::r,acc,v,h=>by
  unfold Ox at h
  split at h
  ·have:=RY r _ v h
   rw [List.length_cons,Nat.pow_succ]
   have e:acc * (10 ^ r.length * 10)=(10 * acc) * 10 ^ r.length:=by rw [Nat.mul_comm (10 ^ r.length) 10,<-Nat.mul_assoc,Nat.mul_comm acc 10]
   rw [e]
   exact Nat.le_trans (Nat.mul_le_mul_right _ (Nat.le_add_right _ _)) this
  ·cases h
theorem KK (b:UInt8) (n:Nat) (h:b.toNat=n):UInt8.ofNat n=b:=by rw [<-h]; exact UInt8.ofNat_toNat
theorem PW {w:List UInt8}{v:Nat}(h:M6 w=some v) (hv:v < 100):w=M4 v:=by
 have hb:=(M7 hv).2.2.2.2
 unfold M6 at h
 split at h
 ·cases h
 split at h
 ·cases h
 next h0 hz =>
 match w,h,h0,hz with
 | [],h,h0,_=>simp at h0
 | [b],h,_,_ =>
  unfold Ox at h
  split at h
  ·next hd =>
   have e:v=10 * 0 + (b.toNat - 48):=by simpa [Ox] using h.symm
   rw [hb,if_pos (by omega),KK b _ (by omega)]
  ·cases h
 | [b,c],h,_,hz =>
  have hbne:b≠48:=fun e=>hz ⟨by simp,by rw [e]; rfl⟩
  unfold Ox at h
  split at h
  ·next hd =>
   unfold Ox at h
   split at h
   ·next hd2 =>
    have e:v=10 * (10 * 0 + (b.toNat - 48)) + (c.toNat - 48):=by simpa [Ox] using h.symm
    have hbt:b.toNat≠48:=fun e=>hbne (UInt8.toNat.inj (by rw [e]; rfl))
    rw [hb,if_neg (by omega),KK b _ (by omega),KK c _ (by omega)]
   ·cases h
  ·cases h
 | b::c::d::r,h,_,hz =>
  exfalso
  have hbne:b≠48:=fun e=>hz ⟨by simp,by rw [e]; rfl⟩
  have hbt:b.toNat≠48:=fun e=>hbne (UInt8.toNat.inj (by rw [e]; rfl))
  unfold Ox at h
  split at h
  ·next hd =>
   have:=RY (c::d::r) _ v h
   have hp:1<=10 ^ r.length:=Nat.one_le_pow _ _ (by omega)
   rw [List.length_cons,List.length_cons,Nat.pow_succ,Nat.pow_succ] at this
   have h1:1 * (10 ^ r.length * 10 * 10)<=(10 * 0 + (b.toNat - 48)) * (10 ^ r.length * 10 * 10):=Nat.mul_le_mul_right _ (by omega)
   omega
  ·cases h
/- The words of a clause. -/
def fl (la:Bool):List UInt8:=if la=true then laB else ftB
def tlF (x:AF):List (List UInt8):=(if ((x.1==4)||(x.1==10))=true then [M5 x.2.2.2.2] else [])++((if (decide (x.1≥4)&&decide (x.1<=7))=true then [fl x.2.2.1] else [])++x.2.2.2.1)
def Rb (x:AF):List (List UInt8):=if x.2.1=[] then wdB x.1::tlF x else QJ::x.2.1::wdB x.1::tlF x
def lnB (x:AF):List UInt8:=jn (Rb x)
theorem VK (x:AF):lnF x=lnB x++[10]:=by
 have e:lnS (tlF x)=lnN x++(lnL x++lnS x.2.2.2.1):=by
  unfold tlF lnN lnL
  rw [Qx,Qx]
  congr 1
  ·split
   ·rw [Is,show lnS []=[] from rfl,List.append_nil]; rfl
   ·rfl
  ·congr 1
   split
   ·unfold fl
    cases x.2.2.1 <;> rfl
   ·rfl
 unfold lnF lnB Rb lnA
 by_cases h:x.2.1=[]
 ·rw [if_pos h,if_neg (by simp [h])]
  show _=(wdB x.1++lnS (tlF x))++[10]
  rw [e]
  simp only [List.nil_append,List.append_assoc]
 ·rw [if_neg h,if_pos (by simp [h])]
  show _=(QJ++lnS (x.2.1::wdB x.1::tlF x))++[10]
  rw [Is,Is,e]
  unfold QJ
  simp only [List.append_assoc,List.cons_append,List.nil_append]
theorem IX (la:Bool):Kl (fl la)=true/\(fl la==laB)=la:=by cases la <;> exact ⟨rfl,rfl⟩
theorem SN {l:List UInt8}(h:Kl l=true):l=fl (l==laB):=by
 unfold Kl at h
 rw [Bool.or_eq_true] at h
 by_cases hl:l=laB
 ·rw [hl]; rfl
 ·rw [beq_eq_false_iff_ne.2 hl]
  rcases h with h | h
  ·exact beq_iff_eq.1 h
  ·exact absurd (beq_iff_eq.1 h) hl
theorem U4 {am:List UInt8}{k:Int}{r:List (List UInt8)}{x:AF}(h:clK am k r=some x) (hn:x.1=4\/x.1=10->x.2.2.2.2 < 100):x.1=k/\k≠0/\x.2.1=am/\r=tlF x:=by
 unfold clK at h
 split at h
 ·cases h
 split at h
 ·next hk =>
  subst hk
  split at h
  ·cases h
  ·obtain rfl:=OI h; exact ⟨rfl,by decide,rfl,rfl⟩
 split at h
 ·next hk =>
  subst hk
  split at h
  ·split at h
   ·next v hv =>
    split at h
    ·next hf =>
     obtain rfl:=OI h
     have hv100:v < 100:=by have:(v:Int) < 100:=hn (.inl rfl); omega
     refine ⟨rfl,by decide,rfl,?_⟩
     show [_,_]=[M5 (v:Int),fl _]
     rw [<-SN hf]
     unfold M5
     rw [Int.toNat_natCast,<-PW hv hv100]
    ·cases h
   ·cases h
  ·cases h
 split at h
 ·next hk =>
  subst hk
  split at h
  ·split at h
   ·next hf =>
    obtain rfl:=OI h
    refine ⟨rfl,by decide,rfl,?_⟩
    show [_]=[fl _]
    rw [<-SN hf]
   ·cases h
  ·cases h
 split at h
 ·next hk =>
  split at h
  ·split at h
   ·next hf =>
    obtain rfl:=OI h
    rcases hk with rfl | rfl
    ·refine ⟨rfl,by decide,rfl,?_⟩
     show _::_=fl _::_
     rw [<-SN hf]
     rfl
    ·refine ⟨rfl,by decide,rfl,?_⟩
     show _::_=fl _::_
     rw [<-SN hf]
     rfl
   ·cases h
  ·cases h
 split at h
 ·next hk =>
  subst hk
  split at h
  ·split at h
   ·next v hv =>
    obtain rfl:=OI h
    have hv100:v < 100:=by have:(v:Int) < 100:=hn (.inr rfl); omega
    refine ⟨rfl,by decide,rfl,?_⟩
    show [_]=[M5 (v:Int)]
    unfold M5
    rw [Int.toNat_natCast,<-PW hv hv100]
   ·cases h
  ·cases h
 ·next g0 g1 g4 g5 g67 g10 =>
  split at h
  ·next hr =>
   obtain rfl:=OI h
   refine ⟨rfl,g0,rfl,?_⟩
   rw [hr]
   unfold tlF
   dsimp only
   rw [if_neg (by simp; omega),if_neg (by simp; omega)]
   rfl
  ·cases h
/-- The kind of a word is that of its place. -/
theorem TR (w:List UInt8):∀ (d:Nat) (k acc:Int),1<=k->k + d=11->(acc=0\/w=wdB acc)->(kdG w d k acc=0\/w=wdB (kdG w d k acc))
 | 0,_,_,_,_,h=>h
 | d + 1,k,acc,h1,he,h=>by
  unfold kdG
  refine TR w d (k + 1) _ (by omega) (by omega) ?_
  split
  ·next hq=>exact .inr (beq_iff_eq.1 hq).symm
  ·exact h
theorem VE {w:List UInt8}(h:kd w≠0):w=wdB (kd w):=(TR w 10 1 0 (by omega) (by omega) (.inl rfl)).resolve_left h
theorem Te {k:Int}(h1:1<=k) (h2:k<=10):kd (wdB k)=k/\wdB k≠QJ/\(32:UInt8) ∉ wdB k/\(10:UInt8) ∉ wdB k/\wdB k≠[]:=by
 have:k=1\/k=2\/k=3\/k=4\/k=5\/k=6\/k=7\/k=8\/k=9\/k=10:=by omega
 rcases this with rfl | rfl | rfl | rfl | rfl | rfl | rfl | rfl | rfl | rfl <;> exact ⟨by kernel_rfl,by decide,by decide,by decide,by decide⟩
/-- Words that are read as a clause are its words. -/
theorem Wc {ws:List (List UInt8)}{x:AF}(h:clW ws=some x) (hm:[] ∉ ws) (hn:x.1=4\/x.1=10->x.2.2.2.2 < 100):ws=Rb x:=by
 match ws,h,hm with
 | s::r,h,hm =>
  rw [Kz] at h
  by_cases hs:s=QJ
  ·rw [if_pos hs] at h
   match r,h,hm with
   | a::s'::r',h,hm =>
    obtain ⟨h1,h2,h3,h4⟩:=U4 h hn
    unfold Rb
    rw [h3,if_neg (fun e=>hm (by rw [e]; simp)),h1,<-VE h2,<-h4,hs]
  ·rw [if_neg hs] at h
   obtain ⟨h1,h2,h3,h4⟩:=U4 h hn
   unfold Rb
   rw [h3,if_pos rfl,h1,<-VE h2,<-h4]
section
variable (am:List UInt8) (la:Bool) (nm:List (List UInt8)) (m:Int)
end
/- trestle/court.orderOf$1 -/
/- cmp.isNaN[int] -/
/- cmp.Compare[int] -/
/- trestle/court.by$1 -/
/- trestle/court.plain$1 -/
/- trestle/court.b2i -/
/- trestle/court.plain$2 -/
/- cmp.isNaN[string] -/
/- cmp.Compare[string] -/
/- trestle/court.plain$7 -/
/- trestle/court.plain$3 -/
/- trestle/court.named$1 -/
/- trestle/court.plain$4 -/
/- trestle/court.named$1 -/
/- trestle/court.plain$5$1 -/
/- slices.IndexFunc[[]string,string] -/
/- slices.ContainsFunc[[]string,string] -/
/- trestle/court.plain$5 -/
/- trestle/court.named$1 -/
/- trestle/court.plain$6 -/
/- trestle/court.named$1 -/
/- trestle/court.placed$1 -/
/- trestle/court.plain$8 -/
/- trestle/court.placed$2 -/
/- trestle/court.plain$9 -/
/- trestle/court.placed$2 -/
/- trestle/court.orders -/
/- trestle/court.first[trestle/court.seated,trestle/court.order] -/
/- trestle/court.Reason -/
/- trestle/court.Compare -/
def b2 (b:Bool):Int:=if b=true then 1 else 0
def XN (c:List AF):Prop:=∀ x ∈ c,1<=x.1/\x.1<=10
/-- A letter a to d. -/
def wd (k:Int):List UInt8:=((((([97,98,99,100]:List UInt8).take (([97,98,99,100]:List UInt8).length:Int).toNat).drop k.toNat).take (1:Int).toNat).drop (0:Int).toNat)
theorem V6 {k:Int}(h1:0<=k) (h2:k < 4):k=0\/k=1\/k=2\/k=3:=by omega
theorem Ra {k:Int}(h1:0<=k) (h2:k < 4):CL (wd k)=true/\(wd k).length=1:=by
 rcases V6 h1 h2 with rfl | rfl | rfl | rfl <;> decide
theorem Vs {a b:Int}(h1:0<=a) (h2:a < 4) (h3:0<=b) (h4:b < 4) (h:(wd a==wd b)=true):a=b:=by
 rcases V6 h1 h2 with rfl | rfl | rfl | rfl <;> rcases V6 h3 h4 with rfl | rfl | rfl | rfl <;> first | rfl | (exact absurd h (by decide))
theorem XA {k:Int}(h1:0<=k) (h2:k < 4):Cn k (([97,98,99,100]:List UInt8).length:Int) ([97,98,99,100]:List UInt8).length=true/\Cn 0 (1:Int) ((([97,98,99,100]:List UInt8).take (([97,98,99,100]:List UInt8).length:Int).toNat).drop k.toNat).length=true:=by
 rcases V6 h1 h2 with rfl | rfl | rfl | rfl <;> exact ⟨by decide,by decide⟩
def u8 (n:Int):Prop:=0<=n/\n<=255
theorem tm4 {n:Int}(h:u8 n):0<=n.tmod 4/\n.tmod 4 < 4:=by
 have:=h.1
 rw [Int.tmod_eq_emod_of_nonneg this]
 omega
theorem wr8 (n:Int) (h:u8 n):u8 (wr .u8 (n + 1))/\(wr .u8 (n + 1)).tmod 4≠n.tmod 4:=by
 have e:wr .u8 (n + 1)=(n + 1) % 256:=rfl
 have h2:u8 ((n + 1) % 256):=⟨by omega,by omega⟩
 refine ⟨e ▸ h2,?_⟩
 rw [e,Int.tmod_eq_emod_of_nonneg h2.1,Int.tmod_eq_emod_of_nonneg h.1]
 unfold u8 at h
 omega
/-- The names of a code. -/
def nms (v:Int×Int×Int×Bool×Bool):List (List UInt8):=if ((Ua .u8 v.2.2.1 4)!=0)=true then [wd (v.2.2.1.tmod 4),wd ((wr .u8 (v.2.2.1 + 1)).tmod 4)] else [wd (v.2.2.1.tmod 4)]
theorem VO (x0:List (Int×Int×Int×Bool×Bool)) (c2:List AF) (c3:List UInt8) (c4:Int) (v:Int×Int×Int×Bool×Bool) (h:u8 v.2.2.1):FG x0 c2 c3 c4 v=some (nms v):=by
 unfold FG nms
 obtain ⟨h1,_⟩:=wr8 _ h
 obtain ⟨q1,q2⟩:=tm4 h1
 obtain ⟨d1,d2⟩:=XA q1 q2
 by_cases hc:((Ua .u8 v.2.2.1 4)!=0)=true
 ·rw [if_pos hc,if_pos hc,if_pos d1,if_pos d2]
  refine (if_pos ?_).trans rfl
  show Dy 16 2=true
  decide
 ·rw [if_neg hc,if_neg hc]; rfl
/-- The clause of a code. -/
def clz (k:Int) (am:List UInt8) (la:Bool) (nm:List (List UInt8)) (b:Int):AF :=
 if k=1 then (1,am,false,nm,0) else if k=4 then (4,am,la,[],wr .i64 (1 + wr .i64 (b.tmod 2))) else if k=5 then (5,am,la,[],0) else
 if k=6 then (6,am,la,nm,0) else if k=7 then (7,am,la,nm,0) else if k=10 then (10,am,false,[],wr .i64 (b.tmod 64)) else (k,am,false,[],0)
theorem ten {k:Int}(h1:1<=k) (h2:k<=10):k=1\/k=2\/k=3\/k=4\/k=5\/k=6\/k=7\/k=8\/k=9\/k=10:=by omega
theorem VP (x0:List (Int×Int×Int×Bool×Bool)) (c2:List AF) (c3:List UInt8) (c4 a b d:Int) (e g:Bool) (k:Int) (am:List UInt8) (w:List UInt8) (nm:List (List UInt8)) (h1:1<=k) (h2:k<=10) :
  FH x0 c3 c4 (c2,a,b,d,e,g,k,am,false,0,w::nm)=some (c2,(if k=1 then w else c3),clz k am e (w::nm) b):=by
 rcases ten h1 h2 with rfl | rfl | rfl | rfl | rfl | rfl | rfl | rfl | rfl | rfl <;> rfl
/-- Names that are fit. -/
def V2 (nm:List (List UInt8)):Prop:=1<=nm.length/\nm.length<=2/\(nm.any fun s=>!CL s)=false/\QZ nm nm 0=false/\∀ s ∈ nm,s.length<=40
theorem Q7 (v:Int×Int×Int×Bool×Bool) (h:u8 v.2.2.1):V2 (nms v)/\∃ r,nms v=wd (v.2.2.1.tmod 4)::r:=by
 obtain ⟨h1,h0⟩:=wr8 _ h
 obtain ⟨q1,q2⟩:=tm4 h1
 obtain ⟨p1,p2⟩:=tm4 h
 obtain ⟨a1,a2⟩:=Ra p1 p2
 obtain ⟨b1,b2⟩:=Ra q1 q2
 have hne:(wd ((wr .u8 (v.2.2.1 + 1)).tmod 4)==wd (v.2.2.1.tmod 4))=false:=by
  cases hh:(wd ((wr .u8 (v.2.2.1 + 1)).tmod 4)==wd (v.2.2.1.tmod 4)) with
  | false=>rfl
  | true=>exact absurd (Vs q1 q2 p1 p2 hh) h0
 unfold nms
 split
 ·refine ⟨⟨by simp,by simp,by simp [a1,b1],?_,fun s hs=>?_⟩,_,rfl⟩
  ·simp [QZ,Rj,hne]
  ·rcases (by simpa using hs:s=_\/s=_) with rfl | rfl <;> omega
 ·refine ⟨⟨by simp,by simp,by simp [a1],by simp [QZ,Rj],fun s hs=>?_⟩,_,rfl⟩
  have:s=wd (v.2.2.1.tmod 4):=by simpa using hs
  rw [this]; omega
theorem U7 (k:Int) (am:List UInt8) (la:Bool) (nm:List (List UInt8)) (b:Int) (h1:1<=k) (h2:k<=10) (hb:u8 b) (ha:k=1->am=[]) (hn:V2 nm):fm (clz k am la nm b)=true:=by
 obtain ⟨n1,n2,_⟩:=hn
 have hl:nm.length=1\/nm.length=2:=by omega
 have e2:wr .i64 (1 + wr .i64 (b.tmod 2))=1\/wr .i64 (1 + wr .i64 (b.tmod 2))=2:=by
  rw [Int.tmod_eq_emod_of_nonneg hb.1]
  have hw:wr .i64 (b % 2)=b % 2:=NS (by omega) (by omega)
  rw [hw,NS (by omega) (by omega)]
  omega
 have e64:0<=wr .i64 (b.tmod 64)/\wr .i64 (b.tmod 64)<=63:=by
  rw [Int.tmod_eq_emod_of_nonneg hb.1,NS (by omega) (by omega)]
  omega
 unfold fm
 rcases ten h1 h2 with rfl | rfl | rfl | rfl | rfl | rfl | rfl | rfl | rfl | rfl
 ·obtain rfl:=ha rfl
  have:clz 1 [] la nm b=(1,[],false,nm,0):=rfl
  rw [this]
  rcases hl with h | h <;> simp [Ac,A1,h]
 ·rfl
 ·rfl
 ·have:clz 4 am la nm b=(4,am,la,[],wr .i64 (1 + wr .i64 (b.tmod 2))):=rfl
  rw [this]
  rcases e2 with h | h <;> rw [h] <;> rfl
 ·rfl
 ·have:clz 6 am la nm b=(6,am,la,nm,0):=rfl
  rw [this]
  rcases hl with h | h <;> simp [Ac,C1,C2,C3,C4,A1,h]
 ·have:clz 7 am la nm b=(7,am,la,nm,0):=rfl
  rw [this]
  rcases hl with h | h <;> simp [Ac,C1,C2,C3,C4,A1,h]
 ·rfl
 ·rfl
 ·have:clz 10 am la nm b=(10,am,false,[],wr .i64 (b.tmod 64)):=rfl
  rw [this]
  simp [Ac,C1,C2,C3,C4,A1,e64.1,e64.2]
/-- Every clause is valid behind what stands before it. -/
def Jn (pre:List AF):List AF->Prop
 | []=>True
 | x::r=>chk pre x=0/\Jn (pre++[x]) r
theorem Nu:∀ (a pre b:List AF),Jn pre (a++b)↔Jn pre a/\Jn (pre++a) b
 | [],pre,b=>by simp [Jn]
 | x::a,pre,b=>by
  simp only [List.cons_append,Jn,Nu a (pre++[x]) b,List.append_assoc,List.cons_append,List.nil_append,and_assoc]
theorem Mb (a b:List AF) (s:List UInt8):G6 (a++b) s=(G6 a s||G6 b s):=by
 unfold G6
 rw [List.any_append]
theorem Nv (c:List AF):∀ (r pre:List AF),c=pre++r->Jn pre r->SC c r pre.length = .inl ()
 | [],_,_,_=>rfl
 | x::r,pre,e,h=>by
  unfold SC
  have ht:c.take pre.length=pre:=by rw [e]; simp
  rw [ht,if_neg (by rw [h.1]; decide)]
  have:=Nv c r (pre++[x]) (by rw [e]; simp) h.2
  simpa using this
theorem T6 {c:List AF}(hl:c.length<=32) (h:Jn [] c):V0 c=(0,0):=by
 unfold V0
 have:SC c c 0 = .inl ():=Nv c c [] rfl h
 rw [if_neg (by omega),this]
theorem TJ (k:Int) (am:List UInt8) (la:Bool) (nm:List (List UInt8)) (b:Int):(clz k am la nm b).2.1=am:=by
 unfold clz
 split; · rfl
 split; · rfl
 split; · rfl
 split; · rfl
 split; · rfl
 split <;> rfl
theorem PA (k:Int) (am:List UInt8) (la:Bool) (nm:List (List UInt8)) (b:Int):(clz k am la nm b).2.2.2.1=nm\/(clz k am la nm b).2.2.2.1=[]:=by
 unfold clz
 split; · exact .inl rfl
 split; · exact .inr rfl
 split; · exact .inr rfl
 split; · exact .inl rfl
 split; · exact .inl rfl
 split <;> exact .inr rfl
theorem Tu (pre:List AF) (k:Int) (am:List UInt8) (la:Bool) (nm:List (List UInt8)) (b:Int) (h1:1<=k) (h2:k<=10) (hb:u8 b) (ha:k=1->am=[]) (hn:V2 nm) (hr:am=[]\/G6 pre am=true/\CL am=true):chk pre (clz k am la nm b)=0:=by
 unfold chk
 rw [U7 k am la nm b h1 h2 hb ha hn,if_neg (by decide),TJ]
 have hN:((clz k am la nm b).2.2.2.1.any fun s=>!CL s)=false:=by
  rcases PA k am la nm b with e | e <;> rw [e]
  ·exact hn.2.2.1
  ·rfl
 have hD:QZ (clz k am la nm b).2.2.2.1 (clz k am la nm b).2.2.2.1 0=false:=by
  rcases PA k am la nm b with e | e <;> rw [e]
  ·exact hn.2.2.2.1
  ·rfl
 rw [hN,hD]
 rcases hr with rfl | ⟨h3,h4⟩
 ·simp
 ·simp [h3,h4]
theorem Tv (k:Int) (am:List UInt8) (la:Bool) (nm:List (List UInt8)) (b:Int) (ha:am.length<=40) (hn:V2 nm):Ue (clz k am la nm b):=by
 refine ⟨by rw [TJ]; exact ha,?_,?_⟩
 ·rcases PA k am la nm b with e | e <;> rw [e]
  ·have:=hn.2.1; omega
  ·simp
 ·rcases PA k am la nm b with e | e <;> rw [e]
  ·exact hn.2.2.2.2
  ·simp
theorem VF {a:Int}(h:u8 a):1<=wr .u8 (1 + a.tmod 10)/\wr .u8 (1 + a.tmod 10)<=10:=by
 rw [Int.tmod_eq_emod_of_nonneg h.1]
 have e:wr .u8 (1 + a % 10)=(1 + a % 10) % 256:=rfl
 rw [e]
 omega
def PB (v:Int×Int×Int×Bool×Bool):Prop:=u8 v.1/\u8 v.2.1/\u8 v.2.2.1
/-- What the loop keeps. -/
def SW (c2:List AF) (c3:List UInt8):Prop:=Jn [] c2/\(∀ x ∈ c2,Ue x)/\(c3=[]\/(G6 c2 c3=true/\CL c3=true/\c3.length<=40))
theorem Qs {c2:List AF}{c3:List UInt8}(h:SW c2 c3) (v:Int×Int×Int×Bool×Bool) (hv:PB v) (am:List UInt8) (ham:am=[]\/am=c3) (hk1:wr .u8 (1 + v.1.tmod 10)=1->am=[]) (w:List UInt8) (r:List (List UInt8)) (hw:nms v=w::r) :
  SW (c2++[clz (wr .u8 (1 + v.1.tmod 10)) am v.2.2.2.1 (w::r) v.2.1]) (if wr .u8 (1 + v.1.tmod 10)=1 then w else c3):=by
 obtain ⟨g1,g2,g3⟩:=h
 obtain ⟨k1,k2⟩:=VF hv.1
 obtain ⟨n1,r',n2⟩:=Q7 v hv.2.2
 rw [hw] at n1
 have ha:am=[]\/G6 c2 am=true/\CL am=true:=by
  rcases ham with e | e
  ·exact .inl e
  ·rcases g3 with g3 | ⟨q1,q2,_⟩
   ·exact .inl (e.trans g3)
   ·rw [e]; exact .inr ⟨q1,q2⟩
 have ha40:am.length<=40:=by
  rcases ham with e | e
  ·rw [e]; simp
  ·rcases g3 with g3 | ⟨_,_,q3⟩
   ·rw [e,g3]; simp
   ·rw [e]; exact q3
 refine ⟨(Nu _ _ _).2 ⟨g1,Tu _ _ _ _ _ _ k1 k2 hv.2.1 hk1 n1 ha,trivial⟩,fun x hx=>?_,?_⟩
 ·rcases List.mem_append.1 hx with hx | hx
  ·exact g2 x hx
  ·rw [List.mem_singleton.1 hx]
   exact Tv _ _ _ _ _ ha40 n1
 ·by_cases hk:wr .u8 (1 + v.1.tmod 10)=1
  ·rw [if_pos hk]
   refine .inr ⟨?_,?_,n1.2.2.2.2 w (by simp)⟩
   ·rw [Mb,hk]
    have:G6 [clz 1 am v.2.2.2.1 (w::r) v.2.1] w=true:=by
     unfold G6 clz Rj
     simp
    rw [this]; simp
   ·have:=n1.2.2.1
    simp at this
    exact this.1
  ·rw [if_neg hk]
   rcases g3 with g3 | ⟨q1,q2,q3⟩
   ·exact .inl g3
   ·exact .inr ⟨by rw [Mb,q1]; simp,q2,q3⟩
theorem Q1 (x0:List (Int×Int×Int×Bool×Bool)) (ys:List (Int×Int×Int×Bool×Bool)) (hys:((x0.take (mnI (x0.length:Int) 8).toNat).drop (0:Int).toNat)=ys) (hb:∀ v ∈ ys,PB v) (h8:ys.length<=8):∀ (r pre:List (Int×Int×Int×Bool×Bool)) (c2:List AF) (c3:List UInt8) (f:Nat),ys=pre++r->r.length < f->c2.length=pre.length->SW c2 c3 ->
  ∃ c c3',DI x0 f c2 c3 (pre.length:Int)=some c/\SW c c3'/\c.length=ys.length
 | [],pre,c2,c3,f + 1,e,_,hl,hk=>by
  refine ⟨c2,c3,?_,hk,by rw [hl,e]; simp⟩
  unfold DI
  rw [hys,if_neg (by rw [e]; simp)]
 | v::r,pre,c2,c3,f + 1,e,hf,hl,hk=>by
  have hv:=hb v (by rw [e]; simp)
  have hl2:ys.length=pre.length + r.length + 1:=by rw [e]; simp; omega
  simp only [List.length_cons] at hf
  obtain ⟨p1,p2⟩:=tm4 hv.2.2
  obtain ⟨d1,d2⟩:=XA p1 p2
  obtain ⟨k1,k2⟩:=VF hv.1
  obtain ⟨n1,r',n2⟩:=Q7 v hv.2.2
  have hstep:∃ am,(am=[]\/am=c3)/\(wr .u8 (1 + v.1.tmod 10)=1->am=[])/\((if v.2.2.2.2=true then some (c2,v.1,v.2.1,v.2.2.1,v.2.2.2.1,true,(wr .u8 (1 + (v.1.tmod 10))),([]:List UInt8),false,(0:Int),nms v,((wr .u8 (1 + (v.1.tmod 10)))!=1)) else some (c2,v.1,v.2.1,v.2.2.1,v.2.2.2.1,false,(wr .u8 (1 + (v.1.tmod 10))),([]:List UInt8),false,(0:Int),nms v,false)).bind fun j27=>EH x0 c3 (pre.length:Int) j27)=some (c2,v.1,v.2.1,v.2.2.1,v.2.2.2.1,v.2.2.2.2,(wr .u8 (1 + (v.1.tmod 10))),am,false,(0:Int),nms v):=by
   cases ht:v.2.2.2.2 with
   | false=>exact ⟨[],.inl rfl,fun _=>rfl,rfl⟩
   | true =>
    by_cases h1:wr .u8 (1 + v.1.tmod 10)=1
    ·refine ⟨[],.inl rfl,fun _=>rfl,?_⟩
     rw [if_pos rfl,OS]
     unfold EH
     rw [if_neg (by simp [h1])]
    ·refine ⟨c3,.inr rfl,fun q=>absurd q h1,?_⟩
     rw [if_pos rfl,OS]
     unfold EH
     rw [if_pos (by simpa using h1)]
  obtain ⟨am,ham,hk1,hj⟩:=hstep
  have hm4:FH x0 c3 (pre.length:Int) (c2,v.1,v.2.1,v.2.2.1,v.2.2.2.1,v.2.2.2.2,(wr .u8 (1 + (v.1.tmod 10))),am,false,(0:Int),nms v)=some (c2,(if wr .u8 (1 + v.1.tmod 10)=1 then wd (v.2.2.1.tmod 4) else c3),clz (wr .u8 (1 + v.1.tmod 10)) am v.2.2.2.1 (nms v) v.2.1):=by
   rw [n2]
   exact VP x0 c2 c3 _ _ _ _ _ _ _ am _ _ k1 k2
  have hks:=Qs hk v hv am ham hk1 _ _ n2
  obtain ⟨c,c3',q1,q2,q3⟩:=Q1 x0 ys hys hb h8 r (pre++[v]) _ _ f (by rw [e]; simp) (by omega) (by simp [hl]) hks
  refine ⟨c,c3',?_,q2,q3⟩
  rw [<-q1]
  conv=>lhs; unfold DI
  rw [hys,if_pos (by rw [e]; exact MY pre v r),show idx ys (pre.length:Int)=some v by rw [e,Ga],OS,if_pos d1,if_pos d2,VO x0 c2 c3 _ v hv.2.2,OS]
  rw [<-Option.bind_assoc,hj,OS,hm4,OS]
  dsimp only
  rw [if_pos (GA (by omega) (by omega)),KV pre v r (by rw [<-e]; omega),n2]
theorem UE (x0:List (Int×Int×Int×Bool×Bool)) (hb:∀ v ∈ x0,PB v):∃ c,FP x0=some c/\few c/\Jn [] c/\c.length<=8:=by
 have hm:0<=mnI (x0.length:Int) 8/\mnI (x0.length:Int) 8<=8/\mnI (x0.length:Int) 8<=x0.length:=by
  unfold mnI
  split <;> omega
 have h8:((x0.take (mnI (x0.length:Int) 8).toNat).drop (0:Int).toNat).length<=8:=by
  rw [List.length_drop,List.length_take]; omega
 obtain ⟨c,c3,h1,h2,h3⟩:=Q1 x0 _ rfl (fun v hv=>hb v (List.mem_of_mem_take (List.mem_of_mem_drop hv))) h8 _ [] [] [] 100000 rfl (Nat.lt_of_le_of_lt h8 (by decide)) rfl ⟨trivial,fun x hx=>by simp at hx,.inl rfl⟩
 refine ⟨c,?_,⟨by omega,h2.2.1⟩,h2.1,by omega⟩
 unfold FP
 rw [if_pos (by unfold Cn; simp; omega)]
 have e:DI x0 100000 [] [] 0=some c:=h1
 rw [e]; rfl
/-- What a clause of good form looks like. -/
theorem fmv (k:Int) (am:List UInt8) (la:Bool) (nm:List (List UInt8)) (n:Int) (h:fm (k,am,la,nm,n)=true) :
  (k=1/\am=[]/\nm≠[]/\nm.length<=16/\n=0/\la=false)\/((k=2\/k=3\/k=8\/k=9)/\nm=[]/\n=0/\la=false)\/(k=4/\nm=[]/\1<=n/\n<=2)\/(k=5/\nm=[]/\n=0)\/((k=6\/k=7)/\nm≠[]/\nm.length<=16/\n=0)\/(k=10/\nm=[]/\0<=n/\n<=63/\la=false):=by
 have hk:=G3 h
 have hc:=Wl (k,am,la,nm,n)
 rw [h] at hc
 have hk:k=1\/k=2\/k=3\/k=4\/k=5\/k=6\/k=7\/k=8\/k=9\/k=10:=by
  have h1:1<=k:=hk.1
  have h2:k<=10:=hk.2
  omega
 have len0:(nm.length:Int)<=0->nm=[]:=fun h=>List.length_eq_zero_iff.1 (by omega)
 have fin:∀ (a lo hi:Int) (last:Bool),(if (decide ((nm.length:Int)<=a))=true then if (a==0)=true then if (decide (n≥lo))=true then if (decide (n<=hi))=true then if last=true then some true else some (!la) else some false else some false else if (decide ((nm.length:Int) > 0))=true then if (decide (n≥lo))=true then if (decide (n<=hi))=true then if last=true then some true else some (!la) else some false else some false else some false else some false)=some true ->
   (nm.length:Int)<=a/\(a=0\/nm≠[])/\lo<=n/\n<=hi/\(last=true\/la=false):=fun a lo hi last h=>by
  by_cases h1:(nm.length:Int)<=a
  ·rw [if_pos (decide_eq_true h1)] at h
   have tail:(if (decide (n≥lo))=true then if (decide (n<=hi))=true then if last=true then some true else some (!la) else some false else some false)=some true->lo<=n/\n<=hi/\(last=true\/la=false):=fun h=>by
    by_cases h2:n≥lo
    ·rw [if_pos (decide_eq_true h2)] at h
     by_cases h3:n<=hi
     ·rw [if_pos (decide_eq_true h3)] at h
      refine ⟨h2,h3,?_⟩
      cases last
      ·right; simpa using h
      ·left; rfl
     ·rw [if_neg (by simpa using h3)] at h; cases h
    ·rw [if_neg (by simpa using h2)] at h; cases h
   by_cases h0:a=0
   ·rw [if_pos (by simp [h0])] at h
    exact ⟨h1,.inl h0,tail h⟩
   ·rw [if_neg (by simpa using h0)] at h
    by_cases h4:(nm.length:Int) > 0
    ·rw [if_pos (decide_eq_true h4)] at h
     exact ⟨h1,.inr (fun e=>by rw [e] at h4; simp at h4),tail h⟩
    ·rw [if_neg (by simpa using h4)] at h; cases h
  ·rw [if_neg (by simpa using h1)] at h; cases h
 have hb:∀ (o:Option Bool),(o.bind fun j58=>some j58)=some true->o=some true:=fun o h=>by cases o <;> exact h
 rcases hk with rfl | rfl | rfl | rfl | rfl | rfl | rfl | rfl | rfl | rfl
 ·by_cases ha:am=[]
  ·rw [ha] at hc ⊢
   obtain ⟨a,b,c,d,e⟩:=fin 16 0 0 false (hb _ hc)
   have b:=b.resolve_left (by decide)
   exact .inl ⟨rfl,rfl,b,by omega,by omega,e.resolve_left (by decide)⟩
  ·exfalso
   have:A2 (1,am,la,nm,n)=some false:=by
    unfold A2 EB
    rw [if_pos (by rfl),if_pos (by simp [ha])]
    rfl
   rw [this] at hc
   cases hc
 ·obtain ⟨a,b,c,d,e⟩:=fin 0 0 0 false (hb _ hc)
  exact .inr (.inl ⟨by omega,len0 a,by omega,e.resolve_left (by decide)⟩)
 ·obtain ⟨a,b,c,d,e⟩:=fin 0 0 0 false (hb _ hc)
  exact .inr (.inl ⟨by omega,len0 a,by omega,e.resolve_left (by decide)⟩)
 ·obtain ⟨a,b,c,d,e⟩:=fin 0 1 2 true (hb _ hc)
  exact .inr (.inr (.inl ⟨rfl,len0 a,c,d⟩))
 ·obtain ⟨a,b,c,d,e⟩:=fin 0 0 0 true (hb _ hc)
  exact .inr (.inr (.inr (.inl ⟨rfl,len0 a,by omega⟩)))
 ·obtain ⟨a,b,c,d,e⟩:=fin 16 0 0 true (hb _ hc)
  exact .inr (.inr (.inr (.inr (.inl ⟨by omega,b.resolve_left (by decide),by omega,by omega⟩))))
 ·obtain ⟨a,b,c,d,e⟩:=fin 16 0 0 true (hb _ hc)
  exact .inr (.inr (.inr (.inr (.inl ⟨by omega,b.resolve_left (by decide),by omega,by omega⟩))))
 ·obtain ⟨a,b,c,d,e⟩:=fin 0 0 0 false (hb _ hc)
  exact .inr (.inl ⟨by omega,len0 a,by omega,e.resolve_left (by decide)⟩)
 ·obtain ⟨a,b,c,d,e⟩:=fin 0 0 0 false (hb _ hc)
  exact .inr (.inl ⟨by omega,len0 a,by omega,e.resolve_left (by decide)⟩)
 ·obtain ⟨a,b,c,d,e⟩:=fin 0 0 63 false (hb _ hc)
  exact .inr (.inr (.inr (.inr (.inr ⟨rfl,len0 a,c,d,e.resolve_left (by decide)⟩))))
/-- A clause that is checked. -/
structure Nt (x:AF):Prop where
 fm:fm x=true
 am:x.2.1=[]\/CL x.2.1=true
 nm:∀ s ∈ x.2.2.2.1,CL s=true
theorem Mo {pre:List AF}{x:AF}(h:chk pre x=0):Nt x:=by
 unfold chk at h
 split at h
 ·cases h
 next h1 =>
 split at h
 ·cases h
 next h2 =>
 simp only [not_or,Bool.not_eq_true] at h2
 refine ⟨by simpa using h1,?_,fun s hs=>?_⟩
 ·have:=h2.1
  simp only [Bool.and_eq_false_iff,Bool.not_eq_false',beq_iff_eq] at this
  exact this
 ·have:=h2.2
  rw [List.any_eq_false] at this
  simpa using this s hs
theorem LZ {s:List UInt8}(h:CL s=true):(32:UInt8) ∉ s/\(10:UInt8) ∉ s/\s≠[]/\s.length<=12:=by
 unfold CL at h
 simp only [Bool.and_eq_true,decide_eq_true_eq,Bool.not_eq_true',List.any_eq_false] at h
 obtain ⟨⟨h1,h2⟩,h3⟩:=h
 have no:∀ b:UInt8,b.toNat < 97->b ∉ s:=fun b hb hm=>by
  have:=h3 b hm
  unfold TU at this
  simp only [Bool.or_eq_true,decide_eq_true_eq,not_or] at this
  omega
 exact ⟨no 32 (by decide),no 10 (by decide),fun e=>by rw [e] at h1; simp at h1,h2⟩
theorem Wi (la:Bool):(32:UInt8) ∉ fl la/\(10:UInt8) ∉ fl la/\fl la≠[]:=by cases la <;> decide
/-- The words of a checked clause hold no space and no line feed, and there is no empty one. -/
theorem Tf {x:AF}(h:Nt x):∀ w ∈ Rb x,(32:UInt8) ∉ w/\(10:UInt8) ∉ w/\w≠[]:=by
 have hk:=G3 h.fm
 have wd:=Te hk.1 hk.2
 have tl:∀ w ∈ tlF x,(32:UInt8) ∉ w/\(10:UInt8) ∉ w/\w≠[]:=fun w hw=>by
  unfold tlF at hw
  rcases List.mem_append.1 hw with hw | hw
  ·split at hw
   ·next hh =>
    have:w=M5 x.2.2.2.2:=by simpa using hw
    rw [this]
    obtain ⟨a,b⟩:=Qc h.fm (by simpa using hh)
    have:=M7 (n:=x.2.2.2.2.toNat) (by omega)
    exact ⟨this.2.1,this.2.2.1,this.2.2.2.1⟩
   ·cases hw
  ·rcases List.mem_append.1 hw with hw | hw
   ·split at hw
    ·have:w=fl x.2.2.1:=by simpa using hw
     rw [this]; exact Wi _
    ·cases hw
   ·have:=LZ (h.nm w hw)
    exact ⟨this.1,this.2.1,this.2.2.1⟩
 intro w hw
 unfold Rb at hw
 split at hw
 ·rcases List.mem_cons.1 hw with rfl | hw
  ·exact ⟨wd.2.2.1,wd.2.2.2.1,wd.2.2.2.2⟩
  ·exact tl w hw
 ·next ham =>
  rcases List.mem_cons.1 hw with rfl | hw
  ·decide
  rcases List.mem_cons.1 hw with rfl | hw
  ·have:=LZ (h.am.resolve_left ham)
   exact ⟨this.1,this.2.1,this.2.2.1⟩
  rcases List.mem_cons.1 hw with rfl | hw
  ·exact ⟨wd.2.2.1,wd.2.2.2.1,wd.2.2.2.2⟩
  ·exact tl w hw
theorem U5 {x:AF}(h:fm x=true):clK x.2.1 x.1 (tlF x)=some x:=by
 obtain ⟨k,am,la,nm,n⟩:=x
 rcases fmv k am la nm n h with ⟨rfl,rfl,h1,_,rfl,rfl⟩ | ⟨hk,rfl,rfl,rfl⟩ | ⟨rfl,rfl,h1,h2⟩ | ⟨rfl,rfl,rfl⟩ | ⟨hk,h1,_,rfl⟩ | ⟨rfl,rfl,h1,h2,rfl⟩
 ·show (if nm=[] then none else _)=_
  rw [if_neg h1]; rfl
 ·rcases hk with rfl | rfl | rfl | rfl <;> rfl
 ·obtain ⟨v,rfl⟩:=Int.eq_ofNat_of_zero_le (show 0<=n by omega)
  show (match M6 (M5 ((v:Nat):Int)) with
   | some x=>if Kl (fl la)=true then some ((4:Int),am,fl la==laB,([]:List (List UInt8)),(x:Int)) else none
   | none=>none)=_
  have:M6 (M5 ((v:Nat):Int))=some v:=by unfold M5; rw [Int.toNat_natCast]; exact (M7 (by omega)).1
  rw [this,(IX la).2]
  dsimp only
  rw [if_pos (IX la).1]
 ·show (if Kl (fl la)=true then some ((5:Int),am,fl la==laB,([]:List (List UInt8)),(0:Int)) else none)=_
  rw [if_pos (IX la).1,(IX la).2]
 ·obtain ⟨w,ws,rfl⟩:=List.exists_cons_of_ne_nil h1
  rcases hk with rfl | rfl
  ·show (if Kl (fl la)=true then some ((6:Int),am,fl la==laB,w::ws,(0:Int)) else none)=_
   rw [if_pos (IX la).1,(IX la).2]
  ·show (if Kl (fl la)=true then some ((7:Int),am,fl la==laB,w::ws,(0:Int)) else none)=_
   rw [if_pos (IX la).1,(IX la).2]
 ·obtain ⟨v,rfl⟩:=Int.eq_ofNat_of_zero_le h1
  show (match M6 (M5 ((v:Nat):Int)) with
   | some x=>some ((10:Int),am,false,([]:List (List UInt8)),(x:Int))
   | none=>none)=_
  have:M6 (M5 ((v:Nat):Int))=some v:=by unfold M5; rw [Int.toNat_natCast]; exact (M7 (by omega)).1
  rw [this]
theorem Pk (x:AF):∃ w ws,Rb x=w::ws:=by
 unfold Rb
 split
 ·exact ⟨_,_,rfl⟩
 ·exact ⟨_,_,rfl⟩
theorem Wt {x:AF}(h:Nt x):lnP (lnB x)=some x:=by
 have hw:=Tf h
 have hk:=G3 h.fm
 have wd:=Te hk.1 hk.2
 obtain ⟨w,ws,e⟩:=Pk x
 have hp:pcs 32 (lnB x)=Rb x:=by
  unfold lnB
  rw [e] at hw ⊢
  exact TY ws w fun v hv=>(hw v hv).1
 unfold lnP
 rw [hp,if_neg (fun hm=>(hw [] hm).2.2 rfl)]
 unfold Rb
 by_cases ha:x.2.1=[]
 ·rw [if_pos ha,Kz,if_neg wd.2.1,wd.1,<-ha]
  exact U5 h.fm
 ·rw [if_neg ha,Kz,if_pos rfl]
  show clK x.2.1 (kd (wdB x.1)) (tlF x)=some x
  rw [wd.1]
  exact U5 h.fm
theorem TT {c:UInt8}(hc:c≠32):∀ l:List (List UInt8),(∀ w ∈ l,c ∉ w)->c ∉ lnS l
 | [],_=>by unfold lnS; simp
 | w::r,h=>by
  rw [Is]
  intro hm
  rcases List.mem_cons.1 hm with hm | hm
  ·exact hc hm
  ·rcases List.mem_append.1 hm with hm | hm
   ·exact h w (by simp) hm
   ·exact TT hc r (fun v hv=>h v (List.mem_cons_of_mem _ hv)) hm
theorem VJ {x:AF}(h:Nt x):(10:UInt8) ∉ lnB x:=by
 have hw:=Tf h
 obtain ⟨w,ws,e⟩:=Pk x
 unfold lnB
 rw [e] at hw ⊢
 show (10:UInt8) ∉ w++lnS ws
 intro hm
 rcases List.mem_append.1 hm with hm | hm
 ·exact (hw w (by simp)).2.1 hm
 ·exact TT (by decide) ws (fun v hv=>(hw v (List.mem_cons_of_mem _ hv)).2.1) hm
/-- A line that is read as a clause that is checked is its line. -/
theorem Ws {p:List UInt8}{x:AF}(h:lnP p=some x) (hx:fm x=true):p=lnB x:=by
 unfold lnP at h
 split at h
 ·cases h
 ·next hm =>
  have:=Wc h hm fun hk=>(Qc hx hk).2
  unfold lnB
  rw [<-this,TP]
theorem TW:∀ (c:List AF) (n:Nat) (pre:List AF),Jn pre c->(pre++c).length<=32->P3 (c.map lnB++[[]]) n pre=(pre++c,0,0)
 | [],n,pre,_,_=>by rw [List.append_nil]; rfl
 | x::r,n,pre,h,hl=>by
  obtain ⟨h1,h2⟩:=h
  obtain ⟨q,ws,hq⟩:∃ q ws,r.map lnB++[[]]=q::ws:=List.exists_cons_of_ne_nil (by simp)
  have ih:=TW r (n + 1) (pre++[x]) h2 (by simpa using hl)
  rw [List.map_cons,List.cons_append]
  rw [hq] at ih ⊢
  show (match lnP (lnB x) with
   | none=>([],(n:Int),3)
   | some x=>if chk pre x≠0 then ([],(n:Int),chk pre x) else if pre.length=32 then ([],(n:Int),7) else P3 (q::ws) (n + 1) (pre++[x]))=_
  rw [Wt (Mo h1)]
  dsimp only
  rw [if_neg (fun hh=>hh h1),if_neg (by simp at hl; omega),ih,List.append_assoc]
  rfl
theorem TV:∀ (ls:List (List UInt8)) (n:Nat) (pre out:List AF) (m e:Int),ls≠[]->pre.length<=32->P3 ls n pre=(out,m,e)->(e=0/\m=0/\out.length<=32/\∃ c,out=pre++c/\ls=c.map lnB++[[]]/\Jn pre c)\/(e≠0/\out=[]/\(n:Int)<=m/\m + 1<=n + ls.length)
 | [],_,_,_,_,_,h,_,_=>absurd rfl h
 | [p],n,pre,out,m,e,_,hl,h=>by
  unfold P3 at h
  split at h
  ·next hp =>
   obtain ⟨rfl,rfl,rfl⟩:pre=out/\0=m/\0=e:=by simpa using h
   exact .inl ⟨rfl,rfl,hl,[],by simp,by rw [hp]; rfl,trivial⟩
  ·obtain ⟨rfl,rfl,rfl⟩:[]=out/\(n:Int)=m/\3=e:=by simpa using h
   exact .inr ⟨by decide,rfl,Int.le_refl _,by simp⟩
 | p::q::r,n,pre,out,m,e,_,hl,h=>by
  have h:(match lnP p with
   | none=>([],(n:Int),3)
   | some x=>if chk pre x≠0 then ([],(n:Int),chk pre x) else if pre.length=32 then ([],(n:Int),7) else P3 (q::r) (n + 1) (pre++[x]))=(out,m,e):=h
  have hlen:(p::q::r).length=(q::r).length + 1:=rfl
  cases hx:lnP p with
  | none =>
   rw [hx] at h
   obtain ⟨rfl,rfl,rfl⟩:[]=out/\(n:Int)=m/\3=e:=by simpa using h
   exact .inr ⟨by decide,rfl,Int.le_refl _,by simp only [List.length_cons]; omega⟩
  | some x =>
   rw [hx] at h
   dsimp only at h
   by_cases hc:chk pre x=0
   ·rw [if_neg (fun hh=>hh hc)] at h
    by_cases h32:pre.length=32
    ·rw [if_pos h32] at h
     obtain ⟨rfl,rfl,rfl⟩:[]=out/\(n:Int)=m/\7=e:=by simpa using h
     exact .inr ⟨by decide,rfl,Int.le_refl _,by simp only [List.length_cons]; omega⟩
    ·rw [if_neg h32] at h
     rcases TV (q::r) (n + 1) (pre++[x]) out m e (by simp) (by simp; omega) h with ⟨h1,h2,h3,c,h4,h5,h6⟩ | ⟨h1,h2,h3,h4⟩
     ·refine .inl ⟨h1,h2,h3,x::c,by rw [h4]; simp,?_,hc,h6⟩
      rw [List.map_cons,List.cons_append,<-h5,<-Ws hx (Mo hc).fm]
     ·exact .inr ⟨h1,h2,by omega,by rw [hlen]; omega⟩
   ·rw [if_pos hc] at h
    obtain ⟨rfl,rfl,rfl⟩:[]=out/\(n:Int)=m/\chk pre x=e:=by simpa using h
    exact .inr ⟨hc,rfl,Int.le_refl _,by simp only [List.length_cons]; omega⟩
theorem LR:∀ (c pre:List AF),Jn pre c->∀ x ∈ c,Nt x
 | [],_,_,_,h=>by cases h
 | y::r,pre,h,x,hx=>by
  rcases List.mem_cons.1 hx with rfl | hx
  ·exact Mo h.1
  ·exact LR r _ h.2 x hx
theorem PO {x:AF}(h:Nt x):Ue x/\x.2.1.length<=12/\x.2.2.2.1.length<=16:=by
 have hn:x.2.2.2.1.length<=16:=by
  obtain ⟨k,am,la,nm,n⟩:=x
  rcases fmv k am la nm n h.fm with ⟨_,_,_,h1,_⟩ | ⟨_,h1,_⟩ | ⟨_,h1,_⟩ | ⟨_,h1,_⟩ | ⟨_,_,h1,_⟩ | ⟨_,h1,_⟩
  ·exact h1
  ·show nm.length<=16; rw [h1]; simp
  ·show nm.length<=16; rw [h1]; simp
  ·show nm.length<=16; rw [h1]; simp
  ·exact h1
  ·show nm.length<=16; rw [h1]; simp
 have ha:x.2.1.length<=12:=by
  rcases h.am with h1 | h1
  ·rw [h1]; simp
  ·exact (LZ h1).2.2.2
 exact ⟨⟨by omega,by omega,fun s hs=>by have:=(LZ (h.nm s hs)).2.2.2; omega⟩,ha,hn⟩
theorem SU {x:AF}(h:Nt x):(lnF x).length<=260:=by
 obtain ⟨hf,ha,hn⟩:=PO h
 have hk:=G3 h.fm
 have h2:=(NQ hk.1 hk.2).2.2.2
 have h3:=My hf h.fm
 have h4:=Of (x:=x)
 have h5:=IV (fun s=>[32]++s) 13 x.2.2.2.1 fun s hs=>by
  have:=(LZ (h.nm s hs)).2.2.2
  simp; omega
 have h6:(lnS x.2.2.2.1).length<=208:=by unfold lnS; omega
 have h1:(lnA x).length<=19:=by
  unfold lnA
  split
  ·simp; omega
  ·simp
 unfold lnF
 simp only [List.length_append,List.length_cons,List.length_nil]
 omega
theorem On:∀ c:List AF,(∀ x ∈ c,Nt x)->pcs 10 (txF c)=c.map lnB++[[]]
 | [],_=>rfl
 | x::r,h=>by
  have e:txF (x::r)=lnB x++10::txF r:=by
   show lnF x++txF r=_
   rw [VK,List.append_assoc]; rfl
  rw [e,NB 10 _ (VJ (h x (by simp))),On r fun y hy=>h y (List.mem_cons_of_mem _ hy)]
  rfl
/-- Lines one below the other. -/
def jl:List (List UInt8)->List UInt8
 | []=>[]
 | [w]=>w
 | w::v::r=>w++10::jl (v::r)
theorem TO:∀ s:List UInt8,jl (pcs 10 s)=s
 | []=>rfl
 | b::r=>by
  have ih:=TO r
  unfold pcs
  obtain ⟨w,ws,hw⟩:=K9 10 r
  rw [hw] at ih
  split
  ·next h =>
   rw [hw]
   show []++10::jl (w::ws)=b::r
   rw [ih,h]; rfl
  ·rw [hw]
   show jl ((b::w)::ws)=b::r
   cases ws with
   | nil=>have ih:w=r:=ih; rw [ih]; rfl
   | cons v vs =>
    have ih:w++10::jl (v::vs)=r:=ih
    show (b::w)++10::jl (v::vs)=b::r
    rw [List.cons_append,ih]
theorem TN:∀ c:List AF,jl (c.map lnB++[[]])=txF c
 | []=>rfl
 | x::r=>by
  obtain ⟨q,ws,hq⟩:∃ q ws,r.map lnB++[[]]=q::ws:=List.exists_cons_of_ne_nil (by simp)
  have ih:=TN r
  rw [List.map_cons,List.cons_append]
  rw [hq] at ih ⊢
  show lnB x++10::jl (q::ws)=lnF x++txF r
  rw [ih,VK,List.append_assoc]; rfl
theorem PN (c:List AF) (h:Jn [] c) (hl:c.length<=32):few c/\DE c=some (txF c):=by
 have hg:=LR c [] h
 have hf:few c:=⟨by omega,fun x hx=>(PO (hg x hx)).1⟩
 exact ⟨hf,SQ hf (fun x hx=>(hg x hx).fm) (by rw [Tt c hf,T6 hl h])⟩
theorem QW (s:List UInt8):Du s [10]=some (((pcs 10 s).length:Int) - 1):=by
 rw [Le]
 show some (((s.count 10:Nat)):Int)=_
 congr 1
 omega
theorem RO (x0:List (Int×Int×Int×Bool×Bool)) (hb:∀ v ∈ x0,PB v) (x1:List UInt8):Cj x0 x1=some true:=by
 obtain ⟨c,m1,m2,m3,m4⟩:=UE x0 hb
 have hg:=LR c [] m3
 obtain ⟨hf,hF⟩:=PN c m3 (by omega)
 have hlen:(txF c).length<=3000:=by
  have:=IV lnF 260 c fun x hx=>SU (hg x hx)
  unfold txF
  omega
 have hP:EA (txF c)=some (c,0,0):=by
  rw [QB _ hlen,On c hg]
  exact congrArg some (TW c 0 [] m3 (by simp; omega))
 have hC:Du (txF c) [10]=some (c.length:Int):=by
  rw [QW,On c hg]
  congr 1
  simp
 unfold Cj
 rw [m1,OS,hF,OS,hP,OS,UP c c hf,hC]
 have e:((if ((c,(0:Int),(0:Int)).2.2 != 0)=true then some true else if ((c,(0:Int),(0:Int)).2.1 != 0)=true then some true else (some (decide (c=c))).bind fun v4=>if (!v4)=true then some true else (some (c.length:Int)).bind fun v5=>some (v5 != (c.length:Int))):Option Bool)=some false:=by simp
 rw [e,OS,if_neg (by decide)]
 by_cases h3:x1.length<=3000
 ·rw [if_neg (by rw [decide_eq_true_eq]; omega),QB x1 h3,OS]
  obtain ⟨⟨out,m,e⟩,hq⟩:∃ q,P3 (pcs 10 x1) 0 []=q:=⟨_,rfl⟩
  rw [hq]
  dsimp only
  rcases TV (pcs 10 x1) 0 [] out m e (RG 10 x1) (by simp) hq with ⟨rfl,rfl,h5,d,h6,h7,h8⟩ | ⟨h5,rfl,h6,h7⟩
  ·have hd:out=d:=by simpa using h6
   subst hd
   obtain ⟨_,hFd⟩:=PN out h8 h5
   have hx:txF out=x1:=by rw [<-TN,<-h7,TO]
   rw [if_neg (by decide),hFd,OS,hx]
   simp only [beq_self_eq_true,if_true]
   rfl
  ·rw [if_pos (by simpa using h5),if_pos (by rfl),if_pos (decide_eq_true (by omega)),QW,OS,if_pos (decide_eq_true (by omega))]
   rfl
 ·rw [if_pos (decide_eq_true (by omega))]
  rfl
end Go.Proofs.YtdjhmdbpcfnpgaaGreatDoor
