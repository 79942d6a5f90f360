/- Lemmas for the proof. -/
import Derived.Test.YtdjhmdbpcfnpgaaGreatDoorCourtParsesM1
import Derived.Test.YtdjhmdbpcfnpgaaGreatDoorCourtParsesM2
import Derived.Test.YtdjhmdbpcfnpgaaGreatDoorCourtParsesM3
import Derived.Test.YtdjhmdbpcfnpgaaGreatDoorCourtParsesM4
import Derived.Test.YtdjhmdbpcfnpgaaGreatDoorCourtParsesM5
set_option maxHeartbeats 4000000
set_option maxRecDepth 100000
namespace Go.Proofs.YtdjhmdbpcfnpgaaGreatDoor
open Go.RowKit
/- strings.genSplit -/
noncomputable def Cw:Code:=Bc Tryz.f92
def CO (x0:(List UInt8)) (x1:(List UInt8)) (x3:Int):Option ((Int)) :=
 if (decide (x3 < 0))=true then
 (HY x0 x1).bind fun v5 =>
 some (wr .i64 (v5 + 1))
 else
 some x3
def Be (x0:(List UInt8)) (x1:(List UInt8)) (x2:Int) (r7:Int):Nat->(List UInt8)->Int->(List (List UInt8))->Option (((List UInt8)×Int×(List (List UInt8))))
 | 0,_,_,_=>none
 | f + 1,c15,c16,c17 =>
  if (decide (c16 < (wr .i64 ((mnI r7 (wr .i64 ((x0.length:Int) + 1))) - 1))))=true then
  (CF c15 x1).bind fun v19 =>
  if (decide (v19 < 0))=true then
  some (c15,c16,c17)
  else
  if (By 0 (wr .i64 (v19 + x2)) c15.length)=true then
  (idx c17 c16).bind fun v25 =>
  if (By (wr .i64 (v19 + (x1.length:Int))) (c15.length:Int) c15.length)=true then
  Be x0 x1 x2 r7 f ((c15.take (c15.length:Int).toNat).drop (wr .i64 (v19 + (x1.length:Int))).toNat) (wr .i64 (c16 + 1)) (c17.set c16.toNat ((c15.take (wr .i64 (v19 + x2)).toNat).drop (0:Int).toNat))
  else none
  else none
  else
  some (c15,c16,c17)
def Dd (x0:(List UInt8)) (x1:(List UInt8)) (x2:Int) (x3:Int):Option ((List (List UInt8))) :=
 if (x3==0)=true then
 some ([]:(List (List UInt8)))
 else
 if (x1==[])=true then
 none
 else
 (CO x0 x1 x3).bind fun r7 =>
 if (TW 16 (mnI r7 (wr .i64 ((x0.length:Int) + 1))))=true then
 (Be x0 x1 x2 r7 100000 x0 0 (List.replicate (mnI r7 (wr .i64 ((x0.length:Int) + 1))).toNat ([]:(List UInt8)))).bind fun r30 =>
 (idx r30.2.2 r30.2.1).bind fun v33 =>
 if (TU (wr .i64 (r30.2.1 + 1)) (r30.2.2.set r30.2.1.toNat r30.1).length)=true then
 some ((r30.2.2.set r30.2.1.toNat r30.1).take (wr .i64 (r30.2.1 + 1)).toNat)
 else none
 else none
theorem G7 {L:List Asn}{hp:Hp}(x0:(List UInt8)) (x1:(List UInt8)) (x3:Int) (x2:Int) (r:(Int)) (h:CO x0 x1 x3=some r) (hT:T hp (L)):SemY E0 ⟨none,false⟩ (pc Cw [1,1,1,0,1]) ⟨Fr 66 [(0,.st x0),(1,.st x1),(2,.j x2),(3,.j x3),(20,.b (decide (x3 < 0)))],hp⟩ (fun e s=>e = .normal/\∃ s2,(∃ (h':Hp),T h' (L)/\s2=⟨Fr 66 [(0,.st x0),(1,.st x1),(2,.j x2),(3,.j r)],h'⟩)/\WkY E0 s s2):=by
 unfold CO at h;refine DA (b:=(decide (x3 < 0))) (by kernel_rfl) (fun hb4=>?_) (fun hb4=>?_)
 ·rw [if_pos hb4] at h
  refine SemY.regionL ?_;refine AG (n:=66) AD 2 [(0,.st x0),(1,.st x1),(2,.j x2),(21,.st x0),(22,.st x1)] hp (by kernel_rfl) ?_;obtain ⟨v5,hv5,h⟩:=OB h;refine Gt (v:=v5) (caps:=[]) (xs:=[.st x0,.st x1]) (u:=(x0,x1,())) rfl rfl Lc rfl (AB rfl) (by kernel_rfl) (by kernel_rfl) (AO (AZ (c:=cdS) (v:=x0)) (AO (AZ (c:=cdS) (v:=x1)) SeesD.nil)) (.inl (by kernel_rfl)) hv5 ?_;refine AG (n:=66) AD 2 [(0,.st x0),(1,.st x1),(2,.j x2),(3,.j (wr .i64 (v5 + 1)))] hp (by kernel_rfl) ?_;refine AH rfl ?_;have hq:=OI h; subst hq;exact ⟨rfl,_,⟨hp,hT,rfl⟩,WkY.f1⟩
 ·rw [BH hb4] at h
  refine SemY.skip ?_;have hq:=OI h; subst hq;exact ⟨rfl,_,⟨hp,hT,rfl⟩,WkY.f1⟩
theorem G8 {L:List Asn}(x0:(List UInt8)) (x1:(List UInt8)) (x2:Int) (r7:Int) (e14:AV):∀ (f:Nat) (c15:(List UInt8)) (c16:Int) (c17:(List (List UInt8))) (r:((List UInt8)×Int×(List (List UInt8)))),Be x0 x1 x2 r7 f c15 c16 c17=some r->∀ (hp:Hp),T hp ((own_ (ocL 1 9 (ocV cdS)) e14 c17)::L)->SemYN E0 ⟨none,false⟩ (pc Cw [1,1,1,1,1,1,1,1,0,0,0]) f ⟨Fr 66 [(0,.st c15),(1,.st x1),(2,.j x2),(3,.j (wr .i64 ((mnI r7 (wr .i64 ((x0.length:Int) + 1))) - 1))),(9,e14),(10,.j c16)],hp⟩ (fun e s=>e=(.exit 0)/\∃ s2,(∃ (h':Hp),T h' ((own_ (ocL 1 9 (ocV cdS)) e14 r.2.2)::L)/\s2=⟨Fr 66 [(0,.st r.1),(9,e14),(10,.j r.2.1)],h'⟩)/\WkY E0 s s2):=by
 intro f;induction f with
 | zero=>intro c15 c16 c17 r h; cases h
 | succ f ih0 =>
  intro c15 c16 c17 r h  hp hT;unfold Be at h;refine Ju ?_;refine Aw ?_;refine Aw ?_;refine SemY.regionL ?_
  let p1:Nat×AV:=(36,.b (decide (c16 < (wr .i64 ((mnI r7 (wr .i64 ((x0.length:Int) + 1))) - 1)))))
  let p2:Nat×AV:=(10,.j c16)
  let p3:Nat×AV:=(3,.j (wr .i64 ((mnI r7 (wr .i64 ((x0.length:Int) + 1))) - 1)))
  let p4:Nat×AV:=(2,.j x2)
  refine AG (n:=66) AD 3 [(0,.st c15),(1,.st x1),p4,p3,(9,e14),p2,p1] hp (by kernel_rfl) ?_;refine AH rfl (SemY.fr (l':=[(0,.st c15),(1,.st x1),p4,p3,(9,e14),p2,p1]) (by kernel_rfl) ?_);refine DA (b:=(decide (c16 < (wr .i64 ((mnI r7 (wr .i64 ((x0.length:Int) + 1))) - 1))))) (by kernel_rfl) (fun hb18=>?_) (fun hb18=>?_)
  ·rw [if_pos hb18] at h
   refine SemY.skip ?_;refine Fe ?_;refine Aw ?_;refine SemY.regionL ?_;refine AG (n:=66) AD 2 [(0,.st c15),(1,.st x1),p4,p3,(9,e14),p2,(37,.st c15),(38,.st x1)] hp (by kernel_rfl) ?_;obtain ⟨v19,hv19,h⟩:=OB h;refine Gt (v:=v19) (caps:=[]) (xs:=[.st c15,.st x1]) (u:=(c15,x1,())) rfl rfl Le rfl (AB rfl) (by kernel_rfl) (by kernel_rfl) (AO (AZ (c:=cdS) (v:=c15)) (AO (AZ (c:=cdS) (v:=x1)) SeesD.nil)) (.inl (by kernel_rfl)) hv19 ?_
   let p5:Nat×AV:=(11,.j v19)
   refine AG (n:=66) AD 1 [(0,.st c15),(1,.st x1),p4,p3,(9,e14),p2,p5] hp (by kernel_rfl) ?_;refine AH rfl (SemY.fr (l':=[(0,.st c15),(1,.st x1),p4,p3,(9,e14),p2,p5]) (by kernel_rfl) ?_);refine Aw ?_;refine Aw ?_;refine SemY.regionL ?_
   let p6:Nat×AV:=(41,.b (decide (v19 < 0)))
   refine AG (n:=66) AD 2 [(0,.st c15),(1,.st x1),p4,p3,(9,e14),p2,p5,p6] hp (by kernel_rfl) ?_;refine AH rfl (SemY.fr (l':=[(0,.st c15),(1,.st x1),p4,p3,(9,e14),p2,p5,p6]) (by kernel_rfl) ?_);refine DA (b:=(decide (v19 < 0))) (by kernel_rfl) (fun hb20=>?_) (fun hb20=>?_)
   ·rw [if_pos hb20] at h
    refine SemY.exit ?_;have hq:=OI h; subst hq;exact ⟨rfl,_,⟨hp,hT,rfl⟩,WkY.f1⟩
   ·rw [BH hb20] at h
    refine SemY.skip ?_;refine Aw ?_;refine SemY.regionL ?_;refine AG (n:=66) AD 6 [(0,.st c15),(1,.st x1),p4,p3,(9,e14),p2,p5,(42,e14),(43,.j c16),(44,.st c15),(47,.j (wr .i64 (v19 + x2)))] hp (by kernel_rfl) ?_;by_cases hk24:(By 0 (wr .i64 (v19 + x2)) c15.length)=true
    case neg=>rw [if_neg hk24] at h; cases h
    rw [if_pos hk24] at h;refine AL AD 0 rfl (BY (AB rfl) rfl (Di (a:= .st c15) (l:=none) (u:=(some (.j (wr .i64 (v19 + x2))))) (m:=none) (by kernel_rfl) (by kernel_rfl) (by kernel_rfl) rfl (Ge (bs:=c15) (lo:=0) (hi:=(wr .i64 (v19 + x2))) (by kernel_rfl) rfl (Ee (L5 hk24)) hk24))) ?_;obtain ⟨v25,hv25,h⟩:=OB h;refine AL AD 0 rfl (BY (AB rfl) rfl (Ad (a:=e14) (b:= .j c16) (by kernel_rfl) (by kernel_rfl) (Vh (bytes:=16) hT (by kernel_rfl) hv25))) ?_;obtain ⟨hp26,hs27,hT280⟩:=Qi (P:=Tryz.prog) (ty:=9) (y:= .st ((c15.take (wr .i64 (v19 + x2)).toNat).drop (0:Int).toNat)) (v':=((c15.take (wr .i64 (v19 + x2)).toNat).drop (0:Int).toNat)) hT (L7 hv25).2 (by kernel_rfl) (by kernel_rfl) (by kernel_rfl)
    have hT28:T hp26 ((own_ (ocL 1 9 (ocV cdS)) e14 (c17.set c16.toNat ((c15.take (wr .i64 (v19 + x2)).toNat).drop (0:Int).toNat)))::L):=hT280
    refine RunL.store AD (y:=eAt e14 c16.toNat) (z:= .st ((c15.take (wr .i64 (v19 + x2)).toNat).drop (0:Int).toNat)) rfl (AB rfl) (by kernel_rfl) (by kernel_rfl) hs27 ?_;refine AH rfl (SemY.fr (l':=[(0,.st c15),(1,.st x1),p4,p3,(9,e14),p2,p5]) (by kernel_rfl) ?_);refine Aw ?_;refine SemY.regionL ?_;refine AG (n:=66) AD 5 [(1,.st x1),p4,p3,(9,e14),p2,(50,.st c15),(54,.j (wr .i64 (v19 + (x1.length:Int))))] hp26 (by kernel_rfl) ?_;by_cases hk29:(By (wr .i64 (v19 + (x1.length:Int))) (c15.length:Int) c15.length)=true
    case neg=>rw [if_neg hk29] at h; cases h
    rw [if_pos hk29] at h;refine AL AD 0 rfl (BY (AB rfl) rfl (Di (a:= .st c15) (l:=(some (.j (wr .i64 (v19 + (x1.length:Int)))))) (u:=none) (m:=none) (by kernel_rfl) (by kernel_rfl) (by kernel_rfl) rfl (Ge (bs:=c15) (lo:=(wr .i64 (v19 + (x1.length:Int)))) (hi:=(c15.length:Int)) (by kernel_rfl) (Ee (Hm hk29)) rfl hk29))) ?_
    let p7:Nat×AV:=(0,.st ((c15.take (c15.length:Int).toNat).drop (wr .i64 (v19 + (x1.length:Int))).toNat))
    refine AG (n:=66) AD 1 [p7,(1,.st x1),p4,p3,(9,e14),p2] hp26 (by kernel_rfl) ?_;refine AH rfl (SemY.fr (l':=[p7,(1,.st x1),p4,p3,(9,e14),p2]) (by kernel_rfl) ?_);refine SemY.regionL ?_;refine AG (n:=66) AD 3 [p7,(1,.st x1),p4,p3,(9,e14),(10,.j (wr .i64 (c16 + 1)))] hp26 (by kernel_rfl) ?_;refine AH rfl ?_;exact HC WkY.f1 (ih0 ((c15.take (c15.length:Int).toNat).drop (wr .i64 (v19 + (x1.length:Int))).toNat) (wr .i64 (c16 + 1)) (c17.set c16.toNat ((c15.take (wr .i64 (v19 + x2)).toNat).drop (0:Int).toNat)) _ h  hp26 hT28)
  ·rw [BH hb18] at h
   refine SemY.exit ?_;have hq:=OI h; subst hq;exact ⟨rfl,_,⟨hp,hT,rfl⟩,WkY.f1⟩
theorem Ht {L:List Asn}{hp:Hp}(x0:(List UInt8)) (x1:(List UInt8)) (x2:Int) (x3:Int) (r:(List (List UInt8))) (h:Dd x0 x1 x2 x3=some r) (hT:T hp (L)):SemY E0 ⟨none,false⟩ Cw ⟨Fr 66 (BF 0 [.st x0,.st x1,.j x2,.j x3]),hp⟩ fun x s'=>(x = .normal\/x = .ret)/\∃ ys,Dk E0.P s'.fr s'.hp Tryz.f92.results.toList=some ys/\(fun v h'=>∃ (z0:AV),v=z0/\T h' ((own_ (ocL 1 9 (ocV cdS)) z0 r)::L)) (EB ys) s'.hp:=by
 unfold Dd at h
 let p1:Nat×AV:=(3,.j x3)
 let p2:Nat×AV:=(2,.j x2)
 refine JD (Ku (s1:=⟨Fr 66 [(0,.st x0),(1,.st x1),p2,p1],hp⟩) WkY.f1 ?_);refine Aw ?_;refine SemY.regionL ?_;refine AG (n:=66) AD 1 [(0,.st x0),(1,.st x1),p2,p1] hp (by kernel_rfl) ?_;refine AH rfl (SemY.fr (l':=[(0,.st x0),(1,.st x1),p2,p1]) (by kernel_rfl) ?_);refine Aw ?_;refine Aw ?_;refine SemY.regionL ?_;refine AG (n:=66) AD 2 [(0,.st x0),(1,.st x1),p2,p1,(13,.b (x3==0))] hp (by kernel_rfl) ?_;refine AH rfl (SemY.fr (l':=[(0,.st x0),(1,.st x1),p2,p1,(13,.b (x3==0))]) (by kernel_rfl) ?_);refine DA (b:=(x3==0)) (by kernel_rfl) (fun hb1=>?_) (fun hb1=>?_)
 ·rw [if_pos hb1] at h
  refine Aw ?_;refine SemY.regionL ?_;refine AG (n:=66) AD 1 [(8,.e0)] hp (by kernel_rfl) ?_;refine AH rfl (SemY.fr (l':=[(8,.e0)]) (by kernel_rfl) ?_);refine SemY.ret ?_;have hq:=OI h; subst hq
  have hT2:T hp ((own_ (ocL 1 9 (ocV cdS)) .e0 ([]:(List (List UInt8))))::L):=(T.e0 (o:=(ocV cdS)) hT)
  exact ⟨⟨Fr 66 [(8,.e0)],hp⟩,WkY.f1,.inr rfl,[.e0],(by kernel_rfl),⟨.e0,rfl,hT2⟩⟩
 ·rw [BH hb1] at h
  refine SemY.skip ?_;refine Aw ?_;refine Aw ?_;refine SemY.regionL ?_;refine AG (n:=66) AD 2 [(0,.st x0),(1,.st x1),p2,p1,(15,.b (x1==[]))] hp (by kernel_rfl) ?_;refine AH rfl (SemY.fr (l':=[(0,.st x0),(1,.st x1),p2,p1,(15,.b (x1==[]))]) (by kernel_rfl) ?_);refine DA (b:=(x1==[])) (by kernel_rfl) (fun hb3=>?_) (fun hb3=>?_)
  ·rw [if_pos hb3] at h
   refine Aw ?_;cases h
  ·rw [BH hb3] at h
   refine SemY.skip ?_;refine Aw ?_;refine Aw ?_;refine SemY.regionL ?_;refine AG (n:=66) AD 2 [(0,.st x0),(1,.st x1),p2,p1,(20,.b (decide (x3 < 0)))] hp (by kernel_rfl) ?_;refine AH rfl (SemY.fr (l':=[(0,.st x0),(1,.st x1),p2,p1,(20,.b (decide (x3 < 0)))]) (by kernel_rfl) ?_);obtain ⟨r7,hr7,h⟩:=OB h;refine JC (G7 x0 x1 x3 x2 _ hr7 hT) ?_;rintro _ ⟨hp8,hT9,rfl⟩;refine Aw ?_;refine SemY.regionL ?_
   let p3:Nat×AV:=(3,.j (mnI r7 (wr .i64 ((x0.length:Int) + 1))))
   refine AG (n:=66) AD 6 [(0,.st x0),(1,.st x1),p2,p3] hp8 (by kernel_rfl) ?_;refine AH rfl (SemY.fr (l':=[(0,.st x0),(1,.st x1),p2,p3]) (by kernel_rfl) ?_);refine Aw ?_;refine SemY.regionL ?_;refine AG (n:=66) AD 1 [(0,.st x0),(1,.st x1),p2,p3,(30,.j (mnI r7 (wr .i64 ((x0.length:Int) + 1))))] hp8 (by kernel_rfl) ?_;by_cases hk10:(TW 16 (mnI r7 (wr .i64 ((x0.length:Int) + 1))))=true
   case neg=>rw [if_neg hk10] at h; cases h
   rw [if_pos hk10] at h;obtain ⟨e14,hp11,hb12,hT130⟩:=QR (P:=Tryz.prog) (o:=(ocV cdS)) (k:=1) (t:=9) (ty:=45) (bytes:=16) (kn:= .i64) (kc:= .i64) (m:=(mnI r7 (wr .i64 ((x0.length:Int) + 1)))) (x0:=[]) hT9 (fun _=>⟨rfl,rfl⟩) (by kernel_rfl) (by kernel_rfl) hk10
   have hT13:T hp11 ((own_ (ocL 1 9 (ocV cdS)) e14 (List.replicate (mnI r7 (wr .i64 ((x0.length:Int) + 1))).toNat ([]:(List UInt8))))::L):=hT130
   refine AL AD 0 rfl (Qw (AB rfl) rfl (by kernel_rfl) (UB (x:= .j (mnI r7 (wr .i64 ((x0.length:Int) + 1)))) (y:= .j (mnI r7 (wr .i64 ((x0.length:Int) + 1)))) (by kernel_rfl) (by kernel_rfl) hb12)) ?_;refine AG (n:=66) AD 1 [(0,.st x0),(1,.st x1),p2,p3,(9,e14)] hp11 (by kernel_rfl) ?_;refine AH rfl (SemY.fr (l':=[(0,.st x0),(1,.st x1),p2,p3,(9,e14)]) (by kernel_rfl) ?_);refine Aw ?_;refine SemY.regionL ?_
   let p4:Nat×AV:=(3,.j (wr .i64 ((mnI r7 (wr .i64 ((x0.length:Int) + 1))) - 1)))
   refine AG (n:=66) AD 3 [(0,.st x0),(1,.st x1),p2,p4,(9,e14)] hp11 (by kernel_rfl) ?_;refine AH rfl (SemY.fr (l':=[(0,.st x0),(1,.st x1),p2,p4,(9,e14)]) (by kernel_rfl) ?_);refine Aw ?_;refine SemY.regionL ?_;refine AG (n:=66) AD 1 [(0,.st x0),(1,.st x1),p2,p4,(9,e14),(10,.j 0)] hp11 (by kernel_rfl) ?_;refine AH rfl (SemY.fr (l':=[(0,.st x0),(1,.st x1),p2,p4,(9,e14),(10,.j 0)]) (by kernel_rfl) ?_);refine Aw ?_;refine Fe ?_;refine SemY.loop (n:=100000) ?_;obtain ⟨r30,hr30,h⟩:=OB h;refine IU (HC WkY.f1 (G8 x0 x1 x2 r7 e14 _ x0 0 (List.replicate (mnI r7 (wr .i64 ((x0.length:Int) + 1))).toNat ([]:(List UInt8))) _ hr30  hp11 hT13)) ?_;rintro _ ⟨hp31,hT32,rfl⟩;refine Aw ?_;refine SemY.regionL ?_;refine AG (n:=66) AD 3 [(9,e14),(10,.j r30.2.1),(58,e14),(59,.j r30.2.1),(60,.st r30.1)] hp31 (by kernel_rfl) ?_;obtain ⟨v33,hv33,h⟩:=OB h;refine AL AD 0 rfl (BY (AB rfl) rfl (Ad (a:=e14) (b:= .j r30.2.1) (by kernel_rfl) (by kernel_rfl) (Vh (bytes:=16) hT32 (by kernel_rfl) hv33))) ?_;obtain ⟨hp34,hs35,hT360⟩:=Qi (P:=Tryz.prog) (ty:=9) (y:= .st r30.1) (v':=r30.1) hT32 (L7 hv33).2 (by kernel_rfl) (by kernel_rfl) (by kernel_rfl)
   have hT36:T hp34 ((own_ (ocL 1 9 (ocV cdS)) e14 (r30.2.2.set r30.2.1.toNat r30.1))::L):=hT360
   refine RunL.store AD (y:=eAt e14 r30.2.1.toNat) (z:= .st r30.1) rfl (AB rfl) (by kernel_rfl) (by kernel_rfl) hs35 ?_;refine AH rfl (SemY.fr (l':=[(9,e14),(10,.j r30.2.1)]) (by kernel_rfl) ?_);refine Aw ?_;refine SemY.regionL ?_;refine AG (n:=66) AD 3 [(62,e14),(64,.j (wr .i64 (r30.2.1 + 1)))] hp34 (by kernel_rfl) ?_;by_cases hk37:(TU (wr .i64 (r30.2.1 + 1)) (r30.2.2.set r30.2.1.toNat r30.1).length)=true
   case neg=>rw [if_neg hk37] at h; cases h
   rw [if_pos hk37] at h;refine Pm (ki:= .i64) (i:=(wr .i64 (r30.2.1 + 1))) AD hT36 hk37 rfl (AB rfl) (by kernel_rfl) (by kernel_rfl) (by kernel_rfl) (by kernel_rfl) ?_;intro e38 hp39 hT400
   have hT40:T hp39 ((own_ (ocL 1 9 (ocV cdS)) e38 ((r30.2.2.set r30.2.1.toNat r30.1).take (wr .i64 (r30.2.1 + 1)).toNat))::L):=hT400
   refine AG (n:=66) AD 1 [(8,e38)] hp39 (by kernel_rfl) ?_;refine AH rfl (SemY.fr (l':=[(8,e38)]) (by kernel_rfl) ?_);refine SemY.ret ?_;have hq:=OI h; subst hq;exact ⟨⟨Fr 66 [(8,e38)],hp39⟩,WkY.f1,.inr rfl,[e38],(by kernel_rfl),⟨e38,rfl,hT40⟩⟩
/- strings.Split -/
noncomputable def GH:Code:=Bc Tryz.f65
def Dl (x0:(List UInt8)) (x1:(List UInt8)):Option ((List (List UInt8))) :=
 (Dd x0 x1 0 (-1)).bind fun v1 =>
 some v1
theorem I6 {L:List Asn}{hp:Hp}(x0:(List UInt8)) (x1:(List UInt8)) (r:(List (List UInt8))) (h:Dl x0 x1=some r) (hT:T hp (L)):SemY E0 ⟨none,false⟩ GH ⟨Fr 8 (BF 0 [.st x0,.st x1]),hp⟩ fun x s'=>(x = .normal\/x = .ret)/\∃ ys,Dk E0.P s'.fr s'.hp Tryz.f65.results.toList=some ys/\(fun v h'=>∃ (z0:AV),v=z0/\T h' ((own_ (ocL 1 9 (ocV cdS)) z0 r)::L)) (EB ys) s'.hp:=by
 unfold Dl at h;refine JD (Ku (s1:=⟨Fr 8 [(0,.st x0),(1,.st x1)],hp⟩) WkY.f1 ?_);refine Aw ?_;refine SemY.regionL ?_;refine AG (n:=8) AD 1 [(0,.st x0),(1,.st x1)] hp (by kernel_rfl) ?_;refine AH rfl (SemY.fr (l':=[(0,.st x0),(1,.st x1)]) (by kernel_rfl) ?_);refine Aw ?_;refine SemY.regionL ?_;refine AG (n:=8) AD 2 [(5,.st x0),(6,.st x1)] hp (by kernel_rfl) ?_;obtain ⟨v1,hv1,h⟩:=OB h;refine NE (E:=E0) (e:=E0) rfl rfl AD rfl rfl (fid:=92) (caps:=[]) (xs:=[.st x0,.st x1,.j 0,.j (-1)]) (fn:=Tryz.f92) (c:=Cw) (Out:=fun v h'=>∃ (z0:AV),v=z0/\T h' ((own_ (ocL 1 9 (ocV cdS)) z0 v1)::L)) rfl (AB rfl) (by kernel_rfl) (by kernel_rfl) (by kernel_rfl) (by kernel_rfl) (by show 4<=66; decide) (Ht x0 x1 0 (-1) _ hv1 hT) ?_;rintro xx hp3 ⟨e2,hqhp3,hT40⟩; subst xx
 have hT4:T hp3 ((own_ (ocL 1 9 (ocV cdS)) e2 v1)::L):=hT40
 refine AG (n:=8) AD 1 [(4,e2)] hp3 (by kernel_rfl) ?_;refine AH rfl (SemY.fr (l':=[(4,e2)]) (by kernel_rfl) ?_);refine SemY.ret ?_;have hq:=OI h; subst hq;exact ⟨⟨Fr 8 [(4,e2)],hp3⟩,WkY.f1,.inr rfl,[e2],(by kernel_rfl),⟨e2,rfl,hT4⟩⟩
/- (*trestle/court.reader).next -/
noncomputable def DY:Code:=Bc Tryz.f66
def DR (x0:((List (List UInt8)))):Option (((List UInt8)×(List (List UInt8))) ⊕ Int) :=
 B8 (BK (decide ((x0.length:Int) > 0)) 3) fun v1 =>
 (idx x0 0).bind fun v2 =>
 if (By 1 (x0.length:Int) x0.length)=true then
 some (.inl (v2,((x0.take (x0.length:Int).toNat).drop (1:Int).toNat)))
 else none
theorem EO {L:List Asn}{hp:Hp}(u0:AV) (x0:((List (List UInt8)))) (r:((List UInt8)×(List (List UInt8))) ⊕ Int) (h:DR x0=some r) (hT:T hp ((cel u0 1 126 (.ag [.sl 1 (x0.map cdS.enc)]))::L)):SemX E0 ⟨none,false⟩ DY ⟨Fr 26 (BF 0 [u0]),hp⟩ (fun x s'=>∃ q,r = .inl q/\(x = .normal\/x = .ret)/\∃ ys,Dk E0.P s'.fr s'.hp Tryz.f66.results.toList=some ys/\(fun v h'=>v = .st q.1/\T h' ((cel u0 1 126 (.sl 1 (q.2.map cdS.enc)))::L)) (EB ys) s'.hp) fun e _=>r = .inr e:=by
 unfold DR at h;refine IR (HB (s1:=⟨Fr 26 [(0,u0)],hp⟩) WkY.f1 ?_);refine SemX.seq ?_;refine SemX.regionL ?_;refine AG (n:=26) AD 1 [(0,u0)] hp (by kernel_rfl) ?_;refine AH rfl (SemX.fr (l':=[(0,u0)]) (by kernel_rfl) ?_);refine SemX.seq ?_;refine Aq ?_;refine RunX.pre 6 ?_;refine AG (n:=26) AD 1 [(0,u0),(4,u0)] hp (by kernel_rfl) ?_;refine AL AD 0 rfl (BY (AB rfl) rfl (J4 (Eo hT) (by kernel_rfl))) ?_;refine AL AD 0 rfl (BY (AB rfl) rfl (FP (a:=u0) (by kernel_rfl) (DX (off:=0) hT (by kernel_rfl)))) ?_;refine AL AD 0 rfl (BY (AB rfl) rfl (Dq (p:=Hs u0 0) (by kernel_rfl) (F6 (off:=0) (y:= .sl 1 (x0.map cdS.enc)) (m:=1) (g:=false) hT (by kernel_rfl) (by kernel_rfl) (by kernel_rfl)))) ?_;refine AL AD 0 rfl (BY (AB rfl) rfl (ET (a:= .sl 1 (x0.map cdS.enc)) (by kernel_rfl) (C5 (el:=9) (by kernel_rfl)))) ?_;refine AG (n:=26) AD 1 [(0,u0),(9,.b (decide ((x0.length:Int) > 0)))] hp (by kernel_rfl) ?_;refine AH rfl ?_;rcases Ao h with ⟨v1,hv1,h⟩ | ⟨v1x,hv1,hv1q⟩
 case inr=>exact CA (caps:=[]) (xs:=[.b (decide ((x0.length:Int) > 0)),.j 3]) (u:=((decide ((x0.length:Int) > 0)),3,())) rfl rfl At rfl (AB rfl) (by kernel_rfl) (by kernel_rfl) (AO (AZ (c:=cdB) (v:=(decide ((x0.length:Int) > 0)))) (AO (AZ (c:=cdI) (v:=3)) SeesD.nil)) hv1 hv1q
 refine CB (caps:=[]) (xs:=[.b (decide ((x0.length:Int) > 0)),.j 3]) (u:=((decide ((x0.length:Int) > 0)),3,())) rfl rfl At rfl (AB rfl) (by kernel_rfl) (by kernel_rfl) (AO (AZ (c:=cdB) (v:=(decide ((x0.length:Int) > 0)))) (AO (AZ (c:=cdI) (v:=3)) SeesD.nil)) (.inl (by kernel_rfl)) hv1 ?_;refine RunX.done rfl (SemX.fr (l':=[(0,u0)]) (by kernel_rfl) ?_);refine SemX.seq ?_;refine SemX.regionL ?_;refine AG (n:=26) AD 1 [(0,u0),(11,u0)] hp (by kernel_rfl) ?_;refine AL AD 0 rfl (BY (AB rfl) rfl (J4 (Eo hT) (by kernel_rfl))) ?_;refine AL AD 0 rfl (BY (AB rfl) rfl (FP (a:=u0) (by kernel_rfl) (DX (off:=0) hT (by kernel_rfl)))) ?_;refine AL AD 0 rfl (BY (AB rfl) rfl (Dq (p:=Hs u0 0) (by kernel_rfl) (F6 (off:=0) (y:= .sl 1 (x0.map cdS.enc)) (m:=1) (g:=false) hT (by kernel_rfl) (by kernel_rfl) (by kernel_rfl)))) ?_;obtain ⟨v2,hv2,h⟩:=OB h;refine AL AD 0 rfl (BY (AB rfl) rfl (Ad (a:= .sl 1 (x0.map cdS.enc)) (b:= .j 0) (by kernel_rfl) (by kernel_rfl) (Dn (e:=cdS.enc) (el:=9) (k:=1) (ki:= .i64) (by kernel_rfl) (by kernel_rfl) hv2))) ?_;refine AG (n:=26) AD 2 [(0,u0),(3,.st v2)] hp (by kernel_rfl) ?_;refine AH rfl (SemX.fr (l':=[(0,u0),(3,.st v2)]) (by kernel_rfl) ?_);refine SemX.seq ?_;refine SemX.regionL ?_;refine AG (n:=26) AD 2 [(3,.st v2),(17,u0),(18,u0)] hp (by kernel_rfl) ?_;refine AL AD 0 rfl (BY (AB rfl) rfl (J4 (Eo hT) (by kernel_rfl))) ?_;refine AL AD 0 rfl (BY (AB rfl) rfl (FP (a:=u0) (by kernel_rfl) (DX (off:=0) hT (by kernel_rfl)))) ?_;refine AL AD 0 rfl (BY (AB rfl) rfl (Dq (p:=Hs u0 0) (by kernel_rfl) (F6 (off:=0) (y:= .sl 1 (x0.map cdS.enc)) (m:=1) (g:=false) hT (by kernel_rfl) (by kernel_rfl) (by kernel_rfl)))) ?_;by_cases hk3:(By 1 (x0.length:Int) x0.length)=true
 case neg=>rw [if_neg hk3] at h; cases h
 rw [if_pos hk3] at h;refine AL AD 0 rfl (BY (AB rfl) rfl (Di (a:= .sl 1 (x0.map cdS.enc)) (l:=(some (.j 1))) (u:=none) (m:=none) (by kernel_rfl) (by kernel_rfl) (by kernel_rfl) rfl (Gd (xs:=x0) (e:=cdS.enc) (k:=1) (el:=9) (lo:=1) (hi:=(x0.length:Int)) (by kernel_rfl) (by kernel_rfl) (Ee (Hm hk3)) rfl hk3))) ?_;refine AL AD 0 rfl (BY (AB rfl) rfl (J4 (Eo hT) (by kernel_rfl))) ?_;refine AL AD 0 rfl (BY (AB rfl) rfl (FP (a:=u0) (by kernel_rfl) (DX (off:=0) hT (by kernel_rfl)))) ?_;obtain ⟨hp4,hs5,hT60⟩:=G6 (off:=0) (P:=Tryz.prog) (ty:=45) (y:= .sl 1 (((x0.take (x0.length:Int).toNat).drop (1:Int).toNat).map cdS.enc)) (a':= .sl 1 (((x0.take (x0.length:Int).toNat).drop (1:Int).toNat).map cdS.enc)) hT (by kernel_rfl) (by kernel_rfl) (by kernel_rfl)
 have hT6:T hp4 ((cel u0 1 126 (.sl 1 (((x0.take (x0.length:Int).toNat).drop (1:Int).toNat).map cdS.enc)))::L):=hT60
 refine RunL.store AD (y:=Hs u0 0) (z:= .sl 1 (((x0.take (x0.length:Int).toNat).drop (1:Int).toNat).map cdS.enc)) rfl (AB rfl) (by kernel_rfl) (by kernel_rfl) hs5 ?_;refine AH rfl (SemX.fr (l':=[(3,.st v2)]) (by kernel_rfl) ?_);refine SemX.seq ?_;refine SemX.regionL ?_;refine AG (n:=26) AD 2 [(2,.st v2)] hp4 (by kernel_rfl) ?_;refine AH rfl (SemX.fr (l':=[(2,.st v2)]) (by kernel_rfl) ?_);refine SemX.ret ?_;have hq:=OI h; subst hq;exact ⟨⟨Fr 26 [(2,.st v2)],hp4⟩,WkY.f1,_,rfl,.inr rfl,[.st v2],(by kernel_rfl),⟨rfl,hT6⟩⟩
/- (*trestle/court.reader).next -/
noncomputable def An:Code:=Bc Tryz.f66
def A7 (x0:(List (List UInt8))):Option (((List UInt8)×(List (List UInt8))) ⊕ Int) :=
 B8 (BK (decide ((x0.length:Int) > 0)) 3) fun v1 =>
 (idx x0 0).bind fun v2 =>
 if (By 1 (x0.length:Int) x0.length)=true then
 some (.inl (v2,((x0.take (x0.length:Int).toNat).drop (1:Int).toNat)))
 else none
theorem As {L:List Asn}{hp:Hp}(u0:AV) (x0:(List (List UInt8))) (r:((List UInt8)×(List (List UInt8))) ⊕ Int) (h:A7 x0=some r) (hT:T hp ((cel u0 1 126 (.sl 1 (x0.map cdS.enc)))::L)):SemX E0 ⟨none,false⟩ An ⟨Fr 26 (BF 0 [u0]),hp⟩ (fun x s'=>∃ q,r = .inl q/\(x = .normal\/x = .ret)/\∃ ys,Dk E0.P s'.fr s'.hp Tryz.f66.results.toList=some ys/\(fun v h'=>v = .st q.1/\T h' ((cel u0 1 126 (.sl 1 (q.2.map cdS.enc)))::L)) (EB ys) s'.hp) fun e _=>r = .inr e:=by
 unfold A7 at h;refine IR (HB (s1:=⟨Fr 26 [(0,u0)],hp⟩) WkY.f1 ?_);refine SemX.seq ?_;refine SemX.regionL ?_;refine AG (n:=26) AD 1 [(0,u0)] hp (by kernel_rfl) ?_;refine AH rfl (SemX.fr (l':=[(0,u0)]) (by kernel_rfl) ?_);refine SemX.seq ?_;refine Aq ?_;refine RunX.pre 6 ?_;refine AG (n:=26) AD 1 [(0,u0),(4,u0)] hp (by kernel_rfl) ?_;refine AL AD 0 rfl (BY (AB rfl) rfl (J4 (Eo hT) (by kernel_rfl))) ?_;refine AL AD 0 rfl (BY (AB rfl) rfl (FP (a:=u0) (by kernel_rfl) (DX (off:=0) hT (by kernel_rfl)))) ?_;refine AL AD 0 rfl (BY (AB rfl) rfl (Dq (p:=Hs u0 0) (by kernel_rfl) (F6 (off:=0) (y:= .sl 1 (x0.map cdS.enc)) (m:=1) (g:=false) hT (by kernel_rfl) (by kernel_rfl) (by kernel_rfl)))) ?_;refine AL AD 0 rfl (BY (AB rfl) rfl (ET (a:= .sl 1 (x0.map cdS.enc)) (by kernel_rfl) (C5 (el:=9) (by kernel_rfl)))) ?_;refine AG (n:=26) AD 1 [(0,u0),(9,.b (decide ((x0.length:Int) > 0)))] hp (by kernel_rfl) ?_;refine AH rfl ?_;rcases Ao h with ⟨v1,hv1,h⟩ | ⟨v1x,hv1,hv1q⟩
 case inr=>exact CA (caps:=[]) (xs:=[.b (decide ((x0.length:Int) > 0)),.j 3]) (u:=((decide ((x0.length:Int) > 0)),3,())) rfl rfl At rfl (AB rfl) (by kernel_rfl) (by kernel_rfl) (AO (AZ (c:=cdB) (v:=(decide ((x0.length:Int) > 0)))) (AO (AZ (c:=cdI) (v:=3)) SeesD.nil)) hv1 hv1q
 refine CB (caps:=[]) (xs:=[.b (decide ((x0.length:Int) > 0)),.j 3]) (u:=((decide ((x0.length:Int) > 0)),3,())) rfl rfl At rfl (AB rfl) (by kernel_rfl) (by kernel_rfl) (AO (AZ (c:=cdB) (v:=(decide ((x0.length:Int) > 0)))) (AO (AZ (c:=cdI) (v:=3)) SeesD.nil)) (.inl (by kernel_rfl)) hv1 ?_;refine RunX.done rfl (SemX.fr (l':=[(0,u0)]) (by kernel_rfl) ?_);refine SemX.seq ?_;refine SemX.regionL ?_;refine AG (n:=26) AD 1 [(0,u0),(11,u0)] hp (by kernel_rfl) ?_;refine AL AD 0 rfl (BY (AB rfl) rfl (J4 (Eo hT) (by kernel_rfl))) ?_;refine AL AD 0 rfl (BY (AB rfl) rfl (FP (a:=u0) (by kernel_rfl) (DX (off:=0) hT (by kernel_rfl)))) ?_;refine AL AD 0 rfl (BY (AB rfl) rfl (Dq (p:=Hs u0 0) (by kernel_rfl) (F6 (off:=0) (y:= .sl 1 (x0.map cdS.enc)) (m:=1) (g:=false) hT (by kernel_rfl) (by kernel_rfl) (by kernel_rfl)))) ?_;obtain ⟨v2,hv2,h⟩:=OB h;refine AL AD 0 rfl (BY (AB rfl) rfl (Ad (a:= .sl 1 (x0.map cdS.enc)) (b:= .j 0) (by kernel_rfl) (by kernel_rfl) (Dn (e:=cdS.enc) (el:=9) (k:=1) (ki:= .i64) (by kernel_rfl) (by kernel_rfl) hv2))) ?_;refine AG (n:=26) AD 2 [(0,u0),(3,.st v2)] hp (by kernel_rfl) ?_;refine AH rfl (SemX.fr (l':=[(0,u0),(3,.st v2)]) (by kernel_rfl) ?_);refine SemX.seq ?_;refine SemX.regionL ?_;refine AG (n:=26) AD 2 [(3,.st v2),(17,u0),(18,u0)] hp (by kernel_rfl) ?_;refine AL AD 0 rfl (BY (AB rfl) rfl (J4 (Eo hT) (by kernel_rfl))) ?_;refine AL AD 0 rfl (BY (AB rfl) rfl (FP (a:=u0) (by kernel_rfl) (DX (off:=0) hT (by kernel_rfl)))) ?_;refine AL AD 0 rfl (BY (AB rfl) rfl (Dq (p:=Hs u0 0) (by kernel_rfl) (F6 (off:=0) (y:= .sl 1 (x0.map cdS.enc)) (m:=1) (g:=false) hT (by kernel_rfl) (by kernel_rfl) (by kernel_rfl)))) ?_;by_cases hk3:(By 1 (x0.length:Int) x0.length)=true
 case neg=>rw [if_neg hk3] at h; cases h
 rw [if_pos hk3] at h;refine AL AD 0 rfl (BY (AB rfl) rfl (Di (a:= .sl 1 (x0.map cdS.enc)) (l:=(some (.j 1))) (u:=none) (m:=none) (by kernel_rfl) (by kernel_rfl) (by kernel_rfl) rfl (Gd (xs:=x0) (e:=cdS.enc) (k:=1) (el:=9) (lo:=1) (hi:=(x0.length:Int)) (by kernel_rfl) (by kernel_rfl) (Ee (Hm hk3)) rfl hk3))) ?_;refine AL AD 0 rfl (BY (AB rfl) rfl (J4 (Eo hT) (by kernel_rfl))) ?_;refine AL AD 0 rfl (BY (AB rfl) rfl (FP (a:=u0) (by kernel_rfl) (DX (off:=0) hT (by kernel_rfl)))) ?_;obtain ⟨hp4,hs5,hT60⟩:=G6 (off:=0) (P:=Tryz.prog) (ty:=45) (y:= .sl 1 (((x0.take (x0.length:Int).toNat).drop (1:Int).toNat).map cdS.enc)) (a':= .sl 1 (((x0.take (x0.length:Int).toNat).drop (1:Int).toNat).map cdS.enc)) hT (by kernel_rfl) (by kernel_rfl) (by kernel_rfl)
 have hT6:T hp4 ((cel u0 1 126 (.sl 1 (((x0.take (x0.length:Int).toNat).drop (1:Int).toNat).map cdS.enc)))::L):=hT60
 refine RunL.store AD (y:=Hs u0 0) (z:= .sl 1 (((x0.take (x0.length:Int).toNat).drop (1:Int).toNat).map cdS.enc)) rfl (AB rfl) (by kernel_rfl) (by kernel_rfl) hs5 ?_;refine AH rfl (SemX.fr (l':=[(3,.st v2)]) (by kernel_rfl) ?_);refine SemX.seq ?_;refine SemX.regionL ?_;refine AG (n:=26) AD 2 [(2,.st v2)] hp4 (by kernel_rfl) ?_;refine AH rfl (SemX.fr (l':=[(2,.st v2)]) (by kernel_rfl) ?_);refine SemX.ret ?_;have hq:=OI h; subst hq;exact ⟨⟨Fr 26 [(2,.st v2)],hp4⟩,WkY.f1,_,rfl,.inr rfl,[.st v2],(by kernel_rfl),⟨rfl,hT6⟩⟩
/- (*trestle/court.reader).names -/
noncomputable def Bw:Code:=Bc Tryz.f67
def B4 (x0:(List (List UInt8))):Option (((List (List UInt8))×(List (List UInt8))) ⊕ Int) :=
 B8 (BK (decide ((x0.length:Int) > 0)) 3) fun v1 =>
 some (.inl (x0,[]))
theorem CP {L:List Asn}{hp:Hp}(u0:AV) (x0:(List (List UInt8))) (r:((List (List UInt8))×(List (List UInt8))) ⊕ Int) (h:B4 x0=some r) (hT:T hp ((cel u0 1 126 (.sl 1 (x0.map cdS.enc)))::L)):SemX E0 ⟨none,false⟩ Bw ⟨Fr 19 (BF 0 [u0]),hp⟩ (fun x s'=>∃ q,r = .inl q/\(x = .normal\/x = .ret)/\∃ ys,Dk E0.P s'.fr s'.hp Tryz.f67.results.toList=some ys/\(fun v h'=>v = .sl 1 (q.1.map cdS.enc)/\T h' ((cel u0 1 126 (.sl 1 (q.2.map cdS.enc)))::L)) (EB ys) s'.hp) fun e _=>r = .inr e:=by
 unfold B4 at h;refine IR (HB (s1:=⟨Fr 19 [(0,u0)],hp⟩) WkY.f1 ?_);refine SemX.seq ?_;refine SemX.regionL ?_;refine AG (n:=19) AD 1 [(0,u0)] hp (by kernel_rfl) ?_;refine AH rfl (SemX.fr (l':=[(0,u0)]) (by kernel_rfl) ?_);refine SemX.seq ?_;refine Aq ?_;refine RunX.pre 6 ?_;refine AG (n:=19) AD 1 [(0,u0),(4,u0)] hp (by kernel_rfl) ?_;refine AL AD 0 rfl (BY (AB rfl) rfl (J4 (Eo hT) (by kernel_rfl))) ?_;refine AL AD 0 rfl (BY (AB rfl) rfl (FP (a:=u0) (by kernel_rfl) (DX (off:=0) hT (by kernel_rfl)))) ?_;refine AL AD 0 rfl (BY (AB rfl) rfl (Dq (p:=Hs u0 0) (by kernel_rfl) (F6 (off:=0) (y:= .sl 1 (x0.map cdS.enc)) (m:=1) (g:=false) hT (by kernel_rfl) (by kernel_rfl) (by kernel_rfl)))) ?_;refine AL AD 0 rfl (BY (AB rfl) rfl (ET (a:= .sl 1 (x0.map cdS.enc)) (by kernel_rfl) (C5 (el:=9) (by kernel_rfl)))) ?_;refine AG (n:=19) AD 1 [(0,u0),(9,.b (decide ((x0.length:Int) > 0)))] hp (by kernel_rfl) ?_;refine AH rfl ?_;rcases Ao h with ⟨v1,hv1,h⟩ | ⟨v1x,hv1,hv1q⟩
 case inr=>exact CA (caps:=[]) (xs:=[.b (decide ((x0.length:Int) > 0)),.j 3]) (u:=((decide ((x0.length:Int) > 0)),3,())) rfl rfl At rfl (AB rfl) (by kernel_rfl) (by kernel_rfl) (AO (AZ (c:=cdB) (v:=(decide ((x0.length:Int) > 0)))) (AO (AZ (c:=cdI) (v:=3)) SeesD.nil)) hv1 hv1q
 refine CB (caps:=[]) (xs:=[.b (decide ((x0.length:Int) > 0)),.j 3]) (u:=((decide ((x0.length:Int) > 0)),3,())) rfl rfl At rfl (AB rfl) (by kernel_rfl) (by kernel_rfl) (AO (AZ (c:=cdB) (v:=(decide ((x0.length:Int) > 0)))) (AO (AZ (c:=cdI) (v:=3)) SeesD.nil)) (.inl (by kernel_rfl)) hv1 ?_;refine RunX.done rfl (SemX.fr (l':=[(0,u0)]) (by kernel_rfl) ?_);refine SemX.seq ?_;refine SemX.regionL ?_;refine AG (n:=19) AD 1 [(0,u0),(11,u0)] hp (by kernel_rfl) ?_;refine AL AD 0 rfl (BY (AB rfl) rfl (J4 (Eo hT) (by kernel_rfl))) ?_;refine AL AD 0 rfl (BY (AB rfl) rfl (FP (a:=u0) (by kernel_rfl) (DX (off:=0) hT (by kernel_rfl)))) ?_;refine AL AD 0 rfl (BY (AB rfl) rfl (Dq (p:=Hs u0 0) (by kernel_rfl) (F6 (off:=0) (y:= .sl 1 (x0.map cdS.enc)) (m:=1) (g:=false) hT (by kernel_rfl) (by kernel_rfl) (by kernel_rfl)))) ?_
 let p1:Nat×AV:=(3,.sl 1 (x0.map cdS.enc))
 refine AG (n:=19) AD 1 [(0,u0),p1] hp (by kernel_rfl) ?_;refine AH rfl (SemX.fr (l':=[(0,u0),p1]) (by kernel_rfl) ?_);refine SemX.seq ?_;refine SemX.regionL ?_;refine AG (n:=19) AD 1 [p1,(15,u0)] hp (by kernel_rfl) ?_;refine AL AD 0 rfl (BY (AB rfl) rfl (J4 (Eo hT) (by kernel_rfl))) ?_;refine AL AD 0 rfl (BY (AB rfl) rfl (FP (a:=u0) (by kernel_rfl) (DX (off:=0) hT (by kernel_rfl)))) ?_;obtain ⟨hp2,hs3,hT40⟩:=G6 (off:=0) (P:=Tryz.prog) (ty:=45) (y:= .e0) (a':= .e0) hT (by kernel_rfl) (by kernel_rfl) (by kernel_rfl)
 have hT4:T hp2 ((cel u0 1 126 (.e0))::L):=hT40
 refine RunL.store AD (y:=Hs u0 0) (z:= .e0) rfl (AB rfl) (by kernel_rfl) (by kernel_rfl) hs3 ?_;obtain ⟨hp5,hw6,hT70⟩:=IV (E:=E0) (y:= .sl 1 ([].map cdS.enc)) hT4 UpV.nil
 have hT7:T hp5 ((cel u0 1 126 (.sl 1 ([].map cdS.enc)))::L):=hT70
 refine Jt (hw6 _ _) ?_;refine AH rfl (SemX.fr (l':=[p1]) (by kernel_rfl) ?_);refine SemX.seq ?_;refine SemX.regionL ?_
 let p2:Nat×AV:=(2,.sl 1 (x0.map cdS.enc))
 refine AG (n:=19) AD 2 [p2] hp5 (by kernel_rfl) ?_;refine AH rfl (SemX.fr (l':=[p2]) (by kernel_rfl) ?_);refine SemX.ret ?_;have hq:=OI h; subst hq;exact ⟨⟨Fr 19 [p2],hp5⟩,WkY.f1,_,rfl,.inr rfl,[.sl 1 (x0.map cdS.enc)],(by kernel_rfl),⟨rfl,hT7⟩⟩
/- (*trestle/court.reader).last -/
noncomputable def BW:Code:=Bc Tryz.f69
def Bq (x0:(List (List UInt8))):Option ((Bool×(List (List UInt8))) ⊕ Int) :=
 B8 (A7 x0) fun v1 =>
 (if (v1.1==[102,105,114,115,116])=true then some true else some (v1.1==[108,97,115,116])).bind fun j4 =>
 B8 (BK j4 3) fun v11 =>
 some (.inl ((v1.1==[108,97,115,116]),v1.2))
theorem Bh {L:List Asn}{hp:Hp}(u0:AV) (x0:(List (List UInt8))) (r:(Bool×(List (List UInt8))) ⊕ Int) (h:Bq x0=some r) (hT:T hp ((cel u0 1 126 (.sl 1 (x0.map cdS.enc)))::L)):SemX E0 ⟨none,false⟩ BW ⟨Fr 15 (BF 0 [u0]),hp⟩ (fun x s'=>∃ q,r = .inl q/\(x = .normal\/x = .ret)/\∃ ys,Dk E0.P s'.fr s'.hp Tryz.f69.results.toList=some ys/\(fun v h'=>v = .b q.1/\T h' ((cel u0 1 126 (.sl 1 (q.2.map cdS.enc)))::L)) (EB ys) s'.hp) fun e _=>r = .inr e:=by
 unfold Bq at h;refine IR (HB (s1:=⟨Fr 15 [(0,u0)],hp⟩) WkY.f1 ?_);refine SemX.seq ?_;refine SemX.regionL ?_;refine AG (n:=15) AD 1 [(0,u0)] hp (by kernel_rfl) ?_;refine AH rfl (SemX.fr (l':=[(0,u0)]) (by kernel_rfl) ?_);refine SemX.seq ?_;refine Aq ?_;refine RunX.pre 1 ?_;refine AG (n:=15) AD 1 [(4,u0)] hp (by kernel_rfl) ?_;refine AH rfl ?_;rcases Ao h with ⟨v1,hv1,h⟩ | ⟨v1x,hv1,hv1q⟩
 case inr=>exact Bi rfl rfl (fid:=66) (caps:=[]) (xs:=[u0]) (fn:=Tryz.f66) (c:=An) (Out:=fun _ _=>False) rfl (AB rfl) (by kernel_rfl) (by kernel_rfl) Tryz.func66 ⟨Tryz.call66⟩ (by kernel_rfl) (by show 1<=26; decide) (SemX.mono (As u0 x0 _ hv1 hT) (fun _ _ hh=>by obtain ⟨_,hh1,_⟩:=hh; cases hh1) (fun _ _ hh=>hh)) (fun _ _ hh=>by cases hh; exact hv1q) (fun _ _ hh=>hh.elim)
 refine Bi rfl rfl (fid:=66) (caps:=[]) (xs:=[u0]) (fn:=Tryz.f66) (c:=An) (Out:=fun v h'=>v = .st v1.1/\T h' ((cel u0 1 126 (.sl 1 (v1.2.map cdS.enc)))::L)) (PQ:=fun _ _=>False) rfl (AB rfl) (by kernel_rfl) (by kernel_rfl) Tryz.func66 ⟨Tryz.call66⟩ (by kernel_rfl) (by show 1<=26; decide) (SemX.inl (As u0 x0 _ hv1 hT)) (fun _ _ hh=>hh.elim) ?_;rintro xx hp2 ⟨hqhp2,hT30⟩; subst xx
 have hT3:T hp2 ((cel u0 1 126 (.sl 1 (v1.2.map cdS.enc)))::L):=hT30
 refine RunX.pre 1 ?_;refine AG (n:=15) AD 1 [(3,.st v1.1)] hp2 (by kernel_rfl) ?_;refine AH rfl ?_;refine RunX.done rfl (SemX.fr (l':=[(3,.st v1.1)]) (by kernel_rfl) ?_);refine SemX.seq ?_;refine Aq ?_;obtain ⟨j4,hj4,h⟩:=OB h;refine Kt 6 (A:=fun s1=>∃ (h':Hp),T h' ((cel u0 1 126 (.sl 1 (v1.2.map cdS.enc)))::L)/\s1=⟨Fr 15 [(3,.st v1.1),(11,.b j4)],h'⟩) ?_ ?_
 ·refine AG (n:=15) AD 3 [(3,.st v1.1),(8,.b (v1.1==[102,105,114,115,116]))] hp2 (by kernel_rfl) ?_
  rcases BE (v1.1==[102,105,114,115,116]) with hc12 | hc12
  ·rw [if_pos hc12] at hj4
   rw [hc12];refine AG (n:=15) AD 3 [(3,.st v1.1),(11,.b true)] hp2 (by kernel_rfl) ?_;have hq:=OI hj4; subst hq;exact AH rfl ⟨_,⟨hp2,hT3,rfl⟩,WkY.f1⟩
  ·rw [BH hc12] at hj4
   rw [hc12];refine AG (n:=15) AD 3 [(3,.st v1.1),(11,.b (v1.1==[108,97,115,116]))] hp2 (by kernel_rfl) ?_;have hq:=OI hj4; subst hq;exact AH rfl ⟨_,⟨hp2,hT3,rfl⟩,WkY.f1⟩
 rintro _ ⟨hp9,hT10,rfl⟩;rcases Ao h with ⟨v11,hv11,h⟩ | ⟨v11x,hv11,hv11q⟩
 case inr=>exact CA (caps:=[]) (xs:=[.b j4,.j 3]) (u:=(j4,3,())) rfl rfl At rfl (AB rfl) (by kernel_rfl) (by kernel_rfl) (AO (AZ (c:=cdB) (v:=j4)) (AO (AZ (c:=cdI) (v:=3)) SeesD.nil)) hv11 hv11q
 refine CB (caps:=[]) (xs:=[.b j4,.j 3]) (u:=(j4,3,())) rfl rfl At rfl (AB rfl) (by kernel_rfl) (by kernel_rfl) (AO (AZ (c:=cdB) (v:=j4)) (AO (AZ (c:=cdI) (v:=3)) SeesD.nil)) (.inl (by kernel_rfl)) hv11 ?_;refine RunX.done rfl (SemX.fr (l':=[(3,.st v1.1)]) (by kernel_rfl) ?_);refine SemX.seq ?_;refine SemX.regionL ?_;refine AG (n:=15) AD 3 [(2,.b (v1.1==[108,97,115,116]))] hp9 (by kernel_rfl) ?_;refine AH rfl (SemX.fr (l':=[(2,.b (v1.1==[108,97,115,116]))]) (by kernel_rfl) ?_);refine SemX.ret ?_;have hq:=OI h; subst hq;exact ⟨⟨Fr 15 [(2,.b (v1.1==[108,97,115,116]))],hp9⟩,WkY.f1,_,rfl,.inr rfl,[.b (v1.1==[108,97,115,116])],(by kernel_rfl),⟨rfl,hT10⟩⟩
/- trestle/court.clause -/
noncomputable def BQ:Code:=Bc Tryz.f35
def CK (v8:(List (List UInt8))):Nat->Int->Option (((Unit)) ⊕ Int)
 | 0,_=>none
 | f + 1,c19 =>
  if (decide (c19 < (v8.length:Int)))=true then
  (idx v8 c19).bind fun v21 =>
  B8 (BK (!(v21==[])) 3) fun v22 =>
  CK v8 f (wr .i64 (c19 + 1))
  else
  some (.inl ())
def ED (v36:(List UInt8)×(List (List UInt8))):Option ((((List UInt8)×(List (List UInt8))×(List UInt8))) ⊕ Int) :=
 if (v36.1==[97,109,111,110,103])=true then
 B8 (A7 v36.2) fun v40 =>
 B8 (A7 v40.2) fun v48 =>
 some (.inl (v48.1,v48.2,v40.1))
 else
 some (.inl (v36.1,v36.2,[]))
def EE (r56:(List UInt8)×(List (List UInt8))×(List UInt8)) (c60:Int) (c61:Int) (v63:(List UInt8)):Option (((Int)) ⊕ Int) :=
 if (v63==r56.1)=true then
 some (.inl c60)
 else
 some (.inl c61)
def Cp (r56:(List UInt8)×(List (List UInt8))×(List UInt8)):Nat->Int->Int->Option (((Int)) ⊕ Int)
 | 0,_,_=>none
 | f + 1,c60,c61 =>
  if (decide (c60<=10))=true then
  (Ef c60).bind fun v63 =>
  B8 (EE r56 c60 c61 v63) fun r71 =>
  Cp r56 f (wr .u8 (c60 + 1)) r71
  else
  some (.inl c61)
def DD (r76:Int):Option (((Bool)) ⊕ Int) :=
 if (r76==6)=true then
 some (.inl (r76==6))
 else
 some (.inl (r76==7))
def Dy (r56:(List UInt8)×(List (List UInt8))×(List UInt8)) (r76:Int):Option ((((List (List UInt8))×Int)) ⊕ Int) :=
 if (r76==10)=true then
 B8 (A7 r56.2.1) fun v165 =>
 B8 (DJ v165.1) fun v168 =>
 some (.inl (v165.2,v168))
 else
 some (.inl (r56.2.1,0))
def DE (r56:(List UInt8)×(List (List UInt8))×(List UInt8)) (r76:Int) (r137:Bool):Option ((((List (List UInt8))×Bool×(List (List UInt8))×Int)) ⊕ Int) :=
 if r137=true then
 B8 (Bq r56.2.1) fun v143 =>
 B8 (B4 v143.2) fun v151 =>
 some (.inl (v151.2,v143.1,v151.1,0))
 else
 B8 (Dy r56 r76) fun r176 =>
 some (.inl (r176.1,false,[],r176.2))
def Co (r56:(List UInt8)×(List (List UInt8))×(List UInt8)) (r76:Int):Option ((((List (List UInt8))×Bool×(List (List UInt8))×Int)) ⊕ Int) :=
 if (r76==5)=true then
 B8 (Bq r56.2.1) fun v121 =>
 some (.inl (v121.2,v121.1,[],0))
 else
 B8 (DD r76) fun r137 =>
 B8 (DE r56 r76 r137) fun r180 =>
 some (.inl (r180.1,r180.2.1,r180.2.2.1,r180.2.2.2))
def CJ (r56:(List UInt8)×(List (List UInt8))×(List UInt8)) (r76:Int):Option ((((List (List UInt8))×Bool×(List (List UInt8))×Int)) ⊕ Int) :=
 if (r76==4)=true then
 B8 (A7 r56.2.1) fun v98 =>
 B8 (DJ v98.1) fun v101 =>
 B8 (Bq v98.2) fun v107 =>
 some (.inl (v107.2,v107.1,[],v101))
 else
 B8 (Co r56 r76) fun r184 =>
 some (.inl (r184.1,r184.2.1,r184.2.2.1,r184.2.2.2))
def A1 (r56:(List UInt8)×(List (List UInt8))×(List UInt8)) (r76:Int):Option ((((List (List UInt8))×Bool×(List (List UInt8))×Int)) ⊕ Int) :=
 if (r76==1)=true then
 B8 (B4 r56.2.1) fun v84 =>
 some (.inl (v84.2,false,v84.1,0))
 else
 B8 (CJ r56 r76) fun r188 =>
 some (.inl (r188.1,r188.2.1,r188.2.2.1,r188.2.2.2))
def DI (x0:(List UInt8)):Option ((Int×(List UInt8)×Bool×(List (List UInt8))×Int) ⊕ Int) :=
 (Dl x0 [32]).bind fun v8 =>
 B8 (CK v8 100000 0) fun r24 =>
 B8 (DR v8) fun v36 =>
 B8 (ED v36) fun r56 =>
 B8 (Cp r56 100000 1 0) fun r76 =>
 B8 (BK (r76 != 0) 3) fun v81 =>
 B8 (A1 r56 r76) fun r192 =>
 B8 (BK ((r192.1.length:Int)==0) 3) fun v197 =>
 some (.inl (r76,r56.2.2,r192.2.1,r192.2.2.1,r192.2.2.2))
theorem GR {L:List Asn}(v8:(List (List UInt8))) (e1:AV) (e15:AV):∀ (f:Nat) (c19:Int) (r:((Unit)) ⊕ Int),CK v8 f c19=some r->∀ (hp:Hp),T hp ((cel e1 5 66 (.ag [.v (.int .u8 0),.st [],.b false,.sl 1 ([].map cdS.enc),.j 0]))::(cel e15 1 126 (.ag [.sl 1 (v8.map cdS.enc)]))::L)->SemXN E0 ⟨none,false⟩ (pc BQ [1,1,0,1,0,0]) f ⟨Fr 93 [(2,e1),(3,e15),(16,.sl 1 (v8.map cdS.enc)),(17,.j (v8.length:Int)),(18,.j c19)],hp⟩ (fun e s=>∃ q,r = .inl q/\e=(.exit 0)/\∃ s2,(∃ (h':Hp),T h' ((cel e1 5 66 (.ag [.v (.int .u8 0),.st [],.b false,.sl 1 ([].map cdS.enc),.j 0]))::(cel e15 1 126 (.ag [.sl 1 (v8.map cdS.enc)]))::L)/\s2=⟨Fr 93 [(2,e1),(3,e15)],h'⟩)/\WkY E0 s s2) fun e _=>r = .inr e:=by
 intro f;induction f with
 | zero=>intro c19 r h; cases h
 | succ f ih0 =>
  intro c19 r h  hp hT;unfold CK at h;refine IT ?_;refine SemX.seq ?_;refine SemX.regionL ?_
  let p1:Nat×AV:=(19,.b (decide (c19 < (v8.length:Int))))
  let p2:Nat×AV:=(18,.j c19)
  let p3:Nat×AV:=(17,.j (v8.length:Int))
  let p4:Nat×AV:=(16,.sl 1 (v8.map cdS.enc))
  refine AG (n:=93) AD 1 [(2,e1),(3,e15),p4,p3,p2,p1] hp (by kernel_rfl) ?_;refine AH rfl (SemX.fr (l':=[(2,e1),(3,e15),p4,p3,p2,p1]) (by kernel_rfl) ?_);refine SemX.seq ?_;refine SemX.cond (b:=(decide (c19 < (v8.length:Int)))) (by kernel_rfl) (fun hb20=>?_) (fun hb20=>?_)
  ·rw [if_pos hb20] at h
   refine SemX.skip ?_;refine SemX.seq ?_;refine SemX.block ?_;refine SemX.seq ?_;refine SemX.regionL ?_;obtain ⟨v21,hv21,h⟩:=OB h;refine AL AD 0 rfl (BY (AB rfl) rfl (Ad (a:= .sl 1 (v8.map cdS.enc)) (b:= .j c19) (by kernel_rfl) (by kernel_rfl) (Dn (e:=cdS.enc) (el:=9) (k:=1) (ki:= .i64) (by kernel_rfl) (by kernel_rfl) hv21))) ?_;refine AG (n:=93) AD 2 [(2,e1),(3,e15),(5,.st v21),p4,p3,p2] hp (by kernel_rfl) ?_;refine AH rfl (SemX.fr (l':=[(2,e1),(3,e15),(5,.st v21),p4,p3,p2]) (by kernel_rfl) ?_);refine Aq ?_;refine RunX.pre 2 ?_;refine AG (n:=93) AD 2 [(2,e1),(3,e15),p4,p3,p2,(23,.b (!(v21==[])))] hp (by kernel_rfl) ?_;refine AH rfl ?_;rcases Ao h with ⟨v22,hv22,h⟩ | ⟨v22x,hv22,hv22q⟩
   case inr=>exact CA (caps:=[]) (xs:=[.b (!(v21==[])),.j 3]) (u:=((!(v21==[])),3,())) rfl rfl At rfl (AB rfl) (by kernel_rfl) (by kernel_rfl) (AO (AZ (c:=cdB) (v:=(!(v21==[])))) (AO (AZ (c:=cdI) (v:=3)) SeesD.nil)) hv22 hv22q
   refine CB (caps:=[]) (xs:=[.b (!(v21==[])),.j 3]) (u:=((!(v21==[])),3,())) rfl rfl At rfl (AB rfl) (by kernel_rfl) (by kernel_rfl) (AO (AZ (c:=cdB) (v:=(!(v21==[])))) (AO (AZ (c:=cdI) (v:=3)) SeesD.nil)) (.inl (by kernel_rfl)) hv22 ?_;refine RunX.done rfl (SemX.fr (l':=[(2,e1),(3,e15),p4,p3,p2]) (by kernel_rfl) ?_);refine SemX.regionL ?_;refine AG (n:=93) AD 2 [(2,e1),(3,e15),p4,p3,(18,.j (wr .i64 (c19 + 1)))] hp (by kernel_rfl) ?_;refine AH rfl ?_;exact Er WkY.f1 (ih0 (wr .i64 (c19 + 1)) _ h  hp hT)
  ·rw [BH hb20] at h
   refine SemX.exit ?_;have hq:=OI h; subst hq;exact ⟨_,rfl,rfl,_,⟨hp,hT,rfl⟩,WkY.f1⟩
theorem GK {L:List Asn}{hp:Hp}(v36:(List UInt8)×(List (List UInt8))) (e1:AV) (e15:AV) (e28:AV) (r:(((List UInt8)×(List (List UInt8))×(List UInt8))) ⊕ Int) (h:ED v36=some r) (hT:T hp ((cel e15 1 126 (.sl 1 (v36.2.map cdS.enc)))::(cel e28 5 66 (.ag [.v (.int .u8 0),.st [],.b false,.sl 1 ([].map cdS.enc),.j 0]))::(cel e1 5 66 (.ag [.v (.int .u8 0),.st [],.b false,.sl 1 ([].map cdS.enc),.j 0]))::L)):SemX E0 ⟨none,false⟩ (pc BQ [1,1,1,1,1,0,1]) ⟨Fr 93 [(2,e1),(3,e15),(6,e28),(7,.st v36.1),(29,.b (v36.1==[97,109,111,110,103]))],hp⟩ (fun e s=>∃ q,r = .inl q/\e = .normal/\∃ s2,(∃ (h':Hp),T h' ((cel e1 5 66 (.ag [.v (.int .u8 0),.st [],.b false,.sl 1 ([].map cdS.enc),.j 0]))::(cel e15 1 126 (.sl 1 (q.2.1.map cdS.enc)))::(cel e28 5 66 (.ag [.v (.int .u8 0),.st q.2.2,.b false,.sl 1 ([].map cdS.enc),.j 0]))::L)/\s2=⟨Fr 93 [(2,e1),(3,e15),(6,e28),(7,.st q.1)],h'⟩)/\WkY E0 s s2) fun e _=>r = .inr e:=by
 unfold ED at h;refine SemX.cond (b:=(v36.1==[97,109,111,110,103])) (by kernel_rfl) (fun hb39=>?_) (fun hb39=>?_)
 ·rw [if_pos hb39] at h
  refine SemX.seq ?_;refine Aq ?_;refine RunX.pre 1 ?_;refine AG (n:=93) AD 1 [(2,e1),(3,e15),(6,e28),(30,e15)] hp (by kernel_rfl) ?_;refine AH rfl ?_;rcases Ao h with ⟨v40,hv40,h⟩ | ⟨v40x,hv40,hv40q⟩
  case inr=>exact Bi rfl rfl (fid:=66) (caps:=[]) (xs:=[e15]) (fn:=Tryz.f66) (c:=An) (Out:=fun _ _=>False) rfl (AB rfl) (by kernel_rfl) (by kernel_rfl) Tryz.func66 ⟨Tryz.call66⟩ (by kernel_rfl) (by show 1<=26; decide) (SemX.mono (As e15 v36.2 _ hv40 hT) (fun _ _ hh=>by obtain ⟨_,hh1,_⟩:=hh; cases hh1) (fun _ _ hh=>hh)) (fun _ _ hh=>by cases hh; exact hv40q) (fun _ _ hh=>hh.elim)
  refine Bi rfl rfl (fid:=66) (caps:=[]) (xs:=[e15]) (fn:=Tryz.f66) (c:=An) (Out:=fun v h'=>v = .st v40.1/\T h' ((cel e15 1 126 (.sl 1 (v40.2.map cdS.enc)))::(cel e28 5 66 (.ag [.v (.int .u8 0),.st [],.b false,.sl 1 ([].map cdS.enc),.j 0]))::(cel e1 5 66 (.ag [.v (.int .u8 0),.st [],.b false,.sl 1 ([].map cdS.enc),.j 0]))::L)) (PQ:=fun _ _=>False) rfl (AB rfl) (by kernel_rfl) (by kernel_rfl) Tryz.func66 ⟨Tryz.call66⟩ (by kernel_rfl) (by show 1<=26; decide) (SemX.inl (As e15 v36.2 _ hv40 hT)) (fun _ _ hh=>hh.elim) ?_;rintro xx hp41 ⟨hqhp41,hT420⟩; subst xx
  have hT42:T hp41 ((cel e15 1 126 (.sl 1 (v40.2.map cdS.enc)))::(cel e28 5 66 (.ag [.v (.int .u8 0),.st [],.b false,.sl 1 ([].map cdS.enc),.j 0]))::(cel e1 5 66 (.ag [.v (.int .u8 0),.st [],.b false,.sl 1 ([].map cdS.enc),.j 0]))::L):=hT420
  refine RunX.pre 2 ?_
  have hT43:T hp41 ((cel e28 5 66 (.ag [.v (.int .u8 0),.st [],.b false,.sl 1 ([].map cdS.enc),.j 0]))::(cel e15 1 126 (.sl 1 (v40.2.map cdS.enc)))::(cel e1 5 66 (.ag [.v (.int .u8 0),.st [],.b false,.sl 1 ([].map cdS.enc),.j 0]))::L):=(hT42.front 1 rfl)
  refine AL AD 0 rfl (BY (AB rfl) rfl (FP (a:=e28) (by kernel_rfl) (DX (off:=1) hT43 (by kernel_rfl)))) ?_;obtain ⟨hp44,hs45,hT460⟩:=G6 (off:=1) (P:=Tryz.prog) (ty:=9) (y:= .st v40.1) (a':= .ag [.v (.int .u8 0),.st v40.1,.b false,.sl 1 ([].map cdS.enc),.j 0]) hT43 (by kernel_rfl) (by kernel_rfl) (by kernel_rfl)
  have hT46:T hp44 ((cel e28 5 66 (.ag [.v (.int .u8 0),.st v40.1,.b false,.sl 1 ([].map cdS.enc),.j 0]))::(cel e15 1 126 (.sl 1 (v40.2.map cdS.enc)))::(cel e1 5 66 (.ag [.v (.int .u8 0),.st [],.b false,.sl 1 ([].map cdS.enc),.j 0]))::L):=hT460
  refine RunL.store AD (y:=Hs e28 1) (z:= .st v40.1) rfl (AB rfl) (by kernel_rfl) (by kernel_rfl) hs45 ?_;refine AH rfl ?_;refine RunX.done rfl (SemX.fr (l':=[(2,e1),(3,e15),(6,e28)]) (by kernel_rfl) ?_);refine Aq ?_;refine RunX.pre 1 ?_;refine AG (n:=93) AD 1 [(2,e1),(3,e15),(6,e28),(33,e15)] hp44 (by kernel_rfl) ?_;refine AH rfl ?_
  have hT47:T hp44 ((cel e15 1 126 (.sl 1 (v40.2.map cdS.enc)))::(cel e28 5 66 (.ag [.v (.int .u8 0),.st v40.1,.b false,.sl 1 ([].map cdS.enc),.j 0]))::(cel e1 5 66 (.ag [.v (.int .u8 0),.st [],.b false,.sl 1 ([].map cdS.enc),.j 0]))::L):=(hT46.front 1 rfl)
  rcases Ao h with ⟨v48,hv48,h⟩ | ⟨v48x,hv48,hv48q⟩
  case inr=>exact Bi rfl rfl (fid:=66) (caps:=[]) (xs:=[e15]) (fn:=Tryz.f66) (c:=An) (Out:=fun _ _=>False) rfl (AB rfl) (by kernel_rfl) (by kernel_rfl) Tryz.func66 ⟨Tryz.call66⟩ (by kernel_rfl) (by show 1<=26; decide) (SemX.mono (As e15 v40.2 _ hv48 hT47) (fun _ _ hh=>by obtain ⟨_,hh1,_⟩:=hh; cases hh1) (fun _ _ hh=>hh)) (fun _ _ hh=>by cases hh; exact hv48q) (fun _ _ hh=>hh.elim)
  refine Bi rfl rfl (fid:=66) (caps:=[]) (xs:=[e15]) (fn:=Tryz.f66) (c:=An) (Out:=fun v h'=>v = .st v48.1/\T h' ((cel e15 1 126 (.sl 1 (v48.2.map cdS.enc)))::(cel e28 5 66 (.ag [.v (.int .u8 0),.st v40.1,.b false,.sl 1 ([].map cdS.enc),.j 0]))::(cel e1 5 66 (.ag [.v (.int .u8 0),.st [],.b false,.sl 1 ([].map cdS.enc),.j 0]))::L)) (PQ:=fun _ _=>False) rfl (AB rfl) (by kernel_rfl) (by kernel_rfl) Tryz.func66 ⟨Tryz.call66⟩ (by kernel_rfl) (by show 1<=26; decide) (SemX.inl (As e15 v40.2 _ hv48 hT47)) (fun _ _ hh=>hh.elim) ?_;rintro xx hp49 ⟨hqhp49,hT500⟩; subst xx
  have hT50:T hp49 ((cel e15 1 126 (.sl 1 (v48.2.map cdS.enc)))::(cel e28 5 66 (.ag [.v (.int .u8 0),.st v40.1,.b false,.sl 1 ([].map cdS.enc),.j 0]))::(cel e1 5 66 (.ag [.v (.int .u8 0),.st [],.b false,.sl 1 ([].map cdS.enc),.j 0]))::L):=hT500
  refine RunX.pre 1 ?_;refine AG (n:=93) AD 1 [(2,e1),(3,e15),(6,e28),(7,.st v48.1)] hp49 (by kernel_rfl) ?_;refine AH rfl ?_;refine RunX.done rfl ?_;have hq:=OI h; subst hq
  have hT54:T hp49 ((cel e1 5 66 (.ag [.v (.int .u8 0),.st [],.b false,.sl 1 ([].map cdS.enc),.j 0]))::(cel e15 1 126 (.sl 1 (v48.2.map cdS.enc)))::(cel e28 5 66 (.ag [.v (.int .u8 0),.st v40.1,.b false,.sl 1 ([].map cdS.enc),.j 0]))::L):=(((hT50.front 1 rfl).front 1 rfl).front 2 rfl)
  exact ⟨_,rfl,rfl,_,⟨hp49,hT54,rfl⟩,WkY.f1⟩
 ·rw [BH hb39] at h
  refine SemX.skip ?_;have hq:=OI h; subst hq
  have hT55:T hp ((cel e1 5 66 (.ag [.v (.int .u8 0),.st [],.b false,.sl 1 ([].map cdS.enc),.j 0]))::(cel e15 1 126 (.sl 1 (v36.2.map cdS.enc)))::(cel e28 5 66 (.ag [.v (.int .u8 0),.st [],.b false,.sl 1 ([].map cdS.enc),.j 0]))::L):=(((hT.front 1 rfl).front 1 rfl).front 2 rfl)
  exact ⟨_,rfl,rfl,_,⟨hp,hT55,rfl⟩,WkY.f1⟩
theorem GL {L:List Asn}{hp:Hp}(r56:(List UInt8)×(List (List UInt8))×(List UInt8)) (c60:Int) (c61:Int) (v63:(List UInt8)) (e1:AV) (e15:AV) (e28:AV) (r:((Int)) ⊕ Int) (h:EE r56 c60 c61 v63=some r) (hT:T hp ((cel e1 5 66 (.ag [.v (.int .u8 0),.st [],.b false,.sl 1 ([].map cdS.enc),.j 0]))::(cel e15 1 126 (.sl 1 (r56.2.1.map cdS.enc)))::(cel e28 5 66 (.ag [.v (.int .u8 c61),.st r56.2.2,.b false,.sl 1 ([].map cdS.enc),.j 0]))::L)):SemX E0 ⟨none,false⟩ (pc BQ [1,1,1,1,1,1,0,1,0,0,1,0,0,1]) ⟨Fr 93 [(2,e1),(3,e15),(6,e28),(7,.st r56.1),(8,.v (.int .u8 c60)),(42,.b (v63==r56.1))],hp⟩ (fun e s=>∃ q,r = .inl q/\e = .normal/\∃ s2,(∃ (h':Hp),T h' ((cel e1 5 66 (.ag [.v (.int .u8 0),.st [],.b false,.sl 1 ([].map cdS.enc),.j 0]))::(cel e15 1 126 (.sl 1 (r56.2.1.map cdS.enc)))::(cel e28 5 66 (.ag [.v (.int .u8 q),.st r56.2.2,.b false,.sl 1 ([].map cdS.enc),.j 0]))::L)/\s2=⟨Fr 93 [(2,e1),(3,e15),(6,e28),(7,.st r56.1),(8,.v (.int .u8 c60))],h'⟩)/\WkY E0 s s2) fun e _=>r = .inr e:=by
 unfold EE at h;refine SemX.cond (b:=(v63==r56.1)) (by kernel_rfl) (fun hb64=>?_) (fun hb64=>?_)
 ·rw [if_pos hb64] at h
  refine SemX.regionL ?_;refine AG (n:=93) AD 1 [(2,e1),(3,e15),(6,e28),(7,.st r56.1),(8,.v (.int .u8 c60)),(43,.v (.int .u8 c60))] hp (by kernel_rfl) ?_
  have hT65:T hp ((cel e28 5 66 (.ag [.v (.int .u8 c61),.st r56.2.2,.b false,.sl 1 ([].map cdS.enc),.j 0]))::(cel e1 5 66 (.ag [.v (.int .u8 0),.st [],.b false,.sl 1 ([].map cdS.enc),.j 0]))::(cel e15 1 126 (.sl 1 (r56.2.1.map cdS.enc)))::L):=(hT.front 2 rfl)
  refine AL AD 0 rfl (BY (AB rfl) rfl (FP (a:=e28) (by kernel_rfl) (DX (off:=0) hT65 (by kernel_rfl)))) ?_;obtain ⟨hp66,hs67,hT680⟩:=G6 (off:=0) (P:=Tryz.prog) (ty:=64) (y:= .v (.int .u8 c60)) (a':= .ag [.v (.int .u8 c60),.st r56.2.2,.b false,.sl 1 ([].map cdS.enc),.j 0]) hT65 (by kernel_rfl) (by kernel_rfl) (by kernel_rfl)
  have hT68:T hp66 ((cel e28 5 66 (.ag [.v (.int .u8 c60),.st r56.2.2,.b false,.sl 1 ([].map cdS.enc),.j 0]))::(cel e1 5 66 (.ag [.v (.int .u8 0),.st [],.b false,.sl 1 ([].map cdS.enc),.j 0]))::(cel e15 1 126 (.sl 1 (r56.2.1.map cdS.enc)))::L):=hT680
  refine RunL.store AD (y:=Hs e28 0) (z:= .v (.int .u8 c60)) rfl (AB rfl) (by kernel_rfl) (by kernel_rfl) hs67 ?_;refine AH rfl ?_;have hq:=OI h; subst hq
  have hT70:T hp66 ((cel e1 5 66 (.ag [.v (.int .u8 0),.st [],.b false,.sl 1 ([].map cdS.enc),.j 0]))::(cel e15 1 126 (.sl 1 (r56.2.1.map cdS.enc)))::(cel e28 5 66 (.ag [.v (.int .u8 c60),.st r56.2.2,.b false,.sl 1 ([].map cdS.enc),.j 0]))::L):=((hT68.front 2 rfl).front 2 rfl)
  exact ⟨_,rfl,rfl,_,⟨hp66,hT70,rfl⟩,WkY.f1⟩
 ·rw [BH hb64] at h
  refine SemX.skip ?_;have hq:=OI h; subst hq;exact ⟨_,rfl,rfl,_,⟨hp,hT,rfl⟩,WkY.f1⟩
theorem GS {L:List Asn}(r56:(List UInt8)×(List (List UInt8))×(List UInt8)) (e1:AV) (e15:AV) (e28:AV):∀ (f:Nat) (c60:Int) (c61:Int) (r:((Int)) ⊕ Int),Cp r56 f c60 c61=some r->∀ (hp:Hp),T hp ((cel e1 5 66 (.ag [.v (.int .u8 0),.st [],.b false,.sl 1 ([].map cdS.enc),.j 0]))::(cel e15 1 126 (.sl 1 (r56.2.1.map cdS.enc)))::(cel e28 5 66 (.ag [.v (.int .u8 c61),.st r56.2.2,.b false,.sl 1 ([].map cdS.enc),.j 0]))::L)->SemXN E0 ⟨none,false⟩ (pc BQ [1,1,1,1,1,1,0,1,0,0]) f ⟨Fr 93 [(2,e1),(3,e15),(6,e28),(7,.st r56.1),(8,.v (.int .u8 c60))],hp⟩ (fun e s=>∃ q,r = .inl q/\e=(.exit 2)/\∃ s2,(∃ (h':Hp),T h' ((cel e1 5 66 (.ag [.v (.int .u8 0),.st [],.b false,.sl 1 ([].map cdS.enc),.j 0]))::(cel e15 1 126 (.sl 1 (r56.2.1.map cdS.enc)))::(cel e28 5 66 (.ag [.v (.int .u8 q),.st r56.2.2,.b false,.sl 1 ([].map cdS.enc),.j 0]))::L)/\s2=⟨Fr 93 [(2,e1),(3,e15),(6,e28)],h'⟩)/\WkY E0 s s2) fun e _=>r = .inr e:=by
 intro f;induction f with
 | zero=>intro c60 c61 r h; cases h
 | succ f ih0 =>
  intro c60 c61 r h  hp hT;unfold Cp at h;refine IT ?_;refine SemX.seq ?_;refine SemX.seq ?_;refine SemX.regionL ?_
  let p1:Nat×AV:=(36,.b (decide (c60<=10)))
  let p2:Nat×AV:=(8,.v (.int .u8 c60))
  let p3:Nat×AV:=(7,.st r56.1)
  refine AG (n:=93) AD 2 [(2,e1),(3,e15),(6,e28),p3,p2,p1] hp (by kernel_rfl) ?_;refine AH rfl (SemX.fr (l':=[(2,e1),(3,e15),(6,e28),p3,p2,p1]) (by kernel_rfl) ?_);refine SemX.cond (b:=(decide (c60<=10))) (by kernel_rfl) (fun hb62=>?_) (fun hb62=>?_)
  ·rw [if_pos hb62] at h
   refine SemX.skip ?_;refine SemX.seq ?_;refine SemX.block ?_;refine SemX.seq ?_;refine SemX.regionL ?_;refine AG (n:=93) AD 1 [(2,e1),(3,e15),(6,e28),p3,p2,(39,.v (.int .u8 c60))] hp (by kernel_rfl) ?_;obtain ⟨v63,hv63,h⟩:=OB h;refine Gt (v:=v63) (caps:=[]) (xs:=[.v (.int .u8 c60)]) (u:=(c60,())) rfl rfl Nq rfl (AB rfl) (by kernel_rfl) (by kernel_rfl) (AO (AZ (c:=(cdK .u8)) (v:=c60)) SeesD.nil) (.inl (by kernel_rfl)) hv63 ?_;refine AG (n:=93) AD 2 [(2,e1),(3,e15),(6,e28),p3,p2,(42,.b (v63==r56.1))] hp (by kernel_rfl) ?_;refine AH rfl (SemX.fr (l':=[(2,e1),(3,e15),(6,e28),p3,p2,(42,.b (v63==r56.1))]) (by kernel_rfl) ?_);rcases Ao h with ⟨r71,hr71,h⟩ | ⟨er72,hr71,hr71q⟩
   case inr=>exact SemX.inr (GL r56 c60 c61 v63 e1 e15 e28 _ hr71 hT) (fun _=>hr71q)
   refine Eu (SemX.inl (GL r56 c60 c61 v63 e1 e15 e28 _ hr71 hT)) ?_;rintro _ ⟨hp73,hT74,rfl⟩;refine SemX.regionL ?_;refine AG (n:=93) AD 3 [(2,e1),(3,e15),(6,e28),p3,(8,.v (.int .u8 (wr .u8 (c60 + 1))))] hp73 (by kernel_rfl) ?_;refine AH rfl ?_;exact Er WkY.f1 (ih0 (wr .u8 (c60 + 1)) r71 _ h  hp73 hT74)
  ·rw [BH hb62] at h
   refine SemX.exit ?_;have hq:=OI h; subst hq;exact ⟨_,rfl,rfl,_,⟨hp,hT,rfl⟩,WkY.f1⟩
theorem GP {L:List Asn}{hp:Hp}(r76:Int) (e1:AV) (e15:AV) (e28:AV) (r56:(List UInt8)×(List (List UInt8))×(List UInt8)) (r:((Bool)) ⊕ Int) (h:DD r76=some r) (hT:T hp ((cel e28 5 66 (.ag [.v (.int .u8 r76),.st r56.2.2,.b false,.sl 1 ([].map cdS.enc),.j 0]))::(cel e1 5 66 (.ag [.v (.int .u8 0),.st [],.b false,.sl 1 ([].map cdS.enc),.j 0]))::(cel e15 1 126 (.sl 1 (r56.2.1.map cdS.enc)))::L)):SemX E0 ⟨none,false⟩ (pc BQ [1,1,1,1,1,1,1,1,0,1,0,1,1,1,1,1,1,0,1]) ⟨Fr 93 [(2,e1),(3,e15),(6,e28),(50,.v (.int .u8 r76)),(70,.b (r76==6))],hp⟩ (fun e s=>∃ q,r = .inl q/\e = .normal/\∃ s2,(∃ (h':Hp),T h' ((cel e1 5 66 (.ag [.v (.int .u8 0),.st [],.b false,.sl 1 ([].map cdS.enc),.j 0]))::(cel e15 1 126 (.sl 1 (r56.2.1.map cdS.enc)))::(cel e28 5 66 (.ag [.v (.int .u8 r76),.st r56.2.2,.b false,.sl 1 ([].map cdS.enc),.j 0]))::L)/\s2=⟨Fr 93 [(2,e1),(3,e15),(6,e28),(50,.v (.int .u8 r76)),(70,.b q)],h'⟩)/\WkY E0 s s2) fun e _=>r = .inr e:=by
 unfold DD at h;refine SemX.cond (b:=(r76==6)) (by kernel_rfl) (fun hb133=>?_) (fun hb133=>?_)
 ·rw [if_pos hb133] at h
  refine SemX.skip ?_;have hq:=OI h; subst hq
  have hT135:T hp ((cel e1 5 66 (.ag [.v (.int .u8 0),.st [],.b false,.sl 1 ([].map cdS.enc),.j 0]))::(cel e15 1 126 (.sl 1 (r56.2.1.map cdS.enc)))::(cel e28 5 66 (.ag [.v (.int .u8 r76),.st r56.2.2,.b false,.sl 1 ([].map cdS.enc),.j 0]))::L):=((hT.front 2 rfl).front 2 rfl)
  exact ⟨_,rfl,rfl,_,⟨hp,hT135,rfl⟩,WkY.f1⟩
 ·rw [BH hb133] at h
  refine SemX.regionL ?_;refine AG (n:=93) AD 2 [(2,e1),(3,e15),(6,e28),(50,.v (.int .u8 r76)),(70,.b (r76==7))] hp (by kernel_rfl) ?_;refine AH rfl ?_;have hq:=OI h; subst hq
  have hT136:T hp ((cel e1 5 66 (.ag [.v (.int .u8 0),.st [],.b false,.sl 1 ([].map cdS.enc),.j 0]))::(cel e15 1 126 (.sl 1 (r56.2.1.map cdS.enc)))::(cel e28 5 66 (.ag [.v (.int .u8 r76),.st r56.2.2,.b false,.sl 1 ([].map cdS.enc),.j 0]))::L):=((hT.front 2 rfl).front 2 rfl)
  exact ⟨_,rfl,rfl,_,⟨hp,hT136,rfl⟩,WkY.f1⟩
theorem Fn {L:List Asn}{hp:Hp}(r56:(List UInt8)×(List (List UInt8))×(List UInt8)) (r76:Int) (e1:AV) (e15:AV) (e28:AV) (r:(((List (List UInt8))×Int)) ⊕ Int) (h:Dy r56 r76=some r) (hT:T hp ((cel e1 5 66 (.ag [.v (.int .u8 0),.st [],.b false,.sl 1 ([].map cdS.enc),.j 0]))::(cel e15 1 126 (.sl 1 (r56.2.1.map cdS.enc)))::(cel e28 5 66 (.ag [.v (.int .u8 r76),.st r56.2.2,.b false,.sl 1 ([].map cdS.enc),.j 0]))::L)):SemX E0 ⟨none,false⟩ (pc BQ [1,1,1,1,1,1,1,1,0,1,0,1,1,1,1,1,1,1,1,1]) ⟨Fr 93 [(2,e1),(3,e15),(6,e28),(79,.b (r76==10))],hp⟩ (fun e s=>∃ q,r = .inl q/\e = .normal/\∃ s2,(∃ (h':Hp),T h' ((cel e1 5 66 (.ag [.v (.int .u8 0),.st [],.b false,.sl 1 ([].map cdS.enc),.j 0]))::(cel e15 1 126 (.sl 1 (q.1.map cdS.enc)))::(cel e28 5 66 (.ag [.v (.int .u8 r76),.st r56.2.2,.b false,.sl 1 ([].map cdS.enc),.j q.2]))::L)/\s2=⟨Fr 93 [(2,e1),(3,e15),(6,e28)],h'⟩)/\WkY E0 s s2) fun e _=>r = .inr e:=by
 unfold Dy at h;refine SemX.cond (b:=(r76==10)) (by kernel_rfl) (fun hb163=>?_) (fun hb163=>?_)
 ·rw [if_pos hb163] at h
  refine Aq ?_;refine RunX.pre 1 ?_;refine AG (n:=93) AD 1 [(2,e1),(3,e15),(6,e28),(81,e15)] hp (by kernel_rfl) ?_;refine AH rfl ?_
  have hT164:T hp ((cel e15 1 126 (.sl 1 (r56.2.1.map cdS.enc)))::(cel e1 5 66 (.ag [.v (.int .u8 0),.st [],.b false,.sl 1 ([].map cdS.enc),.j 0]))::(cel e28 5 66 (.ag [.v (.int .u8 r76),.st r56.2.2,.b false,.sl 1 ([].map cdS.enc),.j 0]))::L):=(hT.front 1 rfl)
  rcases Ao h with ⟨v165,hv165,h⟩ | ⟨v165x,hv165,hv165q⟩
  case inr=>exact Bi rfl rfl (fid:=66) (caps:=[]) (xs:=[e15]) (fn:=Tryz.f66) (c:=An) (Out:=fun _ _=>False) rfl (AB rfl) (by kernel_rfl) (by kernel_rfl) Tryz.func66 ⟨Tryz.call66⟩ (by kernel_rfl) (by show 1<=26; decide) (SemX.mono (As e15 r56.2.1 _ hv165 hT164) (fun _ _ hh=>by obtain ⟨_,hh1,_⟩:=hh; cases hh1) (fun _ _ hh=>hh)) (fun _ _ hh=>by cases hh; exact hv165q) (fun _ _ hh=>hh.elim)
  refine Bi rfl rfl (fid:=66) (caps:=[]) (xs:=[e15]) (fn:=Tryz.f66) (c:=An) (Out:=fun v h'=>v = .st v165.1/\T h' ((cel e15 1 126 (.sl 1 (v165.2.map cdS.enc)))::(cel e1 5 66 (.ag [.v (.int .u8 0),.st [],.b false,.sl 1 ([].map cdS.enc),.j 0]))::(cel e28 5 66 (.ag [.v (.int .u8 r76),.st r56.2.2,.b false,.sl 1 ([].map cdS.enc),.j 0]))::L)) (PQ:=fun _ _=>False) rfl (AB rfl) (by kernel_rfl) (by kernel_rfl) Tryz.func66 ⟨Tryz.call66⟩ (by kernel_rfl) (by show 1<=26; decide) (SemX.inl (As e15 r56.2.1 _ hv165 hT164)) (fun _ _ hh=>hh.elim) ?_;rintro xx hp166 ⟨hqhp166,hT1670⟩; subst xx
  have hT167:T hp166 ((cel e15 1 126 (.sl 1 (v165.2.map cdS.enc)))::(cel e1 5 66 (.ag [.v (.int .u8 0),.st [],.b false,.sl 1 ([].map cdS.enc),.j 0]))::(cel e28 5 66 (.ag [.v (.int .u8 r76),.st r56.2.2,.b false,.sl 1 ([].map cdS.enc),.j 0]))::L):=hT1670
  rcases Ao h with ⟨v168,hv168,h⟩ | ⟨v168x,hv168,hv168q⟩
  case inr=>exact CA (caps:=[]) (xs:=[.st v165.1]) (u:=(v165.1,())) rfl rfl Et rfl (AB rfl) (by kernel_rfl) (by kernel_rfl) (AO (AZ (c:=cdS) (v:=v165.1)) SeesD.nil) hv168 hv168q
  refine CB (caps:=[]) (xs:=[.st v165.1]) (u:=(v165.1,())) rfl rfl Et rfl (AB rfl) (by kernel_rfl) (by kernel_rfl) (AO (AZ (c:=cdS) (v:=v165.1)) SeesD.nil) (.inl (by kernel_rfl)) hv168 ?_;refine RunX.pre 2 ?_
  have hT169:T hp166 ((cel e28 5 66 (.ag [.v (.int .u8 r76),.st r56.2.2,.b false,.sl 1 ([].map cdS.enc),.j 0]))::(cel e15 1 126 (.sl 1 (v165.2.map cdS.enc)))::(cel e1 5 66 (.ag [.v (.int .u8 0),.st [],.b false,.sl 1 ([].map cdS.enc),.j 0]))::L):=(hT167.front 2 rfl)
  refine AL AD 0 rfl (BY (AB rfl) rfl (FP (a:=e28) (by kernel_rfl) (DX (off:=4) hT169 (by kernel_rfl)))) ?_;obtain ⟨hp170,hs171,hT1720⟩:=G6 (off:=4) (P:=Tryz.prog) (ty:=3) (y:= .j v168) (a':= .ag [.v (.int .u8 r76),.st r56.2.2,.b false,.sl 1 ([].map cdS.enc),.j v168]) hT169 (by kernel_rfl) (by kernel_rfl) (by kernel_rfl)
  have hT172:T hp170 ((cel e28 5 66 (.ag [.v (.int .u8 r76),.st r56.2.2,.b false,.sl 1 ([].map cdS.enc),.j v168]))::(cel e15 1 126 (.sl 1 (v165.2.map cdS.enc)))::(cel e1 5 66 (.ag [.v (.int .u8 0),.st [],.b false,.sl 1 ([].map cdS.enc),.j 0]))::L):=hT1720
  refine RunL.store AD (y:=Hs e28 4) (z:= .j v168) rfl (AB rfl) (by kernel_rfl) (by kernel_rfl) hs171 ?_;refine AH rfl ?_;refine RunX.done rfl ?_;have hq:=OI h; subst hq
  have hT175:T hp170 ((cel e1 5 66 (.ag [.v (.int .u8 0),.st [],.b false,.sl 1 ([].map cdS.enc),.j 0]))::(cel e15 1 126 (.sl 1 (v165.2.map cdS.enc)))::(cel e28 5 66 (.ag [.v (.int .u8 r76),.st r56.2.2,.b false,.sl 1 ([].map cdS.enc),.j v168]))::L):=((hT172.front 1 rfl).front 2 rfl)
  exact ⟨_,rfl,rfl,_,⟨hp170,hT175,rfl⟩,WkY.f1⟩
 ·rw [BH hb163] at h
  refine SemX.skip ?_;have hq:=OI h; subst hq;exact ⟨_,rfl,rfl,_,⟨hp,hT,rfl⟩,WkY.f1⟩
theorem GQ {L:List Asn}{hp:Hp}(r56:(List UInt8)×(List (List UInt8))×(List UInt8)) (r76:Int) (r137:Bool) (e1:AV) (e15:AV) (e28:AV) (r:(((List (List UInt8))×Bool×(List (List UInt8))×Int)) ⊕ Int) (h:DE r56 r76 r137=some r) (hT:T hp ((cel e1 5 66 (.ag [.v (.int .u8 0),.st [],.b false,.sl 1 ([].map cdS.enc),.j 0]))::(cel e15 1 126 (.sl 1 (r56.2.1.map cdS.enc)))::(cel e28 5 66 (.ag [.v (.int .u8 r76),.st r56.2.2,.b false,.sl 1 ([].map cdS.enc),.j 0]))::L)):SemX E0 ⟨none,false⟩ (pc BQ [1,1,1,1,1,1,1,1,0,1,0,1,1,1,1,1,1,1]) ⟨Fr 93 [(2,e1),(3,e15),(6,e28),(50,.v (.int .u8 r76)),(70,.b r137)],hp⟩ (fun e s=>∃ q,r = .inl q/\e = .normal/\∃ s2,(∃ (h':Hp),T h' ((cel e1 5 66 (.ag [.v (.int .u8 0),.st [],.b false,.sl 1 ([].map cdS.enc),.j 0]))::(cel e15 1 126 (.sl 1 (q.1.map cdS.enc)))::(cel e28 5 66 (.ag [.v (.int .u8 r76),.st r56.2.2,.b q.2.1,.sl 1 (q.2.2.1.map cdS.enc),.j q.2.2.2]))::L)/\s2=⟨Fr 93 [(2,e1),(3,e15),(6,e28)],h'⟩)/\WkY E0 s s2) fun e _=>r = .inr e:=by
 unfold DE at h;refine SemX.cond (b:=r137) (by kernel_rfl) (fun hb141=>?_) (fun hb141=>?_)
 ·rw [if_pos hb141] at h
  refine SemX.seq ?_;refine Aq ?_;refine RunX.pre 1 ?_;refine AG (n:=93) AD 1 [(2,e1),(3,e15),(6,e28),(73,e15)] hp (by kernel_rfl) ?_;refine AH rfl ?_
  have hT142:T hp ((cel e15 1 126 (.sl 1 (r56.2.1.map cdS.enc)))::(cel e1 5 66 (.ag [.v (.int .u8 0),.st [],.b false,.sl 1 ([].map cdS.enc),.j 0]))::(cel e28 5 66 (.ag [.v (.int .u8 r76),.st r56.2.2,.b false,.sl 1 ([].map cdS.enc),.j 0]))::L):=(hT.front 1 rfl)
  rcases Ao h with ⟨v143,hv143,h⟩ | ⟨v143x,hv143,hv143q⟩
  case inr=>exact Bi rfl rfl (fid:=69) (caps:=[]) (xs:=[e15]) (fn:=Tryz.f69) (c:=BW) (Out:=fun _ _=>False) rfl (AB rfl) (by kernel_rfl) (by kernel_rfl) Tryz.func69 ⟨Tryz.call69⟩ (by kernel_rfl) (by show 1<=15; decide) (SemX.mono (Bh e15 r56.2.1 _ hv143 hT142) (fun _ _ hh=>by obtain ⟨_,hh1,_⟩:=hh; cases hh1) (fun _ _ hh=>hh)) (fun _ _ hh=>by cases hh; exact hv143q) (fun _ _ hh=>hh.elim)
  refine Bi rfl rfl (fid:=69) (caps:=[]) (xs:=[e15]) (fn:=Tryz.f69) (c:=BW) (Out:=fun v h'=>v = .b v143.1/\T h' ((cel e15 1 126 (.sl 1 (v143.2.map cdS.enc)))::(cel e1 5 66 (.ag [.v (.int .u8 0),.st [],.b false,.sl 1 ([].map cdS.enc),.j 0]))::(cel e28 5 66 (.ag [.v (.int .u8 r76),.st r56.2.2,.b false,.sl 1 ([].map cdS.enc),.j 0]))::L)) (PQ:=fun _ _=>False) rfl (AB rfl) (by kernel_rfl) (by kernel_rfl) Tryz.func69 ⟨Tryz.call69⟩ (by kernel_rfl) (by show 1<=15; decide) (SemX.inl (Bh e15 r56.2.1 _ hv143 hT142)) (fun _ _ hh=>hh.elim) ?_;rintro xx hp144 ⟨hqhp144,hT1450⟩; subst xx
  have hT145:T hp144 ((cel e15 1 126 (.sl 1 (v143.2.map cdS.enc)))::(cel e1 5 66 (.ag [.v (.int .u8 0),.st [],.b false,.sl 1 ([].map cdS.enc),.j 0]))::(cel e28 5 66 (.ag [.v (.int .u8 r76),.st r56.2.2,.b false,.sl 1 ([].map cdS.enc),.j 0]))::L):=hT1450
  refine RunX.pre 2 ?_
  have hT146:T hp144 ((cel e28 5 66 (.ag [.v (.int .u8 r76),.st r56.2.2,.b false,.sl 1 ([].map cdS.enc),.j 0]))::(cel e15 1 126 (.sl 1 (v143.2.map cdS.enc)))::(cel e1 5 66 (.ag [.v (.int .u8 0),.st [],.b false,.sl 1 ([].map cdS.enc),.j 0]))::L):=(hT145.front 2 rfl)
  refine AL AD 0 rfl (BY (AB rfl) rfl (FP (a:=e28) (by kernel_rfl) (DX (off:=2) hT146 (by kernel_rfl)))) ?_;obtain ⟨hp147,hs148,hT1490⟩:=G6 (off:=2) (P:=Tryz.prog) (ty:=4) (y:= .b v143.1) (a':= .ag [.v (.int .u8 r76),.st r56.2.2,.b v143.1,.sl 1 ([].map cdS.enc),.j 0]) hT146 (by kernel_rfl) (by kernel_rfl) (by kernel_rfl)
  have hT149:T hp147 ((cel e28 5 66 (.ag [.v (.int .u8 r76),.st r56.2.2,.b v143.1,.sl 1 ([].map cdS.enc),.j 0]))::(cel e15 1 126 (.sl 1 (v143.2.map cdS.enc)))::(cel e1 5 66 (.ag [.v (.int .u8 0),.st [],.b false,.sl 1 ([].map cdS.enc),.j 0]))::L):=hT1490
  refine RunL.store AD (y:=Hs e28 2) (z:= .b v143.1) rfl (AB rfl) (by kernel_rfl) (by kernel_rfl) hs148 ?_;refine AH rfl ?_;refine RunX.done rfl (SemX.fr (l':=[(2,e1),(3,e15),(6,e28)]) (by kernel_rfl) ?_);refine Aq ?_;refine RunX.pre 1 ?_;refine AG (n:=93) AD 1 [(2,e1),(3,e15),(6,e28),(76,e15)] hp147 (by kernel_rfl) ?_;refine AH rfl ?_
  have hT150:T hp147 ((cel e15 1 126 (.sl 1 (v143.2.map cdS.enc)))::(cel e28 5 66 (.ag [.v (.int .u8 r76),.st r56.2.2,.b v143.1,.sl 1 ([].map cdS.enc),.j 0]))::(cel e1 5 66 (.ag [.v (.int .u8 0),.st [],.b false,.sl 1 ([].map cdS.enc),.j 0]))::L):=(hT149.front 1 rfl)
  rcases Ao h with ⟨v151,hv151,h⟩ | ⟨v151x,hv151,hv151q⟩
  case inr=>exact Bi rfl rfl (fid:=67) (caps:=[]) (xs:=[e15]) (fn:=Tryz.f67) (c:=Bw) (Out:=fun _ _=>False) rfl (AB rfl) (by kernel_rfl) (by kernel_rfl) Tryz.func67 ⟨Tryz.call67⟩ (by kernel_rfl) (by show 1<=19; decide) (SemX.mono (CP e15 v143.2 _ hv151 hT150) (fun _ _ hh=>by obtain ⟨_,hh1,_⟩:=hh; cases hh1) (fun _ _ hh=>hh)) (fun _ _ hh=>by cases hh; exact hv151q) (fun _ _ hh=>hh.elim)
  refine Bi rfl rfl (fid:=67) (caps:=[]) (xs:=[e15]) (fn:=Tryz.f67) (c:=Bw) (Out:=fun v h'=>v = .sl 1 (v151.1.map cdS.enc)/\T h' ((cel e15 1 126 (.sl 1 (v151.2.map cdS.enc)))::(cel e28 5 66 (.ag [.v (.int .u8 r76),.st r56.2.2,.b v143.1,.sl 1 ([].map cdS.enc),.j 0]))::(cel e1 5 66 (.ag [.v (.int .u8 0),.st [],.b false,.sl 1 ([].map cdS.enc),.j 0]))::L)) (PQ:=fun _ _=>False) rfl (AB rfl) (by kernel_rfl) (by kernel_rfl) Tryz.func67 ⟨Tryz.call67⟩ (by kernel_rfl) (by show 1<=19; decide) (SemX.inl (CP e15 v143.2 _ hv151 hT150)) (fun _ _ hh=>hh.elim) ?_;rintro xx hp152 ⟨hqhp152,hT1530⟩; subst xx
  have hT153:T hp152 ((cel e15 1 126 (.sl 1 (v151.2.map cdS.enc)))::(cel e28 5 66 (.ag [.v (.int .u8 r76),.st r56.2.2,.b v143.1,.sl 1 ([].map cdS.enc),.j 0]))::(cel e1 5 66 (.ag [.v (.int .u8 0),.st [],.b false,.sl 1 ([].map cdS.enc),.j 0]))::L):=hT1530
  refine RunX.pre 2 ?_
  have hT154:T hp152 ((cel e28 5 66 (.ag [.v (.int .u8 r76),.st r56.2.2,.b v143.1,.sl 1 ([].map cdS.enc),.j 0]))::(cel e15 1 126 (.sl 1 (v151.2.map cdS.enc)))::(cel e1 5 66 (.ag [.v (.int .u8 0),.st [],.b false,.sl 1 ([].map cdS.enc),.j 0]))::L):=(hT153.front 1 rfl)
  refine AL AD 0 rfl (BY (AB rfl) rfl (FP (a:=e28) (by kernel_rfl) (DX (off:=3) hT154 (by kernel_rfl)))) ?_;obtain ⟨hp155,hs156,hT1570⟩:=G6 (off:=3) (P:=Tryz.prog) (ty:=45) (y:= .sl 1 (v151.1.map cdS.enc)) (a':= .ag [.v (.int .u8 r76),.st r56.2.2,.b v143.1,.sl 1 (v151.1.map cdS.enc),.j 0]) hT154 (by kernel_rfl) (by kernel_rfl) (by kernel_rfl)
  have hT157:T hp155 ((cel e28 5 66 (.ag [.v (.int .u8 r76),.st r56.2.2,.b v143.1,.sl 1 (v151.1.map cdS.enc),.j 0]))::(cel e15 1 126 (.sl 1 (v151.2.map cdS.enc)))::(cel e1 5 66 (.ag [.v (.int .u8 0),.st [],.b false,.sl 1 ([].map cdS.enc),.j 0]))::L):=hT1570
  refine RunL.store AD (y:=Hs e28 3) (z:= .sl 1 (v151.1.map cdS.enc)) rfl (AB rfl) (by kernel_rfl) (by kernel_rfl) hs156 ?_;refine AH rfl ?_;refine RunX.done rfl ?_;have hq:=OI h; subst hq
  have hT162:T hp155 ((cel e1 5 66 (.ag [.v (.int .u8 0),.st [],.b false,.sl 1 ([].map cdS.enc),.j 0]))::(cel e15 1 126 (.sl 1 (v151.2.map cdS.enc)))::(cel e28 5 66 (.ag [.v (.int .u8 r76),.st r56.2.2,.b v143.1,.sl 1 (v151.1.map cdS.enc),.j 0]))::L):=((hT157.front 1 rfl).front 2 rfl)
  exact ⟨_,rfl,rfl,_,⟨hp155,hT162,rfl⟩,WkY.f1⟩
 ·rw [BH hb141] at h
  refine SemX.seq ?_;refine SemX.regionL ?_;refine AG (n:=93) AD 2 [(2,e1),(3,e15),(6,e28),(79,.b (r76==10))] hp (by kernel_rfl) ?_;refine AH rfl (SemX.fr (l':=[(2,e1),(3,e15),(6,e28),(79,.b (r76==10))]) (by kernel_rfl) ?_);rcases Ao h with ⟨r176,hr176,h⟩ | ⟨er177,hr176,hr176q⟩
  case inr=>exact SemX.inr (Fn r56 r76 e1 e15 e28 _ hr176 hT) (fun _=>hr176q)
  refine Eu (SemX.inl (Fn r56 r76 e1 e15 e28 _ hr176 hT)) ?_;rintro _ ⟨hp178,hT179,rfl⟩;have hq:=OI h; subst hq;exact ⟨_,rfl,rfl,_,⟨hp178,hT179,rfl⟩,WkY.f1⟩
theorem GO {L:List Asn}{hp:Hp}(r56:(List UInt8)×(List (List UInt8))×(List UInt8)) (r76:Int) (e1:AV) (e15:AV) (e28:AV) (r:(((List (List UInt8))×Bool×(List (List UInt8))×Int)) ⊕ Int) (h:Co r56 r76=some r) (hT:T hp ((cel e28 5 66 (.ag [.v (.int .u8 r76),.st r56.2.2,.b false,.sl 1 ([].map cdS.enc),.j 0]))::(cel e1 5 66 (.ag [.v (.int .u8 0),.st [],.b false,.sl 1 ([].map cdS.enc),.j 0]))::(cel e15 1 126 (.sl 1 (r56.2.1.map cdS.enc)))::L)):SemX E0 ⟨none,false⟩ (pc BQ [1,1,1,1,1,1,1,1,0,1,0,1,1,1,1,1]) ⟨Fr 93 [(2,e1),(3,e15),(6,e28),(50,.v (.int .u8 r76)),(65,.b (r76==5))],hp⟩ (fun e s=>∃ q,r = .inl q/\e = .normal/\∃ s2,(∃ (h':Hp),T h' ((cel e1 5 66 (.ag [.v (.int .u8 0),.st [],.b false,.sl 1 ([].map cdS.enc),.j 0]))::(cel e15 1 126 (.sl 1 (q.1.map cdS.enc)))::(cel e28 5 66 (.ag [.v (.int .u8 r76),.st r56.2.2,.b q.2.1,.sl 1 (q.2.2.1.map cdS.enc),.j q.2.2.2]))::L)/\s2=⟨Fr 93 [(2,e1),(3,e15),(6,e28)],h'⟩)/\WkY E0 s s2) fun e _=>r = .inr e:=by
 unfold Co at h;refine SemX.cond (b:=(r76==5)) (by kernel_rfl) (fun hb119=>?_) (fun hb119=>?_)
 ·rw [if_pos hb119] at h
  refine Aq ?_;refine RunX.pre 1 ?_;refine AG (n:=93) AD 1 [(2,e1),(3,e15),(6,e28),(67,e15)] hp (by kernel_rfl) ?_;refine AH rfl ?_
  have hT120:T hp ((cel e15 1 126 (.sl 1 (r56.2.1.map cdS.enc)))::(cel e28 5 66 (.ag [.v (.int .u8 r76),.st r56.2.2,.b false,.sl 1 ([].map cdS.enc),.j 0]))::(cel e1 5 66 (.ag [.v (.int .u8 0),.st [],.b false,.sl 1 ([].map cdS.enc),.j 0]))::L):=(hT.front 2 rfl)
  rcases Ao h with ⟨v121,hv121,h⟩ | ⟨v121x,hv121,hv121q⟩
  case inr=>exact Bi rfl rfl (fid:=69) (caps:=[]) (xs:=[e15]) (fn:=Tryz.f69) (c:=BW) (Out:=fun _ _=>False) rfl (AB rfl) (by kernel_rfl) (by kernel_rfl) Tryz.func69 ⟨Tryz.call69⟩ (by kernel_rfl) (by show 1<=15; decide) (SemX.mono (Bh e15 r56.2.1 _ hv121 hT120) (fun _ _ hh=>by obtain ⟨_,hh1,_⟩:=hh; cases hh1) (fun _ _ hh=>hh)) (fun _ _ hh=>by cases hh; exact hv121q) (fun _ _ hh=>hh.elim)
  refine Bi rfl rfl (fid:=69) (caps:=[]) (xs:=[e15]) (fn:=Tryz.f69) (c:=BW) (Out:=fun v h'=>v = .b v121.1/\T h' ((cel e15 1 126 (.sl 1 (v121.2.map cdS.enc)))::(cel e28 5 66 (.ag [.v (.int .u8 r76),.st r56.2.2,.b false,.sl 1 ([].map cdS.enc),.j 0]))::(cel e1 5 66 (.ag [.v (.int .u8 0),.st [],.b false,.sl 1 ([].map cdS.enc),.j 0]))::L)) (PQ:=fun _ _=>False) rfl (AB rfl) (by kernel_rfl) (by kernel_rfl) Tryz.func69 ⟨Tryz.call69⟩ (by kernel_rfl) (by show 1<=15; decide) (SemX.inl (Bh e15 r56.2.1 _ hv121 hT120)) (fun _ _ hh=>hh.elim) ?_;rintro xx hp122 ⟨hqhp122,hT1230⟩; subst xx
  have hT123:T hp122 ((cel e15 1 126 (.sl 1 (v121.2.map cdS.enc)))::(cel e28 5 66 (.ag [.v (.int .u8 r76),.st r56.2.2,.b false,.sl 1 ([].map cdS.enc),.j 0]))::(cel e1 5 66 (.ag [.v (.int .u8 0),.st [],.b false,.sl 1 ([].map cdS.enc),.j 0]))::L):=hT1230
  refine RunX.pre 2 ?_
  have hT124:T hp122 ((cel e28 5 66 (.ag [.v (.int .u8 r76),.st r56.2.2,.b false,.sl 1 ([].map cdS.enc),.j 0]))::(cel e15 1 126 (.sl 1 (v121.2.map cdS.enc)))::(cel e1 5 66 (.ag [.v (.int .u8 0),.st [],.b false,.sl 1 ([].map cdS.enc),.j 0]))::L):=(hT123.front 1 rfl)
  refine AL AD 0 rfl (BY (AB rfl) rfl (FP (a:=e28) (by kernel_rfl) (DX (off:=2) hT124 (by kernel_rfl)))) ?_;obtain ⟨hp125,hs126,hT1270⟩:=G6 (off:=2) (P:=Tryz.prog) (ty:=4) (y:= .b v121.1) (a':= .ag [.v (.int .u8 r76),.st r56.2.2,.b v121.1,.sl 1 ([].map cdS.enc),.j 0]) hT124 (by kernel_rfl) (by kernel_rfl) (by kernel_rfl)
  have hT127:T hp125 ((cel e28 5 66 (.ag [.v (.int .u8 r76),.st r56.2.2,.b v121.1,.sl 1 ([].map cdS.enc),.j 0]))::(cel e15 1 126 (.sl 1 (v121.2.map cdS.enc)))::(cel e1 5 66 (.ag [.v (.int .u8 0),.st [],.b false,.sl 1 ([].map cdS.enc),.j 0]))::L):=hT1270
  refine RunL.store AD (y:=Hs e28 2) (z:= .b v121.1) rfl (AB rfl) (by kernel_rfl) (by kernel_rfl) hs126 ?_;refine AH rfl ?_;refine RunX.done rfl ?_;have hq:=OI h; subst hq
  have hT132:T hp125 ((cel e1 5 66 (.ag [.v (.int .u8 0),.st [],.b false,.sl 1 ([].map cdS.enc),.j 0]))::(cel e15 1 126 (.sl 1 (v121.2.map cdS.enc)))::(cel e28 5 66 (.ag [.v (.int .u8 r76),.st r56.2.2,.b v121.1,.sl 1 ([].map cdS.enc),.j 0]))::L):=((hT127.front 1 rfl).front 2 rfl)
  exact ⟨_,rfl,rfl,_,⟨hp125,hT132,rfl⟩,WkY.f1⟩
 ·rw [BH hb119] at h
  refine SemX.seq ?_;refine SemX.seq ?_;refine SemX.regionL ?_;refine AG (n:=93) AD 2 [(2,e1),(3,e15),(6,e28),(50,.v (.int .u8 r76)),(70,.b (r76==6))] hp (by kernel_rfl) ?_;refine AH rfl (SemX.fr (l':=[(2,e1),(3,e15),(6,e28),(50,.v (.int .u8 r76)),(70,.b (r76==6))]) (by kernel_rfl) ?_);rcases Ao h with ⟨r137,hr137,h⟩ | ⟨er138,hr137,hr137q⟩
  case inr=>exact SemX.inr (GP r76 e1 e15 e28 r56 _ hr137 hT) (fun _=>hr137q)
  refine Eu (SemX.inl (GP r76 e1 e15 e28 r56 _ hr137 hT)) ?_;rintro _ ⟨hp139,hT140,rfl⟩;rcases Ao h with ⟨r180,hr180,h⟩ | ⟨er181,hr180,hr180q⟩
  case inr=>exact SemX.inr (GQ r56 r76 r137 e1 e15 e28 _ hr180 hT140) (fun _=>hr180q)
  refine Eu (SemX.inl (GQ r56 r76 r137 e1 e15 e28 _ hr180 hT140)) ?_;rintro _ ⟨hp182,hT183,rfl⟩;have hq:=OI h; subst hq;exact ⟨_,rfl,rfl,_,⟨hp182,hT183,rfl⟩,WkY.f1⟩
theorem GN {L:List Asn}{hp:Hp}(r56:(List UInt8)×(List (List UInt8))×(List UInt8)) (r76:Int) (e1:AV) (e15:AV) (e28:AV) (r:(((List (List UInt8))×Bool×(List (List UInt8))×Int)) ⊕ Int) (h:CJ r56 r76=some r) (hT:T hp ((cel e28 5 66 (.ag [.v (.int .u8 r76),.st r56.2.2,.b false,.sl 1 ([].map cdS.enc),.j 0]))::(cel e1 5 66 (.ag [.v (.int .u8 0),.st [],.b false,.sl 1 ([].map cdS.enc),.j 0]))::(cel e15 1 126 (.sl 1 (r56.2.1.map cdS.enc)))::L)):SemX E0 ⟨none,false⟩ (pc BQ [1,1,1,1,1,1,1,1,0,1,0,1,1,1]) ⟨Fr 93 [(2,e1),(3,e15),(6,e28),(50,.v (.int .u8 r76)),(56,.b (r76==4))],hp⟩ (fun e s=>∃ q,r = .inl q/\e = .normal/\∃ s2,(∃ (h':Hp),T h' ((cel e1 5 66 (.ag [.v (.int .u8 0),.st [],.b false,.sl 1 ([].map cdS.enc),.j 0]))::(cel e15 1 126 (.sl 1 (q.1.map cdS.enc)))::(cel e28 5 66 (.ag [.v (.int .u8 r76),.st r56.2.2,.b q.2.1,.sl 1 (q.2.2.1.map cdS.enc),.j q.2.2.2]))::L)/\s2=⟨Fr 93 [(2,e1),(3,e15),(6,e28)],h'⟩)/\WkY E0 s s2) fun e _=>r = .inr e:=by
 unfold CJ at h;refine SemX.cond (b:=(r76==4)) (by kernel_rfl) (fun hb96=>?_) (fun hb96=>?_)
 ·rw [if_pos hb96] at h
  refine SemX.seq ?_;refine Aq ?_;refine RunX.pre 1 ?_;refine AG (n:=93) AD 1 [(2,e1),(3,e15),(6,e28),(58,e15)] hp (by kernel_rfl) ?_;refine AH rfl ?_
  have hT97:T hp ((cel e15 1 126 (.sl 1 (r56.2.1.map cdS.enc)))::(cel e28 5 66 (.ag [.v (.int .u8 r76),.st r56.2.2,.b false,.sl 1 ([].map cdS.enc),.j 0]))::(cel e1 5 66 (.ag [.v (.int .u8 0),.st [],.b false,.sl 1 ([].map cdS.enc),.j 0]))::L):=(hT.front 2 rfl)
  rcases Ao h with ⟨v98,hv98,h⟩ | ⟨v98x,hv98,hv98q⟩
  case inr=>exact Bi rfl rfl (fid:=66) (caps:=[]) (xs:=[e15]) (fn:=Tryz.f66) (c:=An) (Out:=fun _ _=>False) rfl (AB rfl) (by kernel_rfl) (by kernel_rfl) Tryz.func66 ⟨Tryz.call66⟩ (by kernel_rfl) (by show 1<=26; decide) (SemX.mono (As e15 r56.2.1 _ hv98 hT97) (fun _ _ hh=>by obtain ⟨_,hh1,_⟩:=hh; cases hh1) (fun _ _ hh=>hh)) (fun _ _ hh=>by cases hh; exact hv98q) (fun _ _ hh=>hh.elim)
  refine Bi rfl rfl (fid:=66) (caps:=[]) (xs:=[e15]) (fn:=Tryz.f66) (c:=An) (Out:=fun v h'=>v = .st v98.1/\T h' ((cel e15 1 126 (.sl 1 (v98.2.map cdS.enc)))::(cel e28 5 66 (.ag [.v (.int .u8 r76),.st r56.2.2,.b false,.sl 1 ([].map cdS.enc),.j 0]))::(cel e1 5 66 (.ag [.v (.int .u8 0),.st [],.b false,.sl 1 ([].map cdS.enc),.j 0]))::L)) (PQ:=fun _ _=>False) rfl (AB rfl) (by kernel_rfl) (by kernel_rfl) Tryz.func66 ⟨Tryz.call66⟩ (by kernel_rfl) (by show 1<=26; decide) (SemX.inl (As e15 r56.2.1 _ hv98 hT97)) (fun _ _ hh=>hh.elim) ?_;rintro xx hp99 ⟨hqhp99,hT1000⟩; subst xx
  have hT100:T hp99 ((cel e15 1 126 (.sl 1 (v98.2.map cdS.enc)))::(cel e28 5 66 (.ag [.v (.int .u8 r76),.st r56.2.2,.b false,.sl 1 ([].map cdS.enc),.j 0]))::(cel e1 5 66 (.ag [.v (.int .u8 0),.st [],.b false,.sl 1 ([].map cdS.enc),.j 0]))::L):=hT1000
  rcases Ao h with ⟨v101,hv101,h⟩ | ⟨v101x,hv101,hv101q⟩
  case inr=>exact CA (caps:=[]) (xs:=[.st v98.1]) (u:=(v98.1,())) rfl rfl Et rfl (AB rfl) (by kernel_rfl) (by kernel_rfl) (AO (AZ (c:=cdS) (v:=v98.1)) SeesD.nil) hv101 hv101q
  refine CB (caps:=[]) (xs:=[.st v98.1]) (u:=(v98.1,())) rfl rfl Et rfl (AB rfl) (by kernel_rfl) (by kernel_rfl) (AO (AZ (c:=cdS) (v:=v98.1)) SeesD.nil) (.inl (by kernel_rfl)) hv101 ?_;refine RunX.pre 2 ?_
  have hT102:T hp99 ((cel e28 5 66 (.ag [.v (.int .u8 r76),.st r56.2.2,.b false,.sl 1 ([].map cdS.enc),.j 0]))::(cel e15 1 126 (.sl 1 (v98.2.map cdS.enc)))::(cel e1 5 66 (.ag [.v (.int .u8 0),.st [],.b false,.sl 1 ([].map cdS.enc),.j 0]))::L):=(hT100.front 1 rfl)
  refine AL AD 0 rfl (BY (AB rfl) rfl (FP (a:=e28) (by kernel_rfl) (DX (off:=4) hT102 (by kernel_rfl)))) ?_;obtain ⟨hp103,hs104,hT1050⟩:=G6 (off:=4) (P:=Tryz.prog) (ty:=3) (y:= .j v101) (a':= .ag [.v (.int .u8 r76),.st r56.2.2,.b false,.sl 1 ([].map cdS.enc),.j v101]) hT102 (by kernel_rfl) (by kernel_rfl) (by kernel_rfl)
  have hT105:T hp103 ((cel e28 5 66 (.ag [.v (.int .u8 r76),.st r56.2.2,.b false,.sl 1 ([].map cdS.enc),.j v101]))::(cel e15 1 126 (.sl 1 (v98.2.map cdS.enc)))::(cel e1 5 66 (.ag [.v (.int .u8 0),.st [],.b false,.sl 1 ([].map cdS.enc),.j 0]))::L):=hT1050
  refine RunL.store AD (y:=Hs e28 4) (z:= .j v101) rfl (AB rfl) (by kernel_rfl) (by kernel_rfl) hs104 ?_;refine AH rfl ?_;refine RunX.done rfl (SemX.fr (l':=[(2,e1),(3,e15),(6,e28)]) (by kernel_rfl) ?_);refine Aq ?_;refine RunX.pre 1 ?_;refine AG (n:=93) AD 1 [(2,e1),(3,e15),(6,e28),(62,e15)] hp103 (by kernel_rfl) ?_;refine AH rfl ?_
  have hT106:T hp103 ((cel e15 1 126 (.sl 1 (v98.2.map cdS.enc)))::(cel e28 5 66 (.ag [.v (.int .u8 r76),.st r56.2.2,.b false,.sl 1 ([].map cdS.enc),.j v101]))::(cel e1 5 66 (.ag [.v (.int .u8 0),.st [],.b false,.sl 1 ([].map cdS.enc),.j 0]))::L):=(hT105.front 1 rfl)
  rcases Ao h with ⟨v107,hv107,h⟩ | ⟨v107x,hv107,hv107q⟩
  case inr=>exact Bi rfl rfl (fid:=69) (caps:=[]) (xs:=[e15]) (fn:=Tryz.f69) (c:=BW) (Out:=fun _ _=>False) rfl (AB rfl) (by kernel_rfl) (by kernel_rfl) Tryz.func69 ⟨Tryz.call69⟩ (by kernel_rfl) (by show 1<=15; decide) (SemX.mono (Bh e15 v98.2 _ hv107 hT106) (fun _ _ hh=>by obtain ⟨_,hh1,_⟩:=hh; cases hh1) (fun _ _ hh=>hh)) (fun _ _ hh=>by cases hh; exact hv107q) (fun _ _ hh=>hh.elim)
  refine Bi rfl rfl (fid:=69) (caps:=[]) (xs:=[e15]) (fn:=Tryz.f69) (c:=BW) (Out:=fun v h'=>v = .b v107.1/\T h' ((cel e15 1 126 (.sl 1 (v107.2.map cdS.enc)))::(cel e28 5 66 (.ag [.v (.int .u8 r76),.st r56.2.2,.b false,.sl 1 ([].map cdS.enc),.j v101]))::(cel e1 5 66 (.ag [.v (.int .u8 0),.st [],.b false,.sl 1 ([].map cdS.enc),.j 0]))::L)) (PQ:=fun _ _=>False) rfl (AB rfl) (by kernel_rfl) (by kernel_rfl) Tryz.func69 ⟨Tryz.call69⟩ (by kernel_rfl) (by show 1<=15; decide) (SemX.inl (Bh e15 v98.2 _ hv107 hT106)) (fun _ _ hh=>hh.elim) ?_;rintro xx hp108 ⟨hqhp108,hT1090⟩; subst xx
  have hT109:T hp108 ((cel e15 1 126 (.sl 1 (v107.2.map cdS.enc)))::(cel e28 5 66 (.ag [.v (.int .u8 r76),.st r56.2.2,.b false,.sl 1 ([].map cdS.enc),.j v101]))::(cel e1 5 66 (.ag [.v (.int .u8 0),.st [],.b false,.sl 1 ([].map cdS.enc),.j 0]))::L):=hT1090
  refine RunX.pre 2 ?_
  have hT110:T hp108 ((cel e28 5 66 (.ag [.v (.int .u8 r76),.st r56.2.2,.b false,.sl 1 ([].map cdS.enc),.j v101]))::(cel e15 1 126 (.sl 1 (v107.2.map cdS.enc)))::(cel e1 5 66 (.ag [.v (.int .u8 0),.st [],.b false,.sl 1 ([].map cdS.enc),.j 0]))::L):=(hT109.front 1 rfl)
  refine AL AD 0 rfl (BY (AB rfl) rfl (FP (a:=e28) (by kernel_rfl) (DX (off:=2) hT110 (by kernel_rfl)))) ?_;obtain ⟨hp111,hs112,hT1130⟩:=G6 (off:=2) (P:=Tryz.prog) (ty:=4) (y:= .b v107.1) (a':= .ag [.v (.int .u8 r76),.st r56.2.2,.b v107.1,.sl 1 ([].map cdS.enc),.j v101]) hT110 (by kernel_rfl) (by kernel_rfl) (by kernel_rfl)
  have hT113:T hp111 ((cel e28 5 66 (.ag [.v (.int .u8 r76),.st r56.2.2,.b v107.1,.sl 1 ([].map cdS.enc),.j v101]))::(cel e15 1 126 (.sl 1 (v107.2.map cdS.enc)))::(cel e1 5 66 (.ag [.v (.int .u8 0),.st [],.b false,.sl 1 ([].map cdS.enc),.j 0]))::L):=hT1130
  refine RunL.store AD (y:=Hs e28 2) (z:= .b v107.1) rfl (AB rfl) (by kernel_rfl) (by kernel_rfl) hs112 ?_;refine AH rfl ?_;refine RunX.done rfl ?_;have hq:=OI h; subst hq
  have hT118:T hp111 ((cel e1 5 66 (.ag [.v (.int .u8 0),.st [],.b false,.sl 1 ([].map cdS.enc),.j 0]))::(cel e15 1 126 (.sl 1 (v107.2.map cdS.enc)))::(cel e28 5 66 (.ag [.v (.int .u8 r76),.st r56.2.2,.b v107.1,.sl 1 ([].map cdS.enc),.j v101]))::L):=((hT113.front 1 rfl).front 2 rfl)
  exact ⟨_,rfl,rfl,_,⟨hp111,hT118,rfl⟩,WkY.f1⟩
 ·rw [BH hb96] at h
  refine SemX.seq ?_;refine SemX.regionL ?_;refine AG (n:=93) AD 2 [(2,e1),(3,e15),(6,e28),(50,.v (.int .u8 r76)),(65,.b (r76==5))] hp (by kernel_rfl) ?_;refine AH rfl (SemX.fr (l':=[(2,e1),(3,e15),(6,e28),(50,.v (.int .u8 r76)),(65,.b (r76==5))]) (by kernel_rfl) ?_);rcases Ao h with ⟨r184,hr184,h⟩ | ⟨er185,hr184,hr184q⟩
  case inr=>exact SemX.inr (GO r56 r76 e1 e15 e28 _ hr184 hT) (fun _=>hr184q)
  refine Eu (SemX.inl (GO r56 r76 e1 e15 e28 _ hr184 hT)) ?_;rintro _ ⟨hp186,hT187,rfl⟩;have hq:=OI h; subst hq;exact ⟨_,rfl,rfl,_,⟨hp186,hT187,rfl⟩,WkY.f1⟩
theorem GM {L:List Asn}{hp:Hp}(r56:(List UInt8)×(List (List UInt8))×(List UInt8)) (r76:Int) (e1:AV) (e15:AV) (e28:AV) (r:(((List (List UInt8))×Bool×(List (List UInt8))×Int)) ⊕ Int) (h:A1 r56 r76=some r) (hT:T hp ((cel e28 5 66 (.ag [.v (.int .u8 r76),.st r56.2.2,.b false,.sl 1 ([].map cdS.enc),.j 0]))::(cel e1 5 66 (.ag [.v (.int .u8 0),.st [],.b false,.sl 1 ([].map cdS.enc),.j 0]))::(cel e15 1 126 (.sl 1 (r56.2.1.map cdS.enc)))::L)):SemX E0 ⟨none,false⟩ (pc BQ [1,1,1,1,1,1,1,1,0,1,0,1]) ⟨Fr 93 [(2,e1),(3,e15),(6,e28),(50,.v (.int .u8 r76)),(51,.b (r76==1))],hp⟩ (fun e s=>∃ q,r = .inl q/\e = .normal/\∃ s2,(∃ (h':Hp),T h' ((cel e1 5 66 (.ag [.v (.int .u8 0),.st [],.b false,.sl 1 ([].map cdS.enc),.j 0]))::(cel e15 1 126 (.sl 1 (q.1.map cdS.enc)))::(cel e28 5 66 (.ag [.v (.int .u8 r76),.st r56.2.2,.b q.2.1,.sl 1 (q.2.2.1.map cdS.enc),.j q.2.2.2]))::L)/\s2=⟨Fr 93 [(2,e1),(3,e15),(6,e28)],h'⟩)/\WkY E0 s s2) fun e _=>r = .inr e:=by
 unfold A1 at h;refine SemX.cond (b:=(r76==1)) (by kernel_rfl) (fun hb82=>?_) (fun hb82=>?_)
 ·rw [if_pos hb82] at h
  refine Aq ?_;refine RunX.pre 1 ?_;refine AG (n:=93) AD 1 [(2,e1),(3,e15),(6,e28),(53,e15)] hp (by kernel_rfl) ?_;refine AH rfl ?_
  have hT83:T hp ((cel e15 1 126 (.sl 1 (r56.2.1.map cdS.enc)))::(cel e28 5 66 (.ag [.v (.int .u8 r76),.st r56.2.2,.b false,.sl 1 ([].map cdS.enc),.j 0]))::(cel e1 5 66 (.ag [.v (.int .u8 0),.st [],.b false,.sl 1 ([].map cdS.enc),.j 0]))::L):=(hT.front 2 rfl)
  rcases Ao h with ⟨v84,hv84,h⟩ | ⟨v84x,hv84,hv84q⟩
  case inr=>exact Bi rfl rfl (fid:=67) (caps:=[]) (xs:=[e15]) (fn:=Tryz.f67) (c:=Bw) (Out:=fun _ _=>False) rfl (AB rfl) (by kernel_rfl) (by kernel_rfl) Tryz.func67 ⟨Tryz.call67⟩ (by kernel_rfl) (by show 1<=19; decide) (SemX.mono (CP e15 r56.2.1 _ hv84 hT83) (fun _ _ hh=>by obtain ⟨_,hh1,_⟩:=hh; cases hh1) (fun _ _ hh=>hh)) (fun _ _ hh=>by cases hh; exact hv84q) (fun _ _ hh=>hh.elim)
  refine Bi rfl rfl (fid:=67) (caps:=[]) (xs:=[e15]) (fn:=Tryz.f67) (c:=Bw) (Out:=fun v h'=>v = .sl 1 (v84.1.map cdS.enc)/\T h' ((cel e15 1 126 (.sl 1 (v84.2.map cdS.enc)))::(cel e28 5 66 (.ag [.v (.int .u8 r76),.st r56.2.2,.b false,.sl 1 ([].map cdS.enc),.j 0]))::(cel e1 5 66 (.ag [.v (.int .u8 0),.st [],.b false,.sl 1 ([].map cdS.enc),.j 0]))::L)) (PQ:=fun _ _=>False) rfl (AB rfl) (by kernel_rfl) (by kernel_rfl) Tryz.func67 ⟨Tryz.call67⟩ (by kernel_rfl) (by show 1<=19; decide) (SemX.inl (CP e15 r56.2.1 _ hv84 hT83)) (fun _ _ hh=>hh.elim) ?_;rintro xx hp85 ⟨hqhp85,hT860⟩; subst xx
  have hT86:T hp85 ((cel e15 1 126 (.sl 1 (v84.2.map cdS.enc)))::(cel e28 5 66 (.ag [.v (.int .u8 r76),.st r56.2.2,.b false,.sl 1 ([].map cdS.enc),.j 0]))::(cel e1 5 66 (.ag [.v (.int .u8 0),.st [],.b false,.sl 1 ([].map cdS.enc),.j 0]))::L):=hT860
  refine RunX.pre 2 ?_
  have hT87:T hp85 ((cel e28 5 66 (.ag [.v (.int .u8 r76),.st r56.2.2,.b false,.sl 1 ([].map cdS.enc),.j 0]))::(cel e15 1 126 (.sl 1 (v84.2.map cdS.enc)))::(cel e1 5 66 (.ag [.v (.int .u8 0),.st [],.b false,.sl 1 ([].map cdS.enc),.j 0]))::L):=(hT86.front 1 rfl)
  refine AL AD 0 rfl (BY (AB rfl) rfl (FP (a:=e28) (by kernel_rfl) (DX (off:=3) hT87 (by kernel_rfl)))) ?_;obtain ⟨hp88,hs89,hT900⟩:=G6 (off:=3) (P:=Tryz.prog) (ty:=45) (y:= .sl 1 (v84.1.map cdS.enc)) (a':= .ag [.v (.int .u8 r76),.st r56.2.2,.b false,.sl 1 (v84.1.map cdS.enc),.j 0]) hT87 (by kernel_rfl) (by kernel_rfl) (by kernel_rfl)
  have hT90:T hp88 ((cel e28 5 66 (.ag [.v (.int .u8 r76),.st r56.2.2,.b false,.sl 1 (v84.1.map cdS.enc),.j 0]))::(cel e15 1 126 (.sl 1 (v84.2.map cdS.enc)))::(cel e1 5 66 (.ag [.v (.int .u8 0),.st [],.b false,.sl 1 ([].map cdS.enc),.j 0]))::L):=hT900
  refine RunL.store AD (y:=Hs e28 3) (z:= .sl 1 (v84.1.map cdS.enc)) rfl (AB rfl) (by kernel_rfl) (by kernel_rfl) hs89 ?_;refine AH rfl ?_;refine RunX.done rfl ?_;have hq:=OI h; subst hq
  have hT95:T hp88 ((cel e1 5 66 (.ag [.v (.int .u8 0),.st [],.b false,.sl 1 ([].map cdS.enc),.j 0]))::(cel e15 1 126 (.sl 1 (v84.2.map cdS.enc)))::(cel e28 5 66 (.ag [.v (.int .u8 r76),.st r56.2.2,.b false,.sl 1 (v84.1.map cdS.enc),.j 0]))::L):=((hT90.front 1 rfl).front 2 rfl)
  exact ⟨_,rfl,rfl,_,⟨hp88,hT95,rfl⟩,WkY.f1⟩
 ·rw [BH hb82] at h
  refine SemX.seq ?_;refine SemX.regionL ?_;refine AG (n:=93) AD 2 [(2,e1),(3,e15),(6,e28),(50,.v (.int .u8 r76)),(56,.b (r76==4))] hp (by kernel_rfl) ?_;refine AH rfl (SemX.fr (l':=[(2,e1),(3,e15),(6,e28),(50,.v (.int .u8 r76)),(56,.b (r76==4))]) (by kernel_rfl) ?_);rcases Ao h with ⟨r188,hr188,h⟩ | ⟨er189,hr188,hr188q⟩
  case inr=>exact SemX.inr (GN r56 r76 e1 e15 e28 _ hr188 hT) (fun _=>hr188q)
  refine Eu (SemX.inl (GN r56 r76 e1 e15 e28 _ hr188 hT)) ?_;rintro _ ⟨hp190,hT191,rfl⟩;have hq:=OI h; subst hq;exact ⟨_,rfl,rfl,_,⟨hp190,hT191,rfl⟩,WkY.f1⟩
theorem KS {L:List Asn}{hp:Hp}(x0:(List UInt8)) (r:(Int×(List UInt8)×Bool×(List (List UInt8))×Int) ⊕ Int) (h:DI x0=some r) (hT:T hp (L)):SemX E0 ⟨none,false⟩ BQ ⟨Fr 93 (BF 0 [.st x0]),hp⟩ (fun x s'=>∃ q,r = .inl q/\(x = .normal\/x = .ret)/\∃ ys,Dk E0.P s'.fr s'.hp Tryz.f35.results.toList=some ys/\(fun v h'=>v=(AA.enc q)/\T h' (L)) (EB ys) s'.hp) fun e _=>r = .inr e:=by
 unfold DI at h;refine IR (HB (s1:=⟨Fr 93 [(0,.st x0)],hp⟩) WkY.f1 ?_);refine SemX.seq ?_;refine SemX.regionL ?_;obtain ⟨e1,hp2,hb3,hT40⟩:=MQ (t:=66) (a:= .ag [.v (.int .u8 0),.st [],.b false,.e0,.j 0]) hT (by kernel_rfl)
 have hT4:T hp2 ((cel e1 5 66 (.ag [.v (.int .u8 0),.st [],.b false,.e0,.j 0]))::L):=hT40
 refine AL AD 0 rfl (Qw (AB rfl) rfl (by kernel_rfl) (ON (z:= .ag [.v (.int .u8 0),.st [],.b false,.e0,.j 0]) (by kernel_rfl) hb3)) ?_;obtain ⟨hp5,hw6,hT70⟩:=IV (E:=E0) (y:= .ag [.v (.int .u8 0),.st [],.b false,.sl 1 ([].map cdS.enc),.j 0]) hT4 (UpV.ag ⟨UpV.refl,UpV.refl,UpV.refl,UpV.nil,UpV.refl,trivial⟩)
 have hT7:T hp5 ((cel e1 5 66 (.ag [.v (.int .u8 0),.st [],.b false,.sl 1 ([].map cdS.enc),.j 0]))::L):=hT70
 refine Jt (hw6 _ _) ?_;refine AH rfl (SemX.fr (l':=[(0,.st x0),(2,e1)]) (by kernel_rfl) ?_);refine SemX.seq ?_;refine SemX.regionL ?_;refine AG (n:=93) AD 1 [(2,e1),(9,.st x0)] hp5 (by kernel_rfl) ?_;obtain ⟨v8,hv8,h⟩:=OB h;refine NE (E:=E0) (e:=E0) rfl rfl AD rfl rfl (fid:=65) (caps:=[]) (xs:=[.st x0,.st [32]]) (fn:=Tryz.f65) (c:=GH) (Out:=fun v h'=>∃ (z0:AV),v=z0/\T h' ((own_ (ocL 1 9 (ocV cdS)) z0 v8)::(cel e1 5 66 (.ag [.v (.int .u8 0),.st [],.b false,.sl 1 ([].map cdS.enc),.j 0]))::L)) rfl (AB rfl) (by kernel_rfl) (by kernel_rfl) (by kernel_rfl) (by kernel_rfl) (by show 2<=8; decide) (I6 x0 [32] _ hv8 hT7) ?_;rintro xx hp10 ⟨e9,hqhp10,hT110⟩; subst xx
 have hT11:T hp10 ((own_ (ocL 1 9 (ocV cdS)) e9 v8)::(cel e1 5 66 (.ag [.v (.int .u8 0),.st [],.b false,.sl 1 ([].map cdS.enc),.j 0]))::L):=hT110
 obtain ⟨hp12,hw13,hT140⟩:=IW (E:=E0) (n:=93) (l:=[(2,e1),(10,e9)]) (l':=[(2,e1),(10,.sl 1 (v8.map cdS.enc))]) hT11 ⟨⟨e1,(by kernel_rfl),FzU.refl⟩,⟨e9,(by kernel_rfl),IQ⟩,trivial⟩
 have hT14:T hp12 ((cel e1 5 66 (.ag [.v (.int .u8 0),.st [],.b false,.sl 1 ([].map cdS.enc),.j 0]))::L):=hT140
 refine Jt (WkY.trans WkY.f1 hw13) ?_;refine AG (n:=93) AD 1 [(2,e1),(11,.ag [.sl 1 (v8.map cdS.enc)])] hp12 (by kernel_rfl) ?_;obtain ⟨e15,hp16,hb17,hT180⟩:=MQ (t:=126) (a:= .ag [.sl 1 (v8.map cdS.enc)]) hT14 (by kernel_rfl)
 have hT18:T hp16 ((cel e15 1 126 (.ag [.sl 1 (v8.map cdS.enc)]))::(cel e1 5 66 (.ag [.v (.int .u8 0),.st [],.b false,.sl 1 ([].map cdS.enc),.j 0]))::L):=hT180
 refine AL AD 0 rfl (Qw (AB rfl) rfl (by kernel_rfl) (VX (z:= .ag [.sl 1 (v8.map cdS.enc)]) (by kernel_rfl) hb17)) ?_;refine AG (n:=93) AD 1 [(2,e1),(3,e15)] hp16 (by kernel_rfl) ?_;refine AH rfl (SemX.fr (l':=[(2,e1),(3,e15)]) (by kernel_rfl) ?_);refine SemX.seq ?_;refine SemX.seq ?_;refine SemX.regionL ?_;refine AG (n:=93) AD 1 [(2,e1),(3,e15),(13,e15)] hp16 (by kernel_rfl) ?_;refine AL AD 0 rfl (BY (AB rfl) rfl (J4 (Eo hT18) (by kernel_rfl))) ?_;refine AL AD 0 rfl (BY (AB rfl) rfl (FP (a:=e15) (by kernel_rfl) (DX (off:=0) hT18 (by kernel_rfl)))) ?_;refine AL AD 0 rfl (BY (AB rfl) rfl (Dq (p:=Hs e15 0) (by kernel_rfl) (F6 (off:=0) (y:= .sl 1 (v8.map cdS.enc)) (m:=1) (g:=false) hT18 (by kernel_rfl) (by kernel_rfl) (by kernel_rfl)))) ?_;refine AL AD 0 rfl (BY (AB rfl) rfl (ET (a:= .sl 1 (v8.map cdS.enc)) (by kernel_rfl) (C5 (el:=9) (by kernel_rfl)))) ?_
 let p1:Nat×AV:=(17,.j (v8.length:Int))
 refine AG (n:=93) AD 1 [(2,e1),(3,e15),(16,.sl 1 (v8.map cdS.enc)),p1,(18,.j 0)] hp16 (by kernel_rfl) ?_;refine AH rfl (SemX.fr (l':=[(2,e1),(3,e15),(16,.sl 1 (v8.map cdS.enc)),p1,(18,.j 0)]) (by kernel_rfl) ?_);refine SemX.block ?_
 have hT23:T hp16 ((cel e1 5 66 (.ag [.v (.int .u8 0),.st [],.b false,.sl 1 ([].map cdS.enc),.j 0]))::(cel e15 1 126 (.ag [.sl 1 (v8.map cdS.enc)]))::L):=(hT18.front 1 rfl)
 refine SemX.loop (n:=100000) ?_;rcases Ao h with ⟨r24,hr24,h⟩ | ⟨er25,hr24,hr24q⟩
 case inr=>exact SemXN.inr (Er WkY.f1 (GR v8 e1 e15 _ 0 _ hr24  hp16 hT23)) (fun _=>hr24q)
 refine IS (SemXN.inl (Er WkY.f1 (GR v8 e1 e15 _ 0 _ hr24  hp16 hT23))) ?_;rintro _ ⟨hp26,hT27,rfl⟩;refine SemX.seq ?_;refine SemX.regionL ?_;obtain ⟨e28,hp29,hb30,hT310⟩:=MQ (t:=66) (a:= .ag [.v (.int .u8 0),.st [],.b false,.e0,.j 0]) hT27 (by kernel_rfl)
 have hT31:T hp29 ((cel e28 5 66 (.ag [.v (.int .u8 0),.st [],.b false,.e0,.j 0]))::(cel e1 5 66 (.ag [.v (.int .u8 0),.st [],.b false,.sl 1 ([].map cdS.enc),.j 0]))::(cel e15 1 126 (.ag [.sl 1 (v8.map cdS.enc)]))::L):=hT310
 refine AL AD 0 rfl (Qw (AB rfl) rfl (by kernel_rfl) (ON (z:= .ag [.v (.int .u8 0),.st [],.b false,.e0,.j 0]) (by kernel_rfl) hb30)) ?_;obtain ⟨hp32,hw33,hT340⟩:=IV (E:=E0) (y:= .ag [.v (.int .u8 0),.st [],.b false,.sl 1 ([].map cdS.enc),.j 0]) hT31 (UpV.ag ⟨UpV.refl,UpV.refl,UpV.refl,UpV.nil,UpV.refl,trivial⟩)
 have hT34:T hp32 ((cel e28 5 66 (.ag [.v (.int .u8 0),.st [],.b false,.sl 1 ([].map cdS.enc),.j 0]))::(cel e1 5 66 (.ag [.v (.int .u8 0),.st [],.b false,.sl 1 ([].map cdS.enc),.j 0]))::(cel e15 1 126 (.ag [.sl 1 (v8.map cdS.enc)]))::L):=hT340
 refine Jt (hw33 _ _) ?_;refine AH rfl (SemX.fr (l':=[(2,e1),(3,e15),(6,e28)]) (by kernel_rfl) ?_);refine SemX.seq ?_;refine Aq ?_;refine RunX.pre 1 ?_;refine AG (n:=93) AD 1 [(2,e1),(3,e15),(6,e28),(26,e15)] hp32 (by kernel_rfl) ?_;refine AH rfl ?_
 have hT35:T hp32 ((cel e15 1 126 (.ag [.sl 1 (v8.map cdS.enc)]))::(cel e28 5 66 (.ag [.v (.int .u8 0),.st [],.b false,.sl 1 ([].map cdS.enc),.j 0]))::(cel e1 5 66 (.ag [.v (.int .u8 0),.st [],.b false,.sl 1 ([].map cdS.enc),.j 0]))::L):=(hT34.front 2 rfl)
 rcases Ao h with ⟨v36,hv36,h⟩ | ⟨v36x,hv36,hv36q⟩
 case inr=>exact Bi rfl rfl (fid:=66) (caps:=[]) (xs:=[e15]) (fn:=Tryz.f66) (c:=DY) (Out:=fun _ _=>False) rfl (AB rfl) (by kernel_rfl) (by kernel_rfl) Tryz.func66 ⟨Tryz.call66⟩ (by kernel_rfl) (by show 1<=26; decide) (SemX.mono (EO e15 v8 _ hv36 hT35) (fun _ _ hh=>by obtain ⟨_,hh1,_⟩:=hh; cases hh1) (fun _ _ hh=>hh)) (fun _ _ hh=>by cases hh; exact hv36q) (fun _ _ hh=>hh.elim)
 refine Bi rfl rfl (fid:=66) (caps:=[]) (xs:=[e15]) (fn:=Tryz.f66) (c:=DY) (Out:=fun v h'=>v = .st v36.1/\T h' ((cel e15 1 126 (.sl 1 (v36.2.map cdS.enc)))::(cel e28 5 66 (.ag [.v (.int .u8 0),.st [],.b false,.sl 1 ([].map cdS.enc),.j 0]))::(cel e1 5 66 (.ag [.v (.int .u8 0),.st [],.b false,.sl 1 ([].map cdS.enc),.j 0]))::L)) (PQ:=fun _ _=>False) rfl (AB rfl) (by kernel_rfl) (by kernel_rfl) Tryz.func66 ⟨Tryz.call66⟩ (by kernel_rfl) (by show 1<=26; decide) (SemX.inl (EO e15 v8 _ hv36 hT35)) (fun _ _ hh=>hh.elim) ?_;rintro xx hp37 ⟨hqhp37,hT380⟩; subst xx
 have hT38:T hp37 ((cel e15 1 126 (.sl 1 (v36.2.map cdS.enc)))::(cel e28 5 66 (.ag [.v (.int .u8 0),.st [],.b false,.sl 1 ([].map cdS.enc),.j 0]))::(cel e1 5 66 (.ag [.v (.int .u8 0),.st [],.b false,.sl 1 ([].map cdS.enc),.j 0]))::L):=hT380
 refine RunX.pre 1 ?_
 let p2:Nat×AV:=(7,.st v36.1)
 refine AG (n:=93) AD 1 [(2,e1),(3,e15),(6,e28),p2] hp37 (by kernel_rfl) ?_;refine AH rfl ?_;refine RunX.done rfl (SemX.fr (l':=[(2,e1),(3,e15),(6,e28),p2]) (by kernel_rfl) ?_);refine SemX.seq ?_;refine SemX.seq ?_;refine SemX.regionL ?_
 let p3:Nat×AV:=(29,.b (v36.1==[97,109,111,110,103]))
 refine AG (n:=93) AD 2 [(2,e1),(3,e15),(6,e28),p2,p3] hp37 (by kernel_rfl) ?_;refine AH rfl (SemX.fr (l':=[(2,e1),(3,e15),(6,e28),p2,p3]) (by kernel_rfl) ?_);rcases Ao h with ⟨r56,hr56,h⟩ | ⟨er57,hr56,hr56q⟩
 case inr=>exact SemX.inr (GK v36 e1 e15 e28 _ hr56 hT38) (fun _=>hr56q)
 refine Eu (SemX.inl (GK v36 e1 e15 e28 _ hr56 hT38)) ?_;rintro _ ⟨hp58,hT59,rfl⟩;refine SemX.seq ?_;refine SemX.seq ?_;refine SemX.regionL ?_;refine AG (n:=93) AD 1 [(2,e1),(3,e15),(6,e28),(7,.st r56.1),(8,.v (.int .u8 1))] hp58 (by kernel_rfl) ?_;refine AH rfl (SemX.fr (l':=[(2,e1),(3,e15),(6,e28),(7,.st r56.1),(8,.v (.int .u8 1))]) (by kernel_rfl) ?_);refine SemX.block ?_;refine SemX.loop (n:=100000) ?_;rcases Ao h with ⟨r76,hr76,h⟩ | ⟨er77,hr76,hr76q⟩
 case inr=>exact SemXN.inr (Er WkY.f1 (GS r56 e1 e15 e28 _ 1 0 _ hr76  hp58 hT59)) (fun _=>hr76q)
 refine IS (SemXN.inl (Er WkY.f1 (GS r56 e1 e15 e28 _ 1 0 _ hr76  hp58 hT59))) ?_;rintro _ ⟨hp78,hT79,rfl⟩;refine SemX.seq ?_;refine Aq ?_;refine RunX.pre 3 ?_
 have hT80:T hp78 ((cel e28 5 66 (.ag [.v (.int .u8 r76),.st r56.2.2,.b false,.sl 1 ([].map cdS.enc),.j 0]))::(cel e1 5 66 (.ag [.v (.int .u8 0),.st [],.b false,.sl 1 ([].map cdS.enc),.j 0]))::(cel e15 1 126 (.sl 1 (r56.2.1.map cdS.enc)))::L):=(hT79.front 2 rfl)
 refine AL AD 0 rfl (BY (AB rfl) rfl (FP (a:=e28) (by kernel_rfl) (DX (off:=0) hT80 (by kernel_rfl)))) ?_;refine AL AD 0 rfl (BY (AB rfl) rfl (Dq (p:=Hs e28 0) (by kernel_rfl) (F6 (off:=0) (y:= .v (.int .u8 r76)) (m:=1) (g:=false) hT80 (by kernel_rfl) (by kernel_rfl) (by kernel_rfl)))) ?_;refine AG (n:=93) AD 1 [(2,e1),(3,e15),(6,e28),(47,.b (r76 != 0))] hp78 (by kernel_rfl) ?_;refine AH rfl ?_;rcases Ao h with ⟨v81,hv81,h⟩ | ⟨v81x,hv81,hv81q⟩
 case inr=>exact CA (caps:=[]) (xs:=[.b (r76 != 0),.j 3]) (u:=((r76 != 0),3,())) rfl rfl At rfl (AB rfl) (by kernel_rfl) (by kernel_rfl) (AO (AZ (c:=cdB) (v:=(r76 != 0))) (AO (AZ (c:=cdI) (v:=3)) SeesD.nil)) hv81 hv81q
 refine CB (caps:=[]) (xs:=[.b (r76 != 0),.j 3]) (u:=((r76 != 0),3,())) rfl rfl At rfl (AB rfl) (by kernel_rfl) (by kernel_rfl) (AO (AZ (c:=cdB) (v:=(r76 != 0))) (AO (AZ (c:=cdI) (v:=3)) SeesD.nil)) (.inl (by kernel_rfl)) hv81 ?_;refine RunX.done rfl (SemX.fr (l':=[(2,e1),(3,e15),(6,e28)]) (by kernel_rfl) ?_);refine SemX.seq ?_;refine SemX.seq ?_;refine SemX.regionL ?_;refine AL AD 0 rfl (BY (AB rfl) rfl (FP (a:=e28) (by kernel_rfl) (DX (off:=0) hT80 (by kernel_rfl)))) ?_;refine AL AD 0 rfl (BY (AB rfl) rfl (Dq (p:=Hs e28 0) (by kernel_rfl) (F6 (off:=0) (y:= .v (.int .u8 r76)) (m:=1) (g:=false) hT80 (by kernel_rfl) (by kernel_rfl) (by kernel_rfl)))) ?_
 let p4:Nat×AV:=(50,.v (.int .u8 r76))
 refine AH rfl (SemX.fr (l':=[(2,e1),(3,e15),(6,e28),p4]) (by kernel_rfl) ?_);refine SemX.block ?_;refine SemX.seq ?_;refine SemX.regionL ?_;refine AG (n:=93) AD 2 [(2,e1),(3,e15),(6,e28),p4,(51,.b (r76==1))] hp78 (by kernel_rfl) ?_;refine AH rfl (SemX.fr (l':=[(2,e1),(3,e15),(6,e28),p4,(51,.b (r76==1))]) (by kernel_rfl) ?_);rcases Ao h with ⟨r192,hr192,h⟩ | ⟨er193,hr192,hr192q⟩
 case inr=>exact SemX.inr (GM r56 r76 e1 e15 e28 _ hr192 hT80) (fun _=>hr192q)
 refine Eu (SemX.inl (GM r56 r76 e1 e15 e28 _ hr192 hT80)) ?_;rintro _ ⟨hp194,hT195,rfl⟩;refine SemX.seq ?_;refine Aq ?_;refine RunX.pre 6 ?_;refine AG (n:=93) AD 1 [(2,e1),(6,e28),(85,e15)] hp194 (by kernel_rfl) ?_
 have hT196:T hp194 ((cel e15 1 126 (.sl 1 (r192.1.map cdS.enc)))::(cel e1 5 66 (.ag [.v (.int .u8 0),.st [],.b false,.sl 1 ([].map cdS.enc),.j 0]))::(cel e28 5 66 (.ag [.v (.int .u8 r76),.st r56.2.2,.b r192.2.1,.sl 1 (r192.2.2.1.map cdS.enc),.j r192.2.2.2]))::L):=(hT195.front 1 rfl)
 refine AL AD 0 rfl (BY (AB rfl) rfl (J4 (Eo hT196) (by kernel_rfl))) ?_;refine AL AD 0 rfl (BY (AB rfl) rfl (FP (a:=e15) (by kernel_rfl) (DX (off:=0) hT196 (by kernel_rfl)))) ?_;refine AL AD 0 rfl (BY (AB rfl) rfl (Dq (p:=Hs e15 0) (by kernel_rfl) (F6 (off:=0) (y:= .sl 1 (r192.1.map cdS.enc)) (m:=1) (g:=false) hT196 (by kernel_rfl) (by kernel_rfl) (by kernel_rfl)))) ?_;refine AL AD 0 rfl (BY (AB rfl) rfl (ET (a:= .sl 1 (r192.1.map cdS.enc)) (by kernel_rfl) (C5 (el:=9) (by kernel_rfl)))) ?_;refine AG (n:=93) AD 1 [(2,e1),(6,e28),(90,.b ((r192.1.length:Int)==0))] hp194 (by kernel_rfl) ?_;refine AH rfl ?_;rcases Ao h with ⟨v197,hv197,h⟩ | ⟨v197x,hv197,hv197q⟩
 case inr=>exact CA (caps:=[]) (xs:=[.b ((r192.1.length:Int)==0),.j 3]) (u:=(((r192.1.length:Int)==0),3,())) rfl rfl At rfl (AB rfl) (by kernel_rfl) (by kernel_rfl) (AO (AZ (c:=cdB) (v:=((r192.1.length:Int)==0))) (AO (AZ (c:=cdI) (v:=3)) SeesD.nil)) hv197 hv197q
 refine CB (caps:=[]) (xs:=[.b ((r192.1.length:Int)==0),.j 3]) (u:=(((r192.1.length:Int)==0),3,())) rfl rfl At rfl (AB rfl) (by kernel_rfl) (by kernel_rfl) (AO (AZ (c:=cdB) (v:=((r192.1.length:Int)==0))) (AO (AZ (c:=cdI) (v:=3)) SeesD.nil)) (.inl (by kernel_rfl)) hv197 ?_;refine RunX.done rfl (SemX.fr (l':=[(2,e1),(6,e28)]) (by kernel_rfl) ?_);refine SemX.seq ?_;refine SemX.regionL ?_
 have hT198:T hp194 ((cel e28 5 66 (.ag [.v (.int .u8 r76),.st r56.2.2,.b r192.2.1,.sl 1 (r192.2.2.1.map cdS.enc),.j r192.2.2.2]))::(cel e15 1 126 (.sl 1 (r192.1.map cdS.enc)))::(cel e1 5 66 (.ag [.v (.int .u8 0),.st [],.b false,.sl 1 ([].map cdS.enc),.j 0]))::L):=(hT196.front 2 rfl)
 refine AL AD 0 rfl (BY (AB rfl) rfl (Dq (p:=e28) (by kernel_rfl) (ES (y:= .ag [.v (.int .u8 r76),.st r56.2.2,.b r192.2.1,.sl 1 (r192.2.2.1.map cdS.enc),.j r192.2.2.2]) (m:=5) (g:=true) hT198 (by kernel_rfl) (by kernel_rfl) (by kernel_rfl)))) ?_
 have hT202:T hp194 ((cel e1 5 66 (.ag [.v (.int .u8 0),.st [],.b false,.sl 1 ([].map cdS.enc),.j 0]))::(cel e28 5 66 (.ag [.v (.int .u8 r76),.st r56.2.2,.b r192.2.1,.sl 1 (r192.2.2.1.map cdS.enc),.j r192.2.2.2]))::(cel e15 1 126 (.sl 1 (r192.1.map cdS.enc)))::L):=(hT198.front 2 rfl)
 obtain ⟨hp199,hs200,hT2010⟩:=I5 (P:=Tryz.prog) (ty:=66) (y:= .ag [.v (.int .u8 r76),.st r56.2.2,.b r192.2.1,.sl 1 (r192.2.2.1.map cdS.enc),.j r192.2.2.2]) (a':= .ag [.v (.int .u8 r76),.st r56.2.2,.b r192.2.1,.sl 1 (r192.2.2.1.map cdS.enc),.j r192.2.2.2]) hT202 (by kernel_rfl) (by kernel_rfl) (by kernel_rfl)
 have hT201:T hp199 ((cel e1 5 66 (.ag [.v (.int .u8 r76),.st r56.2.2,.b r192.2.1,.sl 1 (r192.2.2.1.map cdS.enc),.j r192.2.2.2]))::(cel e28 5 66 (.ag [.v (.int .u8 r76),.st r56.2.2,.b r192.2.1,.sl 1 (r192.2.2.1.map cdS.enc),.j r192.2.2.2]))::(cel e15 1 126 (.sl 1 (r192.1.map cdS.enc)))::L):=hT2010
 refine RunL.store AD (y:=e1) (z:= .ag [.v (.int .u8 r76),.st r56.2.2,.b r192.2.1,.sl 1 (r192.2.2.1.map cdS.enc),.j r192.2.2.2]) rfl (AB rfl) (by kernel_rfl) (by kernel_rfl) hs200 ?_;refine AH rfl (SemX.fr (l':=[(2,e1)]) (by kernel_rfl) ?_);refine SemX.ret ?_;have hq:=OI h; subst hq;exact ⟨⟨Fr 93 [(2,e1)],hp199⟩,WkY.f1,_,rfl,.inr rfl,[.ag [.v (.int .u8 r76),.st r56.2.2,.b r192.2.1,.sl 1 (r192.2.2.1.map cdS.enc),.j r192.2.2.2]],(Rg (y:= .ag [.v (.int .u8 r76),.st r56.2.2,.b r192.2.1,.sl 1 (r192.2.2.1.map cdS.enc),.j r192.2.2.2]) (m:=5) (g:=true) rfl hT201 (by kernel_rfl) (by kernel_rfl) (by kernel_rfl)),⟨rfl,hT201.drop.drop.drop⟩⟩
def Fo:Cs ((List UInt8)×Unit):=(csC cdS csN)
def H2 (r:AJ):AV:=AA.enc r
def Lq:List AV->Option (AV ⊕ Int):=LX Fo (fun a=>DI a.1) H2
theorem Ir:Rz 35 Lq:=by
 refine IP Tryz.func35 (c:=BQ) ?h2 ⟨Tryz.call35⟩ Fo (fun a=>DI a.1) H2 (fun a=>(by show 1<=93; decide)) ?h3 ?h4
 case h2=>kernel_rfl
 case h3=>intro b; kernel_rfl
 case h4 =>
  intro a r h;refine SemX.mono (KS (L:=[]) (hp:=[]) a.1 r h T.nil) (fun e s' hs=>?_) (fun _ _ hh=>hh);obtain ⟨q,h0,h1,ys,h2,h3,-⟩:=hs;exact ⟨q,h0,h1,ys,h2,h3⟩
/- trestle/court.formed -/
noncomputable def Ba:Code:=Bc Tryz.f70
def EI (x0:AJ):Option ((Bool)) :=
 if (x0.1==8)=true then
 some (x0.1==8)
 else
 some (x0.1==9)
def EH (x0:AJ):Option ((Bool)) :=
 if (x0.1==3)=true then
 some (x0.1==3)
 else
 (EI x0).bind fun r14 =>
 some r14
def EG (x0:AJ):Option ((Bool)) :=
 if (x0.1==2)=true then
 some (x0.1==2)
 else
 (EH x0).bind fun r15 =>
 some r15
def EM (x0:AJ):Option ((Bool)) :=
 if (x0.1==6)=true then
 some (x0.1==6)
 else
 some (x0.1==7)
def EN (x0:AJ) (r33:Bool):Option ((Int×Int×Bool) ⊕ (Bool)) :=
 if r33=true then
 some (.inl (16,0,true))
 else
 if (x0.1==10)=true then
 some (.inl (0,63,false))
 else
 some (.inr false)
def EL (x0:AJ):Option ((Int×Int×Bool) ⊕ (Bool)) :=
 if (x0.1==5)=true then
 some (.inl (0,0,true))
 else
 (EM x0).bind fun r33 =>
 (EN x0 r33).bind fun r40 =>
 match r40 with
 | (.inl w41) =>
  some (.inl (w41.1,w41.2.1,w41.2.2))
 | (.inr w42) =>
  some (.inr w42)
def EK (x0:AJ):Option ((Int×Int×Int×Bool) ⊕ (Bool)) :=
 if (x0.1==4)=true then
 some (.inl (0,1,2,true))
 else
 (EL x0).bind fun r44 =>
 match r44 with
 | (.inl w45) =>
  some (.inl (w45.1,0,w45.2.1,w45.2.2))
 | (.inr w46) =>
  some (.inr w46)
def EJ (x0:AJ) (r16:Bool):Option ((Int×Int×Int×Bool) ⊕ (Bool)) :=
 if r16=true then
 some (.inl (0,0,0,false))
 else
 (EK x0).bind fun r48 =>
 match r48 with
 | (.inl w49) =>
  some (.inl (w49.1,w49.2.1,w49.2.2.1,w49.2.2.2))
 | (.inr w50) =>
  some (.inr w50)
def EF (x0:AJ):Option ((Int×Int×Int×Bool) ⊕ (Bool)) :=
 if (x0.1==1)=true then
 if (!(x0.2.1==[]))=true then
 some (.inr false)
 else
 some (.inl (16,0,0,false))
 else
 (EG x0).bind fun r16 =>
 (EJ x0 r16).bind fun r52 =>
 match r52 with
 | (.inl w53) =>
  some (.inl (w53.1,w53.2.1,w53.2.2.1,w53.2.2.2))
 | (.inr w54) =>
  some (.inr w54)
def BB (x0:AJ):Option (Bool) :=
 (EF x0).bind fun r55 =>
 match r55 with
 | (.inl w56) =>
  (if (decide ((x0.2.2.2.1.length:Int)<=w56.1))=true then if (w56.1==0)=true then if (decide (x0.2.2.2.2≥w56.2.1))=true then if (decide (x0.2.2.2.2<=w56.2.2.1))=true then if w56.2.2.2=true then some true else some (!x0.2.2.1) else some false else some false else if (decide ((x0.2.2.2.1.length:Int) > 0))=true then if (decide (x0.2.2.2.2≥w56.2.1))=true then if (decide (x0.2.2.2.2<=w56.2.2.1))=true then if w56.2.2.2=true then some true else some (!x0.2.2.1) else some false else some false else some false else some false).bind fun j58 =>
  some j58
 | (.inr w68) =>
  some w68
def Fp:Cs (AJ×Unit):=(csC AA csN)
def Fu (r:Bool):AV:=cdB.enc r
theorem JM (x0:AJ) (r:(Bool)) (h:EI x0=some r):Sem E0 ⟨none,false⟩ (pc Ba [1,1,0,1,0,1,1,0,1,1,1,1,1]) ⟨Fr 63 [(1,.pt 0 0 0),(3,.j 0),(4,.j 0),(5,.j 0),(6,.b false),(8,.v (.int .u8 x0.1)),(14,.b (x0.1==8))],[some ⟨5,66,[AA.enc x0],false⟩]⟩ (fun e s=>e = .normal/\Wk E0 s ⟨Fr 63 [(1,.pt 0 0 0),(3,.j 0),(4,.j 0),(5,.j 0),(6,.b false),(8,.v (.int .u8 x0.1)),(14,.b r)],[some ⟨5,66,[AA.enc x0],false⟩]⟩):=by
 unfold EI at h;refine AP (b:=(x0.1==8)) kr (fun hb12=>?_) (fun hb12=>?_)
 ·rw [if_pos hb12] at h
  refine AX ?_;have hq:=OI h; subst hq;exact ⟨rfl,(Al [0] ⟨⟨_,rfl,Cm⟩,trivial⟩ ⟨lv,lv,lv,lv,lv,lv,lv,trivial⟩)⟩
 ·rw [BH hb12] at h
  refine DH AD [(1,.pt 0 0 0),(3,.j 0),(4,.j 0),(5,.j 0),(6,.b false),(8,.v (.int .u8 x0.1)),(14,.b (x0.1==9))] [some ⟨5,66,[AA.enc x0],false⟩] ?_;have hq:=OI h; subst hq;exact ⟨rfl,(Al [0] ⟨⟨_,rfl,Cm⟩,trivial⟩ ⟨lv,lv,lv,lv,lv,lv,lv,trivial⟩)⟩
theorem JL (x0:AJ) (r:(Bool)) (h:EH x0=some r):Sem E0 ⟨none,false⟩ (pc Ba [1,1,0,1,0,1,1,0,1,1,1]) ⟨Fr 63 [(1,.pt 0 0 0),(3,.j 0),(4,.j 0),(5,.j 0),(6,.b false),(8,.v (.int .u8 x0.1)),(14,.b (x0.1==3))],[some ⟨5,66,[AA.enc x0],false⟩]⟩ (fun e s=>e = .normal/\Wk E0 s ⟨Fr 63 [(1,.pt 0 0 0),(3,.j 0),(4,.j 0),(5,.j 0),(6,.b false),(8,.v (.int .u8 x0.1)),(14,.b r)],[some ⟨5,66,[AA.enc x0],false⟩]⟩):=by
 unfold EH at h;refine AP (b:=(x0.1==3)) kr (fun hb10=>?_) (fun hb10=>?_)
 ·rw [if_pos hb10] at h
  refine AX ?_;have hq:=OI h; subst hq;exact ⟨rfl,(Al [0] ⟨⟨_,rfl,Cm⟩,trivial⟩ ⟨lv,lv,lv,lv,lv,lv,lv,trivial⟩)⟩
 ·rw [BH hb10] at h
  refine AT AD [(1,.pt 0 0 0),(3,.j 0),(4,.j 0),(5,.j 0),(6,.b false),(8,.v (.int .u8 x0.1)),(14,.b (x0.1==8))] [some ⟨5,66,[AA.enc x0],false⟩] ?_;obtain ⟨r14,hr14,h⟩:=OB h;refine Ce (JM x0 _ hr14) ?_;have hq:=OI h; subst hq;exact ⟨rfl,(Al [0] ⟨⟨_,rfl,Cm⟩,trivial⟩ ⟨lv,lv,lv,lv,lv,lv,lv,trivial⟩)⟩
theorem JK (x0:AJ) (r:(Bool)) (h:EG x0=some r):Sem E0 ⟨none,false⟩ (pc Ba [1,1,0,1,0,1,1,0,1]) ⟨Fr 63 [(1,.pt 0 0 0),(3,.j 0),(4,.j 0),(5,.j 0),(6,.b false),(8,.v (.int .u8 x0.1)),(14,.b (x0.1==2))],[some ⟨5,66,[AA.enc x0],false⟩]⟩ (fun e s=>e = .normal/\Wk E0 s ⟨Fr 63 [(1,.pt 0 0 0),(3,.j 0),(4,.j 0),(5,.j 0),(6,.b false),(8,.v (.int .u8 x0.1)),(14,.b r)],[some ⟨5,66,[AA.enc x0],false⟩]⟩):=by
 unfold EG at h;refine AP (b:=(x0.1==2)) kr (fun hb8=>?_) (fun hb8=>?_)
 ·rw [if_pos hb8] at h
  refine AX ?_;have hq:=OI h; subst hq;exact ⟨rfl,(Al [0] ⟨⟨_,rfl,Cm⟩,trivial⟩ ⟨lv,lv,lv,lv,lv,lv,lv,trivial⟩)⟩
 ·rw [BH hb8] at h
  refine AT AD [(1,.pt 0 0 0),(3,.j 0),(4,.j 0),(5,.j 0),(6,.b false),(8,.v (.int .u8 x0.1)),(14,.b (x0.1==3))] [some ⟨5,66,[AA.enc x0],false⟩] ?_;obtain ⟨r15,hr15,h⟩:=OB h;refine Ce (JL x0 _ hr15) ?_;have hq:=OI h; subst hq;exact ⟨rfl,(Al [0] ⟨⟨_,rfl,Cm⟩,trivial⟩ ⟨lv,lv,lv,lv,lv,lv,lv,trivial⟩)⟩
theorem JN (x0:AJ) (r:(Bool)) (h:EM x0=some r):Sem E0 ⟨none,false⟩ (pc Ba [1,1,0,1,0,1,1,1,1,1,1,1,1,0,1]) ⟨Fr 63 [(1,.pt 0 0 0),(3,.j 0),(4,.j 0),(5,.j 0),(6,.b false),(8,.v (.int .u8 x0.1)),(23,.b (x0.1==6))],[some ⟨5,66,[AA.enc x0],false⟩]⟩ (fun e s=>e = .normal/\Wk E0 s ⟨Fr 63 [(1,.pt 0 0 0),(3,.j 0),(4,.j 0),(5,.j 0),(6,.b false),(8,.v (.int .u8 x0.1)),(23,.b r)],[some ⟨5,66,[AA.enc x0],false⟩]⟩):=by
 unfold EM at h;refine AP (b:=(x0.1==6)) kr (fun hb31=>?_) (fun hb31=>?_)
 ·rw [if_pos hb31] at h
  refine AX ?_;have hq:=OI h; subst hq;exact ⟨rfl,(Al [0] ⟨⟨_,rfl,Cm⟩,trivial⟩ ⟨lv,lv,lv,lv,lv,lv,lv,trivial⟩)⟩
 ·rw [BH hb31] at h
  refine DH AD [(1,.pt 0 0 0),(3,.j 0),(4,.j 0),(5,.j 0),(6,.b false),(8,.v (.int .u8 x0.1)),(23,.b (x0.1==7))] [some ⟨5,66,[AA.enc x0],false⟩] ?_;have hq:=OI h; subst hq;exact ⟨rfl,(Al [0] ⟨⟨_,rfl,Cm⟩,trivial⟩ ⟨lv,lv,lv,lv,lv,lv,lv,trivial⟩)⟩
theorem GX (x0:AJ) (r33:Bool) (r:(Int×Int×Bool) ⊕ (Bool)) (h:EN x0 r33=some r):Sem E0 ⟨none,false⟩ (pc Ba [1,1,0,1,0,1,1,1,1,1,1,1,1,1]) ⟨Fr 63 [(1,.pt 0 0 0),(3,.j 0),(4,.j 0),(5,.j 0),(6,.b false),(8,.v (.int .u8 x0.1)),(23,.b r33)],[some ⟨5,66,[AA.enc x0],false⟩]⟩ (fun e s=>match r with
 | (.inl w)=>e = .normal/\Wk E0 s ⟨Fr 63 [(1,.pt 0 0 0),(3,.j w.1),(4,.j 0),(5,.j w.2.1),(6,.b w.2.2)],[some ⟨5,66,[AA.enc x0],false⟩]⟩
 | (.inr w)=>e = .ret/\Wk E0 s ⟨Fr 63 [(2,.b w)],[]⟩):=by
 unfold EN at h;refine AP (b:=r33) kr (fun hb34=>?_) (fun hb34=>?_)
 ·rw [if_pos hb34] at h
  refine DH AD [(1,.pt 0 0 0),(3,.j 16),(4,.j 0),(5,.j 0),(6,.b true)] [some ⟨5,66,[AA.enc x0],false⟩] ?_;have hq:=OI h; subst hq;exact ⟨rfl,(Al [0] ⟨⟨_,rfl,Cm⟩,trivial⟩ ⟨lv,lv,lv,lv,lv,trivial⟩)⟩
 ·rw [BH hb34] at h
  let p1:Option Blk:=some ⟨5,66,[AA.enc x0],false⟩
  refine AT AD [(1,.pt 0 0 0),(3,.j 0),(4,.j 0),(6,.b false),(26,.b (x0.1==10))] [p1] ?_;refine AP (b:=(x0.1==10)) kr (fun hb38=>?_) (fun hb38=>?_)
  ·rw [if_pos hb38] at h
   refine DH AD [(1,.pt 0 0 0),(3,.j 0),(4,.j 0),(5,.j 63),(6,.b false)] [p1] ?_;have hq:=OI h; subst hq;exact ⟨rfl,(Al [0] ⟨⟨_,rfl,Cm⟩,trivial⟩ ⟨lv,lv,lv,lv,lv,trivial⟩)⟩
  ·rw [BH hb38] at h
   refine AF ?_;refine AI (s1:=⟨Fr 63 [(2,.b false)],[]⟩) ?_ ?_
   ·refine AC (n:=63) AD 1 [(2,.b false)] [p1] kr ?_
    exact AE rfl (Al [] trivial ⟨lv,trivial⟩)
   refine AU ?_;have hq:=OI h; subst hq;exact ⟨rfl,AM⟩
theorem GW (x0:AJ) (r:(Int×Int×Bool) ⊕ (Bool)) (h:EL x0=some r):Sem E0 ⟨none,false⟩ (pc Ba [1,1,0,1,0,1,1,1,1,1,1,1]) ⟨Fr 63 [(1,.pt 0 0 0),(3,.j 0),(4,.j 0),(5,.j 0),(6,.b false),(8,.v (.int .u8 x0.1)),(21,.b (x0.1==5))],[some ⟨5,66,[AA.enc x0],false⟩]⟩ (fun e s=>match r with
 | (.inl w)=>e = .normal/\Wk E0 s ⟨Fr 63 [(1,.pt 0 0 0),(3,.j w.1),(4,.j 0),(5,.j w.2.1),(6,.b w.2.2)],[some ⟨5,66,[AA.enc x0],false⟩]⟩
 | (.inr w)=>e = .ret/\Wk E0 s ⟨Fr 63 [(2,.b w)],[]⟩):=by
 unfold EL at h;refine AP (b:=(x0.1==5)) kr (fun hb27=>?_) (fun hb27=>?_)
 ·rw [if_pos hb27] at h
  refine DH AD [(1,.pt 0 0 0),(3,.j 0),(4,.j 0),(5,.j 0),(6,.b true)] [some ⟨5,66,[AA.enc x0],false⟩] ?_;have hq:=OI h; subst hq;exact ⟨rfl,(Al [0] ⟨⟨_,rfl,Cm⟩,trivial⟩ ⟨lv,lv,lv,lv,lv,trivial⟩)⟩
 ·rw [BH hb27] at h
  refine AF ?_;refine AT AD [(1,.pt 0 0 0),(3,.j 0),(4,.j 0),(5,.j 0),(6,.b false),(8,.v (.int .u8 x0.1)),(23,.b (x0.1==6))] [some ⟨5,66,[AA.enc x0],false⟩] ?_;obtain ⟨r33,hr33,h⟩:=OB h;refine Ce (JN x0 _ hr33) ?_;obtain ⟨r40,hr40,h⟩:=OB h;rcases r40 with w41 | w42
  ·try dsimp only at h
   refine Ce (GX x0 r33 _ hr40) ?_;have hq:=OI h; subst hq;exact ⟨rfl,(Al [0] ⟨⟨_,rfl,Cm⟩,trivial⟩ ⟨lv,lv,lv,lv,lv,trivial⟩)⟩
  ·try dsimp only at h
   refine Ce (GX x0 r33 _ hr40) ?_;have hq:=OI h; subst hq;exact ⟨rfl,AM⟩
theorem GV (x0:AJ) (r:(Int×Int×Int×Bool) ⊕ (Bool)) (h:EK x0=some r):Sem E0 ⟨none,false⟩ (pc Ba [1,1,0,1,0,1,1,1,1,1]) ⟨Fr 63 [(1,.pt 0 0 0),(3,.j 0),(4,.j 0),(5,.j 0),(6,.b false),(8,.v (.int .u8 x0.1)),(19,.b (x0.1==4))],[some ⟨5,66,[AA.enc x0],false⟩]⟩ (fun e s=>match r with
 | (.inl w)=>e = .normal/\Wk E0 s ⟨Fr 63 [(1,.pt 0 0 0),(3,.j w.1),(4,.j w.2.1),(5,.j w.2.2.1),(6,.b w.2.2.2)],[some ⟨5,66,[AA.enc x0],false⟩]⟩
 | (.inr w)=>e = .ret/\Wk E0 s ⟨Fr 63 [(2,.b w)],[]⟩):=by
 unfold EK at h;refine AP (b:=(x0.1==4)) kr (fun hb22=>?_) (fun hb22=>?_)
 ·rw [if_pos hb22] at h
  refine DH AD [(1,.pt 0 0 0),(3,.j 0),(4,.j 1),(5,.j 2),(6,.b true)] [some ⟨5,66,[AA.enc x0],false⟩] ?_;have hq:=OI h; subst hq;exact ⟨rfl,(Al [0] ⟨⟨_,rfl,Cm⟩,trivial⟩ ⟨lv,lv,lv,lv,lv,trivial⟩)⟩
 ·rw [BH hb22] at h
  refine AT AD [(1,.pt 0 0 0),(3,.j 0),(4,.j 0),(5,.j 0),(6,.b false),(8,.v (.int .u8 x0.1)),(21,.b (x0.1==5))] [some ⟨5,66,[AA.enc x0],false⟩] ?_;obtain ⟨r44,hr44,h⟩:=OB h;rcases r44 with w45 | w46
  ·try dsimp only at h
   refine Ce (GW x0 _ hr44) ?_;have hq:=OI h; subst hq;exact ⟨rfl,(Al [0] ⟨⟨_,rfl,Cm⟩,trivial⟩ ⟨lv,lv,lv,lv,lv,trivial⟩)⟩
  ·try dsimp only at h
   refine Ce (GW x0 _ hr44) ?_;have hq:=OI h; subst hq;exact ⟨rfl,AM⟩
theorem GU (x0:AJ) (r16:Bool) (r:(Int×Int×Int×Bool) ⊕ (Bool)) (h:EJ x0 r16=some r):Sem E0 ⟨none,false⟩ (pc Ba [1,1,0,1,0,1,1,1]) ⟨Fr 63 [(1,.pt 0 0 0),(3,.j 0),(4,.j 0),(5,.j 0),(6,.b false),(8,.v (.int .u8 x0.1)),(14,.b r16)],[some ⟨5,66,[AA.enc x0],false⟩]⟩ (fun e s=>match r with
 | (.inl w)=>e = .normal/\Wk E0 s ⟨Fr 63 [(1,.pt 0 0 0),(3,.j w.1),(4,.j w.2.1),(5,.j w.2.2.1),(6,.b w.2.2.2)],[some ⟨5,66,[AA.enc x0],false⟩]⟩
 | (.inr w)=>e = .ret/\Wk E0 s ⟨Fr 63 [(2,.b w)],[]⟩):=by
 unfold EJ at h;refine AP (b:=r16) kr (fun hb17=>?_) (fun hb17=>?_)
 ·rw [if_pos hb17] at h
  refine AX ?_;have hq:=OI h; subst hq;exact ⟨rfl,(Al [0] ⟨⟨_,rfl,Cm⟩,trivial⟩ ⟨lv,lv,lv,lv,lv,trivial⟩)⟩
 ·rw [BH hb17] at h
  refine AT AD [(1,.pt 0 0 0),(3,.j 0),(4,.j 0),(5,.j 0),(6,.b false),(8,.v (.int .u8 x0.1)),(19,.b (x0.1==4))] [some ⟨5,66,[AA.enc x0],false⟩] ?_;obtain ⟨r48,hr48,h⟩:=OB h;rcases r48 with w49 | w50
  ·try dsimp only at h
   refine Ce (GV x0 _ hr48) ?_;have hq:=OI h; subst hq;exact ⟨rfl,(Al [0] ⟨⟨_,rfl,Cm⟩,trivial⟩ ⟨lv,lv,lv,lv,lv,trivial⟩)⟩
  ·try dsimp only at h
   refine Ce (GV x0 _ hr48) ?_;have hq:=OI h; subst hq;exact ⟨rfl,AM⟩
theorem GT (x0:AJ) (r:(Int×Int×Int×Bool) ⊕ (Bool)) (h:EF x0=some r):Sem E0 ⟨none,false⟩ (pc Ba [1,1,0,1,0,1]) ⟨Fr 63 [(1,.pt 0 0 0),(3,.j 0),(4,.j 0),(5,.j 0),(6,.b false),(8,.v (.int .u8 x0.1)),(9,.b (x0.1==1))],[some ⟨5,66,[AA.enc x0],false⟩]⟩ (fun e s=>match r with
 | (.inl w)=>e = .normal/\Wk E0 s ⟨Fr 63 [(1,.pt 0 0 0),(3,.j w.1),(4,.j w.2.1),(5,.j w.2.2.1),(6,.b w.2.2.2)],[some ⟨5,66,[AA.enc x0],false⟩]⟩
 | (.inr w)=>e = .ret/\Wk E0 s ⟨Fr 63 [(2,.b w)],[]⟩):=by
 unfold EF at h;refine AP (b:=(x0.1==1)) kr (fun hb1=>?_) (fun hb1=>?_)
 ·rw [if_pos hb1] at h
  refine AF ?_
  let p1:Option Blk:=some ⟨5,66,[AA.enc x0],false⟩
  refine AT AD [(1,.pt 0 0 0),(4,.j 0),(5,.j 0),(6,.b false),(13,.b (!(x0.2.1==[])))] [p1] ?_;refine AP (b:=(!(x0.2.1==[]))) kr (fun hb2=>?_) (fun hb2=>?_)
  ·rw [if_pos hb2] at h
   refine AF ?_;refine AI (s1:=⟨Fr 63 [(2,.b false)],[]⟩) ?_ ?_
   ·refine AC (n:=63) AD 1 [(2,.b false)] [p1] kr ?_
    exact AE rfl (Al [] trivial ⟨lv,trivial⟩)
   refine AU ?_;have hq:=OI h; subst hq;exact ⟨rfl,AM⟩
  ·rw [BH hb2] at h
   refine AX ?_;refine DH AD [(1,.pt 0 0 0),(3,.j 16),(4,.j 0),(5,.j 0),(6,.b false)] [p1] ?_;have hq:=OI h; subst hq;exact ⟨rfl,(Al [0] ⟨⟨_,rfl,Cm⟩,trivial⟩ ⟨lv,lv,lv,lv,lv,trivial⟩)⟩
 ·rw [BH hb1] at h
  refine AF ?_;refine AT AD [(1,.pt 0 0 0),(3,.j 0),(4,.j 0),(5,.j 0),(6,.b false),(8,.v (.int .u8 x0.1)),(14,.b (x0.1==2))] [some ⟨5,66,[AA.enc x0],false⟩] ?_;obtain ⟨r16,hr16,h⟩:=OB h;refine Ce (JK x0 _ hr16) ?_;obtain ⟨r52,hr52,h⟩:=OB h;rcases r52 with w53 | w54
  ·try dsimp only at h
   refine Ce (GU x0 r16 _ hr52) ?_;have hq:=OI h; subst hq;exact ⟨rfl,(Al [0] ⟨⟨_,rfl,Cm⟩,trivial⟩ ⟨lv,lv,lv,lv,lv,trivial⟩)⟩
  ·try dsimp only at h
   refine Ce (GU x0 r16 _ hr52) ?_;have hq:=OI h; subst hq;exact ⟨rfl,AM⟩
theorem KT (x0:AJ) (r:Bool) (h:BB x0=some r):Sem E0 ⟨none,false⟩ Ba ⟨Fr 63 (BF 0 (Fp.enc (x0,()))),[]⟩ fun e s'=>(e = .normal\/e = .ret)/\∃ xs,Dk E0.P s'.fr s'.hp Tryz.f70.results.toList=some xs/\EB xs=Fu r:=by
 unfold BB at h;refine Bm (Cg (s1:=⟨Fr 63 [(0,AA.enc x0)],[]⟩) AM ?_);refine AT AD [(1,.pt 0 0 0)] [some ⟨5,66,[AA.enc x0],false⟩] ?_;refine AT AD [(1,.pt 0 0 0),(3,.j 0),(4,.j 0),(5,.j 0),(6,.b false)] [some ⟨5,66,[AA.enc x0],false⟩] ?_;refine AF ?_;refine AT AD [(1,.pt 0 0 0),(3,.j 0),(4,.j 0),(5,.j 0),(6,.b false),(8,.v (.int .u8 x0.1))] [some ⟨5,66,[AA.enc x0],false⟩] ?_;refine A0 ?_;refine AT AD [(1,.pt 0 0 0),(3,.j 0),(4,.j 0),(5,.j 0),(6,.b false),(8,.v (.int .u8 x0.1)),(9,.b (x0.1==1))] [some ⟨5,66,[AA.enc x0],false⟩] ?_;obtain ⟨r55,hr55,h⟩:=OB h;rcases r55 with w56 | w68
 ·try dsimp only at h
  refine Ce (GT x0 _ hr55) ?_;refine AF ?_;obtain ⟨j58,hj58,h⟩:=OB h;refine AI (s1:=⟨Fr 63 [(2,.b j58)],[]⟩) ?_ ?_
  ·refine AC (n:=63) AD 2 [(1,.pt 0 0 0),(3,.j w56.1),(4,.j w56.2.1),(5,.j w56.2.2.1),(6,.b w56.2.2.2),(29,.sl 1 (x0.2.2.2.1.map cdS.enc))] [some ⟨5,66,[AA.enc x0],false⟩] kr ?_
   refine AW AD 0 rfl (BY (AB rfl) rfl (ET (a:= .sl 1 (x0.2.2.2.1.map cdS.enc)) kr (C5 (el:=9) kr))) ?_;refine AC (n:=63) AD 3 [(1,.pt 0 0 0),(3,.j w56.1),(4,.j w56.2.1),(5,.j w56.2.2.1),(6,.b w56.2.2.2),(33,.b (decide ((x0.2.2.2.1.length:Int)<=w56.1)))] [some ⟨5,66,[AA.enc x0],false⟩] kr ?_;rcases BE (decide ((x0.2.2.2.1.length:Int)<=w56.1)) with hc59 | hc59
   ·rw [if_pos hc59] at hj58
    rw [hc59];refine AC (n:=63) AD 3 [(1,.pt 0 0 0),(4,.j w56.2.1),(5,.j w56.2.2.1),(6,.b w56.2.2.2),(33,.b true),(36,.b (w56.1==0))] [some ⟨5,66,[AA.enc x0],false⟩] kr ?_;rcases BE (w56.1==0) with hc60 | hc60
    ·rw [if_pos hc60] at hj58
     rw [hc60];refine AC (n:=63) AD 13 [(1,.pt 0 0 0),(5,.j w56.2.2.1),(6,.b w56.2.2.2),(49,.b (decide (x0.2.2.2.2≥w56.2.1)))] [some ⟨5,66,[AA.enc x0],false⟩] kr ?_;rcases BE (decide (x0.2.2.2.2≥w56.2.1)) with hc61 | hc61
     ·rw [if_pos hc61] at hj58
      rw [hc61];refine AC (n:=63) AD 6 [(1,.pt 0 0 0),(6,.b w56.2.2.2),(55,.b (decide (x0.2.2.2.2<=w56.2.2.1)))] [some ⟨5,66,[AA.enc x0],false⟩] kr ?_;rcases BE (decide (x0.2.2.2.2<=w56.2.2.1)) with hc62 | hc62
      ·rw [if_pos hc62] at hj58
       rw [hc62];refine AC (n:=63) AD 2 [(1,.pt 0 0 0),(55,.b true),(57,.b w56.2.2.2)] [some ⟨5,66,[AA.enc x0],false⟩] kr ?_;rcases BE w56.2.2.2 with hc63 | hc63
       ·rw [if_pos hc63] at hj58
        rw [hc63];refine AC (n:=63) AD 6 [(2,.b true)] [some ⟨5,66,[AA.enc x0],false⟩] kr ?_;have hq:=OI hj58; subst hq;exact AE rfl (Al [] trivial ⟨lv,trivial⟩)
       ·rw [BH hc63] at hj58
        rw [hc63];refine AC (n:=63) AD 6 [(2,.b (!x0.2.2.1))] [some ⟨5,66,[AA.enc x0],false⟩] kr ?_;have hq:=OI hj58; subst hq;exact AE rfl (Al [] trivial ⟨lv,trivial⟩)
      ·rw [BH hc62] at hj58
       rw [hc62];refine AC (n:=63) AD 8 [(2,.b false)] [some ⟨5,66,[AA.enc x0],false⟩] kr ?_;have hq:=OI hj58; subst hq;exact AE rfl (Al [] trivial ⟨lv,trivial⟩)
     ·rw [BH hc61] at hj58
      rw [hc61];refine AC (n:=63) AD 14 [(2,.b false)] [some ⟨5,66,[AA.enc x0],false⟩] kr ?_;have hq:=OI hj58; subst hq;exact AE rfl (Al [] trivial ⟨lv,trivial⟩)
    ·rw [BH hc60] at hj58
     rw [hc60];refine AC (n:=63) AD 2 [(1,.pt 0 0 0),(4,.j w56.2.1),(5,.j w56.2.2.1),(6,.b w56.2.2.2),(33,.b true),(36,.b false),(38,.sl 1 (x0.2.2.2.1.map cdS.enc))] [some ⟨5,66,[AA.enc x0],false⟩] kr ?_;refine AW AD 0 rfl (BY kr rfl (ET (a:= .sl 1 (x0.2.2.2.1.map cdS.enc)) kr (C5 (el:=9) kr))) ?_;refine AC (n:=63) AD 4 [(1,.pt 0 0 0),(4,.j w56.2.1),(5,.j w56.2.2.1),(6,.b w56.2.2.2),(43,.b (decide ((x0.2.2.2.1.length:Int) > 0)))] [some ⟨5,66,[AA.enc x0],false⟩] kr ?_;rcases BE (decide ((x0.2.2.2.1.length:Int) > 0)) with hc64 | hc64
     ·rw [if_pos hc64] at hj58
      rw [hc64];refine AC (n:=63) AD 6 [(1,.pt 0 0 0),(5,.j w56.2.2.1),(6,.b w56.2.2.2),(49,.b (decide (x0.2.2.2.2≥w56.2.1)))] [some ⟨5,66,[AA.enc x0],false⟩] kr ?_;rcases BE (decide (x0.2.2.2.2≥w56.2.1)) with hc65 | hc65
      ·rw [if_pos hc65] at hj58
       rw [hc65];refine AC (n:=63) AD 6 [(1,.pt 0 0 0),(6,.b w56.2.2.2),(55,.b (decide (x0.2.2.2.2<=w56.2.2.1)))] [some ⟨5,66,[AA.enc x0],false⟩] kr ?_;rcases BE (decide (x0.2.2.2.2<=w56.2.2.1)) with hc66 | hc66
       ·rw [if_pos hc66] at hj58
        rw [hc66];refine AC (n:=63) AD 2 [(1,.pt 0 0 0),(55,.b true),(57,.b w56.2.2.2)] [some ⟨5,66,[AA.enc x0],false⟩] kr ?_;rcases BE w56.2.2.2 with hc67 | hc67
        ·rw [if_pos hc67] at hj58
         rw [hc67];refine AC (n:=63) AD 6 [(2,.b true)] [some ⟨5,66,[AA.enc x0],false⟩] kr ?_;have hq:=OI hj58; subst hq;exact AE rfl (Al [] trivial ⟨lv,trivial⟩)
        ·rw [BH hc67] at hj58
         rw [hc67];refine AC (n:=63) AD 6 [(2,.b (!x0.2.2.1))] [some ⟨5,66,[AA.enc x0],false⟩] kr ?_;have hq:=OI hj58; subst hq;exact AE rfl (Al [] trivial ⟨lv,trivial⟩)
       ·rw [BH hc66] at hj58
        rw [hc66];refine AC (n:=63) AD 8 [(2,.b false)] [some ⟨5,66,[AA.enc x0],false⟩] kr ?_;have hq:=OI hj58; subst hq;exact AE rfl (Al [] trivial ⟨lv,trivial⟩)
      ·rw [BH hc65] at hj58
       rw [hc65];refine AC (n:=63) AD 14 [(2,.b false)] [some ⟨5,66,[AA.enc x0],false⟩] kr ?_;have hq:=OI hj58; subst hq;exact AE rfl (Al [] trivial ⟨lv,trivial⟩)
     ·rw [BH hc64] at hj58
      rw [hc64];refine AC (n:=63) AD 20 [(2,.b false)] [some ⟨5,66,[AA.enc x0],false⟩] kr ?_;have hq:=OI hj58; subst hq;exact AE rfl (Al [] trivial ⟨lv,trivial⟩)
   ·rw [BH hc59] at hj58
    rw [hc59];refine AC (n:=63) AD 30 [(2,.b false)] [some ⟨5,66,[AA.enc x0],false⟩] kr ?_;have hq:=OI hj58; subst hq;exact AE rfl (Al [] trivial ⟨lv,trivial⟩)
  refine AU ?_;have hq:=OI h; subst hq;exact ⟨⟨Fr 63 [(2,.b j58)],[]⟩,AM,.inr rfl,[.b j58],kr,kr⟩
 ·try dsimp only at h
  refine Ce (GT x0 _ hr55) ?_;have hq:=OI h; subst hq;exact ⟨⟨Fr 63 [(2,.b w68)],[]⟩,AM,.inr rfl,[.b w68],kr,kr⟩
def Lr:List AV->Option AV:=Ea Fp (fun a=>BB a.1) Fu
theorem Ly:XOk 70 Lr:=by
 refine Ap Tryz.func70 (c:=Ba) ?h2 ⟨Tryz.call70⟩ Fp (fun a=>BB a.1) Fu (fun a=>(by show 1<=63; decide)) ?h3 ?h4
 case h2=>kernel_rfl
 case h3=>intro b; kernel_rfl
 case h4=>exact fun a b h=>KT a.1 b h
/- trestle/court.name -/
noncomputable def HD:Code:=Bc Tryz.f71
def Cy (x0:(List UInt8)):Nat->Int->Option ((Unit) ⊕ (Bool))
 | 0,_=>none
 | f + 1,c1 =>
  if (decide (c1 < (x0.length:Int)))=true then
  (idx x0 c1).bind fun v3 =>
  (if (decide ((v3.toNat:Int) < 97))=true then some true else (idx x0 c1).bind fun v4 =>
  some (decide ((v4.toNat:Int) > 122))).bind fun j6 =>
  if j6=true then
  some (.inr false)
  else
  Cy x0 f (wr .i64 (c1 + 1))
  else
  some (.inl ())
def D7 (x0:(List UInt8)):Option (Bool) :=
 (Cy x0 100000 0).bind fun r10 =>
 match r10 with
 | (.inl w11) =>
  (if (decide ((x0.length:Int)≥1))=true then some (decide ((x0.length:Int)<=12)) else some false).bind fun j13 =>
  some j13
 | (.inr w15) =>
  some w15
def HF:Cs ((List UInt8)×Unit):=(csC cdS csN)
def HK (r:Bool):AV:=cdB.enc r
theorem Hk (x0:(List UInt8)):∀ (f:Nat) (c1:Int) (r:(Unit) ⊕ (Bool)),Cy x0 f c1=some r->SemN E0 ⟨none,false⟩ (pc HD [1,0,1,0,0]) f ⟨Fr 28 [(0,.st x0),(3,.j c1)],[]⟩ (fun e s=>match r with
 | (.inl w)=>e=(.exit 0)/\Wk E0 s ⟨Fr 28 [(0,.st x0)],[]⟩
 | (.inr w)=>e = .ret/\Wk E0 s ⟨Fr 28 [(2,.b w)],[]⟩):=by
 intro f;induction f with
 | zero=>intro c1 r h; cases h
 | succ f ih0 =>
  intro c1 r h
  have ih:=fun (c1:Int)=>ih0 c1 r
  unfold Cy at h;refine Cl ?_;refine AF ?_;refine AT AD [(0,.st x0),(3,.j c1),(7,.b (decide (c1 < (x0.length:Int))))] [] ?_;refine AP (b:=(decide (c1 < (x0.length:Int)))) kr (fun hb2=>?_) (fun hb2=>?_)
  ·rw [if_pos hb2] at h
   refine AX ?_;refine AF ?_;refine A0 ?_;refine AF ?_;obtain ⟨v3,hv3,h⟩:=OB h;obtain ⟨j6,hj6,h⟩:=OB h;refine AI (s1:=⟨Fr 28 [(0,.st x0),(3,.j c1),(19,.b j6)],[]⟩) ?_ ?_
   ·refine AC (n:=28) AD 2 [(0,.st x0),(3,.j c1),(10,.st x0),(11,.j c1)] [] kr ?_
    refine AW AD 0 rfl (BY (AB rfl) rfl (D4 (a:= .st x0) (b:= .j c1) kr kr (DT (bs:=x0) (ki:= .i64) kr hv3))) ?_;refine AC (n:=28) AD 2 [(0,.st x0),(3,.j c1),(14,.b (decide ((v3.toNat:Int) < 97)))] [] kr ?_;rcases BE (decide ((v3.toNat:Int) < 97)) with hc9 | hc9
    ·rw [if_pos hc9] at hj6
     rw [hc9];refine AC (n:=28) AD 5 [(0,.st x0),(3,.j c1),(15,.tp []),(16,.tp []),(17,.tp []),(18,.tp []),(19,.b true)] [] kr ?_;have hq:=OI hj6; subst hq;exact AE rfl AM
    ·rw [BH hc9] at hj6
     rw [hc9];refine AC (n:=28) AD 2 [(0,.st x0),(3,.j c1),(14,.b false),(15,.st x0),(16,.j c1)] [] kr ?_;obtain ⟨v4,hv4,hj6⟩:=OB hj6;refine AW AD 0 rfl (BY kr rfl (D4 (a:= .st x0) (b:= .j c1) kr kr (DT (bs:=x0) (ki:= .i64) kr hv4))) ?_;refine AC (n:=28) AD 2 [(0,.st x0),(3,.j c1),(15,.st x0),(16,.j c1),(17,.v (.int .u8 (v4.toNat:Int))),(18,.b (decide ((v4.toNat:Int) > 122))),(19,.b (decide ((v4.toNat:Int) > 122)))] [] kr ?_;have hq:=OI hj6; subst hq;exact AE rfl AM
   refine AP (b:=j6) kr (fun hb7=>?_) (fun hb7=>?_)
   ·rw [if_pos hb7] at h
    refine AT AD [(2,.b false)] [] ?_;refine AU ?_;have hq:=OI h; subst hq;exact ⟨rfl,AM⟩
   ·rw [BH hb7] at h
    refine AX ?_;refine DH AD [(0,.st x0),(3,.j (wr .i64 (c1 + 1)))] [] ?_;exact A9 (s1:=⟨Fr 28 [(0,.st x0),(3,.j (wr .i64 (c1 + 1)))],[]⟩) AM (ih (wr .i64 (c1 + 1)) h)
  ·rw [BH hb2] at h
   refine DN ?_;have hq:=OI h; subst hq;exact ⟨rfl,AM⟩
theorem Lh (x0:(List UInt8)) (r:Bool) (h:D7 x0=some r):Sem E0 ⟨none,false⟩ HD ⟨Fr 28 (BF 0 (HF.enc (x0,()))),[]⟩ fun e s'=>(e = .normal\/e = .ret)/\∃ xs,Dk E0.P s'.fr s'.hp Tryz.f71.results.toList=some xs/\EB xs=HK r:=by
 unfold D7 at h;refine Bm (Cg (s1:=⟨Fr 28 [(0,.st x0)],[]⟩) AM ?_);refine AT AD [(0,.st x0)] [] ?_;refine AF ?_;refine AT AD [(0,.st x0),(3,.j 0)] [] ?_;refine A0 ?_;obtain ⟨r10,hr10,h⟩:=OB h;refine DO (n:=100000) ?_;rcases r10 with w11 | w15
 ·try dsimp only at h
  refine BX (A9 (s1:=⟨Fr 28 [(0,.st x0),(3,.j 0)],[]⟩) AM (Hk x0 _ 0 _ hr10)) ?_;refine AF ?_;obtain ⟨j13,hj13,h⟩:=OB h;refine AI (s1:=⟨Fr 28 [(2,.b j13)],[]⟩) ?_ ?_
  ·refine AC (n:=28) AD 4 [(0,.st x0),(23,.b (decide ((x0.length:Int)≥1)))] [] kr ?_
   rcases BE (decide ((x0.length:Int)≥1)) with hc14 | hc14
   ·rw [if_pos hc14] at hj13
    rw [hc14];refine AC (n:=28) AD 5 [(2,.b (decide ((x0.length:Int)<=12)))] [] kr ?_;have hq:=OI hj13; subst hq;exact AE rfl AM
   ·rw [BH hc14] at hj13
    rw [hc14];refine AC (n:=28) AD 5 [(2,.b false)] [] kr ?_;have hq:=OI hj13; subst hq;exact AE rfl AM
  refine AU ?_;have hq:=OI h; subst hq;exact ⟨⟨Fr 28 [(2,.b j13)],[]⟩,AM,.inr rfl,[.b j13],kr,kr⟩
 ·try dsimp only at h
  refine BX (A9 (s1:=⟨Fr 28 [(0,.st x0),(3,.j 0)],[]⟩) AM (Hk x0 _ 0 _ hr10)) ?_;have hq:=OI h; subst hq;exact ⟨⟨Fr 28 [(2,.b w15)],[]⟩,AM,.inr rfl,[.b w15],kr,kr⟩
def Nf:List AV->Option AV:=Ea HF (fun a=>D7 a.1) HK
theorem KQ:XOk 71 Nf:=by
 refine Ap Tryz.func71 (c:=HD) ?h2 ⟨Tryz.call71⟩ HF (fun a=>D7 a.1) HK (fun a=>(by show 1<=28; decide)) ?h3 ?h4
 case h2=>kernel_rfl
 case h3=>intro b; kernel_rfl
 case h4=>exact fun a b h=>Lh a.1 b h
/- trestle/court.check$1 -/
noncomputable def Hg:Code:=Bc Tryz.f72
def DP (x0:(List UInt8)):Option (Bool) :=
 (D7 x0).bind fun v1 =>
 some (!v1)
def FG:Cs ((List UInt8)×Unit):=(csC cdS csN)
def FK (r:Bool):AV:=cdB.enc r
theorem Jv (x0:(List UInt8)) (r:Bool) (h:DP x0=some r):Sem E0 ⟨none,false⟩ Hg ⟨Fr 6 (BF 0 (FG.enc (x0,()))),[]⟩ fun e s'=>(e = .normal\/e = .ret)/\∃ xs,Dk E0.P s'.fr s'.hp Tryz.f72.results.toList=some xs/\EB xs=FK r:=by
 unfold DP at h;refine Bm (Cg (s1:=⟨Fr 6 [(0,.st x0)],[]⟩) AM ?_);refine AT AD [(0,.st x0)] [] ?_;refine AF ?_;obtain ⟨v1,hv1,h⟩:=OB h;refine AI (s1:=⟨Fr 6 [(2,.b (!v1))],[]⟩) ?_ ?_
 ·refine AC (n:=6) AD 1 [(3,.st x0)] [] kr ?_
  refine Af (caps:=[]) (xs:=[.st x0]) (u:=(x0,())) rfl rfl KQ rfl (AB rfl) kr kr (Ah (A2 (c:=cdS) (v:=x0)) BZ) (.inl kr) hv1 ?_;exact Ak AD
 refine AU ?_;have hq:=OI h; subst hq;exact ⟨⟨Fr 6 [(2,.b (!v1))],[]⟩,AM,.inr rfl,[.b (!v1)],kr,kr⟩
def LQ:List AV->Option AV:=Ea FG (fun a=>DP a.1) FK
theorem LZ:XOk 72 LQ:=by
 refine Ap Tryz.func72 (c:=Hg) ?h2 ⟨Tryz.call72⟩ FG (fun a=>DP a.1) FK (fun a=>(by show 1<=6; decide)) ?h3 ?h4
 case h2=>kernel_rfl
 case h3=>intro b; kernel_rfl
 case h4=>exact fun a b h=>Jv a.1 b h
/- slices.IndexFunc[[]string,string] -/
noncomputable def BA:Code:=Bc Tryz.f79
def Aj (x0:(List (List UInt8))):Nat->Int->Option ((Unit) ⊕ (Int))
 | 0,_=>none
 | f + 1,c1 =>
  if (decide (c1 < (x0.length:Int)))=true then
  (idx x0 c1).bind fun v3 =>
  (DP v3).bind fun v4 =>
  if v4=true then
  some (.inr c1)
  else
  Aj x0 f (wr .i64 (c1 + 1))
  else
  some (.inl ())
def Ae (x0:(List (List UInt8))):Option (Int) :=
 (Aj x0 100000 0).bind fun r7 =>
 match r7 with
 | (.inl w8) =>
  some (-1)
 | (.inr w9) =>
  some w9
def BC:Cs ((List (List UInt8))×Unit×Unit):=(csC (cdL 1 cdS) (csC (cdF 72 csN (fun _=>rfl)) csN))
def BD (r:Int):AV:=cdI.enc r
theorem Bd (x0:(List (List UInt8))):∀ (f:Nat) (c1:Int) (r:(Unit) ⊕ (Int)),Aj x0 f c1=some r->SemN E0 ⟨none,false⟩ (pc BA [1,0,1,0,0]) f ⟨Fr 19 [(0,.sl 1 (x0.map cdS.enc)),(1,.fn 72 [] []),(7,.j (x0.length:Int)),(8,.j c1)],[]⟩ (fun e s=>match r with
 | (.inl w)=>e=(.exit 0)/\Wk E0 s ⟨Fr 19 [],[]⟩
 | (.inr w)=>e = .ret/\Wk E0 s ⟨Fr 19 [(4,.j w)],[]⟩):=by
 intro f;induction f with
 | zero=>intro c1 r h; cases h
 | succ f ih0 =>
  intro c1 r h
  have ih:=fun (c1:Int)=>ih0 c1 r
  unfold Aj at h;refine Cl ?_
  let p1:Nat×AV:=(8,.j c1)
  let p2:Nat×AV:=(7,.j (x0.length:Int))
  let p3:Nat×AV:=(1,.fn 72 [] [])
  let p4:Nat×AV:=(0,.sl 1 (x0.map cdS.enc))
  refine AT AD [p4,p3,p2,p1,(9,.b (decide (c1 < (x0.length:Int))))] [] ?_;refine AF ?_;refine AP (b:=(decide (c1 < (x0.length:Int)))) kr (fun hb2=>?_) (fun hb2=>?_)
  ·rw [if_pos hb2] at h
   refine AX ?_;refine AF ?_;refine A0 ?_
   let p5:Nat×AV:=(5,.j c1)
   refine AT AD [p4,p3,p5,p2,p1] [] ?_;refine AF ?_;obtain ⟨v3,hv3,h⟩:=OB h;obtain ⟨v4,hv4,h⟩:=OB h;refine AI (s1:=⟨Fr 19 [p4,p3,p5,p2,p1,(16,.b v4)],[]⟩) ?_ ?_
   ·refine AC (n:=19) AD 3 [p4,p3,p5,p2,p1,(11,.fn 72 [] []),(12,.sl 1 (x0.map cdS.enc)),(13,.j c1)] [] kr ?_
    refine AW AD 0 rfl (BY (AB rfl) rfl (Ad (a:= .sl 1 (x0.map cdS.enc)) (b:= .j c1) kr kr (Dn (e:=cdS.enc) (el:=9) (k:=1) (ki:= .i64) kr kr hv3))) ?_;refine AC (n:=19) AD 1 [p4,p3,p5,p2,p1,(11,.fn 72 [] []),(15,.st v3)] [] kr ?_;refine Af (caps:=[]) (xs:=[.st v3]) (u:=(v3,())) rfl rfl LZ rfl (AB rfl) kr kr (Ah (A2 (c:=cdS) (v:=v3)) BZ) (.inl kr) hv4 ?_;exact AE rfl AM
   refine AP (b:=v4) kr (fun hb5=>?_) (fun hb5=>?_)
   ·rw [if_pos hb5] at h
    refine AT AD [(4,.j c1)] [] ?_;refine AU ?_;have hq:=OI h; subst hq;exact ⟨rfl,AM⟩
   ·rw [BH hb5] at h
    refine AX ?_
    let p6:Nat×AV:=(8,.j (wr .i64 (c1 + 1)))
    refine DH AD [p4,p3,p2,p6] [] ?_;exact A9 (s1:=⟨Fr 19 [p4,p3,p2,p6],[]⟩) AM (ih (wr .i64 (c1 + 1)) h)
  ·rw [BH hb2] at h
   refine DN ?_;have hq:=OI h; subst hq;exact ⟨rfl,AM⟩
theorem Cv (x0:(List (List UInt8))) (r:Int) (h:Ae x0=some r):Sem E0 ⟨none,false⟩ BA ⟨Fr 19 (BF 0 (BC.enc (x0,(),()))),[]⟩ fun e s'=>(e = .normal\/e = .ret)/\∃ xs,Dk E0.P s'.fr s'.hp Tryz.f79.results.toList=some xs/\EB xs=BD r:=by
 unfold Ae at h
 let p1:Nat×AV:=(1,.fn 72 [] [])
 let p2:Nat×AV:=(0,.sl 1 (x0.map cdS.enc))
 refine Bm (Cg (s1:=⟨Fr 19 [p2,p1],[]⟩) AM ?_);refine AT AD [p2,p1] [] ?_;refine AF ?_;refine AF ?_
 let p3:Nat×AV:=(8,.j 0)
 let p4:Nat×AV:=(7,.j (x0.length:Int))
 refine AI (s1:=⟨Fr 19 [p2,p1,p4,p3],[]⟩) ?_ ?_
 ·refine AC (n:=19) AD 1 [p2,p1,(6,.sl 1 (x0.map cdS.enc))] [] kr ?_
  refine AW AD 0 rfl (BY (AB rfl) rfl (ET (a:= .sl 1 (x0.map cdS.enc)) kr (C5 (el:=9) kr))) ?_;exact Ak AD
 refine A0 ?_;obtain ⟨r7,hr7,h⟩:=OB h;refine DO (n:=100000) ?_;rcases r7 with w8 | w9
 ·try dsimp only at h
  refine BX (A9 (s1:=⟨Fr 19 [p2,p1,p4,p3],[]⟩) AM (Bd x0 _ 0 _ hr7)) ?_;refine AT AD [(4,.j (-1))] [] ?_;refine AU ?_;have hq:=OI h; subst hq;exact ⟨⟨Fr 19 [(4,.j (-1))],[]⟩,AM,.inr rfl,[.j (-1)],kr,kr⟩
 ·try dsimp only at h
  refine BX (A9 (s1:=⟨Fr 19 [p2,p1,p4,p3],[]⟩) AM (Bd x0 _ 0 _ hr7)) ?_;have hq:=OI h; subst hq;exact ⟨⟨Fr 19 [(4,.j w9)],[]⟩,AM,.inr rfl,[.j w9],kr,kr⟩
def C2:List AV->Option AV:=Ea BC (fun a=>Ae a.1) BD
theorem C3:XOk 79 C2:=by
 refine Ap Tryz.func79 (c:=BA) ?h2 ⟨Tryz.call79⟩ BC (fun a=>Ae a.1) BD (fun a=>(by show 2<=19; decide)) ?h3 ?h4
 case h2=>kernel_rfl
 case h3=>intro b; kernel_rfl
 case h4=>exact fun a b h=>Cv a.1 b h
/- slices.ContainsFunc[[]string,string] -/
noncomputable def Bb:Code:=Bc Tryz.f48
def AR (x0:(List (List UInt8))):Option (Bool) :=
 (Ae x0).bind fun v1 =>
 some (decide (v1≥0))
def A3:Cs ((List (List UInt8))×Unit×Unit):=(csC (cdL 1 cdS) (csC (cdF 72 csN (fun _=>rfl)) csN))
def A4 (r:Bool):AV:=cdB.enc r
theorem Ck (x0:(List (List UInt8))) (r:Bool) (h:AR x0=some r):Sem E0 ⟨none,false⟩ Bb ⟨Fr 9 (BF 0 (A3.enc (x0,(),()))),[]⟩ fun e s'=>(e = .normal\/e = .ret)/\∃ xs,Dk E0.P s'.fr s'.hp Tryz.f48.results.toList=some xs/\EB xs=A4 r:=by
 unfold AR at h;refine Bm (Cg (s1:=⟨Fr 9 [(0,.sl 1 (x0.map cdS.enc)),(1,.fn 72 [] [])],[]⟩) AM ?_);refine AT AD [(0,.sl 1 (x0.map cdS.enc)),(1,.fn 72 [] [])] [] ?_;refine AF ?_;obtain ⟨v1,hv1,h⟩:=OB h
 let p1:Nat×AV:=(4,.b (decide (v1≥0)))
 refine AI (s1:=⟨Fr 9 [p1],[]⟩) ?_ ?_
 ·refine AC (n:=9) AD 2 [(5,.sl 1 (x0.map cdS.enc)),(6,.fn 72 [] [])] [] kr ?_
  refine Af (caps:=[]) (xs:=[.sl 1 (x0.map cdS.enc),.fn 72 [] []]) (u:=(x0,(),())) rfl rfl C3 rfl (AB rfl) kr kr (Ah (A2 (c:=(cdL 1 cdS)) (v:=x0)) (Ah (Sm.fn BZ) BZ)) (.inl kr) hv1 ?_;exact Ak AD
 refine AU ?_;have hq:=OI h; subst hq;exact ⟨⟨Fr 9 [p1],[]⟩,AM,.inr rfl,[.b (decide (v1≥0))],kr,kr⟩
def Cr:List AV->Option AV:=Ea A3 (fun a=>AR a.1) A4
theorem Bg:XOk 48 Cr:=by
 refine Ap Tryz.func48 (c:=Bb) ?h2 ⟨Tryz.call48⟩ A3 (fun a=>AR a.1) A4 (fun a=>(by show 2<=9; decide)) ?h3 ?h4
 case h2=>kernel_rfl
 case h3=>intro b; kernel_rfl
 case h4=>exact fun a b h=>Ck a.1 b h
/- slices.Index[[]string,string] -/
noncomputable def CR:Code:=Bc Tryz.f93
def BS (x0:(List (List UInt8))) (x1:(List UInt8)):Nat->Int->Option ((Unit) ⊕ (Int))
 | 0,_=>none
 | f + 1,c1 =>
  if (decide (c1 < (x0.length:Int)))=true then
  (idx x0 c1).bind fun v3 =>
  if (x1==v3)=true then
  some (.inr c1)
  else
  BS x0 x1 f (wr .i64 (c1 + 1))
  else
  some (.inl ())
def BN (x0:(List (List UInt8))) (x1:(List UInt8)):Option (Int) :=
 (BS x0 x1 100000 0).bind fun r6 =>
 match r6 with
 | (.inl w7) =>
  some (-1)
 | (.inr w8) =>
  some w8
def CU:Cs ((List (List UInt8))×(List UInt8)×Unit):=(csC (cdL 1 cdS) (csC cdS csN))
def CW (r:Int):AV:=cdI.enc r
theorem C7 (x0:(List (List UInt8))) (x1:(List UInt8)):∀ (f:Nat) (c1:Int) (r:(Unit) ⊕ (Int)),BS x0 x1 f c1=some r->SemN E0 ⟨none,false⟩ (pc CR [1,0,1,0,0]) f ⟨Fr 19 [(0,.sl 1 (x0.map cdS.enc)),(1,.st x1),(7,.j (x0.length:Int)),(8,.j c1)],[]⟩ (fun e s=>match r with
 | (.inl w)=>e=(.exit 0)/\Wk E0 s ⟨Fr 19 [],[]⟩
 | (.inr w)=>e = .ret/\Wk E0 s ⟨Fr 19 [(4,.j w)],[]⟩):=by
 intro f;induction f with
 | zero=>intro c1 r h; cases h
 | succ f ih0 =>
  intro c1 r h
  have ih:=fun (c1:Int)=>ih0 c1 r
  unfold BS at h;refine Cl ?_
  let p1:Nat×AV:=(8,.j c1)
  let p2:Nat×AV:=(7,.j (x0.length:Int))
  let p3:Nat×AV:=(0,.sl 1 (x0.map cdS.enc))
  refine AT AD [p3,(1,.st x1),p2,p1,(9,.b (decide (c1 < (x0.length:Int))))] [] ?_;refine AF ?_;refine AP (b:=(decide (c1 < (x0.length:Int)))) kr (fun hb2=>?_) (fun hb2=>?_)
  ·rw [if_pos hb2] at h
   refine AX ?_;refine AF ?_;refine A0 ?_
   let p4:Nat×AV:=(5,.j c1)
   refine AT AD [p3,(1,.st x1),p4,p2,p1] [] ?_;refine AF ?_;obtain ⟨v3,hv3,h⟩:=OB h;refine AI (s1:=⟨Fr 19 [p3,(1,.st x1),p4,p2,p1,(16,.b (x1==v3))],[]⟩) ?_ ?_
   ·refine AC (n:=19) AD 3 [p3,(1,.st x1),p4,p2,p1,(11,.st x1),(12,.sl 1 (x0.map cdS.enc)),(13,.j c1)] [] kr ?_
    refine AW AD 0 rfl (BY (AB rfl) rfl (Ad (a:= .sl 1 (x0.map cdS.enc)) (b:= .j c1) kr kr (Dn (e:=cdS.enc) (el:=9) (k:=1) (ki:= .i64) kr kr hv3))) ?_;exact Ak AD
   refine AP (b:=(x1==v3)) kr (fun hb4=>?_) (fun hb4=>?_)
   ·rw [if_pos hb4] at h
    refine AT AD [(4,.j c1)] [] ?_;refine AU ?_;have hq:=OI h; subst hq;exact ⟨rfl,AM⟩
   ·rw [BH hb4] at h
    refine AX ?_
    let p5:Nat×AV:=(8,.j (wr .i64 (c1 + 1)))
    refine DH AD [p3,(1,.st x1),p2,p5] [] ?_;exact A9 (s1:=⟨Fr 19 [p3,(1,.st x1),p2,p5],[]⟩) AM (ih (wr .i64 (c1 + 1)) h)
  ·rw [BH hb2] at h
   refine DN ?_;have hq:=OI h; subst hq;exact ⟨rfl,AM⟩
theorem FD (x0:(List (List UInt8))) (x1:(List UInt8)) (r:Int) (h:BN x0 x1=some r):Sem E0 ⟨none,false⟩ CR ⟨Fr 19 (BF 0 (CU.enc (x0,x1,()))),[]⟩ fun e s'=>(e = .normal\/e = .ret)/\∃ xs,Dk E0.P s'.fr s'.hp Tryz.f93.results.toList=some xs/\EB xs=CW r:=by
 unfold BN at h
 let p1:Nat×AV:=(0,.sl 1 (x0.map cdS.enc))
 refine Bm (Cg (s1:=⟨Fr 19 [p1,(1,.st x1)],[]⟩) AM ?_);refine AT AD [p1,(1,.st x1)] [] ?_;refine AF ?_;refine AF ?_
 let p2:Nat×AV:=(8,.j 0)
 let p3:Nat×AV:=(7,.j (x0.length:Int))
 refine AI (s1:=⟨Fr 19 [p1,(1,.st x1),p3,p2],[]⟩) ?_ ?_
 ·refine AC (n:=19) AD 1 [p1,(1,.st x1),(6,.sl 1 (x0.map cdS.enc))] [] kr ?_
  refine AW AD 0 rfl (BY (AB rfl) rfl (ET (a:= .sl 1 (x0.map cdS.enc)) kr (C5 (el:=9) kr))) ?_;exact Ak AD
 refine A0 ?_;obtain ⟨r6,hr6,h⟩:=OB h;refine DO (n:=100000) ?_;rcases r6 with w7 | w8
 ·try dsimp only at h
  refine BX (A9 (s1:=⟨Fr 19 [p1,(1,.st x1),p3,p2],[]⟩) AM (C7 x0 x1 _ 0 _ hr6)) ?_;refine AT AD [(4,.j (-1))] [] ?_;refine AU ?_;have hq:=OI h; subst hq;exact ⟨⟨Fr 19 [(4,.j (-1))],[]⟩,AM,.inr rfl,[.j (-1)],kr,kr⟩
 ·try dsimp only at h
  refine BX (A9 (s1:=⟨Fr 19 [p1,(1,.st x1),p3,p2],[]⟩) AM (C7 x0 x1 _ 0 _ hr6)) ?_;have hq:=OI h; subst hq;exact ⟨⟨Fr 19 [(4,.j w8)],[]⟩,AM,.inr rfl,[.j w8],kr,kr⟩
def Fa:List AV->Option AV:=Ea CU (fun a=>BN a.1 a.2.1) CW
theorem Fd:XOk 93 Fa:=by
 refine Ap Tryz.func93 (c:=CR) ?h2 ⟨Tryz.call93⟩ CU (fun a=>BN a.1 a.2.1) CW (fun a=>(by show 2<=19; decide)) ?h3 ?h4
 case h2=>kernel_rfl
 case h3=>intro b; kernel_rfl
 case h4=>exact fun a b h=>FD a.1 a.2.1 b h
/- slices.Contains[[]string,string] -/
noncomputable def C4:Code:=Bc Tryz.f73
def Ar (x0:(List (List UInt8))) (x1:(List UInt8)):Option (Bool) :=
 (BN x0 x1).bind fun v1 =>
 some (decide (v1≥0))
def B6:Cs ((List (List UInt8))×(List UInt8)×Unit):=(csC (cdL 1 cdS) (csC cdS csN))
def B7 (r:Bool):AV:=cdB.enc r
theorem EZ (x0:(List (List UInt8))) (x1:(List UInt8)) (r:Bool) (h:Ar x0 x1=some r):Sem E0 ⟨none,false⟩ C4 ⟨Fr 9 (BF 0 (B6.enc (x0,x1,()))),[]⟩ fun e s'=>(e = .normal\/e = .ret)/\∃ xs,Dk E0.P s'.fr s'.hp Tryz.f73.results.toList=some xs/\EB xs=B7 r:=by
 unfold Ar at h;refine Bm (Cg (s1:=⟨Fr 9 [(0,.sl 1 (x0.map cdS.enc)),(1,.st x1)],[]⟩) AM ?_);refine AT AD [(0,.sl 1 (x0.map cdS.enc)),(1,.st x1)] [] ?_;refine AF ?_;obtain ⟨v1,hv1,h⟩:=OB h
 let p1:Nat×AV:=(4,.b (decide (v1≥0)))
 refine AI (s1:=⟨Fr 9 [p1],[]⟩) ?_ ?_
 ·refine AC (n:=9) AD 2 [(5,.sl 1 (x0.map cdS.enc)),(6,.st x1)] [] kr ?_
  refine Af (caps:=[]) (xs:=[.sl 1 (x0.map cdS.enc),.st x1]) (u:=(x0,x1,())) rfl rfl Fd rfl (AB rfl) kr kr (Ah (A2 (c:=(cdL 1 cdS)) (v:=x0)) (Ah (A2 (c:=cdS) (v:=x1)) BZ)) (.inl kr) hv1 ?_;exact Ak AD
 refine AU ?_;have hq:=OI h; subst hq;exact ⟨⟨Fr 9 [p1],[]⟩,AM,.inr rfl,[.b (decide (v1≥0))],kr,kr⟩
def Ep:List AV->Option AV:=Ea B6 (fun a=>Ar a.1 a.2.1) B7
theorem DG:XOk 73 Ep:=by
 refine Ap Tryz.func73 (c:=C4) ?h2 ⟨Tryz.call73⟩ B6 (fun a=>Ar a.1 a.2.1) B7 (fun a=>(by show 2<=9; decide)) ?h3 ?h4
 case h2=>kernel_rfl
 case h3=>intro b; kernel_rfl
 case h4=>exact fun a b h=>EZ a.1 a.2.1 b h
/- trestle/court.check$2 -/
noncomputable def Hh:Code:=Bc Tryz.f74
def DQ (x0:AJ) (x1:AJ):Option (Bool) :=
 (if (x0.1==1)=true then (Ar x0.2.2.2.1 x1.2.1).bind fun v1 =>
 some v1 else some false).bind fun j3 =>
 some j3
def FH:Cs (AJ×AJ×Unit):=(csC AA (csC (cdP AA) csN))
def FL (r:Bool):AV:=cdB.enc r
theorem Jw (x0:AJ) (x1:AJ) (r:Bool) (h:DQ x0 x1=some r):Sem E0 ⟨none,false⟩ Hh ⟨Fr 14 (BF 0 (FH.enc (x0,x1,()))),[]⟩ fun e s'=>(e = .normal\/e = .ret)/\∃ xs,Dk E0.P s'.fr s'.hp Tryz.f74.results.toList=some xs/\EB xs=FL r:=by
 unfold DQ at h;refine Bm (Cg (s1:=⟨Fr 14 [(0,AA.enc x0),(1,.pe (AA.enc x1) 0)],[]⟩) AM ?_);refine AT AD [(1,.pe (AA.enc x1) 0),(2,.pt 0 0 0)] [some ⟨5,66,[AA.enc x0],false⟩] ?_;refine AF ?_;obtain ⟨j3,hj3,h⟩:=OB h;refine AI (s1:=⟨Fr 14 [(3,.b j3)],[]⟩) ?_ ?_
 ·refine AC (n:=14) AD 4 [(1,.pe (AA.enc x1) 0),(2,.pt 0 0 0),(7,.b (x0.1==1))] [some ⟨5,66,[AA.enc x0],false⟩] kr ?_
  rcases BE (x0.1==1) with hc4 | hc4
  ·rw [if_pos hc4] at hj3
   rw [hc4];refine AC (n:=14) AD 4 [(7,.b true),(9,.sl 1 (x0.2.2.2.1.map cdS.enc)),(11,.st x1.2.1)] [some ⟨5,66,[AA.enc x0],false⟩] kr ?_;obtain ⟨v1,hv1,hj3⟩:=OB hj3;refine Af (caps:=[]) (xs:=[.sl 1 (x0.2.2.2.1.map cdS.enc),.st x1.2.1]) (u:=(x0.2.2.2.1,x1.2.1,())) rfl rfl DG rfl kr kr kr (Ah (A2 (c:=(cdL 1 cdS)) (v:=x0.2.2.2.1)) (Ah (A2 (c:=cdS) (v:=x1.2.1)) BZ)) (.inl kr) hv1 ?_;refine AC (n:=14) AD 2 [(3,.b v1)] [some ⟨5,66,[AA.enc x0],false⟩] kr ?_;have hq:=OI hj3; subst hq;exact AE rfl (Al [] trivial ⟨lv,trivial⟩)
  ·rw [BH hc4] at hj3
   rw [hc4];refine AC (n:=14) AD 7 [(3,.b false)] [some ⟨5,66,[AA.enc x0],false⟩] kr ?_;have hq:=OI hj3; subst hq;exact AE rfl (Al [] trivial ⟨lv,trivial⟩)
 refine AU ?_;have hq:=OI h; subst hq;exact ⟨⟨Fr 14 [(3,.b j3)],[]⟩,AM,.inr rfl,[.b j3],kr,kr⟩
def LR:List AV->Option AV:=Ea FH (fun a=>DQ a.1 a.2.1) FL
theorem La:XOk 74 LR:=by
 refine Ap Tryz.func74 (c:=Hh) ?h2 ⟨Tryz.call74⟩ FH (fun a=>DQ a.1 a.2.1) FL (fun a=>(by show 2<=14; decide)) ?h3 ?h4
 case h2=>kernel_rfl
 case h3=>intro b; kernel_rfl
 case h4=>exact fun a b h=>Jw a.1 a.2.1 b h
/- slices.IndexFunc[[]trestle/api.Clause,trestle/api.Clause] -/
noncomputable def Ax:Code:=Bc Tryz.f78
def AY (x0:(List AJ)) (x1:AJ):Nat->Int->Option ((Unit) ⊕ (Int))
 | 0,_=>none
 | f + 1,c1 =>
  if (decide (c1 < (x0.length:Int)))=true then
  (idx x0 c1).bind fun v3 =>
  (DQ v3 x1).bind fun v4 =>
  if v4=true then
  some (.inr c1)
  else
  AY x0 x1 f (wr .i64 (c1 + 1))
  else
  some (.inl ())
def AS (x0:(List AJ)) (x1:AJ):Option (Int) :=
 (AY x0 x1 100000 0).bind fun r7 =>
 match r7 with
 | (.inl w8) =>
  some (-1)
 | (.inr w9) =>
  some w9
def Ay:Cs ((List AJ)×AJ×Unit):=(csC (cdL 5 AA) (csC (cdF 74 (csE (cdP AA)) (fun _=>rfl)) csN))
def Az (r:Int):AV:=cdI.enc r
theorem BL (x0:(List AJ)) (x1:AJ):∀ (f:Nat) (c1:Int) (r:(Unit) ⊕ (Int)),AY x0 x1 f c1=some r->SemN E0 ⟨none,false⟩ (pc Ax [1,0,1,0,0]) f ⟨Fr 19 [(0,.sl 5 (x0.map AA.enc)),(1,.fn 74 [] [.pe (AA.enc x1) 0]),(7,.j (x0.length:Int)),(8,.j c1)],[]⟩ (fun e s=>match r with
 | (.inl w)=>e=(.exit 0)/\Wk E0 s ⟨Fr 19 [],[]⟩
 | (.inr w)=>e = .ret/\Wk E0 s ⟨Fr 19 [(4,.j w)],[]⟩):=by
 intro f;induction f with
 | zero=>intro c1 r h; cases h
 | succ f ih0 =>
  intro c1 r h
  have ih:=fun (c1:Int)=>ih0 c1 r
  unfold AY at h;refine Cl ?_
  let p1:Nat×AV:=(8,.j c1)
  let p2:Nat×AV:=(7,.j (x0.length:Int))
  let p3:Nat×AV:=(1,.fn 74 [] [.pe (AA.enc x1) 0])
  let p4:Nat×AV:=(0,.sl 5 (x0.map AA.enc))
  refine AT AD [p4,p3,p2,p1,(9,.b (decide (c1 < (x0.length:Int))))] [] ?_;refine AF ?_;refine AP (b:=(decide (c1 < (x0.length:Int)))) kr (fun hb2=>?_) (fun hb2=>?_)
  ·rw [if_pos hb2] at h
   refine AX ?_;refine AF ?_;refine A0 ?_
   let p5:Nat×AV:=(5,.j c1)
   refine AT AD [p4,p3,p5,p2,p1] [] ?_;refine AF ?_;obtain ⟨v3,hv3,h⟩:=OB h;obtain ⟨v4,hv4,h⟩:=OB h;refine AI (s1:=⟨Fr 19 [p4,p3,p5,p2,p1,(16,.b v4)],[]⟩) ?_ ?_
   ·let p6:Nat×AV:=(11,.fn 74 [] [.pe (AA.enc x1) 0])
    refine AC (n:=19) AD 3 [p4,p3,p5,p2,p1,p6,(12,.sl 5 (x0.map AA.enc)),(13,.j c1)] [] kr ?_;refine AW AD 0 rfl (BY (AB rfl) rfl (Ad (a:= .sl 5 (x0.map AA.enc)) (b:= .j c1) kr kr (Dn (e:=AA.enc) (el:=66) (k:=5) (ki:= .i64) kr kr hv3))) ?_;refine AC (n:=19) AD 1 [p4,p3,p5,p2,p1,p6,(15,AA.enc v3)] [] kr ?_;refine Af (caps:=[.pe (AA.enc x1) 0]) (xs:=[AA.enc v3]) (u:=(v3,x1,())) rfl rfl La rfl (AB rfl) kr kr (Ah (A2 (c:=AA) (v:=v3)) (Ah (A2 (c:=(cdP AA)) (v:=x1)) BZ)) (.inl kr) hv4 ?_;exact AE rfl AM
   refine AP (b:=v4) kr (fun hb5=>?_) (fun hb5=>?_)
   ·rw [if_pos hb5] at h
    refine AT AD [(4,.j c1)] [] ?_;refine AU ?_;have hq:=OI h; subst hq;exact ⟨rfl,AM⟩
   ·rw [BH hb5] at h
    refine AX ?_
    let p7:Nat×AV:=(8,.j (wr .i64 (c1 + 1)))
    refine DH AD [p4,p3,p2,p7] [] ?_;exact A9 (s1:=⟨Fr 19 [p4,p3,p2,p7],[]⟩) AM (ih (wr .i64 (c1 + 1)) h)
  ·rw [BH hb2] at h
   refine DN ?_;have hq:=OI h; subst hq;exact ⟨rfl,AM⟩
theorem CN (x0:(List AJ)) (x1:AJ) (r:Int) (h:AS x0 x1=some r):Sem E0 ⟨none,false⟩ Ax ⟨Fr 19 (BF 0 (Ay.enc (x0,x1,()))),[]⟩ fun e s'=>(e = .normal\/e = .ret)/\∃ xs,Dk E0.P s'.fr s'.hp Tryz.f78.results.toList=some xs/\EB xs=Az r:=by
 unfold AS at h
 let p1:Nat×AV:=(1,.fn 74 [] [.pe (AA.enc x1) 0])
 let p2:Nat×AV:=(0,.sl 5 (x0.map AA.enc))
 refine Bm (Cg (s1:=⟨Fr 19 [p2,p1],[]⟩) AM ?_);refine AT AD [p2,p1] [] ?_;refine AF ?_;refine AF ?_
 let p3:Nat×AV:=(8,.j 0)
 let p4:Nat×AV:=(7,.j (x0.length:Int))
 refine AI (s1:=⟨Fr 19 [p2,p1,p4,p3],[]⟩) ?_ ?_
 ·refine AC (n:=19) AD 1 [p2,p1,(6,.sl 5 (x0.map AA.enc))] [] kr ?_
  refine AW AD 0 rfl (BY (AB rfl) rfl (ET (a:= .sl 5 (x0.map AA.enc)) kr (C5 (el:=66) kr))) ?_;exact Ak AD
 refine A0 ?_;obtain ⟨r7,hr7,h⟩:=OB h;refine DO (n:=100000) ?_;rcases r7 with w8 | w9
 ·try dsimp only at h
  refine BX (A9 (s1:=⟨Fr 19 [p2,p1,p4,p3],[]⟩) AM (BL x0 x1 _ 0 _ hr7)) ?_;refine AT AD [(4,.j (-1))] [] ?_;refine AU ?_;have hq:=OI h; subst hq;exact ⟨⟨Fr 19 [(4,.j (-1))],[]⟩,AM,.inr rfl,[.j (-1)],kr,kr⟩
 ·try dsimp only at h
  refine BX (A9 (s1:=⟨Fr 19 [p2,p1,p4,p3],[]⟩) AM (BL x0 x1 _ 0 _ hr7)) ?_;have hq:=OI h; subst hq;exact ⟨⟨Fr 19 [(4,.j w9)],[]⟩,AM,.inr rfl,[.j w9],kr,kr⟩
def Ca:List AV->Option AV:=Ea Ay (fun a=>AS a.1 a.2.1) Az
theorem Cb:XOk 78 Ca:=by
 refine Ap Tryz.func78 (c:=Ax) ?h2 ⟨Tryz.call78⟩ Ay (fun a=>AS a.1 a.2.1) Az (fun a=>(by show 2<=19; decide)) ?h3 ?h4
 case h2=>kernel_rfl
 case h3=>intro b; kernel_rfl
 case h4=>exact fun a b h=>CN a.1 a.2.1 b h
/- slices.ContainsFunc[[]trestle/api.Clause,trestle/api.Clause] -/
noncomputable def BJ:Code:=Bc Tryz.f46
def AQ (x0:(List AJ)) (x1:AJ):Option (Bool) :=
 (AS x0 x1).bind fun v1 =>
 some (decide (v1≥0))
def Au:Cs ((List AJ)×AJ×Unit):=(csC (cdL 5 AA) (csC (cdF 74 (csE (cdP AA)) (fun _=>rfl)) csN))
def Av (r:Bool):AV:=cdB.enc r
theorem B9 (x0:(List AJ)) (x1:AJ) (r:Bool) (h:AQ x0 x1=some r):Sem E0 ⟨none,false⟩ BJ ⟨Fr 9 (BF 0 (Au.enc (x0,x1,()))),[]⟩ fun e s'=>(e = .normal\/e = .ret)/\∃ xs,Dk E0.P s'.fr s'.hp Tryz.f46.results.toList=some xs/\EB xs=Av r:=by
 unfold AQ at h
 let p1:Nat×AV:=(1,.fn 74 [] [.pe (AA.enc x1) 0])
 let p2:Nat×AV:=(0,.sl 5 (x0.map AA.enc))
 refine Bm (Cg (s1:=⟨Fr 9 [p2,p1],[]⟩) AM ?_);refine AT AD [p2,p1] [] ?_;refine AF ?_;obtain ⟨v1,hv1,h⟩:=OB h
 let p3:Nat×AV:=(4,.b (decide (v1≥0)))
 refine AI (s1:=⟨Fr 9 [p3],[]⟩) ?_ ?_
 ·refine AC (n:=9) AD 2 [(5,.sl 5 (x0.map AA.enc)),(6,.fn 74 [] [.pe (AA.enc x1) 0])] [] kr ?_
  refine Af (caps:=[]) (xs:=[.sl 5 (x0.map AA.enc),.fn 74 [] [.pe (AA.enc x1) 0]]) (u:=(x0,x1,())) rfl rfl Cb rfl (AB rfl) kr kr (Ah (A2 (c:=(cdL 5 AA)) (v:=x0)) (Ah (Sm.fn (Po (A2 (c:=(cdP AA)) (v:=x1)))) BZ)) (.inl kr) hv1 ?_;exact Ak AD
 refine AU ?_;have hq:=OI h; subst hq;exact ⟨⟨Fr 9 [p3],[]⟩,AM,.inr rfl,[.b (decide (v1≥0))],kr,kr⟩
def CG:List AV->Option AV:=Ea Au (fun a=>AQ a.1 a.2.1) Av
theorem CH:XOk 46 CG:=by
 refine Ap Tryz.func46 (c:=BJ) ?h2 ⟨Tryz.call46⟩ Au (fun a=>AQ a.1 a.2.1) Av (fun a=>(by show 2<=9; decide)) ?h3 ?h4
 case h2=>kernel_rfl
 case h3=>intro b; kernel_rfl
 case h4=>exact fun a b h=>B9 a.1 a.2.1 b h
/- trestle/court.check -/
noncomputable def Gg:Code:=Bc Tryz.f36
def Ch (x0:(List AJ)) (x1:AJ):Nat->Int->Option ((Unit) ⊕ (Int))
 | 0,_=>none
 | f + 1,c9 =>
  if (decide (c9 < (x1.2.2.2.1.length:Int)))=true then
  (idx x1.2.2.2.1 c9).bind fun v11 =>
  if (By 0 c9 x1.2.2.2.1.length)=true then
  (Ar ((x1.2.2.2.1.take c9.toNat).drop (0:Int).toNat) v11).bind fun v13 =>
  if v13=true then
  some (.inr 5)
  else
  Ch x0 x1 f (wr .i64 (c9 + 1))
  else none
  else
  some (.inl ())
def D0 (x0:(List AJ)) (x1:AJ):Option (Int) :=
 (BB x1).bind fun v1 =>
 if (!v1)=true then
 some 30
 else
 (if (!(x1.2.1==[]))=true then (D7 x1.2.1).bind fun v3 =>
 if (!v3)=true then some true else (AR x1.2.2.2.1).bind fun v4 =>
 some v4 else (AR x1.2.2.2.1).bind fun v5 =>
 some v5).bind fun j7 =>
 if j7=true then
 some 4
 else
 (Ch x0 x1 100000 0).bind fun r16 =>
 match r16 with
 | (.inl w17) =>
  (if (x1.2.1==[])=true then some true else (AQ x0 x1).bind fun v18 =>
  some v18).bind fun j20 =>
  if j20=true then
  some 0
  else
  some 31
 | (.inr w23) =>
  some w23
def Gi:Cs ((List AJ)×AJ×Unit):=(csC (cdL 5 AA) (csC AA csN))
def Gl (r:Int):AV:=cdI.enc r
theorem Gv (x0:(List AJ)) (x1:AJ):∀ (f:Nat) (c9:Int) (r:(Unit) ⊕ (Int)),Ch x0 x1 f c9=some r->SemN E0 ⟨none,false⟩ (pc Gg [1,1,1,0,1,0,0]) f ⟨Fr 47 [(0,.sl 5 (x0.map AA.enc)),(3,.pt 0 0 0),(25,.sl 1 (x1.2.2.2.1.map cdS.enc)),(26,.j (x1.2.2.2.1.length:Int)),(27,.j c9)],[some ⟨5,66,[AA.enc x1],false⟩]⟩ (fun e s=>match r with
 | (.inl w)=>e=(.exit 0)/\Wk E0 s ⟨Fr 47 [(0,.sl 5 (x0.map AA.enc)),(3,.pt 0 0 0)],[some ⟨5,66,[AA.enc x1],false⟩]⟩
 | (.inr w)=>e = .ret/\Wk E0 s ⟨Fr 47 [(4,.j w)],[]⟩):=by
 intro f;induction f with
 | zero=>intro c9 r h; cases h
 | succ f ih0 =>
  intro c9 r h
  have ih:=fun (c9:Int)=>ih0 c9 r
  unfold Ch at h;refine Cl ?_
  let p1:Option Blk:=some ⟨5,66,[AA.enc x1],false⟩
  let p2:Nat×AV:=(27,.j c9)
  let p3:Nat×AV:=(26,.j (x1.2.2.2.1.length:Int))
  let p4:Nat×AV:=(25,.sl 1 (x1.2.2.2.1.map cdS.enc))
  let p5:Nat×AV:=(3,.pt 0 0 0)
  let p6:Nat×AV:=(0,.sl 5 (x0.map AA.enc))
  refine AT AD [p6,p5,p4,p3,p2,(28,.b (decide (c9 < (x1.2.2.2.1.length:Int))))] [p1] ?_;refine AF ?_;refine AP (b:=(decide (c9 < (x1.2.2.2.1.length:Int)))) kr (fun hb10=>?_) (fun hb10=>?_)
  ·rw [if_pos hb10] at h
   refine AX ?_;refine AF ?_;refine A0 ?_;refine AF ?_;obtain ⟨v11,hv11,h⟩:=OB h;refine AI (s1:=⟨Fr 47 [p6,p5,(5,.j c9),(6,.st v11),p4,p3,p2],[p1]⟩) ?_ ?_
   ·refine AC (n:=47) AD 1 [p6,p5,p4,p3,p2,(29,.j c9)] [p1] kr ?_
    refine AW AD 0 rfl (BY (AB rfl) rfl (Ad (a:= .sl 1 (x1.2.2.2.1.map cdS.enc)) (b:= .j c9) kr kr (Dn (e:=cdS.enc) (el:=9) (k:=1) (ki:= .i64) kr kr hv11))) ?_;exact Ak AD
   refine AF ?_;by_cases hk12:(By 0 c9 x1.2.2.2.1.length)=true
   case neg=>rw [if_neg hk12] at h; cases h
   rw [if_pos hk12] at h;obtain ⟨v13,hv13,h⟩:=OB h;refine AI (s1:=⟨Fr 47 [p6,p5,p4,p3,p2,(37,.b v13)],[p1]⟩) ?_ ?_
   ·refine AC (n:=47) AD 3 [p6,p5,(6,.st v11),p4,p3,p2,(33,.sl 1 (x1.2.2.2.1.map cdS.enc)),(34,.j c9)] [p1] kr ?_
    refine AW AD 0 rfl (BY (AB rfl) rfl (Di (a:= .sl 1 (x1.2.2.2.1.map cdS.enc)) (l:=none) (u:=(some (.j c9))) (m:=none) kr kr kr rfl (Gd (xs:=x1.2.2.2.1) (e:=cdS.enc) (k:=1) (el:=9) (lo:=0) (hi:=c9) kr kr rfl (Ee (L5 hk12)) hk12))) ?_;refine AC (n:=47) AD 1 [p6,p5,p4,p3,p2,(35,.sl 1 (((x1.2.2.2.1.take c9.toNat).drop (0:Int).toNat).map cdS.enc)),(36,.st v11)] [p1] kr ?_;refine Af (caps:=[]) (xs:=[.sl 1 (((x1.2.2.2.1.take c9.toNat).drop (0:Int).toNat).map cdS.enc),.st v11]) (u:=(((x1.2.2.2.1.take c9.toNat).drop (0:Int).toNat),v11,())) rfl rfl DG rfl (AB rfl) kr kr (Ah (A2 (c:=(cdL 1 cdS)) (v:=((x1.2.2.2.1.take c9.toNat).drop (0:Int).toNat))) (Ah (A2 (c:=cdS) (v:=v11)) BZ)) (.inl kr) hv13 ?_;exact AE rfl (Al [0] ⟨⟨_,rfl,Cm⟩,trivial⟩ ⟨lv,lv,lv,lv,lv,lv,trivial⟩)
   refine AP (b:=v13) kr (fun hb14=>?_) (fun hb14=>?_)
   ·rw [if_pos hb14] at h
    refine AF ?_;refine AI (s1:=⟨Fr 47 [(4,.j 5)],[]⟩) ?_ ?_
    ·refine AC (n:=47) AD 1 [(4,.j 5)] [p1] kr ?_
     exact AE rfl (Al [] trivial ⟨lv,trivial⟩)
    refine AU ?_;have hq:=OI h; subst hq;exact ⟨rfl,AM⟩
   ·rw [BH hb14] at h
    refine AX ?_
    let p7:Nat×AV:=(27,.j (wr .i64 (c9 + 1)))
    refine DH AD [p6,p5,p4,p3,p7] [p1] ?_;exact A9 (s1:=⟨Fr 47 [p6,p5,p4,p3,p7],[p1]⟩) (Al [0] ⟨⟨_,rfl,Cm⟩,trivial⟩ ⟨lv,lv,lv,lv,lv,trivial⟩) (ih (wr .i64 (c9 + 1)) h)
  ·rw [BH hb10] at h
   refine DN ?_;have hq:=OI h; subst hq;exact ⟨rfl,(Al [0] ⟨⟨_,rfl,Cm⟩,trivial⟩ ⟨lv,lv,trivial⟩)⟩
theorem Ky (x0:(List AJ)) (x1:AJ) (r:Int) (h:D0 x0 x1=some r):Sem E0 ⟨none,false⟩ Gg ⟨Fr 47 (BF 0 (Gi.enc (x0,x1,()))),[]⟩ fun e s'=>(e = .normal\/e = .ret)/\∃ xs,Dk E0.P s'.fr s'.hp Tryz.f36.results.toList=some xs/\EB xs=Gl r:=by
 unfold D0 at h;refine Bm (Cg (s1:=⟨Fr 47 [(0,.sl 5 (x0.map AA.enc)),(1,AA.enc x1)],[]⟩) AM ?_);refine AT AD [(0,.sl 5 (x0.map AA.enc)),(3,.pt 0 0 0)] [some ⟨5,66,[AA.enc x1],false⟩] ?_;refine AF ?_;refine AF ?_;obtain ⟨v1,hv1,h⟩:=OB h;refine AI (s1:=⟨Fr 47 [(0,.sl 5 (x0.map AA.enc)),(3,.pt 0 0 0),(9,.b (!v1))],[some ⟨5,66,[AA.enc x1],false⟩]⟩) ?_ ?_
 ·refine AC (n:=47) AD 1 [(0,.sl 5 (x0.map AA.enc)),(3,.pt 0 0 0),(7,AA.enc x1)] [some ⟨5,66,[AA.enc x1],false⟩] kr ?_
  refine Af (caps:=[]) (xs:=[AA.enc x1]) (u:=(x1,())) rfl rfl Ly rfl (AB rfl) kr kr (Ah (A2 (c:=AA) (v:=x1)) BZ) (.inl kr) hv1 ?_;exact Ak AD
 refine AP (b:=(!v1)) kr (fun hb2=>?_) (fun hb2=>?_)
 ·rw [if_pos hb2] at h
  refine AF ?_;refine AI (s1:=⟨Fr 47 [(4,.j 30)],[]⟩) ?_ ?_
  ·refine AC (n:=47) AD 1 [(4,.j 30)] [some ⟨5,66,[AA.enc x1],false⟩] kr ?_
   exact AE rfl (Al [] trivial ⟨lv,trivial⟩)
  refine AU ?_;have hq:=OI h; subst hq;exact ⟨⟨Fr 47 [(4,.j 30)],[]⟩,AM,.inr rfl,[.j 30],kr,kr⟩
 ·rw [BH hb2] at h
  refine AX ?_;refine AF ?_;refine AF ?_;obtain ⟨j7,hj7,h⟩:=OB h;refine AI (s1:=⟨Fr 47 [(0,.sl 5 (x0.map AA.enc)),(3,.pt 0 0 0),(23,.b j7)],[some ⟨5,66,[AA.enc x1],false⟩]⟩) ?_ ?_
  ·refine AC (n:=47) AD 4 [(0,.sl 5 (x0.map AA.enc)),(3,.pt 0 0 0),(13,.b (!(x1.2.1==[])))] [some ⟨5,66,[AA.enc x1],false⟩] kr ?_
   rcases BE (!(x1.2.1==[])) with hc24 | hc24
   ·rw [if_pos hc24] at hj7
    rw [hc24];refine AC (n:=47) AD 2 [(0,.sl 5 (x0.map AA.enc)),(3,.pt 0 0 0),(13,.b true),(15,.st x1.2.1)] [some ⟨5,66,[AA.enc x1],false⟩] kr ?_;obtain ⟨v3,hv3,hj7⟩:=OB hj7;refine Af (caps:=[]) (xs:=[.st x1.2.1]) (u:=(x1.2.1,())) rfl rfl KQ rfl kr kr kr (Ah (A2 (c:=cdS) (v:=x1.2.1)) BZ) (.inl kr) hv3 ?_;refine AC (n:=47) AD 3 [(0,.sl 5 (x0.map AA.enc)),(3,.pt 0 0 0),(19,.b (!v3))] [some ⟨5,66,[AA.enc x1],false⟩] kr ?_;rcases BE (!v3) with hc25 | hc25
    ·rw [if_pos hc25] at hj7
     rw [hc25];refine AC (n:=47) AD 4 [(0,.sl 5 (x0.map AA.enc)),(3,.pt 0 0 0),(23,.b true)] [some ⟨5,66,[AA.enc x1],false⟩] kr ?_;have hq:=OI hj7; subst hq;exact AE rfl (Al [0] ⟨⟨_,rfl,Cm⟩,trivial⟩ ⟨lv,lv,lv,trivial⟩)
    ·rw [BH hc25] at hj7
     rw [hc25];refine AC (n:=47) AD 2 [(0,.sl 5 (x0.map AA.enc)),(3,.pt 0 0 0),(19,.b false),(21,.sl 1 (x1.2.2.2.1.map cdS.enc))] [some ⟨5,66,[AA.enc x1],false⟩] kr ?_;obtain ⟨v4,hv4,hj7⟩:=OB hj7;refine Af (caps:=[]) (xs:=[.sl 1 (x1.2.2.2.1.map cdS.enc),.fn 72 [] []]) (u:=(x1.2.2.2.1,(),())) rfl rfl Bg rfl kr kr kr (Ah (A2 (c:=(cdL 1 cdS)) (v:=x1.2.2.2.1)) (Ah (Sm.fn BZ) BZ)) (.inl kr) hv4 ?_;refine AC (n:=47) AD 1 [(0,.sl 5 (x0.map AA.enc)),(3,.pt 0 0 0),(23,.b v4)] [some ⟨5,66,[AA.enc x1],false⟩] kr ?_;have hq:=OI hj7; subst hq;exact AE rfl (Al [0] ⟨⟨_,rfl,Cm⟩,trivial⟩ ⟨lv,lv,lv,trivial⟩)
   ·rw [BH hc24] at hj7
    rw [hc24];refine AC (n:=47) AD 8 [(0,.sl 5 (x0.map AA.enc)),(3,.pt 0 0 0),(19,.b false),(21,.sl 1 (x1.2.2.2.1.map cdS.enc))] [some ⟨5,66,[AA.enc x1],false⟩] kr ?_;obtain ⟨v5,hv5,hj7⟩:=OB hj7;refine Af (caps:=[]) (xs:=[.sl 1 (x1.2.2.2.1.map cdS.enc),.fn 72 [] []]) (u:=(x1.2.2.2.1,(),())) rfl rfl Bg rfl kr kr kr (Ah (A2 (c:=(cdL 1 cdS)) (v:=x1.2.2.2.1)) (Ah (Sm.fn BZ) BZ)) (.inl kr) hv5 ?_;refine AC (n:=47) AD 1 [(0,.sl 5 (x0.map AA.enc)),(3,.pt 0 0 0),(23,.b v5)] [some ⟨5,66,[AA.enc x1],false⟩] kr ?_;have hq:=OI hj7; subst hq;exact AE rfl (Al [0] ⟨⟨_,rfl,Cm⟩,trivial⟩ ⟨lv,lv,lv,trivial⟩)
  refine AP (b:=j7) kr (fun hb8=>?_) (fun hb8=>?_)
  ·rw [if_pos hb8] at h
   refine AF ?_;refine AI (s1:=⟨Fr 47 [(4,.j 4)],[]⟩) ?_ ?_
   ·refine AC (n:=47) AD 1 [(4,.j 4)] [some ⟨5,66,[AA.enc x1],false⟩] kr ?_
    exact AE rfl (Al [] trivial ⟨lv,trivial⟩)
   refine AU ?_;have hq:=OI h; subst hq;exact ⟨⟨Fr 47 [(4,.j 4)],[]⟩,AM,.inr rfl,[.j 4],kr,kr⟩
  ·rw [BH hb8] at h
   refine AX ?_;refine AF ?_;refine AF ?_;refine AI (s1:=⟨Fr 47 [(0,.sl 5 (x0.map AA.enc)),(3,.pt 0 0 0),(25,.sl 1 (x1.2.2.2.1.map cdS.enc)),(26,.j (x1.2.2.2.1.length:Int)),(27,.j 0)],[some ⟨5,66,[AA.enc x1],false⟩]⟩) ?_ ?_
   ·refine AC (n:=47) AD 2 [(0,.sl 5 (x0.map AA.enc)),(3,.pt 0 0 0),(25,.sl 1 (x1.2.2.2.1.map cdS.enc))] [some ⟨5,66,[AA.enc x1],false⟩] kr ?_
    refine AW AD 0 rfl (BY (AB rfl) rfl (ET (a:= .sl 1 (x1.2.2.2.1.map cdS.enc)) kr (C5 (el:=9) kr))) ?_;exact Ak AD
   refine A0 ?_;obtain ⟨r16,hr16,h⟩:=OB h;refine DO (n:=100000) ?_;rcases r16 with w17 | w23
   ·try dsimp only at h
    refine BX (A9 (s1:=⟨Fr 47 [(0,.sl 5 (x0.map AA.enc)),(3,.pt 0 0 0),(25,.sl 1 (x1.2.2.2.1.map cdS.enc)),(26,.j (x1.2.2.2.1.length:Int)),(27,.j 0)],[some ⟨5,66,[AA.enc x1],false⟩]⟩) (Al [0] ⟨⟨_,rfl,Cm⟩,trivial⟩ ⟨lv,lv,lv,lv,lv,trivial⟩) (Gv x0 x1 _ 0 _ hr16)) ?_;refine AF ?_;refine AF ?_;obtain ⟨j20,hj20,h⟩:=OB h;refine AI (s1:=⟨Fr 47 [(46,.b j20)],[]⟩) ?_ ?_
    ·refine AC (n:=47) AD 4 [(0,.sl 5 (x0.map AA.enc)),(3,.pt 0 0 0),(42,.b (x1.2.1==[]))] [some ⟨5,66,[AA.enc x1],false⟩] kr ?_
     rcases BE (x1.2.1==[]) with hc22 | hc22
     ·rw [if_pos hc22] at hj20
      rw [hc22];refine AC (n:=47) AD 4 [(46,.b true)] [some ⟨5,66,[AA.enc x1],false⟩] kr ?_;have hq:=OI hj20; subst hq;exact AE rfl (Al [] trivial ⟨lv,trivial⟩)
     ·rw [BH hc22] at hj20
      rw [hc22];refine AC (n:=47) AD 2 [(42,.b false),(43,.sl 5 (x0.map AA.enc)),(44,.fn 74 [] [.pt 0 0 0])] [some ⟨5,66,[AA.enc x1],false⟩] kr ?_;obtain ⟨v18,hv18,hj20⟩:=OB hj20;refine Af (caps:=[]) (xs:=[.sl 5 (x0.map AA.enc),.fn 74 [] [.pt 0 0 0]]) (u:=(x0,x1,())) rfl rfl CH rfl kr kr kr (Ah (A2 (c:=(cdL 5 AA)) (v:=x0)) (Ah (Sm.fn (Po (Sm.pt (k:=5) (t:=66) (fz:=false) (y:=(AA.enc x1)) kr (A2 (c:=AA) (v:=x1))))) BZ)) (.inl kr) hv18 ?_;refine AC (n:=47) AD 1 [(46,.b v18)] [some ⟨5,66,[AA.enc x1],false⟩] kr ?_;have hq:=OI hj20; subst hq;exact AE rfl (Al [] trivial ⟨lv,trivial⟩)
    refine AP (b:=j20) kr (fun hb21=>?_) (fun hb21=>?_)
    ·rw [if_pos hb21] at h
     refine AT AD [(4,.j 0)] [] ?_;refine AU ?_;have hq:=OI h; subst hq;exact ⟨⟨Fr 47 [(4,.j 0)],[]⟩,AM,.inr rfl,[.j 0],kr,kr⟩
    ·rw [BH hb21] at h
     refine AX ?_;refine AT AD [(4,.j 31)] [] ?_;refine AU ?_;have hq:=OI h; subst hq;exact ⟨⟨Fr 47 [(4,.j 31)],[]⟩,AM,.inr rfl,[.j 31],kr,kr⟩
   ·try dsimp only at h
    refine BX (A9 (s1:=⟨Fr 47 [(0,.sl 5 (x0.map AA.enc)),(3,.pt 0 0 0),(25,.sl 1 (x1.2.2.2.1.map cdS.enc)),(26,.j (x1.2.2.2.1.length:Int)),(27,.j 0)],[some ⟨5,66,[AA.enc x1],false⟩]⟩) (Al [0] ⟨⟨_,rfl,Cm⟩,trivial⟩ ⟨lv,lv,lv,lv,lv,trivial⟩) (Gv x0 x1 _ 0 _ hr16)) ?_;have hq:=OI h; subst hq;exact ⟨⟨Fr 47 [(4,.j w23)],[]⟩,AM,.inr rfl,[.j w23],kr,kr⟩
def Mw:List AV->Option AV:=Ea Gi (fun a=>D0 a.1 a.2.1) Gl
theorem M7:XOk 36 Mw:=by
 refine Ap Tryz.func36 (c:=Gg) ?h2 ⟨Tryz.call36⟩ Gi (fun a=>D0 a.1 a.2.1) Gl (fun a=>(by show 2<=47; decide)) ?h3 ?h4
 case h2=>kernel_rfl
 case h3=>intro b; kernel_rfl
 case h4=>exact fun a b h=>Ky a.1 a.2.1 b h
/- trestle/court.Parse -/
noncomputable def KR:Code:=pc (Bc Tryz.f11) [1,1,1,0]
def Bo  : Nat->(List UInt8)->Int->(List AJ)->Option (((Int×(List AJ))) ⊕ (Int×Int))
 | 0,_,_,_=>none
 | f + 1,c1,c2,c4 =>
  if (!(c1==[]))=true then
  (D5 c1 [10]).bind fun v6 =>
  OT (BK v6.2.2 3) c2 fun v7 =>
  OT (DI v6.1) c2 fun v8 =>
  (D0 c4 v8).bind fun v22 =>
  OT (BK (v22==0) v22) c2 fun v23 =>
  OT (BK (decide ((c4.length:Int) < 32)) 7) c2 fun v27 =>
  if (FX 64 (c4.length + ([v8]:List AJ).length))=true then
  Bo f v6.2.1 (wr .i64 (c2 + 1)) (c4++([v8]:List AJ))
  else none
  else
  some (.inl (c2,c4))
def RG (x0:(List UInt8)) (x1:(List AJ)) (x2:Int) (x3:Int):Option ((Int×(List AJ)×Int) ⊕ (Int×Int)) :=
 VG (Bo  100000 x0 x2 x1) fun r50 =>
 some (.inl (r50.1,r50.2,x3))
theorem Fm {L:List Asn}(u0:AV) (u2:AV) (x3:Int):∀ (f:Nat) (c1:(List UInt8)) (c2:Int) (c4:(List AJ)) (r:((Int×(List AJ))) ⊕ (Int×Int)),Bo  f c1 c2 c4=some r->∀ (e3:AV) (hp:Hp),T hp ((cel u0 1 25 (e3))::(own_ (ocL 5 66 (ocV AA)) e3 c4)::(cel u2 1 28 (.v (.int .i64 x3)))::L)->SemXN E0 ⟨none,false⟩ (pc KR [0,0]) f ⟨Fr 45 [(0,.st c1),(2,u0),(3,.v (.int .i64 c2)),(4,u2)],hp⟩ (fun e s=>∃ q,r = .inl q/\e=(.exit 0)/\∃ s2,(∃ (e48:AV) (h':Hp),T h' ((cel u0 1 25 (e48))::(own_ (ocL 5 66 (ocV AA)) e48 q.2)::(cel u2 1 28 (.v (.int .i64 x3)))::L)/\s2=⟨Fr 45 [(2,u0),(3,.v (.int .i64 q.1)),(4,u2)],h'⟩)/\WkY E0 s s2) (pqP 45 25 28 L u0 u2 r):=by
 intro f
 induction f with
 | zero=>intro c1 c2 c4 r h; cases h
 | succ f ih0 =>
  intro c1 c2 c4 r h e3 hp hT
  unfold Bo at h
  refine IT ?_
  refine SemX.seq ?_
  refine SemX.seq ?_
  refine SemX.regionL ?_
  refine AG (n:=45) AD 2 [(0,.st c1),(2,u0),(3,.v (.int .i64 c2)),(4,u2),(15,.v (.bool (!(c1==[]))))] hp (by kernel_rfl) ?_
  refine AH rfl (SemX.fr (l':=[(0,.st c1),(2,u0),(3,.v (.int .i64 c2)),(4,u2),(15,.v (.bool (!(c1==[]))))]) (by kernel_rfl) ?_)
  refine SemX.cond (b:=(!(c1==[]))) (by kernel_rfl) (fun hb5=>?_) (fun hb5=>?_)
  ·rw [if_pos hb5] at h
   refine SemX.skip ?_
   refine SemX.seq ?_
   refine SemX.block ?_
   refine SemX.seq ?_
   refine SemX.regionL ?_
   refine AG (n:=45) AD 1 [(2,u0),(3,.v (.int .i64 c2)),(4,u2),(19,.st c1)] hp (by kernel_rfl) ?_
   obtain ⟨v6,hv6,h⟩:=OB h
   refine Gt (v:=v6) (caps:=[]) (xs:=[.st c1,.st [10]]) (u:=(c1,[10],())) rfl rfl M9 rfl (AB rfl) (by kernel_rfl) (by kernel_rfl) (AO (AZ (c:=cdS) (v:=c1)) (AO (AZ (c:=cdS) (v:=[10])) SeesD.nil)) (.inl (by kernel_rfl)) hv6 ?_
   refine AG (n:=45) AD 7 [(2,u0),(3,.v (.int .i64 c2)),(4,u2),(5,.st v6.1),(6,.st v6.2.1),(7,.v (.bool v6.2.2))] hp (by kernel_rfl) ?_
   refine AH rfl (SemX.fr (l':=[(2,u0),(3,.v (.int .i64 c2)),(4,u2),(5,.st v6.1),(6,.st v6.2.1),(7,.v (.bool v6.2.2))]) (by kernel_rfl) ?_)
   refine SemX.seq ?_
   refine Aq ?_
   refine RunX.pre 1 ?_
   refine AG (n:=45) AD 1 [(2,u0),(3,.v (.int .i64 c2)),(4,u2),(5,.st v6.1),(6,.st v6.2.1),(24,.v (.bool v6.2.2))] hp (by kernel_rfl) ?_
   refine AH rfl ?_
   rcases Ic h with ⟨v7,hv7,h⟩ | ⟨v7x,hv7,hv7q⟩
   case inr=>exact CA (caps:=[]) (xs:=[.v (.bool v6.2.2),.v (.int .i64 3)]) (u:=(v6.2.2,3,())) rfl rfl At rfl (AB rfl) (by kernel_rfl) (by kernel_rfl) (AO (AZ (c:=cdB) (v:=v6.2.2)) (AO (AZ (c:=cdI) (v:=3)) SeesD.nil)) hv7 ⟨_,_,_,_,hp,hv7q,WkY.f1,hT⟩
   refine CB (caps:=[]) (xs:=[.v (.bool v6.2.2),.v (.int .i64 3)]) (u:=(v6.2.2,3,())) rfl rfl At rfl (AB rfl) (by kernel_rfl) (by kernel_rfl) (AO (AZ (c:=cdB) (v:=v6.2.2)) (AO (AZ (c:=cdI) (v:=3)) SeesD.nil)) (.inl (by kernel_rfl)) hv7 ?_
   refine RunX.done rfl (SemX.fr (l':=[(2,u0),(3,.v (.int .i64 c2)),(4,u2),(5,.st v6.1),(6,.st v6.2.1)]) (by kernel_rfl) ?_)
   refine SemX.seq ?_
   refine Aq ?_
   refine RunX.pre 1 ?_
   refine AG (n:=45) AD 1 [(2,u0),(3,.v (.int .i64 c2)),(4,u2),(6,.st v6.2.1),(26,.st v6.1)] hp (by kernel_rfl) ?_
   refine AH rfl ?_
   rcases Ic h with ⟨v8,hv8,h⟩ | ⟨v8x,hv8,hv8q⟩
   case inr=>exact CA (caps:=[]) (xs:=[.st v6.1]) (u:=(v6.1,())) rfl rfl Ir rfl (AB rfl) (by kernel_rfl) (by kernel_rfl) (AO (AZ (c:=cdS) (v:=v6.1)) SeesD.nil) hv8 ⟨_,_,_,_,hp,hv8q,WkY.f1,hT⟩
   refine CB (caps:=[]) (xs:=[.st v6.1]) (u:=(v6.1,())) rfl rfl Ir rfl (AB rfl) (by kernel_rfl) (by kernel_rfl) (AO (AZ (c:=cdS) (v:=v6.1)) SeesD.nil) (.inr ⟨by kernel_rfl,Fo.de (v6.1,())⟩) hv8 ?_
   refine RunX.pre 2 ?_
   obtain ⟨e9,hp10,hb11,hT120⟩:=MQ (t:=66) (a:= .ag [.v (.int .u8 0),.st [],.v (.bool false),.e0,.v (.int .i64 0)]) hT (by kernel_rfl)
   have hT12:T hp10 ((cel e9 5 66 (.ag [.v (.int .u8 0),.st [],.v (.bool false),.e0,.v (.int .i64 0)]))::(cel u0 1 25 (e3))::(own_ (ocL 5 66 (ocV AA)) e3 c4)::(cel u2 1 28 (.v (.int .i64 x3)))::L):=hT120
   refine AL AD 0 rfl (Qw (AB rfl) rfl (by kernel_rfl) (ON (z:= .ag [.v (.int .u8 0),.st [],.v (.bool false),.e0,.v (.int .i64 0)]) (by kernel_rfl) hb11)) ?_
   obtain ⟨hp13,hw14,hT150⟩:=IV (E:=E0) (y:= .ag [.v (.int .u8 0),.st [],.v (.bool false),.sl 1 ([].map cdS.enc),.v (.int .i64 0)]) hT12 (UpV.ag ⟨UpV.refl,UpV.refl,UpV.refl,UpV.nil,UpV.refl,trivial⟩)
   have hT15:T hp13 ((cel e9 5 66 (.ag [.v (.int .u8 0),.st [],.v (.bool false),.sl 1 ([].map cdS.enc),.v (.int .i64 0)]))::(cel u0 1 25 (e3))::(own_ (ocL 5 66 (ocV AA)) e3 c4)::(cel u2 1 28 (.v (.int .i64 x3)))::L):=hT150
   refine Jt (hw14 _ _) ?_
   obtain ⟨hp16,hs17,hT180⟩:=I5 (P:=Tryz.prog) (ty:=66) (y:=(AA.enc v8)) (a':=(AA.enc v8)) hT15 (by kernel_rfl) (by kernel_rfl) (by kernel_rfl)
   have hT18:T hp16 ((cel e9 5 66 (AA.enc v8))::(cel u0 1 25 (e3))::(own_ (ocL 5 66 (ocV AA)) e3 c4)::(cel u2 1 28 (.v (.int .i64 x3)))::L):=hT180
   refine RunL.store AD (y:=e9) (z:=(AA.enc v8)) rfl (AB rfl) (by kernel_rfl) (by kernel_rfl) hs17 ?_
   refine AH rfl ?_
   refine RunX.done rfl (SemX.fr (l':=[(2,u0),(3,.v (.int .i64 c2)),(4,u2),(6,.st v6.2.1),(8,e9)]) (by kernel_rfl) ?_)
   refine SemX.seq ?_
   refine SemX.regionL ?_
   have hq19:=FB (hT18.front 2 rfl)
   have hT20:T hp16 ((cel u0 1 25 (e3))::(cel e9 5 66 (AA.enc v8))::(own_ (ocL 5 66 (ocV AA)) e3 c4)::(cel u2 1 28 (.v (.int .i64 x3)))::L):=(hT18.front 1 rfl)
   refine AL AD 0 rfl (BY (AB rfl) rfl (Dq (p:=u0) (by kernel_rfl) (ES (y:=e3) (m:=1) (g:=false) hT20 (by kernel_rfl) (by kernel_rfl) (Kl hq19)))) ?_
   have hT21:T hp16 ((cel e9 5 66 (AA.enc v8))::(cel u0 1 25 (e3))::(own_ (ocL 5 66 (ocV AA)) e3 c4)::(cel u2 1 28 (.v (.int .i64 x3)))::L):=(hT20.front 1 rfl)
   refine AL AD 0 rfl (BY (AB rfl) rfl (Dq (p:=e9) (by kernel_rfl) (ES (y:=(AA.enc v8)) (m:=5) (g:=true) hT21 (by kernel_rfl) (by kernel_rfl) (by kernel_rfl)))) ?_
   obtain ⟨v22,hv22,h⟩:=OB h
   refine Gt (v:=v22) (caps:=[]) (xs:=[e3,AA.enc v8]) (u:=(c4,v8,())) rfl rfl M7 rfl (AB rfl) (by kernel_rfl) (by kernel_rfl) (AO (SeeD.own hT21 (i:=2) rfl) (AO (AZ (c:=AA) (v:=v8)) SeesD.nil)) (.inl (by kernel_rfl)) hv22 ?_
   refine AG (n:=45) AD 1 [(2,u0),(3,.v (.int .i64 c2)),(4,u2),(6,.st v6.2.1),(8,e9),(9,.v (.int .i64 v22))] hp16 (by kernel_rfl) ?_
   refine AH rfl (SemX.fr (l':=[(2,u0),(3,.v (.int .i64 c2)),(4,u2),(6,.st v6.2.1),(8,e9),(9,.v (.int .i64 v22))]) (by kernel_rfl) ?_)
   refine SemX.seq ?_
   refine Aq ?_
   refine RunX.pre 3 ?_
   refine AG (n:=45) AD 3 [(2,u0),(3,.v (.int .i64 c2)),(4,u2),(6,.st v6.2.1),(8,e9),(32,.v (.bool (v22==0))),(33,.v (.int .i64 v22))] hp16 (by kernel_rfl) ?_
   refine AH rfl ?_
   rcases Ic h with ⟨v23,hv23,h⟩ | ⟨v23x,hv23,hv23q⟩
   case inr=>exact CA (caps:=[]) (xs:=[.v (.bool (v22==0)),.v (.int .i64 v22)]) (u:=((v22==0),v22,())) rfl rfl At rfl (AB rfl) (by kernel_rfl) (by kernel_rfl) (AO (AZ (c:=cdB) (v:=(v22==0))) (AO (AZ (c:=cdI) (v:=v22)) SeesD.nil)) hv23 ⟨_,_,_,_,hp16,hv23q,WkY.f1,hT21.drop⟩
   refine CB (caps:=[]) (xs:=[.v (.bool (v22==0)),.v (.int .i64 v22)]) (u:=((v22==0),v22,())) rfl rfl At rfl (AB rfl) (by kernel_rfl) (by kernel_rfl) (AO (AZ (c:=cdB) (v:=(v22==0))) (AO (AZ (c:=cdI) (v:=v22)) SeesD.nil)) (.inl (by kernel_rfl)) hv23 ?_
   refine RunX.done rfl (SemX.fr (l':=[(2,u0),(3,.v (.int .i64 c2)),(4,u2),(6,.st v6.2.1),(8,e9)]) (by kernel_rfl) ?_)
   refine SemX.seq ?_
   refine Aq ?_
   refine RunX.pre 3 ?_
   have hq24:=FB (hT21.front 2 rfl)
   have hT25:T hp16 ((cel u0 1 25 (e3))::(cel e9 5 66 (AA.enc v8))::(own_ (ocL 5 66 (ocV AA)) e3 c4)::(cel u2 1 28 (.v (.int .i64 x3)))::L):=(hT21.front 1 rfl)
   refine AL AD 0 rfl (BY (AB rfl) rfl (Dq (p:=u0) (by kernel_rfl) (ES (y:=e3) (m:=1) (g:=false) hT25 (by kernel_rfl) (by kernel_rfl) (Kl hq24)))) ?_
   have hT26:T hp16 ((own_ (ocL 5 66 (ocV AA)) e3 c4)::(cel u0 1 25 (e3))::(cel e9 5 66 (AA.enc v8))::(cel u2 1 28 (.v (.int .i64 x3)))::L):=(hT25.front 2 rfl)
   refine AL AD 0 rfl (BY (AB rfl) rfl (ET (a:=e3) (by kernel_rfl) (VU hT26 (by kernel_rfl)))) ?_
   refine AG (n:=45) AD 1 [(2,u0),(3,.v (.int .i64 c2)),(4,u2),(6,.st v6.2.1),(8,e9),(37,.v (.bool (decide ((c4.length:Int) < 32))))] hp16 (by kernel_rfl) ?_
   refine AH rfl ?_
   rcases Ic h with ⟨v27,hv27,h⟩ | ⟨v27x,hv27,hv27q⟩
   case inr=>exact CA (caps:=[]) (xs:=[.v (.bool (decide ((c4.length:Int) < 32))),.v (.int .i64 7)]) (u:=((decide ((c4.length:Int) < 32)),7,())) rfl rfl At rfl (AB rfl) (by kernel_rfl) (by kernel_rfl) (AO (AZ (c:=cdB) (v:=(decide ((c4.length:Int) < 32)))) (AO (AZ (c:=cdI) (v:=7)) SeesD.nil)) hv27 ⟨_,_,_,_,hp16,hv27q,WkY.f1,((((hT26.front 2 rfl).drop.front 2 rfl).front 1 rfl).front 2 rfl)⟩
   refine CB (caps:=[]) (xs:=[.v (.bool (decide ((c4.length:Int) < 32))),.v (.int .i64 7)]) (u:=((decide ((c4.length:Int) < 32)),7,())) rfl rfl At rfl (AB rfl) (by kernel_rfl) (by kernel_rfl) (AO (AZ (c:=cdB) (v:=(decide ((c4.length:Int) < 32)))) (AO (AZ (c:=cdI) (v:=7)) SeesD.nil)) (.inl (by kernel_rfl)) hv27 ?_
   refine RunX.done rfl (SemX.fr (l':=[(2,u0),(3,.v (.int .i64 c2)),(4,u2),(6,.st v6.2.1),(8,e9)]) (by kernel_rfl) ?_)
   refine SemX.seq ?_
   refine SemX.regionL ?_
   have hq28:=FB (hT26.front 0 rfl)
   have hT29:T hp16 ((cel u0 1 25 (e3))::(own_ (ocL 5 66 (ocV AA)) e3 c4)::(cel e9 5 66 (AA.enc v8))::(cel u2 1 28 (.v (.int .i64 x3)))::L):=(hT26.front 1 rfl)
   refine AL AD 0 rfl (BY (AB rfl) rfl (Dq (p:=u0) (by kernel_rfl) (ES (y:=e3) (m:=1) (g:=false) hT29 (by kernel_rfl) (by kernel_rfl) (Kl hq28)))) ?_
   have hT30:T hp16 ((cel e9 5 66 (AA.enc v8))::(cel u0 1 25 (e3))::(own_ (ocL 5 66 (ocV AA)) e3 c4)::(cel u2 1 28 (.v (.int .i64 x3)))::L):=(hT29.front 2 rfl)
   refine AL AD 0 rfl (BY (AB rfl) rfl (Dq (p:=e9) (by kernel_rfl) (ES (y:=(AA.enc v8)) (m:=5) (g:=true) hT30 (by kernel_rfl) (by kernel_rfl) (by kernel_rfl)))) ?_
   obtain ⟨e34,hp31,hb32,hT330⟩:=JW (P:=Tryz.prog) (bytes:=64) (k:=5) (t:=66) (ty:=25) (xs:=([v8]:List AJ)) (n:=1) (P8 (k:=5) (fun _=>⟨rfl,rfl,rfl⟩)) (JQ (c:=AA) (xs:=([v8]:List AJ)) hT30) rfl (by kernel_rfl) (by kernel_rfl) (by kernel_rfl)
   have hT33:T hp31 ((own_ (ocL 5 66 (ocV AA)) e34 ([v8]:List AJ))::(cel e9 5 66 (AA.enc v8))::(cel u0 1 25 (e3))::(own_ (ocL 5 66 (ocV AA)) e3 c4)::(cel u2 1 28 (.v (.int .i64 x3)))::L):=hT330
   refine AL AD 0 rfl (Qw (AB rfl) rfl (by kernel_rfl) (QS (xs:=Kz 0 [AA.enc v8]) (by kernel_rfl) hb32)) ?_
   by_cases hk39:(FX 64 (c4.length + ([v8]:List AJ).length))=true
   case neg=>rw [if_neg hk39] at h; cases h
   rw [if_pos hk39] at h
   have hT40:T hp31 ((own_ (ocL 5 66 (ocV AA)) e3 c4)::(own_ (ocL 5 66 (ocV AA)) e34 ([v8]:List AJ))::(cel e9 5 66 (AA.enc v8))::(cel u0 1 25 (e3))::(cel u2 1 28 (.v (.int .i64 x3)))::L):=((hT33.front 0 rfl).front 3 rfl)
   obtain ⟨e38,hp35,hb36,hT370⟩:=JE (P:=Tryz.prog) (ty:=25) (ty2:=25) (bytes:=64) hT40 (by kernel_rfl) (by kernel_rfl) hk39
   have hT37:T hp35 ((own_ (ocL 5 66 (ocV AA)) e38 (c4++([v8]:List AJ)))::(cel e9 5 66 (AA.enc v8))::(cel u0 1 25 (e3))::(cel u2 1 28 (.v (.int .i64 x3)))::L):=hT370
   refine AL AD 0 rfl (TX (AB rfl) rfl (by kernel_rfl) (by kernel_rfl) (Ie (a:=e3) (b:=e34) (by kernel_rfl) (by kernel_rfl) hb36)) ?_
   have hT44:T hp35 ((cel u0 1 25 (e3))::(own_ (ocL 5 66 (ocV AA)) e38 (c4++([v8]:List AJ)))::(cel e9 5 66 (AA.enc v8))::(cel u2 1 28 (.v (.int .i64 x3)))::L):=(hT37.front 2 rfl)
   have hq45:=FB (hT44.front 1 rfl)
   obtain ⟨hp41,hs42,hT430⟩:=I5 (P:=Tryz.prog) (ty:=25) (y:=e38) (a':=e38) hT44 (by have hq:=FB (hT44.front 1 rfl); revert hq; generalize e38=zz; intro hq; cases zz <;> first | (exact (Bool.false_ne_true hq.1).elim) | (exact (Bool.false_ne_true hq.2).elim) | skip; all_goals (first | rfl | kernel_rfl | exact rfl)) (by have hq:=FB (hT44.front 1 rfl); revert hq; generalize e38=zz; intro hq; cases zz <;> first | (exact (Bool.false_ne_true hq.1).elim) | (exact (Bool.false_ne_true hq.2).elim) | skip; all_goals (first | rfl | kernel_rfl | exact rfl)) (Mr hq28 hq45)
   have hT43:T hp41 ((cel u0 1 25 (e38))::(own_ (ocL 5 66 (ocV AA)) e38 (c4++([v8]:List AJ)))::(cel e9 5 66 (AA.enc v8))::(cel u2 1 28 (.v (.int .i64 x3)))::L):=hT430
   refine RunL.store AD (y:=u0) (z:=e38) rfl (AB rfl) (by kernel_rfl) (by kernel_rfl) hs42 ?_
   refine AH rfl (SemX.fr (l':=[(2,u0),(3,.v (.int .i64 c2)),(4,u2),(6,.st v6.2.1)]) (by kernel_rfl) ?_)
   refine SemX.regionL ?_
   refine AG (n:=45) AD 2 [(0,.st v6.2.1),(2,u0),(3,.v (.int .i64 c2)),(4,u2)] hp41 (by kernel_rfl) ?_
   refine AH rfl (SemX.fr (l':=[(0,.st v6.2.1),(2,u0),(3,.v (.int .i64 c2)),(4,u2)]) (by kernel_rfl) ?_)
   refine SemX.regionL ?_
   refine AG (n:=45) AD 3 [(0,.st v6.2.1),(2,u0),(3,.v (.int .i64 (wr .i64 (c2 + 1)))),(4,u2)] hp41 (by kernel_rfl) ?_
   refine AH rfl ?_
   have hT46:T hp41 ((cel u0 1 25 (e38))::(own_ (ocL 5 66 (ocV AA)) e38 (c4++([v8]:List AJ)))::(cel u2 1 28 (.v (.int .i64 x3)))::L):=(hT43.front 2 rfl).drop
   exact Er WkY.f1 (ih0 v6.2.1 (wr .i64 (c2 + 1)) (c4++([v8]:List AJ)) _ h e38 hp41 hT46)
  ·rw [BH hb5] at h
   refine SemX.exit ?_
   have hq:=OI h; subst hq
   exact ⟨_,rfl,rfl,_,⟨e3,hp,hT,rfl⟩,WkY.f1⟩
noncomputable def VC:Code:=pc (Bc Tryz.f11) [1,1,1]
theorem Rm {L:List Asn}{hp:Hp}(x0:List UInt8) (p2 x:AV) (xs:List AJ) (p4:AV) (m n:Int) (r:(Int×List AJ) ⊕ (Int×Int)) (h:Bo 100000 x0 n xs=some r) (hT:T hp (cel p2 1 25 x::own_ (ocL 5 66 (ocV AA)) x xs::cel p4 1 28 (.v (.int .i64 m))::L)) :
  SemX E0 ⟨none,false⟩ VC ⟨Fr 45 [(0,.st x0),(2,p2),(3,.v (.int .i64 n)),(4,p4)],hp⟩ (fun ex s'=>∃ q,r = .inl q/\ex = .ret/\∃ hp',WkY E0 s' ⟨Fr 45 [(2,p2),(3,.v (.int .i64 0)),(4,p4)],hp'⟩/\T hp' (cel p2 1 25 (.sl 5 (q.2.map AA.enc))::cel p4 1 28 (.v (.int .i64 0))::L)) (pqP 45 25 28 L p2 p4 r):=by
 refine SemX.seq ?_
 refine SemX.block ?_
 refine SemX.loop (n:=100000) ?_
 cases r with
 | inr e0=>exact PF (Fm p2 p4 m _ x0 n xs _ h x hp hT) rfl
 | inl q =>
  refine IS (PE (Fm p2 p4 m _ x0 n xs _ h x hp hT)) ?_
  rintro _ ⟨z,hp5,hT5,rfl⟩
  refine SemX.seq ?_
  refine SemX.regionL ?_
  have hz:=FB (hT5.front 1 rfl)
  refine AL AD 0 rfl (BY (x:=z) (AB rfl) rfl (Dq (p:=p2) (by kernel_rfl) (ES (y:=z) (m:=1) (g:=false) hT5 (by kernel_rfl) (by kernel_rfl) (Kl hz)))) ?_
  obtain ⟨hp6,hs6,hT6⟩:=I5 (P:=Tryz.prog) (ty:=25) (y:=z) (a':=z) hT5 (by have hq:=hz; revert hq; clear hz hT5; generalize z=zz; intro hq; cases zz <;> first | (exact (Bool.false_ne_true hq.1).elim) | (exact (Bool.false_ne_true hq.2).elim) | skip; all_goals (first | rfl | kernel_rfl | exact rfl)) hz.1 (Mr hz hz)
  refine RunL.store AD (y:=p2) (z:=z) rfl (AB rfl) (by kernel_rfl) (by kernel_rfl) hs6 ?_
  refine AG (n:=45) AD 1 [(2,p2),(3,.v (.int .i64 0)),(4,p4)] hp6 (by kernel_rfl) ?_
  obtain ⟨hp7,hs7,hT7⟩:=I5 (P:=Tryz.prog) (ty:=28) (y:= .v (.int .i64 0)) (a':= .v (.int .i64 0)) (hT6.front 2 rfl) (by kernel_rfl) (by kernel_rfl) (by kernel_rfl)
  refine RunL.store AD (y:=p4) (z:= .v (.int .i64 0)) rfl (AB rfl) (by kernel_rfl) (by kernel_rfl) hs7 ?_
  refine AH rfl (SemX.ret ?_)
  obtain ⟨hp8,hw8,hT8⟩:=Q3 (E:=E0) (n:=45) (l:=[(2,p2),(3,.v (.int .i64 0)),(4,p4)]) (l':=[(2,p2),(3,.v (.int .i64 0)),(4,p4)]) (o:=ocL 5 66 (ocV AA)) (p:=p2) (k:=1) (t:=25) ((hT7.front 1 rfl).front 2 rfl) ⟨⟨_,rfl,FzU.refl⟩,⟨_,rfl,FzU.refl⟩,⟨_,rfl,FzU.refl⟩,trivial⟩
  exact ⟨q,rfl,rfl,hp8,hw8,hT8⟩
theorem S8 (us:List Value) (hl:us.length=2):Nv E0.P 32 us :=
 SB (E:=E0) (s1:=(Gw E0 OV.toList ⟨List.replicate 12 none,[]⟩).getD ⟨[],[]⟩) (s2:=(Gw E0 MH.toList ((Gw E0 OV.toList ⟨List.replicate 12 none,[]⟩).getD ⟨[],[]⟩)).getD ⟨[],[]⟩)
  (fun _=>rfl) Tryz.func32 rfl rfl (by kernel_rfl) (by kernel_rfl) (by kernel_rfl) (by rw [hl]; decide)
section
variable {w:World}{Z:Nat->Prop}{R:List RI}{s:St}{a:Act}{base:Bs}
theorem VR.ptw {w w':World}{Z Z':Nat->Prop}{R R':List RI}{b i off:Nat}{u:Value}(h:VR w Z R (.pt b i off) u) (hr:∀ (i:Nat) (r:RI),R[i]? = some r->R'[i]? = some r):VR w' Z' R' (.pt b i off) u:=by
 cases h with
 | pt h=>exact .pt (hr _ _ h)
/-- The way out of a function that has deferred the closure, where the program's own error goes up. -/
theorem MC {d:Deferred}{fv:_}{cap:Array Value}{u0 u1:Value}(hbD:base.D=[d]) (ht:d.target = .fn fv cap) (hinv:∀ w1,(invoke d.target d.args).run E0.P w1 = .ok (.enter 32 #[u0,u1]) w1){fn:Func}{S:Value->World->Prop}{L:List Asn}{b0 b1:Nat}{x:AV}{xs:List AJ}{m n e:Int}(hs:s=⟨Fr 45 [(2,.pt b0 0 0),(3,.v (.int .i64 n)),(4,.pt b1 0 0)],s.hp⟩)
  (hT:T s.hp (cel (.pt b0 0 0) 1 25 x::own_ (ocL 5 66 (ocV AA)) x xs::cel (.pt b1 0 0) 1 28 (.v (.int .i64 m))::L)) (h0:VR w Z R (.pt b0 0 0) u0) (h1:VR w Z R (.pt b1 0 0) u1) (hfn:fn.results.toList=[.cell 2 25,.tmp 3,.cell 4 28])
  (hS:∀ w' Z' R' h' u,HR w' Z' R' h'->VR w' Z' R' (.tp [.sl 5 ([].map AA.enc),.v (.int .i64 n),.v (.int .i64 e)]) u->(∀ c,c < base.n->¬ own R s.hp c->w'.heap[c]? = w.heap[c]?)->w'.os=w.os->w'.tape=w.tape->w'.output=w.output->w.heap.size<=w'.heap.size->(∀ c,own R' h' c->own R s.hp c\/w.heap.size<=c)->(∀ c,Z c->Z' c)->(∀ c,Z' c->Z c\/own R s.hp c\/w.heap.size<=c)->S u w') :
  ∀ {D:List Deferred} {w1:World},SR E0 base w1 Z R s { a with defers:=D }->w1.heap.size=w.heap.size->w1.os=w.os->w1.tape=w.tape->w1.output=w.output->(∀ c,c < base.n->w1.heap[c]? = w.heap[c]?) ->
  LeavesInM (Fw none) 0 E0.P fn a.tmps (fun e w'=>match e with | .returned v=>S v w' | _=>False) D (.panicking (JJ e)) w1
 | [],w1,sr,hz,ho,ht',hp,hb=>by
  have:=sr.mks
  unfold Mks MksD at this
  rw [hbD] at this
  cases this
 | d'::D,w1,sr,hz,ho,ht',hp,hb=>by
  rcases sr.mks with ⟨Ds',e1,hno,hD⟩ | ⟨⟨r,k1,k2,k3,k4,k5,k6⟩,hD⟩
  ·rw [hbD] at e1
   injection e1 with e1 e2
   subst e1 e2
   refine ⟨by simp,.inr ⟨(fun h=>by cases h),fv,cap,32,#[u0,u1],ht,hinv w1,fun _ _=>trivial,CallsDIn.mono (Re sr.hh sr.gl hT (h0.ptw fun _ _ h=>h) (h1.ptw fun _ _ h=>h)) fun ex u' w2 he=>?_⟩⟩
   cases ex with
   | returned v =>
    obtain ⟨q1,Z2,R2,hp2,L2,q2,q3,q4⟩:=he
    dsimp only
    rw [q1]
    have sr1:SR E0 ⟨base.n,[]⟩ w1 Z R s { a with defers:=D }:=⟨sr.hh,sr.fr,hD,sr.gl,sr.bs⟩
    have sr2:=sr1.step q2 q3
    obtain ⟨hp3,hw3,hT3⟩:=IV (E:=E0) (y:= .sl 5 ([].map AA.enc)) q4 UpV.nil
    have hse:(⟨s.fr,hp2⟩:St)=⟨Fr 45 [(2,.pt b0 0 0),(3,.v (.int .i64 n)),(4,.pt b1 0 0)],hp2⟩:=by rw [hs]
    rw [hse] at sr2
    obtain ⟨Z3,R3,sr3,st3⟩:=hw3 45 _ _ _ _ _ _ sr2
    have st:=q3.trans st3
    have hres:Dk E0.P (Fr 45 [(2,.pt b0 0 0),(3,.v (.int .i64 n)),(4,.pt b1 0 0)]) hp3 fn.results.toList=some [.sl 5 ([].map AA.enc),.v (.int .i64 n),.v (.int .i64 e)]:=by
     rw [hfn]
     have l1:Dp E0.P hp3 25 (.pt b0 0 0)=some (.sl 5 ([].map AA.enc)):=ES (m:=1) (g:=false) hT3 (by kernel_rfl) (by kernel_rfl) (by kernel_rfl)
     have l2:Dp E0.P hp3 28 (.pt b1 0 0)=some (.v (.int .i64 e)):=ES (m:=1) (g:=false) (hT3.front 1 rfl) (by kernel_rfl) (by kernel_rfl) (by kernel_rfl)
     have f2:(Fr 45 [(2,.pt b0 0 0),(3,.v (.int .i64 n)),(4,.pt b1 0 0)])[2]? = some (some (.pt b0 0 0)):=by kernel_rfl
     have f3:(Fr 45 [(2,.pt b0 0 0),(3,.v (.int .i64 n)),(4,.pt b1 0 0)])[3]? = some (some (.v (.int .i64 n))):=by kernel_rfl
     have f4:(Fr 45 [(2,.pt b0 0 0),(3,.v (.int .i64 n)),(4,.pt b1 0 0)])[4]? = some (some (.pt b1 0 0)):=by kernel_rfl
     simp only [Dk,f2,f3,f4,l1,l2]
    refine EA (base:=⟨base.n,[]⟩) (w:=w2) rfl hres (fun w3 u g1 g2 g3 g4 g5 g6 g7=>hS w3 Z3 R3 hp3 u g6 g7 (fun c hc hno=>?_) ?_ ?_ ?_ ?_ (fun c hc=>(st.own_ c hc).imp id (fun h=>by omega)) st.z (fun c hc=>(st.z' c hc).imp id (fun h=>h.imp id (fun h=>by omega)))) sr3 rfl rfl rfl rfl (fun _ _=>rfl)
    ·rw [g5 c hc,q3.block c (Nat.lt_of_lt_of_le hc sr.bs) hno]; exact hb c hc
    ·rw [g2,q3.os,ho]
    ·rw [g3,q3.tape,ht']
    ·rw [g4,q3.output,hp]
    ·rw [g1,<-hz]; exact q3.size
   | panicked c=>exact he.elim
   | outgrown=>exact he.elim
  ·subst k2
   have hb':∀ c,(Z c\/own R s.hp c)->(w1.putObj r (.deferred none)).heap[c]? = w1.heap[c]?:=fun c hc=>Dh (fun e=>by subst e; exact hc.elim k4 k5)
   exact ⟨by simp,.inl ⟨r,w1.putObj r (.deferred none),rfl,run_takeDeferred k3,MC hbD ht hinv hs hT h0 h1 hfn hS ⟨sr.hh.off (BM _ _ _) hb',sr.fr.off fun c hc=>hb' c (.inl hc),MksD.put hD k6,sr.gl.off fun c hc=>hb' c (.inl hc),by rw [BM]; exact sr.bs⟩ (by rw [BM]; exact hz) ho ht' hp (fun c hc=>(Dh (by omega)).trans (hb c hc))⟩⟩
end
def De (x0:List UInt8):Option (List AJ×Int×Int) :=
 if decide ((x0.length:Int) > 65536)=true then some ([],0,7) else
 (Bo 100000 x0 0 []).bind fun r=>match r with
  | .inl q=>some (q.2,0,0)
  | .inr e=>some ([],e.2,e.1)
def Ik:Cs ((List UInt8)×Unit):=(csC cdS csN)
def Dw (r:(List AJ)×Int×Int):AV:= .tp [(cdL 5 AA).enc r.1,cdI.enc r.2.1,cdI.enc r.2.2]
def Mv:List AV->Option AV:=Ea Ik (fun a=>De a.1) Dw
noncomputable def cpA:Code:=pc (Bc Tryz.f11) [0]
noncomputable def cpB:Code:=pc (Bc Tryz.f11) [1,0]
def hpA:Hp:=[some ⟨1,25,[.e0],false⟩,some ⟨1,28,[.v (.int .i64 0)],false⟩]
def VO:Hp:=[some ⟨1,25,[.e0],false⟩,some ⟨1,28,[.v (.int .i64 7)],false⟩]
theorem VN:T hpA [cel (.pt 0 0 0) 1 25 .e0,own_ (ocL 5 66 (ocV AA)) .e0 [],cel (.pt 1 0 0) 1 28 (.v (.int .i64 0))]:=by
 have h1:T hpA [cel (.pt 1 0 0) 1 28 (.v (.int .i64 0))]:=(T.nil (h:=[some ⟨1,25,[.e0],false⟩])).add (F:=[1]) ⟨1,rfl,rfl,rfl⟩ (by simp) (fun b hb=>by
  have:b=0:=by simpa using hb
  subst this; rfl) (fun b hb=>by simp at hb; subst hb; decide)
 exact ⟨[0]++([]++([1]++[])),⟨[0],_,rfl,⟨0,rfl,rfl,rfl⟩,[],_,rfl,.inl ⟨rfl,rfl,rfl⟩,[1],[],rfl,⟨1,rfl,rfl,rfl⟩,rfl⟩,by decide⟩
set_option maxRecDepth 100000 in
theorem UG (x0:List UInt8):SemY E0 ⟨none,false⟩ cpA ⟨Fr 45 (BF 0 [.st x0]),[]⟩ fun e s'=>e = .normal/\s'=⟨Fr 45 [(0,.st x0),(2,.pt 0 0 0),(3,.v (.int .i64 0)),(4,.pt 1 0 0)],hpA⟩:=by
 refine SemY.regionL ?_
 refine AG (n:=45) AD 3 [(0,.st x0),(2,.pt 0 0 0),(3,.v (.int .i64 0)),(4,.pt 1 0 0)] hpA (by kernel_rfl) ?_
 exact AH rfl ⟨rfl,rfl⟩
set_option maxRecDepth 100000 in
theorem UH (x0:List UInt8):SemY E0 ⟨none,false⟩ cpB ⟨Fr 45 [(0,.st x0),(2,.pt 0 0 0),(3,.v (.int .i64 0)),(4,.pt 1 0 0)],hpA⟩ fun e s'=>(decide ((x0.length:Int) > 65536)=false/\e = .normal/\s'=⟨Fr 45 [(0,.st x0),(2,.pt 0 0 0),(3,.v (.int .i64 0)),(4,.pt 1 0 0)],hpA⟩)\/(decide ((x0.length:Int) > 65536)=true/\e = .ret/\s'=⟨Fr 45 [(2,.pt 0 0 0),(3,.v (.int .i64 0)),(4,.pt 1 0 0)],VO⟩):=by
 refine Aw ?_
 refine SemY.regionL ?_
 refine AG (n:=45) AD 3 [(0,.st x0),(2,.pt 0 0 0),(3,.v (.int .i64 0)),(4,.pt 1 0 0),(12,.v (.bool (decide ((x0.length:Int) > 65536))))] hpA (by kernel_rfl) ?_
 refine AH rfl ?_
 refine DA (b:=decide ((x0.length:Int) > 65536)) (by kernel_rfl) (fun hb=>?_) (fun hb=>?_)
 ·refine Aw ?_
  refine SemY.regionL ?_
  refine AG (n:=45) AD 3 [(2,.pt 0 0 0),(3,.v (.int .i64 0)),(4,.pt 1 0 0)] VO (by kernel_rfl) ?_
  exact AH rfl (SemY.ret (.inr ⟨hb,rfl,rfl⟩))
 ·exact JD (SemY.fr (l':=[(0,.st x0),(2,.pt 0 0 0),(3,.v (.int .i64 0)),(4,.pt 1 0 0)]) (by kernel_rfl) (SemY.skip ⟨_,WkY.refl,.inl ⟨hb,rfl,rfl⟩⟩))
/-- A closure is made and deferred. -/
theorem PO {E:Env}(hE:EnvOk E){n:Nat}{g:FuncId}{id:Nat}{o1 o2:Oper}{rest:Code}{s2 s3:St}{p:Operand}{tys:Array TypeId}{cs:List AV}{base:Bs}{w:World}{Z:Nat->Prop}{R:List RI}{a:Act}{Q:Exit->Act->World->Prop}
  (hg1:o1.guard=none) (e1:op1 E (evC E n) ⟨none,false⟩ o1 s2=some s3) (hg2:o2.guard=none) (ho2:o2.op = .defer ⟨.value p,#[],tys⟩) (hd2:o2.dst=none) (hp:opA E s3.fr p=some (.fn g [] cs)) (sr2:SR E base w Z R s2 a)
  (k:∀ (a3:Act) (w3:World) (Z3:Nat->Prop) (R3:List RI) (u2:List Value),VRs w3 Z3 R3 cs u2->SR E ⟨base.n,(⟨.fn (.func g) u2.toArray,#[]⟩:Deferred)::base.D⟩ w3 Z3 R3 s3 { a3 with defers:=(⟨.fn (.func g) u2.toArray,#[]⟩:Deferred)::a3.defers }->Step w Z R s2.hp w3 Z3 R3 s3.hp->rest.wpIn (Fw none) 0 E.P Q { a3 with defers:=(⟨.fn (.func g) u2.toArray,#[]⟩:Deferred)::a3.defers } w3) :
  (Code.seq (.region id #[o1,o2] false) rest).wpIn (Fw none) 0 E.P Q a w:=by
 have hCS:=(code_sound hE n).1
 refine wpIn_seq (wpIn_region_list ?_)
 unfold wpListIn
 rw [if_pos (by simp [Region.wanted,hg1])]
 refine lw_wpIn none (op1_lw hE hCS e1 sr2 fun a3 w3 Z3 R3 sr3 st3=>?_)
 unfold wpListIn
 rw [if_pos (by simp [Region.wanted,hg2])]
 have hvf:=opA_vr sr3 p _ hp
 generalize hva:a3.eval p=va at hvf
 cases hvf with
 | fn hl hl' hx hy =>
  rename_i u1 u2
  have e1':u1=[]:=by simpa using hl
  subst e1'
  have hrun:(o2.semAt (Fw none).round a3.eval).run E.P w3 = .ok (.defer ⟨.fn (.func g) u2.toArray,#[]⟩) w3:=by
   show (o2.semAt none a3.eval).run E.P w3=_
   rw [Oper.semAt_none]
   simp [execOp,ho2,resolve,hva,Deferred.ofValue]
  refine ⟨fun _ _=>trivial,?_⟩
  rw [hrun,Oper.uponIn_defer,hd2]
  refine k a3 w3 Z3 R3 u2 ⟨hl',hy⟩ ⟨sr3.hh,sr3.fr,.inl ⟨_,rfl,fun r h=>?_,sr3.mks⟩,sr3.gl,sr3.bs⟩ st3
  unfold OM at h
  injection h with h
  cases h
theorem Qb {x0:List UInt8}{q:List AJ×Int×Int}(hq:De x0=some q){w:World}{Z:Nat->Prop}{us:List Value}(hz:∀ c,Z c->c < w.heap.size) (hg:GI E0 w Z) (hv:VRs w Z [] [.st x0] us) :
  Ret E0.P 11 us.toArray w fun v w'=>∃ Z' R' h',HR w' Z' R' h'/\VR w' Z' R' (Dw q) v/\Step w Z [] [] w' Z' R' h':=by
 refine callsIn_wide.1 (callsIn_of_wp_marks (F:=Fw none) (n:=0) Tryz.func11 rfl trivial ?_)
 have hul:us.length=1:=hv.len
 have sr0:SR E0 (.of w.heap.size) w Z [] ⟨Fr 45 (BF 0 [.st x0]),[]⟩ { tmps:=us.toArray++Array.replicate (Tryz.f11.ntmps - us.toArray.size) undef,defers:=[] }:=by
  refine ⟨LA hz,⟨by rw [Da]; simp [hul],fun t x hx=>?_⟩,rfl,hg,Nat.le_refl _⟩
  rw [DW] at hx
  split at hx
  ·injection hx with hx
   obtain ⟨j,h1,h2⟩:=IC _ 0 t x hx
   rw [Nat.zero_add] at h1
   subst h1
   obtain ⟨u,hu1,hu2⟩:=hv.get h2
   have e0:us.toArray++Array.replicate (Tryz.f11.ntmps - us.toArray.size) undef=(us++List.replicate (Tryz.f11.ntmps - us.length) undef).toArray:=by simp
   rw [e0,Array.getD_eq_getD_getElem?,List.getElem?_toArray,List.getElem?_append_left (List.getElem?_eq_some_iff.1 hu1).1,hu1]
   exact hu2
  ·cases hx
 unfold De at hq
 refine wpIn_seq (UG x0 none (.of w.heap.size) _ _ w Z [] (fun _=>rfl) sr0 (fun y hy=>by cases hy) fun e s1 a1 w1 Z1 R1 hQ1 sr1 st1=>?_)
 obtain ⟨rfl,rfl⟩:=hQ1
 refine wpIn_seq (UH x0 none (.of w.heap.size) _ _ w1 Z1 R1 (fun _=>rfl) sr1 (fun y hy=>by cases hy) fun e s2 a2 w2 Z2 R2 hQ2 sr2 st2=>?_)
 have st12:=st1.trans st2
 rcases hQ2 with ⟨hb,rfl,rfl⟩ | ⟨hb,rfl,rfl⟩
 ·rw [if_neg (by rw [hb]; exact Bool.false_ne_true)] at hq
  obtain ⟨r,hr,hq⟩:=OB hq
  refine PO AD (n:=0) (g:=32) (cs:=[.pt 0 0 0,.pt 1 0 0]) (s3:=⟨Fr 45 [(13,.fn 32 [] [.pt 0 0 0,.pt 1 0 0]),(0,.st x0),(2,.pt 0 0 0),(3,.v (.int .i64 0)),(4,.pt 1 0 0)],hpA⟩) rfl (by kernel_rfl) rfl rfl rfl (by kernel_rfl) sr2 fun a3 w3 Z3 R3 u2 hu sr3 st3=>?_
  obtain ⟨u0,ut,rfl,hu0,hut⟩:=hu.head
  obtain ⟨u1,ut2,rfl,hu1,hut2⟩:=hut.head
  have e2:ut2=[]:=by have:=hut2.len; simpa using this
  subst e2
  have st123:=st12.trans st3
  have hinv:∀ w1,(invoke (Target.fn (.func 32) [u0,u1].toArray) #[]).run E0.P w1 = .ok (.enter 32 #[u0,u1]) w1:=fun w1=>by simp [invoke,(⟨Tryz.call32⟩:BI E0.P 32).run]
  refine (HB WkY.f1 (Rm x0 (.pt 0 0 0) .e0 [] (.pt 1 0 0) 0 0 r hr VN)) none ⟨w.heap.size,[⟨.fn (.func 32) [u0,u1].toArray,#[]⟩]⟩ _ _ w3 Z3 R3 (fun _=>rfl) sr3 (fun y hy=>by cases hy) (fun e s5 a5 w5 Z5 R5 hQ5 sr5 st5=>?_) (fun e s5 a5 w5 Z5 R5 hP5 sr5 st5=>?_)
  ·obtain ⟨q',rfl,rfl,hp6,hw6,hT6⟩:=hQ5
   obtain rfl:=OI hq
   obtain ⟨Z6,R6,sr6,st6⟩:=hw6 _ _ _ _ _ sr5
   have st:=(st123.trans st5).trans st6
   have hres:Dk E0.P (Fr 45 [(2,.pt 0 0 0),(3,.v (.int .i64 0)),(4,.pt 1 0 0)]) hp6 Tryz.f11.results.toList=some [.sl 5 (q'.2.map AA.enc),.v (.int .i64 0),.v (.int .i64 0)]:=by
    rw [show Tryz.f11.results.toList=[.cell 2 25,.tmp 3,.cell 4 28] from rfl]
    have l1:Dp E0.P hp6 25 (.pt 0 0 0)=some (.sl 5 (q'.2.map AA.enc)):=ES (m:=1) (g:=false) hT6 (by kernel_rfl) (by kernel_rfl) (by kernel_rfl)
    have l2:Dp E0.P hp6 28 (.pt 1 0 0)=some (.v (.int .i64 0)):=ES (m:=1) (g:=false) (hT6.front 1 rfl) (by kernel_rfl) (by kernel_rfl) (by kernel_rfl)
    have f2:(Fr 45 [(2,.pt 0 0 0),(3,.v (.int .i64 0)),(4,.pt 1 0 0)])[2]? = some (some (.pt 0 0 0)):=by kernel_rfl
    have f3:(Fr 45 [(2,.pt 0 0 0),(3,.v (.int .i64 0)),(4,.pt 1 0 0)])[3]? = some (some (.v (.int .i64 0))):=by kernel_rfl
    have f4:(Fr 45 [(2,.pt 0 0 0),(3,.v (.int .i64 0)),(4,.pt 1 0 0)])[4]? = some (some (.pt 1 0 0)):=by kernel_rfl
    simp only [Dk,f2,f3,f4,l1,l2]
   exact Jz (a:=a5) (w:=w5) (base:=⟨w.heap.size,[⟨.fn (.func 32) [u0,u1].toArray,#[]⟩]⟩) rfl rfl hinv (S8 [u0,u1] rfl) (xs:=[.sl 5 (q'.2.map AA.enc),.v (.int .i64 0),.v (.int .i64 0)]) (S:=fun v w''=>∃ Z' R' h',HR w'' Z' R' h'/\VR w'' Z' R' (Dw (q'.2,0,0)) v/\Step w Z [] [] w'' Z' R' h') hres (fun w'' u g1 g2 g3 g4 g5 g6 g7=>⟨Z6,R6,_,g6,g7,⟨g2.trans st.os,g3.trans st.tape,g4.trans st.output,Nat.le_trans st.size g1,fun c hc hn=>(g5 c hc).trans (st.block c hc hn),st.own_,st.z,st.z',st.r⟩⟩) (D:=a5.defers) sr6 rfl rfl rfl rfl (fun _ _=>rfl)
  ·obtain ⟨n,m,x,xs,hp6,rfl,hw6,hT6⟩:=hP5
   obtain rfl:=OI hq
   obtain ⟨Z6,R6,sr6,st6⟩:=hw6 _ _ _ _ _ sr5
   have st:=(st123.trans st5).trans st6
   refine MC (a:=a5) (w:=w5) (base:=⟨w.heap.size,[⟨.fn (.func 32) [u0,u1].toArray,#[]⟩]⟩) rfl rfl hinv rfl hT6 (hu0.ptw (st5.trans st6).r) (hu1.ptw (st5.trans st6).r) rfl (S:=fun v w''=>∃ Z' R' h',HR w'' Z' R' h'/\VR w'' Z' R' (Dw ([],n,e)) v/\Step w Z [] [] w'' Z' R' h') (fun w'' Z'' R'' h'' u k1 k2 k3 k4 k5 k6 k7 k8 k9 k10=>⟨Z'',R'',h'',k1,k2,k4.trans st.os,k5.trans st.tape,k6.trans st.output,Nat.le_trans st.size k7,fun c hc hn=>(k3 c hc fun ho=>(st.own_ c ho).elim hn (by omega)).trans (st.block c hc hn),fun c hc=>(k8 c hc).elim (fun h=>st.own_ c h) (fun h=> .inr (Nat.le_trans st.size h)),fun c hc=>k9 c (st.z c hc),fun c hc=>?_,fun i x h=>by simp at h⟩) (D:=a5.defers) sr6 rfl rfl rfl rfl (fun _ _=>rfl)
   rcases k10 c hc with h | h | h
   ·exact st.z' c h
   ·exact .inr (st.own_ c h)
   ·exact .inr (.inr (Nat.le_trans st.size h))
 ·rw [if_pos hb] at hq
  obtain rfl:=OI hq
  have hT0:T VO [cel (.pt 0 0 0) 1 25 .e0,cel (.pt 1 0 0) 1 28 (.v (.int .i64 7))]:=⟨[0]++([1]++[]),⟨[0],_,rfl,⟨0,rfl,rfl,rfl⟩,[1],[],rfl,⟨1,rfl,rfl,rfl⟩,rfl⟩,by decide⟩
  obtain ⟨hp3,hw3,hT3⟩:=IV (E:=E0) (y:= .sl 5 ([].map AA.enc)) hT0 UpV.nil
  obtain ⟨Z6,R6,sr6,st6⟩:=hw3 _ _ _ _ _ _ _ sr2
  have st:=st12.trans st6
  have hres:Dk E0.P (Fr 45 [(2,.pt 0 0 0),(3,.v (.int .i64 0)),(4,.pt 1 0 0)]) hp3 Tryz.f11.results.toList=some [.sl 5 ([].map AA.enc),.v (.int .i64 0),.v (.int .i64 7)]:=by
   rw [show Tryz.f11.results.toList=[.cell 2 25,.tmp 3,.cell 4 28] from rfl]
   have l1:Dp E0.P hp3 25 (.pt 0 0 0)=some (.sl 5 ([].map AA.enc)):=ES (m:=1) (g:=false) hT3 (by kernel_rfl) (by kernel_rfl) (by kernel_rfl)
   have l2:Dp E0.P hp3 28 (.pt 1 0 0)=some (.v (.int .i64 7)):=ES (m:=1) (g:=false) (hT3.front 1 rfl) (by kernel_rfl) (by kernel_rfl) (by kernel_rfl)
   have f2:(Fr 45 [(2,.pt 0 0 0),(3,.v (.int .i64 0)),(4,.pt 1 0 0)])[2]? = some (some (.pt 0 0 0)):=by kernel_rfl
   have f3:(Fr 45 [(2,.pt 0 0 0),(3,.v (.int .i64 0)),(4,.pt 1 0 0)])[3]? = some (some (.v (.int .i64 0))):=by kernel_rfl
   have f4:(Fr 45 [(2,.pt 0 0 0),(3,.v (.int .i64 0)),(4,.pt 1 0 0)])[4]? = some (some (.pt 1 0 0)):=by kernel_rfl
   simp only [Dk,f2,f3,f4,l1,l2]
  exact EA (base:= .of w.heap.size) rfl (E:=E0) (w:=w2) (a:=a2) (xs:=[.sl 5 ([].map AA.enc),.v (.int .i64 0),.v (.int .i64 7)]) (S:=fun v w''=>∃ Z' R' h',HR w'' Z' R' h'/\VR w'' Z' R' (Dw ([],0,7)) v/\Step w Z [] [] w'' Z' R' h') hres (fun w'' u g1 g2 g3 g4 g5 g6 g7=>⟨Z6,R6,_,g6,g7,⟨g2.trans st.os,g3.trans st.tape,g4.trans st.output,by rw [g1]; exact st.size,fun c hc hn=>(g5 c hc).trans (st.block c hc hn),st.own_,st.z,st.z',st.r⟩⟩) (D:=a2.defers) (w1:=w2) sr6 rfl rfl rfl rfl (fun _ _=>rfl)
theorem M6:XOk 11 Mv:=by
 refine ⟨⟨Tryz.call11⟩,fun xs y h w Z us hz hg hv=>?_⟩
 obtain ⟨a,ha,h⟩:=OB h
 obtain ⟨b,hb,rfl⟩:=Option.map_eq_some_iff.1 h
 refine Ret.mono (Qb hb hz hg (Ik.vr ha hv)) fun v w' hS=>?_
 obtain ⟨Z',R',h',h1,h2,st⟩:=hS
 refine ⟨⟨st.os,st.tape,st.output,st.size,fun c hc _=>st.block c hc HW⟩,(Mf (by kernel_rfl) h2).mono (fun _ _=>rfl) (fun c hc=>?_) (fun _ _ h=>h)⟩
 rcases st.z' c hc with h | h | h
 ·exact .inl h
 ·exact absurd h HW
 ·exact .inr ⟨h,h1.zlt c hc⟩
/- trestle/trestlekit.Lines -/
noncomputable def GF:Code:=Bc Tryz.f53
def Ev (x0:(List UInt8)) (c2:Int) (c3:Int) (c5:(List (List UInt8))) (v7:UInt8):Option ((Int×(List (List UInt8)))) :=
 if ((v7.toNat:Int)==10)=true then
 if (By c2 c3 x0.length)=true then
 if (FX 16 (c5.length + ([((x0.take c3.toNat).drop c2.toNat)]:List (List UInt8)).length))=true then
 some ((wr .i64 (c3 + 1)),(c5++([((x0.take c3.toNat).drop c2.toNat)]:List (List UInt8))))
 else none
 else none
 else
 some (c2,c5)
def Cz (x0:(List UInt8)):Nat->Int->Int->(List (List UInt8))->Option ((Int×(List (List UInt8))))
 | 0,_,_,_=>none
 | f + 1,c2,c3,c5 =>
  if (decide (c3 < (x0.length:Int)))=true then
  (idx x0 c3).bind fun v7 =>
  (Ev x0 c2 c3 c5 v7).bind fun r23 =>
  Cz x0 f r23.1 (wr .i64 (c3 + 1)) r23.2
  else
  some (c2,c5)
def F5 (x0:(List UInt8)):Option ((List (List UInt8))×Bool) :=
 (Cz x0 100000 0 0 ([]:(List (List UInt8)))).bind fun r30 =>
 if (decide (r30.1 < (x0.length:Int)))=true then
 if (By r30.1 (x0.length:Int) x0.length)=true then
 if (FX 16 (r30.2.length + ([((x0.take (x0.length:Int).toNat).drop r30.1.toNat)]:List (List UInt8)).length))=true then
 some ((r30.2++([((x0.take (x0.length:Int).toNat).drop r30.1.toNat)]:List (List UInt8))),false)
 else none
 else none
 else
 some (r30.2,true)
theorem LD {L:List Asn}{hp:Hp}(x0:(List UInt8)) (c2:Int) (c3:Int) (c5:(List (List UInt8))) (v7:UInt8) (e4:AV) (r:(Int×(List (List UInt8)))) (h:Ev x0 c2 c3 c5 v7=some r) (hT:T hp ((own_ (ocL 1 9 (ocV cdS)) e4 c5)::L)):SemY E0 ⟨none,false⟩ (pc GF [1,1,1,0,1,0,0,1,0,0,1]) ⟨Fr 37 [(0,.st x0),(4,e4),(5,.j c2),(6,.j c3),(16,.b ((v7.toNat:Int)==10))],hp⟩ (fun e s=>e = .normal/\∃ s2,(∃ (e21:AV) (h':Hp),T h' ((own_ (ocL 1 9 (ocV cdS)) e21 r.2)::L)/\s2=⟨Fr 37 [(0,.st x0),(4,e21),(5,.j r.1),(6,.j c3)],h'⟩)/\WkY E0 s s2):=by
 unfold Ev at h;refine DA (b:=((v7.toNat:Int)==10)) kr (fun hb8=>?_) (fun hb8=>?_)
 ·rw [if_pos hb8] at h
  refine Aw ?_;refine SemY.regionL ?_;refine Gf AD 4 ?_;by_cases hk9:(By c2 c3 x0.length)=true
  case neg=>rw [if_neg hk9] at h; cases h
  rw [if_pos hk9] at h;refine AL AD 0 rfl (BY (AB rfl) rfl (Di (a:= .st x0) (l:=(some (.j c2))) (u:=(some (.j c3))) (m:=none) kr kr kr rfl (Ge (bs:=x0) (lo:=c2) (hi:=c3) kr (Ee (Hm hk9)) (Ee (L5 hk9)) hk9))) ?_;obtain ⟨e13,hp10,hb11,hT12⟩:=JW (P:=Tryz.prog) (bytes:=16) (k:=1) (t:=9) (ty:=45) (xs:=([((x0.take c3.toNat).drop c2.toNat)]:List (List UInt8))) (n:=1) (P8 (k:=1) (fun _=>⟨rfl,rfl,rfl⟩)) (JQ (c:=cdS) (xs:=([((x0.take c3.toNat).drop c2.toNat)]:List (List UInt8))) hT) rfl kr kr kr;refine AL AD 0 rfl (Qw (AB rfl) rfl kr (QS (xs:=Kz 0 [.st ((x0.take c3.toNat).drop c2.toNat)]) kr hb11)) ?_;by_cases hk18:(FX 16 (c5.length + ([((x0.take c3.toNat).drop c2.toNat)]:List (List UInt8)).length))=true
  case neg=>rw [if_neg hk18] at h; cases h
  rw [if_pos hk18] at h
  have hT19:=((hT12.front 0 rfl).front 1 rfl)
  obtain ⟨e17,hp14,hb15,hT16⟩:=JE (P:=Tryz.prog) (ty:=45) (ty2:=45) (bytes:=16) hT19 kr kr hk18;refine AL AD 0 rfl (TX (AB rfl) rfl kr kr (Ie (a:=e4) (b:=e13) kr kr hb15)) ?_;refine GE AD [(0,.st x0),(4,e17),(6,.j c3)] ?_;refine SemY.regionL ?_;refine Gf AD 3 ?_;refine AH rfl ?_;have hq:=OI h; subst hq;exact ⟨rfl,_,⟨e17,hp14,hT16,rfl⟩,WkY.f1⟩
 ·rw [BH hb8] at h
  refine SemY.skip ?_;have hq:=OI h; subst hq;exact ⟨rfl,_,⟨e4,hp,hT,rfl⟩,WkY.f1⟩
theorem LE {L:List Asn}(x0:(List UInt8)):∀ (f:Nat) (c2:Int) (c3:Int) (c5:(List (List UInt8))) (r:(Int×(List (List UInt8)))),Cz x0 f c2 c3 c5=some r->∀ (e4:AV) (hp:Hp),T hp ((own_ (ocL 1 9 (ocV cdS)) e4 c5)::L)->SemYN E0 ⟨none,false⟩ (pc GF [1,1,1,0,1,0,0]) f ⟨Fr 37 [(0,.st x0),(4,e4),(5,.j c2),(6,.j c3)],hp⟩ (fun e s=>e=(.exit 0)/\∃ s2,(∃ (e28:AV) (h':Hp),T h' ((own_ (ocL 1 9 (ocV cdS)) e28 r.2)::L)/\s2=⟨Fr 37 [(0,.st x0),(4,e28),(5,.j r.1)],h'⟩)/\WkY E0 s s2):=by
 intro f;induction f with
 | zero=>intro c2 c3 c5 r h; cases h
 | succ f ih0 =>
  intro c2 c3 c5 r h e4 hp hT;unfold Cz at h;refine Ju ?_;refine Aw ?_;refine Dr AD [(0,.st x0),(4,e4),(5,.j c2),(6,.j c3),(10,.b (decide (c3 < (x0.length:Int))))] ?_;refine DA (b:=(decide (c3 < (x0.length:Int)))) kr (fun hb6=>?_) (fun hb6=>?_)
  ·rw [if_pos hb6] at h
   refine SemY.skip ?_;refine Aw ?_;refine Fe ?_;refine Aw ?_;refine SemY.regionL ?_;refine Gf AD 2 ?_;obtain ⟨v7,hv7,h⟩:=OB h;refine AL AD 0 rfl (BY (AB rfl) rfl (D4 (a:= .st x0) (b:= .j c3) kr kr (DT (bs:=x0) (ki:= .i64) kr hv7))) ?_;refine GE AD [(0,.st x0),(4,e4),(5,.j c2),(6,.j c3),(16,.b ((v7.toNat:Int)==10))] ?_;obtain ⟨r23,hr23,h⟩:=OB h;refine JC (LD x0 c2 c3 c5 v7 e4 _ hr23 hT) ?_;rintro _ ⟨e24,hp25,hT26,rfl⟩;refine SemY.regionL ?_;refine Gf AD 3 ?_;refine AH rfl ?_;exact HC WkY.f1 (ih0 r23.1 (wr .i64 (c3 + 1)) r23.2 _ h e24 hp25 hT26)
  ·rw [BH hb6] at h
   refine SemY.exit ?_;have hq:=OI h; subst hq;exact ⟨rfl,_,⟨e4,hp,hT,rfl⟩,WkY.f1⟩
theorem MX {L:List Asn}{hp:Hp}(x0:(List UInt8)) (r:(List (List UInt8))×Bool) (h:F5 x0=some r) (hT:T hp (L)):SemY E0 ⟨none,false⟩ GF ⟨Fr 37 (BF 0 [.st x0]),hp⟩ fun x s'=>(x = .normal\/x = .ret)/\∃ ys,Dk E0.P s'.fr s'.hp Tryz.f53.results.toList=some ys/\(fun v h'=>v = .tp [.sl 1 (r.1.map cdS.enc),.b r.2]/\T h' (L)) (EB ys) s'.hp:=by
 unfold F5 at h;refine JD (Ku (s1:=⟨Fr 37 [(0,.st x0)],hp⟩) WkY.f1 ?_);refine Dr AD [(0,.st x0)] ?_;refine Dr AD [(0,.st x0),(4,.e0)] ?_;refine Dr AD [(0,.st x0),(4,.e0),(5,.j 0)] ?_;refine Aw ?_;refine Dr AD [(0,.st x0),(4,.e0),(5,.j 0),(6,.j 0)] ?_;refine Fe ?_
 have hT1:=(T.e0 (k:=1) (ty:=9) (o:=(ocV cdS)) hT)
 refine SemY.loop (n:=100000) ?_;obtain ⟨r30,hr30,h⟩:=OB h;refine IU (HC WkY.f1 (LE x0 _ 0 0 ([]:(List (List UInt8))) _ hr30 .e0 hp hT1)) ?_;rintro _ ⟨e31,hp32,hT33,rfl⟩;refine Aw ?_;refine Dr AD [(0,.st x0),(4,e31),(5,.j r30.1),(29,.b (decide (r30.1 < (x0.length:Int))))] ?_;refine DA (b:=(decide (r30.1 < (x0.length:Int)))) kr (fun hb34=>?_) (fun hb34=>?_)
 ·rw [if_pos hb34] at h
  refine Aw ?_;refine SemY.regionL ?_;refine Gf AD 3 ?_;by_cases hk35:(By r30.1 (x0.length:Int) x0.length)=true
  case neg=>rw [if_neg hk35] at h; cases h
  rw [if_pos hk35] at h;refine AL AD 0 rfl (BY (AB rfl) rfl (Di (a:= .st x0) (l:=(some (.j r30.1))) (u:=none) (m:=none) kr kr kr rfl (Ge (bs:=x0) (lo:=r30.1) (hi:=(x0.length:Int)) kr (Ee (Hm hk35)) rfl hk35))) ?_;obtain ⟨e39,hp36,hb37,hT38⟩:=JW (P:=Tryz.prog) (bytes:=16) (k:=1) (t:=9) (ty:=45) (xs:=([((x0.take (x0.length:Int).toNat).drop r30.1.toNat)]:List (List UInt8))) (n:=1) (P8 (k:=1) (fun _=>⟨rfl,rfl,rfl⟩)) (JQ (c:=cdS) (xs:=([((x0.take (x0.length:Int).toNat).drop r30.1.toNat)]:List (List UInt8))) hT33) rfl kr kr kr;refine AL AD 0 rfl (Qw (AB rfl) rfl kr (QS (xs:=Kz 0 [.st ((x0.take (x0.length:Int).toNat).drop r30.1.toNat)]) kr hb37)) ?_;by_cases hk44:(FX 16 (r30.2.length + ([((x0.take (x0.length:Int).toNat).drop r30.1.toNat)]:List (List UInt8)).length))=true
  case neg=>rw [if_neg hk44] at h; cases h
  rw [if_pos hk44] at h
  have hT45:=((hT38.front 0 rfl).front 1 rfl)
  obtain ⟨e43,hp40,hb41,hT42⟩:=JE (P:=Tryz.prog) (ty:=45) (ty2:=45) (bytes:=16) hT45 kr kr hk44;refine AL AD 0 rfl (TX (AB rfl) rfl kr kr (Ie (a:=e31) (b:=e39) kr kr hb41)) ?_
  let p1:Nat×AV:=(3,.b false)
  refine GE AD [(2,e43),p1] ?_;refine SemY.ret ?_;have hq:=OI h; subst hq
  let p2:Nat×AV:=(2,.sl 1 ((r30.2++([((x0.take (x0.length:Int).toNat).drop r30.1.toNat)]:List (List UInt8))).map cdS.enc))
  obtain ⟨hp46,hw47,hT48⟩:=IW (E:=E0) (n:=37) (l:=[(2,e43),p1]) (l':=[p2,p1]) hT42 ⟨⟨e43,kr,IQ⟩,⟨.b false,kr,FzU.refl⟩,trivial⟩;exact ⟨⟨Fr 37 [p2,p1],hp46⟩,(WkY.trans (WkY.trans WkY.f1 hw47) WkY.f1),.inr rfl,[.sl 1 ((r30.2++([((x0.take (x0.length:Int).toNat).drop r30.1.toNat)]:List (List UInt8))).map cdS.enc),.b false],kr,⟨rfl,hT48⟩⟩
 ·rw [BH hb34] at h
  refine SemY.skip ?_
  let p3:Nat×AV:=(3,.b true)
  refine Dr AD [(2,e31),p3] ?_;refine SemY.ret ?_;have hq:=OI h; subst hq;obtain ⟨hp49,hw50,hT51⟩:=IW (E:=E0) (n:=37) (l:=[(2,e31),p3]) (l':=[(2,.sl 1 (r30.2.map cdS.enc)),p3]) hT33 ⟨⟨e31,kr,IQ⟩,⟨.b true,kr,FzU.refl⟩,trivial⟩;exact ⟨⟨Fr 37 [(2,.sl 1 (r30.2.map cdS.enc)),p3],hp49⟩,(WkY.trans (WkY.trans WkY.f1 hw50) WkY.f1),.inr rfl,[.sl 1 (r30.2.map cdS.enc),.b true],kr,⟨rfl,hT51⟩⟩
def KH:Cs ((List UInt8)×Unit):=(csC cdS csN)
def KJ (r:(List (List UInt8))×Bool):AV:= .tp [(cdL 1 cdS).enc r.1,cdB.enc r.2]
def OZ:List AV->Option AV:=Ea KH (fun a=>F5 a.1) KJ
theorem Oi:XOk 53 OZ:=by
 refine Ap Tryz.func53 (c:=GF) ?h2 ⟨Tryz.call53⟩ KH (fun a=>F5 a.1) KJ (fun a=>(by show 1<=37; decide)) ?h3 ?h4
 case h2=>kernel_rfl
 case h3=>intro b; kernel_rfl
 case h4 =>
  intro a b h;refine Sem.mono (Sem.ofY (MX (L:=[]) (hp:=[]) a.1 b h T.nil)) fun e s' hs=>?_
  obtain ⟨h1,ys,h2,h3,-⟩:=hs;exact ⟨h1,ys,h2,h3⟩
/- trestle/trestlekit.Words -/
noncomputable def GG:Code:=Bc Tryz.f54
def D9 (x0:(List UInt8)) (c2:Int) (c3:Int) (c5:(List (List UInt8))) (v7:UInt8):Option ((Int×(List (List UInt8))) ⊕ (Unit)) :=
 if ((v7.toNat:Int)==32)=true then
 if (c3==c2)=true then
 some (.inr ())
 else
 if (By c2 c3 x0.length)=true then
 if (FX 16 (c5.length + ([((x0.take c3.toNat).drop c2.toNat)]:List (List UInt8)).length))=true then
 some (.inl ((wr .i64 (c3 + 1)),(c5++([((x0.take c3.toNat).drop c2.toNat)]:List (List UInt8)))))
 else none
 else none
 else
 some (.inl (c2,c5))
def CL (x0:(List UInt8)):Nat->Int->Int->(List (List UInt8))->Option ((Int×(List (List UInt8))) ⊕ (Unit))
 | 0,_,_,_=>none
 | f + 1,c2,c3,c5 =>
  if (decide (c3 < (x0.length:Int)))=true then
  (idx x0 c3).bind fun v7 =>
  (D9 x0 c2 c3 c5 v7).bind fun r25 =>
  match r25 with
  | (.inl w26) =>
   CL x0 f w26.1 (wr .i64 (c3 + 1)) w26.2
  | (.inr w30) =>
   some (.inr ())
  else
  some (.inl (c2,c5))
def Ew (x0:(List UInt8)):Option ((List (List UInt8))×Bool) :=
 (CL x0 100000 0 0 ([]:(List (List UInt8)))).bind fun r36 =>
 match r36 with
 | (.inl w37) =>
  if (w37.1==(x0.length:Int))=true then
  some (([]:(List (List UInt8))),false)
  else
  if (By w37.1 (x0.length:Int) x0.length)=true then
  if (FX 16 (w37.2.length + ([((x0.take (x0.length:Int).toNat).drop w37.1.toNat)]:List (List UInt8)).length))=true then
  some ((w37.2++([((x0.take (x0.length:Int).toNat).drop w37.1.toNat)]:List (List UInt8))),true)
  else none
  else none
 | (.inr w60) =>
  some (([]:(List (List UInt8))),false)
theorem H9 {L:List Asn}{hp:Hp}(x0:(List UInt8)) (c2:Int) (c3:Int) (c5:(List (List UInt8))) (v7:UInt8) (e4:AV) (r:(Int×(List (List UInt8))) ⊕ (Unit)) (h:D9 x0 c2 c3 c5 v7=some r) (hT:T hp ((own_ (ocL 1 9 (ocV cdS)) e4 c5)::L)):SemY E0 ⟨none,false⟩ (pc GG [1,1,1,0,1,0,0,1,0,0,1]) ⟨Fr 39 [(0,.st x0),(4,e4),(5,.j c2),(6,.j c3),(16,.b ((v7.toNat:Int)==32))],hp⟩ (fun e s=>match r with
 | (.inl w)=>e = .normal/\∃ s2,(∃ (e23:AV) (h':Hp),T h' ((own_ (ocL 1 9 (ocV cdS)) e23 w.2)::L)/\s2=⟨Fr 39 [(0,.st x0),(4,e23),(5,.j w.1),(6,.j c3)],h'⟩)/\WkY E0 s s2
 | (.inr w)=>e = .ret/\∃ s2,(∃ (h':Hp),T h' (L)/\s2=⟨Fr 39 [(2,.e0),(3,.b false)],h'⟩)/\WkY E0 s s2):=by
 unfold D9 at h;refine DA (b:=((v7.toNat:Int)==32)) kr (fun hb8=>?_) (fun hb8=>?_)
 ·rw [if_pos hb8] at h
  refine Aw ?_;refine Dr AD [(0,.st x0),(4,e4),(5,.j c2),(6,.j c3),(19,.b (c3==c2))] ?_;refine DA (b:=(c3==c2)) kr (fun hb9=>?_) (fun hb9=>?_)
  ·rw [if_pos hb9] at h
   refine Dr AD [(2,.e0),(3,.b false)] ?_;refine SemY.ret ?_;have hq:=OI h; subst hq
   have hT10:=hT.drop
   exact ⟨rfl,_,⟨hp,hT10,rfl⟩,WkY.f1⟩
  ·rw [BH hb9] at h
   refine SemY.skip ?_;refine Aw ?_;refine SemY.regionL ?_;refine Gf AD 4 ?_;by_cases hk11:(By c2 c3 x0.length)=true
   case neg=>rw [if_neg hk11] at h; cases h
   rw [if_pos hk11] at h;refine AL AD 0 rfl (BY (AB rfl) rfl (Di (a:= .st x0) (l:=(some (.j c2))) (u:=(some (.j c3))) (m:=none) kr kr kr rfl (Ge (bs:=x0) (lo:=c2) (hi:=c3) kr (Ee (Hm hk11)) (Ee (L5 hk11)) hk11))) ?_;obtain ⟨e15,hp12,hb13,hT14⟩:=JW (P:=Tryz.prog) (bytes:=16) (k:=1) (t:=9) (ty:=45) (xs:=([((x0.take c3.toNat).drop c2.toNat)]:List (List UInt8))) (n:=1) (P8 (k:=1) (fun _=>⟨rfl,rfl,rfl⟩)) (JQ (c:=cdS) (xs:=([((x0.take c3.toNat).drop c2.toNat)]:List (List UInt8))) hT) rfl kr kr kr;refine AL AD 0 rfl (Qw (AB rfl) rfl kr (QS (xs:=Kz 0 [.st ((x0.take c3.toNat).drop c2.toNat)]) kr hb13)) ?_;by_cases hk20:(FX 16 (c5.length + ([((x0.take c3.toNat).drop c2.toNat)]:List (List UInt8)).length))=true
   case neg=>rw [if_neg hk20] at h; cases h
   rw [if_pos hk20] at h
   have hT21:=((hT14.front 0 rfl).front 1 rfl)
   obtain ⟨e19,hp16,hb17,hT18⟩:=JE (P:=Tryz.prog) (ty:=45) (ty2:=45) (bytes:=16) hT21 kr kr hk20;refine AL AD 0 rfl (TX (AB rfl) rfl kr kr (Ie (a:=e4) (b:=e15) kr kr hb17)) ?_;refine GE AD [(0,.st x0),(4,e19),(6,.j c3)] ?_;refine SemY.regionL ?_;refine Gf AD 3 ?_;refine AH rfl ?_;have hq:=OI h; subst hq;exact ⟨rfl,_,⟨e19,hp16,hT18,rfl⟩,WkY.f1⟩
 ·rw [BH hb8] at h
  refine SemY.skip ?_;have hq:=OI h; subst hq;exact ⟨rfl,_,⟨e4,hp,hT,rfl⟩,WkY.f1⟩
theorem IA {L:List Asn}(x0:(List UInt8)):∀ (f:Nat) (c2:Int) (c3:Int) (c5:(List (List UInt8))) (r:(Int×(List (List UInt8))) ⊕ (Unit)),CL x0 f c2 c3 c5=some r->∀ (e4:AV) (hp:Hp),T hp ((own_ (ocL 1 9 (ocV cdS)) e4 c5)::L)->SemYN E0 ⟨none,false⟩ (pc GG [1,1,1,0,1,0,0]) f ⟨Fr 39 [(0,.st x0),(4,e4),(5,.j c2),(6,.j c3)],hp⟩ (fun e s=>match r with
 | (.inl w)=>e=(.exit 0)/\∃ s2,(∃ (e34:AV) (h':Hp),T h' ((own_ (ocL 1 9 (ocV cdS)) e34 w.2)::L)/\s2=⟨Fr 39 [(0,.st x0),(4,e34),(5,.j w.1)],h'⟩)/\WkY E0 s s2
 | (.inr w)=>e = .ret/\∃ s2,(∃ (h':Hp),T h' (L)/\s2=⟨Fr 39 [(2,.e0),(3,.b false)],h'⟩)/\WkY E0 s s2):=by
 intro f;induction f with
 | zero=>intro c2 c3 c5 r h; cases h
 | succ f ih0 =>
  intro c2 c3 c5 r h e4 hp hT;unfold CL at h;refine Ju ?_;refine Aw ?_;refine Dr AD [(0,.st x0),(4,e4),(5,.j c2),(6,.j c3),(10,.b (decide (c3 < (x0.length:Int))))] ?_;refine DA (b:=(decide (c3 < (x0.length:Int)))) kr (fun hb6=>?_) (fun hb6=>?_)
  ·rw [if_pos hb6] at h
   refine SemY.skip ?_;refine Aw ?_;refine Fe ?_;refine Aw ?_;refine SemY.regionL ?_;refine Gf AD 2 ?_;obtain ⟨v7,hv7,h⟩:=OB h;refine AL AD 0 rfl (BY (AB rfl) rfl (D4 (a:= .st x0) (b:= .j c3) kr kr (DT (bs:=x0) (ki:= .i64) kr hv7))) ?_;refine GE AD [(0,.st x0),(4,e4),(5,.j c2),(6,.j c3),(16,.b ((v7.toNat:Int)==32))] ?_;obtain ⟨r25,hr25,h⟩:=OB h;rcases r25 with w26 | w30
   ·try dsimp only at h
    refine JC (H9 x0 c2 c3 c5 v7 e4 _ hr25 hT) ?_;rintro _ ⟨e27,hp28,hT29,rfl⟩;refine SemY.regionL ?_;refine Gf AD 3 ?_;refine AH rfl ?_;exact HC WkY.f1 (ih0 w26.1 (wr .i64 (c3 + 1)) w26.2 _ h e27 hp28 hT29)
   ·try dsimp only at h
    refine JC (H9 x0 c2 c3 c5 v7 e4 _ hr25 hT) ?_;rintro _ ⟨hp31,hT32,rfl⟩;have hq:=OI h; subst hq;exact ⟨rfl,_,⟨hp31,hT32,rfl⟩,WkY.f1⟩
  ·rw [BH hb6] at h
   refine SemY.exit ?_;have hq:=OI h; subst hq;exact ⟨rfl,_,⟨e4,hp,hT,rfl⟩,WkY.f1⟩
theorem MY {L:List Asn}{hp:Hp}(x0:(List UInt8)) (r:(List (List UInt8))×Bool) (h:Ew x0=some r) (hT:T hp (L)):SemY E0 ⟨none,false⟩ GG ⟨Fr 39 (BF 0 [.st x0]),hp⟩ fun x s'=>(x = .normal\/x = .ret)/\∃ ys,Dk E0.P s'.fr s'.hp Tryz.f54.results.toList=some ys/\(fun v h'=>v = .tp [.sl 1 (r.1.map cdS.enc),.b r.2]/\T h' (L)) (EB ys) s'.hp:=by
 unfold Ew at h;refine JD (Ku (s1:=⟨Fr 39 [(0,.st x0)],hp⟩) WkY.f1 ?_);refine Dr AD [(0,.st x0)] ?_;refine Dr AD [(0,.st x0),(4,.e0)] ?_;refine Dr AD [(0,.st x0),(4,.e0),(5,.j 0)] ?_;refine Aw ?_;refine Dr AD [(0,.st x0),(4,.e0),(5,.j 0),(6,.j 0)] ?_;refine Fe ?_
 have hT1:=(T.e0 (k:=1) (ty:=9) (o:=(ocV cdS)) hT)
 refine SemY.loop (n:=100000) ?_;obtain ⟨r36,hr36,h⟩:=OB h;rcases r36 with w37 | w60
 ·try dsimp only at h
  refine IU (HC WkY.f1 (IA x0 _ 0 0 ([]:(List (List UInt8))) _ hr36 .e0 hp hT1)) ?_;rintro _ ⟨e38,hp39,hT40,rfl⟩;refine Aw ?_;refine Dr AD [(0,.st x0),(4,e38),(5,.j w37.1),(32,.b (w37.1==(x0.length:Int)))] ?_;refine DA (b:=(w37.1==(x0.length:Int))) kr (fun hb41=>?_) (fun hb41=>?_)
  ·rw [if_pos hb41] at h
   let p1:Nat×AV:=(3,.b false)
   refine Dr AD [(2,.e0),p1] ?_;refine SemY.ret ?_;have hq:=OI h; subst hq
   have hT42:=(T.e0 (k:=1) (ty:=9) (o:=(ocV cdS)) hT40)
   let p2:Nat×AV:=(2,.sl 1 (([]:(List (List UInt8))).map cdS.enc))
   obtain ⟨hp43,hw44,hT45⟩:=IW (E:=E0) (n:=39) (l:=[(2,.e0),p1]) (l':=[p2,p1]) hT42 ⟨⟨.e0,kr,IQ⟩,⟨.b false,kr,FzU.refl⟩,trivial⟩;exact ⟨⟨Fr 39 [p2,p1],hp43⟩,(WkY.trans (WkY.trans WkY.f1 hw44) WkY.f1),.inr rfl,[.sl 1 (([]:(List (List UInt8))).map cdS.enc),.b false],kr,⟨rfl,hT45.drop⟩⟩
  ·rw [BH hb41] at h
   refine SemY.skip ?_;refine Aw ?_;refine SemY.regionL ?_;refine Gf AD 3 ?_;by_cases hk46:(By w37.1 (x0.length:Int) x0.length)=true
   case neg=>rw [if_neg hk46] at h; cases h
   rw [if_pos hk46] at h;refine AL AD 0 rfl (BY (AB rfl) rfl (Di (a:= .st x0) (l:=(some (.j w37.1))) (u:=none) (m:=none) kr kr kr rfl (Ge (bs:=x0) (lo:=w37.1) (hi:=(x0.length:Int)) kr (Ee (Hm hk46)) rfl hk46))) ?_;obtain ⟨e50,hp47,hb48,hT49⟩:=JW (P:=Tryz.prog) (bytes:=16) (k:=1) (t:=9) (ty:=45) (xs:=([((x0.take (x0.length:Int).toNat).drop w37.1.toNat)]:List (List UInt8))) (n:=1) (P8 (k:=1) (fun _=>⟨rfl,rfl,rfl⟩)) (JQ (c:=cdS) (xs:=([((x0.take (x0.length:Int).toNat).drop w37.1.toNat)]:List (List UInt8))) hT40) rfl kr kr kr;refine AL AD 0 rfl (Qw (AB rfl) rfl kr (QS (xs:=Kz 0 [.st ((x0.take (x0.length:Int).toNat).drop w37.1.toNat)]) kr hb48)) ?_;by_cases hk55:(FX 16 (w37.2.length + ([((x0.take (x0.length:Int).toNat).drop w37.1.toNat)]:List (List UInt8)).length))=true
   case neg=>rw [if_neg hk55] at h; cases h
   rw [if_pos hk55] at h
   have hT56:=((hT49.front 0 rfl).front 1 rfl)
   obtain ⟨e54,hp51,hb52,hT53⟩:=JE (P:=Tryz.prog) (ty:=45) (ty2:=45) (bytes:=16) hT56 kr kr hk55;refine AL AD 0 rfl (TX (AB rfl) rfl kr kr (Ie (a:=e38) (b:=e50) kr kr hb52)) ?_
   let p3:Nat×AV:=(3,.b true)
   refine GE AD [(2,e54),p3] ?_;refine SemY.ret ?_;have hq:=OI h; subst hq
   let p4:Nat×AV:=(2,.sl 1 ((w37.2++([((x0.take (x0.length:Int).toNat).drop w37.1.toNat)]:List (List UInt8))).map cdS.enc))
   obtain ⟨hp57,hw58,hT59⟩:=IW (E:=E0) (n:=39) (l:=[(2,e54),p3]) (l':=[p4,p3]) hT53 ⟨⟨e54,kr,IQ⟩,⟨.b true,kr,FzU.refl⟩,trivial⟩;exact ⟨⟨Fr 39 [p4,p3],hp57⟩,(WkY.trans (WkY.trans WkY.f1 hw58) WkY.f1),.inr rfl,[.sl 1 ((w37.2++([((x0.take (x0.length:Int).toNat).drop w37.1.toNat)]:List (List UInt8))).map cdS.enc),.b true],kr,⟨rfl,hT59⟩⟩
 ·try dsimp only at h
  refine IU (HC WkY.f1 (IA x0 _ 0 0 ([]:(List (List UInt8))) _ hr36 .e0 hp hT1)) ?_;rintro _ ⟨hp61,hT62,rfl⟩;have hq:=OI h; subst hq
  have hT63:=(T.e0 (k:=1) (ty:=9) (o:=(ocV cdS)) hT62)
  let p5:Nat×AV:=(3,.b false)
  let p6:Nat×AV:=(2,.sl 1 (([]:(List (List UInt8))).map cdS.enc))
  obtain ⟨hp64,hw65,hT66⟩:=IW (E:=E0) (n:=39) (l:=[(2,.e0),p5]) (l':=[p6,p5]) hT63 ⟨⟨.e0,kr,IQ⟩,⟨.b false,kr,FzU.refl⟩,trivial⟩;exact ⟨⟨Fr 39 [p6,p5],hp64⟩,(WkY.trans (WkY.trans WkY.f1 hw65) WkY.f1),.inr rfl,[.sl 1 (([]:(List (List UInt8))).map cdS.enc),.b false],kr,⟨rfl,hT66⟩⟩
def KI:Cs ((List UInt8)×Unit):=(csC cdS csN)
def KK (r:(List (List UInt8))×Bool):AV:= .tp [(cdL 1 cdS).enc r.1,cdB.enc r.2]
def Oa:List AV->Option AV:=Ea KI (fun a=>Ew a.1) KK
theorem Oj:XOk 54 Oa:=by
 refine Ap Tryz.func54 (c:=GG) ?h2 ⟨Tryz.call54⟩ KI (fun a=>Ew a.1) KK (fun a=>(by show 1<=39; decide)) ?h3 ?h4
 case h2=>kernel_rfl
 case h3=>intro b; kernel_rfl
 case h4 =>
  intro a b h;refine Sem.mono (Sem.ofY (MY (L:=[]) (hp:=[]) a.1 b h T.nil)) fun e s' hs=>?_
  obtain ⟨h1,ys,h2,h3,-⟩:=hs;exact ⟨h1,ys,h2,h3⟩
/- trestle/trestleref03.word -/
noncomputable def JI:Code:=Bc Tryz.f83
def Fg (x0:Int):Option ((List UInt8)) :=
 (idx [[114,97,110,107],[101,108,100,101,114],[121,111,117,116,104],[115,105,100,101],[104,111,115,116],[116,111,110,103,117,101],[99,111,117,114,116],[110,97,109,101],[108,105,115,116],[108,111,116]] (wr .i64 (x0 - 1))).bind fun v1 =>
 some v1
def HJ:Cs (Int×Unit):=(csC cdI csN)
def HO (r:(List UInt8)):AV:=cdS.enc r
theorem Lp (x0:Int) (r:(List UInt8)) (h:Fg x0=some r):Sem E0 ⟨none,false⟩ JI ⟨Fr 10 (BF 0 (HJ.enc (x0,()))),[]⟩ fun e s'=>(e = .normal\/e = .ret)/\∃ xs,Dk E0.P s'.fr s'.hp Tryz.f83.results.toList=some xs/\EB xs=HO r:=by
 unfold Fg at h
 let p1:Nat×AV:=(0,.j x0)
 refine Bm (Cg (s1:=⟨Fr 10 [p1],[]⟩) AM ?_);refine AT AD [p1] [] ?_
 let p2:Option Blk:=mk 1 9 ([[114,97,110,107],[101,108,100,101,114],[121,111,117,116,104],[115,105,100,101],[104,111,115,116],[116,111,110,103,117,101],[99,111,117,114,116],[110,97,109,101],[108,105,115,116],[108,111,116]].map cdS.enc)
 refine AT AD [p1,(3,hd 0 ([[114,97,110,107],[101,108,100,101,114],[121,111,117,116,104],[115,105,100,101],[104,111,115,116],[116,111,110,103,117,101],[99,111,117,114,116],[110,97,109,101],[108,105,115,116],[108,111,116]].map cdS.enc))] [p2] ?_;refine AF ?_;obtain ⟨v1,hv1,h⟩:=OB h;refine AI (s1:=⟨Fr 10 [(2,.st v1)],[]⟩) ?_ ?_
 ·refine AC (n:=10) AD 3 [(5,hd 0 ([[114,97,110,107],[101,108,100,101,114],[121,111,117,116,104],[115,105,100,101],[104,111,115,116],[116,111,110,103,117,101],[99,111,117,114,116],[110,97,109,101],[108,105,115,116],[108,111,116]].map cdS.enc)),(7,.j (wr .i64 (x0 - 1)))] [p2] kr ?_
  refine AW AD 0 rfl (BY (AB rfl) rfl (Ad (a:=hd 0 ([[114,97,110,107],[101,108,100,101,114],[121,111,117,116,104],[115,105,100,101],[104,111,115,116],[116,111,110,103,117,101],[99,111,117,114,116],[110,97,109,101],[108,105,115,116],[108,111,116]].map cdS.enc)) (b:= .j (wr .i64 (x0 - 1))) kr kr (VP (e:=cdS.enc) (xs:=[[114,97,110,107],[101,108,100,101,114],[121,111,117,116,104],[115,105,100,101],[104,111,115,116],[116,111,110,103,117,101],[99,111,117,114,116],[110,97,109,101],[108,105,115,116],[108,111,116]]) (t':=9) (el:=9) (k:=1) (ki:= .i64) kr kr kr hv1))) ?_;refine AW AD 0 rfl (BY (AB rfl) rfl (Dq (p:= .pt 0 ((wr .i64 (x0 - 1)).toNat) 0) kr (VT (t':=9) (k:=1) (m:=1) (g:=false) (e:=cdS.enc) (xs:=[[114,97,110,107],[101,108,100,101,114],[121,111,117,116,104],[115,105,100,101],[104,111,115,116],[116,111,110,103,117,101],[99,111,117,114,116],[110,97,109,101],[108,105,115,116],[108,111,116]]) kr kr kr (L7 hv1).2 kr))) ?_;refine AC (n:=10) AD 1 [(2,.st v1)] [p2] kr ?_;exact AE rfl (Al [] trivial ⟨lv,trivial⟩)
 refine AU ?_;have hq:=OI h; subst hq;exact ⟨⟨Fr 10 [(2,.st v1)],[]⟩,AM,.inr rfl,[.st v1],kr,kr⟩
def Nj:List AV->Option AV:=Ea HJ (fun a=>Fg a.1) HO
theorem Nt:XOk 83 Nj:=by
 refine Ap Tryz.func83 (c:=JI) ?h2 ⟨Tryz.call83⟩ HJ (fun a=>Fg a.1) HO (fun a=>(by show 1<=10; decide)) ?h3 ?h4
 case h2=>kernel_rfl
 case h3=>intro b; kernel_rfl
 case h4=>exact fun a b h=>Lp a.1 b h
/- trestle/trestlekit.Number -/
noncomputable def HE:Code:=Bc Tryz.f84
def Bp (x0:(List UInt8)):Nat->Int->Int->Option ((Int) ⊕ (Int×Bool))
 | 0,_,_=>none
 | f + 1,c4,c5 =>
  if (decide (c5 < (x0.length:Int)))=true then
  (idx x0 c5).bind fun v7 =>
  (if (decide ((v7.toNat:Int) < 48))=true then some true else (idx x0 c5).bind fun v8 =>
  if (decide ((v8.toNat:Int) > 57))=true then some true else if (c5==1)=true then (idx x0 0).bind fun v9 =>
  some ((v9.toNat:Int)==48) else some false).bind fun j11 =>
  if j11=true then
  some (.inr (0,false))
  else
  (idx x0 c5).bind fun v15 =>
  Bp x0 f (wr .i64 ((wr .i64 ((wr .i64 (10 * c4)) + (wr .i64 (v15.toNat:Int)))) - 48)) (wr .i64 (c5 + 1))
  else
  some (.inl c4)
def Ek (x0:(List UInt8)):Option (Int×Bool) :=
 (if ((x0.length:Int)==0)=true then some true else some (decide ((x0.length:Int) > 9))).bind fun j2 =>
 if j2=true then
 some (0,false)
 else
 (Bp x0 100000 0 0).bind fun r20 =>
 match r20 with
 | (.inl w21) =>
  some (w21,true)
 | (.inr w22) =>
  some (w22.1,w22.2)
def HH:Cs ((List UInt8)×Unit):=(csC cdS csN)
def HM (r:Int×Bool):AV:= .tp [cdI.enc r.1,cdB.enc r.2]
theorem Ho (x0:(List UInt8)):∀ (f:Nat) (c4:Int) (c5:Int) (r:(Int) ⊕ (Int×Bool)),Bp x0 f c4 c5=some r->SemN E0 ⟨none,false⟩ (pc HE [1,1,1,0,1,0,0]) f ⟨Fr 48 [(0,.st x0),(4,.j c4),(5,.j c5)],[]⟩ (fun e s=>match r with
 | (.inl w)=>e=(.exit 0)/\Wk E0 s ⟨Fr 48 [(4,.j w)],[]⟩
 | (.inr w)=>e = .ret/\Wk E0 s ⟨Fr 48 [(2,.j w.1),(3,.b w.2)],[]⟩):=by
 intro f;induction f with
 | zero=>intro c4 c5 r h; cases h
 | succ f ih0 =>
  intro c4 c5 r h
  have ih:=fun (c4:Int) (c5:Int)=>ih0 c4 c5 r
  unfold Bp at h;refine Cl ?_;refine AF ?_;refine AT AD [(0,.st x0),(4,.j c4),(5,.j c5),(17,.b (decide (c5 < (x0.length:Int))))] [] ?_;refine AP (b:=(decide (c5 < (x0.length:Int)))) kr (fun hb6=>?_) (fun hb6=>?_)
  ·rw [if_pos hb6] at h
   refine AX ?_;refine AF ?_;refine A0 ?_;refine AF ?_;refine AF ?_;obtain ⟨v7,hv7,h⟩:=OB h;obtain ⟨j11,hj11,h⟩:=OB h;refine AI (s1:=⟨Fr 48 [(0,.st x0),(4,.j c4),(5,.j c5),(38,.b j11)],[]⟩) ?_ ?_
   ·refine AC (n:=48) AD 2 [(0,.st x0),(4,.j c4),(5,.j c5),(20,.st x0),(21,.j c5)] [] kr ?_
    refine AW AD 0 rfl (BY (AB rfl) rfl (D4 (a:= .st x0) (b:= .j c5) kr kr (DT (bs:=x0) (ki:= .i64) kr hv7))) ?_;refine AC (n:=48) AD 2 [(0,.st x0),(4,.j c4),(5,.j c5),(24,.b (decide ((v7.toNat:Int) < 48)))] [] kr ?_;rcases BE (decide ((v7.toNat:Int) < 48)) with hc16 | hc16
    ·rw [if_pos hc16] at hj11
     rw [hc16];refine AC (n:=48) AD 14 [(0,.st x0),(4,.j c4),(5,.j c5),(25,.tp []),(26,.tp []),(27,.tp []),(28,.tp []),(31,.tp []),(32,.tp []),(33,.tp []),(34,.tp []),(35,.tp []),(36,.tp []),(37,.tp []),(38,.b true)] [] kr ?_;have hq:=OI hj11; subst hq;exact AE rfl AM
    ·rw [BH hc16] at hj11
     rw [hc16];refine AC (n:=48) AD 2 [(0,.st x0),(4,.j c4),(5,.j c5),(24,.b false),(25,.st x0),(26,.j c5)] [] kr ?_;obtain ⟨v8,hv8,hj11⟩:=OB hj11;refine AW AD 0 rfl (BY kr rfl (D4 (a:= .st x0) (b:= .j c5) kr kr (DT (bs:=x0) (ki:= .i64) kr hv8))) ?_;refine AC (n:=48) AD 3 [(0,.st x0),(4,.j c4),(5,.j c5),(25,.st x0),(26,.j c5),(27,.v (.int .u8 (v8.toNat:Int))),(28,.b (decide ((v8.toNat:Int) > 57))),(30,.b (decide ((v8.toNat:Int) > 57)))] [] kr ?_;rcases BE (decide ((v8.toNat:Int) > 57)) with hc17 | hc17
     ·rw [if_pos hc17] at hj11
      rw [hc17];refine AC (n:=48) AD 8 [(0,.st x0),(4,.j c4),(5,.j c5),(25,.st x0),(26,.j c5),(27,.v (.int .u8 (v8.toNat:Int))),(28,.b true),(31,.tp []),(32,.tp []),(33,.tp []),(34,.tp []),(35,.tp []),(36,.tp []),(37,.tp []),(38,.b true)] [] kr ?_;have hq:=OI hj11; subst hq;exact AE rfl AM
     ·rw [BH hc17] at hj11
      rw [hc17];refine AC (n:=48) AD 3 [(0,.st x0),(4,.j c4),(5,.j c5),(25,.st x0),(26,.j c5),(27,.v (.int .u8 (v8.toNat:Int))),(28,.b false),(30,.b false),(31,.j c5),(32,.b (c5==1)),(33,.b (c5==1))] [] kr ?_;rcases BE (c5==1) with hc18 | hc18
      ·rw [if_pos hc18] at hj11
       rw [hc18];refine AC (n:=48) AD 1 [(0,.st x0),(4,.j c4),(5,.j c5),(25,.st x0),(26,.j c5),(27,.v (.int .u8 (v8.toNat:Int))),(28,.b false),(30,.b false),(31,.j c5),(32,.b true),(33,.b true),(34,.st x0)] [] kr ?_;obtain ⟨v9,hv9,hj11⟩:=OB hj11;refine AW AD 0 rfl (BY kr rfl (D4 (a:= .st x0) (b:= .j 0) kr kr (DT (bs:=x0) (ki:= .i64) kr hv9))) ?_;refine AC (n:=48) AD 3 [(0,.st x0),(4,.j c4),(5,.j c5),(25,.st x0),(26,.j c5),(27,.v (.int .u8 (v8.toNat:Int))),(28,.b false),(31,.j c5),(32,.b true),(33,.b true),(34,.st x0),(35,.v (.int .u8 (v9.toNat:Int))),(36,.b ((v9.toNat:Int)==48)),(37,.b ((v9.toNat:Int)==48)),(38,.b ((v9.toNat:Int)==48))] [] kr ?_;have hq:=OI hj11; subst hq;exact AE rfl AM
      ·rw [BH hc18] at hj11
       rw [hc18];refine AC (n:=48) AD 5 [(0,.st x0),(4,.j c4),(5,.j c5),(25,.st x0),(26,.j c5),(27,.v (.int .u8 (v8.toNat:Int))),(28,.b false),(31,.j c5),(32,.b false),(33,.b false),(34,.tp []),(35,.tp []),(36,.tp []),(37,.b false),(38,.b false)] [] kr ?_;have hq:=OI hj11; subst hq;exact AE rfl AM
   refine AP (b:=j11) kr (fun hb12=>?_) (fun hb12=>?_)
   ·rw [if_pos hb12] at h
    refine AT AD [(2,.j 0),(3,.b false)] [] ?_;refine AU ?_;have hq:=OI h; subst hq;exact ⟨rfl,AM⟩
   ·rw [BH hb12] at h
    refine AX ?_;obtain ⟨v15,hv15,h⟩:=OB h;refine AI (s1:=⟨Fr 48 [(0,.st x0),(4,.j (wr .i64 ((wr .i64 ((wr .i64 (10 * c4)) + (wr .i64 (v15.toNat:Int)))) - 48))),(5,.j c5)],[]⟩) ?_ ?_
    ·refine AC (n:=48) AD 4 [(0,.st x0),(5,.j c5),(40,.j (wr .i64 (10 * c4))),(41,.st x0),(42,.j c5)] [] kr ?_
     refine AW AD 0 rfl (BY (AB rfl) rfl (D4 (a:= .st x0) (b:= .j c5) kr kr (DT (bs:=x0) (ki:= .i64) kr hv15))) ?_;exact Ak AD
    refine DH AD [(0,.st x0),(4,.j (wr .i64 ((wr .i64 ((wr .i64 (10 * c4)) + (wr .i64 (v15.toNat:Int)))) - 48))),(5,.j (wr .i64 (c5 + 1)))] [] ?_;exact A9 (s1:=⟨Fr 48 [(0,.st x0),(4,.j (wr .i64 ((wr .i64 ((wr .i64 (10 * c4)) + (wr .i64 (v15.toNat:Int)))) - 48))),(5,.j (wr .i64 (c5 + 1)))],[]⟩) AM (ih (wr .i64 ((wr .i64 ((wr .i64 (10 * c4)) + (wr .i64 (v15.toNat:Int)))) - 48)) (wr .i64 (c5 + 1)) h)
  ·rw [BH hb6] at h
   refine DN ?_;have hq:=OI h; subst hq;exact ⟨rfl,AM⟩
theorem Ll (x0:(List UInt8)) (r:Int×Bool) (h:Ek x0=some r):Sem E0 ⟨none,false⟩ HE ⟨Fr 48 (BF 0 (HH.enc (x0,()))),[]⟩ fun e s'=>(e = .normal\/e = .ret)/\∃ xs,Dk E0.P s'.fr s'.hp Tryz.f84.results.toList=some xs/\EB xs=HM r:=by
 unfold Ek at h;refine Bm (Cg (s1:=⟨Fr 48 [(0,.st x0)],[]⟩) AM ?_);refine AT AD [(0,.st x0)] [] ?_;refine AF ?_;refine AF ?_;obtain ⟨j2,hj2,h⟩:=OB h;refine AI (s1:=⟨Fr 48 [(0,.st x0),(13,.b j2)],[]⟩) ?_ ?_
 ·refine AC (n:=48) AD 4 [(0,.st x0),(9,.b ((x0.length:Int)==0))] [] kr ?_
  rcases BE ((x0.length:Int)==0) with hc23 | hc23
  ·rw [if_pos hc23] at hj2
   rw [hc23];refine AC (n:=48) AD 4 [(0,.st x0),(13,.b true)] [] kr ?_;have hq:=OI hj2; subst hq;exact AE rfl AM
  ·rw [BH hc23] at hj2
   rw [hc23];refine AC (n:=48) AD 4 [(0,.st x0),(13,.b (decide ((x0.length:Int) > 9)))] [] kr ?_;have hq:=OI hj2; subst hq;exact AE rfl AM
 refine AP (b:=j2) kr (fun hb3=>?_) (fun hb3=>?_)
 ·rw [if_pos hb3] at h
  refine AT AD [(2,.j 0),(3,.b false)] [] ?_;refine AU ?_;have hq:=OI h; subst hq;exact ⟨⟨Fr 48 [(2,.j 0),(3,.b false)],[]⟩,AM,.inr rfl,[.j 0,.b false],kr,kr⟩
 ·rw [BH hb3] at h
  refine AX ?_;refine AT AD [(0,.st x0),(4,.j 0)] [] ?_;refine AF ?_;refine AT AD [(0,.st x0),(4,.j 0),(5,.j 0)] [] ?_;refine A0 ?_;obtain ⟨r20,hr20,h⟩:=OB h;refine DO (n:=100000) ?_;rcases r20 with w21 | w22
  ·try dsimp only at h
   refine BX (A9 (s1:=⟨Fr 48 [(0,.st x0),(4,.j 0),(5,.j 0)],[]⟩) AM (Ho x0 _ 0 0 _ hr20)) ?_;refine AT AD [(2,.j w21),(3,.b true)] [] ?_;refine AU ?_;have hq:=OI h; subst hq;exact ⟨⟨Fr 48 [(2,.j w21),(3,.b true)],[]⟩,AM,.inr rfl,[.j w21,.b true],kr,kr⟩
  ·try dsimp only at h
   refine BX (A9 (s1:=⟨Fr 48 [(0,.st x0),(4,.j 0),(5,.j 0)],[]⟩) AM (Ho x0 _ 0 0 _ hr20)) ?_;have hq:=OI h; subst hq;exact ⟨⟨Fr 48 [(2,.j w22.1),(3,.b w22.2)],[]⟩,AM,.inr rfl,[.j w22.1,.b w22.2],kr,kr⟩
def Nh:List AV->Option AV:=Ea HH (fun a=>Ek a.1) HM
theorem Nr:XOk 84 Nh:=by
 refine Ap Tryz.func84 (c:=HE) ?h2 ⟨Tryz.call84⟩ HH (fun a=>Ek a.1) HM (fun a=>(by show 1<=48; decide)) ?h3 ?h4
 case h2=>kernel_rfl
 case h3=>intro b; kernel_rfl
 case h4=>exact fun a b h=>Ll a.1 b h
end Go.Proofs.YtdjhmdbpcfnpgaaGreatDoor
