/- An evening with one table spoilt is told as it should be. -/
import Derived.Test.YtcmgmkepodbpkaaDoorEveningWrongM1
import Derived.Test.YtcmgmkepodbpkaaDoorEveningWrongM2
import Derived.Test.YtcmgmkepodbpkaaDoorEveningWrongM3
import Derived.Test.YtcmgmkepodbpkaaDoorEveningWrongM4
import Derived.Test.YtcmgmkepodbpkaaDoorEveningWrongM5
set_option maxHeartbeats 4000000
set_option maxRecDepth 100000
namespace Go.Proofs.YtcmgmkepodbpkaaDoor
open Go.RowKit
noncomputable def Ao:Code:=BK Tryd.f42
def BI (xs:List Int) (q:Int):Option (List Int):=match xs with
 | [k]=>if 1<=q/\q<=64 then some (List.replicate q.toNat k) else none
 | _=>none
def DM:Cs (List Int×Int×Unit):=csC (cdL 1 cdI) (csC cdI csN)
def CQ (r:List Int):AV:=(cdL 1 cdI).enc r
def Hm:List AV->Option AV:=GP DM (fun a=>BI a.1 a.2.1) CQ
def Bq (k q:Int):St:=⟨Fr 48 [(0,.sl 1 ([k].map cdI.enc)),(1,cdI.enc q)],[]⟩
theorem Wk.forget {E:Env}{n:Nat}{l:List (Nat×AV)}{hp:Hp}{fr:List (Option AV)}(hl:fr.length=n) (hg:Aj fr l=xs2 l):Wk E ⟨fr,hp⟩ ⟨Fr n l,hp⟩:=fun _ _ Z R _ sr=>⟨Z,R,sr.forget hl hg,StepW.refl _ _ _ _⟩
theorem Aa (k q:Int) (l:List Int) (h:((evC E0 4000 ⟨none,false⟩ Ao (Bq k q)).map fun p=>(p.1,p.2.fr.length,Aj p.2.fr [(4,AV.e0)],p.2.hp))=some (.ret,48,[some (some (.rf 0 0 l.length l.length))],[EG l])):Sem E0 ⟨none,false⟩ Ao (Bq k q) fun e s'=>(e = .normal\/e = .ret)/\∃ xs,FA E0.P s'.fr s'.hp Tryd.f42.results.toList=some xs/\FZ xs=CQ l:=by
 obtain ⟨⟨e,s'⟩,h1,h2⟩:=Option.map_eq_some_iff.1 h
 obtain ⟨fr,hp⟩:=s'
 simp only [Prod.mk.injEq] at h2
 obtain ⟨rfl,h3,h4,rfl⟩:=h2
 refine Bz (Ry BB (by kernel_rfl) h1 ?_)
 exact ⟨⟨Fr 48 [(4,.sl 1 (l.map cdI.enc))],[none]⟩,Wk.trans (s1:=⟨Fr 48 [(4,.rf 0 0 l.length l.length)],[EG l]⟩) (Wk.forget h3 h4) (FV 0 (.inl (by kernel_rfl)) ⟨.inl rfl,trivial⟩ ⟨⟨.rf 0 0 l.length l.length,(by kernel_rfl),Oo (c:=cdI) (xs:=l) (t:=3) (by kernel_rfl)⟩,trivial⟩),.inr rfl,[.sl 1 (l.map cdI.enc)],by kernel_rfl,by kernel_rfl⟩
theorem W5 (k:Int):((evC E0 4000 ⟨none,false⟩ Ao (Bq k 1)).map fun p=>(p.1,p.2.fr.length,Aj p.2.fr [(4,AV.e0)],p.2.hp))=some (.ret,48,[some (some (.rf 0 0 1 1))],[EG [k]]):=by kernel_rfl
theorem W6 (k:Int):((evC E0 4000 ⟨none,false⟩ Ao (Bq k 2)).map fun p=>(p.1,p.2.fr.length,Aj p.2.fr [(4,AV.e0)],p.2.hp))=some (.ret,48,[some (some (.rf 0 0 2 2))],[EG [k,k]]):=by kernel_rfl
theorem W7 (k:Int):((evC E0 4000 ⟨none,false⟩ Ao (Bq k 3)).map fun p=>(p.1,p.2.fr.length,Aj p.2.fr [(4,AV.e0)],p.2.hp))=some (.ret,48,[some (some (.rf 0 0 3 3))],[EG [k,k,k]]):=by kernel_rfl
theorem W8 (k:Int):((evC E0 4000 ⟨none,false⟩ Ao (Bq k 4)).map fun p=>(p.1,p.2.fr.length,Aj p.2.fr [(4,AV.e0)],p.2.hp))=some (.ret,48,[some (some (.rf 0 0 4 4))],[EG [k,k,k,k]]):=by kernel_rfl
theorem W9 (k:Int):((evC E0 4000 ⟨none,false⟩ Ao (Bq k 5)).map fun p=>(p.1,p.2.fr.length,Aj p.2.fr [(4,AV.e0)],p.2.hp))=some (.ret,48,[some (some (.rf 0 0 5 5))],[EG [k,k,k,k,k]]):=by kernel_rfl
theorem XA (k:Int):((evC E0 4000 ⟨none,false⟩ Ao (Bq k 6)).map fun p=>(p.1,p.2.fr.length,Aj p.2.fr [(4,AV.e0)],p.2.hp))=some (.ret,48,[some (some (.rf 0 0 6 6))],[EG [k,k,k,k,k,k]]):=by kernel_rfl
theorem XB (k:Int):((evC E0 4000 ⟨none,false⟩ Ao (Bq k 7)).map fun p=>(p.1,p.2.fr.length,Aj p.2.fr [(4,AV.e0)],p.2.hp))=some (.ret,48,[some (some (.rf 0 0 7 7))],[EG [k,k,k,k,k,k,k]]):=by kernel_rfl
theorem XC (k:Int):((evC E0 4000 ⟨none,false⟩ Ao (Bq k 8)).map fun p=>(p.1,p.2.fr.length,Aj p.2.fr [(4,AV.e0)],p.2.hp))=some (.ret,48,[some (some (.rf 0 0 8 8))],[EG [k,k,k,k,k,k,k,k]]):=by kernel_rfl
theorem XD (k:Int):((evC E0 4000 ⟨none,false⟩ Ao (Bq k 9)).map fun p=>(p.1,p.2.fr.length,Aj p.2.fr [(4,AV.e0)],p.2.hp))=some (.ret,48,[some (some (.rf 0 0 9 9))],[EG [k,k,k,k,k,k,k,k,k]]):=by kernel_rfl
theorem VL (k:Int):((evC E0 4000 ⟨none,false⟩ Ao (Bq k 10)).map fun p=>(p.1,p.2.fr.length,Aj p.2.fr [(4,AV.e0)],p.2.hp))=some (.ret,48,[some (some (.rf 0 0 10 10))],[EG [k,k,k,k,k,k,k,k,k,k]]):=by kernel_rfl
theorem VM (k:Int):((evC E0 4000 ⟨none,false⟩ Ao (Bq k 11)).map fun p=>(p.1,p.2.fr.length,Aj p.2.fr [(4,AV.e0)],p.2.hp))=some (.ret,48,[some (some (.rf 0 0 11 11))],[EG [k,k,k,k,k,k,k,k,k,k,k]]):=by kernel_rfl
theorem VN (k:Int):((evC E0 4000 ⟨none,false⟩ Ao (Bq k 12)).map fun p=>(p.1,p.2.fr.length,Aj p.2.fr [(4,AV.e0)],p.2.hp))=some (.ret,48,[some (some (.rf 0 0 12 12))],[EG [k,k,k,k,k,k,k,k,k,k,k,k]]):=by kernel_rfl
theorem VO (k:Int):((evC E0 4000 ⟨none,false⟩ Ao (Bq k 13)).map fun p=>(p.1,p.2.fr.length,Aj p.2.fr [(4,AV.e0)],p.2.hp))=some (.ret,48,[some (some (.rf 0 0 13 13))],[EG [k,k,k,k,k,k,k,k,k,k,k,k,k]]):=by kernel_rfl
theorem VP (k:Int):((evC E0 4000 ⟨none,false⟩ Ao (Bq k 14)).map fun p=>(p.1,p.2.fr.length,Aj p.2.fr [(4,AV.e0)],p.2.hp))=some (.ret,48,[some (some (.rf 0 0 14 14))],[EG [k,k,k,k,k,k,k,k,k,k,k,k,k,k]]):=by kernel_rfl
theorem VQ (k:Int):((evC E0 4000 ⟨none,false⟩ Ao (Bq k 15)).map fun p=>(p.1,p.2.fr.length,Aj p.2.fr [(4,AV.e0)],p.2.hp))=some (.ret,48,[some (some (.rf 0 0 15 15))],[EG [k,k,k,k,k,k,k,k,k,k,k,k,k,k,k]]):=by kernel_rfl
theorem VS (k:Int):((evC E0 4000 ⟨none,false⟩ Ao (Bq k 16)).map fun p=>(p.1,p.2.fr.length,Aj p.2.fr [(4,AV.e0)],p.2.hp))=some (.ret,48,[some (some (.rf 0 0 16 16))],[EG [k,k,k,k,k,k,k,k,k,k,k,k,k,k,k,k]]):=by kernel_rfl
theorem VT (k:Int):((evC E0 4000 ⟨none,false⟩ Ao (Bq k 17)).map fun p=>(p.1,p.2.fr.length,Aj p.2.fr [(4,AV.e0)],p.2.hp))=some (.ret,48,[some (some (.rf 0 0 17 17))],[EG [k,k,k,k,k,k,k,k,k,k,k,k,k,k,k,k,k]]):=by kernel_rfl
theorem VU (k:Int):((evC E0 4000 ⟨none,false⟩ Ao (Bq k 18)).map fun p=>(p.1,p.2.fr.length,Aj p.2.fr [(4,AV.e0)],p.2.hp))=some (.ret,48,[some (some (.rf 0 0 18 18))],[EG [k,k,k,k,k,k,k,k,k,k,k,k,k,k,k,k,k,k]]):=by kernel_rfl
theorem VV (k:Int):((evC E0 4000 ⟨none,false⟩ Ao (Bq k 19)).map fun p=>(p.1,p.2.fr.length,Aj p.2.fr [(4,AV.e0)],p.2.hp))=some (.ret,48,[some (some (.rf 0 0 19 19))],[EG [k,k,k,k,k,k,k,k,k,k,k,k,k,k,k,k,k,k,k]]):=by kernel_rfl
theorem VW (k:Int):((evC E0 4000 ⟨none,false⟩ Ao (Bq k 20)).map fun p=>(p.1,p.2.fr.length,Aj p.2.fr [(4,AV.e0)],p.2.hp))=some (.ret,48,[some (some (.rf 0 0 20 20))],[EG [k,k,k,k,k,k,k,k,k,k,k,k,k,k,k,k,k,k,k,k]]):=by kernel_rfl
theorem VX (k:Int):((evC E0 4000 ⟨none,false⟩ Ao (Bq k 21)).map fun p=>(p.1,p.2.fr.length,Aj p.2.fr [(4,AV.e0)],p.2.hp))=some (.ret,48,[some (some (.rf 0 0 21 21))],[EG [k,k,k,k,k,k,k,k,k,k,k,k,k,k,k,k,k,k,k,k,k]]):=by kernel_rfl
theorem VY (k:Int):((evC E0 4000 ⟨none,false⟩ Ao (Bq k 22)).map fun p=>(p.1,p.2.fr.length,Aj p.2.fr [(4,AV.e0)],p.2.hp))=some (.ret,48,[some (some (.rf 0 0 22 22))],[EG [k,k,k,k,k,k,k,k,k,k,k,k,k,k,k,k,k,k,k,k,k,k]]):=by kernel_rfl
theorem VZ (k:Int):((evC E0 4000 ⟨none,false⟩ Ao (Bq k 23)).map fun p=>(p.1,p.2.fr.length,Aj p.2.fr [(4,AV.e0)],p.2.hp))=some (.ret,48,[some (some (.rf 0 0 23 23))],[EG [k,k,k,k,k,k,k,k,k,k,k,k,k,k,k,k,k,k,k,k,k,k,k]]):=by kernel_rfl
theorem Va (k:Int):((evC E0 4000 ⟨none,false⟩ Ao (Bq k 24)).map fun p=>(p.1,p.2.fr.length,Aj p.2.fr [(4,AV.e0)],p.2.hp))=some (.ret,48,[some (some (.rf 0 0 24 24))],[EG [k,k,k,k,k,k,k,k,k,k,k,k,k,k,k,k,k,k,k,k,k,k,k,k]]):=by kernel_rfl
theorem Vb (k:Int):((evC E0 4000 ⟨none,false⟩ Ao (Bq k 25)).map fun p=>(p.1,p.2.fr.length,Aj p.2.fr [(4,AV.e0)],p.2.hp))=some (.ret,48,[some (some (.rf 0 0 25 25))],[EG [k,k,k,k,k,k,k,k,k,k,k,k,k,k,k,k,k,k,k,k,k,k,k,k,k]]):=by kernel_rfl
theorem Vc (k:Int):((evC E0 4000 ⟨none,false⟩ Ao (Bq k 26)).map fun p=>(p.1,p.2.fr.length,Aj p.2.fr [(4,AV.e0)],p.2.hp))=some (.ret,48,[some (some (.rf 0 0 26 26))],[EG [k,k,k,k,k,k,k,k,k,k,k,k,k,k,k,k,k,k,k,k,k,k,k,k,k,k]]):=by kernel_rfl
theorem Vd (k:Int):((evC E0 4000 ⟨none,false⟩ Ao (Bq k 27)).map fun p=>(p.1,p.2.fr.length,Aj p.2.fr [(4,AV.e0)],p.2.hp))=some (.ret,48,[some (some (.rf 0 0 27 27))],[EG [k,k,k,k,k,k,k,k,k,k,k,k,k,k,k,k,k,k,k,k,k,k,k,k,k,k,k]]):=by kernel_rfl
theorem Ve (k:Int):((evC E0 4000 ⟨none,false⟩ Ao (Bq k 28)).map fun p=>(p.1,p.2.fr.length,Aj p.2.fr [(4,AV.e0)],p.2.hp))=some (.ret,48,[some (some (.rf 0 0 28 28))],[EG [k,k,k,k,k,k,k,k,k,k,k,k,k,k,k,k,k,k,k,k,k,k,k,k,k,k,k,k]]):=by kernel_rfl
theorem Vf (k:Int):((evC E0 4000 ⟨none,false⟩ Ao (Bq k 29)).map fun p=>(p.1,p.2.fr.length,Aj p.2.fr [(4,AV.e0)],p.2.hp))=some (.ret,48,[some (some (.rf 0 0 29 29))],[EG [k,k,k,k,k,k,k,k,k,k,k,k,k,k,k,k,k,k,k,k,k,k,k,k,k,k,k,k,k]]):=by kernel_rfl
theorem Vg (k:Int):((evC E0 4000 ⟨none,false⟩ Ao (Bq k 30)).map fun p=>(p.1,p.2.fr.length,Aj p.2.fr [(4,AV.e0)],p.2.hp))=some (.ret,48,[some (some (.rf 0 0 30 30))],[EG [k,k,k,k,k,k,k,k,k,k,k,k,k,k,k,k,k,k,k,k,k,k,k,k,k,k,k,k,k,k]]):=by kernel_rfl
theorem Vh (k:Int):((evC E0 4000 ⟨none,false⟩ Ao (Bq k 31)).map fun p=>(p.1,p.2.fr.length,Aj p.2.fr [(4,AV.e0)],p.2.hp))=some (.ret,48,[some (some (.rf 0 0 31 31))],[EG [k,k,k,k,k,k,k,k,k,k,k,k,k,k,k,k,k,k,k,k,k,k,k,k,k,k,k,k,k,k,k]]):=by kernel_rfl
theorem Vi (k:Int):((evC E0 4000 ⟨none,false⟩ Ao (Bq k 32)).map fun p=>(p.1,p.2.fr.length,Aj p.2.fr [(4,AV.e0)],p.2.hp))=some (.ret,48,[some (some (.rf 0 0 32 32))],[EG [k,k,k,k,k,k,k,k,k,k,k,k,k,k,k,k,k,k,k,k,k,k,k,k,k,k,k,k,k,k,k,k]]):=by kernel_rfl
theorem Vj (k:Int):((evC E0 4000 ⟨none,false⟩ Ao (Bq k 33)).map fun p=>(p.1,p.2.fr.length,Aj p.2.fr [(4,AV.e0)],p.2.hp))=some (.ret,48,[some (some (.rf 0 0 33 33))],[EG [k,k,k,k,k,k,k,k,k,k,k,k,k,k,k,k,k,k,k,k,k,k,k,k,k,k,k,k,k,k,k,k,k]]):=by kernel_rfl
theorem Vk (k:Int):((evC E0 4000 ⟨none,false⟩ Ao (Bq k 34)).map fun p=>(p.1,p.2.fr.length,Aj p.2.fr [(4,AV.e0)],p.2.hp))=some (.ret,48,[some (some (.rf 0 0 34 34))],[EG [k,k,k,k,k,k,k,k,k,k,k,k,k,k,k,k,k,k,k,k,k,k,k,k,k,k,k,k,k,k,k,k,k,k]]):=by kernel_rfl
theorem Vl (k:Int):((evC E0 4000 ⟨none,false⟩ Ao (Bq k 35)).map fun p=>(p.1,p.2.fr.length,Aj p.2.fr [(4,AV.e0)],p.2.hp))=some (.ret,48,[some (some (.rf 0 0 35 35))],[EG [k,k,k,k,k,k,k,k,k,k,k,k,k,k,k,k,k,k,k,k,k,k,k,k,k,k,k,k,k,k,k,k,k,k,k]]):=by kernel_rfl
theorem Vm (k:Int):((evC E0 4000 ⟨none,false⟩ Ao (Bq k 36)).map fun p=>(p.1,p.2.fr.length,Aj p.2.fr [(4,AV.e0)],p.2.hp))=some (.ret,48,[some (some (.rf 0 0 36 36))],[EG [k,k,k,k,k,k,k,k,k,k,k,k,k,k,k,k,k,k,k,k,k,k,k,k,k,k,k,k,k,k,k,k,k,k,k,k]]):=by kernel_rfl
theorem Vn (k:Int):((evC E0 4000 ⟨none,false⟩ Ao (Bq k 37)).map fun p=>(p.1,p.2.fr.length,Aj p.2.fr [(4,AV.e0)],p.2.hp))=some (.ret,48,[some (some (.rf 0 0 37 37))],[EG [k,k,k,k,k,k,k,k,k,k,k,k,k,k,k,k,k,k,k,k,k,k,k,k,k,k,k,k,k,k,k,k,k,k,k,k,k]]):=by kernel_rfl
theorem Vo (k:Int):((evC E0 4000 ⟨none,false⟩ Ao (Bq k 38)).map fun p=>(p.1,p.2.fr.length,Aj p.2.fr [(4,AV.e0)],p.2.hp))=some (.ret,48,[some (some (.rf 0 0 38 38))],[EG [k,k,k,k,k,k,k,k,k,k,k,k,k,k,k,k,k,k,k,k,k,k,k,k,k,k,k,k,k,k,k,k,k,k,k,k,k,k]]):=by kernel_rfl
theorem Vp (k:Int):((evC E0 4000 ⟨none,false⟩ Ao (Bq k 39)).map fun p=>(p.1,p.2.fr.length,Aj p.2.fr [(4,AV.e0)],p.2.hp))=some (.ret,48,[some (some (.rf 0 0 39 39))],[EG [k,k,k,k,k,k,k,k,k,k,k,k,k,k,k,k,k,k,k,k,k,k,k,k,k,k,k,k,k,k,k,k,k,k,k,k,k,k,k]]):=by kernel_rfl
theorem Vq (k:Int):((evC E0 4000 ⟨none,false⟩ Ao (Bq k 40)).map fun p=>(p.1,p.2.fr.length,Aj p.2.fr [(4,AV.e0)],p.2.hp))=some (.ret,48,[some (some (.rf 0 0 40 40))],[EG [k,k,k,k,k,k,k,k,k,k,k,k,k,k,k,k,k,k,k,k,k,k,k,k,k,k,k,k,k,k,k,k,k,k,k,k,k,k,k,k]]):=by kernel_rfl
theorem Vr (k:Int):((evC E0 4000 ⟨none,false⟩ Ao (Bq k 41)).map fun p=>(p.1,p.2.fr.length,Aj p.2.fr [(4,AV.e0)],p.2.hp))=some (.ret,48,[some (some (.rf 0 0 41 41))],[EG [k,k,k,k,k,k,k,k,k,k,k,k,k,k,k,k,k,k,k,k,k,k,k,k,k,k,k,k,k,k,k,k,k,k,k,k,k,k,k,k,k]]):=by kernel_rfl
theorem Vs (k:Int):((evC E0 4000 ⟨none,false⟩ Ao (Bq k 42)).map fun p=>(p.1,p.2.fr.length,Aj p.2.fr [(4,AV.e0)],p.2.hp))=some (.ret,48,[some (some (.rf 0 0 42 42))],[EG [k,k,k,k,k,k,k,k,k,k,k,k,k,k,k,k,k,k,k,k,k,k,k,k,k,k,k,k,k,k,k,k,k,k,k,k,k,k,k,k,k,k]]):=by kernel_rfl
theorem Vt (k:Int):((evC E0 4000 ⟨none,false⟩ Ao (Bq k 43)).map fun p=>(p.1,p.2.fr.length,Aj p.2.fr [(4,AV.e0)],p.2.hp))=some (.ret,48,[some (some (.rf 0 0 43 43))],[EG [k,k,k,k,k,k,k,k,k,k,k,k,k,k,k,k,k,k,k,k,k,k,k,k,k,k,k,k,k,k,k,k,k,k,k,k,k,k,k,k,k,k,k]]):=by kernel_rfl
theorem Vu (k:Int):((evC E0 4000 ⟨none,false⟩ Ao (Bq k 44)).map fun p=>(p.1,p.2.fr.length,Aj p.2.fr [(4,AV.e0)],p.2.hp))=some (.ret,48,[some (some (.rf 0 0 44 44))],[EG [k,k,k,k,k,k,k,k,k,k,k,k,k,k,k,k,k,k,k,k,k,k,k,k,k,k,k,k,k,k,k,k,k,k,k,k,k,k,k,k,k,k,k,k]]):=by kernel_rfl
theorem Vv (k:Int):((evC E0 4000 ⟨none,false⟩ Ao (Bq k 45)).map fun p=>(p.1,p.2.fr.length,Aj p.2.fr [(4,AV.e0)],p.2.hp))=some (.ret,48,[some (some (.rf 0 0 45 45))],[EG [k,k,k,k,k,k,k,k,k,k,k,k,k,k,k,k,k,k,k,k,k,k,k,k,k,k,k,k,k,k,k,k,k,k,k,k,k,k,k,k,k,k,k,k,k]]):=by kernel_rfl
theorem Vw (k:Int):((evC E0 4000 ⟨none,false⟩ Ao (Bq k 46)).map fun p=>(p.1,p.2.fr.length,Aj p.2.fr [(4,AV.e0)],p.2.hp))=some (.ret,48,[some (some (.rf 0 0 46 46))],[EG [k,k,k,k,k,k,k,k,k,k,k,k,k,k,k,k,k,k,k,k,k,k,k,k,k,k,k,k,k,k,k,k,k,k,k,k,k,k,k,k,k,k,k,k,k,k]]):=by kernel_rfl
theorem Vx (k:Int):((evC E0 4000 ⟨none,false⟩ Ao (Bq k 47)).map fun p=>(p.1,p.2.fr.length,Aj p.2.fr [(4,AV.e0)],p.2.hp))=some (.ret,48,[some (some (.rf 0 0 47 47))],[EG [k,k,k,k,k,k,k,k,k,k,k,k,k,k,k,k,k,k,k,k,k,k,k,k,k,k,k,k,k,k,k,k,k,k,k,k,k,k,k,k,k,k,k,k,k,k,k]]):=by kernel_rfl
theorem Vy (k:Int):((evC E0 4000 ⟨none,false⟩ Ao (Bq k 48)).map fun p=>(p.1,p.2.fr.length,Aj p.2.fr [(4,AV.e0)],p.2.hp))=some (.ret,48,[some (some (.rf 0 0 48 48))],[EG [k,k,k,k,k,k,k,k,k,k,k,k,k,k,k,k,k,k,k,k,k,k,k,k,k,k,k,k,k,k,k,k,k,k,k,k,k,k,k,k,k,k,k,k,k,k,k,k]]):=by kernel_rfl
theorem Vz (k:Int):((evC E0 4000 ⟨none,false⟩ Ao (Bq k 49)).map fun p=>(p.1,p.2.fr.length,Aj p.2.fr [(4,AV.e0)],p.2.hp))=some (.ret,48,[some (some (.rf 0 0 49 49))],[EG [k,k,k,k,k,k,k,k,k,k,k,k,k,k,k,k,k,k,k,k,k,k,k,k,k,k,k,k,k,k,k,k,k,k,k,k,k,k,k,k,k,k,k,k,k,k,k,k,k]]):=by kernel_rfl
theorem V0 (k:Int):((evC E0 4000 ⟨none,false⟩ Ao (Bq k 50)).map fun p=>(p.1,p.2.fr.length,Aj p.2.fr [(4,AV.e0)],p.2.hp))=some (.ret,48,[some (some (.rf 0 0 50 50))],[EG [k,k,k,k,k,k,k,k,k,k,k,k,k,k,k,k,k,k,k,k,k,k,k,k,k,k,k,k,k,k,k,k,k,k,k,k,k,k,k,k,k,k,k,k,k,k,k,k,k,k]]):=by kernel_rfl
theorem V1 (k:Int):((evC E0 4000 ⟨none,false⟩ Ao (Bq k 51)).map fun p=>(p.1,p.2.fr.length,Aj p.2.fr [(4,AV.e0)],p.2.hp))=some (.ret,48,[some (some (.rf 0 0 51 51))],[EG [k,k,k,k,k,k,k,k,k,k,k,k,k,k,k,k,k,k,k,k,k,k,k,k,k,k,k,k,k,k,k,k,k,k,k,k,k,k,k,k,k,k,k,k,k,k,k,k,k,k,k]]):=by kernel_rfl
theorem V2 (k:Int):((evC E0 4000 ⟨none,false⟩ Ao (Bq k 52)).map fun p=>(p.1,p.2.fr.length,Aj p.2.fr [(4,AV.e0)],p.2.hp))=some (.ret,48,[some (some (.rf 0 0 52 52))],[EG [k,k,k,k,k,k,k,k,k,k,k,k,k,k,k,k,k,k,k,k,k,k,k,k,k,k,k,k,k,k,k,k,k,k,k,k,k,k,k,k,k,k,k,k,k,k,k,k,k,k,k,k]]):=by kernel_rfl
theorem V3 (k:Int):((evC E0 4000 ⟨none,false⟩ Ao (Bq k 53)).map fun p=>(p.1,p.2.fr.length,Aj p.2.fr [(4,AV.e0)],p.2.hp))=some (.ret,48,[some (some (.rf 0 0 53 53))],[EG [k,k,k,k,k,k,k,k,k,k,k,k,k,k,k,k,k,k,k,k,k,k,k,k,k,k,k,k,k,k,k,k,k,k,k,k,k,k,k,k,k,k,k,k,k,k,k,k,k,k,k,k,k]]):=by kernel_rfl
theorem V4 (k:Int):((evC E0 4000 ⟨none,false⟩ Ao (Bq k 54)).map fun p=>(p.1,p.2.fr.length,Aj p.2.fr [(4,AV.e0)],p.2.hp))=some (.ret,48,[some (some (.rf 0 0 54 54))],[EG [k,k,k,k,k,k,k,k,k,k,k,k,k,k,k,k,k,k,k,k,k,k,k,k,k,k,k,k,k,k,k,k,k,k,k,k,k,k,k,k,k,k,k,k,k,k,k,k,k,k,k,k,k,k]]):=by kernel_rfl
theorem V5 (k:Int):((evC E0 4000 ⟨none,false⟩ Ao (Bq k 55)).map fun p=>(p.1,p.2.fr.length,Aj p.2.fr [(4,AV.e0)],p.2.hp))=some (.ret,48,[some (some (.rf 0 0 55 55))],[EG [k,k,k,k,k,k,k,k,k,k,k,k,k,k,k,k,k,k,k,k,k,k,k,k,k,k,k,k,k,k,k,k,k,k,k,k,k,k,k,k,k,k,k,k,k,k,k,k,k,k,k,k,k,k,k]]):=by kernel_rfl
theorem V6 (k:Int):((evC E0 4000 ⟨none,false⟩ Ao (Bq k 56)).map fun p=>(p.1,p.2.fr.length,Aj p.2.fr [(4,AV.e0)],p.2.hp))=some (.ret,48,[some (some (.rf 0 0 56 56))],[EG [k,k,k,k,k,k,k,k,k,k,k,k,k,k,k,k,k,k,k,k,k,k,k,k,k,k,k,k,k,k,k,k,k,k,k,k,k,k,k,k,k,k,k,k,k,k,k,k,k,k,k,k,k,k,k,k]]):=by kernel_rfl
theorem V7 (k:Int):((evC E0 4000 ⟨none,false⟩ Ao (Bq k 57)).map fun p=>(p.1,p.2.fr.length,Aj p.2.fr [(4,AV.e0)],p.2.hp))=some (.ret,48,[some (some (.rf 0 0 57 57))],[EG [k,k,k,k,k,k,k,k,k,k,k,k,k,k,k,k,k,k,k,k,k,k,k,k,k,k,k,k,k,k,k,k,k,k,k,k,k,k,k,k,k,k,k,k,k,k,k,k,k,k,k,k,k,k,k,k,k]]):=by kernel_rfl
theorem V8 (k:Int):((evC E0 4000 ⟨none,false⟩ Ao (Bq k 58)).map fun p=>(p.1,p.2.fr.length,Aj p.2.fr [(4,AV.e0)],p.2.hp))=some (.ret,48,[some (some (.rf 0 0 58 58))],[EG [k,k,k,k,k,k,k,k,k,k,k,k,k,k,k,k,k,k,k,k,k,k,k,k,k,k,k,k,k,k,k,k,k,k,k,k,k,k,k,k,k,k,k,k,k,k,k,k,k,k,k,k,k,k,k,k,k,k]]):=by kernel_rfl
theorem V9 (k:Int):((evC E0 4000 ⟨none,false⟩ Ao (Bq k 59)).map fun p=>(p.1,p.2.fr.length,Aj p.2.fr [(4,AV.e0)],p.2.hp))=some (.ret,48,[some (some (.rf 0 0 59 59))],[EG [k,k,k,k,k,k,k,k,k,k,k,k,k,k,k,k,k,k,k,k,k,k,k,k,k,k,k,k,k,k,k,k,k,k,k,k,k,k,k,k,k,k,k,k,k,k,k,k,k,k,k,k,k,k,k,k,k,k,k]]):=by kernel_rfl
theorem WA (k:Int):((evC E0 4000 ⟨none,false⟩ Ao (Bq k 60)).map fun p=>(p.1,p.2.fr.length,Aj p.2.fr [(4,AV.e0)],p.2.hp))=some (.ret,48,[some (some (.rf 0 0 60 60))],[EG [k,k,k,k,k,k,k,k,k,k,k,k,k,k,k,k,k,k,k,k,k,k,k,k,k,k,k,k,k,k,k,k,k,k,k,k,k,k,k,k,k,k,k,k,k,k,k,k,k,k,k,k,k,k,k,k,k,k,k,k]]):=by kernel_rfl
theorem WB (k:Int):((evC E0 4000 ⟨none,false⟩ Ao (Bq k 61)).map fun p=>(p.1,p.2.fr.length,Aj p.2.fr [(4,AV.e0)],p.2.hp))=some (.ret,48,[some (some (.rf 0 0 61 61))],[EG [k,k,k,k,k,k,k,k,k,k,k,k,k,k,k,k,k,k,k,k,k,k,k,k,k,k,k,k,k,k,k,k,k,k,k,k,k,k,k,k,k,k,k,k,k,k,k,k,k,k,k,k,k,k,k,k,k,k,k,k,k]]):=by kernel_rfl
theorem WD (k:Int):((evC E0 4000 ⟨none,false⟩ Ao (Bq k 62)).map fun p=>(p.1,p.2.fr.length,Aj p.2.fr [(4,AV.e0)],p.2.hp))=some (.ret,48,[some (some (.rf 0 0 62 62))],[EG [k,k,k,k,k,k,k,k,k,k,k,k,k,k,k,k,k,k,k,k,k,k,k,k,k,k,k,k,k,k,k,k,k,k,k,k,k,k,k,k,k,k,k,k,k,k,k,k,k,k,k,k,k,k,k,k,k,k,k,k,k,k]]):=by kernel_rfl
theorem WE (k:Int):((evC E0 4000 ⟨none,false⟩ Ao (Bq k 63)).map fun p=>(p.1,p.2.fr.length,Aj p.2.fr [(4,AV.e0)],p.2.hp))=some (.ret,48,[some (some (.rf 0 0 63 63))],[EG [k,k,k,k,k,k,k,k,k,k,k,k,k,k,k,k,k,k,k,k,k,k,k,k,k,k,k,k,k,k,k,k,k,k,k,k,k,k,k,k,k,k,k,k,k,k,k,k,k,k,k,k,k,k,k,k,k,k,k,k,k,k,k]]):=by kernel_rfl
theorem WF (k:Int):((evC E0 4000 ⟨none,false⟩ Ao (Bq k 64)).map fun p=>(p.1,p.2.fr.length,Aj p.2.fr [(4,AV.e0)],p.2.hp))=some (.ret,48,[some (some (.rf 0 0 64 64))],[EG [k,k,k,k,k,k,k,k,k,k,k,k,k,k,k,k,k,k,k,k,k,k,k,k,k,k,k,k,k,k,k,k,k,k,k,k,k,k,k,k,k,k,k,k,k,k,k,k,k,k,k,k,k,k,k,k,k,k,k,k,k,k,k,k]]):=by kernel_rfl
theorem Hn:XOk 42 Hm:=by
 refine EnvOk.x (E:=E0) (Af BB (fn:=Tryd.f42) (c:=Ao) ?h1 ?h2 ⟨Tryd.call42⟩ DM (fun a=>BI a.1 a.2.1) CQ (fun a=>(by show 2<=48; decide)) ?h3 ?h4) rfl rfl
 case h1=>kernel_rfl
 case h2=>kernel_rfl
 case h3=>intro b; kernel_rfl
 case h4 =>
  rintro ⟨xs,q,u⟩ r h0
  have h:BI xs q=some r:=h0
  clear h0
  unfold BI at h
  split at h
  ·next k =>
   split at h
   ·next hq =>
    injection h with h
    subst h
    have hq:q=1\/q=2\/q=3\/q=4\/q=5\/q=6\/q=7\/q=8\/q=9\/q=10\/q=11\/q=12\/q=13\/q=14\/q=15\/q=16\/q=17\/q=18\/q=19\/q=20\/q=21\/q=22\/q=23\/q=24\/q=25\/q=26\/q=27\/q=28\/q=29\/q=30\/q=31\/q=32\/q=33\/q=34\/q=35\/q=36\/q=37\/q=38\/q=39\/q=40\/q=41\/q=42\/q=43\/q=44\/q=45\/q=46\/q=47\/q=48\/q=49\/q=50\/q=51\/q=52\/q=53\/q=54\/q=55\/q=56\/q=57\/q=58\/q=59\/q=60\/q=61\/q=62\/q=63\/q=64:=by omega
    rcases hq with rfl | rfl | rfl | rfl | rfl | rfl | rfl | rfl | rfl | rfl | rfl | rfl | rfl | rfl | rfl | rfl | rfl | rfl | rfl | rfl | rfl | rfl | rfl | rfl | rfl | rfl | rfl | rfl | rfl | rfl | rfl | rfl | rfl | rfl | rfl | rfl | rfl | rfl | rfl | rfl | rfl | rfl | rfl | rfl | rfl | rfl | rfl | rfl | rfl | rfl | rfl | rfl | rfl | rfl | rfl | rfl | rfl | rfl | rfl | rfl | rfl | rfl | rfl | rfl
    ·exact Aa k 1 [k] (W5 k)
    ·exact Aa k 2 [k,k] (W6 k)
    ·exact Aa k 3 [k,k,k] (W7 k)
    ·exact Aa k 4 [k,k,k,k] (W8 k)
    ·exact Aa k 5 [k,k,k,k,k] (W9 k)
    ·exact Aa k 6 [k,k,k,k,k,k] (XA k)
    ·exact Aa k 7 [k,k,k,k,k,k,k] (XB k)
    ·exact Aa k 8 [k,k,k,k,k,k,k,k] (XC k)
    ·exact Aa k 9 [k,k,k,k,k,k,k,k,k] (XD k)
    ·exact Aa k 10 [k,k,k,k,k,k,k,k,k,k] (VL k)
    ·exact Aa k 11 [k,k,k,k,k,k,k,k,k,k,k] (VM k)
    ·exact Aa k 12 [k,k,k,k,k,k,k,k,k,k,k,k] (VN k)
    ·exact Aa k 13 [k,k,k,k,k,k,k,k,k,k,k,k,k] (VO k)
    ·exact Aa k 14 [k,k,k,k,k,k,k,k,k,k,k,k,k,k] (VP k)
    ·exact Aa k 15 [k,k,k,k,k,k,k,k,k,k,k,k,k,k,k] (VQ k)
    ·exact Aa k 16 [k,k,k,k,k,k,k,k,k,k,k,k,k,k,k,k] (VS k)
    ·exact Aa k 17 [k,k,k,k,k,k,k,k,k,k,k,k,k,k,k,k,k] (VT k)
    ·exact Aa k 18 [k,k,k,k,k,k,k,k,k,k,k,k,k,k,k,k,k,k] (VU k)
    ·exact Aa k 19 [k,k,k,k,k,k,k,k,k,k,k,k,k,k,k,k,k,k,k] (VV k)
    ·exact Aa k 20 [k,k,k,k,k,k,k,k,k,k,k,k,k,k,k,k,k,k,k,k] (VW k)
    ·exact Aa k 21 [k,k,k,k,k,k,k,k,k,k,k,k,k,k,k,k,k,k,k,k,k] (VX k)
    ·exact Aa k 22 [k,k,k,k,k,k,k,k,k,k,k,k,k,k,k,k,k,k,k,k,k,k] (VY k)
    ·exact Aa k 23 [k,k,k,k,k,k,k,k,k,k,k,k,k,k,k,k,k,k,k,k,k,k,k] (VZ k)
    ·exact Aa k 24 [k,k,k,k,k,k,k,k,k,k,k,k,k,k,k,k,k,k,k,k,k,k,k,k] (Va k)
    ·exact Aa k 25 [k,k,k,k,k,k,k,k,k,k,k,k,k,k,k,k,k,k,k,k,k,k,k,k,k] (Vb k)
    ·exact Aa k 26 [k,k,k,k,k,k,k,k,k,k,k,k,k,k,k,k,k,k,k,k,k,k,k,k,k,k] (Vc k)
    ·exact Aa k 27 [k,k,k,k,k,k,k,k,k,k,k,k,k,k,k,k,k,k,k,k,k,k,k,k,k,k,k] (Vd k)
    ·exact Aa k 28 [k,k,k,k,k,k,k,k,k,k,k,k,k,k,k,k,k,k,k,k,k,k,k,k,k,k,k,k] (Ve k)
    ·exact Aa k 29 [k,k,k,k,k,k,k,k,k,k,k,k,k,k,k,k,k,k,k,k,k,k,k,k,k,k,k,k,k] (Vf k)
    ·exact Aa k 30 [k,k,k,k,k,k,k,k,k,k,k,k,k,k,k,k,k,k,k,k,k,k,k,k,k,k,k,k,k,k] (Vg k)
    ·exact Aa k 31 [k,k,k,k,k,k,k,k,k,k,k,k,k,k,k,k,k,k,k,k,k,k,k,k,k,k,k,k,k,k,k] (Vh k)
    ·exact Aa k 32 [k,k,k,k,k,k,k,k,k,k,k,k,k,k,k,k,k,k,k,k,k,k,k,k,k,k,k,k,k,k,k,k] (Vi k)
    ·exact Aa k 33 [k,k,k,k,k,k,k,k,k,k,k,k,k,k,k,k,k,k,k,k,k,k,k,k,k,k,k,k,k,k,k,k,k] (Vj k)
    ·exact Aa k 34 [k,k,k,k,k,k,k,k,k,k,k,k,k,k,k,k,k,k,k,k,k,k,k,k,k,k,k,k,k,k,k,k,k,k] (Vk k)
    ·exact Aa k 35 [k,k,k,k,k,k,k,k,k,k,k,k,k,k,k,k,k,k,k,k,k,k,k,k,k,k,k,k,k,k,k,k,k,k,k] (Vl k)
    ·exact Aa k 36 [k,k,k,k,k,k,k,k,k,k,k,k,k,k,k,k,k,k,k,k,k,k,k,k,k,k,k,k,k,k,k,k,k,k,k,k] (Vm k)
    ·exact Aa k 37 [k,k,k,k,k,k,k,k,k,k,k,k,k,k,k,k,k,k,k,k,k,k,k,k,k,k,k,k,k,k,k,k,k,k,k,k,k] (Vn k)
    ·exact Aa k 38 [k,k,k,k,k,k,k,k,k,k,k,k,k,k,k,k,k,k,k,k,k,k,k,k,k,k,k,k,k,k,k,k,k,k,k,k,k,k] (Vo k)
    ·exact Aa k 39 [k,k,k,k,k,k,k,k,k,k,k,k,k,k,k,k,k,k,k,k,k,k,k,k,k,k,k,k,k,k,k,k,k,k,k,k,k,k,k] (Vp k)
    ·exact Aa k 40 [k,k,k,k,k,k,k,k,k,k,k,k,k,k,k,k,k,k,k,k,k,k,k,k,k,k,k,k,k,k,k,k,k,k,k,k,k,k,k,k] (Vq k)
    ·exact Aa k 41 [k,k,k,k,k,k,k,k,k,k,k,k,k,k,k,k,k,k,k,k,k,k,k,k,k,k,k,k,k,k,k,k,k,k,k,k,k,k,k,k,k] (Vr k)
    ·exact Aa k 42 [k,k,k,k,k,k,k,k,k,k,k,k,k,k,k,k,k,k,k,k,k,k,k,k,k,k,k,k,k,k,k,k,k,k,k,k,k,k,k,k,k,k] (Vs k)
    ·exact Aa k 43 [k,k,k,k,k,k,k,k,k,k,k,k,k,k,k,k,k,k,k,k,k,k,k,k,k,k,k,k,k,k,k,k,k,k,k,k,k,k,k,k,k,k,k] (Vt k)
    ·exact Aa k 44 [k,k,k,k,k,k,k,k,k,k,k,k,k,k,k,k,k,k,k,k,k,k,k,k,k,k,k,k,k,k,k,k,k,k,k,k,k,k,k,k,k,k,k,k] (Vu k)
    ·exact Aa k 45 [k,k,k,k,k,k,k,k,k,k,k,k,k,k,k,k,k,k,k,k,k,k,k,k,k,k,k,k,k,k,k,k,k,k,k,k,k,k,k,k,k,k,k,k,k] (Vv k)
    ·exact Aa k 46 [k,k,k,k,k,k,k,k,k,k,k,k,k,k,k,k,k,k,k,k,k,k,k,k,k,k,k,k,k,k,k,k,k,k,k,k,k,k,k,k,k,k,k,k,k,k] (Vw k)
    ·exact Aa k 47 [k,k,k,k,k,k,k,k,k,k,k,k,k,k,k,k,k,k,k,k,k,k,k,k,k,k,k,k,k,k,k,k,k,k,k,k,k,k,k,k,k,k,k,k,k,k,k] (Vx k)
    ·exact Aa k 48 [k,k,k,k,k,k,k,k,k,k,k,k,k,k,k,k,k,k,k,k,k,k,k,k,k,k,k,k,k,k,k,k,k,k,k,k,k,k,k,k,k,k,k,k,k,k,k,k] (Vy k)
    ·exact Aa k 49 [k,k,k,k,k,k,k,k,k,k,k,k,k,k,k,k,k,k,k,k,k,k,k,k,k,k,k,k,k,k,k,k,k,k,k,k,k,k,k,k,k,k,k,k,k,k,k,k,k] (Vz k)
    ·exact Aa k 50 [k,k,k,k,k,k,k,k,k,k,k,k,k,k,k,k,k,k,k,k,k,k,k,k,k,k,k,k,k,k,k,k,k,k,k,k,k,k,k,k,k,k,k,k,k,k,k,k,k,k] (V0 k)
    ·exact Aa k 51 [k,k,k,k,k,k,k,k,k,k,k,k,k,k,k,k,k,k,k,k,k,k,k,k,k,k,k,k,k,k,k,k,k,k,k,k,k,k,k,k,k,k,k,k,k,k,k,k,k,k,k] (V1 k)
    ·exact Aa k 52 [k,k,k,k,k,k,k,k,k,k,k,k,k,k,k,k,k,k,k,k,k,k,k,k,k,k,k,k,k,k,k,k,k,k,k,k,k,k,k,k,k,k,k,k,k,k,k,k,k,k,k,k] (V2 k)
    ·exact Aa k 53 [k,k,k,k,k,k,k,k,k,k,k,k,k,k,k,k,k,k,k,k,k,k,k,k,k,k,k,k,k,k,k,k,k,k,k,k,k,k,k,k,k,k,k,k,k,k,k,k,k,k,k,k,k] (V3 k)
    ·exact Aa k 54 [k,k,k,k,k,k,k,k,k,k,k,k,k,k,k,k,k,k,k,k,k,k,k,k,k,k,k,k,k,k,k,k,k,k,k,k,k,k,k,k,k,k,k,k,k,k,k,k,k,k,k,k,k,k] (V4 k)
    ·exact Aa k 55 [k,k,k,k,k,k,k,k,k,k,k,k,k,k,k,k,k,k,k,k,k,k,k,k,k,k,k,k,k,k,k,k,k,k,k,k,k,k,k,k,k,k,k,k,k,k,k,k,k,k,k,k,k,k,k] (V5 k)
    ·exact Aa k 56 [k,k,k,k,k,k,k,k,k,k,k,k,k,k,k,k,k,k,k,k,k,k,k,k,k,k,k,k,k,k,k,k,k,k,k,k,k,k,k,k,k,k,k,k,k,k,k,k,k,k,k,k,k,k,k,k] (V6 k)
    ·exact Aa k 57 [k,k,k,k,k,k,k,k,k,k,k,k,k,k,k,k,k,k,k,k,k,k,k,k,k,k,k,k,k,k,k,k,k,k,k,k,k,k,k,k,k,k,k,k,k,k,k,k,k,k,k,k,k,k,k,k,k] (V7 k)
    ·exact Aa k 58 [k,k,k,k,k,k,k,k,k,k,k,k,k,k,k,k,k,k,k,k,k,k,k,k,k,k,k,k,k,k,k,k,k,k,k,k,k,k,k,k,k,k,k,k,k,k,k,k,k,k,k,k,k,k,k,k,k,k] (V8 k)
    ·exact Aa k 59 [k,k,k,k,k,k,k,k,k,k,k,k,k,k,k,k,k,k,k,k,k,k,k,k,k,k,k,k,k,k,k,k,k,k,k,k,k,k,k,k,k,k,k,k,k,k,k,k,k,k,k,k,k,k,k,k,k,k,k] (V9 k)
    ·exact Aa k 60 [k,k,k,k,k,k,k,k,k,k,k,k,k,k,k,k,k,k,k,k,k,k,k,k,k,k,k,k,k,k,k,k,k,k,k,k,k,k,k,k,k,k,k,k,k,k,k,k,k,k,k,k,k,k,k,k,k,k,k,k] (WA k)
    ·exact Aa k 61 [k,k,k,k,k,k,k,k,k,k,k,k,k,k,k,k,k,k,k,k,k,k,k,k,k,k,k,k,k,k,k,k,k,k,k,k,k,k,k,k,k,k,k,k,k,k,k,k,k,k,k,k,k,k,k,k,k,k,k,k,k] (WB k)
    ·exact Aa k 62 [k,k,k,k,k,k,k,k,k,k,k,k,k,k,k,k,k,k,k,k,k,k,k,k,k,k,k,k,k,k,k,k,k,k,k,k,k,k,k,k,k,k,k,k,k,k,k,k,k,k,k,k,k,k,k,k,k,k,k,k,k,k] (WD k)
    ·exact Aa k 63 [k,k,k,k,k,k,k,k,k,k,k,k,k,k,k,k,k,k,k,k,k,k,k,k,k,k,k,k,k,k,k,k,k,k,k,k,k,k,k,k,k,k,k,k,k,k,k,k,k,k,k,k,k,k,k,k,k,k,k,k,k,k,k] (WE k)
    ·exact Aa k 64 [k,k,k,k,k,k,k,k,k,k,k,k,k,k,k,k,k,k,k,k,k,k,k,k,k,k,k,k,k,k,k,k,k,k,k,k,k,k,k,k,k,k,k,k,k,k,k,k,k,k,k,k,k,k,k,k,k,k,k,k,k,k,k,k] (WF k)
   ·cases h
  ·cases h
/- trestle/trestlekit.SameInts -/
noncomputable def Dq:Env:=E0
theorem HI:EnvOk Dq:=BB
noncomputable def IM:Code:=BK Tryd.f43
def CZ (x0:(List Int)) (x1:(List Int)):Nat->Int->Option ((Unit) ⊕ (Bool))
 | 0,_=>none
 | f + 1,c2 =>
  if (decide (c2 < (x0.length:Int)))=true then
  (idx x0 c2).bind fun v4 =>
  (idx x1 c2).bind fun v5 =>
  if (v4 != v5)=true then
  some (.inr false)
  else
  CZ x0 x1 f (wr .i64 (c2 + 1))
  else
  some (.inl ())
def EN (x0:(List Int)) (x1:(List Int)):Option (Bool) :=
 if ((x0.length:Int)!=(x1.length:Int))=true then
 some false
 else
 (CZ x0 x1 100000 0).bind fun r8 =>
 match r8 with
 | (.inl w9) =>
  some true
 | (.inr w10) =>
  some w10
def GW:Cs ((List Int)×(List Int)×Unit):=(csC (cdL 1 cdI) (csC (cdL 1 cdI) csN))
def Gf (r:Bool):AV:=cdB.enc r
theorem JG (x0:(List Int)) (x1:(List Int)):∀ (f:Nat) (c2:Int) (r:(Unit) ⊕ (Bool)),CZ x0 x1 f c2=some r->SemN Dq ⟨none,false⟩ (pc IM [1,1,0,1,0,0]) f ⟨Fr 26 [(0,.sl 1 (x0.map cdI.enc)),(1,.sl 1 (x1.map cdI.enc)),(5,.v (.int .i64 c2))],[]⟩ (fun e s=>match r with
 | (.inl w)=>e=(.exit 0)/\Wk Dq s ⟨Fr 26 [],[]⟩
 | (.inr w)=>e = .ret/\Wk Dq s ⟨Fr 26 [(4,.v (.bool w))],[]⟩):=by
 have he:=HI
 intro f;induction f with
 | zero=>intro c2 r h; cases h
 | succ f ih0 =>
  intro c2 r h
  have ih:=fun (c2:Int)=>ih0 c2 r
  unfold CZ at h;refine BJ ?_;refine AE ?_;refine AE ?_
  let p1:Nat×AV:=(5,.v (.int .i64 c2))
  let p2:Nat×AV:=(1,.sl 1 (x1.map cdI.enc))
  let p3:Nat×AV:=(0,.sl 1 (x0.map cdI.enc))
  refine AI (s1:=⟨Fr 26 [p3,p2,p1,(14,.v (.bool (decide (c2 < (x0.length:Int)))))],[]⟩) ?_ ?_
  ·refine AB (n:=26) he 2 [p3,p2,p1,(11,.v (.int .i64 c2)),(12,.sl 1 (x0.map cdI.enc))] [] kr ?_
   refine AJ he 0 rfl (Am (AA rfl) rfl (BZ (a:= .sl 1 (x0.map cdI.enc)) kr (Aw (el:=3) kr))) ?_;exact AK he
  refine AU (b:=(decide (c2 < (x0.length:Int)))) kr (fun hb3=>?_) (fun hb3=>?_)
  ·rw [if_pos hb3] at h
   refine AX ?_;refine AE ?_;refine AQ ?_;refine AE ?_;obtain ⟨v4,hv4,h⟩:=OB h;obtain ⟨v5,hv5,h⟩:=OB h;refine I3 he (s1:=⟨Fr 26 [p3,p2,p1,(25,.v (.bool (v4 != v5)))],[]⟩) kr ?_ ?_
   ·refine B3 (n:=26) he 2 [p3,p2,p1,(17,.sl 1 (x0.map cdI.enc)),(18,.v (.int .i64 c2))] [] kr kr ?_
    refine RunDS.one he rfl kr (Kg kr (AA rfl) rfl (AF (a:= .sl 1 (x0.map cdI.enc)) (b:= .v (.int .i64 c2)) kr kr (DT (e:=cdI.enc) (el:=3) (k:=1) (ki:= .i64) kr kr hv4)) kr) ?_;refine B3 (n:=26) he 3 [p3,p2,p1,(20,.v (.int .i64 v4)),(21,.sl 1 (x1.map cdI.enc)),(22,.v (.int .i64 c2))] [] kr kr ?_;refine RunDS.one he rfl kr (Kg kr (AA rfl) rfl (AF (a:= .sl 1 (x1.map cdI.enc)) (b:= .v (.int .i64 c2)) kr kr (DT (e:=cdI.enc) (el:=3) (k:=1) (ki:= .i64) kr kr hv5)) kr) ?_;refine B3 (n:=26) he 2 [p3,p2,p1,(25,.v (.bool (v4 != v5)))] [] kr kr ?_;exact RunDS.done rfl Ah
   refine AU (b:=(v4 != v5)) kr (fun hb6=>?_) (fun hb6=>?_)
   ·rw [if_pos hb6] at h
    refine AN he [(4,.v (.bool false))] [] ?_;refine An ?_;have hq:=OI h; subst hq;exact ⟨rfl,Ah⟩
   ·rw [B9 hb6] at h
    refine AX ?_
    let p4:Nat×AV:=(5,.v (.int .i64 (wr .i64 (c2 + 1))))
    refine Cq he [p3,p2,p4] [] ?_;exact Ae (s1:=⟨Fr 26 [p3,p2,p4],[]⟩) Ah (ih (wr .i64 (c2 + 1)) h)
  ·rw [B9 hb3] at h
   refine Ba ?_;have hq:=OI h; subst hq;exact ⟨rfl,Ah⟩
theorem NG (x0:(List Int)) (x1:(List Int)) (r:Bool) (h:EN x0 x1=some r):Sem Dq ⟨none,false⟩ IM ⟨Fr 26 (Av 0 (GW.enc (x0,x1,()))),[]⟩ fun e s'=>(e = .normal\/e = .ret)/\∃ xs,FA Dq.P s'.fr s'.hp Tryd.f43.results.toList=some xs/\FZ xs=Gf r:=by
 have he:=HI
 unfold EN at h
 let p1:Nat×AV:=(1,.sl 1 (x1.map cdI.enc))
 let p2:Nat×AV:=(0,.sl 1 (x0.map cdI.enc))
 refine Bz (DX (s1:=⟨Fr 26 [p2,p1],[]⟩) Ah ?_);refine AN he [p2,p1] [] ?_;refine AE ?_;refine AE ?_;refine AI (s1:=⟨Fr 26 [p2,p1,(10,.v (.bool ((x0.length:Int)!=(x1.length:Int))))],[]⟩) ?_ ?_
 ·refine AB (n:=26) he 1 [p2,p1,(6,.sl 1 (x0.map cdI.enc))] [] kr ?_
  refine AJ he 0 rfl (Am (AA rfl) rfl (BZ (a:= .sl 1 (x0.map cdI.enc)) kr (Aw (el:=3) kr))) ?_;refine AB (n:=26) he 1 [p2,p1,(7,.v (.int .i64 (x0.length:Int))),(8,.sl 1 (x1.map cdI.enc))] [] kr ?_;refine AJ he 0 rfl (Am (AA rfl) rfl (BZ (a:= .sl 1 (x1.map cdI.enc)) kr (Aw (el:=3) kr))) ?_;exact AK he
 refine AU (b:=((x0.length:Int)!=(x1.length:Int))) kr (fun hb1=>?_) (fun hb1=>?_)
 ·rw [if_pos hb1] at h
  refine AN he [(4,.v (.bool false))] [] ?_;refine An ?_;have hq:=OI h; subst hq;exact ⟨⟨Fr 26 [(4,.v (.bool false))],[]⟩,Ah,.inr rfl,[.v (.bool false)],kr,kr⟩
 ·rw [B9 hb1] at h
  refine AX ?_;refine AE ?_
  let p3:Nat×AV:=(5,.v (.int .i64 0))
  refine AN he [p2,p1,p3] [] ?_;refine AQ ?_;obtain ⟨r8,hr8,h⟩:=OB h;refine Bm (n:=100000) ?_;rcases r8 with w9 | w10
  ·try dsimp only at h
   refine BD (Ae (s1:=⟨Fr 26 [p2,p1,p3],[]⟩) Ah (JG x0 x1 _ 0 _ hr8)) ?_;refine AN he [(4,.v (.bool true))] [] ?_;refine An ?_;have hq:=OI h; subst hq;exact ⟨⟨Fr 26 [(4,.v (.bool true))],[]⟩,Ah,.inr rfl,[.v (.bool true)],kr,kr⟩
  ·try dsimp only at h
   refine BD (Ae (s1:=⟨Fr 26 [p2,p1,p3],[]⟩) Ah (JG x0 x1 _ 0 _ hr8)) ?_;have hq:=OI h; subst hq;exact ⟨⟨Fr 26 [(4,.v (.bool w10))],[]⟩,Ah,.inr rfl,[.v (.bool w10)],kr,kr⟩
def LR:List AV->Option AV:=GP GW (fun a=>EN a.1 a.2.1) Gf
theorem LY:XOk 43 LR:=by
 refine EnvOk.x (E:=Dq) (Af HI (fn:=Tryd.f43) (c:=IM) ?h1 ?h2 ⟨Tryd.call43⟩ GW (fun a=>EN a.1 a.2.1) Gf (fun a=>(by show 2<=26; decide)) ?h3 ?h4) rfl rfl
 case h1=>kernel_rfl
 case h2=>kernel_rfl
 case h3=>intro b; kernel_rfl
 case h4=>exact fun a b h=>NG a.1 a.2.1 b h
/-- An own block is shortened. -/
theorem R4 {E:Env}{n d:Nat}{l:List (Nat×AV)}{hp:Hp}{b k q m:Nat}{t:TypeId}{es zs:List AV}(hb:hp[b]? = some (some ⟨k,t,es++zs,false⟩)) (_:q<=m):WkY E ⟨Fr n ((d,.rf b 0 q m)::l),hp⟩ ⟨Fr n ((d,.rf b 0 q q)::l),hp.set b (some ⟨k,t,es,false⟩)⟩:=by
 intro base w Z R a sr
 obtain ⟨r,arr,us,g1,g2,g3,g4,g5,g6,g7,g8,g9,g10⟩:=sr.hh.blk b _ hb
 have hel:(es++zs).take es.length=es:=by rw [List.take_append_of_le_length (Nat.le_refl _),List.take_of_length_le (Nat.le_refl _)]
 have hput:=sr.hh.put (w':=w) (es:=es) (us:=us.take es.length) (arr:=arr) hb rfl g1 ⟨rfl,rfl,rfl,Nat.le_refl _,fun _ _ _=>rfl⟩ g3 g4 (by have:(es++zs).length<=r.cap:=g5; rw [List.length_append] at this; omega) (by have:=g9.take es.length; rwa [hel] at this) (fun i u hu=>by
  rw [List.getElem?_take] at hu
  split at hu
  ·exact g10 i u hu
  ·cases hu)
 refine ⟨Z,R,⟨hput.1,⟨?_,fun t x hx=>?_⟩,sr.mks.step hput.2,sr.gl.step sr.hh hput.2,sr.bs⟩,hput.2⟩
 ·have:=sr.fr.1; rw [G8] at this ⊢; exact this
 ·have hold:∀ x,(Fr n ((d,.rf b 0 q m)::l))[t]? = some (some x)->VR w Z R x (a.tmps.getD t undef):=fun x h=>sr.fr.2 t x h
  rw [GE] at hx
  by_cases ht:t < n
  ·rw [if_pos ht] at hx
   injection hx with hx
   rw [JM] at hx
   by_cases hd:d=t
   ·subst hd
    rw [if_pos rfl] at hx
    injection hx with hx
    subst hx
    have h2:=hold (.rf b 0 q m) (by rw [GE,if_pos ht,JM,if_pos rfl])
    generalize a.tmps.getD d undef=u at h2
    cases h2 with
    | rf hr h0 h1 h2 hm=>exact .rf hr (Nat.le_refl _) (Nat.le_trans h0 h1) h2 hm
   ·rw [if_neg hd] at hx
    exact hold x (by rw [GE,if_pos ht,JM,if_neg hd,hx])
  ·rw [if_neg ht] at hx; cases hx
def VA (i:Int) (m:Nat):Bool:=decide (0 < m)&&(decide (0<=i)&&decide (i<=(m:Int)))
section
variable {E:Env}{cx:Cx}{ops:Array Oper}{rest rest':List Oper}{K:St->Prop}{n k d:Nat}{l:List (Nat×AV)}{hp:Hp}{t ty:TypeId}{α:Type}{c:Cd α}{xs:List α}{e:AV}{L:List Asn}
theorem Rw (hE:EnvOk E){x y:Operand}{i:Int}{ki:IntKind}{t':TypeId}{pos:String}{af:Array Edge}{g:Option (Nat×Bool)}(ht:T hp (own_ (ocL k t (ocV c)) e xs::L)) (hc:VA i xs.length=true) (hr:rest=⟨some d,.slice ty x none (some y) none,t',pos,af,g⟩::rest') (hw:As ops (Fr n l) ⟨some d,.slice ty x none (some y) none,t',pos,af,g⟩=some true)
  (hx:opA E (Fr n l) x=some e) (hy:opA E (Fr n l) y=some (.v (.int ki i))) (hu:E.P.underlying ty=some (.slice t)) (hs:BO E.P t=some k) (kk:∀ e' hp',T hp' (own_ (ocL k t (ocV c)) e' (xs.take i.toNat)::L)->RunL E cx ops rest' ⟨Fr n ((d,e')::l),hp'⟩ K):RunL E cx ops rest ⟨Fr n l,hp⟩ K:=by
 unfold VA at hc
 simp only [Bool.and_eq_true,decide_eq_true_eq] at hc
 obtain ⟨h0,h1,h2⟩:=hc
 obtain ⟨F,p,hn',hk,_⟩:=ht.act
 rcases p with ⟨rfl,rfl,_⟩ | ⟨b,es,F',rfl,hb,rfl,h4⟩
 ·simp at h0
 ·obtain ⟨rfl,rfl⟩:=h4.leaf_inv
  have hi:i.toNat<=xs.length:=by omega
  have hsl:HK E.P hp ty (.rf b 0 xs.length xs.length) none (some (.v (.int ki i))) none=some (.rf b 0 i.toNat xs.length):=by
   unfold HK
   have hni:¬ i < 0:=by omega
   simp only [hu,hb,M0,hni,if_false,hs]
   rw [if_pos ⟨Nat.zero_le _,hi,Nat.le_refl _,.inl rfl,trivial⟩,if_pos h0]
   simp
  refine AG hE 0 hr (Am hw rfl (Jg hx rfl (by show (opA E (Fr n l) y).map some=_; rw [hy]; rfl) rfl hsl)) ?_
  refine Ma (R4 (es:=(xs.take i.toNat).map c.enc) (zs:=(xs.drop i.toNat).map c.enc) (by rw [hb,<-List.map_append,List.take_append_drop]) hi) ?_
  have hlt:=Il hb
  have hl:(xs.take i.toNat).length=i.toNat:=by rw [List.length_take]; omega
  refine kk _ _ (hk _ _ [b] (.inr ⟨b,(xs.take i.toNat).map c.enc,[],by rw [hl],by simp [hlt],rfl,Lv⟩) (by simp) (fun b' hb' _=>?_) (fun b' hb'=> .inl hb'))
  rw [List.getElem?_set,if_neg (by intro e; subst e; simp at hb')]
end
/- trestle/trestlelaw09.Copy -/
noncomputable def CW:Env:=E0
theorem FF:EnvOk CW:=BB
noncomputable def GR:Code:=BK Tryd.f14
def Bu (v6:(List (List Int))):Nat->Int->(List (List Int))->Option (((List (List Int))))
 | 0,_,_=>none
 | f + 1,c8,c10 =>
  if (decide (c8 < (v6.length:Int)))=true then
  (idx v6 c8).bind fun v12 =>
  if (Bb 8 v12.length)=true then
  if (Bb 8 (v12.length + ([(-9)]:List Int).length))=true then
  if (VA (v12.length:Int) (v12++([(-9)]:List Int)).length)=true then
  if (Bb 24 (c10.length + ([((v12++([(-9)]:List Int)).take (v12.length:Int).toNat)]:List (List Int)).length))=true then
  Bu v6 f (wr .i64 (c8 + 1)) (c10++([((v12++([(-9)]:List Int)).take (v12.length:Int).toNat)]:List (List Int)))
  else none
  else none
  else none
  else none
  else
  some c10
def Bt (x0:(List (List (List Int)))):Nat->Int->(List (List (List Int)))->Option (((List (List (List Int)))))
 | 0,_,_=>none
 | f + 1,c2,c4 =>
  if (decide (c2 < (x0.length:Int)))=true then
  (idx x0 c2).bind fun v6 =>
  (Bu v6 100000 0 ([]:(List (List Int)))).bind fun r48 =>
  if (Bb 24 (c4.length + ([r48]:List (List (List Int))).length))=true then
  Bt x0 f (wr .i64 (c2 + 1)) (c4++([r48]:List (List (List Int))))
  else none
  else
  some c4
def GL (x0:(List (List (List Int)))):Option ((List (List (List Int)))) :=
 (Bt x0 100000 0 ([]:(List (List (List Int))))).bind fun r66 =>
 some r66
theorem Mo {L:List Asn}(v6:(List (List Int))) (x0:(List (List (List Int)))) (c2:Int) (e3:AV) (c4:(List (List (List Int)))):∀ (f:Nat) (c8:Int) (c10:(List (List Int))) (r:((List (List Int)))),Bu v6 f c8 c10=some r->∀ (e9:AV) (hp:Hp),T hp ((own_ (ocL 1 50 (ocL 1 31 (ocV (cdL 1 cdI)))) e3 c4)::(own_ (ocL 1 31 (ocV (cdL 1 cdI))) e9 c10)::L)->SemYN CW ⟨none,false⟩ (pc GR [1,1,0,1,0,0,1,1,0,0,1,1,0,1,0,0]) f ⟨Fr 38 [(3,e3),(6,e9),(9,.sl 1 (x0.map (cdL 1 (cdL 1 cdI)).enc)),(10,.v (.int .i64 (x0.length:Int))),(11,.v (.int .i64 c2)),(15,.sl 1 (v6.map (cdL 1 cdI).enc)),(16,.v (.int .i64 (v6.length:Int))),(17,.v (.int .i64 c8))],hp⟩ (fun e s=>e=(.exit 2)/\∃ s2,(∃ (e45:AV) (h':Hp),T h' ((own_ (ocL 1 50 (ocL 1 31 (ocV (cdL 1 cdI)))) e3 c4)::(own_ (ocL 1 31 (ocV (cdL 1 cdI))) e45 r)::L)/\s2=⟨Fr 38 [(3,e3),(6,e45),(9,.sl 1 (x0.map (cdL 1 (cdL 1 cdI)).enc)),(10,.v (.int .i64 (x0.length:Int))),(11,.v (.int .i64 c2))],h'⟩)/\WkY CW s s2):=by
 have he:=FF
 intro f;induction f with
 | zero=>intro c8 c10 r h; cases h
 | succ f ih0 =>
  intro c8 c10 r h e9 hp hT;unfold Bu at h;refine BA ?_
  let p1:Nat×AV:=(17,.v (.int .i64 c8))
  let p2:Nat×AV:=(16,.v (.int .i64 (v6.length:Int)))
  let p3:Nat×AV:=(15,.sl 1 (v6.map (cdL 1 cdI).enc))
  let p4:Nat×AV:=(11,.v (.int .i64 c2))
  let p5:Nat×AV:=(10,.v (.int .i64 (x0.length:Int)))
  let p6:Nat×AV:=(9,.sl 1 (x0.map (cdL 1 (cdL 1 cdI)).enc))
  refine AY he [(3,e3),(6,e9),p6,p5,p4,p3,p2,p1,(18,.v (.bool (decide (c8 < (v6.length:Int)))))] ?_;refine AD ?_;refine Ab (b:=(decide (c8 < (v6.length:Int)))) kr (fun hb11=>?_) (fun hb11=>?_)
  ·rw [if_pos hb11] at h
   refine SemY.skip ?_;refine AD ?_;refine AR ?_;refine AD ?_;refine AC ?_;obtain ⟨v12,hv12,h⟩:=OB h;refine AG he 0 rfl (Am (AA rfl) rfl (AF (a:= .sl 1 (v6.map (cdL 1 cdI).enc)) (b:= .v (.int .i64 c8)) kr kr (DT (e:=(cdL 1 cdI).enc) (el:=31) (k:=1) (ki:= .i64) kr kr hv12))) ?_;refine AS he [(3,e3),(6,e9),(8,.sl 1 (v12.map cdI.enc)),p6,p5,p4,p3,p2,p1] ?_;refine AC ?_;refine AH he 2 ?_;by_cases hk13:(Bb 8 v12.length)=true
   case neg=>rw [if_neg hk13] at h; cases h
   rw [if_pos hk13] at h;refine I2 rfl rfl (OM v12 hk13) rfl (AA rfl) kr (xs:=[.sl 1 (v12.map cdI.enc)]) kr (Sees.cons (SeeV.enc (c:=cdL 1 cdI)) Sees.nil) I6 ?_;intro x h' hO; obtain ⟨e14,hp15,e14q,hp15q,hT16⟩:=L0 hT hO; rw [<-e14q,<-hp15q];obtain ⟨e20,hp17,hb18,hT19⟩:=Ft (P:=Tryd.prog) (bytes:=8) (k:=1) (t:=3) (ty:=31) (xs:=([(-9)]:List Int)) (n:=1) (PJ (k:=1) (fun _=>⟨rfl,rfl,rfl⟩)) (Fh (c:=cdI) (xs:=([(-9)]:List Int)) hT16) rfl kr kr kr;refine AG he 0 rfl (OW (AA rfl) rfl kr (NL (xs:=J5 0 [.v (.int .i64 (-9))]) kr hb18)) ?_;by_cases hk25:(Bb 8 (v12.length + ([(-9)]:List Int).length))=true
   case neg=>rw [if_neg hk25] at h; cases h
   rw [if_pos hk25] at h
   have hT26:=((hT19.front 0 rfl).front 1 rfl)
   obtain ⟨e24,hp21,hb22,hT23⟩:=If (P:=Tryd.prog) (ty:=31) (ty2:=31) (bytes:=8) hT26 kr kr hk25;refine AG he 0 rfl (Ox (AA rfl) rfl kr kr (DO (a:=e14) (b:=e20) kr kr hb22)) ?_;refine AH he 1 ?_;refine AG he 0 rfl (Am (AA rfl) rfl (BZ (a:= .sl 1 (v12.map cdI.enc)) kr (Aw (el:=3) kr))) ?_;by_cases hk27:(VA (v12.length:Int) (v12++([(-9)]:List Int)).length)=true
   case neg=>rw [if_neg hk27] at h; cases h
   rw [if_pos hk27] at h;refine Rw (ki:= .i64) (i:=(v12.length:Int)) he hT23 hk27 rfl (AA rfl) kr kr kr kr ?_;intro e28 hp29 hT30;obtain ⟨hp31,hw32,hT33⟩:=DK (E:=CW) (n:=38) (l:=[(3,e3),p6,p5,p4,p3,p2,p1,(21,e9),(28,e28)]) (l':=[(3,e3),p6,p5,p4,p3,p2,p1,(21,e9),(28,.sl 1 (((v12++([(-9)]:List Int)).take (v12.length:Int).toNat).map cdI.enc))]) hT30 (LkT.at_ ⟨.inl kr,.inl kr,.inl kr,.inl kr,.inl kr,.inl kr,.inl kr,.inl kr,.inr ⟨kr,rfl⟩,trivial⟩);refine Ma (WkY.trans WkY.f1 hw32) ?_;obtain ⟨e37,hp34,hb35,hT36⟩:=Ft (P:=Tryd.prog) (bytes:=24) (k:=1) (t:=31) (ty:=50) (xs:=([((v12++([(-9)]:List Int)).take (v12.length:Int).toNat)]:List (List Int))) (n:=1) (PJ (k:=1) (fun _=>⟨rfl,rfl,rfl⟩)) (Fh (c:=(cdL 1 cdI)) (xs:=([((v12++([(-9)]:List Int)).take (v12.length:Int).toNat)]:List (List Int))) hT33) rfl kr kr kr;refine AG he 0 rfl (OW (AA rfl) rfl kr (NL (xs:=J5 0 [.sl 1 (((v12++([(-9)]:List Int)).take (v12.length:Int).toNat).map cdI.enc)]) kr hb35)) ?_;by_cases hk42:(Bb 24 (c10.length + ([((v12++([(-9)]:List Int)).take (v12.length:Int).toNat)]:List (List Int)).length))=true
   case neg=>rw [if_neg hk42] at h; cases h
   rw [if_pos hk42] at h
   have hT43:=((hT36.front 0 rfl).front 2 rfl)
   obtain ⟨e41,hp38,hb39,hT40⟩:=If (P:=Tryd.prog) (ty:=50) (ty2:=50) (bytes:=24) hT43 kr kr hk42;refine AG he 0 rfl (Ox (AA rfl) rfl kr kr (DO (a:=e9) (b:=e37) kr kr hb39)) ?_;refine AS he [(3,e3),(6,e41),p6,p5,p4,p3,p2,p1] ?_;refine AC ?_;refine AH he 2 ?_;refine AL rfl ?_
   have hT44:=(hT40.front 1 rfl)
   exact Ad WkY.f1 (ih0 (wr .i64 (c8 + 1)) (c10++([((v12++([(-9)]:List Int)).take (v12.length:Int).toNat)]:List (List Int))) _ h e41 hp38 hT44)
  ·rw [B9 hb11] at h
   refine SemY.exit ?_;have hq:=OI h; subst hq;exact ⟨rfl,_,⟨e9,hp,hT,rfl⟩,WkY.f1⟩
theorem Mn {L:List Asn}(x0:(List (List (List Int)))):∀ (f:Nat) (c2:Int) (c4:(List (List (List Int)))) (r:((List (List (List Int))))),Bt x0 f c2 c4=some r->∀ (e3:AV) (hp:Hp),T hp ((own_ (ocL 1 50 (ocL 1 31 (ocV (cdL 1 cdI)))) e3 c4)::L)->SemYN CW ⟨none,false⟩ (pc GR [1,1,0,1,0,0]) f ⟨Fr 38 [(3,e3),(9,.sl 1 (x0.map (cdL 1 (cdL 1 cdI)).enc)),(10,.v (.int .i64 (x0.length:Int))),(11,.v (.int .i64 c2))],hp⟩ (fun e s=>e=(.exit 0)/\∃ s2,(∃ (e64:AV) (h':Hp),T h' ((own_ (ocL 1 50 (ocL 1 31 (ocV (cdL 1 cdI)))) e64 r)::L)/\s2=⟨Fr 38 [(3,e64)],h'⟩)/\WkY CW s s2):=by
 have he:=FF
 intro f;induction f with
 | zero=>intro c2 c4 r h; cases h
 | succ f ih0 =>
  intro c2 c4 r h e3 hp hT;unfold Bt at h;refine BA ?_
  let p1:Nat×AV:=(11,.v (.int .i64 c2))
  let p2:Nat×AV:=(10,.v (.int .i64 (x0.length:Int)))
  let p3:Nat×AV:=(9,.sl 1 (x0.map (cdL 1 (cdL 1 cdI)).enc))
  refine AY he [(3,e3),p3,p2,p1,(12,.v (.bool (decide (c2 < (x0.length:Int)))))] ?_;refine AD ?_;refine Ab (b:=(decide (c2 < (x0.length:Int)))) kr (fun hb5=>?_) (fun hb5=>?_)
  ·rw [if_pos hb5] at h
   refine SemY.skip ?_;refine AD ?_;refine AR ?_;refine AD ?_;refine AC ?_;obtain ⟨v6,hv6,h⟩:=OB h;refine AG he 0 rfl (Am (AA rfl) rfl (AF (a:= .sl 1 (x0.map (cdL 1 (cdL 1 cdI)).enc)) (b:= .v (.int .i64 c2)) kr kr (DT (e:=(cdL 1 (cdL 1 cdI)).enc) (el:=50) (k:=1) (ki:= .i64) kr kr hv6))) ?_
   let p4:Nat×AV:=(5,.sl 1 (v6.map (cdL 1 cdI).enc))
   refine AS he [(3,e3),p4,p3,p2,p1] ?_;refine AY he [(3,e3),p4,(6,.e0),p3,p2,p1] ?_;refine AD ?_;refine AD ?_;refine AC ?_;refine AH he 1 ?_;refine AG he 0 rfl (Am (AA rfl) rfl (BZ (a:= .sl 1 (v6.map (cdL 1 cdI).enc)) kr (Aw (el:=31) kr))) ?_;refine AS he [(3,e3),(6,.e0),p3,p2,p1,(15,.sl 1 (v6.map (cdL 1 cdI).enc)),(16,.v (.int .i64 (v6.length:Int))),(17,.v (.int .i64 0))] ?_;refine AR ?_
   have hT7:=(T.e0 (k:=1) (ty:=31) (o:=(ocV (cdL 1 cdI))) hT)
   have hT47:=(hT7.front 1 rfl)
   refine SemY.loop (n:=100000) ?_;obtain ⟨r48,hr48,h⟩:=OB h;refine A9 (Ad WkY.f1 (Mo v6 x0 c2 e3 c4 _ 0 ([]:(List (List Int))) _ hr48 .e0 hp hT47)) ?_;rintro _ ⟨e49,hp50,hT51,rfl⟩;refine AC ?_;refine AH he 2 ?_
   have hT56:=(hT51.front 1 rfl)
   have hl57:K2 Tryd.prog 50 e49=some (eI r48.length):=NJ hT56 kr
   obtain ⟨e55,hp52,hb53,hT54⟩:=Ft (P:=Tryd.prog) (bytes:=24) (k:=1) (t:=50) (ty:=22) (xs:=([r48]:List (List (List Int)))) (n:=1) TW (PD ((QP (o:=(ocL 1 31 (ocV (cdL 1 cdI)))) hT56).front 1 rfl)) rfl kr kr kr;refine AG he 0 rfl (OW (AA rfl) rfl kr (NL (xs:=J5 0 [e49]) kr hb53)) ?_;by_cases hk62:(Bb 24 (c4.length + ([r48]:List (List (List Int))).length))=true
   case neg=>rw [if_neg hk62] at h; cases h
   rw [if_pos hk62] at h
   have hT63:=((hT54.front 0 rfl).front 1 rfl)
   obtain ⟨e61,hp58,hb59,hT60⟩:=If (P:=Tryd.prog) (ty:=22) (ty2:=22) (bytes:=24) hT63 kr kr hk62;refine AG he 0 rfl (Ox (AA rfl) rfl kr kr (DO (a:=e3) (b:=e55) kr kr hb59)) ?_;refine AS he [(3,e61),p3,p2,p1] ?_;refine AC ?_;refine AH he 2 ?_;refine AL rfl ?_;exact Ad WkY.f1 (ih0 (wr .i64 (c2 + 1)) (c4++([r48]:List (List (List Int)))) _ h e61 hp58 hT60)
  ·rw [B9 hb5] at h
   refine SemY.exit ?_;have hq:=OI h; subst hq;exact ⟨rfl,_,⟨e3,hp,hT,rfl⟩,WkY.f1⟩
theorem NH {L:List Asn}{hp:Hp}(x0:(List (List (List Int)))) (r:(List (List (List Int)))) (h:GL x0=some r) (hT:T hp (L)):SemY CW ⟨none,false⟩ GR ⟨Fr 38 (Av 0 [.sl 1 (x0.map (cdL 1 (cdL 1 cdI)).enc)]),hp⟩ fun x s'=>(x = .normal\/x = .ret)/\∃ ys,FA CW.P s'.fr s'.hp Tryd.f14.results.toList=some ys/\(fun v h'=>∃ (z0:AV),v=z0/\T h' ((own_ (ocL 1 50 (ocL 1 31 (ocV (cdL 1 cdI)))) z0 r)::L)) (FZ ys) s'.hp:=by
 have he:=FF
 unfold GL at h
 let p1:Nat×AV:=(0,.sl 1 (x0.map (cdL 1 (cdL 1 cdI)).enc))
 refine Dw (Ef (s1:=⟨Fr 38 [p1],hp⟩) WkY.f1 ?_);refine AY he [p1] ?_;refine AY he [p1,(3,.e0)] ?_;refine AD ?_;refine AD ?_;refine AC ?_;refine AH he 1 ?_;refine AG he 0 rfl (Am (AA rfl) rfl (BZ (a:= .sl 1 (x0.map (cdL 1 (cdL 1 cdI)).enc)) kr (Aw (el:=50) kr))) ?_;refine AS he [(3,.e0),(9,.sl 1 (x0.map (cdL 1 (cdL 1 cdI)).enc)),(10,.v (.int .i64 (x0.length:Int))),(11,.v (.int .i64 0))] ?_;refine AR ?_
 have hT1:=(T.e0 (k:=1) (ty:=50) (o:=(ocL 1 31 (ocV (cdL 1 cdI)))) hT)
 refine SemY.loop (n:=100000) ?_;obtain ⟨r66,hr66,h⟩:=OB h;refine A9 (Ad WkY.f1 (Mn x0 _ 0 ([]:(List (List (List Int)))) _ hr66 .e0 hp hT1)) ?_;rintro _ ⟨e67,hp68,hT69,rfl⟩;refine AY he [(2,e67)] ?_;refine SemY.ret ?_;have hq:=OI h; subst hq;exact ⟨⟨Fr 38 [(2,e67)],hp68⟩,WkY.f1,.inr rfl,[e67],kr,⟨e67,rfl,hT69⟩⟩
/- trestle/trestlelaw09.EveningWrong -/
noncomputable def AM:Env:=((((((((((((((((E0.withX 25 M6).withX 17 Jv).withX 13 MQ).withX 27 EE).withX 29 JR).withX 26 Jw).withX 30 LN).withX 31 LO).withX 32 Ju).withX 39 Kl).withX 33 LP).withX 40 Km).withX 28 Jx).withX 41 Io).withX 42 Hm).withX 43 LR)
theorem Bc:EnvOk AM:=(EnvOk.withX (EnvOk.withX (EnvOk.withX (EnvOk.withX (EnvOk.withX (EnvOk.withX (EnvOk.withX (EnvOk.withX (EnvOk.withX (EnvOk.withX (EnvOk.withX (EnvOk.withX (EnvOk.withX (EnvOk.withX (EnvOk.withX (EnvOk.withX BB M8.1 M8.2) Jz.1 Jz.2) MY.1 MY.2) Bv.1 Bv.2) JS.1 JS.2) J0.1 J0.2) LU.1 LU.2) LV.1 LV.2) Jy.1 Jy.2) Ko.1 Ko.2) LW.1 LW.2) Kp.1 Kp.2) J1.1 J1.2) Ip.1 Ip.2) Hn.1 Hn.2) LY.1 LY.2)
noncomputable def B4:Code:=BK Tryd.f11
def Dn (x4:Int) (v13:(List Int)):Option (((List Int))) :=
 if ((x4.tmod 5)==3)=true then
 if (HG 1 (v13.length:Int) v13.length)=true then
 some ((v13.take (v13.length:Int).toNat).drop (1:Int).toNat)
 else none
 else
 some ([]:(List Int))
def Dm (x2:Int) (x4:Int) (v1:(List (List (List Int)))×(List Int)×Int) (v13:(List Int)):Option ((Int×(List Int))) :=
 if ((x4.tmod 5)==2)=true then
 (idx v1.1 ((wr .i64 x2).tmod (v1.1.length:Int))).bind fun v39 =>
 (idx v39 0).bind fun v40 =>
 (idx v40 0).bind fun v41 =>
 if (Bb 8 (v13.length + ([v41]:List Int).length))=true then
 some (5,(v13++([v41]:List Int)))
 else none
 else
 (Dn x4 v13).bind fun r68 =>
 some (2,r68)
def Dl (x2:Int) (x4:Int) (x5:Int) (v1:(List (List (List Int)))×(List Int)×Int) (v13:(List Int)):Option ((Int×(List Int))) :=
 if ((x4.tmod 5)==1)=true then
 (idx v13 0).bind fun _v29 =>
 some (6,(v13.set ((0:Int).toNat) (mnI x5 (-1))))
 else
 (Dm x2 x4 v1 v13).bind fun r71 =>
 some (r71.1,r71.2)
def Cl (x2:Int) (x4:Int) (x5:Int) (v1:(List (List (List Int)))×(List Int)×Int) (v13:(List Int)):Option ((Int×(List Int))) :=
 if ((x4.tmod 5)==0)=true then
 (idx v13 0).bind fun _v19 =>
 some (6,(v13.set ((0:Int).toNat) (mxI x5 v1.2.2)))
 else
 (Dl x2 x4 x5 v1 v13).bind fun r74 =>
 some (r74.1,r74.2)
def CF (x0:(List Int)) (x1:(List (List (Int×Int)))) (x2:Int) (x3:Int) (x4:Int) (x5:Int):Option (Bool) :=
 (GM x0 x1).bind fun v1 =>
 if ((v1.1.length:Int)==0)=true then
 (BY v1.2.2 v1.1).bind fun v3 =>
 (if (v3==[])=true then IY.bind fun v4 =>
 some v4 else some false).bind fun j5 =>
 some j5
 else
 if (v1.1.length:Int)=(0:Int) then none else
 if (v1.2.1.length:Int)=(0:Int) then none else
 (idx v1.1 ((wr .i64 x2).tmod (v1.1.length:Int))).bind fun v12 =>
 (idx v12 ((wr .i64 x3).tmod (v1.2.1.length:Int))).bind fun v13 =>
 if (Bb 8 v13.length)=true then
 (Cl x2 x4 x5 v1 v13).bind fun r77 =>
 (GL v1.1).bind fun v80 =>
 (idx v80 ((wr .i64 x2).tmod (v1.1.length:Int))).bind fun v84 =>
 (idx v84 ((wr .i64 x3).tmod (v1.2.1.length:Int))).bind fun _v88 =>
 (AT v1.2.2 [] (v80.set (((wr .i64 x2).tmod (v1.1.length:Int)).toNat) (v84.set (((wr .i64 x3).tmod (v1.2.1.length:Int)).toNat) r77.2))).bind fun v93 =>
 (Ci v1.2.2 (v80.set (((wr .i64 x2).tmod (v1.1.length:Int)).toNat) (v84.set (((wr .i64 x3).tmod (v1.2.1.length:Int)).toNat) r77.2)) []).bind fun v97 =>
 (C7 v1.2.2 (v80.set (((wr .i64 x2).tmod (v1.1.length:Int)).toNat) (v84.set (((wr .i64 x3).tmod (v1.2.1.length:Int)).toNat) r77.2)) 3).bind fun v98 =>
 (EJ v1.2.2 v1.1 (v80.set (((wr .i64 x2).tmod (v1.1.length:Int)).toNat) (v84.set (((wr .i64 x3).tmod (v1.2.1.length:Int)).toNat) r77.2))).bind fun v99 =>
 (if (v93.1 != ((wr .i64 x2).tmod (v1.1.length:Int)))=true then some true else if (v93.2 != r77.1)=true then some true else if (v97.2 != r77.1)=true then some true else if (v98.2.2 != r77.1)=true then some true else if (v99.2 != r77.1)=true then some true else (EK v1.2.2 (v80.set (((wr .i64 x2).tmod (v1.1.length:Int)).toNat) (v84.set (((wr .i64 x3).tmod (v1.2.1.length:Int)).toNat) r77.2))).bind fun v100 =>
 (C5 v1.2.2 (v80.set (((wr .i64 x2).tmod (v1.1.length:Int)).toNat) (v84.set (((wr .i64 x3).tmod (v1.2.1.length:Int)).toNat) r77.2))).bind fun v101 =>
 (Dh v1.2.2 (v80.set (((wr .i64 x2).tmod (v1.1.length:Int)).toNat) (v84.set (((wr .i64 x3).tmod (v1.2.1.length:Int)).toNat) r77.2))).bind fun v102 =>
 (EL v1.2.2 (v80.set (((wr .i64 x2).tmod (v1.1.length:Int)).toNat) (v84.set (((wr .i64 x3).tmod (v1.2.1.length:Int)).toNat) r77.2))).bind fun v103 =>
 (Di v1.2.2 (v80.set (((wr .i64 x2).tmod (v1.1.length:Int)).toNat) (v84.set (((wr .i64 x3).tmod (v1.2.1.length:Int)).toNat) r77.2))).bind fun v104 =>
 (C8 v1.2.2 (v80.set (((wr .i64 x2).tmod (v1.1.length:Int)).toNat) (v84.set (((wr .i64 x3).tmod (v1.2.1.length:Int)).toNat) r77.2))).bind fun v105 =>
 (CK v1.2.2 (v80.set (((wr .i64 x2).tmod (v1.1.length:Int)).toNat) (v84.set (((wr .i64 x3).tmod (v1.2.1.length:Int)).toNat) r77.2)) 0 1).bind fun v106 =>
 some ((wr .i64 ((wr .i64 ((wr .i64 ((wr .i64 ((wr .i64 ((wr .i64 ((v100.length:Int) + (v101.length:Int))) + (v102.length:Int))) + v103)) + v104)) + v105)) + (v106.length:Int)))!=0)).bind fun j107 =>
 if j107=true then
 some false
 else
 if (Bb 8 v1.2.1.length)=true then
 if (Bb 8 (v1.2.1.length + ([1]:List Int).length))=true then
 (AT v1.2.2 (v1.2.1++([1]:List Int)) v1.1).bind fun v126 =>
 (BI ([1]:List Int) v1.2.2).bind fun v134 =>
 (AT v1.2.2 v134 v1.1).bind fun v135 =>
 (if (v126.2==90)=true then (BI ([1]:List Int) v1.2.2).bind fun v143 =>
 (EN v1.2.1 v143).bind fun v144 =>
 if ((v135.2==0)==v144)=true then (BY v1.2.2 (v80.set (((wr .i64 x2).tmod (v1.1.length:Int)).toNat) (v84.set (((wr .i64 x3).tmod (v1.2.1.length:Int)).toNat) r77.2))).bind fun v145 =>
 if (v145==[])=true then IY.bind fun v146 =>
 some v146 else some false else some false else some false).bind fun j147 =>
 some j147
 else none
 else none
 else none
theorem JK {L:List Asn}{hp:Hp}(x4:Int) (v13:(List Int)) (x2:Int) (x3:Int) (v1:(List (List (List Int)))×(List Int)×Int) (e15:AV) (r:((List Int))) (h:Dn x4 v13=some r) (hT:T hp ((own_ (ocL 1 3 (ocV cdI)) e15 v13)::L)):SemY AM ⟨none,false⟩ (pc B4 [1,1,1,1,1,1,1,0,1,0,1,1,1,1,1,1,1]) ⟨Fr 229 [(13,.sl 1 (v1.1.map (cdL 1 (cdL 1 cdI)).enc)),(14,.sl 1 (v1.2.1.map cdI.enc)),(15,.v (.int .i64 v1.2.2)),(16,.v (.int .i64 ((wr .i64 x2).tmod (v1.1.length:Int)))),(17,.v (.int .i64 ((wr .i64 x3).tmod (v1.2.1.length:Int)))),(18,.v (.int .i64 2)),(19,e15),(93,.v (.bool ((x4.tmod 5)==3)))],hp⟩ (fun e s=>e = .normal/\∃ s2,(∃ (h':Hp),T h' (L)/\s2=⟨Fr 229 [(13,.sl 1 (v1.1.map (cdL 1 (cdL 1 cdI)).enc)),(14,.sl 1 (v1.2.1.map cdI.enc)),(15,.v (.int .i64 v1.2.2)),(16,.v (.int .i64 ((wr .i64 x2).tmod (v1.1.length:Int)))),(17,.v (.int .i64 ((wr .i64 x3).tmod (v1.2.1.length:Int)))),(18,.v (.int .i64 2)),(19,.sl 1 (r.map cdI.enc))],h'⟩)/\WkY AM s s2):=by
 have he:=Bc
 unfold Dn at h;refine Ab (b:=((x4.tmod 5)==3)) kr (fun hb57=>?_) (fun hb57=>?_)
 ·rw [if_pos hb57] at h
  let p1:Nat×AV:=(93,.v (.bool ((x4.tmod 5)==3)))
  let p2:Nat×AV:=(17,.v (.int .i64 ((wr .i64 x3).tmod (v1.2.1.length:Int))))
  let p3:Nat×AV:=(16,.v (.int .i64 ((wr .i64 x2).tmod (v1.1.length:Int))))
  let p4:Nat×AV:=(13,.sl 1 (v1.1.map (cdL 1 (cdL 1 cdI)).enc))
  obtain ⟨hp58,hw59,hT60⟩:=DK (E:=AM) (n:=229) (l:=[p4,(14,.sl 1 (v1.2.1.map cdI.enc)),(15,.v (.int .i64 v1.2.2)),p3,p2,(18,.v (.int .i64 2)),(19,e15),p1]) (l':=[p4,(14,.sl 1 (v1.2.1.map cdI.enc)),(15,.v (.int .i64 v1.2.2)),p3,p2,(18,.v (.int .i64 2)),(19,.sl 1 (v13.map cdI.enc)),p1]) hT (LkT.at_ ⟨.inl kr,.inl kr,.inl kr,.inl kr,.inl kr,.inl kr,.inr ⟨kr,rfl⟩,.inl kr,trivial⟩);refine Ef (WkY.trans WkY.f1 hw59) ?_;refine AC ?_;refine AH he 1 ?_;by_cases hk61:(HG 1 (v13.length:Int) v13.length)=true
  case neg=>rw [if_neg hk61] at h; cases h
  rw [if_pos hk61] at h;refine AG he 0 rfl (Am (AA rfl) rfl (Jg (a:= .sl 1 (v13.map cdI.enc)) (l:=(some (.v (.int .i64 1)))) (u:=none) (m:=none) kr kr kr rfl (MN (xs:=v13) (e:=cdI.enc) (k:=1) (el:=3) (lo:=1) (hi:=(v13.length:Int)) kr kr (Jt (Pm hk61)) rfl hk61))) ?_;refine AH he 1 ?_;refine AL rfl ?_;have hq:=OI h; subst hq;exact ⟨rfl,_,⟨hp58,hT60,rfl⟩,WkY.f1⟩
 ·rw [B9 hb57] at h
  refine AC ?_;refine AH he 1 ?_;refine AL rfl ?_;have hq:=OI h; subst hq
  have hT63:=(T.e0 (k:=1) (ty:=3) (o:=(ocV cdI)) hT)
  let p5:Nat×AV:=(17,.v (.int .i64 ((wr .i64 x3).tmod (v1.2.1.length:Int))))
  let p6:Nat×AV:=(16,.v (.int .i64 ((wr .i64 x2).tmod (v1.1.length:Int))))
  let p7:Nat×AV:=(13,.sl 1 (v1.1.map (cdL 1 (cdL 1 cdI)).enc))
  obtain ⟨hp64,hw65,hT66⟩:=DK (E:=AM) (n:=229) (l:=[p7,(14,.sl 1 (v1.2.1.map cdI.enc)),(15,.v (.int .i64 v1.2.2)),p6,p5,(18,.v (.int .i64 2)),(19,.e0)]) (l':=[p7,(14,.sl 1 (v1.2.1.map cdI.enc)),(15,.v (.int .i64 v1.2.2)),p6,p5,(18,.v (.int .i64 2)),(19,.sl 1 (([]:(List Int)).map cdI.enc))]) hT63 (LkT.at_ ⟨.inl kr,.inl kr,.inl kr,.inl kr,.inl kr,.inl kr,.inr ⟨kr,rfl⟩,trivial⟩)
  have hT67:=hT66.drop
  exact ⟨rfl,_,⟨hp64,hT67,rfl⟩,(WkY.trans (WkY.trans WkY.f1 hw65) WkY.f1)⟩
theorem JJ {L:List Asn}{hp:Hp}(x2:Int) (x4:Int) (v1:(List (List (List Int)))×(List Int)×Int) (v13:(List Int)) (x3:Int) (e15:AV) (r:(Int×(List Int))) (h:Dm x2 x4 v1 v13=some r) (hT:T hp ((own_ (ocL 1 3 (ocV cdI)) e15 v13)::L)):SemY AM ⟨none,false⟩ (pc B4 [1,1,1,1,1,1,1,0,1,0,1,1,1,1,1]) ⟨Fr 229 [(13,.sl 1 (v1.1.map (cdL 1 (cdL 1 cdI)).enc)),(14,.sl 1 (v1.2.1.map cdI.enc)),(15,.v (.int .i64 v1.2.2)),(16,.v (.int .i64 ((wr .i64 x2).tmod (v1.1.length:Int)))),(17,.v (.int .i64 ((wr .i64 x3).tmod (v1.2.1.length:Int)))),(18,.v (.int .i64 2)),(19,e15),(66,.v (.int .u8 (x4.tmod 5))),(80,.v (.bool ((x4.tmod 5)==2)))],hp⟩ (fun e s=>e = .normal/\∃ s2,(∃ (h':Hp),T h' (L)/\s2=⟨Fr 229 [(13,.sl 1 (v1.1.map (cdL 1 (cdL 1 cdI)).enc)),(14,.sl 1 (v1.2.1.map cdI.enc)),(15,.v (.int .i64 v1.2.2)),(16,.v (.int .i64 ((wr .i64 x2).tmod (v1.1.length:Int)))),(17,.v (.int .i64 ((wr .i64 x3).tmod (v1.2.1.length:Int)))),(18,.v (.int .i64 r.1)),(19,.sl 1 (r.2.map cdI.enc))],h'⟩)/\WkY AM s s2):=by
 have he:=Bc
 unfold Dm at h;refine Ab (b:=((x4.tmod 5)==2)) kr (fun hb38=>?_) (fun hb38=>?_)
 ·rw [if_pos hb38] at h
  refine AC ?_;refine AH he 3 ?_;obtain ⟨v39,hv39,h⟩:=OB h;refine AG he 0 rfl (Am (AA rfl) rfl (AF (a:= .sl 1 (v1.1.map (cdL 1 (cdL 1 cdI)).enc)) (b:= .v (.int .i64 ((wr .i64 x2).tmod (v1.1.length:Int)))) kr kr (DT (e:=(cdL 1 (cdL 1 cdI)).enc) (el:=50) (k:=1) (ki:= .i64) kr kr hv39))) ?_;refine AH he 1 ?_;obtain ⟨v40,hv40,h⟩:=OB h;refine AG he 0 rfl (Am (AA rfl) rfl (AF (a:= .sl 1 (v39.map (cdL 1 cdI).enc)) (b:= .v (.int .i64 0)) kr kr (DT (e:=(cdL 1 cdI).enc) (el:=31) (k:=1) (ki:= .i64) kr kr hv40))) ?_;refine AH he 1 ?_;obtain ⟨v41,hv41,h⟩:=OB h;refine AG he 0 rfl (Am (AA rfl) rfl (AF (a:= .sl 1 (v40.map cdI.enc)) (b:= .v (.int .i64 0)) kr kr (DT (e:=cdI.enc) (el:=3) (k:=1) (ki:= .i64) kr kr hv41))) ?_;refine AH he 1 ?_;obtain ⟨e45,hp42,hb43,hT44⟩:=Ft (P:=Tryd.prog) (bytes:=8) (k:=1) (t:=3) (ty:=31) (xs:=([v41]:List Int)) (n:=1) (PJ (k:=1) (fun _=>⟨rfl,rfl,rfl⟩)) (Fh (c:=cdI) (xs:=([v41]:List Int)) hT) rfl kr kr kr;refine AG he 0 rfl (OW (AA rfl) rfl kr (NL (xs:=J5 0 [.v (.int .i64 v41)]) kr hb43)) ?_;by_cases hk50:(Bb 8 (v13.length + ([v41]:List Int).length))=true
  case neg=>rw [if_neg hk50] at h; cases h
  rw [if_pos hk50] at h
  have hT51:=((hT44.front 0 rfl).front 1 rfl)
  obtain ⟨e49,hp46,hb47,hT48⟩:=If (P:=Tryd.prog) (ty:=31) (ty2:=31) (bytes:=8) hT51 kr kr hk50;refine AG he 0 rfl (Ox (AA rfl) rfl kr kr (DO (a:=e15) (b:=e45) kr kr hb47)) ?_;refine AH he 2 ?_;refine AL rfl ?_;have hq:=OI h; subst hq
  let p1:Nat×AV:=(17,.v (.int .i64 ((wr .i64 x3).tmod (v1.2.1.length:Int))))
  let p2:Nat×AV:=(16,.v (.int .i64 ((wr .i64 x2).tmod (v1.1.length:Int))))
  let p3:Nat×AV:=(13,.sl 1 (v1.1.map (cdL 1 (cdL 1 cdI)).enc))
  obtain ⟨hp54,hw55,hT56⟩:=DK (E:=AM) (n:=229) (l:=[p3,(14,.sl 1 (v1.2.1.map cdI.enc)),(15,.v (.int .i64 v1.2.2)),p2,p1,(18,.v (.int .i64 5)),(19,e49)]) (l':=[p3,(14,.sl 1 (v1.2.1.map cdI.enc)),(15,.v (.int .i64 v1.2.2)),p2,p1,(18,.v (.int .i64 5)),(19,.sl 1 ((v13++([v41]:List Int)).map cdI.enc))]) hT48 (LkT.at_ ⟨.inl kr,.inl kr,.inl kr,.inl kr,.inl kr,.inl kr,.inr ⟨kr,rfl⟩,trivial⟩);exact ⟨rfl,_,⟨hp54,hT56,rfl⟩,(WkY.trans (WkY.trans WkY.f1 hw55) WkY.f1)⟩
 ·rw [B9 hb38] at h
  refine AY he [(13,.sl 1 (v1.1.map (cdL 1 (cdL 1 cdI)).enc)),(14,.sl 1 (v1.2.1.map cdI.enc)),(15,.v (.int .i64 v1.2.2)),(16,.v (.int .i64 ((wr .i64 x2).tmod (v1.1.length:Int)))),(17,.v (.int .i64 ((wr .i64 x3).tmod (v1.2.1.length:Int)))),(18,.v (.int .i64 2)),(19,e15),(93,.v (.bool ((x4.tmod 5)==3)))] ?_;obtain ⟨r68,hr68,h⟩:=OB h;refine GQ (JK x4 v13 x2 x3 v1 e15 _ hr68 hT) ?_;rintro _ ⟨hp69,hT70,rfl⟩;have hq:=OI h; subst hq;exact ⟨rfl,_,⟨hp69,hT70,rfl⟩,WkY.f1⟩
theorem JI {L:List Asn}{hp:Hp}(x2:Int) (x4:Int) (x5:Int) (v1:(List (List (List Int)))×(List Int)×Int) (v13:(List Int)) (x3:Int) (e15:AV) (r:(Int×(List Int))) (h:Dl x2 x4 x5 v1 v13=some r) (hT:T hp ((own_ (ocL 1 3 (ocV cdI)) e15 v13)::L)):SemY AM ⟨none,false⟩ (pc B4 [1,1,1,1,1,1,1,0,1,0,1,1,1]) ⟨Fr 229 [(5,.v (.int .i64 x5)),(13,.sl 1 (v1.1.map (cdL 1 (cdL 1 cdI)).enc)),(14,.sl 1 (v1.2.1.map cdI.enc)),(15,.v (.int .i64 v1.2.2)),(16,.v (.int .i64 ((wr .i64 x2).tmod (v1.1.length:Int)))),(17,.v (.int .i64 ((wr .i64 x3).tmod (v1.2.1.length:Int)))),(18,.v (.int .i64 2)),(19,e15),(66,.v (.int .u8 (x4.tmod 5))),(74,.v (.bool ((x4.tmod 5)==1)))],hp⟩ (fun e s=>e = .normal/\∃ s2,(∃ (h':Hp),T h' (L)/\s2=⟨Fr 229 [(13,.sl 1 (v1.1.map (cdL 1 (cdL 1 cdI)).enc)),(14,.sl 1 (v1.2.1.map cdI.enc)),(15,.v (.int .i64 v1.2.2)),(16,.v (.int .i64 ((wr .i64 x2).tmod (v1.1.length:Int)))),(17,.v (.int .i64 ((wr .i64 x3).tmod (v1.2.1.length:Int)))),(18,.v (.int .i64 r.1)),(19,.sl 1 (r.2.map cdI.enc))],h'⟩)/\WkY AM s s2):=by
 have he:=Bc
 unfold Dl at h;refine Ab (b:=((x4.tmod 5)==1)) kr (fun hb28=>?_) (fun hb28=>?_)
 ·rw [if_pos hb28] at h
  refine AC ?_;refine AH he 3 ?_;obtain ⟨v29,hv29,h⟩:=OB h;refine AG he 0 rfl (Am (AA rfl) rfl (AF (a:=e15) (b:= .v (.int .i64 0)) kr kr (Lp (bytes:=8) hT kr hv29))) ?_;obtain ⟨hp30,hs31,hT32⟩:=Ic (P:=Tryd.prog) (ty:=3) (y:= .v (.int .i64 (mnI x5 (-1)))) (v':=(mnI x5 (-1))) hT (AW hv29).2 kr kr kr;refine RunL.store he (y:=eAt e15 ((0:Int).toNat)) (z:= .v (.int .i64 (mnI x5 (-1)))) rfl (AA rfl) kr kr hs31 ?_;refine AH he 1 ?_;refine AL rfl ?_;have hq:=OI h; subst hq
  let p1:Nat×AV:=(17,.v (.int .i64 ((wr .i64 x3).tmod (v1.2.1.length:Int))))
  let p2:Nat×AV:=(16,.v (.int .i64 ((wr .i64 x2).tmod (v1.1.length:Int))))
  let p3:Nat×AV:=(13,.sl 1 (v1.1.map (cdL 1 (cdL 1 cdI)).enc))
  obtain ⟨hp35,hw36,hT37⟩:=DK (E:=AM) (n:=229) (l:=[p3,(14,.sl 1 (v1.2.1.map cdI.enc)),(15,.v (.int .i64 v1.2.2)),p2,p1,(18,.v (.int .i64 6)),(19,e15)]) (l':=[p3,(14,.sl 1 (v1.2.1.map cdI.enc)),(15,.v (.int .i64 v1.2.2)),p2,p1,(18,.v (.int .i64 6)),(19,.sl 1 ((v13.set ((0:Int).toNat) (mnI x5 (-1))).map cdI.enc))]) hT32 (LkT.at_ ⟨.inl kr,.inl kr,.inl kr,.inl kr,.inl kr,.inl kr,.inr ⟨kr,rfl⟩,trivial⟩);exact ⟨rfl,_,⟨hp35,hT37,rfl⟩,(WkY.trans (WkY.trans WkY.f1 hw36) WkY.f1)⟩
 ·rw [B9 hb28] at h
  refine AY he [(13,.sl 1 (v1.1.map (cdL 1 (cdL 1 cdI)).enc)),(14,.sl 1 (v1.2.1.map cdI.enc)),(15,.v (.int .i64 v1.2.2)),(16,.v (.int .i64 ((wr .i64 x2).tmod (v1.1.length:Int)))),(17,.v (.int .i64 ((wr .i64 x3).tmod (v1.2.1.length:Int)))),(18,.v (.int .i64 2)),(19,e15),(66,.v (.int .u8 (x4.tmod 5))),(80,.v (.bool ((x4.tmod 5)==2)))] ?_;obtain ⟨r71,hr71,h⟩:=OB h;refine GQ (JJ x2 x4 v1 v13 x3 e15 _ hr71 hT) ?_;rintro _ ⟨hp72,hT73,rfl⟩;have hq:=OI h; subst hq;exact ⟨rfl,_,⟨hp72,hT73,rfl⟩,WkY.f1⟩
theorem JH {L:List Asn}{hp:Hp}(x2:Int) (x4:Int) (x5:Int) (v1:(List (List (List Int)))×(List Int)×Int) (v13:(List Int)) (x3:Int) (e15:AV) (r:(Int×(List Int))) (h:Cl x2 x4 x5 v1 v13=some r) (hT:T hp ((own_ (ocL 1 3 (ocV cdI)) e15 v13)::L)):SemY AM ⟨none,false⟩ (pc B4 [1,1,1,1,1,1,1,0,1,0,1]) ⟨Fr 229 [(5,.v (.int .i64 x5)),(13,.sl 1 (v1.1.map (cdL 1 (cdL 1 cdI)).enc)),(14,.sl 1 (v1.2.1.map cdI.enc)),(15,.v (.int .i64 v1.2.2)),(16,.v (.int .i64 ((wr .i64 x2).tmod (v1.1.length:Int)))),(17,.v (.int .i64 ((wr .i64 x3).tmod (v1.2.1.length:Int)))),(18,.v (.int .i64 2)),(19,e15),(66,.v (.int .u8 (x4.tmod 5))),(67,.v (.bool ((x4.tmod 5)==0)))],hp⟩ (fun e s=>e = .normal/\∃ s2,(∃ (h':Hp),T h' (L)/\s2=⟨Fr 229 [(13,.sl 1 (v1.1.map (cdL 1 (cdL 1 cdI)).enc)),(14,.sl 1 (v1.2.1.map cdI.enc)),(15,.v (.int .i64 v1.2.2)),(16,.v (.int .i64 ((wr .i64 x2).tmod (v1.1.length:Int)))),(17,.v (.int .i64 ((wr .i64 x3).tmod (v1.2.1.length:Int)))),(18,.v (.int .i64 r.1)),(19,.sl 1 (r.2.map cdI.enc))],h'⟩)/\WkY AM s s2):=by
 have he:=Bc
 unfold Cl at h;refine Ab (b:=((x4.tmod 5)==0)) kr (fun hb18=>?_) (fun hb18=>?_)
 ·rw [if_pos hb18] at h
  refine AC ?_;refine AH he 4 ?_;obtain ⟨v19,hv19,h⟩:=OB h;refine AG he 0 rfl (Am (AA rfl) rfl (AF (a:=e15) (b:= .v (.int .i64 0)) kr kr (Lp (bytes:=8) hT kr hv19))) ?_;obtain ⟨hp20,hs21,hT22⟩:=Ic (P:=Tryd.prog) (ty:=3) (y:= .v (.int .i64 (mxI x5 v1.2.2))) (v':=(mxI x5 v1.2.2)) hT (AW hv19).2 kr kr kr;refine RunL.store he (y:=eAt e15 ((0:Int).toNat)) (z:= .v (.int .i64 (mxI x5 v1.2.2))) rfl (AA rfl) kr kr hs21 ?_;refine AH he 1 ?_;refine AL rfl ?_;have hq:=OI h; subst hq
  let p1:Nat×AV:=(17,.v (.int .i64 ((wr .i64 x3).tmod (v1.2.1.length:Int))))
  let p2:Nat×AV:=(16,.v (.int .i64 ((wr .i64 x2).tmod (v1.1.length:Int))))
  let p3:Nat×AV:=(13,.sl 1 (v1.1.map (cdL 1 (cdL 1 cdI)).enc))
  obtain ⟨hp25,hw26,hT27⟩:=DK (E:=AM) (n:=229) (l:=[p3,(14,.sl 1 (v1.2.1.map cdI.enc)),(15,.v (.int .i64 v1.2.2)),p2,p1,(18,.v (.int .i64 6)),(19,e15)]) (l':=[p3,(14,.sl 1 (v1.2.1.map cdI.enc)),(15,.v (.int .i64 v1.2.2)),p2,p1,(18,.v (.int .i64 6)),(19,.sl 1 ((v13.set ((0:Int).toNat) (mxI x5 v1.2.2)).map cdI.enc))]) hT22 (LkT.at_ ⟨.inl kr,.inl kr,.inl kr,.inl kr,.inl kr,.inl kr,.inr ⟨kr,rfl⟩,trivial⟩);exact ⟨rfl,_,⟨hp25,hT27,rfl⟩,(WkY.trans (WkY.trans WkY.f1 hw26) WkY.f1)⟩
 ·rw [B9 hb18] at h
  refine AY he [(5,.v (.int .i64 x5)),(13,.sl 1 (v1.1.map (cdL 1 (cdL 1 cdI)).enc)),(14,.sl 1 (v1.2.1.map cdI.enc)),(15,.v (.int .i64 v1.2.2)),(16,.v (.int .i64 ((wr .i64 x2).tmod (v1.1.length:Int)))),(17,.v (.int .i64 ((wr .i64 x3).tmod (v1.2.1.length:Int)))),(18,.v (.int .i64 2)),(19,e15),(66,.v (.int .u8 (x4.tmod 5))),(74,.v (.bool ((x4.tmod 5)==1)))] ?_;obtain ⟨r74,hr74,h⟩:=OB h;refine GQ (JI x2 x4 x5 v1 v13 x3 e15 _ hr74 hT) ?_;rintro _ ⟨hp75,hT76,rfl⟩;have hq:=OI h; subst hq;exact ⟨rfl,_,⟨hp75,hT76,rfl⟩,WkY.f1⟩
theorem KA {L:List Asn}{hp:Hp}(x0:(List Int)) (x1:(List (List (Int×Int)))) (x2:Int) (x3:Int) (x4:Int) (x5:Int) (r:Bool) (h:CF x0 x1 x2 x3 x4 x5=some r) (hT:T hp (L)):SemY AM ⟨none,false⟩ B4 ⟨Fr 229 (Av 0 [.sl 1 (x0.map (cdK .u8).enc),.sl 1 (x1.map (cdL 2 (EF (cdK .u8) (cdK .u8) (fun _=>rfl) (fun _=>rfl))).enc),.v (.int .u8 x2),.v (.int .u8 x3),.v (.int .u8 x4),.v (.int .i64 x5)]),hp⟩ fun x s'=>(x = .normal\/x = .ret)/\∃ ys,FA AM.P s'.fr s'.hp Tryd.f11.results.toList=some ys/\(fun v h'=>v = .v (.bool r)/\T h' (L)) (FZ ys) s'.hp:=by
 have he:=Bc
 unfold CF at h;refine Dw (Ef (s1:=⟨Fr 229 [(0,.sl 1 (x0.map (cdK .u8).enc)),(1,.sl 1 (x1.map (cdL 2 (EF (cdK .u8) (cdK .u8) (fun _=>rfl) (fun _=>rfl))).enc)),(2,.v (.int .u8 x2)),(3,.v (.int .u8 x3)),(4,.v (.int .u8 x4)),(5,.v (.int .i64 x5))],hp⟩) WkY.f1 ?_);refine AY he [(0,.sl 1 (x0.map (cdK .u8).enc)),(1,.sl 1 (x1.map (cdL 2 (EF (cdK .u8) (cdK .u8) (fun _=>rfl) (fun _=>rfl))).enc)),(2,.v (.int .u8 x2)),(3,.v (.int .u8 x3)),(4,.v (.int .u8 x4)),(5,.v (.int .i64 x5))] ?_;refine AD ?_;refine AC ?_;refine AH he 2 ?_;obtain ⟨v1,hv1,h⟩:=OB h;refine RunL.call he (fid:=25) (b:=v1) (s:=H5) (F:=fun a=>GM a.1 a.2.1) (er:=H6) (xs:=[.sl 1 (x0.map (cdK .u8).enc),.sl 1 (x1.map (cdL 2 (EF (cdK .u8) (cdK .u8) (fun _=>rfl) (fun _=>rfl))).enc)]) (a:=(x0,x1,())) rfl (AA rfl) kr kr kr kr (Sns.cons (Sn.enc (c:=(cdL 1 (cdK .u8))) (v:=x0)) (Sns.cons (Sn.enc (c:=(cdL 1 (cdL 2 (EF (cdK .u8) (cdK .u8) (fun _=>rfl) (fun _=>rfl))))) (v:=x1)) Sns.nil)) (.inl kr) hv1 ?_;refine AS he [(2,.v (.int .u8 x2)),(3,.v (.int .u8 x3)),(4,.v (.int .u8 x4)),(5,.v (.int .i64 x5)),(13,.sl 1 (v1.1.map (cdL 1 (cdL 1 cdI)).enc)),(14,.sl 1 (v1.2.1.map cdI.enc)),(15,.v (.int .i64 v1.2.2))] ?_;refine AD ?_;refine AD ?_;refine AC ?_;refine AH he 1 ?_;refine AG he 0 rfl (Am (AA rfl) rfl (BZ (a:= .sl 1 (v1.1.map (cdL 1 (cdL 1 cdI)).enc)) kr (Aw (el:=50) kr))) ?_;refine AS he [(2,.v (.int .u8 x2)),(3,.v (.int .u8 x3)),(4,.v (.int .u8 x4)),(5,.v (.int .i64 x5)),(13,.sl 1 (v1.1.map (cdL 1 (cdL 1 cdI)).enc)),(14,.sl 1 (v1.2.1.map cdI.enc)),(15,.v (.int .i64 v1.2.2)),(39,.v (.bool ((v1.1.length:Int)==0)))] ?_;refine Ab (b:=((v1.1.length:Int)==0)) kr (fun hb2=>?_) (fun hb2=>?_)
 ·rw [if_pos hb2] at h
  refine AD ?_;obtain ⟨v3,hv3,h⟩:=OB h;obtain ⟨j5,hj5,h⟩:=OB h;refine KF (A:=fun s1=>∃ (h':Hp),T h' (L)/\s1=⟨Fr 229 [(12,.v (.bool j5))],h'⟩) ?_ ?_
  ·refine AH he 2 ?_
   refine RunL.call he (fid:=17) (b:=v3) (s:=FD) (F:=fun a=>BY a.1 a.2.1) (er:=FI) (xs:=[.v (.int .i64 v1.2.2),.sl 1 (v1.1.map (cdL 1 (cdL 1 cdI)).enc)]) (a:=(v1.2.2,v1.1,())) rfl (AA rfl) kr kr kr kr (Sns.cons (Sn.enc (c:=cdI) (v:=v1.2.2)) (Sns.cons (Sn.enc (c:=(cdL 1 (cdL 1 (cdL 1 cdI)))) (v:=v1.1)) Sns.nil)) (.inl kr) hv3 ?_;refine EW (n:=229) he 2 [(44,.v (.bool (v3==[])))] hp kr ?_;rcases BE (v3==[]) with hc9 | hc9
   ·rw [if_pos hc9] at hj5
    rw [hc9];obtain ⟨v4,hv4,hj5⟩:=OB hj5;refine RunL.call he (fid:=13) (b:=v4) (s:=Is) (F:=fun a=>IY ) (er:=It) (xs:=[]) (a:=(())) rfl kr kr kr kr kr Sns.nil (.inl kr) hv4 ?_;refine AH he 2 ?_;have hq:=OI hj5; subst hq;exact AL rfl ⟨_,⟨hp,hT,rfl⟩,WkY.f1⟩
   ·rw [B9 hc9] at hj5
    rw [hc9];refine AH he 3 ?_;have hq:=OI hj5; subst hq;exact AL rfl ⟨_,⟨hp,hT,rfl⟩,WkY.f1⟩
  rintro _ ⟨hp7,hT8,rfl⟩;refine SemY.ret ?_;have hq:=OI h; subst hq;exact ⟨⟨Fr 229 [(12,.v (.bool j5))],hp7⟩,WkY.f1,.inr rfl,[.v (.bool j5)],kr,⟨rfl,hT8⟩⟩
 ·rw [B9 hb2] at h
  refine SemY.skip ?_;refine AD ?_;refine AC ?_;refine AH he 3 ?_;refine AG he 0 rfl (Am (AA rfl) rfl (BZ (a:= .sl 1 (v1.1.map (cdL 1 (cdL 1 cdI)).enc)) kr (Aw (el:=50) kr))) ?_;by_cases hz10:(v1.1.length:Int)=(0:Int)
  ·rw [if_pos hz10] at h; cases h
  rw [if_neg hz10] at h;refine AG he 0 rfl (Am (AA rfl) rfl (Sc (a:= .v (.int .i64 (wr .i64 x2))) (b:= .v (.int .i64 (v1.1.length:Int))) kr kr (Nl hz10))) ?_;refine AS he [(3,.v (.int .u8 x3)),(4,.v (.int .u8 x4)),(5,.v (.int .i64 x5)),(13,.sl 1 (v1.1.map (cdL 1 (cdL 1 cdI)).enc)),(14,.sl 1 (v1.2.1.map cdI.enc)),(15,.v (.int .i64 v1.2.2)),(16,.v (.int .i64 ((wr .i64 x2).tmod (v1.1.length:Int))))] ?_;refine AD ?_;refine AC ?_;refine AH he 3 ?_;refine AG he 0 rfl (Am (AA rfl) rfl (BZ (a:= .sl 1 (v1.2.1.map cdI.enc)) kr (Aw (el:=3) kr))) ?_;by_cases hz11:(v1.2.1.length:Int)=(0:Int)
  ·rw [if_pos hz11] at h; cases h
  rw [if_neg hz11] at h;refine AG he 0 rfl (Am (AA rfl) rfl (Sc (a:= .v (.int .i64 (wr .i64 x3))) (b:= .v (.int .i64 (v1.2.1.length:Int))) kr kr (Nl hz11))) ?_;refine AS he [(4,.v (.int .u8 x4)),(5,.v (.int .i64 x5)),(13,.sl 1 (v1.1.map (cdL 1 (cdL 1 cdI)).enc)),(14,.sl 1 (v1.2.1.map cdI.enc)),(15,.v (.int .i64 v1.2.2)),(16,.v (.int .i64 ((wr .i64 x2).tmod (v1.1.length:Int)))),(17,.v (.int .i64 ((wr .i64 x3).tmod (v1.2.1.length:Int))))] ?_;refine AY he [(4,.v (.int .u8 x4)),(5,.v (.int .i64 x5)),(13,.sl 1 (v1.1.map (cdL 1 (cdL 1 cdI)).enc)),(14,.sl 1 (v1.2.1.map cdI.enc)),(15,.v (.int .i64 v1.2.2)),(16,.v (.int .i64 ((wr .i64 x2).tmod (v1.1.length:Int)))),(17,.v (.int .i64 ((wr .i64 x3).tmod (v1.2.1.length:Int)))),(18,.v (.int .i64 2))] ?_;refine AD ?_;refine AC ?_;refine AH he 2 ?_;obtain ⟨v12,hv12,h⟩:=OB h;refine AG he 0 rfl (Am (AA rfl) rfl (AF (a:= .sl 1 (v1.1.map (cdL 1 (cdL 1 cdI)).enc)) (b:= .v (.int .i64 ((wr .i64 x2).tmod (v1.1.length:Int)))) kr kr (DT (e:=(cdL 1 (cdL 1 cdI)).enc) (el:=50) (k:=1) (ki:= .i64) kr kr hv12))) ?_;refine AH he 2 ?_;obtain ⟨v13,hv13,h⟩:=OB h;refine AG he 0 rfl (Am (AA rfl) rfl (AF (a:= .sl 1 (v12.map (cdL 1 cdI).enc)) (b:= .v (.int .i64 ((wr .i64 x3).tmod (v1.2.1.length:Int)))) kr kr (DT (e:=(cdL 1 cdI).enc) (el:=31) (k:=1) (ki:= .i64) kr kr hv13))) ?_;refine AH he 1 ?_;by_cases hk14:(Bb 8 v13.length)=true
  case neg=>rw [if_neg hk14] at h; cases h
  rw [if_pos hk14] at h;refine I2 rfl rfl (OM v13 hk14) rfl (AA rfl) kr (xs:=[.sl 1 (v13.map cdI.enc)]) kr (Sees.cons (SeeV.enc (c:=cdL 1 cdI)) Sees.nil) I6 ?_;intro x h' hO; obtain ⟨e15,hp16,e15q,hp16q,hT17⟩:=L0 hT hO; rw [<-e15q,<-hp16q];refine AS he [(4,.v (.int .u8 x4)),(5,.v (.int .i64 x5)),(13,.sl 1 (v1.1.map (cdL 1 (cdL 1 cdI)).enc)),(14,.sl 1 (v1.2.1.map cdI.enc)),(15,.v (.int .i64 v1.2.2)),(16,.v (.int .i64 ((wr .i64 x2).tmod (v1.1.length:Int)))),(17,.v (.int .i64 ((wr .i64 x3).tmod (v1.2.1.length:Int)))),(18,.v (.int .i64 2)),(19,e15)] ?_;refine AD ?_;refine AY he [(5,.v (.int .i64 x5)),(13,.sl 1 (v1.1.map (cdL 1 (cdL 1 cdI)).enc)),(14,.sl 1 (v1.2.1.map cdI.enc)),(15,.v (.int .i64 v1.2.2)),(16,.v (.int .i64 ((wr .i64 x2).tmod (v1.1.length:Int)))),(17,.v (.int .i64 ((wr .i64 x3).tmod (v1.2.1.length:Int)))),(18,.v (.int .i64 2)),(19,e15),(66,.v (.int .u8 (x4.tmod 5)))] ?_;refine AR ?_;refine AY he [(5,.v (.int .i64 x5)),(13,.sl 1 (v1.1.map (cdL 1 (cdL 1 cdI)).enc)),(14,.sl 1 (v1.2.1.map cdI.enc)),(15,.v (.int .i64 v1.2.2)),(16,.v (.int .i64 ((wr .i64 x2).tmod (v1.1.length:Int)))),(17,.v (.int .i64 ((wr .i64 x3).tmod (v1.2.1.length:Int)))),(18,.v (.int .i64 2)),(19,e15),(66,.v (.int .u8 (x4.tmod 5))),(67,.v (.bool ((x4.tmod 5)==0)))] ?_;obtain ⟨r77,hr77,h⟩:=OB h;refine GQ (JH x2 x4 x5 v1 v13 x3 e15 _ hr77 hT17) ?_;rintro _ ⟨hp78,hT79,rfl⟩;refine AD ?_;refine AC ?_;refine AH he 1 ?_;obtain ⟨v80,hv80,h⟩:=OB h;refine CO (E:=AM) (e:=CW) rfl rfl FF rfl rfl (fid:=14) (caps:=[]) (xs:=[.sl 1 (v1.1.map (cdL 1 (cdL 1 cdI)).enc)]) (fn:=Tryd.f14) (c:=GR) (Out:=fun v h'=>∃ (z0:AV),v=z0/\T h' ((own_ (ocL 1 50 (ocL 1 31 (ocV (cdL 1 cdI)))) z0 v80)::L)) rfl (AA rfl) kr kr kr kr (by show 1<=38; decide) (NH v1.1 _ hv80 hT79) ?_;rintro xx hp82 ⟨e81,hqhp82,hT83⟩; subst xx;refine AS he [(13,.sl 1 (v1.1.map (cdL 1 (cdL 1 cdI)).enc)),(14,.sl 1 (v1.2.1.map cdI.enc)),(15,.v (.int .i64 v1.2.2)),(16,.v (.int .i64 ((wr .i64 x2).tmod (v1.1.length:Int)))),(17,.v (.int .i64 ((wr .i64 x3).tmod (v1.2.1.length:Int)))),(18,.v (.int .i64 r77.1)),(19,.sl 1 (r77.2.map cdI.enc)),(20,e81)] ?_
  refine AD ?_;refine AC ?_;refine AH he 2 ?_;obtain ⟨v84,hv84,h⟩:=OB h;refine AG he 0 rfl (Am (AA rfl) rfl (AF (a:=e81) (b:= .v (.int .i64 ((wr .i64 x2).tmod (v1.1.length:Int)))) kr kr (Lp (bytes:=24) hT83 kr hv84))) ?_;obtain ⟨e85,hl86,hT87⟩:=IA (P:=Tryd.prog) (ty:=50) hT83 (AW hv84).2 kr kr;refine AG he 0 rfl (Am (AA rfl) rfl (A0 (p:=eAt e81 (((wr .i64 x2).tmod (v1.1.length:Int)).toNat)) kr hl86)) ?_;refine AH he 2 ?_;obtain ⟨v88,hv88,h⟩:=OB h;refine AG he 0 rfl (Am (AA rfl) rfl (AF (a:=e85) (b:= .v (.int .i64 ((wr .i64 x3).tmod (v1.2.1.length:Int)))) kr kr (Lp (bytes:=24) hT87 kr hv88))) ?_;obtain ⟨hp89,hs90,hT91⟩:=Ic (P:=Tryd.prog) (ty:=31) (y:= .sl 1 (r77.2.map cdI.enc)) (v':=r77.2) hT87 (AW hv88).2 kr kr kr;refine RunL.store he (y:=eAt e85 (((wr .i64 x3).tmod (v1.2.1.length:Int)).toNat)) (z:= .sl 1 (r77.2.map cdI.enc)) rfl (AA rfl) kr kr hs90 ?_;refine AL rfl (SemY.fr (l':=[(13,.sl 1 (v1.1.map (cdL 1 (cdL 1 cdI)).enc)),(14,.sl 1 (v1.2.1.map cdI.enc)),(15,.v (.int .i64 v1.2.2)),(16,.v (.int .i64 ((wr .i64 x2).tmod (v1.1.length:Int)))),(18,.v (.int .i64 r77.1)),(20,e81)]) kr ?_);refine AD ?_;refine AC ?_;refine AH he 2 ?_;obtain ⟨v93,hv93,h⟩:=OB h
  have hT92:=(T.merge hT91)
  refine MZ he (fid:=27) (b:=v93) (s:=BT) (F:=fun a=>AT a.1 a.2.1 a.2.2.1) (er:=BX) (xs:=[.v (.int .i64 v1.2.2),.e0,e81]) (a:=(v1.2.2,[],(v80.set (((wr .i64 x2).tmod (v1.1.length:Int)).toNat) (v84.set (((wr .i64 x3).tmod (v1.2.1.length:Int)).toNat) r77.2)),())) rfl (AA rfl) kr kr kr (CR (H4 (c:=cdI) (v:=v1.2.2)) (CR SeeD.e0 (CR (SeeD.own hT92 (i:=0) rfl) SeesD.nil))) kr (by dsimp only; exact hv93) ?_;refine AS he [(13,.sl 1 (v1.1.map (cdL 1 (cdL 1 cdI)).enc)),(14,.sl 1 (v1.2.1.map cdI.enc)),(15,.v (.int .i64 v1.2.2)),(16,.v (.int .i64 ((wr .i64 x2).tmod (v1.1.length:Int)))),(18,.v (.int .i64 r77.1)),(20,e81),(21,.v (.int .i64 v93.1)),(22,.v (.int .i64 v93.2))] ?_;refine AD ?_;refine AC ?_;refine AH he 2 ?_;obtain ⟨hp94,hw95,hT96⟩:=DK (E:=AM) (n:=229) (l:=[(13,.sl 1 (v1.1.map (cdL 1 (cdL 1 cdI)).enc)),(14,.sl 1 (v1.2.1.map cdI.enc)),(15,.v (.int .i64 v1.2.2)),(16,.v (.int .i64 ((wr .i64 x2).tmod (v1.1.length:Int)))),(18,.v (.int .i64 r77.1)),(20,e81),(21,.v (.int .i64 v93.1)),(22,.v (.int .i64 v93.2)),(113,.v (.int .i64 v1.2.2)),(114,e81)]) (l':=[(13,.sl 1 (v1.1.map (cdL 1 (cdL 1 cdI)).enc)),(14,.sl 1 (v1.2.1.map cdI.enc)),(15,.v (.int .i64 v1.2.2)),(16,.v (.int .i64 ((wr .i64 x2).tmod (v1.1.length:Int)))),(18,.v (.int .i64 r77.1)),(20,.sl 1 ((v80.set (((wr .i64 x2).tmod (v1.1.length:Int)).toNat) (v84.set (((wr .i64 x3).tmod (v1.2.1.length:Int)).toNat) r77.2)).map (cdL 1 (cdL 1 cdI)).enc)),(21,.v (.int .i64 v93.1)),(22,.v (.int .i64 v93.2)),(113,.v (.int .i64 v1.2.2)),(114,.sl 1 ((v80.set (((wr .i64 x2).tmod (v1.1.length:Int)).toNat) (v84.set (((wr .i64 x3).tmod (v1.2.1.length:Int)).toNat) r77.2)).map (cdL 1 (cdL 1 cdI)).enc))]) hT92 (LkT.at_ ⟨.inl kr,.inl kr,.inl kr,.inl kr,.inl kr,.inr ⟨kr,rfl⟩,.inl kr,.inl kr,.inl kr,.inr ⟨kr,rfl⟩,trivial⟩);refine Ma (WkY.trans WkY.f1 hw95) ?_;obtain ⟨v97,hv97,h⟩:=OB h;refine RunL.call he (fid:=29) (b:=v97) (s:=GU) (F:=fun a=>Ci a.1 a.2.1 a.2.2.1) (er:=Gd) (xs:=[.v (.int .i64 v1.2.2),.sl 1 ((v80.set (((wr .i64 x2).tmod (v1.1.length:Int)).toNat) (v84.set (((wr .i64 x3).tmod (v1.2.1.length:Int)).toNat) r77.2)).map (cdL 1 (cdL 1 cdI)).enc),.e0]) (a:=(v1.2.2,(v80.set (((wr .i64 x2).tmod (v1.1.length:Int)).toNat) (v84.set (((wr .i64 x3).tmod (v1.2.1.length:Int)).toNat) r77.2)),[],())) rfl (AA rfl) kr kr kr kr (Sns.cons (Sn.enc (c:=cdI) (v:=v1.2.2)) (Sns.cons (Sn.enc (c:=(cdL 1 (cdL 1 (cdL 1 cdI)))) (v:=(v80.set (((wr .i64 x2).tmod (v1.1.length:Int)).toNat) (v84.set (((wr .i64 x3).tmod (v1.2.1.length:Int)).toNat) r77.2)))) (Sns.cons Sn.e0 Sns.nil))) (.inl kr) (by dsimp only; exact hv97) ?_
  refine AS he [(13,.sl 1 (v1.1.map (cdL 1 (cdL 1 cdI)).enc)),(14,.sl 1 (v1.2.1.map cdI.enc)),(15,.v (.int .i64 v1.2.2)),(16,.v (.int .i64 ((wr .i64 x2).tmod (v1.1.length:Int)))),(18,.v (.int .i64 r77.1)),(20,.sl 1 ((v80.set (((wr .i64 x2).tmod (v1.1.length:Int)).toNat) (v84.set (((wr .i64 x3).tmod (v1.2.1.length:Int)).toNat) r77.2)).map (cdL 1 (cdL 1 cdI)).enc)),(21,.v (.int .i64 v93.1)),(22,.v (.int .i64 v93.2)),(24,.v (.int .i64 v97.2))] ?_;refine AD ?_;refine AC ?_;refine AH he 2 ?_;obtain ⟨v98,hv98,h⟩:=OB h;refine RunL.call he (fid:=26) (b:=v98) (s:=HF) (F:=fun a=>C7 a.1 a.2.1 a.2.2.1) (er:=HJ) (xs:=[.v (.int .i64 v1.2.2),.sl 1 ((v80.set (((wr .i64 x2).tmod (v1.1.length:Int)).toNat) (v84.set (((wr .i64 x3).tmod (v1.2.1.length:Int)).toNat) r77.2)).map (cdL 1 (cdL 1 cdI)).enc),.v (.int .i64 3)]) (a:=(v1.2.2,(v80.set (((wr .i64 x2).tmod (v1.1.length:Int)).toNat) (v84.set (((wr .i64 x3).tmod (v1.2.1.length:Int)).toNat) r77.2)),3,())) rfl (AA rfl) kr kr kr kr (Sns.cons (Sn.enc (c:=cdI) (v:=v1.2.2)) (Sns.cons (Sn.enc (c:=(cdL 1 (cdL 1 (cdL 1 cdI)))) (v:=(v80.set (((wr .i64 x2).tmod (v1.1.length:Int)).toNat) (v84.set (((wr .i64 x3).tmod (v1.2.1.length:Int)).toNat) r77.2)))) (Sns.cons (Sn.enc (c:=cdI) (v:=3)) Sns.nil))) (.inl kr) (by dsimp only; exact hv98) ?_;refine AS he [(13,.sl 1 (v1.1.map (cdL 1 (cdL 1 cdI)).enc)),(14,.sl 1 (v1.2.1.map cdI.enc)),(15,.v (.int .i64 v1.2.2)),(16,.v (.int .i64 ((wr .i64 x2).tmod (v1.1.length:Int)))),(18,.v (.int .i64 r77.1)),(20,.sl 1 ((v80.set (((wr .i64 x2).tmod (v1.1.length:Int)).toNat) (v84.set (((wr .i64 x3).tmod (v1.2.1.length:Int)).toNat) r77.2)).map (cdL 1 (cdL 1 cdI)).enc)),(21,.v (.int .i64 v93.1)),(22,.v (.int .i64 v93.2)),(24,.v (.int .i64 v97.2)),(27,.v (.int .i64 v98.2.2))] ?_;refine AD ?_;refine AC ?_;refine AH he 3 ?_;obtain ⟨v99,hv99,h⟩:=OB h;refine RunL.call he (fid:=30) (b:=v99) (s:=IN) (F:=fun a=>EJ a.1 a.2.1 a.2.2.1) (er:=IS) (xs:=[.v (.int .i64 v1.2.2),.sl 1 (v1.1.map (cdL 1 (cdL 1 cdI)).enc),.sl 1 ((v80.set (((wr .i64 x2).tmod (v1.1.length:Int)).toNat) (v84.set (((wr .i64 x3).tmod (v1.2.1.length:Int)).toNat) r77.2)).map (cdL 1 (cdL 1 cdI)).enc)]) (a:=(v1.2.2,v1.1,(v80.set (((wr .i64 x2).tmod (v1.1.length:Int)).toNat) (v84.set (((wr .i64 x3).tmod (v1.2.1.length:Int)).toNat) r77.2)),())) rfl (AA rfl) kr kr kr kr (Sns.cons (Sn.enc (c:=cdI) (v:=v1.2.2)) (Sns.cons (Sn.enc (c:=(cdL 1 (cdL 1 (cdL 1 cdI)))) (v:=v1.1)) (Sns.cons (Sn.enc (c:=(cdL 1 (cdL 1 (cdL 1 cdI)))) (v:=(v80.set (((wr .i64 x2).tmod (v1.1.length:Int)).toNat) (v84.set (((wr .i64 x3).tmod (v1.2.1.length:Int)).toNat) r77.2)))) Sns.nil))) (.inl kr) (by dsimp only; exact hv99) ?_
  refine AS he [(13,.sl 1 (v1.1.map (cdL 1 (cdL 1 cdI)).enc)),(14,.sl 1 (v1.2.1.map cdI.enc)),(15,.v (.int .i64 v1.2.2)),(16,.v (.int .i64 ((wr .i64 x2).tmod (v1.1.length:Int)))),(18,.v (.int .i64 r77.1)),(20,.sl 1 ((v80.set (((wr .i64 x2).tmod (v1.1.length:Int)).toNat) (v84.set (((wr .i64 x3).tmod (v1.2.1.length:Int)).toNat) r77.2)).map (cdL 1 (cdL 1 cdI)).enc)),(21,.v (.int .i64 v93.1)),(22,.v (.int .i64 v93.2)),(24,.v (.int .i64 v97.2)),(27,.v (.int .i64 v98.2.2)),(29,.v (.int .i64 v99.2))] ?_;refine AD ?_;refine AD ?_;obtain ⟨j107,hj107,h⟩:=OB h;refine KF (A:=fun s1=>∃ (h':Hp),T h' (L)/\s1=⟨Fr 229 [(13,.sl 1 (v1.1.map (cdL 1 (cdL 1 cdI)).enc)),(14,.sl 1 (v1.2.1.map cdI.enc)),(15,.v (.int .i64 v1.2.2)),(20,.sl 1 ((v80.set (((wr .i64 x2).tmod (v1.1.length:Int)).toNat) (v84.set (((wr .i64 x3).tmod (v1.2.1.length:Int)).toNat) r77.2)).map (cdL 1 (cdL 1 cdI)).enc)),(188,.v (.bool j107))],h'⟩) ?_ ?_
  ·refine EW (n:=229) he 4 [(13,.sl 1 (v1.1.map (cdL 1 (cdL 1 cdI)).enc)),(14,.sl 1 (v1.2.1.map cdI.enc)),(15,.v (.int .i64 v1.2.2)),(18,.v (.int .i64 r77.1)),(20,.sl 1 ((v80.set (((wr .i64 x2).tmod (v1.1.length:Int)).toNat) (v84.set (((wr .i64 x3).tmod (v1.2.1.length:Int)).toNat) r77.2)).map (cdL 1 (cdL 1 cdI)).enc)),(22,.v (.int .i64 v93.2)),(24,.v (.int .i64 v97.2)),(27,.v (.int .i64 v98.2.2)),(29,.v (.int .i64 v99.2)),(135,.v (.bool (v93.1 != ((wr .i64 x2).tmod (v1.1.length:Int)))))] hp94 kr ?_
   rcases BE (v93.1 != ((wr .i64 x2).tmod (v1.1.length:Int))) with hc158 | hc158
   ·rw [if_pos hc158] at hj107
    rw [hc158];refine AH he 53 ?_;have hq:=OI hj107; subst hq;exact AL rfl ⟨_,⟨hp94,hT96,rfl⟩,WkY.f1⟩
   ·rw [B9 hc158] at hj107
    rw [hc158];refine EW (n:=229) he 5 [(13,.sl 1 (v1.1.map (cdL 1 (cdL 1 cdI)).enc)),(14,.sl 1 (v1.2.1.map cdI.enc)),(15,.v (.int .i64 v1.2.2)),(18,.v (.int .i64 r77.1)),(20,.sl 1 ((v80.set (((wr .i64 x2).tmod (v1.1.length:Int)).toNat) (v84.set (((wr .i64 x3).tmod (v1.2.1.length:Int)).toNat) r77.2)).map (cdL 1 (cdL 1 cdI)).enc)),(24,.v (.int .i64 v97.2)),(27,.v (.int .i64 v98.2.2)),(29,.v (.int .i64 v99.2)),(140,.v (.bool (v93.2 != r77.1)))] hp94 kr ?_;rcases BE (v93.2 != r77.1) with hc159 | hc159
    ·rw [if_pos hc159] at hj107
     rw [hc159];refine AH he 48 ?_;have hq:=OI hj107; subst hq;exact AL rfl ⟨_,⟨hp94,hT96,rfl⟩,WkY.f1⟩
    ·rw [B9 hc159] at hj107
     rw [hc159];refine EW (n:=229) he 5 [(13,.sl 1 (v1.1.map (cdL 1 (cdL 1 cdI)).enc)),(14,.sl 1 (v1.2.1.map cdI.enc)),(15,.v (.int .i64 v1.2.2)),(18,.v (.int .i64 r77.1)),(20,.sl 1 ((v80.set (((wr .i64 x2).tmod (v1.1.length:Int)).toNat) (v84.set (((wr .i64 x3).tmod (v1.2.1.length:Int)).toNat) r77.2)).map (cdL 1 (cdL 1 cdI)).enc)),(27,.v (.int .i64 v98.2.2)),(29,.v (.int .i64 v99.2)),(145,.v (.bool (v97.2 != r77.1)))] hp94 kr ?_;rcases BE (v97.2 != r77.1) with hc160 | hc160
     ·rw [if_pos hc160] at hj107
      rw [hc160];refine AH he 43 ?_;have hq:=OI hj107; subst hq;exact AL rfl ⟨_,⟨hp94,hT96,rfl⟩,WkY.f1⟩
     ·rw [B9 hc160] at hj107
      rw [hc160];refine EW (n:=229) he 5 [(13,.sl 1 (v1.1.map (cdL 1 (cdL 1 cdI)).enc)),(14,.sl 1 (v1.2.1.map cdI.enc)),(15,.v (.int .i64 v1.2.2)),(18,.v (.int .i64 r77.1)),(20,.sl 1 ((v80.set (((wr .i64 x2).tmod (v1.1.length:Int)).toNat) (v84.set (((wr .i64 x3).tmod (v1.2.1.length:Int)).toNat) r77.2)).map (cdL 1 (cdL 1 cdI)).enc)),(29,.v (.int .i64 v99.2)),(150,.v (.bool (v98.2.2 != r77.1)))] hp94 kr ?_;rcases BE (v98.2.2 != r77.1) with hc161 | hc161
      ·rw [if_pos hc161] at hj107
       rw [hc161];refine AH he 38 ?_;have hq:=OI hj107; subst hq;exact AL rfl ⟨_,⟨hp94,hT96,rfl⟩,WkY.f1⟩
      ·rw [B9 hc161] at hj107
       rw [hc161];refine EW (n:=229) he 5 [(13,.sl 1 (v1.1.map (cdL 1 (cdL 1 cdI)).enc)),(14,.sl 1 (v1.2.1.map cdI.enc)),(15,.v (.int .i64 v1.2.2)),(20,.sl 1 ((v80.set (((wr .i64 x2).tmod (v1.1.length:Int)).toNat) (v84.set (((wr .i64 x3).tmod (v1.2.1.length:Int)).toNat) r77.2)).map (cdL 1 (cdL 1 cdI)).enc)),(155,.v (.bool (v99.2 != r77.1)))] hp94 kr ?_;rcases BE (v99.2 != r77.1) with hc162 | hc162
       ·rw [if_pos hc162] at hj107
        rw [hc162];refine AH he 33 ?_;have hq:=OI hj107; subst hq;exact AL rfl ⟨_,⟨hp94,hT96,rfl⟩,WkY.f1⟩
       ·rw [B9 hc162] at hj107
        rw [hc162];refine AH he 2 ?_;obtain ⟨v100,hv100,hj107⟩:=OB hj107;refine RunL.call he (fid:=31) (b:=v100) (s:=GS) (F:=fun a=>EK a.1 a.2.1) (er:=Gb) (xs:=[.v (.int .i64 v1.2.2),.sl 1 ((v80.set (((wr .i64 x2).tmod (v1.1.length:Int)).toNat) (v84.set (((wr .i64 x3).tmod (v1.2.1.length:Int)).toNat) r77.2)).map (cdL 1 (cdL 1 cdI)).enc)]) (a:=(v1.2.2,(v80.set (((wr .i64 x2).tmod (v1.1.length:Int)).toNat) (v84.set (((wr .i64 x3).tmod (v1.2.1.length:Int)).toNat) r77.2)),())) rfl kr kr kr kr kr (Sns.cons (Sn.enc (c:=cdI) (v:=v1.2.2)) (Sns.cons (Sn.enc (c:=(cdL 1 (cdL 1 (cdL 1 cdI)))) (v:=(v80.set (((wr .i64 x2).tmod (v1.1.length:Int)).toNat) (v84.set (((wr .i64 x3).tmod (v1.2.1.length:Int)).toNat) r77.2)))) Sns.nil)) (.inl kr) (by dsimp only; exact hv100) ?_;refine AG he 0 rfl (Am kr rfl (BZ (a:= .sl 1 (v100.map (cdL 1 cdI).enc)) kr (Aw (el:=31) kr))) ?_;refine AH he 2 ?_;obtain ⟨v101,hv101,hj107⟩:=OB hj107;refine RunL.call he (fid:=32) (b:=v101) (s:=FC) (F:=fun a=>C5 a.1 a.2.1) (er:=FH) (xs:=[.v (.int .i64 v1.2.2),.sl 1 ((v80.set (((wr .i64 x2).tmod (v1.1.length:Int)).toNat) (v84.set (((wr .i64 x3).tmod (v1.2.1.length:Int)).toNat) r77.2)).map (cdL 1 (cdL 1 cdI)).enc)]) (a:=(v1.2.2,(v80.set (((wr .i64 x2).tmod (v1.1.length:Int)).toNat) (v84.set (((wr .i64 x3).tmod (v1.2.1.length:Int)).toNat) r77.2)),())) rfl kr kr kr kr kr (Sns.cons (Sn.enc (c:=cdI) (v:=v1.2.2)) (Sns.cons (Sn.enc (c:=(cdL 1 (cdL 1 (cdL 1 cdI)))) (v:=(v80.set (((wr .i64 x2).tmod (v1.1.length:Int)).toNat) (v84.set (((wr .i64 x3).tmod (v1.2.1.length:Int)).toNat) r77.2)))) Sns.nil)) (.inl kr) (by dsimp only; exact hv101) ?_;refine AG he 0 rfl (Am kr rfl (BZ (a:= .sl 1 (v101.map (cdL 1 cdI).enc)) kr (Aw (el:=31) kr))) ?_;refine AH he 3 ?_;obtain ⟨v102,hv102,hj107⟩:=OB hj107;refine RunL.call he (fid:=39) (b:=v102) (s:=Fe) (F:=fun a=>Dh a.1 a.2.1) (er:=Fj) (xs:=[.v (.int .i64 v1.2.2),.sl 1 ((v80.set (((wr .i64 x2).tmod (v1.1.length:Int)).toNat) (v84.set (((wr .i64 x3).tmod (v1.2.1.length:Int)).toNat) r77.2)).map (cdL 1 (cdL 1 cdI)).enc)]) (a:=(v1.2.2,(v80.set (((wr .i64 x2).tmod (v1.1.length:Int)).toNat) (v84.set (((wr .i64 x3).tmod (v1.2.1.length:Int)).toNat) r77.2)),())) rfl kr kr kr kr kr (Sns.cons (Sn.enc (c:=cdI) (v:=v1.2.2)) (Sns.cons (Sn.enc (c:=(cdL 1 (cdL 1 (cdL 1 cdI)))) (v:=(v80.set (((wr .i64 x2).tmod (v1.1.length:Int)).toNat) (v84.set (((wr .i64 x3).tmod (v1.2.1.length:Int)).toNat) r77.2)))) Sns.nil)) (.inl kr) (by dsimp only; exact hv102) ?_
        refine AG he 0 rfl (Am kr rfl (BZ (a:= .sl 1 (v102.map (cdL 1 cdI).enc)) kr (Aw (el:=31) kr))) ?_;refine AH he 3 ?_;obtain ⟨v103,hv103,hj107⟩:=OB hj107;refine RunL.call he (fid:=33) (b:=v103) (s:=GT) (F:=fun a=>EL a.1 a.2.1) (er:=Gc) (xs:=[.v (.int .i64 v1.2.2),.sl 1 ((v80.set (((wr .i64 x2).tmod (v1.1.length:Int)).toNat) (v84.set (((wr .i64 x3).tmod (v1.2.1.length:Int)).toNat) r77.2)).map (cdL 1 (cdL 1 cdI)).enc)]) (a:=(v1.2.2,(v80.set (((wr .i64 x2).tmod (v1.1.length:Int)).toNat) (v84.set (((wr .i64 x3).tmod (v1.2.1.length:Int)).toNat) r77.2)),())) rfl kr kr kr kr kr (Sns.cons (Sn.enc (c:=cdI) (v:=v1.2.2)) (Sns.cons (Sn.enc (c:=(cdL 1 (cdL 1 (cdL 1 cdI)))) (v:=(v80.set (((wr .i64 x2).tmod (v1.1.length:Int)).toNat) (v84.set (((wr .i64 x3).tmod (v1.2.1.length:Int)).toNat) r77.2)))) Sns.nil)) (.inl kr) (by dsimp only; exact hv103) ?_;refine AH he 3 ?_;obtain ⟨v104,hv104,hj107⟩:=OB hj107;refine RunL.call he (fid:=40) (b:=v104) (s:=Ff) (F:=fun a=>Di a.1 a.2.1) (er:=Fk) (xs:=[.v (.int .i64 v1.2.2),.sl 1 ((v80.set (((wr .i64 x2).tmod (v1.1.length:Int)).toNat) (v84.set (((wr .i64 x3).tmod (v1.2.1.length:Int)).toNat) r77.2)).map (cdL 1 (cdL 1 cdI)).enc)]) (a:=(v1.2.2,(v80.set (((wr .i64 x2).tmod (v1.1.length:Int)).toNat) (v84.set (((wr .i64 x3).tmod (v1.2.1.length:Int)).toNat) r77.2)),())) rfl kr kr kr kr kr (Sns.cons (Sn.enc (c:=cdI) (v:=v1.2.2)) (Sns.cons (Sn.enc (c:=(cdL 1 (cdL 1 (cdL 1 cdI)))) (v:=(v80.set (((wr .i64 x2).tmod (v1.1.length:Int)).toNat) (v84.set (((wr .i64 x3).tmod (v1.2.1.length:Int)).toNat) r77.2)))) Sns.nil)) (.inl kr) (by dsimp only; exact hv104) ?_;refine AH he 3 ?_;obtain ⟨v105,hv105,hj107⟩:=OB hj107;refine RunL.call he (fid:=28) (b:=v105) (s:=FE) (F:=fun a=>C8 a.1 a.2.1) (er:=FJ) (xs:=[.v (.int .i64 v1.2.2),.sl 1 ((v80.set (((wr .i64 x2).tmod (v1.1.length:Int)).toNat) (v84.set (((wr .i64 x3).tmod (v1.2.1.length:Int)).toNat) r77.2)).map (cdL 1 (cdL 1 cdI)).enc)]) (a:=(v1.2.2,(v80.set (((wr .i64 x2).tmod (v1.1.length:Int)).toNat) (v84.set (((wr .i64 x3).tmod (v1.2.1.length:Int)).toNat) r77.2)),())) rfl kr kr kr kr kr (Sns.cons (Sn.enc (c:=cdI) (v:=v1.2.2)) (Sns.cons (Sn.enc (c:=(cdL 1 (cdL 1 (cdL 1 cdI)))) (v:=(v80.set (((wr .i64 x2).tmod (v1.1.length:Int)).toNat) (v84.set (((wr .i64 x3).tmod (v1.2.1.length:Int)).toNat) r77.2)))) Sns.nil)) (.inl kr) (by dsimp only; exact hv105) ?_
        refine AH he 3 ?_;obtain ⟨v106,hv106,hj107⟩:=OB hj107;refine RunL.call he (fid:=41) (b:=v106) (s:=EP) (F:=fun a=>CK a.1 a.2.1 a.2.2.1 a.2.2.2.1) (er:=ES) (xs:=[.v (.int .i64 v1.2.2),.sl 1 ((v80.set (((wr .i64 x2).tmod (v1.1.length:Int)).toNat) (v84.set (((wr .i64 x3).tmod (v1.2.1.length:Int)).toNat) r77.2)).map (cdL 1 (cdL 1 cdI)).enc),.v (.int .i64 0),.v (.int .i64 1)]) (a:=(v1.2.2,(v80.set (((wr .i64 x2).tmod (v1.1.length:Int)).toNat) (v84.set (((wr .i64 x3).tmod (v1.2.1.length:Int)).toNat) r77.2)),0,1,())) rfl kr kr kr kr kr (Sns.cons (Sn.enc (c:=cdI) (v:=v1.2.2)) (Sns.cons (Sn.enc (c:=(cdL 1 (cdL 1 (cdL 1 cdI)))) (v:=(v80.set (((wr .i64 x2).tmod (v1.1.length:Int)).toNat) (v84.set (((wr .i64 x3).tmod (v1.2.1.length:Int)).toNat) r77.2)))) (Sns.cons (Sn.enc (c:=cdI) (v:=0)) (Sns.cons (Sn.enc (c:=cdI) (v:=1)) Sns.nil)))) (.inl kr) (by dsimp only; exact hv106) ?_;refine AG he 0 rfl (Am kr rfl (BZ (a:= .sl 1 (v106.map cdI.enc)) kr (Aw (el:=3) kr))) ?_;refine AH he 3 ?_;have hq:=OI hj107; subst hq;exact AL rfl ⟨_,⟨hp94,hT96,rfl⟩,WkY.f1⟩
  rintro _ ⟨hp109,hT110,rfl⟩;refine Ab (b:=j107) kr (fun hb111=>?_) (fun hb111=>?_)
  ·rw [if_pos hb111] at h
   refine AY he [(12,.v (.bool false))] ?_;refine SemY.ret ?_;have hq:=OI h; subst hq;exact ⟨⟨Fr 229 [(12,.v (.bool false))],hp109⟩,WkY.f1,.inr rfl,[.v (.bool false)],kr,⟨rfl,hT110⟩⟩
  ·rw [B9 hb111] at h
   refine SemY.skip ?_;refine AD ?_;refine AC ?_;refine AH he 2 ?_;by_cases hk112:(Bb 8 v1.2.1.length)=true
   case neg=>rw [if_neg hk112] at h; cases h
   rw [if_pos hk112] at h;refine I2 rfl rfl (OM v1.2.1 hk112) rfl (AA rfl) kr (xs:=[.sl 1 (v1.2.1.map cdI.enc)]) kr (Sees.cons (SeeV.enc (c:=cdL 1 cdI)) Sees.nil) I6 ?_;intro x h' hO; obtain ⟨e113,hp114,e113q,hp114q,hT115⟩:=L0 hT110 hO; rw [<-e113q,<-hp114q];obtain ⟨e119,hp116,hb117,hT118⟩:=Ft (P:=Tryd.prog) (bytes:=8) (k:=1) (t:=3) (ty:=31) (xs:=([1]:List Int)) (n:=1) (PJ (k:=1) (fun _=>⟨rfl,rfl,rfl⟩)) (Fh (c:=cdI) (xs:=([1]:List Int)) hT115) rfl kr kr kr;refine AG he 0 rfl (OW (AA rfl) rfl kr (NL (xs:=J5 0 [.v (.int .i64 1)]) kr hb117)) ?_;by_cases hk124:(Bb 8 (v1.2.1.length + ([1]:List Int).length))=true
   case neg=>rw [if_neg hk124] at h; cases h
   rw [if_pos hk124] at h
   have hT125:=((hT118.front 0 rfl).front 1 rfl)
   obtain ⟨e123,hp120,hb121,hT122⟩:=If (P:=Tryd.prog) (ty:=31) (ty2:=31) (bytes:=8) hT125 kr kr hk124;refine AG he 0 rfl (Ox (AA rfl) rfl kr kr (DO (a:=e113) (b:=e119) kr kr hb121)) ?_;refine AH he 1 ?_;obtain ⟨v126,hv126,h⟩:=OB h;refine MZ he (fid:=27) (b:=v126) (s:=BT) (F:=fun a=>AT a.1 a.2.1 a.2.2.1) (er:=BX) (xs:=[.v (.int .i64 v1.2.2),e123,.sl 1 (v1.1.map (cdL 1 (cdL 1 cdI)).enc)]) (a:=(v1.2.2,(v1.2.1++([1]:List Int)),v1.1,())) rfl (AA rfl) kr kr kr (CR (H4 (c:=cdI) (v:=v1.2.2)) (CR (SeeD.own hT122 (i:=0) rfl) (CR (H4 (c:=(cdL 1 (cdL 1 (cdL 1 cdI)))) (v:=v1.1)) SeesD.nil))) kr hv126 ?_;refine AS he [(13,.sl 1 (v1.1.map (cdL 1 (cdL 1 cdI)).enc)),(14,.sl 1 (v1.2.1.map cdI.enc)),(15,.v (.int .i64 v1.2.2)),(20,.sl 1 ((v80.set (((wr .i64 x2).tmod (v1.1.length:Int)).toNat) (v84.set (((wr .i64 x3).tmod (v1.2.1.length:Int)).toNat) r77.2)).map (cdL 1 (cdL 1 cdI)).enc)),(22,.v (.int .i64 v126.2))] ?_;refine AD ?_;refine AC ?_;refine AH he 1 ?_;obtain ⟨e130,hp127,hb128,hT129⟩:=Ft (P:=Tryd.prog) (bytes:=8) (k:=1) (t:=3) (ty:=31) (xs:=([1]:List Int)) (n:=1) (PJ (k:=1) (fun _=>⟨rfl,rfl,rfl⟩)) (Fh (c:=cdI) (xs:=([1]:List Int)) hT122) rfl kr kr kr;refine AG he 0 rfl (OW (AA rfl) rfl kr (NL (xs:=J5 0 [.v (.int .i64 1)]) kr hb128)) ?_;refine AH he 1 ?_;obtain ⟨hp131,hw132,hT133⟩:=DK (E:=AM) (n:=229) (l:=[(13,.sl 1 (v1.1.map (cdL 1 (cdL 1 cdI)).enc)),(14,.sl 1 (v1.2.1.map cdI.enc)),(15,.v (.int .i64 v1.2.2)),(20,.sl 1 ((v80.set (((wr .i64 x2).tmod (v1.1.length:Int)).toNat) (v84.set (((wr .i64 x3).tmod (v1.2.1.length:Int)).toNat) r77.2)).map (cdL 1 (cdL 1 cdI)).enc)),(22,.v (.int .i64 v126.2)),(200,.v (.int .i64 v1.2.2)),(201,e130),(202,.v (.int .i64 v1.2.2))]) (l':=[(13,.sl 1 (v1.1.map (cdL 1 (cdL 1 cdI)).enc)),(14,.sl 1 (v1.2.1.map cdI.enc)),(15,.v (.int .i64 v1.2.2)),(20,.sl 1 ((v80.set (((wr .i64 x2).tmod (v1.1.length:Int)).toNat) (v84.set (((wr .i64 x3).tmod (v1.2.1.length:Int)).toNat) r77.2)).map (cdL 1 (cdL 1 cdI)).enc)),(22,.v (.int .i64 v126.2)),(200,.v (.int .i64 v1.2.2)),(201,.sl 1 (([1]:List Int).map cdI.enc)),(202,.v (.int .i64 v1.2.2))]) hT129 (LkT.at_ ⟨.inl kr,.inl kr,.inl kr,.inl kr,.inl kr,.inl kr,.inr ⟨kr,rfl⟩,.inl kr,trivial⟩)
   refine Ma (WkY.trans WkY.f1 hw132) ?_;obtain ⟨v134,hv134,h⟩:=OB h;refine RunL.call he (fid:=42) (b:=v134) (s:=DM) (F:=fun a=>BI a.1 a.2.1) (er:=CQ) (xs:=[.sl 1 (([1]:List Int).map cdI.enc),.v (.int .i64 v1.2.2)]) (a:=(([1]:List Int),v1.2.2,())) rfl (AA rfl) kr kr kr kr (Sns.cons (Sn.enc (c:=(cdL 1 cdI)) (v:=([1]:List Int))) (Sns.cons (Sn.enc (c:=cdI) (v:=v1.2.2)) Sns.nil)) (.inl kr) hv134 ?_;refine AH he 1 ?_;obtain ⟨v135,hv135,h⟩:=OB h;refine RunL.call he (fid:=27) (b:=v135) (s:=BT) (F:=fun a=>AT a.1 a.2.1 a.2.2.1) (er:=BX) (xs:=[.v (.int .i64 v1.2.2),.sl 1 (v134.map cdI.enc),.sl 1 (v1.1.map (cdL 1 (cdL 1 cdI)).enc)]) (a:=(v1.2.2,v134,v1.1,())) rfl (AA rfl) kr kr kr kr (Sns.cons (Sn.enc (c:=cdI) (v:=v1.2.2)) (Sns.cons (Sn.enc (c:=(cdL 1 cdI)) (v:=v134)) (Sns.cons (Sn.enc (c:=(cdL 1 (cdL 1 (cdL 1 cdI)))) (v:=v1.1)) Sns.nil))) (.inl kr) hv135 ?_;refine AS he [(14,.sl 1 (v1.2.1.map cdI.enc)),(15,.v (.int .i64 v1.2.2)),(20,.sl 1 ((v80.set (((wr .i64 x2).tmod (v1.1.length:Int)).toNat) (v84.set (((wr .i64 x3).tmod (v1.2.1.length:Int)).toNat) r77.2)).map (cdL 1 (cdL 1 cdI)).enc)),(22,.v (.int .i64 v126.2)),(24,.v (.int .i64 v135.2))] ?_;refine AD ?_;obtain ⟨j147,hj147,h⟩:=OB h;refine KF (A:=fun s1=>∃ (h':Hp),T h' (L)/\s1=⟨Fr 229 [(12,.v (.bool j147))],h'⟩) ?_ ?_
   ·refine EW (n:=229) he 3 [(14,.sl 1 (v1.2.1.map cdI.enc)),(15,.v (.int .i64 v1.2.2)),(20,.sl 1 ((v80.set (((wr .i64 x2).tmod (v1.1.length:Int)).toNat) (v84.set (((wr .i64 x3).tmod (v1.2.1.length:Int)).toNat) r77.2)).map (cdL 1 (cdL 1 cdI)).enc)),(24,.v (.int .i64 v135.2)),(210,.v (.bool (v126.2==90)))] hp131 kr ?_
    rcases BE (v126.2==90) with hc155 | hc155
    ·rw [if_pos hc155] at hj147
     rw [hc155];refine AH he 3 ?_;obtain ⟨e139,hp136,hb137,hT138⟩:=Ft (P:=Tryd.prog) (bytes:=8) (k:=1) (t:=3) (ty:=31) (xs:=([1]:List Int)) (n:=1) (PJ (k:=1) (fun _=>⟨rfl,rfl,rfl⟩)) (Fh (c:=cdI) (xs:=([1]:List Int)) hT133) rfl kr kr kr;refine AG he 0 rfl (OW kr rfl kr (NL (xs:=J5 0 [.v (.int .i64 1)]) kr hb137)) ?_;refine AH he 1 ?_;obtain ⟨hp140,hw141,hT142⟩:=DK (E:=AM) (n:=229) (l:=[(15,.v (.int .i64 v1.2.2)),(20,.sl 1 ((v80.set (((wr .i64 x2).tmod (v1.1.length:Int)).toNat) (v84.set (((wr .i64 x3).tmod (v1.2.1.length:Int)).toNat) r77.2)).map (cdL 1 (cdL 1 cdI)).enc)),(210,.v (.bool true)),(212,.v (.bool (v135.2==0))),(213,.sl 1 (v1.2.1.map cdI.enc)),(214,e139),(215,.v (.int .i64 v1.2.2))]) (l':=[(15,.v (.int .i64 v1.2.2)),(20,.sl 1 ((v80.set (((wr .i64 x2).tmod (v1.1.length:Int)).toNat) (v84.set (((wr .i64 x3).tmod (v1.2.1.length:Int)).toNat) r77.2)).map (cdL 1 (cdL 1 cdI)).enc)),(210,.v (.bool true)),(212,.v (.bool (v135.2==0))),(213,.sl 1 (v1.2.1.map cdI.enc)),(214,.sl 1 (([1]:List Int).map cdI.enc)),(215,.v (.int .i64 v1.2.2))]) hT138 (LkT.at_ ⟨.inl kr,.inl kr,.inl kr,.inl kr,.inl kr,.inr ⟨kr,rfl⟩,.inl kr,trivial⟩);refine Ma (WkY.trans WkY.f1 hw141) ?_;obtain ⟨v143,hv143,hj147⟩:=OB hj147;refine RunL.call he (fid:=42) (b:=v143) (s:=DM) (F:=fun a=>BI a.1 a.2.1) (er:=CQ) (xs:=[.sl 1 (([1]:List Int).map cdI.enc),.v (.int .i64 v1.2.2)]) (a:=(([1]:List Int),v1.2.2,())) rfl kr kr kr kr kr (Sns.cons (Sn.enc (c:=(cdL 1 cdI)) (v:=([1]:List Int))) (Sns.cons (Sn.enc (c:=cdI) (v:=v1.2.2)) Sns.nil)) (.inl kr) hv143 ?_;obtain ⟨v144,hv144,hj147⟩:=OB hj147;refine RunL.call he (fid:=43) (b:=v144) (s:=GW) (F:=fun a=>EN a.1 a.2.1) (er:=Gf) (xs:=[.sl 1 (v1.2.1.map cdI.enc),.sl 1 (v143.map cdI.enc)]) (a:=(v1.2.1,v143,())) rfl kr kr kr kr kr (Sns.cons (Sn.enc (c:=(cdL 1 cdI)) (v:=v1.2.1)) (Sns.cons (Sn.enc (c:=(cdL 1 cdI)) (v:=v143)) Sns.nil)) (.inl kr) hv144 ?_
     refine EW (n:=229) he 3 [(15,.v (.int .i64 v1.2.2)),(20,.sl 1 ((v80.set (((wr .i64 x2).tmod (v1.1.length:Int)).toNat) (v84.set (((wr .i64 x3).tmod (v1.2.1.length:Int)).toNat) r77.2)).map (cdL 1 (cdL 1 cdI)).enc)),(220,.v (.bool ((v135.2==0)==v144)))] hp140 kr ?_;rcases BE ((v135.2==0)==v144) with hc156 | hc156
     ·rw [if_pos hc156] at hj147
      rw [hc156];refine AH he 2 ?_;obtain ⟨v145,hv145,hj147⟩:=OB hj147;refine RunL.call he (fid:=17) (b:=v145) (s:=FD) (F:=fun a=>BY a.1 a.2.1) (er:=FI) (xs:=[.v (.int .i64 v1.2.2),.sl 1 ((v80.set (((wr .i64 x2).tmod (v1.1.length:Int)).toNat) (v84.set (((wr .i64 x3).tmod (v1.2.1.length:Int)).toNat) r77.2)).map (cdL 1 (cdL 1 cdI)).enc)]) (a:=(v1.2.2,(v80.set (((wr .i64 x2).tmod (v1.1.length:Int)).toNat) (v84.set (((wr .i64 x3).tmod (v1.2.1.length:Int)).toNat) r77.2)),())) rfl kr kr kr kr kr (Sns.cons (Sn.enc (c:=cdI) (v:=v1.2.2)) (Sns.cons (Sn.enc (c:=(cdL 1 (cdL 1 (cdL 1 cdI)))) (v:=(v80.set (((wr .i64 x2).tmod (v1.1.length:Int)).toNat) (v84.set (((wr .i64 x3).tmod (v1.2.1.length:Int)).toNat) r77.2)))) Sns.nil)) (.inl kr) (by dsimp only; exact hv145) ?_;refine EW (n:=229) he 3 [(226,.v (.bool (v145==[])))] hp140 kr ?_;rcases BE (v145==[]) with hc157 | hc157
      ·rw [if_pos hc157] at hj147
       rw [hc157];obtain ⟨v146,hv146,hj147⟩:=OB hj147;refine RunL.call he (fid:=13) (b:=v146) (s:=Is) (F:=fun a=>IY ) (er:=It) (xs:=[]) (a:=(())) rfl kr kr kr kr kr Sns.nil (.inl kr) hv146 ?_;refine AH he 2 ?_;have hq:=OI hj147; subst hq
       have hT149:=hT142.drop
       exact AL rfl ⟨_,⟨hp140,hT149,rfl⟩,WkY.f1⟩
      ·rw [B9 hc157] at hj147
       rw [hc157];refine AH he 3 ?_;have hq:=OI hj147; subst hq
       have hT150:=hT142.drop
       exact AL rfl ⟨_,⟨hp140,hT150,rfl⟩,WkY.f1⟩
     ·rw [B9 hc156] at hj147
      rw [hc156];refine AH he 9 ?_;have hq:=OI hj147; subst hq
      have hT151:=hT142.drop
      exact AL rfl ⟨_,⟨hp140,hT151,rfl⟩,WkY.f1⟩
    ·rw [B9 hc155] at hj147
     rw [hc155];refine AH he 19 ?_;have hq:=OI hj147; subst hq
     have hT152:=hT133.drop
     exact AL rfl ⟨_,⟨hp131,hT152,rfl⟩,WkY.f1⟩
   rintro _ ⟨hp153,hT154,rfl⟩;refine SemY.ret ?_;have hq:=OI h; subst hq;exact ⟨⟨Fr 229 [(12,.v (.bool j147))],hp153⟩,WkY.f1,.inr rfl,[.v (.bool j147)],kr,⟨rfl,hT154⟩⟩
def Db:Cs ((List Int)×(List (List (Int×Int)))×Int×Int×Int×Int×Unit):=(csC (cdL 1 (cdK .u8)) (csC (cdL 1 (cdL 2 (EF (cdK .u8) (cdK .u8) (fun _=>rfl) (fun _=>rfl)))) (csC (cdK .u8) (csC (cdK .u8) (csC (cdK .u8) (csC cdI csN))))))
def E1 (r:Bool):AV:=cdB.enc r
def LH:List AV->Option AV:=GP Db (fun a=>CF a.1 a.2.1 a.2.2.1 a.2.2.2.1 a.2.2.2.2.1 a.2.2.2.2.2.1) E1
theorem LI:XOk 11 LH:=by
 refine EnvOk.x (E:=AM) (Af Bc (fn:=Tryd.f11) (c:=B4) ?h1 ?h2 ⟨Tryd.call11⟩ Db (fun a=>CF a.1 a.2.1 a.2.2.1 a.2.2.2.1 a.2.2.2.2.1 a.2.2.2.2.2.1) E1 (fun a=>(by show 6<=229; decide)) ?h3 ?h4) rfl rfl
 case h1=>kernel_rfl
 case h2=>kernel_rfl
 case h3=>intro b; kernel_rfl
 case h4 =>
  intro a b h;refine Sem.mono (Nj (KA (L:=[]) (hp:=[]) a.1 a.2.1 a.2.2.1 a.2.2.2.1 a.2.2.2.2.1 a.2.2.2.2.2.1 b h T.nil)) fun e s' hs=>?_
  obtain ⟨h1,ys,h2,h3,-⟩:=hs;exact ⟨h1,ys,h2,h3⟩
def XJ (n:Int):Prop:= -9223372036854775808<=n/\n<=9223372036854775807
theorem Pc {n:Int}(h1 : -9223372036854775808<=n) (h2:n<=9223372036854775807):wr .i64 n=n:=by
 show (if _ then n else _)=n
 rw [if_pos ⟨h1,h2⟩]
theorem Dr {α:Type}(pre:List α) (v:α) (r:List α):idx (pre++v::r) (pre.length:Int)=some v:=by
 unfold idx
 rw [if_pos (by omega)]
 simp
theorem KZ {α:Type}{xs:List α}{i:Nat}(h:i < xs.length):idx xs (i:Int)=some xs[i]:=by
 unfold idx
 rw [if_pos (by omega)]
 simp [h]
theorem Nf {α:Type}(pre:List α) (v:α):((pre.length:Int) + 1)=((pre++[v]).length:Int):=by simp
theorem Nd {α:Type}(pre:List α) (v:α) (r:List α):pre++v::r=(pre++[v])++r:=by simp
theorem Hy {α:Type}(pre:List α) (v:α) (r:List α) (h:(pre++v::r).length<=1000000000):wr .i64 ((pre.length:Int) + 1)=((pre++[v]).length:Int):=by
 simp at h
 rw [Pc (by omega) (by omega)]; simp
theorem Im {α:Type}(pre:List α) (v:α) (r:List α):decide ((pre.length:Int) < ((pre++v::r).length:Int))=true:=by
 simp; omega
theorem IZ {α:Type}(pre:List α):decide ((pre.length:Int) < ((pre++[]).length:Int))=false:=by simp
theorem Fc {b n:Nat}(hb:b<=1000) (h:n<=1000000000):Bb b n=true:=by
 have h1:n * b<=1000000000 * 1000:=Nat.mul_le_mul h hb
 unfold Bb
 rw [Bool.and_eq_true]
 exact ⟨Nat.ble_eq_true_of_le (by omega),Nat.ble_eq_true_of_le (by omega)⟩
/-- A bit of a number. -/
def tb (m i:Nat):Bool:=Nat.beq (Nat.mod (Nat.shiftRight m i) 2) 1
/-- The numbers of a list as bits; none if one stands there twice. -/
def XQ:List Nat->Nat->Option Nat
 | [],m=>some m
 | i::L,m=>bif tb m i then none else XQ L (Nat.lor m (Nat.shiftLeft 1 i))
/- trestle/trestleref09.times -/
def Iy (x0:(List (List Int))) (x1:Int) (c2:Int) (c4:Int) (c5:Int) (v9:Int):Option ((Int)) :=
 if (v9==x1)=true then
 some (wr .i64 (c4 + 1))
 else
 some c4
def Gw (x0:(List (List Int))) (x1:Int) (c2:Int):Nat->Int->Int->Option ((Int))
 | 0,_,_=>none
 | f + 1,c4,c5 =>
  (idx x0 c2).bind fun v6 =>
  if (decide (c5 < (v6.length:Int)))=true then
  (idx x0 c2).bind fun v8 =>
  (idx v8 c5).bind fun v9 =>
  (Iy x0 x1 c2 c4 c5 v9).bind fun r12 =>
  Gw x0 x1 c2 f r12 (wr .i64 (c5 + 1))
  else
  some c4
def Gv (x0:(List (List Int))) (x1:Int):Nat->Int->Int->Option ((Int))
 | 0,_,_=>none
 | f + 1,c1,c2 =>
  if (decide (c2 < (x0.length:Int)))=true then
  (Gw x0 x1 c2 100000 c1 0).bind fun r14 =>
  Gv x0 x1 f r14 (wr .i64 (c2 + 1))
  else
  some c1
def Jh (x0:(List (List Int))) (x1:Int):Option (Int) :=
 (Gv x0 x1 100000 0 0).bind fun r16 =>
 some r16
/- trestle/trestleref09.CheckEvening -/
def Cu (x0:Int) (x1:(List Int)) (x2:(List (List Int))):Nat->Int->Option ((Unit) ⊕ (Int))
 | 0,_=>none
 | f + 1,c4 =>
  if (decide (c4 < (x2.length:Int)))=true then
  (idx x2 c4).bind fun v6 =>
  (if ((v6.length:Int)==0)=true then some true else if (decide ((x1.length:Int) > 0))=true then (idx x1 c4).bind fun v7 =>
  (idx x2 c4).bind fun v8 =>
  some (v7 != (v8.length:Int)) else some false).bind fun j10 =>
  if j10=true then
  some (.inr 2)
  else
  Cu x0 x1 x2 f (wr .i64 (c4 + 1))
  else
  some (.inl ())
def Cw (x0:Int) (x2:(List (List Int))) (c17:Int):Nat->Int->Option ((Unit) ⊕ (Int))
 | 0,_=>none
 | f + 1,c19 =>
  (idx x2 c17).bind fun v20 =>
  if (decide (c19 < (v20.length:Int)))=true then
  (idx x2 c17).bind fun v22 =>
  (idx v22 c19).bind fun v23 =>
  (if (decide (v23 < 0))=true then some true else (idx x2 c17).bind fun v24 =>
  (idx v24 c19).bind fun v25 =>
  some (decide (v25≥x0))).bind fun j27 =>
  if j27=true then
  some (.inr 6)
  else
  Cw x0 x2 c17 f (wr .i64 (c19 + 1))
  else
  some (.inl ())
def Cv (x0:Int) (x2:(List (List Int))):Nat->Int->Option ((Unit) ⊕ (Int))
 | 0,_=>none
 | f + 1,c17 =>
  if (decide (c17 < (x2.length:Int)))=true then
  (Cw x0 x2 c17 100000 0).bind fun r31 =>
  match r31 with
  | (.inl w32) =>
   Cv x0 x2 f (wr .i64 (c17 + 1))
  | (.inr w33) =>
   some (.inr w33)
  else
  some (.inl ())
def Cy (x0:Int) (x2:(List (List Int))):Nat->Int->Option ((Unit) ⊕ (Int))
 | 0,_=>none
 | f + 1,c37 =>
  if (decide (c37 < x0))=true then
  (Jh x2 c37).bind fun v39 =>
  if (decide (v39 > 1))=true then
  some (.inr 5)
  else
  Cy x0 x2 f (wr .i64 (c37 + 1))
  else
  some (.inl ())
def Cz (x0:Int) (x2:(List (List Int))):Nat->Int->Option ((Unit) ⊕ (Int))
 | 0,_=>none
 | f + 1,c44 =>
  if (decide (c44 < x0))=true then
  (Jh x2 c44).bind fun v46 =>
  if (v46==0)=true then
  some (.inr 2)
  else
  Cz x0 x2 f (wr .i64 (c44 + 1))
  else
  some (.inl ())
def Gu (x0:Int) (x1:(List Int)) (x2:(List (List Int))):Option (Int) :=
 (if (decide ((x1.length:Int) > 0))=true then some ((x1.length:Int)!=(x2.length:Int)) else some false).bind fun j2 =>
 if j2=true then
 some 2
 else
 (Cu x0 x1 x2 100000 0).bind fun r15 =>
 match r15 with
 | (.inl w16) =>
  (Cv x0 x2 100000 0).bind fun r35 =>
  match r35 with
  | (.inl w36) =>
   (Cy x0 x2 100000 0).bind fun r42 =>
   match r42 with
   | (.inl w43) =>
    (Cz x0 x2 100000 0).bind fun r49 =>
    match r49 with
    | (.inl w50) =>
     some 0
    | (.inr w51) =>
     some w51
   | (.inr w52) =>
    some w52
  | (.inr w53) =>
   some w53
 | (.inr w54) =>
  some w54
/- trestle/trestleref09.Fit -/
def Ia (x0:Int) (x1:(List Int)):Nat->Int->Int->Option ((Int) ⊕ (Bool))
 | 0,_,_=>none
 | f + 1,c1,c2 =>
  if (decide (c2 < (x1.length:Int)))=true then
  (idx x1 c2).bind fun v4 =>
  (if (decide (v4 < 1))=true then some true else (idx x1 c2).bind fun v5 =>
  if (decide (v5 > 64))=true then some true else some (decide (c1 > 64))).bind fun j7 =>
  if j7=true then
  some (.inr false)
  else
  (idx x1 c2).bind fun v10 =>
  Ia x0 x1 f (wr .i64 (c1 + v10)) (wr .i64 (c2 + 1))
  else
  some (.inl c1)
def OJ (x0:Int) (x1:(List Int)):Option (Bool) :=
 (Ia x0 x1 100000 0 0).bind fun r14 =>
 match r14 with
 | (.inl w15) =>
  (if (decide (x0≥1))=true then if (decide (x0<=64))=true then some (w15==x0) else some false else some false).bind fun j17 =>
  some j17
 | (.inr w20) =>
  some w20
/- trestle/trestleref09.Check -/
def FR (x0:Int) (x1:(List Int)) (x2:(List (List (List Int)))):Nat->Int->Option ((Unit) ⊕ (Int×Int))
 | 0,_=>none
 | f + 1,c6 =>
  if (decide (c6 < (x2.length:Int)))=true then
  (idx x2 c6).bind fun v8 =>
  (Gu x0 x1 v8).bind fun v9 =>
  if (v9 != 0)=true then
  some (.inr (c6,v9))
  else
  FR x0 x1 x2 f (wr .i64 (c6 + 1))
  else
  some (.inl ())
def OH (x0:Int) (x1:(List Int)) (x2:(List (List (List Int)))):Option (Int×Int) :=
 (if (decide (x0 < 1))=true then some true else if (decide (x0 > 64))=true then some true else if (decide ((x1.length:Int) > 0))=true then (OJ x0 x1).bind fun v1 =>
 some (!v1) else some false).bind fun j3 =>
 if j3=true then
 some (0,90)
 else
 if (decide ((x2.length:Int) > 64))=true then
 some (0,7)
 else
 (FR x0 x1 x2 100000 0).bind fun r13 =>
 match r13 with
 | (.inl w14) =>
  some (0,0)
 | (.inr w15) =>
  some (w15.1,w15.2)
/- slices.Equal[[]int,int] -/
/- trestle/evening.met -/
def sumL:List Int->Int
 | []=>0
 | v::r=>v + sumL r
/-- Do sizes fit? -/
def PI (n:Int) (xs:List Int):Bool:=xs.all (fun v=>decide (1<=v))&&decide (sumL xs=n)&&decide (1<=n)&&decide (n<=64)
def Uw:Int->List Int->Int ⊕ Bool
 | c,[]=> .inl c
 | c,v::r=>if v < 1\/v > c then .inr false else Uw (c - v) r
theorem VB (n:Int) (xs:List Int) (hxs:xs.length<=1000):∀ (r pre:List Int) (c:Int) (f:Nat),xs=pre++r->r.length < f-> -9223372036854775808<=c->c<=9223372036854775807->EU n xs f c pre.length=some (Uw c r)
 | [],pre,c,f + 1,h,_,_,_=>by
  subst h
  unfold EU
  rw [IZ]
  rfl
 | v::r,pre,c,f + 1,h,hf,h1,h2=>by
  subst h
  unfold EU
  rw [if_pos (Im pre v r),Dr]
  simp only [OS]
  rw [Hy pre v r (by omega)]
  unfold Uw
  by_cases ha:v < 1
  ·simp [ha]
  ·by_cases hb:v > c
   ·simp [ha,hb]
   ·simp only [ha,hb,decide_false,Bool.false_eq_true,if_false,OS,false_or]
    rw [Pc (by omega) (by omega)]
    rw [Nd]
    exact VB n _ (by rw [<-Nd]; exact hxs) r (pre++[v]) (c - v) f rfl (by simp at hf; omega) (by omega) (by omega)
theorem SM:∀ (xs:List Int) (c:Int),(∃ d,Uw c xs = .inl d/\d=c - sumL xs/\(xs.all fun v=>decide (1<=v))=true/\(0<=c->0<=d))\/(Uw c xs = .inr false/\((xs.all fun v=>decide (1<=v))=true->c < sumL xs))
 | [],c=> .inl ⟨c,rfl,by simp [sumL],rfl,fun h=>h⟩
 | v::r,c=>by
  unfold Uw
  by_cases hv:v < 1\/v > c
  ·rw [if_pos hv]
   refine .inr ⟨rfl,fun h=>?_⟩
   simp only [List.all_cons,Bool.and_eq_true,decide_eq_true_eq] at h
   have:∀ (l:List Int),(l.all fun v=>decide (1<=v))=true->0<=sumL l:=by
    intro l
    induction l with
    | nil=>intro _; simp [sumL]
    | cons a l ih=>intro h; simp only [List.all_cons,Bool.and_eq_true,decide_eq_true_eq] at h; have:=ih h.2; simp only [sumL]; omega
   have:=this r h.2
   simp only [sumL]
   omega
  ·rw [if_neg hv]
   rcases SM r (c - v) with ⟨d,h1,h2,h3,h4⟩ | ⟨h1,h2⟩
   ·refine .inl ⟨d,h1,by simp only [sumL]; omega,?_,fun h=>h4 (by omega)⟩
    simp only [List.all_cons,Bool.and_eq_true,decide_eq_true_eq]
    exact ⟨by omega,h3⟩
   ·refine .inr ⟨h1,fun h=>?_⟩
    simp only [List.all_cons,Bool.and_eq_true,decide_eq_true_eq] at h
    have:=h2 h.2
    simp only [sumL]
    omega
theorem OZ (n : Int) (hn : XJ n) (xs : List Int) (hxs : xs.length ≤ 1000) : E3 n xs = some (PI n xs) := by
  unfold E3
  rw [show (0 : Int) = (([] : List Int).length : Int) from rfl, VB n xs hxs xs [] n 100000 rfl (by omega) hn.1 hn.2]
  simp only [OS]
  rcases SM xs n with ⟨d, h1, h2, h3, h4⟩ | ⟨h1, h2⟩
  · rw [h1]
    simp only [Br]
    unfold PI
    rw [h3]
    by_cases ha : 1 ≤ n
    · by_cases hb : n ≤ 64
      · have : (d == 0) = decide (sumL xs = n) := by
          by_cases hd : d = 0
          · rw [hd]; simp; omega
          · have : ¬ sumL xs = n := by omega
            simp [this, hd]
        simp [ha, hb, this]
      · simp [ha, hb]
    · simp [ha]
  · rw [h1]
    simp only
    unfold PI
    cases hall : xs.all (fun v => decide (1 ≤ v)) with
    | false => simp
    | true => have := h2 hall; have : ¬ sumL xs = n := by omega
              simp [this]
def Ux:Int->List Int->Int ⊕ Bool
 | c,[]=> .inl c
 | c,v::r=>if v < 1\/v > 64\/c > 64 then .inr false else Ux (c + v) r
theorem Uz (n:Int) (xs:List Int) (hxs:xs.length<=1000):∀ (r pre:List Int) (c:Int) (f:Nat),xs=pre++r->r.length < f->0<=c->Ia n xs f c pre.length=some (Ux c r)
 | [],pre,c,f + 1,h,_,_=>by
  subst h
  unfold Ia
  rw [IZ]
  rfl
 | v::r,pre,c,f + 1,h,hf,h1=>by
  subst h
  unfold Ia
  rw [if_pos (Im pre v r),Dr]
  simp only [OS]
  rw [Hy pre v r (by omega)]
  unfold Ux
  by_cases ha:v < 1
  ·simp [ha]
  ·by_cases hb:v > 64
   ·simp [ha,hb]
   ·by_cases hc:c > 64
    ·simp [ha,hb,hc]
    ·simp only [ha,hb,hc,decide_false,Bool.false_eq_true,if_false,OS,false_or]
     rw [Pc (by omega) (by omega)]
     rw [Nd]
     exact Uz n _ (by rw [<-Nd]; exact hxs) r (pre++[v]) (c + v) f rfl (by simp at hf; omega) (by omega)
theorem Su:∀ (l:List Int),(l.all fun v=>decide (1<=v))=true->0<=sumL l
 | [],_=>by simp [sumL]
 | a::l,h=>by
  simp only [List.all_cons,Bool.and_eq_true,decide_eq_true_eq] at h
  have:=Su l h.2
  simp only [sumL]; omega
theorem SN:∀ (xs:List Int) (c:Int),0<=c->(∃ d,Ux c xs = .inl d/\d=c + sumL xs/\(xs.all fun v=>decide (1<=v))=true)\/(Ux c xs = .inr false/\((xs.all fun v=>decide (1<=v))=true->64 < c + sumL xs))
 | [],c,_=> .inl ⟨c,rfl,by simp [sumL],rfl⟩
 | v::r,c,h0=>by
  unfold Ux
  by_cases hv:v < 1\/v > 64\/c > 64
  ·rw [if_pos hv]
   refine .inr ⟨rfl,fun h=>?_⟩
   simp only [List.all_cons,Bool.and_eq_true,decide_eq_true_eq] at h
   have:=Su r h.2
   simp only [sumL]
   omega
  ·rw [if_neg hv]
   rcases SN r (c + v) (by omega) with ⟨d,h1,h2,h3⟩ | ⟨h1,h2⟩
   ·refine .inl ⟨d,h1,by simp only [sumL]; omega,?_⟩
    simp only [List.all_cons,Bool.and_eq_true,decide_eq_true_eq]
    exact ⟨by omega,h3⟩
   ·refine .inr ⟨h1,fun h=>?_⟩
    simp only [List.all_cons,Bool.and_eq_true,decide_eq_true_eq] at h
    have:=h2 h.2
    simp only [sumL]
    omega
theorem P2 (n:Int) (xs:List Int) (hxs:xs.length<=1000):OJ n xs=some (PI n xs):=by
 unfold OJ
 have e0:=Uz n xs hxs xs [] 0 100000 rfl (by omega) (by omega)
 rw [show ((([]:List Int).length:Nat):Int)=0 from rfl] at e0
 rw [e0]
 simp only [OS]
 rcases SN xs 0 (by omega) with ⟨d,h1,h2,h3⟩ | ⟨h1,h2⟩
 ·rw [h1]
  unfold PI
  rw [h3]
  by_cases ha:1<=n
  ·by_cases hb:n<=64
   ·have:(d==n)=decide (sumL xs=n):=by
     by_cases hd:d=n
     ·rw [hd]; simp; omega
     ·have:¬ sumL xs=n:=by omega
      simp [this,hd]
    simp [ha,hb,this]
   ·simp [ha,hb]
  ·simp [ha]
 ·rw [h1]
  unfold PI
  cases hall:xs.all (fun v=>decide (1<=v)) with
  | false=>simp
  | true =>
   have:=h2 hall
   by_cases hs:sumL xs=n
   ·have:¬ n<=64:=by omega
    simp [hs,this]
   ·simp [hs]
def okS (xs:List Int):Prop:=∀ v ∈ xs,1<=v/\v<=64
theorem TV {n:Int}{xs:List Int}(h:PI n xs=true):okS xs/\sumL xs=n/\1<=n/\n<=64:=by
 simp only [PI,Bool.and_eq_true,decide_eq_true_eq] at h
 obtain ⟨⟨⟨h1,h2⟩,h3⟩,h4⟩:=h
 refine ⟨?_,h2,h3,h4⟩
 have:∀ (l:List Int),(l.all fun v=>decide (1<=v))=true->∀ v ∈ l,1<=v/\v<=sumL l:=by
  intro l
  induction l with
  | nil=>intro _ v hv; cases hv
  | cons a l ih =>
   intro h v hv
   have hn:=Su l (by simp only [List.all_cons,Bool.and_eq_true] at h; exact h.2)
   simp only [List.all_cons,Bool.and_eq_true,decide_eq_true_eq] at h
   rcases List.mem_cons.1 hv with rfl | hv
   ·simp only [sumL]; omega
   ·have:=ih h.2 v hv; simp only [sumL]; omega
 intro v hv
 have:=this xs h1 v hv
 omega
/-- How often a number sits on an evening. -/
theorem Qf (ev:List (List Int)) (x c2:Int) (t:List Int) (ht:idx ev c2=some t) (hl:t.length<=50000):∀ (r pre:List Int) (f:Nat) (c:Int),t=pre++r->r.length < f->0<=c->c + r.length<=1000000->Gw ev x c2 f c pre.length=some (c + (r.count x:Int))
 | [],pre,f + 1,c,h,_,_,_=>by
  unfold Gw
  rw [ht]
  subst h
  simp only [OS]
  rw [IZ]
  simp
 | v::r,pre,f + 1,c,h,hf,h0,h1=>by
  unfold Gw
  rw [ht]
  simp only [List.length_cons] at h1
  by_cases hv:v=x
  ·have ih:=Qf ev x c2 t ht hl r (pre++[v]) f (c + 1) (by rw [h]; simp) (by simp at hf; omega) (by omega) (by omega)
   subst h hv
   simp only [OS]
   rw [if_pos (Im pre v r),Dr]
   simp only [OS,Iy,beq_self_eq_true,if_true]
   rw [Hy pre v r (by omega),Pc (by omega) (by omega),ih,List.count_cons_self]
   congr 1; omega
  ·have ih:=Qf ev x c2 t ht hl r (pre++[v]) f c (by rw [h]; simp) (by simp at hf; omega) (by omega) (by omega)
   have hb:(v==x)=false:=by simpa using hv
   subst h
   simp only [OS]
   rw [if_pos (Im pre v r),Dr]
   simp only [OS,Iy,hb,Bool.false_eq_true,if_false]
   rw [Hy pre v r (by omega),ih,List.count_cons_of_ne hv]
theorem PM {α:Type}:∀ {ev:List (List α)}{t:List α},t ∈ ev->t.length<=ev.flatten.length
 | a::ev,t,h=>by
  simp only [List.flatten_cons,List.length_append]
  rcases List.mem_cons.1 h with rfl | h
  ·omega
  ·have:=PM h; omega
theorem RQ (ev:List (List Int)) (x:Int) (hl:ev.length<=50000) (hfl:ev.flatten.length<=50000):Jh ev x=some (ev.flatten.count x:Int):=by
 unfold Jh
 have hm:∀ t ∈ ev,t.length<=50000:=fun t ht=>by
  have:=PM ht; omega
 have key:∀ (r pre:List (List Int)) (f:Nat) (c:Int),ev=pre++r->r.length < f->0<=c->c + r.flatten.length<=50000->Gv ev x f c pre.length=some (c + (r.flatten.count x:Int)):=by
  intro r
  induction r with
  | nil =>
   intro pre f c h hf h0 h1
   obtain ⟨f,rfl⟩:∃ g,f=g + 1:=⟨f - 1,by simp at hf; omega⟩
   subst h
   unfold Gv
   rw [IZ]
   simp
  | cons t r ih =>
   intro pre f c h hf h0 h1
   obtain ⟨f,rfl⟩:∃ g,f=g + 1:=⟨f - 1,by simp at hf; omega⟩
   have ht:=hm t (by rw [h]; simp)
   subst h
   unfold Gv
   rw [if_pos (Im pre t r)]
   simp only [List.flatten_cons,List.length_append] at h1
   have hc:(t.count x)<=t.length:=List.count_le_length
   have h2:=Qf (pre++t::r) x pre.length t (Dr pre t r) (by omega) t [] 100000 c rfl (by omega) h0 (by omega)
   rw [show ((([]:List Int).length:Nat):Int)=0 from rfl] at h2
   rw [h2]
   simp only [OS]
   simp at hl
   rw [Hy pre t r (by simp; omega),ih (pre++[t]) f _ (by simp) (by simp at hf; omega) (by omega) (by omega)]
   simp only [List.flatten_cons,List.count_append]
   congr 1; omega
 have:=key ev [] 100000 0 rfl (by omega) (by omega) (by omega)
 rw [show ((([]:List (List Int)).length:Nat):Int)=0 from rfl,Int.zero_add] at this
 rw [this]
 rfl
/-- Is the shape of an evening wrong? -/
def O0 (sizes:List Int):List (List Int)->Int->Bool
 | [],_=>false
 | t::r,i=>((t.length:Int)==0)||(decide ((sizes.length:Int) > 0)&&(match idx sizes i with | some v=>((t.length:Int)!=v) | none=>false))||O0 sizes r (i + 1)
abbrev CSt:=Int×Bool×Bool×List Bool
def stepC (n:Int) (s:CSt) (v:Int):CSt:=if v < 0\/v≥n then (s.1,s.2.1,true,s.2.2.2) else ((if (s.2.2.2)[v.toNat]?.getD false then s.1 else s.1 + 1),s.2.1||(s.2.2.2)[v.toNat]?.getD false,s.2.2.1,s.2.2.2.set v.toNat true)
theorem P9 (n:Int) (s:CSt) (v:Int):(stepC n s v).2.2.2.length=s.2.2.2.length:=by
 unfold stepC; split <;> simp
theorem PX (n:Int) (s:CSt) (v:Int):(stepC n s v).1<=s.1 + 1/\s.1<=(stepC n s v).1:=by
 unfold stepC; split
 ·show s.1<=s.1 + 1/\s.1<=s.1; omega
 ·simp only; split <;> omega
theorem SD (n:Int) (sizes:List Int) (ev:List (List Int)) (c9:Int) (hn0:0<=n):∀ (r pre:List Int) (s:CSt) (f:Nat) (t:List Int),t=pre++r->t.length<=50000->r.length < f->s.2.2.2.length=n.toNat->0<=s.1->s.1<=1000000 + (pre.length:Int)->Cj n sizes ev c9 t f s.1 s.2.1 s.2.2.1 s.2.2.2 pre.length=some (r.foldl (stepC n) s)
 | [],pre,s,f + 1,t,ht,_,_,_,_,_=>by
  subst ht
  unfold Cj
  rw [IZ]
  rfl
 | v::r,pre,s,f + 1,t,ht,hl,hf,hs,h0,h1=>by
  obtain ⟨m,tw,un,seen⟩:=s
  simp only at hs h0 h1 ⊢
  have ih:=SD n sizes ev c9 hn0 r (pre++[v]) (stepC n (m,tw,un,seen) v) f t (by rw [ht]; simp) hl (by simp at hf; omega) (by rw [P9]; exact hs) (by have:=(PX n (m,tw,un,seen) v).2; simp only at this; omega) (by have:=(PX n (m,tw,un,seen) v).1; simp only at this; simp; omega)
  subst ht
  unfold Cj
  rw [if_pos (Im pre v r),Dr]
  simp only [OS]
  rw [Hy pre v r (by omega)]
  rw [List.foldl_cons]
  by_cases hv:v < 0\/v≥n
  ·have hst:stepC n (m,tw,un,seen) v=(m,tw,true,seen):=by unfold stepC; rw [if_pos hv]
   rw [hst] at ih ⊢
   by_cases hv0:v < 0
   ·simp only [hv0,decide_true,if_true,OS]
    exact ih
   ·have:v≥n:=by omega
    simp only [hv0,this,decide_false,decide_true,Bool.false_eq_true,if_false,if_true,OS]
    exact ih
  ·have hv0:¬ v < 0:=by omega
   have hv1:¬ v≥n:=by omega
   have hlt:v.toNat < seen.length:=by omega
   have hidx:idx seen v=some (seen[v.toNat]'hlt):=by
    unfold idx; rw [if_pos (by omega)]; exact List.getElem?_eq_getElem hlt
   have hg:seen[v.toNat]?.getD false=seen[v.toNat]'hlt:=by rw [List.getElem?_eq_getElem hlt]; rfl
   have hst:stepC n (m,tw,un,seen) v=((if (seen[v.toNat]'hlt) then m else m + 1),tw||(seen[v.toNat]'hlt),un,seen.set v.toNat true):=by
    unfold stepC; rw [if_neg hv]; simp only [hg]
   rw [hst] at ih ⊢
   have hm1:wr .i64 (m + 1)=m + 1:=Pc (by omega) (by simp at hl; omega)
   simp only [hv0,hv1,decide_false,Bool.false_eq_true,if_false,OS,hidx,Fs]
   cases htw:tw <;> cases hse:seen[v.toNat]'hlt <;> simp only [htw,hse,Bool.false_eq_true,if_false,if_true,OS,Bool.not_true,Bool.not_false,hidx,hm1,Bool.or_true,Bool.or_false] at ih ⊢ <;> exact ih
theorem Ui (sizes:List Int) (_ev:List (List Int)) (t:List Int) (i:Nat) (hs:(sizes.length:Int) > 0->i < sizes.length){β:Type}(b:β):(if ((t.length:Int)==0)=true then some (b,true) else if (decide ((sizes.length:Int) > 0))=true then (idx sizes i).bind fun v12=>some (b,((t.length:Int)!=v12)) else some (b,false))=some (b,((t.length:Int)==0)||(decide ((sizes.length:Int) > 0)&&(match idx sizes i with | some v=>((t.length:Int)!=v) | none=>false))):=by
 cases h1:((t.length:Int)==0) with
 | true=>simp
 | false =>
  by_cases h2:(sizes.length:Int) > 0
  ·have:=hs h2
   rw [KZ this]
   have h3:0 < sizes.length:=by omega
   simp [h3]
  ·have h3:¬ 0 < sizes.length:=by omega
   simp [h3]
theorem SC (n:Int) (sizes:List Int) (ev:List (List Int)) (hn0:0<=n) (hl:ev.length<=50000) (hsz:(sizes.length:Int) > 0->sizes.length=ev.length):∀ (r pre:List (List Int)) (s:CSt) (f:Nat),ev=pre++r->r.length < f->s.2.2.2.length=n.toNat->0<=s.1->s.1 + r.flatten.length<=50000->DJ n sizes ev f s.1 s.2.1 s.2.2.1 s.2.2.2 pre.length=some (if O0 sizes r pre.length then .inr 2 else let q:=r.flatten.foldl (stepC n) s; .inl (q.1,q.2.1,q.2.2.1))
 | [],pre,s,f + 1,h,_,_,_,_=>by
  subst h
  unfold DJ
  rw [IZ]
  rfl
 | t::r,pre,s,f + 1,h,hf,hs,h0,h1=>by
  obtain ⟨m,tw,un,seen⟩:=s
  simp only at hs h0 h1 ⊢
  subst h
  unfold DJ
  rw [if_pos (Im pre t r),Dr]
  simp only [OS]
  rw [Ui sizes (pre++t::r) t pre.length (fun h=>by rw [hsz h]; simp)]
  simp only [OS]
  simp only [List.flatten_cons,List.length_append] at h1
  cases hb:(((t.length:Int)==0)||(decide ((sizes.length:Int) > 0)&&(match idx sizes (pre.length:Int) with | some v=>((t.length:Int)!=v) | none=>false))) with
  | true =>
   simp only [O0,hb,Bool.true_or,if_true]
  | false =>
   simp only [O0,hb,Bool.false_or,Bool.false_eq_true,if_false]
   have h2:=SD n sizes (pre++t::r) pre.length hn0 t [] (m,tw,un,seen) 100000 t rfl (by omega) (by omega) hs h0 (by simp; omega)
   rw [show ((([]:List Int).length:Nat):Int)=0 from rfl] at h2
   simp only at h2
   rw [h2]
   simp only [OS]
   have hfold:∀ (l:List Int) (s:CSt),(l.foldl (stepC n) s).2.2.2.length=s.2.2.2.length/\(l.foldl (stepC n) s).1<=s.1 + l.length/\s.1<=(l.foldl (stepC n) s).1:=by
    intro l
    induction l with
    | nil=>intro s; simp
    | cons a l ih =>
     intro s
     obtain ⟨a1,a2,a3⟩:=ih (stepC n s a)
     have:=PX n s a
     rw [List.foldl_cons]
     refine ⟨a1.trans (P9 n s a),?_,?_⟩
     ·simp; omega
     ·omega
   obtain ⟨a1,a2,a3⟩:=hfold t (m,tw,un,seen)
   simp only at a1 a2 a3
   rw [Hy pre t r (by omega),SC n sizes (pre++t::r) hn0 hl hsz r (pre++[t]) (t.foldl (stepC n) (m,tw,un,seen)) f (by simp) (by simp at hf; omega) (by omega) (by omega) (by omega)]
   rw [<-Nf]
   simp only [List.flatten_cons,List.foldl_append]
def Ly (n v:Int):Bool:=decide (v < 0\/v≥n)
theorem WO (n:Int):∀ (L:List Int) (s:CSt),(L.foldl (stepC n) s).2.2.1=(s.2.2.1||L.any (Ly n))
 | [],s=>by simp
 | v::L,s=>by
  rw [List.foldl_cons,WO n L,List.any_cons]
  by_cases hv:v < 0\/v≥n
  ·have hb:Ly n v=true:=by simp only [Ly,decide_eq_true_eq]; exact hv
   have hs:(stepC n s v).2.2.1=true:=by unfold stepC; rw [if_pos hv]
   rw [hb,hs]; simp
  ·have hb:Ly n v=false:=by simp only [Ly,decide_eq_false_iff_not]; exact hv
   have hs:(stepC n s v).2.2.1=s.2.2.1:=by unfold stepC; rw [if_neg hv]
   rw [hb,hs]; simp
structure InvC (N:Nat) (P:List Int) (s:CSt):Prop where
 len:s.2.2.2.length=N
 seen:∀ k,k < N->s.2.2.2[k]?.getD false=decide ((k:Int) ∈ P)
 tw:s.2.1=true↔∃ x,2<=P.count x
 many:s.1=(s.2.2.2.count true:Int)
theorem Pk:∀ (l:List Bool) (k:Nat),k < l.length->((l.set k true).count true:Int)=l.count true + (if l[k]?.getD false then 0 else 1)
 | [],k,h=>by simp at h
 | b::l,0,_=>by cases b <;> simp
 | b::l,k + 1,h=>by
  have:=Pk l k (by simpa using h)
  simp only [List.set_cons_succ,List.getElem?_cons_succ]
  cases b
  ·simpa using this
  ·simp only [List.count_cons_self]; push_cast; omega
theorem InvC.step {n:Int}{P:List Int}{s:CSt}(i:InvC n.toNat P s){v:Int}(h0:0<=v) (h1:v < n):InvC n.toNat (P++[v]) (stepC n s v):=by
 obtain ⟨m,tw,un,seen⟩:=s
 obtain ⟨i1,i2,i3,i4⟩:=i
 simp only at i1 i2 i3 i4
 have hst:stepC n (m,tw,un,seen) v=((if seen[v.toNat]?.getD false then m else m + 1),tw||seen[v.toNat]?.getD false,un,seen.set v.toNat true):=by
  unfold stepC; rw [if_neg (by omega)]
 have hlt:v.toNat < seen.length:=by clear i3; omega
 have hv:=i2 v.toNat (by clear i3; omega)
 have hvv:((v.toNat:Nat):Int)=v:=by clear i3; omega
 rw [hvv] at hv
 rw [hst]
 refine ⟨by simpa using i1,fun k hk=>?_,?_,?_⟩
 ·simp only [List.getElem?_set]
  by_cases hkv:v.toNat=k
  ·subst hkv
   simp [hlt,hvv]
  ·rw [if_neg hkv,i2 k hk]
   have:¬ (k:Int)=v:=by clear i3; omega
   simp [this]
 ·simp only [Bool.or_eq_true,i3,hv,decide_eq_true_eq]
  clear i3 i4
  constructor
  ·rintro (⟨x,hx⟩ | hm)
   ·exact ⟨x,by rw [List.count_append]; omega⟩
   ·exact ⟨v,by rw [List.count_append]; have:=List.count_pos_iff.2 hm; have e:[v].count v=1:=(by simp); omega⟩
  ·rintro ⟨x,hx⟩
   rw [List.count_append] at hx
   by_cases hxv:v=x
   ·subst hxv
    have e:[v].count v=1:=by simp
    rw [e] at hx
    exact .inr (List.count_pos_iff.1 (by omega))
   ·rw [List.count_cons_of_ne hxv] at hx
    exact .inl ⟨x,by simpa using hx⟩
 ·simp only
  rw [Pk seen v.toNat hlt,i4]
  split <;> simp
theorem ST {n:Int}:∀ (L P:List Int) (s:CSt),InvC n.toNat P s->(∀ v ∈ L,0<=v/\v < n)->InvC n.toNat (P++L) (L.foldl (stepC n) s)
 | [],P,s,h,_=>by simpa using h
 | v::L,P,s,h,hv=>by
  obtain ⟨h0,h1⟩:=hv v (by simp)
  have:=ST L (P++[v]) (stepC n s v) (h.step h0 h1) fun w hw=>hv w (by simp [hw])
  simpa using this
theorem Wz (N:Nat):InvC N [] (0,false,false,List.replicate N false):=by
 refine ⟨by simp,fun k hk=>by simp [hk],by simp,?_⟩
 simp [List.count_replicate]
theorem L1:∀ (l:List Bool),l.count true<=l.length/\(l.count true < l.length↔∃ k,k < l.length/\l[k]?.getD false=false)
 | []=>by simp
 | b::l=>by
  obtain ⟨h1,h2⟩:=L1 l
  cases b with
  | false =>
   refine ⟨by simp; omega,?_⟩
   simp only [List.count_cons_of_ne (show (false:Bool)≠true by decide),List.length_cons]
   exact ⟨fun _=>⟨0,by omega,rfl⟩,fun _=>by omega⟩
  | true =>
   refine ⟨by simp; omega,?_⟩
   simp only [List.count_cons_self,List.length_cons,Nat.add_lt_add_iff_right,h2]
   constructor
   ·rintro ⟨k,a,b⟩; exact ⟨k + 1,by omega,by simpa using b⟩
   ·rintro ⟨k,a,b⟩
    cases k with
    | zero=>simp at b
    | succ k=>exact ⟨k,by omega,by simpa using b⟩
/-- Some number of a stretch. -/
def Nk (p:Int->Bool):Nat->Int->Bool
 | 0,_=>false
 | k + 1,i=>p i||Nk p k (i + 1)
theorem Kq (p:Int->Bool):∀ (k:Nat) (i:Int),Nk p k i=true↔∃ x,i<=x/\x < i + k/\p x=true
 | 0,i=>by simp [Nk]; intro x h1 h2; omega
 | k + 1,i=>by
  simp only [Nk,Bool.or_eq_true,Kq p k]
  constructor
  ·rintro (h | ⟨x,h1,h2,h3⟩)
   ·exact ⟨i,by omega,by omega,h⟩
   ·exact ⟨x,by omega,by omega,h3⟩
  ·rintro ⟨x,h1,h2,h3⟩
   by_cases hx:x=i
   ·subst hx; exact .inl h3
   ·exact .inr ⟨x,by omega,by omega,h3⟩
/-- What an evening's check answers. -/
def chk (n:Int) (sizes:List Int) (ev:List (List Int)):Int :=
 if (decide ((sizes.length:Int) > 0)&&((sizes.length:Int)!=(ev.length:Int)))=true then 2 else
 if O0 sizes ev 0 then 2 else
 if ev.flatten.any (Ly n) then 6 else
 if Nk (fun x=>decide ((ev.flatten.count x:Int) > 1)) n.toNat 0 then 5 else
 if Nk (fun x=>((ev.flatten.count x:Int)==0)) n.toNat 0 then 2 else 0
theorem NE (n:Int) (hn0:0<=n) (hn:n<=64) (sizes:List Int) (ev:List (List Int)) (hl:ev.length<=50000) (hf:ev.flatten.length<=50000):CX n sizes ev=some (chk n sizes ev):=by
 unfold CX chk
 by_cases hs:(decide ((sizes.length:Int) > 0)&&((sizes.length:Int)!=(ev.length:Int)))=true
 ·rw [if_pos hs]
  simp only [Bool.and_eq_true,decide_eq_true_eq] at hs
  rw [if_pos (by simpa using hs.1)]
  simp only [OS,hs.2,if_true]
 ·rw [if_neg hs]
  have hsz:(sizes.length:Int) > 0->sizes.length=ev.length:=fun h=>by
   simp only [Bool.and_eq_true,decide_eq_true_eq,not_and,Bool.not_eq_true,bne_eq_false_iff_eq] at hs
   have:=hs h; omega
  have e1:(if (decide ((sizes.length:Int) > 0))=true then some ((sizes.length:Int)!=(ev.length:Int)) else some false)=some false:=by
   by_cases h:(sizes.length:Int) > 0
   ·have:=hsz h; simp [this]
   ·have h':¬ 0 < sizes.length:=by omega
    simp [h']
  rw [e1]
  simp only [OS,Bool.false_eq_true,if_false]
  have hmk:OV 1 n=true:=by
   simp only [OV,Bool.and_eq_true,decide_eq_true_eq]; omega
  rw [if_pos hmk]
  have h1:=SC n sizes ev hn0 hl hsz ev [] (0,false,false,List.replicate n.toNat false) 100000 rfl (by omega) (by simp) (by simp) (by simp only; omega)
  rw [show ((([]:List (List Int)).length:Nat):Int)=0 from rfl] at h1
  simp only at h1
  rw [h1]
  simp only [OS]
  cases hb:O0 sizes ev 0 with
  | true=>simp
  | false =>
   simp only [Bool.false_eq_true,if_false]
   rw [WO]
   simp only [Bool.false_or]
   cases hu:ev.flatten.any (Ly n) with
   | true=>simp
   | false =>
    simp only [Bool.false_eq_true,if_false]
    have hval:∀ v ∈ ev.flatten,0<=v/\v < n:=fun v hv=>by
     have:=List.any_eq_false.1 hu v hv
     simp only [Ly,decide_eq_true_eq] at this
     omega
    obtain ⟨j1,j2,j3,j4⟩:=ST ev.flatten [] _ (Wz n.toNat) hval
    rw [List.nil_append] at j2 j3
    generalize ev.flatten.foldl (stepC n) (0,false,false,List.replicate n.toNat false)=q at *
    have t1:q.2.1=Nk (fun x=>decide ((ev.flatten.count x:Int) > 1)) n.toNat 0:=by
     rw [Bool.eq_iff_iff,j3,Kq]
     constructor
     ·rintro ⟨x,hx⟩
      have:=hval x (List.count_pos_iff.1 (by omega))
      exact ⟨x,by omega,by omega,by simp; omega⟩
     ·rintro ⟨x,_,_,hx⟩
      simp at hx
      exact ⟨x,by omega⟩
    have t2:decide (q.1 < n)=Nk (fun x=>((ev.flatten.count x:Int)==0)) n.toNat 0:=by
     rw [Bool.eq_iff_iff,Kq,decide_eq_true_eq,j4]
     have hc:=L1 q.2.2.2
     rw [j1] at hc
     constructor
     ·intro h
      obtain ⟨k,k1,k2⟩:=hc.2.1 (by omega)
      rw [j2 k k1] at k2
      have hm:¬ (k:Int) ∈ ev.flatten:=by simpa using k2
      exact ⟨k,by omega,by omega,by rw [List.count_eq_zero.2 hm]; rfl⟩
     ·rintro ⟨x,h1,h2,h3⟩
      have h3:ev.flatten.count x=0:=by simpa using h3
      have hm:=List.count_eq_zero.1 h3
      have:=hc.2.2 ⟨x.toNat,by omega,by rw [j2 _ (by omega),show ((x.toNat:Nat):Int)=x by omega]; simpa using hm⟩
      omega
    rw [t1,t2]
    cases Nk (fun x=>decide ((ev.flatten.count x:Int) > 1)) n.toNat 0 <;> cases Nk (fun x=>((ev.flatten.count x:Int)==0)) n.toNat 0 <;> simp
theorem Uj (sizes:List Int) (t:List Int) (i:Nat) (hs:(sizes.length:Int) > 0->i < sizes.length):(if ((t.length:Int)==0)=true then some true else if (decide ((sizes.length:Int) > 0))=true then (idx sizes i).bind fun v7=>some (v7 != (t.length:Int)) else some false)=some (((t.length:Int)==0)||(decide ((sizes.length:Int) > 0)&&(match idx sizes i with | some v=>((t.length:Int)!=v) | none=>false))):=by
 cases h1:((t.length:Int)==0) with
 | true=>simp
 | false =>
  by_cases h2:(sizes.length:Int) > 0
  ·have:=hs h2
   rw [KZ this]
   have h3:0 < sizes.length:=by omega
   simp [h3,bne_comm]
  ·have h3:¬ 0 < sizes.length:=by omega
   simp [h3]
theorem Ud {c:Int}(X Y:Bool):(if X=true then some (Sum.inr c) else some (if Y=true then Sum.inr c else Sum.inl ()))=some (if (X||Y)=true then Sum.inr c else Sum.inl ()):=by
 cases X <;> simp
theorem RE (n:Int) (sizes:List Int) (ev:List (List Int)) (hl:ev.length<=50000) (hsz:(sizes.length:Int) > 0->sizes.length=ev.length):∀ (r pre:List (List Int)) (f:Nat),ev=pre++r->r.length < f->Cu n sizes ev f pre.length=some (if O0 sizes r pre.length then .inr 2 else .inl ())
 | [],pre,f + 1,h,_=>by
  subst h
  unfold Cu
  rw [IZ]
  rfl
 | t::r,pre,f + 1,h,hf=>by
  have ih:=RE n sizes ev hl hsz r (pre++[t]) f (by rw [h]; simp) (by simp at hf; omega)
  subst h
  unfold Cu
  rw [if_pos (Im pre t r),Dr]
  simp only [OS]
  rw [Hy pre t r (by omega),ih,<-Nf,Uj sizes t pre.length (fun h=>by rw [hsz h]; simp)]
  simp only [OS,O0]
  exact Ud _ _
theorem RG (n:Int) (ev:List (List Int)) (c:Int) (t:List Int) (ht:idx ev c=some t) (hl:t.length<=50000):∀ (r pre:List Int) (f:Nat),t=pre++r->r.length < f->Cw n ev c f pre.length=some (if r.any (Ly n) then .inr 6 else .inl ())
 | [],pre,f + 1,h,_=>by
  unfold Cw
  rw [ht]
  subst h
  simp only [OS]
  rw [IZ]
  rfl
 | v::r,pre,f + 1,h,hf=>by
  have ih:=RG n ev c t ht hl r (pre++[v]) f (by rw [h]; simp) (by simp at hf; omega)
  unfold Cw
  rw [ht]
  subst h
  simp only [OS]
  rw [if_pos (Im pre v r),Dr]
  simp only [OS]
  rw [Hy pre v r (by omega),ih]
  simp only [List.any_cons,Ly]
  by_cases h1:v < 0
  ·simp [h1]
  ·by_cases h2:v≥n
   ·simp [h1,h2]
   ·simp [h1,h2]
theorem RF (n:Int) (ev:List (List Int)) (hl:ev.length<=50000) (hm:∀ t ∈ ev,t.length<=50000):∀ (r pre:List (List Int)) (f:Nat),ev=pre++r->r.length < f->Cv n ev f pre.length=some (if r.flatten.any (Ly n) then .inr 6 else .inl ())
 | [],pre,f + 1,h,_=>by
  subst h
  unfold Cv
  rw [IZ]
  rfl
 | t::r,pre,f + 1,h,hf=>by
  have ih:=RF n ev hl hm r (pre++[t]) f (by rw [h]; simp) (by simp at hf; omega)
  have ht:=hm t (by rw [h]; simp)
  subst h
  unfold Cv
  rw [if_pos (Im pre t r)]
  have h3:=RG n (pre++t::r) pre.length t (Dr pre t r) ht t [] 100000 rfl (by omega)
  rw [show ((([]:List Int).length:Nat):Int)=0 from rfl] at h3
  rw [h3]
  simp only [OS,List.flatten_cons,List.any_append]
  cases t.any (Ly n) with
  | true=>simp
  | false =>
   simp only [Bool.false_eq_true,if_false,Bool.false_or]
   rw [Hy pre t r (by omega),ih]
theorem Sd (n:Int) (hn:n<=64) (ev:List (List Int)) (hl:ev.length<=50000) (hf:ev.flatten.length<=50000) :
  (∀ (k:Nat) (i:Int) (f:Nat),(k:Int)=n - i->0<=i->k < f->Cy n ev f i=some (if Nk (fun x=>decide ((ev.flatten.count x:Int) > 1)) k i then .inr 5 else .inl ())) /\
  (∀ (k:Nat) (i:Int) (f:Nat),(k:Int)=n - i->0<=i->k < f->Cz n ev f i=some (if Nk (fun x=>((ev.flatten.count x:Int)==0)) k i then .inr 2 else .inl ())):=by
 constructor
 ·intro k
  induction k with
  | zero =>
   intro i f hk hi hf'
   obtain ⟨f,rfl⟩:∃ g,f=g + 1:=⟨f - 1,by omega⟩
   unfold Cy
   rw [if_neg (by simp; omega)]
   rfl
  | succ k ih =>
   intro i f hk hi hf'
   obtain ⟨f,rfl⟩:∃ g,f=g + 1:=⟨f - 1,by omega⟩
   unfold Cy
   rw [if_pos (by simp; omega),RQ ev i hl hf]
   simp only [OS,Nk]
   rw [Pc (by omega) (by omega),ih (i + 1) f (by omega) (by omega) (by omega)]
   exact Ud _ _
 ·intro k
  induction k with
  | zero =>
   intro i f hk hi hf'
   obtain ⟨f,rfl⟩:∃ g,f=g + 1:=⟨f - 1,by omega⟩
   unfold Cz
   rw [if_neg (by simp; omega)]
   rfl
  | succ k ih =>
   intro i f hk hi hf'
   obtain ⟨f,rfl⟩:∃ g,f=g + 1:=⟨f - 1,by omega⟩
   unfold Cz
   rw [if_pos (by simp; omega),RQ ev i hl hf]
   simp only [OS,Nk]
   rw [Pc (by omega) (by omega),ih (i + 1) f (by omega) (by omega) (by omega)]
   exact Ud _ _
theorem Kh (n:Int) (hn0:0<=n) (hn:n<=64) (sizes:List Int) (ev:List (List Int)) (hl:ev.length<=50000) (hf:ev.flatten.length<=50000):Gu n sizes ev=some (chk n sizes ev):=by
 unfold Gu chk
 by_cases hs:(decide ((sizes.length:Int) > 0)&&((sizes.length:Int)!=(ev.length:Int)))=true
 ·rw [if_pos hs]
  simp only [Bool.and_eq_true,decide_eq_true_eq] at hs
  rw [if_pos (by simpa using hs.1)]
  simp only [OS,hs.2,if_true]
 ·rw [if_neg hs]
  have hsz:(sizes.length:Int) > 0->sizes.length=ev.length:=fun h=>by
   simp only [Bool.and_eq_true,decide_eq_true_eq,not_and,Bool.not_eq_true,bne_eq_false_iff_eq] at hs
   have:=hs h; omega
  have e1:(if (decide ((sizes.length:Int) > 0))=true then some ((sizes.length:Int)!=(ev.length:Int)) else some false)=some false:=by
   by_cases h:(sizes.length:Int) > 0
   ·have:=hsz h; simp [this]
   ·have h':¬ 0 < sizes.length:=by omega
    simp [h']
  rw [e1]
  simp only [OS,Bool.false_eq_true,if_false]
  have hm:∀ t ∈ ev,t.length<=50000:=fun t ht=>by
   have:=PM ht; omega
  have h1:=RE n sizes ev hl hsz ev [] 100000 rfl (by omega)
  have h2:=RF n ev hl hm ev [] 100000 rfl (by omega)
  rw [show ((([]:List (List Int)).length:Nat):Int)=0 from rfl] at h1 h2
  obtain ⟨h4,h5⟩:=Sd n hn ev hl hf
  have h4:=h4 n.toNat 0 100000 (by omega) (by omega) (by omega)
  have h5:=h5 n.toNat 0 100000 (by omega) (by omega) (by omega)
  rw [h1]
  simp only [OS]
  cases O0 sizes ev 0 with
  | true=>simp
  | false =>
   simp only [Bool.false_eq_true,if_false]
   rw [h2]
   simp only [OS]
   cases ev.flatten.any (Ly n) with
   | true=>simp
   | false =>
    simp only [Bool.false_eq_true,if_false]
    rw [h4]
    simp only [OS]
    cases Nk (fun x=>decide ((ev.flatten.count x:Int) > 1)) n.toNat 0 with
    | true=>simp
    | false =>
     simp only [Bool.false_eq_true,if_false]
     rw [h5]
     simp only [OS]
     cases Nk (fun x=>((ev.flatten.count x:Int)==0)) n.toNat 0 <;> simp
/-- The schedule's check, told by that of its evenings. -/
def QO (n:Int) (sizes:List Int):List (List (List Int))->Int->Int×Int
 | [],_=>(0,0)
 | ev::r,i=>if chk n sizes ev != 0 then (i,chk n sizes ev) else QO n sizes r (i + 1)
def KN (n:Int) (sizes:List Int) (s:List (List (List Int))):Int×Int :=
 if (decide (n < 1)||decide (n > 64)||(decide ((sizes.length:Int) > 0)&&!PI n sizes))=true then (0,90) else if s.length > 64 then (0,7) else QO n sizes s 0
theorem Md (n:Int) (hn0:0<=n) (hn:n<=64) (sizes:List Int) (s:List (List (List Int))) (hs:s.length<=50000) (hl:∀ ev ∈ s,ev.length<=50000/\ev.flatten.length<=50000):∀ (r pre:List (List (List Int))) (f:Nat),s=pre++r->r.length < f ->
  (∃ q,Ch n sizes s f pre.length=some q/\FR n sizes s f pre.length=some q/\(match q with | .inl _=>QO n sizes r pre.length=(0,0) | .inr w=>QO n sizes r pre.length=w))
 | [],pre,f + 1,h,_=>by
  subst h
  refine ⟨.inl (),?_,?_,rfl⟩
  ·unfold Ch; rw [IZ]; rfl
  ·unfold FR; rw [IZ]; rfl
 | ev::r,pre,f + 1,h,hf=>by
  obtain ⟨h1,h2⟩:=hl ev (by rw [h]; simp)
  obtain ⟨q,a1,a2,a3⟩:=Md n hn0 hn sizes s hs hl r (pre++[ev]) f (by rw [h]; simp) (by simp at hf; omega)
  have e1:=NE n hn0 hn sizes ev h1 h2
  have e2:=Kh n hn0 hn sizes ev h1 h2
  rw [<-Nf] at a3
  cases hc:(chk n sizes ev != 0) with
  | true =>
   refine ⟨.inr ((pre.length:Int),chk n sizes ev),?_,?_,by simp [QO,hc]⟩
   ·subst h
    unfold Ch
    rw [if_pos (Im pre ev r),Dr]
    simp only [OS]
    rw [e1]
    simp only [OS,hc,if_true]
   ·subst h
    unfold FR
    rw [if_pos (Im pre ev r),Dr]
    simp only [OS]
    rw [e2]
    simp only [OS,hc,if_true]
  | false =>
   refine ⟨q,?_,?_,?_⟩
   ·subst h
    unfold Ch
    rw [if_pos (Im pre ev r),Dr]
    simp only [OS]
    rw [e1]
    simp only [OS,hc,Bool.false_eq_true,if_false]
    rw [Hy pre ev r (by omega)]
    exact a1
   ·subst h
    unfold FR
    rw [if_pos (Im pre ev r),Dr]
    simp only [OS]
    rw [e2]
    simp only [OS,hc,Bool.false_eq_true,if_false]
    rw [Hy pre ev r (by omega)]
    exact a2
   ·simp only [QO,hc,Bool.false_eq_true,if_false]
    exact a3
theorem Kr (n:Int) (hn:XJ n) (sizes:List Int) (hsz:sizes.length<=1000) (s:List (List (List Int))) (hs:s.length<=50000) (hl:∀ ev ∈ s,ev.length<=50000/\ev.flatten.length<=50000):AT n sizes s=some (KN n sizes s)/\OH n sizes s=some (KN n sizes s):=by
 have hg:Br n=some (decide (1<=n)&&decide (n<=64)):=by
  unfold Br
  by_cases h:1<=n
  ·simp [h]
  ·simp [h]
 unfold AT OH KN
 rw [hg,OZ n hn sizes hsz,P2 n sizes hsz]
 simp only [OS]
 by_cases h1:n < 1
 ·have h1':¬ 1<=n:=by omega
  simp [h1,h1']
 ·by_cases h2:n > 64
  ·have h2':¬ n<=64:=by omega
   simp [h1,h2,h2']
  ·have h1':1<=n:=by omega
   have h2':n<=64:=by omega
   simp only [h1,h2,h1',h2',decide_true,decide_false,Bool.and_self,Bool.not_true,Bool.false_eq_true,if_false,Bool.false_or]
   by_cases h3:(sizes.length:Int) > 0
   ·cases hf:PI n sizes with
    | false =>
     have h3':0 < sizes.length:=by omega
     simp [h3']
    | true =>
     simp only [h3,decide_true,if_true,Bool.not_true,OS,Bool.and_false,Bool.false_eq_true,if_false]
     by_cases h4:s.length > 64
     ·have h4':decide ((s.length:Int) > 64)=true:=by simp; omega
      simp only [h4',h4,if_true,and_self]
     ·have h4':decide ((s.length:Int) > 64)=false:=by simp; omega
      simp only [h4',h4,if_false,Bool.false_eq_true]
      obtain ⟨q,a1,a2,a3⟩:=Md n (by omega) h2' sizes s hs hl s [] 100000 rfl (by omega)
      rw [show ((([]:List (List (List Int))).length:Nat):Int)=0 from rfl] at a1 a2 a3
      rw [a1,a2]
      cases q with
      | inl w=>simp only at a3; simp [a3]
      | inr w=>simp only at a3; simp [a3]
   ·simp only [h3,decide_false,Bool.false_eq_true,if_false,OS,Bool.false_and]
    by_cases h4:s.length > 64
    ·have h4':decide ((s.length:Int) > 64)=true:=by simp; omega
     simp only [h4',h4,if_true,and_self]
    ·have h4':decide ((s.length:Int) > 64)=false:=by simp; omega
     simp only [h4',h4,if_false,Bool.false_eq_true]
     obtain ⟨q,a1,a2,a3⟩:=Md n (by omega) h2' sizes s hs hl s [] 100000 rfl (by omega)
     rw [show ((([]:List (List (List Int))).length:Nat):Int)=0 from rfl] at a1 a2 a3
     rw [a1,a2]
     cases q with
     | inl w=>simp only at a3; simp [a3]
     | inr w=>simp only at a3; simp [a3]
def C4 (t:List Nat):List Int:=t.map Int.ofNat
def FS (ev:List (List Nat)):List (List Int):=ev.map C4
def Hd (s:List (List (List Nat))):List (List (List Int)):=s.map FS
theorem Az (t:List Nat):(C4 t).length=t.length:=by simp [C4]
theorem Fu (t:List (List Nat)):(FS t).length=t.length:=by simp [FS]
theorem Dp (t:List (List (List Nat))):(Hd t).length=t.length:=by simp [Hd]
theorem Fb:∀ (ev:List (List Nat)),(FS ev).flatten=C4 ev.flatten
 | []=>rfl
 | t::ev=>by
  show C4 t++(FS ev).flatten=C4 (t++ev.flatten)
  rw [Fb ev]; simp [C4]
theorem HS (L:List Nat) (x:Nat):(C4 L).count (x:Int)=L.count x:=by
 induction L with
 | nil=>rfl
 | cons v L ih =>
  show (Int.ofNat v::C4 L).count (x:Int)=_
  rw [List.count_cons,List.count_cons,ih]
  congr 1
  by_cases h:v=x
  ·subst h; simp
  ·have:¬ (Int.ofNat v)=(x:Int):=fun e=>h (Int.ofNat.inj e)
   simp [h]
   omega
theorem ON:∀ (r:List (List Int)) (pre:List Int) (sz:List Int),(sz=[]\/sz=pre++r.map (fun t=>(t.length:Int)))->(∀ t ∈ r,t.length≠0)->O0 sz r pre.length=false
 | [],_,_,_,_=>rfl
 | t::r,pre,sz,h,hne=>by
  have h0:((t.length:Int)==0)=false:=by have:=hne t (by simp); simp; intro h; subst h; simp at this
  have ih:=ON r (pre++[(t.length:Int)]) sz (h.imp id fun h=>by rw [h]; simp) (fun t ht=>hne t (by simp [ht]))
  unfold O0
  rw [h0,Bool.false_or]
  rw [<-Nf] at ih
  rw [ih,Bool.or_false]
  rcases h with h | h
  ·subst h; simp
  ·rw [h,List.map_cons,Dr]; simp
theorem MG {L:List Nat}{v:Int}(h:v ∈ C4 L):∃ j ∈ L,v=Int.ofNat j:=by
 obtain ⟨j,h1,h2⟩:=List.mem_map.1 h
 exact ⟨j,h1,h2.symm⟩
theorem Mc (p:Int->Bool) (k:Nat) (h:∀ x:Nat,x < k->p x=false):Nk p k 0=false:=by
 cases e:Nk p k 0 with
 | false=>rfl
 | true =>
  obtain ⟨x,h1,h2,h3⟩:=(Kq p k 0).1 e
  have:=h x.toNat (by omega)
  rw [show ((x.toNat:Nat):Int)=x by omega,h3] at this
  cases this
theorem SF (n:Int) (sz:List Int):∀ (s:List (List (List Int))) (i:Int),(∀ ev ∈ s,chk n sz ev=0)->QO n sz s i=(0,0)
 | [],_,_=>rfl
 | ev::s,i,h=>by
  unfold QO
  rw [h ev (by simp)]
  exact SF n sz s (i + 1) fun e he=>h e (by simp [he])
theorem Tn (a b:List Nat):C4 (a++b)=C4 a++C4 b:=by simp [C4]
theorem TX (pre:List Nat) (x:Nat) (r:List Nat):idx (C4 (pre++x::r)) (pre.length:Int)=some (x:Int):=by
 rw [Tn,<-Az pre]
 exact Dr _ _ _
theorem TY (pre:List (List Nat)) (x:List Nat) (r:List (List Nat)):idx (FS (pre++x::r)) (pre.length:Int)=some (C4 x):=by
 have:FS (pre++x::r)=FS pre++C4 x::FS r:=by simp [FS]
 rw [this,<-Fu pre]
 exact Dr _ _ _
theorem TZ (pre:List (List (List Nat))) (x:List (List Nat)) (r:List (List (List Nat))):idx (Hd (pre++x::r)) (pre.length:Int)=some (FS x):=by
 have:Hd (pre++x::r)=Hd pre++FS x::Hd r:=by simp [Hd]
 rw [this,<-Dp pre]
 exact Dr _ _ _
theorem QH {k:Nat}(h:k<=1000000000):wr .i64 ((k:Int) + 1)=((k + 1:Nat):Int):=by
 rw [Pc (by omega) (by omega)]; simp
theorem PL {ev:List (List Nat)}(h:∀ t ∈ ev,t.length≠0):ev.length<=ev.flatten.length:=by
 induction ev with
 | nil=>simp
 | cons t ev ih =>
  have:=ih fun u hu=>h u (by simp [hu])
  have:=h t (by simp)
  simp only [List.flatten_cons,List.length_append,List.length_cons]; omega
/-- An evening of these sizes, everybody once. -/
structure Evn (n:Nat) (sz:List Nat) (ev:List (List Nat)):Prop where
 sz_:ev.map List.length=sz
 ne:∀ t ∈ ev,t.length≠0
 cnt:∀ j,ev.flatten.count j=if j < n then 1 else 0
section
variable {n:Nat}{sz:List Nat}{ev:List (List Nat)}{s:List (List (List Nat))}
theorem Evn.flt (h:Evn n sz ev){j:Nat}(hj:j ∈ ev.flatten):j < n:=by
 have:=h.cnt j
 have:=List.count_pos_iff.2 hj
 split at * <;> omega
theorem Evn.lt (h:Evn n sz ev):∀ t ∈ ev,∀ x ∈ t,x < n:=fun t ht _ hx=>h.flt (List.mem_flatten.2 ⟨t,ht,hx⟩)
theorem Evn.len (h:Evn n sz ev):ev.flatten.length=sz.sum:=by rw [List.length_flatten,h.sz_]
theorem SG (h:Evn n sz ev) (zs:List Int) (hs:zs=[]\/zs=C4 sz):chk n zs (FS ev)=0:=by
 have hz:zs=[]\/zs=(FS ev).map (fun t=>(t.length:Int)):=hs.imp id fun e=>by rw [e,<-h.sz_]; simp [C4,FS]
 unfold chk
 have h1:(decide ((zs.length:Int) > 0)&&((zs.length:Int)!=((FS ev).length:Int)))=false:=by
  rcases hz with h | h
  ·subst h; rfl
  ·rw [h]; simp
 have h2:O0 zs (FS ev) 0=false:=ON (FS ev) [] zs (by simpa using hz) (fun t ht=>by
  obtain ⟨u,hu,rfl⟩:=List.mem_map.1 ht
  rw [Az]; exact h.ne u hu)
 have h3:(FS ev).flatten.any (Ly n)=false:=by
  rw [Fb]
  refine List.any_eq_false.2 fun v hv=>?_
  obtain ⟨j,hj,rfl⟩:=MG hv
  have:=h.flt hj
  simp only [Ly,decide_eq_true_eq]
  simp
  omega
 have h4:Nk (fun x=>decide (((FS ev).flatten.count x:Int) > 1)) (n:Int).toNat 0=false:=Mc _ _ fun x hx=>by
  rw [Fb,HS,h.cnt]
  simp only [decide_eq_false_iff_not]
  split <;> simp
 have h5:Nk (fun x=>(((FS ev).flatten.count x:Int)==0)) (n:Int).toNat 0=false:=Mc _ _ fun x hx=>by
  rw [Fb,HS,h.cnt,if_pos (by simpa using hx)]
  rfl
 rw [h1,h2,h3,h4,h5]
 rfl
theorem Ks (h1:1<=n) (h2:n<=64) (zs:List Int) (hz:zs=[]\/(zs=C4 sz/\PI n zs=true)) (hs:s.length<=64) (hv:∀ ev ∈ s,Evn n sz ev):KN n zs (Hd s)=(0,0):=by
 unfold KN
 have e1:decide ((n:Int) < 1)=false:=by simp; omega
 have e2:decide ((n:Int) > 64)=false:=by simp; omega
 have e3:(decide ((zs.length:Int) > 0)&&!PI n zs)=false:=by
  rcases hz with h | h
  ·subst h; rfl
  ·rw [h.2]; simp
 rw [e1,e2,e3]
 simp only [Bool.or_self,Bool.false_eq_true,if_false]
 rw [if_neg (by rw [Dp]; omega)]
 refine SF n zs (Hd s) 0 fun ev he=>?_
 obtain ⟨u,hu,rfl⟩:=List.mem_map.1 he
 exact SG (hv u hu) zs (hz.imp id fun h=>h.1)
theorem SL (h1:1<=n) (hn:n<=64) (hs:s.length<=64) (hv:∀ ev ∈ s,Evn n sz ev) (hsum:sz.sum<=64) (hf:PI n (C4 sz)=true) (hzl:sz.length<=64):AT n (C4 sz) (Hd s)=some (0,0)/\AZ n (Hd s)=some true:=by
 have hl:∀ ev ∈ Hd s,ev.length<=50000/\ev.flatten.length<=50000:=fun ev he=>by
  obtain ⟨u,hu,rfl⟩:=List.mem_map.1 he
  have h:=hv u hu
  have e:u.flatten.length<=64:=by rw [h.len]; exact hsum
  have:=PL h.ne
  rw [Fu,Fb,Az]
  omega
 have c1:=(Kr n ⟨by omega,by omega⟩ (C4 sz) (by rw [Az]; omega) (Hd s) (by rw [Dp]; omega) hl).1
 have c2:=(Kr n ⟨by omega,by omega⟩ [] (by simp) (Hd s) (by rw [Dp]; omega) hl).1
 rw [Ks h1 hn (C4 sz) (.inr ⟨rfl,hf⟩) hs hv] at c1
 rw [Ks h1 hn [] (.inl rfl) hs hv] at c2
 refine ⟨c1,?_⟩
 unfold AZ
 rw [c2]
 rfl
end
theorem SO {n:Nat}{sz:List Nat}(h1:1<=n) (hn:n<=64) (hp:∀ k ∈ sz,1<=k) (hs:sz.sum=n):PI n (C4 sz)=true:=by
 have key:∀ sz:List Nat,sumL (C4 sz)=((sz.sum:Nat):Int):=fun sz=>by
  induction sz with
  | nil=>rfl
  | cons k sz ih =>
   show (k:Int) + sumL (C4 sz)=_
   rw [ih,List.sum_cons]; push_cast; rfl
 simp only [PI,Bool.and_eq_true,decide_eq_true_eq]
 refine ⟨⟨⟨List.all_eq_true.2 fun v hv=>?_,?_⟩,by omega⟩,by omega⟩
 ·obtain ⟨j,hj,rfl⟩:=MG hv
  have:=hp j hj
  simp; omega
 ·rw [key,hs]
def T7 (codes:List Int):List Nat:=(codes.take 8).map fun c=>1 + (c % 6).toNat
theorem UH {α:Type}(xs:List α) (k:Nat) (K:Int) (hK:K=(k:Int)) (h:xs.length<=140737488355328):HG 0 (mnI (xs.length:Int) K) xs.length=true/\(xs.take (mnI (xs.length:Int) K).toNat).drop (0:Int).toNat=xs.take k:=by
 subst hK
 have h1:mnI (xs.length:Int) k=((min xs.length k:Nat):Int):=by unfold mnI; split <;> omega
 rw [h1]
 refine ⟨?_,?_⟩
 ·simp only [HG,Bool.and_eq_true,decide_eq_true_eq]; omega
 ·rw [Int.toNat_natCast]
  show ((xs.take (min xs.length k)).drop 0)=_
  rw [List.drop_zero]
  by_cases hk:k<=xs.length
  ·rw [Nat.min_eq_right hk]
  ·rw [Nat.min_eq_left (by omega),List.take_of_length_le (Nat.le_refl _),List.take_of_length_le (by omega)]
theorem Sh (x0 ys:List Int) (hy:(x0.take (mnI (x0.length:Int) 8).toNat).drop (0:Int).toNat=ys) (hl:ys.length<=8) (hc:∀ c ∈ ys,0<=c/\c<=255):∀ (r pre:List Int) (f:Nat) (out:List Nat) (m:Nat),ys=pre++r->r.length < f->out.length<=pre.length->m<=6 * pre.length->EV x0 f (C4 out) m pre.length=some (C4 (out++r.map fun c=>1 + (c % 6).toNat),((m + (r.map fun c=>1 + (c % 6).toNat).sum:Nat):Int))
 | [],pre,f + 1,out,m,h,_,_,_=>by
  unfold EV
  rw [hy,if_neg (by rw [h]; simp)]
  simp
 | c::r,pre,f + 1,out,m,h,hf,ho,hm=>by
  obtain ⟨c0,c1⟩:=hc c (by rw [h]; simp)
  have hp:pre.length < ys.length:=by rw [h]; simp
  have e6:c.tmod 6=c % 6:=Int.tmod_eq_emod_of_nonneg c0
  have b1:=Int.emod_nonneg c (show (6:Int)≠0 by decide)
  have b2:=Int.emod_lt_of_pos c (show (0:Int) < 6 by decide)
  have e:wr .i64 (1 + wr .i64 (c.tmod 6))=((1 + (c % 6).toNat:Nat):Int):=by
   have q:wr .i64 (c % 6)=c % 6:=Pc (by omega) (by omega)
   rw [e6,q,Pc (by omega) (by omega)]; omega
  have ih:=Sh x0 ys hy hl hc r (pre++[c]) f (out++[1 + (c % 6).toNat]) (m + (1 + (c % 6).toNat)) (by rw [h]; simp) (by simp at hf; omega) (by simp; omega) (by simp; omega)
  unfold EV
  rw [hy,if_pos (by rw [h]; simp; omega),show idx ys (pre.length:Int)=some c by rw [h]; exact Dr pre c r]
  simp only [OS]
  rw [if_pos (Fc (by omega) (by rw [Az]; omega)),e,QH (by omega),Pc (n:=(m:Int) + _) (by omega) (by omega)]
  have a1:C4 out++[((1 + (c % 6).toNat:Nat):Int)]=C4 (out++[1 + (c % 6).toNat]):=by simp [C4]
  have a2:(m:Int) + ((1 + (c % 6).toNat:Nat):Int)=((m + (1 + (c % 6).toNat):Nat):Int):=by push_cast; rfl
  have a3:((pre.length + 1:Nat):Int)=((pre++[c]).length:Int):=by simp
  rw [a1,a2,a3,ih]
  simp only [List.map_cons,List.sum_cons,List.append_assoc,List.cons_append,List.nil_append]
  rw [Nat.add_assoc]
structure Wo (sz:List Nat) (n:Nat):Prop where
 sum:sz.sum=n
 pos:∀ k ∈ sz,1<=k
 len:sz.length<=8
 n1:1<=n
 n48:n<=48
theorem Tl (codes:List Int) (hl:codes.length<=140737488355328) (hc:∀ c ∈ codes,0<=c/\c<=255):∃ sz n,E9 codes=some (C4 sz,((n:Nat):Int))/\Wo sz n:=by
 obtain ⟨k1,k2⟩:=UH codes 8 8 rfl hl
 have hc':∀ c ∈ codes.take 8,0<=c/\c<=255:=fun c h=>hc c (List.mem_of_mem_take h)
 have hl8:(codes.take 8).length<=8:=by simp; omega
 have h1:=Sh codes (codes.take 8) k2 hl8 hc' (codes.take 8) [] 100000 [] 0 rfl (by omega) (by simp) (by simp)
 have hpos:∀ k ∈ T7 codes,1<=k/\k<=6:=fun k hk=>by
  obtain ⟨c,hc1,rfl⟩:=List.mem_map.1 hk
  obtain ⟨c0,_⟩:=hc' c hc1
  have b1:=Int.emod_nonneg c (show (6:Int)≠0 by decide)
  have b2:=Int.emod_lt_of_pos c (show (0:Int) < 6 by decide)
  omega
 have hsum:∀ l:List Nat,(∀ k ∈ l,1<=k/\k<=6)->l.sum<=6 * l.length/\l.length<=l.sum:=fun l=>by
  induction l with
  | nil=>intro _; simp
  | cons k l ih =>
   intro h
   have:=ih fun j hj=>h j (by simp [hj])
   have:=h k (by simp)
   simp only [List.sum_cons,List.length_cons]; omega
 obtain ⟨s1,s2⟩:=hsum _ hpos
 have hlen:(T7 codes).length<=8:=by unfold T7; rw [List.length_map]; exact hl8
 rw [show C4 []=[] from rfl,show ((0:Nat):Int)=0 from rfl,show ((([]:List Int).length:Nat):Int)=0 from rfl,List.nil_append,Nat.zero_add] at h1
 unfold E9
 rw [if_pos k1,h1]
 simp only [OS]
 by_cases h0:(T7 codes).sum=0
 ·refine ⟨[1],1,?_,⟨rfl,by simp,by simp,by omega,by omega⟩⟩
  have:((((codes.take 8).map fun c=>1 + (c % 6).toNat).sum:Nat):Int)=0:=by
   show (((T7 codes).sum:Nat):Int)=0
   rw [h0]; rfl
  rw [this]
  rfl
 ·refine ⟨T7 codes,(T7 codes).sum,?_,⟨rfl,fun k hk=>(hpos k hk).1,hlen,by omega,by omega⟩⟩
  have:((((codes.take 8).map fun c=>1 + (c % 6).toNat).sum:Nat):Int)=(((T7 codes).sum:Nat):Int):=rfl
  rw [this,if_neg (by simpa using h0)]
  rfl
theorem Tz (x1:List (List (Int×Int))) (v1:List Int×Int) (n:Nat) (hv:v1.2=(n:Int)) (hn:n<=64):∀ (k i f:Nat) (c:List Int),i + k=n->k < f->c.length=n->(∀ j,j < i->c[j]? = some (j:Int))->E5 x1 v1 f c i=some (C4 (List.range n))
 | 0,i,f + 1,c,h,_,hl,hc=>by
  unfold E5
  rw [if_neg (by rw [hv]; simp; omega)]
  congr 1
  apply List.ext_getElem?
  intro j
  by_cases hj:j < n
  ·rw [hc j (by omega)]
   simp [C4,hj]
  ·rw [List.getElem?_eq_none (by omega),List.getElem?_eq_none (by simp [C4]; omega)]
 | k + 1,i,f + 1,c,h,hf,hl,hc=>by
  have ih:=Tz x1 v1 n hv hn k (i + 1) f (c.set i (i:Int)) (by omega) (by omega) (by simpa using hl) (fun j hj=>by
   by_cases e:i=j
   ·subst e; rw [List.getElem?_set_self (by omega)]
   ·rw [List.getElem?_set_ne e]; exact hc j (by omega))
  unfold E5
  rw [if_pos (by rw [hv]; simp; omega),KZ (show i < c.length by omega)]
  simp only [OS]
  rw [QH (by omega),Int.toNat_natCast,ih]
/-- Orders of n guests. -/
structure Ord (n:Nat) (o:List Nat):Prop where
 len:o.length=n
 perm:o.Perm (List.range n)
theorem T1 (x1:List (List (Int×Int))) (v1:List Int×Int) (c12:Int) (n:Nat) (hv:v1.2=(n:Int)) (hn1:1<=n) (v14 ys:List (Int×Int)) (hy:(v14.take (mnI (v14.length:Int) 20).toNat).drop (0:Int).toNat=ys) (hyl:ys.length<=20) (hc:∀ p ∈ ys,(0<=p.1/\p.1<=255)/\0<=p.2/\p.2<=255) (c17:List (List (List Int))):∀ (r pre:List (Int×Int)) (f:Nat) (o:List Nat),ys=pre++r->r.length < f->Ord n o->∃ o',E7 x1 v1 c12 v14 f (C4 o) c17 pre.length=some (C4 o',c17)/\Ord n o'
 | [],pre,f + 1,o,h,_,ho=>by
  refine ⟨o,?_,ho⟩
  unfold E7
  rw [hy,if_neg (by rw [h]; simp)]
 | p::r,pre,f + 1,o,h,hf,ho=>by
  obtain ⟨⟨p1,p2⟩,p3,p4⟩:=hc p (by rw [h]; simp)
  have hp:pre.length < ys.length:=by rw [h]; simp
  have hn0:¬ v1.2=0:=by omega
  have ix:∀ x:Int,0<=x->x<=255->∃ a:Nat,a < n/\(wr .i64 x).tmod v1.2=(a:Int):=fun x h0 h1=>by
   rw [Pc (by omega) (by omega),hv,Int.tmod_eq_emod_of_nonneg h0]
   have b1:=Int.emod_nonneg x (show (n:Int)≠0 by omega)
   have b2:=Int.emod_lt_of_pos x (show (0:Int) < n by omega)
   exact ⟨(x % (n:Int)).toNat,by omega,by omega⟩
  obtain ⟨a,ha,ea⟩:=ix p.1 p1 p2
  obtain ⟨b,hb,eb⟩:=ix p.2 p3 p4
  have hla:a < o.length:=by rw [ho.len]; exact ha
  have hlb:b < o.length:=by rw [ho.len]; exact hb
  have hI:∀ (l:List Nat) (j:Nat) (hj:j < l.length),idx (C4 l) (j:Int)=some ((l[j]:Nat):Int):=fun l j hj=>by
   have hj':j < (C4 l).length:=by rw [Az]; exact hj
   rw [KZ hj']
   simp [C4]
  have hS:∀ (l:List Nat) (j v:Nat),(C4 l).set j (v:Int)=C4 (l.set j v):=fun l j v=>by
   simp [C4,List.map_set]
  have ho':Ord n ((o.set a o[b]).set b o[a]):=⟨by simp [ho.len],(List.set_set_perm hla hlb).trans ho.perm⟩
  obtain ⟨o',e1,e2⟩:=T1 x1 v1 c12 n hv hn1 v14 ys hy hyl hc c17 r (pre++[p]) f _ (by rw [h]; simp) (by simp at hf; omega) ho'
  refine ⟨o',?_,e2⟩
  unfold E7
  rw [hy,if_pos (by rw [h]; simp; omega),show idx ys (pre.length:Int)=some p by rw [h]; exact Dr pre p r]
  simp only [OS]
  rw [if_neg hn0,if_neg hn0,ea,eb,hI o b hlb,hI o a hla]
  simp only [OS]
  rw [Int.toNat_natCast,hS]
  have hlb':b < (o.set a o[b]).length:=by simpa using hlb
  rw [hI _ b hlb']
  simp only [OS]
  rw [Int.toNat_natCast,hS,QH (by omega)]
  have a3:((pre.length + 1:Nat):Int)=((pre++[p]).length:Int):=by simp
  rw [a3]
  exact e1
/-- The tables of an order, of these sizes. -/
def QI (o:List Nat):List Nat->Nat->List (List Nat)
 | [],_=>[]
 | k::sz,i=>((o.take (i + k)).drop i)::QI o sz (i + k)
theorem T2 (x1:List (List (Int×Int))) (v1:List Int×Int) (c12:Int) (r29:List Int×List (List (List Int))) (o:List Nat) (hr:r29.1=C4 o) (sz:List Nat) (hv:v1.1=C4 sz) (hsz:∀ k ∈ sz,1<=k) (hsl:sz.length<=8) (hol:o.length<=48):∀ (r pre:List Nat) (f i:Nat) (out:List (List Nat)),sz=pre++r->r.length < f->i + r.sum=o.length->out.length<=pre.length->E8 x1 v1 c12 r29 f (FS out) i pre.length=some (FS (out++QI o r i))
 | [],pre,f + 1,i,out,h,_,_,_=>by
  unfold E8
  rw [hv,if_neg (by rw [Az,h]; simp)]
  simp [QI]
 | k::r,pre,f + 1,i,out,h,hf,hs,ho=>by
  have hk:=hsz k (by rw [h]; simp)
  have hp:pre.length < sz.length:=by rw [h]; simp
  rw [List.sum_cons] at hs
  have ih:=T2 x1 v1 c12 r29 o hr sz hv hsz hsl hol r (pre++[k]) f (i + k) (out++[(o.take (i + k)).drop i]) (by rw [h]; simp) (by simp at hf; omega) (by omega) (by simp; omega)
  have e1:wr .i64 ((i:Int) + (k:Int))=((i + k:Nat):Int):=by rw [Pc (by omega) (by omega)]; simp
  have hpk:Go.Proofs.YtcmgmkepodbpkaaDoor.LM (i:Int) ((i + k:Nat):Int) (C4 o).length=true:=by
   simp only [LM,HG,Bool.and_eq_true,decide_eq_true_eq,Az]; omega
  have ht:((C4 o).take (i + k)).drop i=C4 ((o.take (i + k)).drop i):=by simp [C4,List.map_take,List.map_drop]
  unfold E8
  rw [hv,if_pos (by rw [Az,h]; simp; omega),show idx (C4 sz) (pre.length:Int)=some (k:Int) by rw [h]; exact TX pre k r]
  simp only [OS]
  rw [e1,hr,if_pos hpk,Int.toNat_natCast,Int.toNat_natCast,ht,if_pos (Fc (by omega) (by rw [Az,List.length_drop,List.length_take]; omega)),if_pos (Fc (by omega) (by rw [Fu]; omega)),QH (by omega)]
  have a1:FS out++[C4 ((o.take (i + k)).drop i)]=FS (out++[(o.take (i + k)).drop i]):=by simp [FS]
  have a3:((pre.length + 1:Nat):Int)=((pre++[k]).length:Int):=by simp
  rw [a1,a3,ih]
  simp [QI]
theorem Qw {o:List Nat}:∀ (sz:List Nat) (i:Nat),i + sz.sum=o.length->(∀ k ∈ sz,1<=k)->(QI o sz i).map List.length=sz/\(∀ t ∈ QI o sz i,t.length≠0)/\(QI o sz i).flatten=o.drop i
 | [],i,h,_=>by
  refine ⟨rfl,fun t ht=>by simp [QI] at ht,?_⟩
  simp at h
  simp [QI,h]
 | k::sz,i,h,hp=>by
  rw [List.sum_cons] at h
  obtain ⟨a,b,c⟩:=Qw (o:=o) sz (i + k) (by omega) fun j hj=>hp j (by simp [hj])
  have hk:=hp k (by simp)
  have hl:((o.take (i + k)).drop i).length=k:=by rw [List.length_drop,List.length_take]; omega
  refine ⟨by simp only [QI,List.map_cons,a,hl],fun t ht=>?_,?_⟩
  ·simp only [QI] at ht
   rcases List.mem_cons.1 ht with rfl | ht
   ·rw [hl]; omega
   ·exact b t ht
  ·simp only [QI,List.flatten_cons,c]
   rw [List.drop_take,Nat.add_sub_cancel_left,<-List.drop_drop,List.take_append_drop]
theorem T0 (x1:List (List (Int×Int))) (hx1:∀ l ∈ x1,l.length<=140737488355328/\∀ p ∈ l,(0<=p.1/\p.1<=255)/\0<=p.2/\p.2<=255) (v1:List Int×Int) (n:Nat) (sz:List Nat) (hv:v1=(C4 sz,(n:Int))) (hs:Wo sz n) (ys:List (List (Int×Int))) (hy:(x1.take (mnI (x1.length:Int) 10).toNat).drop (0:Int).toNat=ys) (hyl:ys.length<=10) (hym:∀ l ∈ ys,l ∈ x1):∀ (r pre:List (List (Int×Int))) (f:Nat) (o:List Nat) (out:List (List (List Nat))),ys=pre++r->r.length < f->Ord n o->out.length=pre.length->(∀ ev ∈ out,Evn n sz ev)->∃ out',E6 x1 v1 f (C4 o) (Hd out) pre.length=some (Hd out')/\(∀ ev ∈ out',Evn n sz ev)/\out'.length=ys.length
 | [],pre,f + 1,o,out,h,_,_,hl,hev=>by
  refine ⟨out,?_,hev,by rw [hl,h]; simp⟩
  unfold E6
  rw [hy,if_neg (by rw [h]; simp)]
 | l::r,pre,f + 1,o,out,h,hf,ho,hl,hev=>by
  obtain ⟨l1,l2⟩:=hx1 l (hym l (by rw [h]; simp))
  have hp:pre.length < ys.length:=by rw [h]; simp
  obtain ⟨k1,k2⟩:=UH l 20 20 rfl l1
  have hn1:=hs.n1
  have hn48:=hs.n48
  have hs8:=hs.len
  obtain ⟨o',e1,e2⟩:=T1 x1 v1 pre.length n (by rw [hv]) hs.n1 l (l.take 20) k2 (by simp; omega) (fun p hp=>l2 p (List.mem_of_mem_take hp)) (Hd out) (l.take 20) [] 100000 o rfl (by simp; omega) ho
  rw [show ((([]:List (Int×Int)).length:Nat):Int)=0 from rfl] at e1
  have h4:=T2 x1 v1 pre.length (C4 o',Hd out) o' rfl sz (by rw [hv]) hs.pos hs8 (by rw [e2.len]; exact hn48) sz [] 100000 0 [] rfl (by omega) (by rw [e2.len,hs.sum]; omega) (by simp)
  rw [show FS []=[] from rfl,show ((0:Nat):Int)=0 from rfl,show ((([]:List Nat).length:Nat):Int)=0 from rfl,List.nil_append] at h4
  obtain ⟨c1,c2,c3⟩:=Qw (o:=o') sz 0 (by rw [e2.len,hs.sum]; omega) hs.pos
  have hevn:Evn n sz (QI o' sz 0):=⟨c1,c2,fun j=>by
   rw [c3,List.drop_zero,e2.perm.count_eq,List.count_range]⟩
  obtain ⟨out',g1,g2,g3⟩:=T0 x1 hx1 v1 n sz hv hs ys hy hyl hym r (pre++[l]) f o' (out++[QI o' sz 0]) (by rw [h]; simp) (by simp at hf; omega) e2 (by simp [hl]) (fun ev he=>by
   rcases List.mem_append.1 he with he | he
   ·exact hev ev he
   ·rw [List.mem_singleton.1 he]; exact hevn)
  refine ⟨out',?_,g2,g3⟩
  unfold E6
  rw [hy,if_pos (by rw [h]; simp; omega),show idx ys (pre.length:Int)=some l by rw [h]; exact Dr pre l r]
  simp only [OS]
  rw [if_pos k1,e1]
  simp only [OS]
  rw [h4]
  simp only [OS]
  rw [if_pos (Fc (by omega) (by rw [Dp]; omega)),QH (by omega)]
  have a1:Hd out++[FS (QI o' sz 0)]=Hd (out++[QI o' sz 0]):=by simp [Hd]
  have a3:((pre.length + 1:Nat):Int)=((pre++[l]).length:Int):=by simp
  rw [a1,a3]
  exact g1
/-- What Made returns. -/
structure U0 (s:List (List (List Nat))) (sz:List Nat) (n:Nat):Prop where
 sz_:Wo sz n
 ev:∀ ev ∈ s,Evn n sz ev
 len:s.length<=10
theorem UX (codes:List Int) (hl:codes.length<=140737488355328) (hc:∀ c ∈ codes,0<=c/\c<=255) (swaps:List (List (Int×Int))) (hsl:swaps.length<=140737488355328) (hx1:∀ l ∈ swaps,l.length<=140737488355328/\∀ p ∈ l,(0<=p.1/\p.1<=255)/\0<=p.2/\p.2<=255):∃ s sz n,GM codes swaps=some (Hd s,C4 sz,((n:Nat):Int))/\U0 s sz n:=by
 obtain ⟨sz,n,h1,hs⟩:=Tl codes hl hc
 obtain ⟨k1,k2⟩:=UH swaps 10 10 rfl hsl
 have hn1:=hs.n1
 have hn48:=hs.n48
 have m1:=Tz swaps (C4 sz,(n:Int)) n rfl (by omega) n 0 100000 (List.replicate n 0) (by omega) (by omega) (by simp) (fun j hj=>by omega)
 rw [show ((0:Nat):Int)=0 from rfl] at m1
 obtain ⟨s,g1,g2,g3⟩:=T0 swaps hx1 (C4 sz,(n:Int)) n sz rfl hs (swaps.take 10) k2 (by simp; omega) (fun l hl=>List.mem_of_mem_take hl) (swaps.take 10) [] 100000 (List.range n) [] rfl (by simp; omega) ⟨by simp,List.Perm.refl _⟩ rfl (fun ev he=>by cases he)
 rw [show Hd []=[] from rfl,show ((([]:List (List (Int×Int))).length:Nat):Int)=0 from rfl] at g1
 refine ⟨s,sz,n,?_,hs,g2,by rw [g3]; simp; omega⟩
 have hmk:OV 8 (n:Int)=true:=by
  simp only [OV,Bool.and_eq_true,decide_eq_true_eq]; omega
 unfold GM
 rw [h1]
 simp only [OS]
 rw [if_pos hmk,Int.toNat_natCast,m1]
 simp only [OS]
 rw [if_pos k1,g1]
 rfl
theorem Qv (n:Int) (sz:List Int):∀ (s:List (List (List Int))) (i:Int),(QO n sz s i).2=0->∀ ev ∈ s,chk n sz ev=0
 | [],_,_,ev,h=>by cases h
 | e::s,i,h,ev,hm=>by
  unfold QO at h
  by_cases hc:chk n sz e=0
  ·rw [hc] at h
   rcases List.mem_cons.1 hm with rfl | hm
   ·exact hc
   ·exact Qv n sz s (i + 1) h ev hm
  ·have:(chk n sz e != 0)=true:=by simpa using hc
   rw [this] at h
   exact absurd h hc
theorem XH {σ ρ:Type}(n:Nat) (S:Nat->σ) (R:Option ρ) (L:Nat->Int->σ->Option ρ) (hn:n<=99999) (hs:∀ i,i < n->∀ f,L (f + 1) (i:Int) (S i)=L f (wr .i64 ((i:Int) + 1)) (S (i + 1))) (he:∀ f,L (f + 1) (n:Int) (S n)=R):L 100000 0 (S 0)=R:=by
 have go:∀ (d i f:Nat),i + d=n->d < f->L f (i:Int) (S i)=R:=by
  intro d
  induction d with
  | zero =>
   intro i f e hf
   obtain ⟨f,rfl⟩:∃ q,f=q + 1:=⟨f - 1,by omega⟩
   rw [show i=n by omega]; exact he f
  | succ d ih =>
   intro i f e hf
   obtain ⟨f,rfl⟩:∃ q,f=q + 1:=⟨f - 1,by omega⟩
   rw [hs i (by omega) f,Pc (by omega) (by omega),show ((i:Int) + 1)=((i + 1:Nat):Int) by omega]
   exact ih (i + 1) f (by omega) (by omega)
 exact go n 0 100000 (by omega) (by omega)
theorem QA {α:Type}{xs:List α}{i:Nat}(h:i < xs.length):xs.take (i + 1)=xs.take i++[xs[i]]:=List.take_succ_eq_append_getElem h
theorem UG (v6:List (List Int)) (h1:v6.length<=1000) (h2:∀ t ∈ v6,t.length<=1000):Bu v6 100000 0 []=some v6 :=
 XH v6.length (fun i=>v6.take i) (some v6) (fun f i o=>Bu v6 f i o) (by omega) (fun i hi f=>by
  show Bu v6 (f + 1) (i:Int) (v6.take i)=Bu v6 f (wr .i64 ((i:Int) + 1)) (v6.take (i + 1))
  have hb:=h2 _ (List.getElem_mem hi)
  conv=>lhs; unfold Bu
  rw [if_pos (by simp; exact hi),KZ hi,OS,if_pos (Fc (by omega) (by omega)),if_pos (Fc (by omega) (by simp; omega)),if_pos (by simp [VA]; omega),if_pos (Fc (by omega) (by simp; omega)),Int.toNat_natCast,List.take_left,QA hi]) (fun f=>by
  show Bu v6 (f + 1) (v6.length:Int) (v6.take v6.length)=_
  unfold Bu
  rw [if_neg (by simp),List.take_length])
theorem TO (s:List (List (List Int))) (h0:s.length<=1000) (h:∀ ev ∈ s,ev.length<=1000/\∀ t ∈ ev,t.length<=1000):GL s=some s:=by
 have h1:Bt s 100000 0 []=some s:=XH s.length (fun i=>s.take i) (some s) (fun f i o=>Bt s f i o) (by omega) (fun i hi f=>by
  show Bt s (f + 1) (i:Int) (s.take i)=Bt s f (wr .i64 ((i:Int) + 1)) (s.take (i + 1))
  have hb:=h _ (List.getElem_mem hi)
  conv=>lhs; unfold Bt
  rw [if_pos (by simp; exact hi),KZ hi,OS,UG _ hb.1 hb.2,OS,if_pos (Fc (by omega) (by simp; omega)),QA hi]) (fun f=>by
  show Bt s (f + 1) (s.length:Int) (s.take s.length)=_
  unfold Bt
  rw [if_neg (by simp),List.take_length])
 unfold GL
 rw [h1]; rfl
theorem M2 (xs ys:List Int) (hxs:xs.length<=50000) (hl:xs.length=ys.length):∀ (d i f:Nat),i + d=xs.length->d < f->∃ q,CZ xs ys f i=some q/\(match q with | .inl _=>xs.drop i=ys.drop i | .inr w=>w=false/\xs.drop i≠ys.drop i)
 | 0,i,f + 1,e,_=>by
  refine ⟨.inl (),?_,?_⟩
  ·unfold CZ
   rw [if_neg (by simp; omega)]
  ·show xs.drop i=ys.drop i
   rw [List.drop_of_length_le (by omega),List.drop_of_length_le (by omega)]
 | d + 1,i,f + 1,e,hf=>by
  have hi:i < xs.length:=by omega
  have hj:i < ys.length:=by omega
  obtain ⟨q,a1,a2⟩:=M2 xs ys hxs hl d (i + 1) f (by omega) (by omega)
  have ex:xs.drop i=xs[i]::xs.drop (i + 1):=List.drop_eq_getElem_cons hi
  have ey:ys.drop i=ys[i]::ys.drop (i + 1):=List.drop_eq_getElem_cons hj
  by_cases hv:xs[i]=ys[i]
  ·refine ⟨q,?_,?_⟩
   ·unfold CZ
    rw [if_pos (by simp; exact hi),KZ hi,OS,KZ hj,OS,if_neg (by simp; exact hv),Pc (by omega) (by omega)]
    exact a1
   ·cases q with
    | inl _ =>
     have a2:xs.drop (i + 1)=ys.drop (i + 1):=a2
     show xs.drop i=ys.drop i
     rw [ex,ey,hv,a2]
    | inr w =>
     obtain ⟨b1,b2⟩:w=false/\xs.drop (i + 1)≠ys.drop (i + 1):=a2
     exact ⟨b1,fun h=>b2 (by rw [ex,ey] at h; exact (List.cons.inj h).2)⟩
  ·refine ⟨.inr false,?_,rfl,fun h=>hv (by rw [ex,ey] at h; exact (List.cons.inj h).1)⟩
   unfold CZ
   rw [if_pos (by simp; exact hi),KZ hi,OS,KZ hj,OS,if_pos (by simp; exact hv)]
theorem P5 (xs ys:List Int) (hxs:xs.length<=50000):EN xs ys=some (decide (xs=ys)):=by
 unfold EN
 by_cases hl:xs.length=ys.length
 ·rw [if_neg (by simp; omega)]
  obtain ⟨q,a1,a2⟩:=M2 xs ys hxs hl xs.length 0 100000 (by omega) (by omega)
  have a1:CZ xs ys 100000 0=some q:=a1
  rw [a1]
  cases q with
  | inl _ =>
   have a2:xs.drop 0=ys.drop 0:=a2
   simp only [List.drop_zero] at a2
   show some true=_
   rw [decide_eq_true a2]
  | inr w =>
   obtain ⟨b1,b2⟩:w=false/\xs.drop 0≠ys.drop 0:=a2
   simp only [List.drop_zero] at b2
   show some w=_
   rw [b1,decide_eq_false b2]
 ·rw [if_pos (by simp; omega),decide_eq_false (fun h=>hl (by rw [h]))]
/- What is answered at evenings that are wrong. -/
theorem RK:∀ (r:List (List Int)) (i:Int),[] ∈ r->O0 [] r i=true
 | t::r,i,h=>by
  unfold O0
  rcases List.mem_cons.1 h with h | h
  ·subst h; simp
  ·rw [RK r (i + 1) h]; simp
theorem U9 (n:Int){E:List (List Int)}(h:[] ∈ E):chk n [] E=2:=by
 unfold chk
 rw [if_neg (by simp),RK E 0 h]
 rfl
theorem Wt (n:Int){E:List (List Int)}(hne:∀ t ∈ E,t.length≠0){v:Int}(hv:v ∈ E.flatten) (hb:Ly n v=true):chk n [] E=6:=by
 have h2:O0 [] E 0=false:=ON E [] [] (.inl rfl) hne
 unfold chk
 rw [if_neg (by simp),h2,if_neg Bool.false_ne_true,if_pos (List.any_eq_true.2 ⟨v,hv,hb⟩)]
theorem Ws (n:Nat){E:List (List Int)}(hne:∀ t ∈ E,t.length≠0) (hb:∀ v ∈ E.flatten,Ly n v=false){x:Nat}(hx:x < n) (hc:1 < E.flatten.count (x:Int)):chk n [] E=5:=by
 have h2:O0 [] E 0=false:=ON E [] [] (.inl rfl) hne
 have h3:E.flatten.any (Ly n)=false:=List.any_eq_false.2 fun v hv=>by rw [hb v hv]; simp
 have h4:Nk (fun x=>decide ((E.flatten.count x:Int) > 1)) (n:Int).toNat 0=true:=(Kq _ _ _).2 ⟨(x:Int),by omega,by omega,decide_eq_true (by omega)⟩
 unfold chk
 rw [if_neg (by simp),h2,if_neg Bool.false_ne_true,h3,if_neg Bool.false_ne_true,h4,if_pos rfl]
theorem Wr (n:Nat){E:List (List Int)}(hne:∀ t ∈ E,t.length≠0) (hb:∀ v ∈ E.flatten,Ly n v=false) (hc:∀ x:Nat,x < n->E.flatten.count (x:Int)<=1){y:Nat}(hy:y < n) (h0:E.flatten.count (y:Int)=0):chk n [] E=2:=by
 have h2:O0 [] E 0=false:=ON E [] [] (.inl rfl) hne
 have h3:E.flatten.any (Ly n)=false:=List.any_eq_false.2 fun v hv=>by rw [hb v hv]; simp
 have h4:Nk (fun x=>decide ((E.flatten.count x:Int) > 1)) (n:Int).toNat 0=false:=Mc _ _ fun x hx=>by
  have:=hc x (by omega)
  exact decide_eq_false (by omega)
 have h5:Nk (fun x=>((E.flatten.count x:Int)==0)) (n:Int).toNat 0=true:=(Kq _ _ _).2 ⟨(y:Int),by omega,by omega,by simp [h0]⟩
 unfold chk
 rw [if_neg (by simp),h2,if_neg Bool.false_ne_true,h3,if_neg Bool.false_ne_true,h4,if_neg Bool.false_ne_true,h5,if_pos rfl]
theorem Qr {n j:Nat}(h:j < n):Ly n (j:Int)=false:=by
 unfold Ly
 exact decide_eq_false (by omega)
section
variable {n:Nat}{sz:List Nat}{a b:List (List Nat)}{tb:List Nat}
theorem So (h:Evn n sz (a++tb::b)){tab:List Int}(ht:tab.length≠0):∀ t ∈ FS a++tab::FS b,t.length≠0:=fun t hm=>by
 rcases List.mem_append.1 hm with hm | hm
 ·obtain ⟨u,hu,rfl⟩:=List.mem_map.1 hm
  rw [Az]; exact h.ne u (by simp [hu])
 ·rcases List.mem_cons.1 hm with rfl | hm
  ·exact ht
  ·obtain ⟨u,hu,rfl⟩:=List.mem_map.1 hm
   rw [Az]; exact h.ne u (by simp [hu])
theorem Ng (tab:List Int):(FS a++tab::FS b).flatten=C4 a.flatten++(tab++C4 b.flatten):=by
 rw [List.flatten_append,List.flatten_cons,Fb,Fb]
theorem Sj (h:Evn n sz (a++tb::b)){tab:List Int}(ht:∀ v ∈ tab,Ly n v=false):∀ v ∈ (FS a++tab::FS b).flatten,Ly n v=false:=fun v hv=>by
 rw [Ng] at hv
 rcases List.mem_append.1 hv with hv | hv
 ·obtain ⟨j,hj,rfl⟩:=MG hv
  exact Qr (h.flt (by simp only [List.flatten_append,List.mem_append]; exact .inl hj))
 ·rcases List.mem_append.1 hv with hv | hv
  ·exact ht v hv
  ·obtain ⟨j,hj,rfl⟩:=MG hv
   exact Qr (h.flt (by simp only [List.flatten_append,List.flatten_cons,List.mem_append]; exact .inr (.inr hj)))
theorem Sk (h:Evn n sz (a++tb::b)) (x:Nat):a.flatten.count x + (tb.count x + b.flatten.count x)=if x < n then 1 else 0:=by
 rw [<-h.cnt x,List.flatten_append,List.flatten_cons,List.count_append,List.count_append]
theorem OP (tab:List Int) (x:Nat):(FS a++tab::FS b).flatten.count (x:Int)=a.flatten.count x + (tab.count (x:Int) + b.flatten.count x):=by
 rw [Ng,List.count_append,List.count_append,HS,HS]
theorem T6 (h:Evn n sz (a++tb::b)){x:Nat}(hx:x ∈ tb):x < n:=h.lt tb (by simp) x hx
theorem T8 (h:Evn n sz (a++tb::b)):∀ v ∈ C4 tb,Ly n v=false:=fun v hv=>by
 obtain ⟨j,hj,rfl⟩:=MG hv
 exact Qr (T6 h hj)
theorem WH (h:Evn n sz (a++tb::b)){v:Int}(hv:Ly n v=true):chk n [] (FS a++(C4 tb).set 0 v::FS b)=6:=by
 have ht:=h.ne tb (by simp)
 refine Wt n (So h (by rw [List.length_set,Az]; exact ht)) (v:=v) ?_ hv
 rw [Ng]
 refine List.mem_append.2 (.inr (List.mem_append.2 (.inl ?_)))
 cases tb with
 | nil=>exact absurd rfl ht
 | cons y r=>simp [C4]
theorem XF (h:Evn n sz (a++tb::b)){x:Nat}(hx:x < n):chk n [] (FS a++(C4 tb++[(x:Int)])::FS b)=5:=by
 refine Ws n (So h (by simp)) (Sj h fun v hv=>?_) hx ?_
 ·rcases List.mem_append.1 hv with hv | hv
  ·exact T8 h v hv
  ·rw [List.mem_singleton.1 hv]; exact Qr hx
 ·have:=Sk h x
  rw [if_pos hx] at this
  rw [OP,List.count_append,HS,List.count_singleton_self]
  omega
theorem T5:chk n [] (FS a++[]::FS b)=2:=U9 n (by simp)
theorem XE (h:Evn n sz (a++tb::b)):chk n [] (FS a++(C4 tb).drop 1::FS b)=2:=by
 have ht:=h.ne tb (by simp)
 cases tb with
 | nil=>exact absurd rfl ht
 | cons y r =>
  show chk n [] (FS a++C4 r::FS b)=2
  by_cases hr:r=[]
  ·subst hr; exact T5
  ·have hy:=T6 h (x:=y) (by simp)
   have cn:∀ x,a.flatten.count x + ((r.count x + if y==x then 1 else 0) + b.flatten.count x)=if x < n then 1 else 0:=fun x=>by
    rw [<-List.count_cons]; exact Sk h x
   refine Wr n (So h (by rw [Az]; exact fun h=>hr (List.eq_nil_of_length_eq_zero h))) (Sj h fun v hv=>T8 h v (List.mem_cons_of_mem _ hv)) (fun x hx=>?_) hy ?_
   ·have:=cn x
    rw [if_pos hx] at this
    rw [OP,HS]
    omega
   ·have:=cn y
    rw [if_pos hy,if_pos (by simp)] at this
    rw [OP,HS]
    omega
end
theorem SE (n:Int) (E:List (List Int)) (w:Int) (hw:chk n [] E=w) (h0:w≠0) (post:List (List (List Int))):∀ (pre:List (List (List Int))) (i:Int),(∀ ev ∈ pre,chk n [] ev=0)->QO n [] (pre++E::post) i=(i + pre.length,w)
 | [],i,_=>by
  show QO n [] (E::post) i=_
  unfold QO
  rw [hw,if_pos (by simp; exact h0)]
  simp
 | ev::pre,i,h=>by
  show QO n [] (ev::(pre++E::post)) i=_
  unfold QO
  rw [h ev (by simp),if_neg (by simp),SE n E w hw h0 post pre (i + 1) fun e he=>h e (by simp [he])]
  simp only [List.length_cons,Prod.mk.injEq,and_true]
  omega
theorem P6 (n:Nat):∀ (r:List (List Int)) (i:Nat),i + r.length<=n->O0 (List.replicate n 1) r i=false->∀ t ∈ r,t.length=1
 | [],_,_,_,_,h=>by cases h
 | u::r,i,hl,h,t,hm=>by
  unfold O0 at h
  simp only [List.length_cons] at hl
  have hi:i < (List.replicate n (1:Int)).length:=by simp; omega
  rw [KZ hi] at h
  simp only [Bool.or_eq_false_iff,List.getElem_replicate] at h
  rcases List.mem_cons.1 hm with rfl | hm
  ·have h2:=h.1.2
   have:decide (((List.replicate n (1:Int)).length:Int) > 0)=true:=by simp; omega
   rw [this,Bool.true_and] at h2
   simp at h2
   omega
  ·exact P6 n r (i + 1) (by omega) (by simpa using h.2) t hm
theorem TM {n:Nat}(h1:1<=n){ev:List (List Nat)}(h:chk n (List.replicate n 1) (FS ev)=0):ev.map List.length=List.replicate n 1:=by
 unfold chk at h
 split at h
 ·cases h
 ·next g1 =>
  split at h
  ·cases h
  ·next g2 =>
   have e:ev.length=n:=by
    simp at g1
    rw [Fu] at g1
    omega
   have hs:O0 (List.replicate n 1) (FS ev) 0=false:=by simpa using g2
   have:=P6 n (FS ev) 0 (by rw [Fu]; omega) hs
   refine List.ext_getElem (by simp [e]) fun i a1 a2=>?_
   rw [List.length_map] at a1
   have hm:=this (C4 ev[i]) (List.mem_map.2 ⟨ev[i],List.getElem_mem a1,rfl⟩)
   rw [Az] at hm
   simp [hm]
theorem Ss (sz:List Nat):sumL (C4 sz)=((sz.sum:Nat):Int):=by
 induction sz with
 | nil=>rfl
 | cons k sz ih =>
  show (k:Int) + sumL (C4 sz)=_
  rw [ih,List.sum_cons]; push_cast; rfl
/-- What a schedule is like to the rest of the law where Check says that it is wrong. -/
theorem S4 {n:Int}{S B:List (List (List Int))}{i w:Int}(hS:AT n [] S=some (0,0)) (hB:AT n [] B=some (i,w)) (hw:w≠0):AZ n B=some false/\Ci n B []=some ([],w)/\C7 n B 3=some ([],0,w)/\EJ n S B=some ([],w)/\EK n B=some []/\C5 n B=some []/\Dh n B=some []/\EL n B=some 0/\Di n B=some 0/\C8 n B=some 0/\CK n B 0 1=some []/\BY n B=some []:=by
 have hn:(w != 0)=true:=by simpa using hw
 have hv:AZ n B=some false:=by
  unfold AZ
  rw [hB,OS]
  show some (w==0)=_
  rw [beq_false_of_ne hw]
 refine ⟨hv,?_,?_,?_,?_,?_,?_,?_,?_,?_,?_,?_⟩
 ·unfold Ci; rw [hB,OS,if_pos hn]
 ·unfold C7; rw [hB,OS,if_pos hn]
 ·have h1:C6 n S B 100000 0=some (.inr w):=by
   have e2:C6 n S B 99999 1=some (.inr w):=by
    unfold C6
    rw [if_pos (by simp),show idx [S,B] 1=some B from rfl,OS,hB,OS,if_pos hn]
   unfold C6
   rw [if_pos (by simp),show idx [S,B] 0=some S from rfl,OS,hS,OS,if_neg (by simp),show wr .i64 ((0:Int) + 1)=1 from Pc (by omega) (by omega)]
   exact e2
  unfold EJ
  rw [h1]; rfl
 ·unfold EK; rw [hv]; rfl
 ·unfold C5; rw [hv]; rfl
 ·unfold Dh; rw [hv]; rfl
 ·unfold EL; rw [hv]; rfl
 ·unfold Di; rw [hv]; rfl
 ·unfold C8; rw [hv]; rfl
 ·unfold CK; rw [hv]; rfl
 ·unfold BY; rw [hv]; rfl
/-- The table that is spoilt, and what Check is to say. -/
theorem S6 {n:Nat}{sz:List Nat}{a b:List (List Nat)}{tb:List Nat}(hE:Evn n sz (a++tb::b)) (x2 x4 x5:Int) (s:List (List (List Int))) (hi:idx s ((wr .i64 x2).tmod s.length)=some (FS (a++tb::b))) (zs:List Int) (hl:tb.length<=64):∃ tab w,Cl x2 x4 x5 (s,zs,(n:Int)) (C4 tb)=some (w,tab)/\chk n [] (FS a++tab::FS b)=w/\w≠0/\tab.length<=65:=by
 have ht:=hE.ne tb (by simp)
 obtain ⟨y,r,rfl⟩:=List.exists_cons_of_ne_nil (fun h=>ht (by rw [h]; rfl):tb≠[])
 have h0:idx (C4 (y::r)) 0=some (y:Int):=rfl
 unfold Cl
 by_cases c0:(x4.tmod 5==0)=true
 ·rw [if_pos c0,h0,OS]
  refine ⟨_,6,rfl,WH hE (?_:Ly n (mxI x5 (n:Int))=true),by decide,by rw [List.length_set,Az]; omega⟩
  unfold Ly mxI
  exact decide_eq_true (by split <;> omega)
 ·rw [if_neg c0]
  unfold Dl
  by_cases c1:(x4.tmod 5==1)=true
  ·rw [if_pos c1,h0,OS,OS]
   refine ⟨_,6,rfl,WH hE ?_,by decide,by rw [List.length_set,Az]; omega⟩
   unfold Ly mnI
   exact decide_eq_true (by split <;> omega)
  ·rw [if_neg c1]
   unfold Dm
   by_cases c2:(x4.tmod 5==2)=true
   ·have hz:∃ t ev',a++(y::r)::b=t::ev':=by
     cases a with
     | nil=>exact ⟨_,_,rfl⟩
     | cons t a=>exact ⟨_,_,rfl⟩
    obtain ⟨t,ev',ht'⟩:=hz
    have hne:=hE.ne t (by rw [ht']; simp)
    obtain ⟨z,q,rfl⟩:=List.exists_cons_of_ne_nil (fun h=>hne (by rw [h]; rfl):t≠[])
    have hzn:z < n:=hE.lt (z::q) (by rw [ht']; simp) z (by simp)
    rw [if_pos c2]
    show ∃ tab w,(((idx s ((wr .i64 x2).tmod s.length)).bind _).bind _).bind _=some (w,tab)/\_
    rw [hi,OS,ht',show idx (FS ((z::q)::ev')) 0=some (C4 (z::q)) from rfl,OS,show idx (C4 (z::q)) 0=some (z:Int) from rfl,OS,if_pos (Fc (by omega) (by rw [Az]; simp; simp at hl; omega))]
    exact ⟨_,5,rfl,XF hE hzn,by decide,by rw [List.length_append,Az]; simp; simp at hl; omega⟩
   ·rw [if_neg c2]
    unfold Dn
    by_cases c3:(x4.tmod 5==3)=true
    ·rw [if_pos c3,if_pos (by rw [Az]; simp only [HG,List.length_cons,Bool.and_eq_true,decide_eq_true_eq]; omega),Int.toNat_natCast,List.take_length]
     exact ⟨_,2,rfl,XE hE,by decide,by rw [List.length_drop,Az]; omega⟩
    ·rw [if_neg c3]
     exact ⟨_,2,rfl,T5,by decide,by simp⟩
theorem S5 (codes:List Int) (hl:codes.length<=140737488355328) (hc:∀ c ∈ codes,0<=c/\c<=255) (swaps:List (List (Int×Int))) (hsl:swaps.length<=140737488355328) (hx1:∀ l ∈ swaps,l.length<=140737488355328/\∀ p ∈ l,(0<=p.1/\p.1<=255)/\0<=p.2/\p.2<=255) (x2 x3 x4 x5:Int) (b2:0<=x2/\x2<=255) (b3:0<=x3/\x3<=255):CF codes swaps x2 x3 x4 x5=some true:=by
 obtain ⟨s,sz,n,hmade,⟨hsz,hev,hlen⟩⟩:=UX codes hl hc swaps hsl hx1
 obtain ⟨zsum,zpos,zlen,n1,n48⟩:=hsz
 have hf:PI n (C4 sz)=true:=SO n1 (by omega) zpos zsum
 obtain ⟨_,c2⟩:=SL n1 (by omega) (by omega) hev (by omega) hf (by omega)
 have hS:AT n [] (Hd s)=some (0,0)/\∀ zs:List Int,zs.length<=1000->AT n zs (Hd s)=some (KN n zs (Hd s)):=by
  have hl:∀ ev ∈ Hd s,ev.length<=50000/\ev.flatten.length<=50000:=fun ev he=>by
   obtain ⟨u,hu,rfl⟩:=List.mem_map.1 he
   have h:=hev u hu
   have e:u.flatten.length<=64:=by rw [h.len]; omega
   have:=PL h.ne
   rw [Fu,Fb,Az]
   omega
  have g:∀ zs:List Int,zs.length<=1000->AT n zs (Hd s)=some (KN n zs (Hd s)):=fun zs hz=>(Kr n ⟨by omega,by omega⟩ zs hz (Hd s) (by rw [Dp]; omega) hl).1
  refine ⟨?_,g⟩
  rw [g [] (by simp),Ks n1 (by omega) [] (.inl rfl) (by omega) hev]
 obtain ⟨hS,hZ⟩:=hS
 unfold CF
 rw [hmade,OS]
 by_cases hs0:s=[]
 ·subst hs0
  have hF:BY n (Hd [])=some []:=by
   have h1:DW (Hd []) 100000 0 []=some []:=by
    unfold DW
    rw [if_neg (by simp [Hd])]
   unfold BY
   rw [c2,OS,if_neg (by simp),h1,OS,if_pos (by decide)]
  show (if (((Hd []).length:Int)==0)=true then _ else _)=_
  rw [if_pos (by simp [Hd]),hF]
  rfl
 ·have hsl0:0 < s.length:=List.length_pos_iff.2 hs0
  have hzl0:0 < sz.length:=by
   cases sz with
   | nil=>simp at zsum; omega
   | cons k sz=>simp
  have e2:wr .i64 x2=x2:=Pc (by omega) (by omega)
  have e3:wr .i64 x3=x3:=Pc (by omega) (by omega)
  have hI:∃ i:Nat,(wr .i64 x2).tmod ((Hd s).length:Int)=(i:Int)/\i < s.length:=by
   rw [e2,Dp,Int.tmod_eq_emod_of_nonneg b2.1]
   have p1:=Int.emod_nonneg x2 (show (s.length:Int)≠0 by omega)
   have p2:=Int.emod_lt_of_pos x2 (show (0:Int) < s.length by omega)
   exact ⟨(x2 % s.length).toNat,by omega,by omega⟩
  have hT:∃ t:Nat,(wr .i64 x3).tmod ((C4 sz).length:Int)=(t:Int)/\t < sz.length:=by
   rw [e3,Az,Int.tmod_eq_emod_of_nonneg b3.1]
   have p1:=Int.emod_nonneg x3 (show (sz.length:Int)≠0 by omega)
   have p2:=Int.emod_lt_of_pos x3 (show (0:Int) < sz.length by omega)
   exact ⟨(x3 % sz.length).toNat,by omega,by omega⟩
  obtain ⟨i,hi1,hi2⟩:=hI
  obtain ⟨t,ht1,ht2⟩:=hT
  have key:∃ pre ev post,s=pre++ev::post/\pre.length=i:=⟨s.take i,s[i],s.drop (i + 1),by rw [<-List.drop_eq_getElem_cons hi2,List.take_append_drop],by simp; omega⟩
  obtain ⟨pre,ev,post,rfl,rfl⟩:=key
  have hE:=hev ev (by simp)
  have hel:ev.length=sz.length:=by rw [<-hE.sz_,List.length_map]
  have key:∃ a tb b,ev=a++tb::b/\a.length=t:=⟨ev.take t,ev[t]'(by omega),ev.drop (t + 1),by rw [<-List.drop_eq_getElem_cons (by omega),List.take_append_drop],by simp; omega⟩
  obtain ⟨a,tb,b,rfl,rfl⟩:=key
  have hidx:=TZ pre (a++tb::b) post
  have hidt:=TY a tb b
  have hfl:∀ e ∈ pre++(a++tb::b)::post,e.flatten.length<=64/\e.length<=64:=fun e he=>by
   have h:=hev e he
   have q:e.flatten.length<=64:=by rw [h.len]; omega
   have:=PL h.ne
   exact ⟨q,by omega⟩
  have htl:∀ e ∈ pre++(a++tb::b)::post,∀ u ∈ e,u.length<=64:=fun e he u hu=>by
   have:=PM hu
   have:=(hfl e he).1
   omega
  have htb:tb.length<=64:=htl (a++tb::b) (by simp) tb (by simp)
  obtain ⟨tab,w,hj,hk,hw,htab⟩:=S6 hE x2 x4 x5 (Hd (pre++(a++tb::b)::post)) (by rw [hi1]; exact hidx) (C4 sz) htb
  have hcp:GL (Hd (pre++(a++tb::b)::post))=some (Hd (pre++(a++tb::b)::post)):=TO _ (by rw [Dp]; omega) fun e he=>by
   obtain ⟨u,hu,rfl⟩:=List.mem_map.1 he
   refine ⟨by rw [Fu]; have:=(hfl u hu).2; omega,fun q hq=>?_⟩
   obtain ⟨z,hz,rfl⟩:=List.mem_map.1 hq
   rw [Az]; have:=htl u hu z hz; omega
  -- the schedule with the table put in
  have hset:(Hd (pre++(a++tb::b)::post)).set pre.length ((FS (a++tb::b)).set a.length tab)=Hd pre++(FS a++tab::FS b)::Hd post:=by
   have q1:(FS (a++tb::b)).set a.length tab=FS a++tab::FS b:=by
    have:FS (a++tb::b)=FS a++C4 tb::FS b:=by simp [FS]
    rw [this,<-Fu a,List.set_append_right _ _ (Nat.le_refl _),Nat.sub_self]; rfl
   have q2:Hd (pre++(a++tb::b)::post)=Hd pre++FS (a++tb::b)::Hd post:=by simp [Hd]
   rw [q1,q2,<-Dp pre,List.set_append_right _ _ (Nat.le_refl _),Nat.sub_self]; rfl
  have hbad:AT n [] (Hd pre++(FS a++tab::FS b)::Hd post)=some ((pre.length:Int),w):=by
   have hlb:∀ e ∈ Hd pre++(FS a++tab::FS b)::Hd post,e.length<=50000/\e.flatten.length<=50000:=fun e he=>by
    rcases List.mem_append.1 he with he | he
    ·obtain ⟨u,hu,rfl⟩:=List.mem_map.1 he
     have:=hfl u (by simp [hu])
     rw [Fu,Fb,Az]; omega
    ·rcases List.mem_cons.1 he with rfl | he
     ·have h6:=hfl (a++tb::b) (by simp)
      rw [List.flatten_append,List.flatten_cons,List.length_append,List.length_append,List.length_append,List.length_cons] at h6
      rw [Ng,List.length_append,List.length_append,List.length_append,List.length_cons,Az,Az,Fu,Fu]
      omega
     ·obtain ⟨u,hu,rfl⟩:=List.mem_map.1 he
      have:=hfl u (by simp [hu])
      rw [Fu,Fb,Az]; omega
   rw [List.length_append,List.length_cons] at hlen
   rw [(Kr n ⟨by omega,by omega⟩ [] (by simp) _ (by rw [List.length_append,List.length_cons,Dp,Dp]; omega) hlb).1]
   unfold KN
   have e1:decide ((n:Int) < 1)=false:=by simp; omega
   have e2:decide ((n:Int) > 64)=false:=by simp; omega
   rw [e1,e2,if_neg (by simp),if_neg (by rw [List.length_append,List.length_cons,Dp,Dp]; omega),SE n _ w hk hw _ (Hd pre) 0 fun e he=>by
    obtain ⟨u,hu,rfl⟩:=List.mem_map.1 he
    exact SG (hev u (by simp [hu])) [] (.inl rfl)]
   rw [Dp,Int.zero_add]
  obtain ⟨_,w2,w3,w4,w5,w6,w7,w8,w9,w10,w11,w12⟩:=S4 hS hbad hw
  -- sizes that do not fit, and tables of one
  have h90:AT n (C4 sz++[1]) (Hd (pre++(a++tb::b)::post))=some (0,90):=by
   rw [hZ _ (by rw [List.length_append,Az]; simp; omega)]
   have hno:PI n (C4 sz++[1])=false:=by
    cases e:PI n (C4 sz++[1]) with
    | false=>rfl
    | true =>
     have h:=(TV e).2.1
     rw [show C4 sz++[1]=C4 (sz++[1]) by simp [C4],Ss,List.sum_append,zsum] at h
     simp at h
     omega
   unfold KN
   rw [hno,if_pos (by simp)]
  have hrep:BI [1] (n:Int)=some (C4 (List.replicate n 1)):=by
   show (if 1<=(n:Int)/\(n:Int)<=64 then some (List.replicate (n:Int).toNat 1) else none)=_
   rw [if_pos ⟨by omega,by omega⟩,Int.toNat_natCast]
   simp [C4]
  have hones:((KN n (C4 (List.replicate n 1)) (Hd (pre++(a++tb::b)::post))).2==0)=decide (C4 sz=C4 (List.replicate n 1)):=by
   have hfr:PI n (C4 (List.replicate n 1))=true:=SO n1 (by omega) (fun k hk=>by rw [(List.mem_replicate.1 hk).2]; exact Nat.le_refl 1) (by simp)
   by_cases hq:sz=List.replicate n 1
   ·rw [Ks n1 (by omega) (sz:=sz) (C4 (List.replicate n 1)) (.inr ⟨by rw [hq],hfr⟩) (by omega) hev,decide_eq_true (by rw [hq])]
    rfl
   ·have hq':¬ C4 sz=C4 (List.replicate n 1):=fun e=>hq (by
     have:∀ x y:List Nat,C4 x=C4 y->x=y:=fun x y h=>by
      unfold C4 at h
      exact (List.map_inj_right (fun p q e=>Int.ofNat.inj e)).1 h
     exact this _ _ e)
    rw [decide_eq_false hq']
    refine beq_false_of_ne fun h0=>hq ?_
    unfold KN at h0
    have e1:decide ((n:Int) < 1)=false:=by simp; omega
    have e2:decide ((n:Int) > 64)=false:=by simp; omega
    rw [e1,e2,hfr,if_neg (by simp),if_neg (by rw [Dp]; omega)] at h0
    have h1:=Qv n _ _ 0 h0 (FS (a++tb::b)) (List.mem_map.2 ⟨_,by simp,rfl⟩)
    have h2:C4 (List.replicate n 1)=List.replicate n (1:Int):=by simp [C4]
    rw [h2] at h1
    rw [<-TM n1 h1,hE.sz_]
  show (if (((Hd (pre++(a++tb::b)::post)).length:Int)==0)=true then _ else _)=_
  rw [if_neg (by rw [Dp,List.length_append,List.length_cons,beq_iff_eq]; omega),if_neg (by rw [Dp,List.length_append,List.length_cons]; omega)]
  show (if ((C4 sz).length:Int)=0 then _ else _)=_
  rw [if_neg (by rw [Az]; omega)]
  simp only []
  rw [hi1,hidx,OS,ht1,hidt,OS,if_pos (Fc (by omega) (by rw [Az]; omega)),hj,OS,hcp,OS,hidx,OS,hidt,OS,Int.toNat_natCast,Int.toNat_natCast]
  simp only [hset]
  rw [hbad,OS,w2,OS,w3,OS,w4,OS,if_neg (by simp),if_neg (by simp),if_neg (by simp),if_neg (by simp),if_neg (by simp),w5,OS,w6,OS,w7,OS,w8,OS,w9,OS,w10,OS,w11,OS,OS,if_neg (by decide),if_pos (Fc (by omega) (by rw [Az]; omega)),if_pos (Fc (by omega) (by rw [Az]; simp; omega)),h90,OS,hrep,OS,hZ _ (by rw [Az]; simp; omega),OS,if_pos (by decide),OS,P5 _ _ (by rw [Az]; omega),OS,hones,if_pos (by simp),w12]
  rfl
end Go.Proofs.YtcmgmkepodbpkaaDoor
namespace Go.Proofs.YtcmgmkepodbpkaaDoor.eveningWrong
open Go.ChangeShapes Go.WideShapes Go.ChangeAt Go.RowKit
theorem UR (a0:(List Int)) (a1:(List (List (Int×Int)))) (a2:Int) (a3:Int) (a4:Int) (a5:Int) (h:CF a0 a1 a2 a3 a4 a5=some true){w:World}{v0 v1 v2 v3 v4 v5:Value}(h0:VR w (fun c=>c < w.heap.size) [] ((cdL 1 (cdK .u8)).enc a0) v0) (h1:VR w (fun c=>c < w.heap.size) [] ((cdL 1 (cdL 2 (EF (cdK .u8) (cdK .u8) (fun _=>rfl) (fun _=>rfl)))).enc a1) v1) (h2:VR w (fun c=>c < w.heap.size) [] ((cdK .u8).enc a2) v2) (h3:VR w (fun c=>c < w.heap.size) [] ((cdK .u8).enc a3) v3) (h4:VR w (fun c=>c < w.heap.size) [] ((cdK .u8).enc a4) v4) (h5:VR w (fun c=>c < w.heap.size) [] (cdI.enc a5) v5):Ret Tryd.prog 11 #[v0,v1,v2,v3,v4,v5] w fun v w'=>v = .bool true/\w.grownBy w' none :=
 Ret.mono (LI.2 (Db.enc (a0,a1,a2,a3,a4,a5,())) (E1 true) (Nh (s:=Db) (a:=(a0,a1,a2,a3,a4,a5,())) h) w (fun c=>c < w.heap.size) [v0,v1,v2,v3,v4,v5] (fun c hc=>hc) (fun g x h=>by cases h) (.cons h0 (.cons h1 (.cons h2 (.cons h3 (.cons h4 (.cons h5 .nil))))))) fun v w' h=>⟨h.2.v_inv,h.1⟩
set_option maxRecDepth 100000 in
theorem TN (H:Type) (enc:TypeId×Value->H) (W:World) (base:Nat) (args:Array Value) (ds gs:List (DataW H)) (before:List MemPlace)
  (hval:∀ (j:Nat) t v,Tryd.f11.params[j]? = some t->args[j]? = some v->Value.okWide Tryd.prog W .any base t v)
  (hW:DataW.Whole enc Tryd.prog Tryd.f11.params.toList Rows.eveningWrongSpec.vars false W args.toList ds gs before)
  (hsz:(DataW.weightsEach Tryd.prog (Tryd.f11.params.toList++(OpenSpec.ofChange Rows.eveningWrongSpec).bare.plain.varTypes Tryd.prog) (ds++gs)).all (·<=reachBytes)=true) :
  Calls Tryd.prog 11 args W fun e W'=>∃ v,e = .returned v/\Rows.eveningWrongSpec.post enc Tryd.prog Tryd.f11 false true false false W args v W':=by
 have hW':=hW
 obtain ⟨p,q,hA0,hV,rfl,hfz,hnd⟩:=hW
 have hA:DataW.TrodAll enc Tryd.prog W 0 (fun _=>true) true Tryd.f11.params.toList args.toList ds p:=hA0
 have hpar:Tryd.f11.params=#[41,42,5,5,5,3]:=by kernel_rfl
 rw [hpar] at hA hval
 obtain ⟨v0,vs0,d0,ds0,p0,q0,hargs,rfl,rfl,h0,r0⟩:=trodAll_cons hA
 obtain ⟨v1,vs1,d1,ds1,p1,q1,rfl,rfl,rfl,h1,r1⟩:=trodAll_cons r0
 obtain ⟨v2,vs2,d2,ds2,p2,q2,rfl,rfl,rfl,h2,r2⟩:=trodAll_cons r1
 obtain ⟨v3,vs3,d3,ds3,p3,q3,rfl,rfl,rfl,h3,r3⟩:=trodAll_cons r2
 obtain ⟨v4,vs4,d4,ds4,p4,q4,rfl,rfl,rfl,h4,r4⟩:=trodAll_cons r3
 obtain ⟨v5,vs5,d5,ds5,p5,q5,rfl,rfl,rfl,h5,r5⟩:=trodAll_cons r4
 obtain ⟨rfl,rfl,rfl⟩:=trodAll_nil r5
 obtain rfl:args=#[v0,v1,v2,v3,v4,v5]:=by apply Array.ext'; simpa using hargs
 obtain ⟨a0,k0,g0⟩:=Oy (RH (by kernel_rfl:Tryd.prog.underlying 41=some (.slice 5)) (by kernel_rfl) (by kernel_rfl) (P1 (by kernel_rfl:Tryd.prog.underlying 5=some (.int .u8)))) (P0 (by kernel_rfl:Tryd.prog.underlying 41=some (.slice 5)) (hval 0 41 v0 rfl rfl)) h0 hsz (j:=0) (by kernel_rfl) rfl
 obtain ⟨a1,k1,g1⟩:=Oy (RH (by kernel_rfl:Tryd.prog.underlying 42=some (.slice 52)) (by kernel_rfl) (by kernel_rfl) (Th (by kernel_rfl:Tryd.prog.underlying 52=some (.slice 53)) (by kernel_rfl:Tryd.prog.underlying 53=some (.array 2 5)) (by kernel_rfl:Tryd.prog.underlying 5=some (.int .u8)) (by kernel_rfl) (by kernel_rfl) (by kernel_rfl))) (P0 (by kernel_rfl:Tryd.prog.underlying 42=some (.slice 52)) (hval 1 42 v1 rfl rfl)) h1 hsz (j:=1) (by kernel_rfl) rfl
 obtain ⟨a2,k2,g2⟩:=Oy (P1 (by kernel_rfl:Tryd.prog.underlying 5=some (.int .u8))) (PR (by kernel_rfl:Tryd.prog.underlying 5=some (.int .u8)) (hval 2 5 v2 rfl rfl)) h2 hsz (j:=2) (by kernel_rfl) rfl
 obtain ⟨a3,k3,g3⟩:=Oy (P1 (by kernel_rfl:Tryd.prog.underlying 5=some (.int .u8))) (PR (by kernel_rfl:Tryd.prog.underlying 5=some (.int .u8)) (hval 3 5 v3 rfl rfl)) h3 hsz (j:=3) (by kernel_rfl) rfl
 obtain ⟨a4,k4,g4⟩:=Oy (P1 (by kernel_rfl:Tryd.prog.underlying 5=some (.int .u8))) (PR (by kernel_rfl:Tryd.prog.underlying 5=some (.int .u8)) (hval 4 5 v4 rfl rfl)) h4 hsz (j:=4) (by kernel_rfl) rfl
 obtain ⟨a5,k5,g5⟩:=Oy (Tg (by kernel_rfl:Tryd.prog.underlying 3=some (.int .i64))) (PR (by kernel_rfl:Tryd.prog.underlying 3=some (.int .i64)) (hval 5 3 v5 rfl rfl)) h5 hsz (j:=5) (by kernel_rfl) rfl
 have hc:=UR a0 a1 a2 a3 a4 a5 (S5 a0 g0.1 (fun c hc=>bounds_u8 (g0.2 c hc)) a1 g1.1 (fun l hl=>⟨(g1.2 l hl).1,fun p hp=>⟨bounds_u8 ((g1.2 l hl).2 p hp).1,bounds_u8 ((g1.2 l hl).2 p hp).2⟩⟩) a2 a3 a4 a5 (bounds_u8 g2) (bounds_u8 g3)) k0 k1 k2 k3 k4 k5
 unfold Ret at hc
 refine hc.mono fun e W' he=>?_
 cases e with
 | returned v =>
  obtain ⟨rfl,hg⟩:=he
  exact ⟨_,rfl,Sb UQ (fun t ht=>⟨Lq (fun t=>Tryd.prog.readableRec t) (by kernel_rfl) ht,of_decide_eq_true (Lq (fun t=>decide (t < Tryd.prog.types.size)) (by kernel_rfl) ht)⟩) hW' rfl (by kernel_rfl) (by kernel_rfl:Tryd.prog.underlying 4=some .bool) rfl hg⟩
 | panicked c=>exact he.elim
 | outgrown=>exact he.elim
theorem Ta (os:Os):laidMet Tryd.prog Rows.eveningWrongRow.laid ((N5 os).forCall (fun _ _=>0) ⟨#[],#[Value.slice none 0 0,Value.slice none 0 0,Value.int .u8 0,Value.int .u8 0,Value.int .u8 0,Value.int .i64 0],[]⟩).memory :=
 laidMet_of_run' 8 (by kernel_rfl) (by kernel_rfl)
theorem W4 (os:Os){H:Type}(enc:TypeId×Value->H):∃ places,DataW.whole enc Tryd.prog ((N5 os).forCall (fun _ _=>0) ⟨#[],#[Value.slice none 0 0,Value.slice none 0 0,Value.int .u8 0,Value.int .u8 0,Value.int .u8 0,Value.int .i64 0],[]⟩).memory Tryd.f11.params.toList Rows.eveningWrongSpec.vars false #[Value.slice none 0 0,Value.slice none 0 0,Value.int .u8 0,Value.int .u8 0,Value.int .u8 0,Value.int .i64 0].toList 8=some ([.nil,.nil,.lit (.int .u8 0),.lit (.int .u8 0),.lit (.int .u8 0),.lit (.int .i64 0)],[],places) :=
 ⟨[],by kernel_rfl⟩
set_option maxRecDepth 100000 in
theorem VI (os:Os) (started:os.Started) (H:Type) (enc:TypeId×Value->H) (F:Stop.Interp) :
  ReturnsInHanded {} Tryd.checked os 11 .any ((OpenSpec.ofChange Rows.eveningWrongSpec).preRow enc Tryd.prog Tryd.f11 Rows.eveningWrongRow.domain false Rows.eveningWrongRow.laid) (((OpenSpec.ofChange Rows.eveningWrongSpec).at F).post enc Tryd.prog Tryd.f11 false true false false):=by
 obtain ⟨places,hx⟩:=W4 os enc
 refine returnsInHanded_of_row (C:=Tryd.checked) (s:=OpenSpec.ofChange Rows.eveningWrongSpec) Te started (by kernel_rfl) Tryd.func11
  (witness_row_at (enc:=enc) (C:=Tryd.checked) false (N5 os) #[Value.slice none 0 0,Value.slice none 0 0,Value.int .u8 0,Value.int .u8 0,Value.int .u8 0,Value.int .i64 0] rfl (by kernel_rfl) (by kernel_rfl) (by kernel_rfl)
   (OpenSpec.preRow_of_cond 8 hx (by kernel_rfl) (fun k hk=>by cases hk) (by kernel_rfl) (Ta os))) ?_
 intro W base args ds gs before hval hW _ _ hsz _ _ _
 exact TN H enc W base args ds gs before hval hW hsz
theorem XY:Rows.EveningWrongSaid :=
 OpenClaim.holds_of_cond 11 Tryd.f11 rfl rfl rfl rfl rfl rfl rfl ⟨rfl,rfl,rfl,rfl,rfl⟩ rfl rfl rfl rfl rfl (by kernel_rfl) Tryd.func11 (by kernel_rfl)
  (of_decide_eq_true (by kernel_rfl)) (by unfold Func.isWrapper; first | (rw [if_pos (by decide +kernel)]; kernel_rfl) | (rw [if_neg (by decide +kernel)]; exact ⟨rfl,rfl⟩))
  (fun os started H enc _ F=>by rw [OpenClaim.pre_eq_preRow]; exact VI os started H enc F)
theorem W3 (f : FuncId) (fn : Func) (hf : Tryd.pinned.checked.prog.funcNamed "trestle/trestlelaw09.EveningWrong" = some f) (hfn : Tryd.pinned.checked.prog.funcs[f]? = some fn) :
  false=Tryd.pinned.checked.prog.looks []/\∀ (j:Nat) t,fn.params[j]? = some t->Tryd.pinned.checked.prog.wantsStandIn t=false:=by
 obtain rfl : f = 11 := OI ((show Tryd.prog.funcNamed "trestle/trestlelaw09.EveningWrong" = some 11 by kernel_rfl).symm.trans hf) |>.symm
 obtain rfl:fn=Tryd.f11:=(OI (Tryd.func11.symm.trans hfn)).symm
 refine ⟨by kernel_rfl,fun j t ht=>?_⟩
 have hm:t ∈ Tryd.f11.params.toList:=by simpa using Array.mem_of_getElem? ht
 exact (show Tryd.prog.wantsStandIn t=false from Bool.not_eq_true' _ |>.mp (Lq (fun t=>!Tryd.prog.wantsStandIn t) (by kernel_rfl) hm))
theorem card:Rows.EveningWrongCardSaid :=
 Claim7.holds_tied_plain_at .later [] _ _ _ _ XY (fun _ h=>by cases h) (by kernel_rfl) (fun _ h=>by cases h) eveningWrong_row_tie rfl ⟨rfl,rfl⟩ (by kernel_rfl) rfl W3 (by kernel_rfl)
end Go.Proofs.YtcmgmkepodbpkaaDoor.eveningWrong
