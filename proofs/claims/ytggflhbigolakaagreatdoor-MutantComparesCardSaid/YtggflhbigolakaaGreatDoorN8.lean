import Derived.Test.YtggflhbigolakaaGreatDoorN6
import Derived.Test.YtggflhbigolakaaGreatDoorN5
set_option linter.unusedVariables false
set_option linter.unusedSimpArgs false
namespace Go.Proofs.YtggflhbigolakaaGreatDoor
open Go.AM
attribute [local irreducible] AWp aY bC bI bU bW aN aS bL
set_option maxRecDepth 100000
set_option maxHeartbeats 8000000 in
theorem xA {D:Nat} (hD:5≤D) {x:MX} (hx:x.ok) (depth:Int) (hE:∀ kd dd:Int,(dd=1∨dd=2∨dd=3∨dd=0)→MC x 134 [.int .i64 kd,.int .i64 dd] (VN 4)) (hC:∀ kd dd:Int,(dd=1∨dd=2)→MC x 133 [.int .i64 kd,.int .i64 dd] (VN 5)) (hN:0<depth→MC x 132 [.int .i64 depth] (VN D)):MC x 126 [.int .i64 depth] (VN D):=by
 obtain ⟨r,f,hva⟩:=oS hx
 have hcp:x.con=true→0<x.pn:=hx.2.1
 refine dK hx.fr Tryz.func126 rfl (by kernel_rfl) (by simp [Tryz.ntmps126]) rfl fun at0 left=>?_
 simp only [Tryz.ntmps126,aH,Nat.reduceAdd,MX.row]
 refine c9 fun K0 hK0=>?_
 replace hK0:=And.intro trivial hK0
 repeat' (first|(refine u'S ?_;simp only [wS,simprocAttr,MX.row])|refine v'Q fun _ _=>?_|refine bB ?_|refine aZ (fun hg=>?_) fun hg=>?_|fail)
 refine hK0.2.go ?_
 refine c9 fun K1 hK1=>?_
 replace hK1:=And.intro trivial hK1
 repeat' (first|(refine u'S ?_;simp only [wS,simprocAttr,MX.row])|refine v'Q fun _ _=>?_|refine bB ?_|refine aZ (fun hg=>?_) fun hg=>?_|fail)
 refine aK (bS hx.fr 16 (by decide)) at0 left (by refine ⟨?_,?_,?_,?_,?_⟩<;>((try simp only [wS,simprocAttr,MX.row]);try exact rfl)) ?_
 rintro v at1 left1 ⟨z,rfl,hz1,hz2⟩ -
 simp only [wS,simprocAttr,MX.row]
 repeat' (first|(refine u'S ?_;simp only [wS,simprocAttr,MX.row])|refine v'Q fun _ _=>?_|refine bB ?_|refine aZ (fun hg=>?_) fun hg=>?_|fail)
 refine hK1.2.go ?_
 refine c9 fun K2 hK2=>?_
 replace hK2:=And.intro trivial hK2
 have key2:∀ (a l:Int) (s:AS),Ref G0 153 6 s ⟨mkF [(0,.ptr 1 0 0),(1,.int .i64 depth),(4,.ptr 6 0 0),(5,.int .i64 z)],[.dead,x.row a l,x.A2,x.A3,x.A4,x.A5,.cells 0 [.int .i64 0,.int .i64 0,.int .i64 0,.sl true []]]⟩→EG (fun i:AV × Int × Int=>VN D i.1∧inR aC i.1=true) (fun i=>K2 i s):=by
  intro a l s hr
  refine hK2.2.go (gS hr ?_)
  refine c9 fun K4 hK4=>?_
  replace hK4:=And.intro trivial hK4
  have key4:∀ (s:AS),Ref G0 153 6 s ⟨mkF [(0,.ptr 1 0 0),(1,.int .i64 depth),(4,.ptr 6 0 0),(5,.int .i64 z)],[.dead,x.row a l,x.A2,x.A3,x.A4,x.A5,.cells 0 [.int .i64 0,.int .i64 0,.int .i64 0,.sl true []]]⟩→EG (fun i:AV × Int × Int=>VN D i.1∧inR aC i.1=true) (fun i=>K4 i s):=by
   intro s hr
   refine hK4.2.go (gS hr ?_)
   repeat' (first|(refine u'S ?_;simp only [wS,simprocAttr,MX.row])|refine v'Q fun _ _=>?_|refine bB ?_|refine aZ (fun hg=>?_) fun hg=>?_|(refine aK (bS hx.fr 2 (by decide)) _ _ (by refine ⟨?_,?_,?_,?_,?_⟩<;>((try simp only [wS,simprocAttr,MX.row]);try exact rfl)) ?_;rintro _ _ _ ⟨z,rfl,hz1,hz2⟩ -;refine u'T ?_)|(refine aK (eJ hx _) _ _ (by refine ⟨?_,?_,?_,?_,?_⟩<;>((try simp only [wS,simprocAttr,MX.row]);try exact rfl)) ?_;rintro _ _ _ ⟨ya,yb,rfl⟩ -;refine u'T ?_)|(refine aK (eF hx _ hva) _ _ (by refine ⟨?_,?_,?_,?_,?_⟩<;>((try simp only [wS,simprocAttr,MX.row]);try exact rfl)) ?_;rintro _ _ _ ⟨y,rfl,hy1,hy2⟩ -;refine u'T ?_)|(refine aK (hE _ _ (by decide)) _ _ (by refine ⟨?_,?_,?_,?_,?_⟩<;>((try simp only [wS,simprocAttr,MX.row]);try exact rfl)) ?_;rintro _ _ _ ⟨c,rfl,hc⟩ -;obtain ⟨k,n,m,b,es,rfl⟩:=bF hc;refine u'T ?_)|(refine aK (node_ok hx.fr _ _ _ _ (by first|assumption|simp) (by first|exact eM|exact gP (by assumption)|exact gF (by assumption) (by assumption)|exact dB (by assumption) (by assumption) (by assumption)|assumption)) _ _ (by refine ⟨?_,?_,?_,?_,?_⟩<;>((try simp only [wS,simprocAttr,MX.row]);try exact rfl)) ?_;rintro _ _ _ ⟨rfl,hn⟩ -;refine u'T ?_)|with_reducible refine bD (fun _=>?_) (fun _=>?_)|with_reducible refine cV (by kernel_rfl) ?_)
   all_goals refine cL rfl u'p (by refine ⟨?_,?_,?_,?_,?_⟩<;>((try simp only [wS,simprocAttr,MX.row]);try exact rfl)) ⟨_,rfl,by first|exact NodeV.up (by assumption) (by omega)|exact NodeV.up (NodeV.setM (by assumption)) (by omega)⟩
  clear hK4
  cases hc:x.con with
  |false=>
   repeat' (first|(refine u'S ?_;simp only [wS,simprocAttr,MX.row,hc])|refine v'Q fun _ _=>?_|refine bB ?_|refine aZ (fun hg=>?_) fun hg=>?_|with_reducible refine bD (fun _=>?_) (fun _=>?_)|with_reducible refine cV (by kernel_rfl) ?_)
   all_goals first|(refine cL rfl u'p (by refine ⟨?_,?_,?_,?_,?_⟩<;>((try simp only [wS,simprocAttr,MX.row,hc]);try exact rfl)) ⟨_,rfl,by first|exact NodeV.up (by assumption) (by omega)|exact NodeV.up (NodeV.setM (by assumption)) (by omega)⟩)|exact key4 _ (Weak.ref ⟨by (simp only [wS,simprocAttr];try exact rfl),.inl (by (simp only [wS,simprocAttr,MX.row,hc];try exact rfl))⟩)
  |true=>
   repeat' (first|(refine u'S ?_;simp only [wS,simprocAttr,MX.row,hc])|refine v'Q fun _ _=>?_|refine bB ?_|refine aZ (fun hg=>?_) fun hg=>?_|(refine aK (hC _ _ (by decide)) _ _ (by refine ⟨?_,?_,?_,?_,?_⟩<;>((try simp only [wS,simprocAttr,MX.row,hc]);try exact rfl)) ?_;rintro _ _ _ ⟨c,rfl,hc⟩ -;obtain ⟨k,n,m,b,es,rfl⟩:=bF hc;refine u'T ?_)|(refine aK (bS hx.fr x.pn (hcp hc)) _ _ (by refine ⟨?_,?_,?_,?_,?_⟩<;>((try simp only [wS,simprocAttr,MX.row,hc]);try exact rfl)) ?_;rintro _ _ _ ⟨zp,rfl,hzp1,hzp2⟩ -;refine u'T ?_)|(refine aK (hE _ _ (by decide)) _ _ (by refine ⟨?_,?_,?_,?_,?_⟩<;>((try simp only [wS,simprocAttr,MX.row,hc]);try exact rfl)) ?_;rintro _ _ _ ⟨c,rfl,hc⟩ -;obtain ⟨k,n,m,b,es,rfl⟩:=bF hc;refine u'T ?_)|(refine aK (node_ok hx.fr _ _ _ _ (by first|assumption|simp) (by first|exact eM|exact gP (by assumption)|exact gF (by assumption) (by assumption)|exact dB (by assumption) (by assumption) (by assumption)|assumption)) _ _ (by refine ⟨?_,?_,?_,?_,?_⟩<;>((try simp only [wS,simprocAttr,MX.row,hc]);try exact rfl)) ?_;rintro _ _ _ ⟨rfl,hn⟩ -;refine u'T ?_)|with_reducible refine bD (fun _=>?_) (fun _=>?_)|with_reducible refine cV (by kernel_rfl) ?_)
   all_goals first|(refine cL rfl u'p (by refine ⟨?_,?_,?_,?_,?_⟩<;>((try simp only [wS,simprocAttr,MX.row,hc]);try exact rfl)) ⟨_,rfl,by first|exact NodeV.up (by assumption) (by omega)|exact NodeV.up (NodeV.setM (by assumption)) (by omega)⟩)|exact key4 _ (Weak.ref ⟨by (simp only [wS,simprocAttr];try exact rfl),.inl (by (simp only [wS,simprocAttr,MX.row,hc];try exact rfl))⟩)
 clear hK2
 by_cases hpos:0<depth
 ·have hdp:decide (depth > 0)=true:=by simp;omega
  repeat' (first|(refine u'S ?_;simp only [wS,simprocAttr,MX.row,hdp])|refine v'Q fun _ _=>?_|refine bB ?_|refine aZ (fun hg=>?_) fun hg=>?_|(refine aK (hN hpos) _ _ (by refine ⟨?_,?_,?_,?_,?_⟩<;>((try simp only [wS,simprocAttr,MX.row]);try exact rfl)) ?_;rintro _ _ _ ⟨c,rfl,hc⟩ -;obtain ⟨k,n,m,b,es,rfl⟩:=bF hc;simp only [wS,simprocAttr,MX.row])|with_reducible refine bD (fun _=>?_) (fun _=>?_)|with_reducible refine cV (by kernel_rfl) ?_)
  all_goals first|(refine cL rfl u'p (by refine ⟨?_,?_,?_,?_,?_⟩<;>((try simp only [wS,simprocAttr,MX.row]);try exact rfl)) ⟨_,rfl,by first|exact NodeV.up (by assumption) (by omega)|exact NodeV.up (NodeV.setM (by assumption)) (by omega)⟩)|exact key2 _ _ _ (Weak.ref ⟨by (simp only [wS,simprocAttr];try exact rfl),.inl (by (simp only [wS,simprocAttr,MX.row];try exact rfl))⟩)
 ·have hdp:decide (depth > 0)=false:=by simp;omega
  repeat' (first|(refine u'S ?_;simp only [wS,simprocAttr,MX.row,hdp])|refine v'Q fun _ _=>?_|refine bB ?_|refine aZ (fun hg=>?_) fun hg=>?_|with_reducible refine bD (fun _=>?_) (fun _=>?_)|with_reducible refine cV (by kernel_rfl) ?_)
  all_goals first|(refine cL rfl u'p (by refine ⟨?_,?_,?_,?_,?_⟩<;>((try simp only [wS,simprocAttr,MX.row]);try exact rfl)) ⟨_,rfl,by first|exact NodeV.up (by assumption) (by omega)|exact NodeV.up (NodeV.setM (by assumption)) (by omega)⟩)|exact key2 _ _ _ (Weak.ref ⟨by (simp only [wS,simprocAttr];try exact rfl),.inl (by (simp only [wS,simprocAttr,MX.row];try exact rfl))⟩)
theorem MI {x:MX} (hx:x.ok):∀ (d:Nat) (depth:Int),depth≤d→ -9223372036854775806<depth→depth≤9223372036854775807→MC x 126 [.int .i64 depth] (VN (5+2*d)):=by
 have hE:∀ kd dd:Int,(dd=1∨dd=2∨dd=3∨dd=0)→MC x 134 [.int .i64 kd,.int .i64 dd] (VN 4):=fun kd dd hdd=>B4 hx 3 kd dd (by omega) (by omega) (by omega)
 have hE3:MC x 134 [.int .i64 1,.int .i64 2] (VN 3):=B4 hx 2 1 2 (by decide) (by decide) (by decide)
 have hC:∀ kd dd:Int,(dd=1∨dd=2)→MC x 133 [.int .i64 kd,.int .i64 dd] (VN 5):=fun kd dd hdd=>fI (D:=4) hx kd dd (by omega) (by omega) fun k=>hE k (dd - 1) (by omega)
 intro d
 induction d with
 |zero=>exact fun depth h h1 h2=>xA (by decide) hx depth hE hC fun h3=>by omega
 |succ d ih=>
  intro depth h h1 h2
  refine xA (by omega) hx depth hE hC fun h3=>?_
  have hS:=ih (depth - 1) (by omega) (by omega) (by omega)
  exact DC (D:=5+2*d+1) (by omega) hx depth h1 h2 hE3 (fun most h4 h5=>vX hx (depth - 1) most h4 h5 hS) fun v=>I8 (by omega) hx v depth h1 h2 hS
theorem j2 {x:MX} (hx:x.ok):MC x 104 [.int .i64 3,.int .i64 4] (VN 12):=vX hx 3 4 (by decide) (by decide) (MI hx 3 3 (by decide) (by decide) (by decide))
end Go.Proofs.YtggflhbigolakaaGreatDoor
