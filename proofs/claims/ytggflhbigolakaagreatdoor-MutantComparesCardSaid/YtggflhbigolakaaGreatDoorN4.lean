import Derived.Test.YtggflhbigolakaaGreatDoorN2
set_option linter.unusedVariables false
set_option linter.unusedSimpArgs false
namespace Go.Proofs.YtggflhbigolakaaGreatDoor
open Go.AM
attribute [local irreducible] AWp aY bC bI bU bW aN aS bL
set_option maxRecDepth 100000
theorem DP:∀ {H ys:List ARow} {r:Nat} {y:ARow},r<H.length→d7 (H++ys) r y=d7 H r y++ys
 | [],_,_,_,h=>by cases h
 |a::H,ys,0,y,_=>rfl
 |a::H,ys,r+1,y,h=>by simp only [List.cons_append,d7];rw [DP (by simpa using h)]
theorem iA {H:List ARow} {base app:List (List AV)} {r:Nat} {y:ARow} (h:r<H.length):d7 (dO H base app) r y=dO (d7 H r y) base app:=by
 unfold dO
 split
 ·rfl
 ·exact DP h
theorem sA {fr:List AV} {H:List ARow} {base app:List (List AV)} {r:Nat} {y:ARow} (h:r<H.length):upd (AS.row ⟨fr,dO H base app⟩) [(r,y)]=fun i=>(dO (d7 H r y) base app).getD i .none:=by
 rw [← iA h]
 funext i
 rw [nG,eE]
 rfl
theorem oL {m:Nat}:∀ {k:Nat} {xs ys:List ARow},k+xs.length≤m→jX [m] k (xs++ys)=xs++jX [m] (k+xs.length) ys
 |k,[],ys,_=>by simp
 |k,a::xs,ys,h=>by
  simp only [List.length_cons] at h
  simp only [List.cons_append,jX,List.length_cons]
  rw [oL (by omega),if_neg (by simp;omega),show k+1+xs.length=k+(xs.length+1) by omega]
theorem qP:∀ {k:Nat} {xs:List ARow},jX [] k xs=xs
 |_,[]=>rfl
 |k,a::xs=>by simp only [jX];rw [qP];simp
theorem A9 [Rnd] {k n:Nat} {H:List ARow} {app:List (List AV)} {sz t:Nat} {s:AS} (l:List (Nat × AV)) (hk:k≤H.length) (hh:s.h=dO H [] app) (ht:s.get t=gD [] H.length sz app) (hsz:∀ e∈app,e.length=sz) (htr:inE aC app=true)
  (hl:kS l s.get) (hln:∀ p∈l,inR (fun r=>decide (r<H.length)) p.2=true) (hH:H.all (aG fun r=>decide (r<H.length))=true):Ref G0 n k s ⟨mkF ((t,.sl false app)::l),H⟩:=by
 have hln':∀ p∈(t,AV.sl false app)::l,inR (fun r=>decide (r<H.length)) p.2=true:=by
  intro p hp
  rcases List.mem_cons.1 hp with rfl|hp
  ·simp only [inR];exact aA htr
  ·exact hln p hp
 by_cases ha:app=[]
 ·subst ha
  have h0:s.h=H:=by rw [hh];simp [dO]
  have:=dD (G:=G0) (n:=n) (k:=k) (s:=s) [] ((t,.sl false [])::l) (jX [] 0 s.h) (by simp) ⟨.inr (by rw [ht,iS];exact .full rfl),jW hl⟩ (jV 0 s.h fun i hi _=>by cases hi)
  rw [qP,h0] at this
  exact this
 ·have h0:s.h=H++[dT [] app]:=by rw [hh,dO,if_neg ha]
  have hr:s.row H.length=dT [] app:=by
   show s.h.getD H.length .none=_
   rw [h0];simp
  have h1:=dD (G:=G0) (n:=n) (k:=k) (s:=s) [H.length] ((t,.sl false app)::l) (jX [H.length] 0 s.h) (by rw [h0];simp) ⟨.inr (by rw [ht];simpa using F1 (H:=H) (h:=s.h) hh (by simpa using hsz) (by simpa using htr)),jW hl⟩ (jV 0 s.h fun i hi _=>by
   have hi:i=H.length:=by simpa using hi
   subst hi
   show s.row H.length≠.none
   rw [hr];simp [dT])
  rw [h0,oL (by simp)] at h1
  have h2:=JX (G:=G0) (n:=n) (k:=k) (l:=(t,.sl false app)::l) (h:=H++jX [H.length] (0+H.length) [dT [] app]) H.length hk hG0 hln' (by rw [List.take_left];exact hH)
  rw [List.take_left] at h2
  exact h1.trans h2
theorem AY {x:MX} (hx:x.frame) (a l:Int) (ext:List ARow) (m:Nat) (hm:6≤m) (hext:ext.all (aG fun r=>decide (r<m))=true):([.dead,x.row a l,x.A2,x.A3,x.A4,x.A5]++ext).all (aG fun r=>decide (r<m))=true:=by
 have hcon:=kT hm
 simp only [List.all_append,List.all_cons,List.all_nil,Bool.and_true,Bool.and_eq_true]
 exact ⟨⟨rfl,cY hcon (hx.row _ _),cY hcon hx.r2,cY hcon hx.r3,cY hcon hx.r4,cY hcon hx.r5⟩,hext⟩
set_option maxHeartbeats 4000000 in
theorem fI {D:Nat} {x:MX} (hx:x.ok) (kind depth:Int) (hd1: -9223372036854775808<depth) (hd2:depth≤9223372036854775807) (hE:∀ kd:Int,MC x 134 [.int .i64 kd,.int .i64 (depth - 1)] (VN D)):MC x 133 [.int .i64 kind,.int .i64 depth] (VN (D+1)):=by
 obtain ⟨n,vP,bP,c3,hkv,hA3,hlen,hn1,hn3,hfun⟩:=NL hx
 have ed:IntKind.i64.wrap (depth - 1)=depth - 1:=cO (by omega) (by omega)
 have en:IntKind.i64.wrap ((n:Int) - 1)=(n:Int) - 1:=cO (by omega) (by omega)
 refine dK hx.fr Tryz.func133 rfl (by kernel_rfl) (by simp [Tryz.ntmps133]) rfl fun at0 left=>?_
 simp only [Tryz.ntmps133,aH,Nat.reduceAdd,MX.row,hkv,hA3]
 refine c9 fun K0 hK0=>?_
 repeat' (first|(refine u'S ?_;simp only [wS,simprocAttr])|refine v'Q fun _ _=>?_|refine C3 ?_|refine aZ (fun hg=>?_) fun hg=>?_|fail)
 refine hK0.go ?_
 refine c9 fun K1 hK1=>?_
 repeat' (first|(refine u'S ?_;simp only [wS,simprocAttr])|refine v'Q fun _ _=>?_|refine C3 ?_|refine aZ (fun hg=>?_) fun hg=>?_|fail)
 refine aK (bS hx.fr n (by omega)) at0 left (by refine ⟨?_,?_,?_,?_,?_⟩<;>((try simp only [wS,simprocAttr,cN,MX.row,hkv,hA3]);try exact rfl)) ?_
 rintro v at1 left1 ⟨z,rfl,hz1,hz2⟩ -
 obtain ⟨f,rfl⟩:∃ f:Nat,z=f:=⟨z.toNat,(Int.toNat_of_nonneg hz1).symm⟩
 simp only [wS,simprocAttr,MX.row,hkv,hA3]
 repeat' (first|(refine u'S ?_;simp only [wS,simprocAttr])|refine v'Q fun _ _=>?_|refine C3 ?_|refine aZ (fun hg=>?_) fun hg=>?_|fail)
 refine hK1.go ?_
 refine c9 fun K2 hK2=>?_
 have key:∀ (f:Nat) (a1 l1:Int) (s:AS),f<n→Ref G0 78 6 s ⟨mkF [(0,.ptr 1 0 0),(1,.int .i64 kind),(2,.int .i64 depth),(6,.ptr 6 0 0),(7,.int .i64 f)],[.dead,.cells 0 [b9 x.L,.int .i64 (a1),.int .i64 (l1),.int .i64 x.pk,.int .i64 x.pn,.int .i64 x.pm,.osl 3 vP 0 n 4 bP,.int .i64 x.F,.bool x.con],x.A2,.cells vP c3,x.A4,x.A5,.cells 0 [.int .i64 0,.int .i64 0,.int .i64 0,.sl true []]]⟩→EG (fun i:AV × Int × Int=>VN (D+1) i.1∧inR aC i.1=true) (fun i=>K2 i s):=by
  intro f a1 l1 s hf hr
  refine hK2.go (gS hr ?_)
  obtain ⟨r,fn,tl,hw,ha,hd⟩:=hfun f hf
  have hd1:c3.drop (f*4+1)=.int .i64 (fn.p:Nat)::.int .i64 0::.osl r fn.v 0 (fn.q+1) 4 fn.b::tl:=by rw [← List.drop_drop,hd];rfl
  have hd3:c3.drop (f*4+3)=.osl r fn.v 0 (fn.q+1) 4 fn.b::tl:=by rw [← List.drop_drop,hd];rfl
  have hp:=hw.2.1
  have hq:=hw.2.2.1
  have hR:∀ Z Y app,(dO [.dead,Z,x.A2,.cells vP c3,x.A4,x.A5,Y] [] app).getD r .none=fn.row:=fun Z Y app=>by
   rcases ha with ⟨rfl,h⟩|⟨rfl,h⟩|⟨rfl,h⟩<;>(rw [cN _ _ _ (by simp)];exact h)
  repeat' (first|(refine u'S ?_;simp only [wS,simprocAttr,MX.row,hkv,hA3])|refine v'Q fun _ _=>?_|refine bB ?_|refine aZ (fun hg=>?_) fun hg=>?_|fail)
  refine fR (α:={p:List (List AV) × Int × Int // p.1.length≤fn.p∧∀ e∈p.1,NodeV D e}) (fun p=>[(0,.ptr 1 0 0),(1,.int .i64 kind),(2,.int .i64 depth),(6,.ptr 6 0 0),(7,.int .i64 f),(8,gD [] 7 4 p.1.1),(9,.int .i64 (p.1.1.length:Nat))]) (fun p=>dO [.dead,.cells 0 [b9 x.L,.int .i64 (p.1.2.1),.int .i64 (p.1.2.2),.int .i64 x.pk,.int .i64 x.pn,.int .i64 x.pm,.osl 3 vP 0 n 4 bP,.int .i64 x.F,.bool x.con],x.A2,.cells vP c3,x.A4,x.A5,.cells 0 [.int .i64 0,.int .i64 0,.int .i64 0,.sl true []]] [] p.1.1) (fun p=>fn.p - p.1.1.length) ⟨([],a1,l1),by simp,by simp⟩ (Weak.ref ⟨?_,.inl ?_⟩) ?_
  ·simp only [wS,simprocAttr,iS];try exact rfl
  ·simp only [wS,simprocAttr,dO,if_true,MX.row,hkv,hA3];try exact rfl
  ·rintro ⟨⟨app,a2,l2⟩,hl,hn⟩ K3 hK3
   simp only at hl hn
   repeat' (first|(refine u'S ?_;simp only [wS,simprocAttr,cN,hf,hd1,MX.row,hkv,hA3])|refine v'Q fun _ _=>?_|refine bB ?_|refine aZ (fun hg=>?_) fun hg=>?_|fail)
   refine bD (fun h=>?_) (fun h=>?_)
   ·have hlt:app.length<fn.p:=by simpa using h
    have hq1:app.length<fn.q+1:=by omega
    obtain ⟨kd,nn,mm,b,es,tl2,_,hes1,hes2,hdk⟩:=LC hw (j:=app.length) hq1
    repeat' (first|(refine u'S ?_;simp only [wS,simprocAttr,cN,hf,hd3,hq1,Fn.row,hdk,ed,hR,MX.row,hkv,hA3])|refine v'Q fun _ _=>?_|refine bB ?_|refine aZ (fun hg=>?_) fun hg=>?_|fail)
    refine aK (hE kd) a2 l2 (by refine ⟨?_,?_,?_,?_,?_⟩<;>((try simp only [wS,simprocAttr,cN,MX.row,hkv,hA3]);try exact rfl)) ?_
    rintro v a3 l3 ⟨c,rfl,hc⟩ -
    obtain ⟨k1,n1,m1,b1,es1,rfl⟩:=bF hc
    simp only [wS,simprocAttr,MX.row,iA,cN,hkv]
    refine EG.mono (fun i h=>sK (H:=[.dead,.cells 0 [b9 x.L,.int .i64 (a3),.int .i64 (l3),.int .i64 x.pk,.int .i64 x.pn,.int .i64 x.pm,.osl 3 vP 0 n 4 bP,.int .i64 x.F,.bool x.con],x.A2,.cells vP c3,x.A4,x.A5,.cells 0 [.int .i64 0,.int .i64 0,.int .i64 0,.sl true []]]) (base:=[]) (app:=app) (e:=[.int .i64 k1,.int .i64 n1,.int .i64 m1,.sl b1 es1]) (by':=48) (by kernel_rfl) rfl (sA (by simp)) rfl (fun e he=>(hn e (by simpa using he)).len) (by simp [cJ]) (by simp only [List.length_nil];omega) h) ?_
    have e3:=aL (k:=app.length) hlt (by omega)
    have hac:=j6 [.dead,.cells 0 [b9 x.L,.int .i64 (a3),.int .i64 (l3),.int .i64 x.pk,.int .i64 x.pn,.int .i64 x.pm,.osl 3 vP 0 n 4 bP,.int .i64 x.F,.bool x.con],x.A2,.cells vP c3,x.A4,x.A5,.cells 0 [.int .i64 0,.int .i64 0,.int .i64 0,.sl true []]] [] app [.int .i64 k1,.int .i64 n1,.int .i64 m1,.sl b1 es1]
    simp only [List.length_cons,List.length_nil,Nat.reduceAdd] at hac
    simp only [wS,simprocAttr,MX.row,hkv,hA3]
    repeat' (first|(refine u'S ?_;simp only [wS,simprocAttr,e3])|refine v'Q fun _ _=>?_|refine bB ?_|refine aZ (fun hg=>?_) fun hg=>?_|fail)
    refine hK3 _ ⟨(app++[[.int .i64 k1,.int .i64 n1,.int .i64 m1,.sl b1 es1]],a3,l3),by simp;omega,OG hn hc⟩ (Weak.ref ⟨?_,.inl ?_⟩) (by simp;omega)
    ·simp only [wS,simprocAttr,List.length_append,List.length_singleton];try exact rfl
    ·simp only [wS,simprocAttr,iA,MX.row,hkv,hac];try exact rfl
   ·have hal:app.length≤6:=by omega
    repeat' (first|(refine u'S ?_;simp only [wS,simprocAttr])|refine v'Q fun _ _=>?_|refine C3 ?_|refine aZ (fun hg=>?_) fun hg=>?_|fail)
    refine ContE.go (by assumption) (gS (A9 (H:=[.dead,.cells 0 [b9 x.L,.int .i64 (a2),.int .i64 (l2),.int .i64 x.pk,.int .i64 x.pn,.int .i64 x.pm,.osl 3 vP 0 n 4 bP,.int .i64 x.F,.bool x.con],x.A2,.cells vP c3,x.A4,x.A5,.cells 0 [.int .i64 0,.int .i64 0,.int .i64 0,.sl true []]]) (sz:=4) (t:=8) (app:=app) [(0,.ptr 1 0 0),(1,.int .i64 kind),(6,.ptr 6 0 0),(7,.int .i64 f)] (by simp) ?_ ?_ (fun e he=>(hn e he).len) (cZ hn) ?_ (by simp [inR]) (by have:=AY hx.fr a2 l2 [.cells 0 [.int .i64 0,.int .i64 0,.int .i64 0,.sl true []]] 7 (by decide) rfl;rw [hA3] at this;simp only [MX.row,hkv,hA3] at this;exact this)) ?_)
    ·simp only [wS,simprocAttr,MX.row,hkv,hA3];try exact rfl
    ·exact u'p
    ·exact u'p
    repeat' (first|(refine u'S ?_;simp only [wS,simprocAttr,MX.row,hkv,hA3])|refine v'Q fun _ _=>?_|refine bB ?_|refine aZ (fun hg=>?_) fun hg=>?_|fail)
    refine aK (node_ok hx.fr _ _ _ _ hal hn) a2 l2 (by refine ⟨?_,?_,?_,?_,?_⟩<;>((try simp only [wS,simprocAttr,cN,MX.row,hkv,hA3]);try exact rfl)) ?_
    rintro v a4 l4 ⟨rfl,hvn⟩ -
    simp only [wS,simprocAttr,MX.row]
    repeat' (first|(refine u'S ?_;simp only [wS,simprocAttr])|refine v'Q fun _ _=>?_|refine bB ?_|refine aZ (fun hg=>?_) fun hg=>?_|fail)
    refine cL rfl u'p (by refine ⟨?_,?_,?_,?_,?_⟩<;>((try simp only [wS,simprocAttr,cN,MX.row,hkv,hA3]);try exact rfl)) ⟨_,rfl,hvn⟩
 clear hK2
 repeat' (first|(refine u'S ?_;simp only [wS,simprocAttr,MX.row,hkv,hA3])|refine v'Q fun _ _=>?_|refine bB ?_|refine aZ (fun hg=>?_) fun hg=>?_|fail)
 ·have hn1':1<n:=by simp at hg;omega
  refine aK (bS hx.fr 8 (by decide)) at1 left1 (by refine ⟨?_,?_,?_,?_,?_⟩<;>((try simp only [wS,simprocAttr,cN,MX.row,hkv,hA3]);try exact rfl)) ?_
  rintro v at2 left2 ⟨y,rfl,hy1,hy2⟩ -
  simp only [wS,simprocAttr,MX.row,hkv,hA3]
  repeat' (first|(refine u'S ?_;simp only [wS,simprocAttr,en,MX.row,hkv,hA3])|refine v'Q fun _ _=>?_|refine bB ?_|refine aZ (fun hg=>?_) fun hg=>?_|fail)
  refine bD (fun h=>?_) (fun h=>?_)
  ·repeat' (first|(refine u'S ?_;simp only [wS,simprocAttr,en,MX.row,hkv,hA3])|refine v'Q fun _ _=>?_|refine bB ?_|refine aZ (fun hg=>?_) fun hg=>?_|fail)
   refine aK (bS hx.fr ((n:Int) - 1) (by omega)) at2 left2 (by refine ⟨?_,?_,?_,?_,?_⟩<;>((try simp only [wS,simprocAttr,cN,MX.row,hkv,hA3]);try exact rfl)) ?_
   rintro v at3 left3 ⟨w,rfl,hw1,hw2⟩ -
   obtain ⟨f2,hf2⟩:∃ f2:Nat,1+w=f2:=⟨(1+w).toNat,(Int.toNat_of_nonneg (by omega)).symm⟩
   have ew:IntKind.i64.wrap (f2:Int)=f2:=cO (by omega) (by omega)
   simp only [wS,simprocAttr,MX.row,ew,hf2,hkv,hA3]
   repeat' (first|(refine u'S ?_;simp only [wS,simprocAttr,MX.row,hkv,hA3])|refine v'Q fun _ _=>?_|refine bB ?_|refine aZ (fun hg=>?_) fun hg=>?_|fail)
   refine key f2 at3 left3 _ (by omega) (Weak.ref ⟨by (simp only [wS,simprocAttr];try exact rfl),.inl (by (simp only [wS,simprocAttr,MX.row,hkv,hA3];try exact rfl))⟩)
  ·repeat' (first|(refine u'S ?_;simp only [wS,simprocAttr,MX.row,hkv,hA3])|refine v'Q fun _ _=>?_|refine bB ?_|refine aZ (fun hg=>?_) fun hg=>?_|fail)
   refine key f at2 left2 _ (by omega) (Weak.ref ⟨by (simp only [wS,simprocAttr];try exact rfl),.inl (by (simp only [wS,simprocAttr,MX.row,hkv,hA3];try exact rfl))⟩)
 ·refine key f at1 left1 _ (by omega) (Weak.ref ⟨by (simp only [wS,simprocAttr];try exact rfl),.inl (by (simp only [wS,simprocAttr,MX.row,hkv,hA3];try exact rfl))⟩)
end Go.Proofs.YtggflhbigolakaaGreatDoor
