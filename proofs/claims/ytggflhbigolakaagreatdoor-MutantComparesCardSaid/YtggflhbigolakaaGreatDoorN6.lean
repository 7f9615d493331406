import Derived.Test.YtggflhbigolakaaGreatDoorN4
import Derived.Test.YtggflhbigolakaaGreatDoorAE
set_option linter.unusedVariables false
set_option linter.unusedSimpArgs false
namespace Go.Proofs.YtggflhbigolakaaGreatDoor
open Go.AM
attribute [local irreducible] AWp aY bC bI bU bW aN aS bL
set_option maxRecDepth 100000
set_option maxHeartbeats 4000000 in
theorem vX {D:Nat} {x:MX} (hx:x.ok) (depth most:Int) (hm1:0<most) (hm2:most≤6) (hS:MC x 126 [.int .i64 depth] (VN D)):MC x 104 [.int .i64 depth,.int .i64 most] (VN (D+1)):=by
 refine dK hx.fr Tryz.func104 rfl (by kernel_rfl) (by simp [Tryz.ntmps104]) rfl fun at0 left=>?_
 simp only [Tryz.ntmps104,aH,Nat.reduceAdd,MX.row]
 repeat' (first|(refine u'S ?_;simp only [wS,simprocAttr])|refine v'Q fun _ _=>?_|refine bB ?_|refine aZ (fun hg=>?_) fun hg=>?_|fail)
 refine aK (bS hx.fr most hm1) at0 left (by refine ⟨?_,?_,?_,?_,?_⟩<;>((try simp only [wS,simprocAttr,cN,MX.row]);try exact rfl)) ?_
 rintro v at1 left1 ⟨z,rfl,hz1,hz2⟩ -
 have ez:IntKind.i64.wrap (1+z)=1+z:=cO (by omega) (by omega)
 obtain ⟨nn,hnn⟩:∃ nn:Nat,1+z=nn:=⟨(1+z).toNat,(Int.toNat_of_nonneg (by omega)).symm⟩
 have ez':IntKind.i64.wrap (nn:Int)=nn:=cO (by omega) (by omega)
 simp only [wS,simprocAttr,hnn,ez',MX.row]
 repeat' (first|(refine u'S ?_;simp only [wS,simprocAttr,MX.row,hnn,ez'])|refine v'Q fun _ _=>?_|refine bB ?_|refine aZ (fun hg=>?_) fun hg=>?_|fail)
 rename_i Ka hKa Kb hKb
 replace hKa:=And.intro trivial hKa
 refine fR (α:={p:List (List AV) × Int × Int // p.1.length≤nn∧∀ e∈p.1,NodeV D e}) (fun p=>[(0,.ptr 1 0 0),(1,.int .i64 depth),(6,.ptr 6 0 0),(7,gD [] 7 4 p.1.1),(8,.int .i64 nn),(9,.int .i64 (p.1.1.length:Nat))]) (fun p=>dO [.dead,.cells 0 [b9 x.L,.int .i64 (p.1.2.1),.int .i64 (p.1.2.2),.int .i64 x.pk,.int .i64 x.pn,.int .i64 x.pm,x.kv,.int .i64 x.F,.bool x.con],x.A2,x.A3,x.A4,x.A5,.cells 0 [.int .i64 0,.int .i64 0,.int .i64 0,.sl true []]] [] p.1.1) (fun p=>nn - p.1.1.length) ⟨([],at1,left1),by simp,by simp⟩ (Weak.ref ⟨?_,.inl ?_⟩) ?_
 ·simp only [wS,simprocAttr,iS];try exact rfl
 ·simp only [wS,simprocAttr,dO,if_true];try exact rfl
 ·rintro ⟨⟨app,a2,l2⟩,hl,hn⟩ K3 hK3
  simp only at hl hn
  repeat' (first|(refine u'S ?_;simp only [wS,simprocAttr,cN,MX.row])|refine v'Q fun _ _=>?_|refine bB ?_|refine aZ (fun hg=>?_) fun hg=>?_|fail)
  ·have hlt:app.length<nn:=by simpa using hg
   refine bD (fun h=>?_) (fun h=>?_)
   ·repeat' (first|(refine u'S ?_;simp only [wS,simprocAttr,cN,MX.row])|refine v'Q fun _ _=>?_|refine bB ?_|refine aZ (fun hg=>?_) fun hg=>?_|fail)
    refine aK hS a2 l2 (by refine ⟨?_,?_,?_,?_,?_⟩<;>((try simp only [wS,simprocAttr,cN,MX.row]);try exact rfl)) ?_
    rintro v a3 l3 ⟨c,rfl,hc⟩ -
    obtain ⟨k1,n1,m1,b1,es1,rfl⟩:=bF hc
    simp only [wS,simprocAttr,MX.row,iA,cN]
    refine EG.mono (fun i h=>sK (H:=[.dead,.cells 0 [b9 x.L,.int .i64 (a3),.int .i64 (l3),.int .i64 x.pk,.int .i64 x.pn,.int .i64 x.pm,x.kv,.int .i64 x.F,.bool x.con],x.A2,x.A3,x.A4,x.A5,.cells 0 [.int .i64 0,.int .i64 0,.int .i64 0,.sl true []]]) (base:=[]) (app:=app) (e:=[.int .i64 k1,.int .i64 n1,.int .i64 m1,.sl b1 es1]) (by':=48) (by kernel_rfl) rfl (sA (by simp)) rfl (fun e he=>(hn e (by simpa using he)).len) (by simp [cJ]) (by simp only [List.length_nil];omega) h) ?_
    have e3:=aL (k:=app.length) hlt (by omega)
    have hac:=j6 [.dead,.cells 0 [b9 x.L,.int .i64 (a3),.int .i64 (l3),.int .i64 x.pk,.int .i64 x.pn,.int .i64 x.pm,x.kv,.int .i64 x.F,.bool x.con],x.A2,x.A3,x.A4,x.A5,.cells 0 [.int .i64 0,.int .i64 0,.int .i64 0,.sl true []]] [] app [.int .i64 k1,.int .i64 n1,.int .i64 m1,.sl b1 es1]
    simp only [List.length_cons,List.length_nil,Nat.reduceAdd] at hac
    simp only [wS,simprocAttr,MX.row]
    repeat' (first|(refine u'S ?_;simp only [wS,simprocAttr,e3])|refine v'Q fun _ _=>?_|refine bB ?_|refine aZ (fun hg=>?_) fun hg=>?_|fail)
    refine hK3 _ ⟨(app++[[.int .i64 k1,.int .i64 n1,.int .i64 m1,.sl b1 es1]],a3,l3),by simp;omega,OG hn hc⟩ (Weak.ref ⟨?_,.inl ?_⟩) (by simp;omega)
    ·simp only [wS,simprocAttr,List.length_append,List.length_singleton];try exact rfl
    ·simp only [wS,simprocAttr,iA,MX.row,hac];try exact rfl
   ·have hal:app.length≤6:=by omega
    repeat' (first|(refine u'S ?_;simp only [wS,simprocAttr])|refine v'Q fun _ _=>?_|refine bB ?_|refine aZ (fun hg=>?_) fun hg=>?_|fail)
    refine hKa.2.go (gS (A9 (H:=[.dead,.cells 0 [b9 x.L,.int .i64 (a2),.int .i64 (l2),.int .i64 x.pk,.int .i64 x.pn,.int .i64 x.pm,x.kv,.int .i64 x.F,.bool x.con],x.A2,x.A3,x.A4,x.A5,.cells 0 [.int .i64 0,.int .i64 0,.int .i64 0,.sl true []]]) (sz:=4) (t:=7) (app:=app) [(0,.ptr 1 0 0),(6,.ptr 6 0 0)] (by simp) ?_ ?_ (fun e he=>(hn e he).len) (cZ hn) ?_ (by simp [inR]) (AY hx.fr a2 l2 [.cells 0 [.int .i64 0,.int .i64 0,.int .i64 0,.sl true []]] 7 (by decide) rfl)) ?_)
    ·simp only [wS,simprocAttr,MX.row];try exact rfl
    ·exact u'p
    ·exact u'p
    repeat' (first|(refine u'S ?_;simp only [wS,simprocAttr,MX.row])|refine v'Q fun _ _=>?_|refine bB ?_|refine aZ (fun hg=>?_) fun hg=>?_|fail)
    refine aK (node_ok hx.fr _ _ _ _ hal hn) a2 l2 (by refine ⟨?_,?_,?_,?_,?_⟩<;>((try simp only [wS,simprocAttr,cN,MX.row]);try exact rfl)) ?_
    rintro v a4 l4 ⟨rfl,hvn⟩ -
    simp only [wS,simprocAttr,MX.row]
    repeat' (first|(refine u'S ?_;simp only [wS,simprocAttr])|refine v'Q fun _ _=>?_|refine bB ?_|refine aZ (fun hg=>?_) fun hg=>?_|fail)
    refine cL rfl u'p (by refine ⟨?_,?_,?_,?_,?_⟩<;>((try simp only [wS,simprocAttr,cN,MX.row]);try exact rfl)) ⟨_,rfl,hvn⟩
  ·have hal:app.length≤6:=by omega
   repeat' (first|(refine u'S ?_;simp only [wS,simprocAttr])|refine v'Q fun _ _=>?_|refine bB ?_|refine aZ (fun hg=>?_) fun hg=>?_|fail)
   refine hKa.2.go (gS (A9 (H:=[.dead,.cells 0 [b9 x.L,.int .i64 (a2),.int .i64 (l2),.int .i64 x.pk,.int .i64 x.pn,.int .i64 x.pm,x.kv,.int .i64 x.F,.bool x.con],x.A2,x.A3,x.A4,x.A5,.cells 0 [.int .i64 0,.int .i64 0,.int .i64 0,.sl true []]]) (sz:=4) (t:=7) (app:=app) [(0,.ptr 1 0 0),(6,.ptr 6 0 0)] (by simp) ?_ ?_ (fun e he=>(hn e he).len) (cZ hn) ?_ (by simp [inR]) (AY hx.fr a2 l2 [.cells 0 [.int .i64 0,.int .i64 0,.int .i64 0,.sl true []]] 7 (by decide) rfl)) ?_)
   ·simp only [wS,simprocAttr,MX.row];try exact rfl
   ·exact u'p
   ·exact u'p
   repeat' (first|(refine u'S ?_;simp only [wS,simprocAttr,MX.row])|refine v'Q fun _ _=>?_|refine bB ?_|refine aZ (fun hg=>?_) fun hg=>?_|fail)
   refine aK (node_ok hx.fr _ _ _ _ hal hn) a2 l2 (by refine ⟨?_,?_,?_,?_,?_⟩<;>((try simp only [wS,simprocAttr,cN,MX.row]);try exact rfl)) ?_
   rintro v a4 l4 ⟨rfl,hvn⟩ -
   simp only [wS,simprocAttr,MX.row]
   repeat' (first|(refine u'S ?_;simp only [wS,simprocAttr])|refine v'Q fun _ _=>?_|refine bB ?_|refine aZ (fun hg=>?_) fun hg=>?_|fail)
   refine cL rfl u'p (by refine ⟨?_,?_,?_,?_,?_⟩<;>((try simp only [wS,simprocAttr,cN,MX.row]);try exact rfl)) ⟨_,rfl,hvn⟩
theorem JH {sz:Nat} {b:Bool} {e:List AV} {rows:Nat→ARow} (h:e.length=sz):cJ sz (.sl b [e]) rows=some (1,e):=by simp [cJ,h]
theorem vE {n:Nat} {d:Option Tmp} {rest:List POp} {m:Option Acc} {s:AS} {ι:Type} {R: ι→Prop} {K: ι→Option Acc→AS→Prop} {x:MX} {f:FuncId} {more more':List AV} {V:AV→Prop} (lfp:List Nat) (h:MC x f more' V) (at0 left:Int) (hr:MR x s.row at0 left) (hl:j8 s.row lfp more more') (hd:∀ r∈[1,2,3,4,5],r ∉ lfp)
  (hk:∀ v at1 left1,V v→inR aC v=true→EG R (fun i=>aY Tryz.prog G0 n (K i) rest (adv m ([1,2,3,4,5]++lfp) (1::lfp)) ((s.wr ((1,x.row at1 left1)::lfp.map fun r=>(r,.dead))).put d v))):EG R (fun i=>bC Tryz.prog G0 n (K i) d rest m s f (.ptr 1 0 0::more)):=by
 refine kW (NU lfp (h s.row at0 left hr) ⟨.inl rfl,hl⟩ hd) ?_
 rintro eff ⟨e0,⟨v,a1,l1,rfl,h1,h2⟩,rfl⟩
 have:=hk v a1 l1 h1 h2
 simpa only [List.map_cons,List.map_append,List.map_map,List.map_id',Function.comp_def,List.cons_append,List.nil_append,List.map_nil] using this
set_option maxHeartbeats 8000000 in
theorem I8 {D:Nat} (hD:3≤D) {x:MX} (hx:x.ok) (v0 depth:Int) (hd1: -9223372036854775806<depth) (hd2:depth≤9223372036854775807) (hS:MC x 126 [.int .i64 (depth - 1)] (VN D)):MC x 140 [.int .i64 v0,.int .i64 depth] (VN (D+2)):=by
 have e1:IntKind.i64.wrap (depth - 1)=depth - 1:=cO (by omega) (by omega)
 refine dK hx.fr Tryz.func140 rfl (by kernel_rfl) (by simp [Tryz.ntmps140]) rfl fun at0 left=>?_
 simp only [Tryz.ntmps140,aH,Nat.reduceAdd,MX.row]
 repeat' (first|(refine u'S ?_;simp only [wS,simprocAttr,MX.row,e1])|refine v'Q fun _ _=>?_|refine bB ?_|refine aZ (fun hg=>?_) fun hg=>?_|(refine aK (bS hx.fr _ (by decide)) _ _ (by refine ⟨?_,?_,?_,?_,?_⟩<;>((try simp only [wS,simprocAttr,MX.row]);try exact rfl)) ?_;rintro _ _ _ ⟨z,rfl,hz1,hz2⟩ -;simp only [wS,simprocAttr,MX.row])|(refine aK (node_ok hx.fr _ _ _ _ (by first|assumption|simp) (by first|exact eM|exact gP (by assumption)|exact gF (by assumption) (by assumption)|exact dB (by assumption) (by assumption) (by assumption)|assumption)) _ _ (by refine ⟨?_,?_,?_,?_,?_⟩<;>((try simp only [wS,simprocAttr,MX.row]);try exact rfl)) ?_;rintro _ _ _ ⟨rfl,hn⟩ -;simp only [wS,simprocAttr,MX.row])|(refine aK (hS) _ _ (by refine ⟨?_,?_,?_,?_,?_⟩<;>((try simp only [wS,simprocAttr,MX.row]);try exact rfl)) ?_;rintro _ _ _ ⟨c,rfl,hc⟩ -;obtain ⟨k,n,m,b,es,rfl⟩:=bF hc;simp only [wS,simprocAttr,MX.row])|(refine EG.mono (fun i h=>f8 (es:=[]) (sz:=4) (by':=48) (mm:=1) (by kernel_rfl) rfl rfl (JH rfl) (by decide) (by simp) h) ?_;simp only [wS,simprocAttr,MX.row])|(refine EG.mono (fun i h=>f7 (sz:=4) (by':=48) (mm:=1) (by kernel_rfl) rfl rfl (JH rfl) (by decide) h) ?_;simp only [wS,simprocAttr,MX.row])|(refine vE (more':=[.int .i64 13,.int .i64 0,.sl false [[.int .i64 k,.int .i64 n,.int .i64 m,.sl b es],[.int .i64 14,.int .i64 v0,.int .i64 0,.sl true [[.int .i64 9,.int .i64 0,.int .i64 0,.sl true [[.int .i64 6,.int .i64 v0,.int .i64 0,.sl true []],[.int .i64 4,.int .i64 1,.int .i64 0,.sl true []]]]]]]]) [10] (node_ok hx.fr _ _ _ _ (by simp) (by first|exact eM|exact gP (by assumption)|exact gF (by assumption) (by assumption)|exact dB (by assumption) (by assumption) (by assumption)|assumption)) _ _ (by refine ⟨?_,?_,?_,?_,?_⟩<;>((try simp only [wS,simprocAttr,MX.row]);try exact rfl)) ⟨.inl rfl,.inl rfl,.inr (.osl (by simp) rfl rfl (by intro e he;simp at he;rcases he with rfl|rfl<;>rfl) rfl (cZ (by first|exact eM|exact gP (by assumption)|exact gF (by assumption) (by assumption)|exact dB (by assumption) (by assumption) (by assumption)|assumption))),trivial⟩ (by decide) ?_;rintro _ _ _ ⟨rfl,hn⟩ -;simp only [wS,simprocAttr,MX.row])|(refine vE (more':=[.int .i64 13,.int .i64 0,.sl false [[.int .i64 14,.int .i64 v0,.int .i64 0,.sl true [[.int .i64 9,.int .i64 0,.int .i64 0,.sl true [[.int .i64 6,.int .i64 v0,.int .i64 0,.sl true []],[.int .i64 4,.int .i64 1,.int .i64 0,.sl true []]]]]]]]) [10] (node_ok hx.fr _ _ _ _ (by simp) (by first|exact eM|exact gP (by assumption)|exact gF (by assumption) (by assumption)|exact dB (by assumption) (by assumption) (by assumption)|assumption)) _ _ (by refine ⟨?_,?_,?_,?_,?_⟩<;>((try simp only [wS,simprocAttr,MX.row]);try exact rfl)) ⟨.inl rfl,.inl rfl,.inr (.osl (by simp) rfl rfl (by intro e he;simp at he;rcases he with rfl<;>rfl) rfl (cZ (by first|exact eM|exact gP (by assumption)|exact gF (by assumption) (by assumption)|exact dB (by assumption) (by assumption) (by assumption)|assumption))),trivial⟩ (by decide) ?_;rintro _ _ _ ⟨rfl,hn⟩ -;simp only [wS,simprocAttr,MX.row])|with_reducible refine bD (fun _=>?_) (fun _=>?_)|with_reducible refine cV (by kernel_rfl) ?_)
 all_goals refine cL rfl u'p (by refine ⟨?_,?_,?_,?_,?_⟩<;>((try simp only [wS,simprocAttr,MX.row]);try exact rfl)) ⟨_,rfl,by first|exact NodeV.up (by assumption) (by omega)|exact NodeV.up (NodeV.setM (by assumption)) (by omega)⟩
set_option maxHeartbeats 8000000 in
theorem DC {D:Nat} (hD:3≤D) {x:MX} (hx:x.ok) (depth:Int) (hd1: -9223372036854775806<depth) (hd2:depth≤9223372036854775807) (hE:MC x 134 [.int .i64 1,.int .i64 2] (VN 3)) (hB:∀ most:Int,0<most→most≤6→MC x 104 [.int .i64 (depth - 1),.int .i64 most] (VN D)) (hL:∀ v:Int,MC x 140 [.int .i64 v,.int .i64 depth] (VN (D+1))):MC x 132 [.int .i64 depth] (VN (D+1)):=by
 obtain ⟨r,f,hva⟩:=oS hx
 have e1:IntKind.i64.wrap (depth - 1)=depth - 1:=cO (by omega) (by omega)
 refine dK hx.fr Tryz.func132 rfl (by kernel_rfl) (by simp [Tryz.ntmps132]) rfl fun at0 left=>?_
 simp only [Tryz.ntmps132,aH,Nat.reduceAdd,MX.row]
 repeat' (first|(refine u'S ?_;simp only [wS,simprocAttr,MX.row,e1])|refine v'Q fun _ _=>?_|refine bB ?_|refine aZ (fun hg=>?_) fun hg=>?_|(refine aK (bS hx.fr _ (by decide)) _ _ (by refine ⟨?_,?_,?_,?_,?_⟩<;>((try simp only [wS,simprocAttr,MX.row]);try exact rfl)) ?_;rintro _ _ _ ⟨z,rfl,hz1,hz2⟩ -;simp only [wS,simprocAttr,MX.row])|(refine aK (eF hx _ hva) _ _ (by refine ⟨?_,?_,?_,?_,?_⟩<;>((try simp only [wS,simprocAttr,MX.row]);try exact rfl)) ?_;rintro _ _ _ ⟨y,rfl,hy1,hy2⟩ -;simp only [wS,simprocAttr,MX.row])|(refine aK (hE) _ _ (by refine ⟨?_,?_,?_,?_,?_⟩<;>((try simp only [wS,simprocAttr,MX.row]);try exact rfl)) ?_;rintro _ _ _ ⟨c,rfl,hc⟩ -;obtain ⟨k,n,m,b,es,rfl⟩:=bF hc;simp only [wS,simprocAttr,MX.row])|(refine aK (hB _ (by decide) (by decide)) _ _ (by refine ⟨?_,?_,?_,?_,?_⟩<;>((try simp only [wS,simprocAttr,MX.row]);try exact rfl)) ?_;rintro _ _ _ ⟨c,rfl,hc⟩ -;obtain ⟨k,n,m,b,es,rfl⟩:=bF hc;simp only [wS,simprocAttr,MX.row])|(refine aK (hL _) _ _ (by refine ⟨?_,?_,?_,?_,?_⟩<;>((try simp only [wS,simprocAttr,MX.row]);try exact rfl)) ?_;rintro _ _ _ ⟨c,rfl,hc⟩ -;obtain ⟨k,n,m,b,es,rfl⟩:=bF hc;simp only [wS,simprocAttr,MX.row])|(refine aK (node_ok hx.fr _ _ _ _ (by first|assumption|simp) (by first|exact eM|exact gP (by assumption)|exact gF (by assumption) (by assumption)|exact dB (by assumption) (by assumption) (by assumption)|assumption)) _ _ (by refine ⟨?_,?_,?_,?_,?_⟩<;>((try simp only [wS,simprocAttr,MX.row]);try exact rfl)) ?_;rintro _ _ _ ⟨rfl,hn⟩ -;simp only [wS,simprocAttr,MX.row])|with_reducible refine bD (fun _=>?_) (fun _=>?_)|with_reducible refine cV (by kernel_rfl) ?_)
 all_goals refine cL rfl u'p (by refine ⟨?_,?_,?_,?_,?_⟩<;>((try simp only [wS,simprocAttr,MX.row]);try exact rfl)) ⟨_,rfl,by first|exact NodeV.up (by assumption) (by omega)|exact NodeV.up (NodeV.setM (by assumption)) (by omega)⟩
end Go.Proofs.YtggflhbigolakaaGreatDoor
