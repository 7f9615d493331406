import Derived.Test.YtggflhbigolakaaGreatDoorAE
import Derived.Test.YtggflhbigolakaaGreatDoorN8
import Derived.Test.YtggflhbigolakaaGreatDoorV0
set_option linter.unusedVariables false
set_option linter.unusedSimpArgs false
namespace Go.Proofs.YtggflhbigolakaaGreatDoor
open Go.AM
attribute [local irreducible] AWp aY bC bI bU bW aN aS bL
set_option maxRecDepth 100000
def HS (L:List Int) (a l pn:Int) (con:Bool) (vP:Nat):List Fn→List ARow
 | []=>[.cells 0 [.int .i64 0,.int .i64 0,.int .i64 0,.sl true []],.cells 0 [b9 L,.int .i64 a,.int .i64 l,.int .i64 27,.int .i64 pn,.int .i64 0,.sl true [],.int .i64 0,.bool con]]
 | [f0]=>[.cells 0 [.int .i64 0,.int .i64 0,.int .i64 0,.sl true []],.cells 0 [b9 L,.int .i64 a,.int .i64 l,.int .i64 27,.int .i64 pn,.int .i64 0,.osl 3 vP 0 1 4 false,.int .i64 0,.bool con],f0.row,.cells vP (f0.cells 2)]
 | [f0,f1]=>[.cells 0 [.int .i64 0,.int .i64 0,.int .i64 0,.sl true []],.cells 0 [b9 L,.int .i64 a,.int .i64 l,.int .i64 27,.int .i64 pn,.int .i64 0,.osl 3 vP 0 2 4 false,.int .i64 0,.bool con],f0.row,.cells vP (f0.cells 2++f1.cells 4),f1.row]
 |f0::f1::f2::_=>[.cells 0 [.int .i64 0,.int .i64 0,.int .i64 0,.sl true []],.cells 0 [b9 L,.int .i64 a,.int .i64 l,.int .i64 27,.int .i64 pn,.int .i64 0,.osl 3 vP 0 3 4 false,.int .i64 0,.bool con],f0.row,.cells vP (f0.cells 2++(f1.cells 4++f2.cells 5)),f1.row,f2.row]
theorem Fn.row4 {f:Fn} (h:f.wf) {k n m:AV} {v:AV} (hc:NodeV 12 [k,n,m,v]):ARow.cells f.v (List.take (f.q*4) f.ks.flatten++[k,n,m,v]++List.drop (f.q*4+4) f.ks.flatten)=(f.body [k,n,m,v]).row:=by
 have:=Fn.body_row h hc
 unfold e7 at this
 simp only [Fn.row]
 rw [← this]
 rfl
theorem b7 {r v sz:Nat} {e:List AV} {es:List (List AV)}:rv r v sz (es++[e])=.osl r v 0 (es.length+1) sz false:=by simp [rv]
theorem bO {v:Nat} {e:List AV} {es:List (List AV)}:rvR v (es++[e])=.cells v (es++[e]).flatten:=by simp [rvR]
def blk:List AV:=[.int .i64 13,.int .i64 0,.int .i64 0,.sl true []]
theorem bR:ofV (Value.agg #[Value.int IntKind.i64 0,Value.int IntKind.i64 0,Value.int IntKind.i64 0,Value.slice none 0 0])=.agg [.int .i64 0,.int .i64 0,.int .i64 0,.sl true []]:=by kernel_rfl
theorem QK:NodeV 12 blk:=(KM 13 0).up (by decide)
theorem FJ {pa:Nat} {app:List (List AV)} {v:Nat} {b:Bool} (h1:pa≤app.length) (h2:app.length≤5) (h3:∀ e∈app,NodeV 2 e):(Fn.mk v b pa app.length (app++[blk])).wf:=by
 refine ⟨by simp,h1,by simp only;omega,fun e he=>?_⟩
 rcases List.mem_append.1 he with he|he
 ·exact (h3 e he).up (by decide)
 ·rw [List.mem_singleton.1 he];exact QK
set_option maxHeartbeats 16000000 in
theorem ND (L:List Int) (hL:∀ x∈L,cI x) (con:Bool):EP Tryz.prog G0 69 [b9 L,.bool con] (VN 14):=by
 refine oK hG0 Tryz.func69 rfl (by kernel_rfl) (by simp [Tryz.ntmps69]) (by simp [inL,inR,eW]) (fun _=>VN.tree) ?_
 simp only [Tryz.ntmps69,aH,Nat.reduceAdd]
 obtain ⟨eb,ee,he⟩:∃ b es,b9 L=.sl b es:=⟨_,_,rfl⟩
 rw [he]
 refine c9 fun K0 hK0=>?_
 replace hK0:=And.intro trivial hK0
 repeat' (first|(refine u'S ?_;simp only [wS,simprocAttr])|refine v'Q fun _ _=>?_|refine bB ?_|refine aZ (fun hg=>?_) fun hg=>?_|fail)
 refine hK0.2.go ?_
 refine c9 fun K1 hK1=>?_
 replace hK1:=And.intro trivial hK1
 repeat' (first|(refine u'S ?_;simp only [wS,simprocAttr])|refine v'Q fun _ _=>?_|refine bB ?_|refine aZ (fun hg=>?_) fun hg=>?_|fail)
 refine hK1.2.go ?_
 refine c9 fun K2 hK2=>?_
 replace hK2:=And.intro trivial hK2
 repeat' (first|(refine u'S ?_;simp only [wS,simprocAttr])|refine v'Q fun _ _=>?_|refine bB ?_|refine aZ (fun hg=>?_) fun hg=>?_|fail)
 refine hK2.2.go ?_
 refine c9 fun K3 hK3=>?_
 replace hK3:=And.intro trivial hK3
 have key0 : ∀ (a l pn : Int) (s : AS), (con = true → 0 < pn) → Ref G0 125 0 s ⟨mkF [(4, .ptr 0 0 0), (5, .ptr 1 0 0)], [.cells 0 [.int .i64 0, .int .i64 0, .int .i64 0, .sl true []], .cells 0 [b9 L, .int .i64 a, .int .i64 l, .int .i64 27, .int .i64 pn, .int .i64 0, .sl true [], .int .i64 0, .bool con]]⟩ → EG (fun v : AV => VN 14 v) (fun i => K3 i s) := by
  intro a l pn s hcn hr
  refine hK3.2.go (gS hr ?_)
  repeat' (first|(refine u'S ?_;simp only [wS,simprocAttr])|refine v'Q fun _ _=>?_|refine bB ?_|refine aZ (fun hg=>?_) fun hg=>?_|fail)
  refine aK (bS (x:=⟨L,27,pn,0,0,.sl true [],con,.none,.none,.none,.none⟩) ⟨hL,rfl,rfl,rfl,rfl,rfl⟩ 3 (by decide)) a l (by refine ⟨?_,?_,?_,?_,?_⟩<;>((try simp only [wS,simprocAttr,MX.row]);try exact rfl)) ?_
  rintro _ a1 l1 ⟨z,rfl,hz1,hz2⟩ -
  obtain ⟨nn,hnn⟩:∃ nn:Nat,1+z=nn:=⟨(1+z).toNat,(Int.toNat_of_nonneg (by omega)).symm⟩
  have ez:IntKind.i64.wrap (nn:Int)=nn:=cO (by omega) (by omega)
  have hn1:1≤nn:=by omega
  have hn3:nn≤3:=by omega
  clear hK3
  simp only [wS,simprocAttr,hnn,ez]
  repeat' (first|(refine u'S ?_;simp only [wS,simprocAttr,hnn,ez])|refine v'Q fun _ _=>?_|refine bB ?_|refine aZ (fun hg=>?_) fun hg=>?_|fail)
  rename_i Ka hKa Kb hKb
  replace hKa:=And.intro trivial hKa
  have key1 : ∀ (x : MX) (vP : Nat) (a l : Int) (s : AS), x.ok → x.kv = .osl 3 vP 0 nn 4 false → Ref G0 125 0 s ⟨mkF [(4, .ptr 0 0 0), (5, .ptr 1 0 0), (6, .int .i64 nn)], [.cells 0 [.int .i64 0, .int .i64 0, .int .i64 0, .sl true []], x.row a l, x.A2, x.A3, x.A4, x.A5]⟩ → EG (fun v : AV => VN 14 v) (fun i => Ka i s) := by
   intro x vP a l s hx hkv hr
   refine hKa.2.go (gS hr ?_)
   obtain ⟨L',pk',pn',pm',F',kv',con',A2',A3',A4',A5'⟩:=x
   simp only at hkv
   subst hkv
   simp only [MX.row]
   clear hr
   repeat' (first|(refine u'S ?_;simp only [wS,simprocAttr])|refine v'Q fun _ _=>?_|refine bB ?_|refine aZ (fun hg=>?_) fun hg=>?_|fail)
   rename_i Kc hKc Kd hKd
   replace hKc:=And.intro trivial hKc
   generalize hal:IntKind.i64.wrap (l - IntKind.i64.wrap (2*(nn:Int)))=al
   refine fR (α:={p:MX × Nat × Int × Int // p.1.ok∧p.1.kv=.osl 3 vP 0 nn 4 false∧p.2.1≤nn}) (fun p=>[(4,.ptr 0 0 0),(5,.ptr 1 0 0),(6,.int .i64 nn),(9,.int .i64 al),(10,.int .i64 (p.1.2.1:Nat))]) (fun p=>[.cells 0 [.int .i64 0,.int .i64 0,.int .i64 0,.sl true []],p.1.1.row p.1.2.2.1 p.1.2.2.2,p.1.1.A2,p.1.1.A3,p.1.1.A4,p.1.1.A5]) (fun p=>nn - p.1.2.1) ⟨(⟨L',pk',pn',pm',F',.osl 3 vP 0 nn 4 false,con',A2',A3',A4',A5'⟩,0,a,al),hx,rfl,Nat.zero_le _⟩ (Weak.ref ⟨?_,.inl ?_⟩) ?_
   ·simp only [wS,simprocAttr,hal];try exact rfl
   ·simp only [wS,simprocAttr,hal,MX.row];try exact rfl
   ·rintro ⟨⟨x,i,a,l⟩,hx,hkv,hi⟩ K7 hK7
    obtain ⟨L',pk',pn',pm',F',kv',con',A2',A3',A4',A5'⟩:=x
    simp only at hx hkv hi
    subst hkv
    simp only [MX.row]
    repeat' (first|(refine u'S ?_;simp only [wS,simprocAttr])|refine v'Q fun _ _=>?_|refine bB ?_|refine aZ (fun hg=>?_) fun hg=>?_|fail)
    refine bD (fun h=>?_) (fun h=>?_)
    ·have hin:i<nn:=by simpa using h
     have e3:=aL (k:=i) hin (by omega)
     have hx1:(MX.mk L' pk' pn' pm' i (.osl 3 vP 0 nn 4 false) con' A2' A3' A4' A5').ok:=⟨hx.1,hx.2.1,hx.2.2.withF i hin⟩
     obtain ⟨r,fn,tl,c3,hw,ha,hA3,hlen,hd,hput⟩:=L9 hx1 i nn vP false rfl rfl hin
     simp only at hA3
     subst hA3
     have hd3:c3.drop (i*4+3)=.osl r fn.v 0 (fn.q+1) 4 fn.b::tl:=by rw [← List.drop_drop,hd];rfl
     have hq:=hw.2.2.1
     have en:IntKind.i64.wrap ((nn:Int)+1)=(nn:Int)+1:=cO (by omega) (by omega)
     have hz:((nn:Int)+1=0)=False:=eq_false (by omega)
     have hlf:(fn.q*4+4≤fn.ks.flatten.length)=True:=eq_true (by rw [cG (sz:=4) fun e he=>(hw.2.2.2 e he).len,hw.1];omega)
     have hq1:fn.q<fn.q+1:=Nat.lt_succ_self _
     have eq1:IntKind.i64.wrap (((fn.q+1:Nat):Int) - 1)=(fn.q:Int):=by
      rw [cB (by omega) (by omega)];omega
     simp only [zC] at ha
     rcases ha with ⟨rfl,rfl⟩|⟨rfl,rfl⟩|⟨rfl,rfl⟩
     ·repeat' (first|(refine u'S ?_;simp only [wS,simprocAttr,hin,hd3,en,hz,hq1,eq1,hlf,Fn.row])|refine v'Q fun _ _=>?_|refine bB ?_|refine aZ (fun hg=>?_) fun hg=>?_|fail)
      refine bD (fun h0=>?_) (fun h0=>?_)
      ·repeat' (first|(refine u'S ?_;simp only [wS,simprocAttr,hin,hd3,en,hz,hq1,eq1,hlf,Fn.row])|refine v'Q fun _ _=>?_|refine bB ?_|refine aZ (fun hg=>?_) fun hg=>?_|fail)
       refine aK (j2 hx1) _ _ (by refine ⟨?_,?_,?_,?_,?_⟩<;>(simp only [wS,simprocAttr,MX.row,Fn.row];try exact rfl)) ?_
       rintro v a9 l9 ⟨c,rfl,hc⟩ -
       have hc':=hc
       cases hc with
       |mk k1 n1 m1 b1 es1 hl1 hh1=>
       simp only [wS,simprocAttr,MX.row,hin,hd3,en,hz,hq1,eq1,hlf,Fn.row]
       repeat' (first|(refine u'S ?_;simp only [wS,simprocAttr,MX.row,e3,hin,hd3,en,hz,hq1,eq1,hlf,Fn.row])|refine v'Q fun _ _=>?_|refine bB ?_|refine aZ (fun hg=>?_) fun hg=>?_|fail)
       refine hK7 _ ⟨(_,i+1,a9,l9),hput _ hc',rfl,hin⟩ (Weak.ref ⟨?_,.inl ?_⟩) (by simp only;omega)
       ·exact u'p
       ·simp only [wS,simprocAttr,MX.setRow,MX.row,Fn.row4 hw hc'];try exact rfl
      ·repeat' (first|(refine u'S ?_;simp only [wS,simprocAttr,hin,hd3,en,hz,hq1,eq1,hlf,Fn.row])|refine v'Q fun _ _=>?_|refine bB ?_|refine aZ (fun hg=>?_) fun hg=>?_|fail)
       refine aK (j2 hx1) _ _ (by refine ⟨?_,?_,?_,?_,?_⟩<;>(simp only [wS,simprocAttr,MX.row,Fn.row];try exact rfl)) ?_
       rintro v a9 l9 ⟨c,rfl,hc⟩ -
       have hc':=hc
       cases hc with
       |mk k1 n1 m1 b1 es1 hl1 hh1=>
       simp only [wS,simprocAttr,MX.row,hin,hd3,en,hz,hq1,eq1,hlf,Fn.row]
       repeat' (first|(refine u'S ?_;simp only [wS,simprocAttr,MX.row,e3,hin,hd3,en,hz,hq1,eq1,hlf,Fn.row])|refine v'Q fun _ _=>?_|refine bB ?_|refine aZ (fun hg=>?_) fun hg=>?_|fail)
       refine hK7 _ ⟨(_,i+1,a9,l9),hput _ hc',rfl,hin⟩ (Weak.ref ⟨?_,.inl ?_⟩) (by simp only;omega)
       ·exact u'p
       ·simp only [wS,simprocAttr,MX.setRow,MX.row,Fn.row4 hw hc'];try exact rfl
     ·repeat' (first|(refine u'S ?_;simp only [wS,simprocAttr,hin,hd3,en,hz,hq1,eq1,hlf,Fn.row])|refine v'Q fun _ _=>?_|refine bB ?_|refine aZ (fun hg=>?_) fun hg=>?_|fail)
      refine bD (fun h0=>?_) (fun h0=>?_)
      ·repeat' (first|(refine u'S ?_;simp only [wS,simprocAttr,hin,hd3,en,hz,hq1,eq1,hlf,Fn.row])|refine v'Q fun _ _=>?_|refine bB ?_|refine aZ (fun hg=>?_) fun hg=>?_|fail)
       refine aK (j2 hx1) _ _ (by refine ⟨?_,?_,?_,?_,?_⟩<;>(simp only [wS,simprocAttr,MX.row,Fn.row];try exact rfl)) ?_
       rintro v a9 l9 ⟨c,rfl,hc⟩ -
       have hc':=hc
       cases hc with
       |mk k1 n1 m1 b1 es1 hl1 hh1=>
       simp only [wS,simprocAttr,MX.row,hin,hd3,en,hz,hq1,eq1,hlf,Fn.row]
       repeat' (first|(refine u'S ?_;simp only [wS,simprocAttr,MX.row,e3,hin,hd3,en,hz,hq1,eq1,hlf,Fn.row])|refine v'Q fun _ _=>?_|refine bB ?_|refine aZ (fun hg=>?_) fun hg=>?_|fail)
       refine hK7 _ ⟨(_,i+1,a9,l9),hput _ hc',rfl,hin⟩ (Weak.ref ⟨?_,.inl ?_⟩) (by simp only;omega)
       ·exact u'p
       ·simp only [wS,simprocAttr,MX.setRow,MX.row,Fn.row4 hw hc'];try exact rfl
      ·repeat' (first|(refine u'S ?_;simp only [wS,simprocAttr,hin,hd3,en,hz,hq1,eq1,hlf,Fn.row])|refine v'Q fun _ _=>?_|refine bB ?_|refine aZ (fun hg=>?_) fun hg=>?_|fail)
       refine aK (j2 hx1) _ _ (by refine ⟨?_,?_,?_,?_,?_⟩<;>(simp only [wS,simprocAttr,MX.row,Fn.row];try exact rfl)) ?_
       rintro v a9 l9 ⟨c,rfl,hc⟩ -
       have hc':=hc
       cases hc with
       |mk k1 n1 m1 b1 es1 hl1 hh1=>
       simp only [wS,simprocAttr,MX.row,hin,hd3,en,hz,hq1,eq1,hlf,Fn.row]
       repeat' (first|(refine u'S ?_;simp only [wS,simprocAttr,MX.row,e3,hin,hd3,en,hz,hq1,eq1,hlf,Fn.row])|refine v'Q fun _ _=>?_|refine bB ?_|refine aZ (fun hg=>?_) fun hg=>?_|fail)
       refine hK7 _ ⟨(_,i+1,a9,l9),hput _ hc',rfl,hin⟩ (Weak.ref ⟨?_,.inl ?_⟩) (by simp only;omega)
       ·exact u'p
       ·simp only [wS,simprocAttr,MX.setRow,MX.row,Fn.row4 hw hc'];try exact rfl
     ·repeat' (first|(refine u'S ?_;simp only [wS,simprocAttr,hin,hd3,en,hz,hq1,eq1,hlf,Fn.row])|refine v'Q fun _ _=>?_|refine bB ?_|refine aZ (fun hg=>?_) fun hg=>?_|fail)
      refine bD (fun h0=>?_) (fun h0=>?_)
      ·repeat' (first|(refine u'S ?_;simp only [wS,simprocAttr,hin,hd3,en,hz,hq1,eq1,hlf,Fn.row])|refine v'Q fun _ _=>?_|refine bB ?_|refine aZ (fun hg=>?_) fun hg=>?_|fail)
       refine aK (j2 hx1) _ _ (by refine ⟨?_,?_,?_,?_,?_⟩<;>(simp only [wS,simprocAttr,MX.row,Fn.row];try exact rfl)) ?_
       rintro v a9 l9 ⟨c,rfl,hc⟩ -
       have hc':=hc
       cases hc with
       |mk k1 n1 m1 b1 es1 hl1 hh1=>
       simp only [wS,simprocAttr,MX.row,hin,hd3,en,hz,hq1,eq1,hlf,Fn.row]
       repeat' (first|(refine u'S ?_;simp only [wS,simprocAttr,MX.row,e3,hin,hd3,en,hz,hq1,eq1,hlf,Fn.row])|refine v'Q fun _ _=>?_|refine bB ?_|refine aZ (fun hg=>?_) fun hg=>?_|fail)
       refine hK7 _ ⟨(_,i+1,a9,l9),hput _ hc',rfl,hin⟩ (Weak.ref ⟨?_,.inl ?_⟩) (by simp only;omega)
       ·exact u'p
       ·simp only [wS,simprocAttr,MX.setRow,MX.row,Fn.row4 hw hc'];try exact rfl
      ·repeat' (first|(refine u'S ?_;simp only [wS,simprocAttr,hin,hd3,en,hz,hq1,eq1,hlf,Fn.row])|refine v'Q fun _ _=>?_|refine bB ?_|refine aZ (fun hg=>?_) fun hg=>?_|fail)
       refine aK (j2 hx1) _ _ (by refine ⟨?_,?_,?_,?_,?_⟩<;>(simp only [wS,simprocAttr,MX.row,Fn.row];try exact rfl)) ?_
       rintro v a9 l9 ⟨c,rfl,hc⟩ -
       have hc':=hc
       cases hc with
       |mk k1 n1 m1 b1 es1 hl1 hh1=>
       simp only [wS,simprocAttr,MX.row,hin,hd3,en,hz,hq1,eq1,hlf,Fn.row]
       repeat' (first|(refine u'S ?_;simp only [wS,simprocAttr,MX.row,e3,hin,hd3,en,hz,hq1,eq1,hlf,Fn.row])|refine v'Q fun _ _=>?_|refine bB ?_|refine aZ (fun hg=>?_) fun hg=>?_|fail)
       refine hK7 _ ⟨(_,i+1,a9,l9),hput _ hc',rfl,hin⟩ (Weak.ref ⟨?_,.inl ?_⟩) (by simp only;omega)
       ·exact u'p
       ·simp only [wS,simprocAttr,MX.setRow,MX.row,Fn.row4 hw hc'];try exact rfl
    ·have hge:i=nn:=by simp at h;omega
     repeat' (first|(refine u'S ?_;simp only [wS,simprocAttr])|refine v'Q fun _ _=>?_|refine bB ?_|refine aZ (fun hg=>?_) fun hg=>?_|fail)
     obtain ⟨ns,Y,Z,hns1,hns2,hre⟩:=KS (N:=125) (box:=[.int .i64 0,.int .i64 0,.int .i64 0,.sl true []]) (s:=⟨mkF [(4,.ptr 0 0 0),(5,.ptr 1 0 0)],[.cells 0 [.int .i64 0,.int .i64 0,.int .i64 0,.sl true []],.cells 0 [b9 L',.int .i64 a,.int .i64 l,.int .i64 pk',.int .i64 pn',.int .i64 pm',.osl 3 vP 0 nn 4 false,.int .i64 F',.bool con'],A2',A3',A4',A5']⟩) hx (a:=a) (l:=l) rfl rfl rfl
     refine hKc.2.go (gS (Ref.trans (Weak.ref ⟨?_,.inl ?_⟩) hre) ?_)
     ·exact u'p
     ·exact u'p
     repeat' (first|(refine u'S ?_;simp only [wS,simprocAttr])|refine v'Q fun _ _=>?_|refine bB ?_|refine aZ (fun hg=>?_) fun hg=>?_|fail)
     refine pS (v:=?rv) rfl ?hl ?_
     case hl=>simp only [wS,simprocAttr];exact rfl
     exact EG.of _ (VN.wk ⟨_,rfl,.mk (hd:=by decide) _ _ _ _ ns (by omega) hns2⟩) rfl
  clear hKa
  refine fR (α:={p:List Fn × Nat × Int × Int // p.1.length≤nn∧∀ f∈p.1,f.wf}) (fun p=>[(4,.ptr 0 0 0),(5,.ptr 1 0 0),(6,.int .i64 nn),(7,.int .i64 (p.1.1.length:Nat))]) (fun p=>HS L p.1.2.2.1 p.1.2.2.2 pn con p.1.2.1 p.1.1) (fun p=>nn - p.1.1.length) ⟨([],0,a1,l1),by simp,by simp⟩ (Weak.ref ⟨?_,.inl ?_⟩) ?_
  ·simp only [wS,simprocAttr,List.length_nil];try exact rfl
  ·simp only [wS,simprocAttr,HS];try exact rfl
  ·rintro ⟨⟨fs,vP,a2,l2⟩,hl,hf⟩ K3 hK3
   simp only at hl hf
   have e3:fs.length<nn→IntKind.i64.wrap ((fs.length:Int)+1)=(fs.length+1:Nat):=fun h=>aL (k:=fs.length) h (by omega)
   rcases fs with _|⟨f0,_|⟨f1,_|⟨f2,tl⟩⟩⟩
   ·simp only [HS,List.length_cons,List.length_nil] at e3 hl ⊢
    repeat' (first|(refine u'S ?_;simp only [wS,simprocAttr,HS,Fn.row,Fn.cells])|refine v'Q fun _ _=>?_|refine bB ?_|refine aZ (fun hg=>?_) fun hg=>?_|fail)
    refine bD (fun h=>?_) (fun h=>?_)
    ·have hlt:0<nn:=by simp at h;omega
     replace e3:=e3 hlt
     simp only [Int.natCast_add,Int.cast_ofNat_Int,Nat.reduceAdd,Int.reduceAdd] at e3
     repeat' (first|(refine u'S ?_;simp only [wS,simprocAttr,HS,Fn.row,Fn.cells])|refine v'Q fun _ _=>?_|refine bB ?_|refine aZ (fun hg=>?_) fun hg=>?_|fail)
     have hxc:MX.frame (⟨L,27,pn,0,0,.sl true [],con,.none,.none,.none,.none⟩:MX):=⟨hL,rfl,rfl,rfl,rfl,rfl⟩
     refine aK (bS hxc 3 (by decide)) a2 l2 (by refine ⟨?_,?_,?_,?_,?_⟩<;>((try simp only [wS,simprocAttr,HS,Fn.row,Fn.cells,MX.row]);try exact rfl)) ?_
     rintro _ a3 l3 ⟨z,rfl,hz1,hz2⟩ -
     simp only [wS,simprocAttr,HS,Fn.row,Fn.cells,MX.row]
     repeat' (first|(refine u'S ?_;simp only [wS,simprocAttr,HS,Fn.row,Fn.cells,MX.row])|refine v'Q fun _ _=>?_|refine C3 ?_|refine aZ (fun hg=>?_) fun hg=>?_|fail)
     rename_i Kx hKx
     refine hKx.go ?_
     refine mN [1,2,3,4] 8 (by kernel_rfl) (by kernel_rfl) (by kernel_rfl) ?_
     simp only [wS,simprocAttr,dQ,List.take_succ_cons,List.take_zero,HS,Fn.row,Fn.cells]
     repeat' (first|(refine u'S ?_;simp only [wS,simprocAttr,HS,Fn.row,Fn.cells])|refine v'Q fun _ _=>?_|refine bB ?_|refine aZ (fun hg=>?_) fun hg=>?_|fail)
     obtain ⟨pa,rfl⟩:∃ pa:Nat,z=pa:=⟨z.toNat,(Int.toNat_of_nonneg hz1).symm⟩
     refine kW (kB hxc (q:=2) (by simp [BS]) pa (by omega) (at0:=a3) (left:=l3) (by refine ⟨?_,?_,?_,?_,?_⟩<;>((try simp only [wS,simprocAttr,HS,Fn.row,Fn.cells,MX.row]);try exact rfl)) (by simp only [wS,simprocAttr,HS,Fn.row,Fn.cells];try exact rfl)) ?_
     rintro eff ⟨app,a4,l4,rfl,hp1,hp2,hp3⟩
     simp only [wS,simprocAttr,HS,Fn.row,Fn.cells,bR,b7,bO,MX.row]
     repeat' (first|(refine u'S ?_;simp only [wS,simprocAttr,HS,Fn.row,Fn.cells,bR,b7,bO,MX.row])|refine v'Q fun _ _=>?_|refine bB ?_|refine aZ (fun hg=>?_) fun hg=>?_|fail)
     refine B7 (by
      change lF _ _ _ [(some 42,.nilCheck (.tmp 41),none),(some 43,.fieldAddr _ (.tmp 42) 3,none),(some 44,.fieldAddr _ (.tmp 43) 3,none),(some 45,.load _ (.tmp 44),none)]
      simp only [lF]
      refine ⟨?_,?_,?_,?_,trivial⟩<;>(simp only [wS,simprocAttr,aop,HS,Fn.row,Fn.cells,bR,b7,bO,MX.row];try exact rfl)) ?_
     simp only [wS,simprocAttr,dQ,List.take_succ_cons,List.take_zero,List.drop_succ_cons,List.drop_zero,HS,Fn.row,Fn.cells,bR,b7,bO,MX.row]
     repeat' (first|(refine u'S ?_;simp only [wS,simprocAttr,HS,Fn.row,Fn.cells,bR,b7,bO,MX.row])|refine v'Q fun _ _=>?_|refine bB ?_|refine aZ (fun hg=>?_) fun hg=>?_|fail)
     refine EG.mono (fun i h=>pT (app:=app) (e:=blk) (by':=48) (by kernel_rfl) (by (simp only [wS,simprocAttr,HS,Fn.row,Fn.cells,bR,b7,bO,MX.row];try exact rfl)) (fun e he=>(hp3 e he).len) rfl (by omega) h) ?_
     simp only [wS,simprocAttr,HS,Fn.row,Fn.cells,bR,b7,bO,MX.row]
     repeat' (first|(refine u'S ?_;simp only [wS,simprocAttr,HS,Fn.row,Fn.cells,bR,b7,bO,MX.row])|refine v'Q fun _ _=>?_|refine bB ?_|refine aZ (fun hg=>?_) fun hg=>?_|fail)
     refine EG.mono (fun i h=>f8 (es:=[]) (nb:=3) (sz:=4) (by':=48) (mm:=1) (new:=[.int .i64 0,.int .i64 0,.int .i64 0,.sl true []]) (by kernel_rfl) rfl rfl rfl (by decide) (by simp) h) ?_
     simp only [wS,simprocAttr,HS,Fn.row,Fn.cells,bR,b7,bO,MX.row]
     repeat' (first|(refine u'S ?_;simp only [wS,simprocAttr,HS,Fn.row,Fn.cells,bR,b7,bO,MX.row])|refine v'Q fun _ _=>?_|refine bB ?_|refine aZ (fun hg=>?_) fun hg=>?_|fail)
     refine cV (show o8 _ _ _ _=true by kernel_rfl) ?_
     repeat' (first|(refine u'S ?_;simp only [wS,simprocAttr,HS,Fn.row,Fn.cells,bR,b7,bO,MX.row])|refine v'Q fun _ _=>?_|refine bB ?_|refine aZ (fun hg=>?_) fun hg=>?_|fail)
     refine hK3 _ ⟨([⟨app.length,false,pa,app.length,app++[blk]⟩],0,a4,l4),by simp;omega,?_⟩ (Weak.ref ⟨?_,.inl ?_⟩) (by simp;omega)
     ·intro f hf
      simp only [List.mem_cons,List.not_mem_nil,or_false] at hf
      rcases hf with rfl
      ·exact FJ (app:=app) hp1 hp2 hp3
     ·simp only [wS,simprocAttr,e3,List.length_cons,List.length_nil];try exact rfl
     ·simp only [wS,simprocAttr,HS,Fn.row,Fn.cells,bR,b7,bO,MX.row,List.flatten_append,List.flatten_cons,List.flatten_nil,List.append_assoc,blk];try exact rfl
    ·simp at h;omega
   ·have w0:=hf f0 (by simp)
    simp only [HS,List.length_cons,List.length_nil] at e3 hl ⊢
    repeat' (first|(refine u'S ?_;simp only [wS,simprocAttr,HS,Fn.row,Fn.cells])|refine v'Q fun _ _=>?_|refine bB ?_|refine aZ (fun hg=>?_) fun hg=>?_|fail)
    refine bD (fun h=>?_) (fun h=>?_)
    ·have hlt:1<nn:=by simp at h;omega
     replace e3:=e3 hlt
     simp only [Int.natCast_add,Int.cast_ofNat_Int,Nat.reduceAdd,Int.reduceAdd] at e3
     repeat' (first|(refine u'S ?_;simp only [wS,simprocAttr,HS,Fn.row,Fn.cells])|refine v'Q fun _ _=>?_|refine bB ?_|refine aZ (fun hg=>?_) fun hg=>?_|fail)
     have hxc:MX.frame (⟨L,27,pn,0,0,.osl 3 vP 0 1 4 false,con,f0.row,.cells vP (f0.cells 2),.none,.none⟩:MX):=⟨hL,rfl,pO w0,rfl,rfl,rfl⟩
     refine aK (bS hxc 3 (by decide)) a2 l2 (by refine ⟨?_,?_,?_,?_,?_⟩<;>((try simp only [wS,simprocAttr,HS,Fn.row,Fn.cells,MX.row]);try exact rfl)) ?_
     rintro _ a3 l3 ⟨z,rfl,hz1,hz2⟩ -
     simp only [wS,simprocAttr,HS,Fn.row,Fn.cells,MX.row]
     repeat' (first|(refine u'S ?_;simp only [wS,simprocAttr,HS,Fn.row,Fn.cells,MX.row])|refine v'Q fun _ _=>?_|refine C3 ?_|refine aZ (fun hg=>?_) fun hg=>?_|fail)
     rename_i Kx hKx
     refine hKx.go ?_
     refine mN [1,2,3,4] 8 (by kernel_rfl) (by kernel_rfl) (by kernel_rfl) ?_
     simp only [wS,simprocAttr,dQ,List.take_succ_cons,List.take_zero,HS,Fn.row,Fn.cells]
     repeat' (first|(refine u'S ?_;simp only [wS,simprocAttr,HS,Fn.row,Fn.cells])|refine v'Q fun _ _=>?_|refine bB ?_|refine aZ (fun hg=>?_) fun hg=>?_|fail)
     obtain ⟨pa,rfl⟩:∃ pa:Nat,z=pa:=⟨z.toNat,(Int.toNat_of_nonneg hz1).symm⟩
     refine kW (kB hxc (q:=4) (by simp [BS]) pa (by omega) (at0:=a3) (left:=l3) (by refine ⟨?_,?_,?_,?_,?_⟩<;>((try simp only [wS,simprocAttr,HS,Fn.row,Fn.cells,MX.row]);try exact rfl)) (by simp only [wS,simprocAttr,HS,Fn.row,Fn.cells];try exact rfl)) ?_
     rintro eff ⟨app,a4,l4,rfl,hp1,hp2,hp3⟩
     simp only [wS,simprocAttr,HS,Fn.row,Fn.cells,bR,b7,bO,MX.row]
     repeat' (first|(refine u'S ?_;simp only [wS,simprocAttr,HS,Fn.row,Fn.cells,bR,b7,bO,MX.row])|refine v'Q fun _ _=>?_|refine bB ?_|refine aZ (fun hg=>?_) fun hg=>?_|fail)
     refine B7 (by
      change lF _ _ _ [(some 42,.nilCheck (.tmp 41),none),(some 43,.fieldAddr _ (.tmp 42) 3,none),(some 44,.fieldAddr _ (.tmp 43) 3,none),(some 45,.load _ (.tmp 44),none)]
      simp only [lF]
      refine ⟨?_,?_,?_,?_,trivial⟩<;>(simp only [wS,simprocAttr,aop,HS,Fn.row,Fn.cells,bR,b7,bO,MX.row];try exact rfl)) ?_
     simp only [wS,simprocAttr,dQ,List.take_succ_cons,List.take_zero,List.drop_succ_cons,List.drop_zero,HS,Fn.row,Fn.cells,bR,b7,bO,MX.row]
     repeat' (first|(refine u'S ?_;simp only [wS,simprocAttr,HS,Fn.row,Fn.cells,bR,b7,bO,MX.row])|refine v'Q fun _ _=>?_|refine bB ?_|refine aZ (fun hg=>?_) fun hg=>?_|fail)
     refine EG.mono (fun i h=>pT (app:=app) (e:=blk) (by':=48) (by kernel_rfl) (by (simp only [wS,simprocAttr,HS,Fn.row,Fn.cells,bR,b7,bO,MX.row];try exact rfl)) (fun e he=>(hp3 e he).len) rfl (by omega) h) ?_
     simp only [wS,simprocAttr,HS,Fn.row,Fn.cells,bR,b7,bO,MX.row]
     repeat' (first|(refine u'S ?_;simp only [wS,simprocAttr,HS,Fn.row,Fn.cells,bR,b7,bO,MX.row])|refine v'Q fun _ _=>?_|refine bB ?_|refine aZ (fun hg=>?_) fun hg=>?_|fail)
     refine EG.mono (fun i h=>f7 (r:=3) (ver:=vP) (cs:=f0.cells 2) (len:=1) (sz:=4) (by':=48) (mm:=1) (new:=[.int .i64 0,.int .i64 0,.int .i64 0,.sl true []]) (by kernel_rfl) rfl rfl rfl (by decide) h) ?_
     simp only [wS,simprocAttr,HS,Fn.row,Fn.cells,bR,b7,bO,MX.row]
     repeat' (first|(refine u'S ?_;simp only [wS,simprocAttr,HS,Fn.row,Fn.cells,bR,b7,bO,MX.row])|refine v'Q fun _ _=>?_|refine bB ?_|refine aZ (fun hg=>?_) fun hg=>?_|fail)
     refine cV (show o8 _ _ _ _=true by kernel_rfl) ?_
     repeat' (first|(refine u'S ?_;simp only [wS,simprocAttr,HS,Fn.row,Fn.cells,bR,b7,bO,MX.row])|refine v'Q fun _ _=>?_|refine bB ?_|refine aZ (fun hg=>?_) fun hg=>?_|fail)
     refine hK3 _ ⟨([f0,⟨app.length,false,pa,app.length,app++[blk]⟩],vP+1,a4,l4),by simp;omega,?_⟩ (Weak.ref ⟨?_,.inl ?_⟩) (by simp;omega)
     ·intro f hf
      simp only [List.mem_cons,List.not_mem_nil,or_false] at hf
      rcases hf with rfl|rfl
      ·exact w0
      ·exact FJ (app:=app) hp1 hp2 hp3
     ·simp only [wS,simprocAttr,e3,List.length_cons,List.length_nil];try exact rfl
     ·simp only [wS,simprocAttr,HS,Fn.row,Fn.cells,bR,b7,bO,MX.row,List.flatten_append,List.flatten_cons,List.flatten_nil,List.append_assoc,blk];try exact rfl
    ·obtain rfl:nn=1:=by simp at h;omega
     repeat' (first|(refine u'S ?_;simp only [wS,simprocAttr,HS,Fn.row,Fn.cells])|refine v'Q fun _ _=>?_|refine bB ?_|refine aZ (fun hg=>?_) fun hg=>?_|fail)
     refine key1 (⟨L,27,pn,0,0,.osl 3 vP 0 1 4 false,con,f0.row,(.cells vP (f0.cells 2)),.dead,.dead⟩) vP a2 l2 _ ⟨hL,hcn,.one f0 vP false .dead .dead w0 rfl rfl rfl⟩ rfl ?_
     refine ((Ref.trans (s':=(⟨mkF [(4,.ptr 0 0 0),(5,.ptr 1 0 0),(6,.int .i64 (1:Nat))],[.cells 0 [.int .i64 0,.int .i64 0,.int .i64 0,.sl true []],.cells 0 [b9 L,.int .i64 a2,.int .i64 l2,.int .i64 27,.int .i64 pn,.int .i64 0,.osl 3 vP 0 1 4 false,.int .i64 0,.bool con],f0.row,(.cells vP (f0.cells 2))]⟩:AS)) (Weak.ref ⟨?_,.inl ?_⟩) A8).trans A8)
     ·exact u'p
     ·simp only [wS,simprocAttr,HS,Fn.row,Fn.cells,MX.row];try exact rfl
   ·have w0:=hf f0 (by simp)
    have w1:=hf f1 (by simp)
    simp only [HS,List.length_cons,List.length_nil] at e3 hl ⊢
    repeat' (first|(refine u'S ?_;simp only [wS,simprocAttr,HS,Fn.row,Fn.cells])|refine v'Q fun _ _=>?_|refine bB ?_|refine aZ (fun hg=>?_) fun hg=>?_|fail)
    refine bD (fun h=>?_) (fun h=>?_)
    ·have hlt:2<nn:=by simp at h;omega
     replace e3:=e3 hlt
     simp only [Int.natCast_add,Int.cast_ofNat_Int,Nat.reduceAdd,Int.reduceAdd] at e3
     repeat' (first|(refine u'S ?_;simp only [wS,simprocAttr,HS,Fn.row,Fn.cells])|refine v'Q fun _ _=>?_|refine bB ?_|refine aZ (fun hg=>?_) fun hg=>?_|fail)
     have hxc:MX.frame (⟨L,27,pn,0,0,.osl 3 vP 0 2 4 false,con,f0.row,.cells vP (f0.cells 2++f1.cells 4),f1.row,.none⟩:MX):=⟨hL,rfl,pO w0,rfl,pO w1,rfl⟩
     refine aK (bS hxc 3 (by decide)) a2 l2 (by refine ⟨?_,?_,?_,?_,?_⟩<;>((try simp only [wS,simprocAttr,HS,Fn.row,Fn.cells,MX.row]);try exact rfl)) ?_
     rintro _ a3 l3 ⟨z,rfl,hz1,hz2⟩ -
     simp only [wS,simprocAttr,HS,Fn.row,Fn.cells,MX.row]
     repeat' (first|(refine u'S ?_;simp only [wS,simprocAttr,HS,Fn.row,Fn.cells,MX.row])|refine v'Q fun _ _=>?_|refine C3 ?_|refine aZ (fun hg=>?_) fun hg=>?_|fail)
     rename_i Kx hKx
     refine hKx.go ?_
     refine mN [1,2,3,4] 8 (by kernel_rfl) (by kernel_rfl) (by kernel_rfl) ?_
     simp only [wS,simprocAttr,dQ,List.take_succ_cons,List.take_zero,HS,Fn.row,Fn.cells]
     repeat' (first|(refine u'S ?_;simp only [wS,simprocAttr,HS,Fn.row,Fn.cells])|refine v'Q fun _ _=>?_|refine bB ?_|refine aZ (fun hg=>?_) fun hg=>?_|fail)
     obtain ⟨pa,rfl⟩:∃ pa:Nat,z=pa:=⟨z.toNat,(Int.toNat_of_nonneg hz1).symm⟩
     refine kW (kB hxc (q:=5) (by simp [BS]) pa (by omega) (at0:=a3) (left:=l3) (by refine ⟨?_,?_,?_,?_,?_⟩<;>((try simp only [wS,simprocAttr,HS,Fn.row,Fn.cells,MX.row]);try exact rfl)) (by simp only [wS,simprocAttr,HS,Fn.row,Fn.cells];try exact rfl)) ?_
     rintro eff ⟨app,a4,l4,rfl,hp1,hp2,hp3⟩
     simp only [wS,simprocAttr,HS,Fn.row,Fn.cells,bR,b7,bO,MX.row]
     repeat' (first|(refine u'S ?_;simp only [wS,simprocAttr,HS,Fn.row,Fn.cells,bR,b7,bO,MX.row])|refine v'Q fun _ _=>?_|refine bB ?_|refine aZ (fun hg=>?_) fun hg=>?_|fail)
     refine B7 (by
      change lF _ _ _ [(some 42,.nilCheck (.tmp 41),none),(some 43,.fieldAddr _ (.tmp 42) 3,none),(some 44,.fieldAddr _ (.tmp 43) 3,none),(some 45,.load _ (.tmp 44),none)]
      simp only [lF]
      refine ⟨?_,?_,?_,?_,trivial⟩<;>(simp only [wS,simprocAttr,aop,HS,Fn.row,Fn.cells,bR,b7,bO,MX.row];try exact rfl)) ?_
     simp only [wS,simprocAttr,dQ,List.take_succ_cons,List.take_zero,List.drop_succ_cons,List.drop_zero,HS,Fn.row,Fn.cells,bR,b7,bO,MX.row]
     repeat' (first|(refine u'S ?_;simp only [wS,simprocAttr,HS,Fn.row,Fn.cells,bR,b7,bO,MX.row])|refine v'Q fun _ _=>?_|refine bB ?_|refine aZ (fun hg=>?_) fun hg=>?_|fail)
     refine EG.mono (fun i h=>pT (app:=app) (e:=blk) (by':=48) (by kernel_rfl) (by (simp only [wS,simprocAttr,HS,Fn.row,Fn.cells,bR,b7,bO,MX.row];try exact rfl)) (fun e he=>(hp3 e he).len) rfl (by omega) h) ?_
     simp only [wS,simprocAttr,HS,Fn.row,Fn.cells,bR,b7,bO,MX.row]
     repeat' (first|(refine u'S ?_;simp only [wS,simprocAttr,HS,Fn.row,Fn.cells,bR,b7,bO,MX.row])|refine v'Q fun _ _=>?_|refine bB ?_|refine aZ (fun hg=>?_) fun hg=>?_|fail)
     refine EG.mono (fun i h=>f7 (r:=3) (ver:=vP) (cs:=f0.cells 2++f1.cells 4) (len:=2) (sz:=4) (by':=48) (mm:=1) (new:=[.int .i64 0,.int .i64 0,.int .i64 0,.sl true []]) (by kernel_rfl) rfl rfl rfl (by decide) h) ?_
     simp only [wS,simprocAttr,HS,Fn.row,Fn.cells,bR,b7,bO,MX.row]
     repeat' (first|(refine u'S ?_;simp only [wS,simprocAttr,HS,Fn.row,Fn.cells,bR,b7,bO,MX.row])|refine v'Q fun _ _=>?_|refine bB ?_|refine aZ (fun hg=>?_) fun hg=>?_|fail)
     refine cV (show o8 _ _ _ _=true by kernel_rfl) ?_
     repeat' (first|(refine u'S ?_;simp only [wS,simprocAttr,HS,Fn.row,Fn.cells,bR,b7,bO,MX.row])|refine v'Q fun _ _=>?_|refine bB ?_|refine aZ (fun hg=>?_) fun hg=>?_|fail)
     refine hK3 _ ⟨([f0,f1,⟨app.length,false,pa,app.length,app++[blk]⟩],vP+1,a4,l4),by simp;omega,?_⟩ (Weak.ref ⟨?_,.inl ?_⟩) (by simp;omega)
     ·intro f hf
      simp only [List.mem_cons,List.not_mem_nil,or_false] at hf
      rcases hf with rfl|rfl|rfl
      ·exact w0
      ·exact w1
      ·exact FJ (app:=app) hp1 hp2 hp3
     ·simp only [wS,simprocAttr,e3,List.length_cons,List.length_nil];try exact rfl
     ·simp only [wS,simprocAttr,HS,Fn.row,Fn.cells,bR,b7,bO,MX.row,List.flatten_append,List.flatten_cons,List.flatten_nil,List.append_assoc,blk];try exact rfl
    ·obtain rfl:nn=2:=by simp at h;omega
     repeat' (first|(refine u'S ?_;simp only [wS,simprocAttr,HS,Fn.row,Fn.cells])|refine v'Q fun _ _=>?_|refine bB ?_|refine aZ (fun hg=>?_) fun hg=>?_|fail)
     refine key1 (⟨L,27,pn,0,0,.osl 3 vP 0 2 4 false,con,f0.row,(.cells vP (f0.cells 2++f1.cells 4)),f1.row,.dead⟩) vP a2 l2 _ ⟨hL,hcn,.two f0 f1 vP false .dead w0 w1 (.inl rfl) rfl⟩ rfl ?_
     refine (Ref.trans (s':=(⟨mkF [(4,.ptr 0 0 0),(5,.ptr 1 0 0),(6,.int .i64 (2:Nat))],[.cells 0 [.int .i64 0,.int .i64 0,.int .i64 0,.sl true []],.cells 0 [b9 L,.int .i64 a2,.int .i64 l2,.int .i64 27,.int .i64 pn,.int .i64 0,.osl 3 vP 0 2 4 false,.int .i64 0,.bool con],f0.row,(.cells vP (f0.cells 2++f1.cells 4)),f1.row]⟩:AS)) (Weak.ref ⟨?_,.inl ?_⟩) A8)
     ·exact u'p
     ·simp only [wS,simprocAttr,HS,Fn.row,Fn.cells,MX.row];try exact rfl
   ·obtain rfl:tl=[]:=by
     cases tl with
     |nil=>rfl
     |cons=>simp only [List.length_cons] at hl;omega
    have w0:=hf f0 (by simp)
    have w1:=hf f1 (by simp)
    have w2:=hf f2 (by simp)
    simp only [HS,List.length_cons,List.length_nil] at e3 hl ⊢
    repeat' (first|(refine u'S ?_;simp only [wS,simprocAttr,HS,Fn.row,Fn.cells])|refine v'Q fun _ _=>?_|refine bB ?_|refine aZ (fun hg=>?_) fun hg=>?_|fail)
    refine bD (fun h=>?_) (fun h=>?_)
    ·simp at h;omega
    ·obtain rfl:nn=3:=by simp at h;omega
     repeat' (first|(refine u'S ?_;simp only [wS,simprocAttr,HS,Fn.row,Fn.cells])|refine v'Q fun _ _=>?_|refine bB ?_|refine aZ (fun hg=>?_) fun hg=>?_|fail)
     refine key1 (⟨L,27,pn,0,0,.osl 3 vP 0 3 4 false,con,f0.row,(.cells vP (f0.cells 2++(f1.cells 4++f2.cells 5))),f1.row,f2.row⟩) vP a2 l2 _ ⟨hL,hcn,.three f0 f1 f2 vP false w0 w1 w2 (.inl rfl)⟩ rfl ?_
     refine (Weak.ref ⟨?_,.inl ?_⟩)
     ·exact u'p
     ·simp only [wS,simprocAttr,HS,Fn.row,Fn.cells,MX.row];try exact rfl
 cases con with
 |false=>
  repeat' (first|(refine u'S ?_;simp only [wS,simprocAttr])|refine v'Q fun _ _=>?_|refine bB ?_|refine aZ (fun hg=>?_) fun hg=>?_|fail)
  refine key0 0 32 0 _ (fun h=>by cases h) (Weak.ref ⟨?_,.inl ?_⟩)
  ·exact u'p
  ·simp only [wS,simprocAttr,he];try exact rfl
 |true=>
  repeat' (first|(refine u'S ?_;simp only [wS,simprocAttr])|refine v'Q fun _ _=>?_|refine bB ?_|refine aZ (fun hg=>?_) fun hg=>?_|fail)
  refine aK (bS (x:=⟨L,27,0,0,0,.sl true [],true,.none,.none,.none,.none⟩) ⟨hL,rfl,rfl,rfl,rfl,rfl⟩ 2 (by decide)) 0 32 (by refine ⟨?_,?_,?_,?_,?_⟩<;>((try simp only [wS,simprocAttr,he,MX.row]);try exact rfl)) ?_
  rintro _ a1 l1 ⟨z,rfl,hz1,hz2⟩ -
  have ez:IntKind.i64.wrap (1+z)=1+z:=cO (by omega) (by omega)
  simp only [wS,simprocAttr,ez,MX.row]
  repeat' (first|(refine u'S ?_;simp only [wS,simprocAttr,ez,MX.row])|refine v'Q fun _ _=>?_|refine bB ?_|refine aZ (fun hg=>?_) fun hg=>?_|fail)
  refine key0 a1 36 (1+z) _ (fun h=>by omega) (Weak.ref ⟨?_,.inl ?_⟩)
  ·exact u'p
  ·simp only [wS,simprocAttr,he];try exact rfl
theorem N4 (L:List Int) (hL:∀ x∈L,cI x):EP Tryz.prog G0 34 [b9 L] (VN 14):=by
 refine oK hG0 Tryz.func34 rfl (by kernel_rfl) (by simp [Tryz.ntmps34]) (by simp [inL,eW]) (fun _=>VN.tree) ?_
 simp only [Tryz.ntmps34,aH,Nat.reduceAdd]
 repeat' (first|(refine u'S ?_;simp only [wS,simprocAttr])|refine v'Q fun _ _=>?_|refine bB ?_|refine aZ (fun hg=>?_) fun hg=>?_|fail)
 refine f5 hG0 (rP L _ 9 hL (by decide)) ?_
 simp only [wS,simprocAttr]
 repeat' (first|(refine u'S ?_;simp only [wS,simprocAttr])|refine v'Q fun _ _=>?_|refine bB ?_|refine aZ (fun hg=>?_) fun hg=>?_|fail)
 refine S7 hG0 (ND L hL _) ?_
 rintro v ⟨c,rfl,hc⟩
 have hv:VN 14 (.agg c):=⟨c,rfl,hc⟩
 cases hc with
 |mk k n m b es hl hh=>
 simp only [wS,simprocAttr]
 repeat' (first|(refine u'S ?_;simp only [wS,simprocAttr])|refine v'Q fun _ _=>?_|refine bB ?_|refine aZ (fun hg=>?_) fun hg=>?_|fail)
 refine pS (v:=?rv) rfl ?hl ?_
 case hl=>simp only [wS,simprocAttr];exact rfl
 exact EG.of _ (VN.wk hv) rfl
end Go.Proofs.YtggflhbigolakaaGreatDoor
