import Derived.Test.YtggflhbigolakaaGreatDoorAE
import Derived.Test.YtggflhbigolakaaGreatDoorN4
import Derived.Test.YtggflhbigolakaaGreatDoorN8
set_option linter.unusedVariables false
set_option linter.unusedSimpArgs false
namespace Go.Proofs.YtggflhbigolakaaGreatDoor
open Go.AM
attribute [local irreducible] AWp aY bC bI bU bW aN aS bL
set_option maxRecDepth 100000
theorem JY [Rnd] {k n:Nat} {H:List ARow} {base app:List (List AV)} {sz t:Nat} {s:AS} (l:List (Nat × AV)) (hk:k≤H.length) (hh:s.h=dO H base app) (ht:s.get t=gD base H.length sz app) (hsz:∀ e∈base++app,e.length=sz) (htr:inE aC (base++app)=true)
  (hl:kS l s.get) (hln:∀ p∈l,inR (fun r=>decide (r<H.length)) p.2=true) (hH:H.all (aG fun r=>decide (r<H.length))=true):Ref G0 n k s ⟨mkF ((t,.sl false (base++app))::l),H⟩:=by
 have hln':∀ p∈(t,AV.sl false (base++app))::l,inR (fun r=>decide (r<H.length)) p.2=true:=by
  intro p hp
  rcases List.mem_cons.1 hp with rfl|hp
  ·simp only [inR];exact pN (p:=aC) (fun r hr=>by cases hr) htr
  ·exact hln p hp
 by_cases ha:app=[]
 ·subst ha
  have h0:s.h=H:=by rw [hh];simp [dO]
  have:=dD (G:=G0) (n:=n) (k:=k) (s:=s) [] ((t,.sl false (base++[]))::l) (jX [] 0 s.h) (by simp) ⟨.inr (by rw [ht,iS,List.append_nil];rw [List.append_nil] at htr;exact .full htr),jW hl⟩ (jV 0 s.h fun i hi _=>by cases hi)
  rw [qP,h0] at this
  exact this
 ·have h0:s.h=H++[dT base app]:=by rw [hh,dO,if_neg ha]
  have hr:s.row H.length=dT base app:=by
   show s.h.getD H.length .none=_
   rw [h0];simp
  have h1:=dD (G:=G0) (n:=n) (k:=k) (s:=s) [H.length] ((t,.sl false (base++app))::l) (jX [H.length] 0 s.h) (by rw [h0];simp) ⟨.inr (by rw [ht];exact F1 (H:=H) (h:=s.h) hh hsz htr),jW hl⟩ (jV 0 s.h fun i hi _=>by
   have hi:i=H.length:=by simpa using hi
   subst hi
   show s.row H.length≠.none
   rw [hr];simp [dT])
  rw [h0,oL (by simp)] at h1
  have h2:=JX (G:=G0) (n:=n) (k:=k) (l:=(t,.sl false (base++app))::l) (h:=H++jX [H.length] (0+H.length) [dT base app]) H.length hk hG0 hln' (by rw [List.take_left];exact hH)
  rw [List.take_left] at h2
  exact h1.trans h2
theorem HW {rows:Nat→ARow} {r:Nat} {a b:ARow}:upd (upd rows [(r,a)]) [(r,b)]=upd rows [(r,b)]:=by
 funext i
 simp only [eE]
 split<;>rfl
theorem LM {P:Program} {G:Nat→Option (List AV)} {n:Nat} {K:Option Acc→AS→Prop} {d:Option Tmp} {rest:List POp} {m:Option Acc} {fp:List Nat} {s:AS} {t u:TypeId} {sz by':Nat} {x:AV} {rows:Nat→ARow} {nb q:Nat} {e:List AV} {base app:List (List AV)} {H:List ARow} {h:List ARow} (hq:H.length=q) (ht:rY P t u=some (sz,by')) (hh:h=dO H base app) (hrows:rows=fun r=>h.getD r .none) (hnb:nb=h.length)
  (hsz:∀ e∈base++app,e.length=sz) (hs:cJ sz x rows=some (1,e)) (hb:(base.length+app.length+1)*(by'+1)≤140737488355328)
  (hk:aY P G n K rest (adv m fp [q]) ((s.wr [(q,dT base (app++[e]))]).put d (gD base q sz (app++[e])))):bU P G n K d rest m fp s (dN P t u (gD base q sz app) x rows nb):=by
 subst hq
 exact sK ht hh hrows hnb hsz hs hb hk
theorem G9 {H:List ARow} {q:Nat} (hq:H.length=q) (base app:List (List AV)) (e:List AV):d7 (dO H base app) q (dT base (app++[e]))=dO H base (app++[e]):=by
 subst hq
 exact j6 H base app e
theorem G8 {H:List ARow} {base:List (List AV)}:dO H base []=H:=by simp [dO]
theorem KM (k n:Int):NodeV 1 [.int .i64 k,.int .i64 n,.int .i64 0,.sl true []]:=RV _ _ _ _
def sq (x:MX) (q:Nat) (y:ARow):MX:=⟨x.L,x.pk,x.pn,x.pm,x.F,x.kv,x.con,if q=2 then y else x.A2,x.A3,if q=4 then y else x.A4,if q=5 then y else x.A5⟩
def frv (x:MX) (a l:Int):List ARow:=[.dead,x.row a l,x.A2,x.A3,x.A4,x.A5]
def BS (q:Nat):Prop:=q=2∨q=4∨q=5
section
variable {x:MX} {q:Nat} {y z:ARow} {a l a' l':Int}
theorem eA (hq:BS q):(frv (sq x q y) a l).getD q .none=y:=by rcases hq with rfl|rfl|rfl<;>rfl
theorem d9 {rows:Nat→ARow} (hq:BS q):upd rows [(1,y)] q=rows q:=by rw [eE,if_neg (by rcases hq with rfl|rfl|rfl<;>decide)]
theorem cA (hq:BS q):d7 (frv (sq x q y) a l) q z=frv (sq x q z) a l:=by rcases hq with rfl|rfl|rfl<;>rfl
theorem b6:d7 (frv x a l) 1 (x.row a' l')=frv x a' l':=rfl
theorem eB:(frv x a l).getD 1 .none=x.row a l:=rfl
theorem b4:(frv x a l).length=6:=rfl
theorem iT {b k:List (List AV)}:d7 (dO (frv x a l) b k) 1 (x.row a' l')=dO (frv x a' l') b k:=by rw [iA (by rw [b4];decide),b6]
theorem M0 {b k:List (List AV)} {r:Nat} (h:r<6):(dO (frv x a l) b k).getD r .none=(frv x a l).getD r .none:=cN _ _ _ (by rw [b4];exact h)
theorem kL {b k:List (List AV)} {fr:List AV}:MR x (AS.row ⟨fr,dO (frv x a l) b k⟩) a l:=⟨M0 (by decide),M0 (by decide),M0 (by decide),M0 (by decide),M0 (by decide)⟩
theorem kK {b k:List (List AV)} {fr:List AV} {a' l':Int}:MR x (upd (AS.row ⟨fr,dO (frv x a l) b k⟩) [(1,x.row a' l')]) a' l':=by
 rw [sA (by rw [b4];decide),b6];exact kL (fr:=fr)
theorem kJ {b k:List (List AV)} {fr:List AV} {a' l':Int}:MR x (AS.row ⟨fr,d7 (dO (frv x a l) b k) 1 (x.row a' l')⟩) a' l':=by
 rw [iT];exact kL (fr:=fr)
theorem JI (hx:x.frame) (hy:aG nQ y=true):(sq x q y).frame:=by
 refine ⟨hx.L,hx.kv,?_,hx.r3,?_,?_⟩<;>simp only [sq]<;>split<;>first|exact hy|exact hx.r2|exact hx.r4|exact hx.r5
theorem MM {rows:Nat→ARow} (hq:BS q) (hr:MR x rows a l) (hn:rows q=.none):sq x q .none=x:=by
 obtain ⟨_,h2,_,h4,h5⟩:=hr
 obtain ⟨L,pk,pn,pm,F,kv,con,A2,A3,A4,A5⟩:=x
 simp only at h2 h4 h5
 rcases hq with rfl|rfl|rfl
 ·rw [hn] at h2;subst h2;rfl
 ·rw [hn] at h4;subst h4;rfl
 ·rw [hn] at h5;subst h5;rfl
theorem QC (hx:x.frame):(frv x a l).all (aG fun r=>decide (r<(frv x a l).length))=true:=by
 have h:∀ y,aG nQ y=true→aG (fun r=>decide (r<6)) y=true:=fun y hy=>cY (kT (by omega)) hy
 simp only [frv,List.all_cons,List.all_nil,Bool.and_true,List.length_cons,List.length_nil,Nat.reduceAdd,Bool.and_eq_true]
 exact ⟨rfl,h _ (hx.row a l),h _ hx.r2,h _ hx.r3,h _ hx.r4,h _ hx.r5⟩
theorem QB {s:AS} (hx:x.frame):ToH s [] (fun r=>decide (r<6)) 0 (frv x a l) (frv x a l):=by
 have h:∀ y,aG nQ y=true→aG (fun r=>decide (r<6)) y=true:=fun y hy=>cY (kT (by omega)) hy
 have hf:∀ (r:Nat) (y:ARow),iU s.row [] r y y:=fun r y=>.inr ⟨.inl (by simp),.inl rfl⟩
 simp only [frv,ToH,and_true]
 exact ⟨.inr ⟨rfl,rfl,hf _ _⟩,.inr ⟨rfl,h _ (hx.row a l),hf _ _⟩,.inr ⟨rfl,h _ hx.r2,hf _ _⟩,.inr ⟨rfl,h _ hx.r3,hf _ _⟩,.inr ⟨rfl,h _ hx.r4,hf _ _⟩,.inr ⟨rfl,h _ hx.r5,hf _ _⟩⟩
theorem LB {rows:Nat→ARow} {a1 l1:Int} (hx:x.frame) (hq:BS q) (hr:MR x rows a l) (hy:aG nQ y=true):∀ r∈([1,2,3,4,5]:List Nat),(frv (sq x q y) a1 l1).getD r .none=upd rows [(1,x.row a1 l1),(q,y)] r∧aG (fun r=>([1,2,3,4,5]:List Nat).contains r) ((frv (sq x q y) a1 l1).getD r .none)=true:=by
 have hf:=JI (q:=q) hx hy
 obtain ⟨h1,h2,h3,h4,h5⟩:=hr
 intro r hm
 simp only [List.mem_cons,List.not_mem_nil,or_false] at hm
 rw [zM]
 rcases hm with rfl|rfl|rfl|rfl|rfl
 ·exact ⟨by rcases hq with rfl|rfl|rfl<;>rfl,hf.row a1 l1⟩
 ·exact ⟨by rcases hq with rfl|rfl|rfl<;>simp [frv,sq,h2],hf.r2⟩
 ·exact ⟨by rcases hq with rfl|rfl|rfl<;>simp [frv,sq,h3],hf.r3⟩
 ·exact ⟨by rcases hq with rfl|rfl|rfl<;>simp [frv,sq,h4],hf.r4⟩
 ·exact ⟨by rcases hq with rfl|rfl|rfl<;>simp [frv,sq,h5],hf.r5⟩
end
theorem pT {P:Program} {G:Nat→Option (List AV)} {n:Nat} {K:Option Acc→AS→Prop} {d:Option Tmp} {rest:List POp} {m:Option Acc} {fp:List Nat} {s:AS} {t u:TypeId} {sz by':Nat} {x:AV} {rows:Nat→ARow} {nb:Nat} {e:List AV} {r:Nat} {app:List (List AV)} (ht:rY P t u=some (sz,by')) (hr:rows r=rvR (app.length - 1) app) (hsz:∀ e∈app,e.length=sz) (hs:cJ sz x rows=some (1,e)) (hb:(app.length+1)*(by'+1)≤140737488355328)
  (hk:aY P G n K rest (adv m fp [r]) ((s.wr [(r,rvR app.length (app++[e]))]).put d (rv r app.length sz (app++[e])))):bU P G n K d rest m fp s (dN P t u (rv r (app.length - 1) sz app) x rows nb):=by
 refine b8 (es:=[e]) (v':=app.length) ht hr ?_ hsz (by simpa using hs) (by simp) (by simpa using hb) hk
 by_cases ha:app=[]
 ·subst ha;rfl
 ·rw [if_neg ha]
  have:app.length≠0:=by simpa using ha
  omega
theorem JR {d v:Nat} {app:List (List AV)} (h:∀ e∈app,NodeV d e):aG nQ (rvR v app)=true:=bQ (aA (cZ h))
set_option maxHeartbeats 8000000 in
theorem kB {x : MX} (hx : x.frame) {q : Nat} (hq : BS q) (params : Nat) (hpar : params ≤ 2) {rows : Nat → ARow} {at0 left : Int} (hr : MR x rows at0 left) (hnone : rows q = .none) : EC Tryz.prog G0 103 [.ptr 1 0 0, .int .i64 params] rows [1, 2, 3, 4, 5] (fun eff : Eff => ∃ app at1 left1, eff = ⟨rv q (app.length - 1) 4 app, [(1, x.row at1 left1), (q, rvR (app.length - 1) app)]⟩ ∧ params ≤ app.length ∧ app.length ≤ 5 ∧ ∀ e ∈ app, NodeV 2 e) := by
 have hxn:frv x at0 left=frv (sq x q .none) at0 left:=by rw [MM hq hr hnone]
 have hq6:decide (q<6)=true:=by rcases hq with rfl|rfl|rfl<;>rfl
 have hqc:(([1,2,3,4,5]:List Nat).contains q)=true:=by rcases hq with rfl|rfl|rfl<;>rfl
 have hqf:∀ {app:List (List AV)},(∀ e∈app,NodeV 2 e)→(sq x q (rvR (app.length - 1) app)).frame:=fun h=>JI hx (JR h)
 have hfn:(sq x q .none).frame:=JI hx rfl
 refine vF (frv x at0 left) hG0 Tryz.func103 rfl (by kernel_rfl) (by simp [Tryz.ntmps103]) hr.get MR.dead (by simp [inL,inR,frv]) (fun r h=>cY (kT (by simp [frv])) (hr.ins hx r h)) ?_ ?_ ?_
 ·intro r hm h
  simp only [List.mem_cons,List.not_mem_nil,or_false] at hm
  rw [b4] at h
  omega
 ·rintro eff ⟨app,a1,l1,rfl,_⟩ p hp
  simp only [List.mem_cons,List.not_mem_nil,or_false] at hp
  rcases hp with rfl|rfl
  ·simp
  ·simpa using hqc
 ·simp only [Tryz.ntmps103, aH, Nat.reduceAdd, hxn, b4]
  repeat' (first|(refine u'S ?_;simp only [wS,simprocAttr])|refine v'Q fun _ _=>?_|refine bB ?_|refine aZ (fun hg=>?_) fun hg=>?_|fail)
  refine aK (bS hfn 4 (by decide)) at0 left (by refine ⟨?_,?_,?_,?_,?_⟩<;>exact rfl) ?_
  rintro _ at1 left1 ⟨more,rfl,hm1,hm2⟩ -
  simp only [wS,simprocAttr,d9 hq,eA hq,cA hq,b6,eB,b4]
  repeat' (first|(refine u'S ?_;simp only [wS,simprocAttr,d9 hq,eA hq,cA hq,b6,eB,b4])|refine v'Q fun _ _=>?_|refine bB ?_|refine aZ (fun hg=>?_) fun hg=>?_|fail)
  obtain ⟨tot,htot⟩:∃ tot:Nat,(params:Int)+more=tot:=⟨((params:Int)+more).toNat,(Int.toNat_of_nonneg (by omega)).symm⟩
  have ew:IntKind.i64.wrap (tot:Int)=tot:=cO (by omega) (by omega)
  refine fR (α:={p:List (List AV) × Int × Int // p.1.length≤tot∧∀ e∈p.1,NodeV 2 e}) (fun p=>[(0,.ptr 1 0 0),(1,.int .i64 params),(5,rv q (p.1.1.length - 1) 4 p.1.1),(6,.int .i64 more),(7,.int .i64 (p.1.1.length:Nat))]) (fun p=>frv (sq x q (rvR (p.1.1.length - 1) p.1.1)) p.1.2.1 p.1.2.2) (fun p=>tot - p.1.1.length) ⟨([],at1,left1),by simp,by simp⟩ (bN [] (fun r=>decide (r<6)) hG0 (by simp) ?_ ?_ ?_) ?_
  ·simp only [wS,simprocAttr,cS,Frz,dS,List.length_nil,d9 hq,eA hq,cA hq,b6,eB,b4]
   exact .toRsv
  ·simp only [List.all_cons,List.all_nil,Bool.and_true,dS,inR,hq6,Bool.and_self,decide_true,Nat.reduceLT]
  ·simp only [wS,simprocAttr,d9 hq,eA hq,cA hq,b6,eB,b4,dM]
   exact QB hfn
  ·rintro ⟨⟨app,a2,l2⟩,hl,hn⟩ K3 hK3
   simp only at hl hn
   have hfr:=hqf hn
   repeat' (first|(refine u'S ?_;simp only [wS,simprocAttr,d9 hq,eA hq,cA hq,b6,eB,b4,htot,ew])|refine v'Q fun _ _=>?_|refine bB ?_|refine aZ (fun hg=>?_) fun hg=>?_|fail)
   refine bD (fun h=>?_) (fun h=>?_)
   ·have hlt : app.length < tot := by simpa using h
    have e3:=aL (k:=app.length) hlt (by omega)
    have hne:∀ e:List AV,NodeV 2 e→∀ y∈app++[e],NodeV 2 y:=fun e he y hy=>by
     rcases List.mem_append.1 hy with hy|hy
     ·exact hn y hy
     ·rw [List.mem_singleton.1 hy];exact he
    repeat' (first|(refine u'S ?_;simp only [wS,simprocAttr])|refine v'Q fun _ _=>?_|refine bB ?_|refine aZ (fun hg=>?_) fun hg=>?_|fail)
    refine aK (bS hfr 8 (by decide)) a2 l2 (by refine ⟨?_,?_,?_,?_,?_⟩<;>exact rfl) ?_
    rintro _ a3 l3 ⟨w0,rfl,hw1,hw2⟩ -
    simp only [wS,simprocAttr,d9 hq,eA hq,cA hq,b6,eB,b4]
    repeat' (first|(refine u'S ?_;simp only [wS,simprocAttr,d9 hq,eA hq,cA hq,b6,eB,b4])|refine v'Q fun _ _=>?_|refine C3 ?_|refine aZ (fun hg=>?_) fun hg=>?_|fail)
    rename_i Kr hKr Kb hKb
    refine hKb.go ?_
    refine c9 fun K5 hK5=>?_
    replace hK5:=And.intro trivial hK5
    have key : ∀ (w : Int) (s : AS), Ref G0 79 6 s ⟨mkF [(0, .ptr 1 0 0), (1, .int .i64 params), (5, rv q (app.length - 1) 4 app), (6, .int .i64 more), (7, .int .i64 (app.length : Nat)), (8, .int .i64 w)], frv (sq x q (rvR (app.length - 1) app)) a3 l3⟩ → EG (fun eff : Eff => ∃ app at1 left1, eff = ⟨rv q (app.length - 1) 4 app, [(1, x.row at1 left1), (q, rvR (app.length - 1) app)]⟩ ∧ params ≤ app.length ∧ app.length ≤ 5 ∧ ∀ e ∈ app, NodeV 2 e) (fun i => K5 i s) := by
     intro w s hr
     refine hK5.2.go (gS hr ?_)
     clear hr hK5
     repeat' (first|(refine u'S ?_;simp only [wS,simprocAttr,d9 hq,eA hq,cA hq,b6,eB,b4,e3,List.flatten_cons,List.flatten_nil,List.append_nil,List.nil_append,List.cons_append])|refine v'Q fun _ _=>?_|refine bB ?_|refine QZ (fun hg=>?_) fun hg=>?_|(refine aK (bS hfr 2 (by decide)) _ _ (by first|exact kL|exact kK|exact kJ|(refine ⟨?_,?_,?_,?_,?_⟩<;>exact rfl)) ?_;rintro _ a3 l3 ⟨u,rfl,hu1,hu2⟩ -;refine u'T ?_)|(refine aK (bS hfr 3 (by decide)) _ _ (by first|exact kL|exact kK|exact kJ|(refine ⟨?_,?_,?_,?_,?_⟩<;>exact rfl)) ?_;rintro _ a3 l3 ⟨z,rfl,hz1,hz2⟩ -;refine u'T ?_)|(refine aK (bS hfr 4 (by decide)) _ _ (by first|exact kL|exact kK|exact kJ|(refine ⟨?_,?_,?_,?_,?_⟩<;>exact rfl)) ?_;rintro _ a3 l3 ⟨t,rfl,ht1,ht2⟩ -;refine u'T ?_)|(refine aK (node_ok (d:=0) hfr _ _ _ _ (by simp) eM) _ _ (by first|exact kL|exact kK|exact kJ|(refine ⟨?_,?_,?_,?_,?_⟩<;>exact rfl)) ?_;rintro _ a3 l3 ⟨rfl,hnv⟩ -;refine u'T ?_)|refine EG.mono (fun i h=>pT (app:=app) (by':=48) (by kernel_rfl) (by (simp only [wS,simprocAttr,d9 hq,eA hq,cA hq,b6,eB,b4];try exact rfl)) (fun e he=>(hn e he).len) rfl (by omega) h) (u'T ?_))
     ·refine hK3 _ ⟨(app++[?e_0],?a_0,?l_0),?p_0,hne _ ?v_0⟩ (Weak.ref ⟨?f_0,.inl ?h_0⟩) ?m_0
      case f_0=>simp only [wS,simprocAttr,List.length_append,List.length_singleton,Nat.add_sub_cancel];exact rfl
      case h_0=>simp only [wS,simprocAttr,d9 hq,eA hq,cA hq,b6,eB,b4,List.length_append,List.length_singleton,Nat.add_sub_cancel];exact rfl
      case p_0=>simp only [List.length_append,List.length_singleton];omega
      case v_0=>exact hnv.up (by decide)
      case m_0=>simp only [List.length_append,List.length_singleton];omega
     ·refine hK3 _ ⟨(app++[?e_1],?a_1,?l_1),?p_1,hne _ ?v_1⟩ (Weak.ref ⟨?f_1,.inl ?h_1⟩) ?m_1
      case f_1=>simp only [wS,simprocAttr,List.length_append,List.length_singleton,Nat.add_sub_cancel];exact rfl
      case h_1=>simp only [wS,simprocAttr,d9 hq,eA hq,cA hq,b6,eB,b4,List.length_append,List.length_singleton,Nat.add_sub_cancel];exact rfl
      case p_1=>simp only [List.length_append,List.length_singleton];omega
      case v_1=>exact hnv.up (by decide)
      case m_1=>simp only [List.length_append,List.length_singleton];omega
     ·refine hK3 _ ⟨(app++[?e_2],?a_2,?l_2),?p_2,hne _ ?v_2⟩ (Weak.ref ⟨?f_2,.inl ?h_2⟩) ?m_2
      case f_2=>simp only [wS,simprocAttr,List.length_append,List.length_singleton,Nat.add_sub_cancel];exact rfl
      case h_2=>simp only [wS,simprocAttr,d9 hq,eA hq,cA hq,b6,eB,b4,List.length_append,List.length_singleton,Nat.add_sub_cancel];exact rfl
      case p_2=>simp only [List.length_append,List.length_singleton];omega
      case v_2=>exact hnv.up (by decide)
      case m_2=>simp only [List.length_append,List.length_singleton];omega
     ·obtain ⟨nk,rfl⟩:∃ nk:Nat,z=nk:=⟨z.toNat,(Int.toNat_of_nonneg hz1).symm⟩
      rename_i Ka hKa Kb hKb
      replace hKa:=And.intro trivial hKa
      refine fR (α:={p:List (List AV) × Int × Int // p.1.length≤nk∧∀ e∈p.1,NodeV 1 e}) (fun p=>[(0,.ptr 1 0 0),(1,.int .i64 params),(5,rv q (app.length - 1) 4 app),(6,.int .i64 more),(7,.int .i64 (app.length:Nat)),(9,gD [[.int .i64 u,.int .i64 0,.int .i64 0,.sl true []]] 6 4 p.1.1),(10,.int .i64 ((nk:Int) - (p.1.1.length:Nat)))]) (fun p=>dO (frv (sq x q (rvR (app.length - 1) app)) p.1.2.1 p.1.2.2) [[.int .i64 u,.int .i64 0,.int .i64 0,.sl true []]] p.1.1) (fun p=>nk - p.1.1.length) ⟨([],a3,l3),by simp,by simp⟩ (Weak.ref ⟨?_,.inl ?_⟩) ?_
      ·simp only [wS,simprocAttr,iS,List.length_nil,Int.natCast_zero,Int.sub_zero];try exact rfl
      ·simp only [wS,simprocAttr,d9 hq,eA hq,cA hq,b6,eB,b4,G8];try exact rfl
      ·rintro ⟨⟨kapp,a6,l6⟩,hkl,hkn⟩ K9 hK9
       simp only at hkl hkn
       repeat' (first|(refine u'S ?_;simp only [wS,simprocAttr,d9 hq,eA hq,cA hq,b6,eB,b4])|refine v'Q fun _ _=>?_|refine bB ?_|refine aZ (fun hg=>?_) fun hg=>?_|fail)
       refine bD (fun h=>?_) (fun h=>?_)
       ·have hkt:kapp.length<nk:=by simp at h;omega
        have e4:IntKind.i64.wrap ((nk:Int) - (kapp.length:Nat) - 1)=(nk:Int) - (kapp.length+1:Nat):=by rw [cO (by omega) (by omega)];omega
        repeat' (first|(refine u'S ?_;simp only [wS,simprocAttr,d9 hq,eA hq,cA hq,b6,eB,b4])|refine v'Q fun _ _=>?_|refine bB ?_|refine aZ (fun hg=>?_) fun hg=>?_|fail)
        refine aK (bS hfr 2 (by decide)) a6 l6 (by first|exact kL|exact kK|exact kJ|(refine ⟨?_,?_,?_,?_,?_⟩<;>exact rfl)) ?_
        rintro _ a7 l7 ⟨y,rfl,hy1,hy2⟩ -
        simp only [wS,simprocAttr,d9 hq,eA hq,cA hq,b6,eB,b4,iT]
        repeat' (first|(refine u'S ?_;simp only [wS,simprocAttr,d9 hq,eA hq,cA hq,b6,eB,b4,iT])|refine v'Q fun _ _=>?_|refine bB ?_|refine aZ (fun hg=>?_) fun hg=>?_|fail)
        refine aK (node_ok (d:=0) hfr _ _ _ _ (by simp) eM) a7 l7 (by first|exact kL|exact kK|exact kJ|(refine ⟨?_,?_,?_,?_,?_⟩<;>exact rfl)) ?_
        rintro _ a8 l8 ⟨rfl,hnv⟩ -
        simp only [wS,simprocAttr,d9 hq,eA hq,cA hq,b6,eB,b4,iT]
        refine EG.mono (fun i h=>LM (H:=frv (sq x q (rvR (app.length - 1) app)) a8 l8) (base:=[[.int .i64 u,.int .i64 0,.int .i64 0,.sl true []]]) (app:=kapp) (e:=[.int .i64 y,.int .i64 0,.int .i64 0,.sl true []]) (by':=48) b4 (by kernel_rfl) rfl (by rw [HW];exact sA (by simp [b4])) rfl (fun e he=>by
         rcases List.mem_cons.1 he with rfl|he
         ·rfl
         ·exact (hkn e he).len) (by simp [cJ]) (by simp only [List.length_cons,List.length_nil];omega) h) ?_
        have hac:=G9 (H:=frv (sq x q (rvR (app.length - 1) app)) a8 l8) b4 [[.int .i64 u,.int .i64 0,.int .i64 0,.sl true []]] kapp [.int .i64 y,.int .i64 0,.int .i64 0,.sl true []]
        simp only [wS,simprocAttr,d9 hq,eA hq,cA hq,b6,eB,b4,iT]
        repeat' (first|(refine u'S ?_;simp only [wS,simprocAttr,d9 hq,eA hq,cA hq,b6,eB,b4,iT,e4])|refine v'Q fun _ _=>?_|refine bB ?_|refine aZ (fun hg=>?_) fun hg=>?_|fail)
        refine hK9 _ ⟨(kapp++[[.int .i64 y,.int .i64 0,.int .i64 0,.sl true []]],a8,l8),by simp;omega,fun e he=>by
         rcases List.mem_append.1 he with he|he
         ·exact hkn e he
         ·rw [List.mem_singleton.1 he];exact KM _ _⟩ (Weak.ref ⟨?_,.inl ?_⟩) (by simp;omega)
        ·simp only [wS,simprocAttr,List.length_append,List.length_singleton];try exact rfl
        ·simp only [wS,simprocAttr,d9 hq,eA hq,cA hq,b6,eB,b4,iT,hac];try exact rfl
       ·repeat' (first|(refine u'S ?_;simp only [wS,simprocAttr])|refine v'Q fun _ _=>?_|refine bB ?_|refine aZ (fun hg=>?_) fun hg=>?_|fail)
        have hkall:∀ e∈[.int .i64 u,.int .i64 0,.int .i64 0,.sl true []]::kapp,NodeV 1 e:=fun e he=>by
         rcases List.mem_cons.1 he with rfl|he
         ·exact KM _ _
         ·exact hkn e he
        refine hKa.2.go (gS (JY (H:=frv (sq x q (rvR (app.length - 1) app)) a6 l6) (base:=[[.int .i64 u,.int .i64 0,.int .i64 0,.sl true []]]) (app:=kapp) (sz:=4) (t:=9) [(0,.ptr 1 0 0),(1,.int .i64 params),(5,rv q (app.length - 1) 4 app),(6,.int .i64 more),(7,.int .i64 (app.length:Nat))] (by simp [b4]) ?_ ?_ (fun e he=>(hkall e he).len) (cZ hkall) ?_ ?_ (QC hfr)) ?_)
        ·exact u'p
        ·simp only [wS,simprocAttr,d9 hq,eA hq,cA hq,b6,eB,b4];try exact rfl
        ·exact u'p
        ·intro p hp
         simp only [List.mem_cons,List.not_mem_nil,or_false] at hp
         rcases hp with rfl|rfl|rfl|rfl|rfl
         ·rfl
         ·rfl
         ·exact cH hq6
         ·rfl
         ·rfl
        repeat' (first|(refine u'S ?_;simp only [wS,simprocAttr,d9 hq,eA hq,cA hq,b6,eB,b4,e3,List.flatten_cons,List.flatten_nil,List.append_nil,List.nil_append,List.cons_append])|refine v'Q fun _ _=>?_|refine bB ?_|refine QZ (fun hg=>?_) fun hg=>?_|(refine aK (node_ok (d:=1) hfr _ _ _ _ (by simp only [List.length_cons];omega) hkall) _ _ (by first|exact kL|exact kK|exact kJ|(refine ⟨?_,?_,?_,?_,?_⟩<;>exact rfl)) ?_;rintro _ a3 l3 ⟨rfl,hnv⟩ -;refine u'T ?_)|refine EG.mono (fun i h=>pT (app:=app) (by':=48) (by kernel_rfl) (by (simp only [wS,simprocAttr,d9 hq,eA hq,cA hq,b6,eB,b4];try exact rfl)) (fun e he=>(hn e he).len) rfl (by omega) h) (u'T ?_))
        refine hK3 _ ⟨(app++[?e_3],?a_3,?l_3),?p_3,hne _ ?v_3⟩ (Weak.ref ⟨?f_3,.inl ?h_3⟩) ?m_3
        case f_3=>simp only [wS,simprocAttr,List.length_append,List.length_singleton,Nat.add_sub_cancel];exact rfl
        case h_3=>simp only [wS,simprocAttr,d9 hq,eA hq,cA hq,b6,eB,b4,List.length_append,List.length_singleton,Nat.add_sub_cancel];exact rfl
        case p_3=>simp only [List.length_append,List.length_singleton];omega
        case v_3=>exact hnv.up (by decide)
        case m_3=>simp only [List.length_append,List.length_singleton];omega
    clear hK5
    repeat' (first|(refine u'S ?_;simp only [wS,simprocAttr,d9 hq,eA hq,cA hq,b6,eB,b4])|refine v'Q fun _ _=>?_|refine bB ?_|refine aZ (fun hg=>?_) fun hg=>?_|fail)
    refine bD (fun h2=>?_) (fun h2=>?_)
    ·repeat' (first|(refine u'S ?_;simp only [wS,simprocAttr,d9 hq,eA hq,cA hq,b6,eB,b4])|refine v'Q fun _ _=>?_|refine bB ?_|refine aZ (fun hg=>?_) fun hg=>?_|fail)
     refine key (w0.tmod 5) _ (Weak.ref ⟨?_,.inl ?_⟩)
     ·exact u'p
     ·exact u'p
    ·repeat' (first|(refine u'S ?_;simp only [wS,simprocAttr,d9 hq,eA hq,cA hq,b6,eB,b4])|refine v'Q fun _ _=>?_|refine bB ?_|refine aZ (fun hg=>?_) fun hg=>?_|fail)
     refine key w0 _ (Weak.ref ⟨?_,.inl ?_⟩)
     ·exact u'p
     ·exact u'p
   ·have hge:app.length=tot:=by simp at h;omega
    repeat' (first|(refine u'S ?_;simp only [wS,simprocAttr])|refine v'Q fun _ _=>?_|refine bB ?_|refine aZ (fun hg=>?_) fun hg=>?_|fail)
    refine HG rfl ?_
    refine EG.of ⟨rv q (app.length - 1) 4 app,[(1,x.row a2 l2),(q,rvR (app.length - 1) app)]⟩ ⟨app,a2,l2,rfl,by omega,by omega,hn⟩ ⟨.inl ?_,?_,?_⟩
    ·simp only [wS,simprocAttr]
    ·simp only [wS,simprocAttr];exact cH hqc
    ·simp only [wS,simprocAttr];exact LB hx hq hr (JR hn)
theorem A8 [Rnd] {n k:Nat} {fr:List AV} {h:List ARow}:Ref G0 n k ⟨fr,h⟩ ⟨fr,h++[.dead]⟩:=fun E a i=>by
 have hx:Ext E (cP E [h.length]):=yP
 refine ⟨cP E [h.length],rfl,hx.toK k,⟨yO i.inv,?_,i.sz,fun t=>(i.tm t).agree (mM E _) (iN _),DefOK.of (E:=E) (E':=cP E [h.length]) (Nat.le_refl _) hx.out hx.fresh i.df⟩⟩
 funext r
 have hr:E.rows r=h.getD r .none:=by rw [i.rows];rfl
 show (if r∈[h.length] then ARow.dead else E.rows r)=(h++[ARow.dead]).getD r .none
 rw [hr]
 simp only [List.getD_eq_getElem?_getD]
 rcases Nat.lt_trichotomy r h.length with hlt|rfl|hgt
 ·rw [if_neg (by simp;omega),List.getElem?_append_left hlt]
 ·rw [if_pos (by simp)];simp
 ·rw [if_neg (by simp;omega),List.getElem?_eq_none (by omega),List.getElem?_eq_none (by simp;omega)]
theorem PIs.withF {F:Int} {n vP:Nat} {bP:Bool} {a b c d:ARow} (h:PIs F (.osl 3 vP 0 n 4 bP) a b c d) (i:Nat) (hi:i<n):PIs i (.osl 3 vP 0 n 4 bP) a b c d:=by
 cases h with
 |one f0 vP bP A B h0 hF hA hB=>exact .one f0 vP bP _ _ h0 (by omega) hA hB
 |two f0 f1 vP bP B h0 h1 hF hB=>exact .two f0 f1 vP bP _ h0 h1 (by omega) hB
 |three f0 f1 f2 vP bP h0 h1 h2 hF=>exact .three f0 f1 f2 vP bP h0 h1 h2 (by omega)
def Fn.body (f:Fn) (c:List AV):Fn:=⟨f.v,f.b,f.p,f.q,f.ks.take f.q++[c]⟩
theorem Fn.body_wf {f:Fn} (h:f.wf) {c:List AV} (hc:NodeV 12 c):(f.body c).wf:=by
 obtain ⟨h1,h2,h3,h4⟩:=h
 refine ⟨by simp [Fn.body,h1],h2,h3,fun e he=>?_⟩
 rcases List.mem_append.1 he with he|he
 ·exact h4 e (List.mem_of_mem_take he)
 ·rw [List.mem_singleton.1 he];exact hc
theorem Fn.body_row {f:Fn} (h:f.wf) {c:List AV} (hc:NodeV 12 c):e7 f.ks.flatten (f.q*4) c=(f.body c).ks.flatten:=by
 obtain ⟨h1,h2,h3,h4⟩:=h
 have h5:∀ e∈f.ks,e.length=4:=fun e he=>(h4 e he).len
 have h6:(f.ks.take f.q).flatten.length=f.q*4:=by
  rw [cG (sz:=4) fun e he=>h5 e (List.mem_of_mem_take he),List.length_take,h1]
  congr 1;omega
 have h7:f.ks.flatten=(f.ks.take f.q).flatten++(f.ks.drop f.q).flatten:=by rw [← List.flatten_append,List.take_append_drop]
 have h8:f.ks.flatten.length=f.q*4+4:=by rw [cG h5,h1];omega
 unfold e7
 rw [List.drop_eq_nil_of_le (by rw [h8,hc.len];omega),List.append_nil]
 simp only [Fn.body,List.flatten_append,List.flatten_cons,List.flatten_nil,List.append_nil]
 rw [h7,← h6,List.take_left]
def MX.setRow (x:MX) (r:Nat) (y:ARow):MX:=if r=2 then ⟨x.L,x.pk,x.pn,x.pm,x.F,x.kv,x.con,y,x.A3,x.A4,x.A5⟩ else if r=4 then ⟨x.L,x.pk,x.pn,x.pm,x.F,x.kv,x.con,x.A2,x.A3,y,x.A5⟩ else ⟨x.L,x.pk,x.pn,x.pm,x.F,x.kv,x.con,x.A2,x.A3,x.A4,y⟩
theorem L9 {x:MX} (hx:x.ok) (i n vP:Nat) (bP:Bool) (hF:x.F=i) (hkv:x.kv=.osl 3 vP 0 n 4 bP) (hi:i<n):∃ r fn tl c3,fn.wf∧zC x r fn∧x.A3=.cells vP c3∧c3.length=n*4∧c3.drop (i*4)=.int .i64 26::.int .i64 (fn.p:Nat)::.int .i64 0::.osl r fn.v 0 (fn.q+1) 4 fn.b::tl∧∀ c,NodeV 12 c→(x.setRow r (fn.body c).row).ok:=by
 obtain ⟨L,pk,pn,pm,F,kv,con,A2,A3,A4,A5⟩:=x
 obtain ⟨hL,hcn,hP⟩:=hx
 simp only at hP hF hkv
 subst hF
 cases hP with
 |one f0 vP' bP' A B w0 hF' hA hB=>
  injection hkv with _ e1 _ e2 _ e3
  subst e1 e2 e3
  obtain rfl:i=0:=by omega
  exact ⟨2,f0,_,_,w0,.inl ⟨rfl,rfl⟩,rfl,rfl,rfl,fun c hc=>⟨hL,hcn,.one (f0.body c) _ _ _ _ (f0.body_wf w0 hc) rfl hA hB⟩⟩
 |two f0 f1 vP' bP' B w0 w1 hF' hB=>
  injection hkv with _ e1 _ e2 _ e3
  subst e1 e2 e3
  have:i=0∨i=1:=by omega
  rcases this with rfl|rfl
  ·exact ⟨2,f0,_,_,w0,.inl ⟨rfl,rfl⟩,rfl,rfl,rfl,fun c hc=>⟨hL,hcn,.two (f0.body c) f1 _ _ _ (f0.body_wf w0 hc) w1 (.inl rfl) hB⟩⟩
  ·exact ⟨4,f1,_,_,w1,.inr (.inl ⟨rfl,rfl⟩),rfl,rfl,rfl,fun c hc=>⟨hL,hcn,.two f0 (f1.body c) _ _ _ w0 (f1.body_wf w1 hc) (.inr rfl) hB⟩⟩
 |three f0 f1 f2 vP' bP' w0 w1 w2 hF'=>
  injection hkv with _ e1 _ e2 _ e3
  subst e1 e2 e3
  have:i=0∨i=1∨i=2:=by omega
  rcases this with rfl|rfl|rfl
  ·exact ⟨2,f0,_,_,w0,.inl ⟨rfl,rfl⟩,rfl,rfl,rfl,fun c hc=>⟨hL,hcn,.three (f0.body c) f1 f2 _ _ (f0.body_wf w0 hc) w1 w2 (.inl rfl)⟩⟩
  ·exact ⟨4,f1,_,_,w1,.inr (.inl ⟨rfl,rfl⟩),rfl,rfl,rfl,fun c hc=>⟨hL,hcn,.three f0 (f1.body c) f2 _ _ w0 (f1.body_wf w1 hc) w2 (.inr (.inl rfl))⟩⟩
  ·exact ⟨5,f2,_,_,w2,.inr (.inr ⟨rfl,rfl⟩),rfl,rfl,rfl,fun c hc=>⟨hL,hcn,.three f0 f1 (f2.body c) _ _ w0 w1 (f2.body_wf w2 hc) (.inr (.inr rfl))⟩⟩
def Fn.node (f:Fn):List AV:=[.int .i64 26,.int .i64 f.p,.int .i64 0,.sl false f.ks]
theorem Fn.node_ok {f:Fn} (h:f.wf):NodeV 13 f.node:=.mk (hd:=by decide) _ _ _ _ _ (by have:=h.1;have:=h.2.2.1;omega) h.2.2.2
theorem Fn.lend {f:Fn} (h:f.wf) {rows:Nat→ARow} {fp:List Nat} {r:Nat} (hr:r∈fp) (hrow:rows r=f.row):Lend rows fp (.osl r f.v 0 (f.q+1) 4 f.b) (.sl false f.ks):=
 .osl (cs:=f.ks.flatten) hr (by simp [aT,hrow,Fn.row]) h.1 (fun e he=>(h.2.2.2 e he).len) (by rw [List.drop_zero,List.take_of_length_le (by rw [cG (sz:=4) fun e he=>(h.2.2.2 e he).len,h.1];omega)]) (cZ h.2.2.2)
theorem hJ {f:Fn} (h:f.wf) {rows:Nat→ARow} {fp:List Nat} {r:Nat} (hr:r∈fp) (hrow:rows r=f.row) {xs ys:List AV} (hx:j8 rows fp xs ys):j8 rows fp (f.cells r++xs) (f.node++ys):=
 ⟨.inl rfl,.inl rfl,.inl rfl,.inr (f.lend h hr hrow),hx⟩
theorem S6 [Rnd] {N:Nat} {s:AS} {box:List AV} {L:List Int} {a l pk pn pm F:Int} {con:Bool} {vP:Nat} {bP:Bool} {f0:Fn} {A B:ARow} (w0:f0.wf) (hs:s.h=[.cells 0 box,.cells 0 [b9 L,.int .i64 a,.int .i64 l,.int .i64 pk,.int .i64 pn,.int .i64 pm,.osl 3 vP 0 1 4 bP,.int .i64 F,.bool con],f0.row,.cells vP (f0.cells 2),A,B]) (h4:s.get 4=.ptr 0 0 0) (h5:s.get 5=.ptr 1 0 0):
  Ref G0 N 0 s ⟨mkF [(4,.ptr 0 0 0),(5,.ptr 1 0 0)],[.cells 0 box,.cells 0 [b9 L,.int .i64 a,.int .i64 l,.int .i64 pk,.int .i64 pn,.int .i64 pm,.sl false [f0.node],.int .i64 F,.bool con],.dead,.dead,A,B]⟩:=by
 have e0:s.row=fun r=>([.cells 0 box,.cells 0 [b9 L,.int .i64 a,.int .i64 l,.int .i64 pk,.int .i64 pn,.int .i64 pm,.osl 3 vP 0 1 4 bP,.int .i64 F,.bool con],f0.row,.cells vP (f0.cells 2),A,B]:List ARow).getD r .none:=by
  funext r
  show s.h.getD r .none=_
  rw [hs]
 have hl:cS s [2] [(4,.ptr 0 0 0),(5,.ptr 1 0 0)]:=⟨.inl h4.symm,.inl h5.symm,trivial⟩
 have h1:Ref G0 N 0 s ⟨mkF [(4,.ptr 0 0 0),(5,.ptr 1 0 0)],[.cells 0 box,.cells 0 [b9 L,.int .i64 a,.int .i64 l,.int .i64 pk,.int .i64 pn,.int .i64 pm,.osl 3 vP 0 1 4 bP,.int .i64 F,.bool con],.dead,.cells vP (f0.node++[]),A,B]⟩:=by
  refine dD [2] _ _ (by rw [hs];rfl) hl ?_
  rw [hs]
  refine ⟨.inr ⟨.inl (by decide),.inl rfl⟩,.inr ⟨.inl (by decide),.inl rfl⟩,.inl ⟨by decide,rfl,fun h=>by cases h⟩,.inr ⟨.inl (by decide),.inr ⟨vP,_,_,rfl,rfl,?_⟩⟩,.inr ⟨.inl (by decide),.inl rfl⟩,.inr ⟨.inl (by decide),.inl rfl⟩,trivial⟩
  show j8 _ _ (f0.cells 2++[]) (f0.node++[])
  exact hJ w0 (by decide) (by rw [e0];rfl) trivial
 refine h1.trans (dD [3] _ _ rfl ⟨.inl rfl,.inl rfl,trivial⟩ ?_)
 refine ⟨.inr ⟨.inl (by decide),.inl rfl⟩,.inr ⟨.inl (by decide),.inr ⟨0,_,_,rfl,rfl,.inl rfl,.inl rfl,.inl rfl,.inl rfl,.inl rfl,.inl rfl,.inr (.osl (cs:=f0.node++[]) (by decide) (by simp [aT,lX]) rfl ?_ ?_ ?_),.inl rfl,.inl rfl,trivial⟩⟩,.inr ⟨.inl (by decide),.inl rfl⟩,.inl ⟨by decide,rfl,fun h=>by cases h⟩,.inr ⟨.inl (by decide),.inl rfl⟩,.inr ⟨.inl (by decide),.inl rfl⟩,trivial⟩
 ·intro e he
  simp only [List.mem_cons,List.not_mem_nil,or_false] at he
  rcases he with rfl<;>rfl
 ·rfl
 ·exact cZ fun e he=>by
   simp only [List.mem_cons,List.not_mem_nil,or_false] at he
   rcases he with rfl
   ·exact f0.node_ok w0
theorem S5 [Rnd] {N:Nat} {s:AS} {box:List AV} {L:List Int} {a l pk pn pm F:Int} {con:Bool} {vP:Nat} {bP:Bool} {f0 f1:Fn} {B:ARow} (w0:f0.wf) (w1:f1.wf) (hs:s.h=[.cells 0 box,.cells 0 [b9 L,.int .i64 a,.int .i64 l,.int .i64 pk,.int .i64 pn,.int .i64 pm,.osl 3 vP 0 2 4 bP,.int .i64 F,.bool con],f0.row,.cells vP (f0.cells 2++f1.cells 4),f1.row,B]) (h4:s.get 4=.ptr 0 0 0) (h5:s.get 5=.ptr 1 0 0):
  Ref G0 N 0 s ⟨mkF [(4,.ptr 0 0 0),(5,.ptr 1 0 0)],[.cells 0 box,.cells 0 [b9 L,.int .i64 a,.int .i64 l,.int .i64 pk,.int .i64 pn,.int .i64 pm,.sl false [f0.node,f1.node],.int .i64 F,.bool con],.dead,.dead,.dead,B]⟩:=by
 have e0:s.row=fun r=>([.cells 0 box,.cells 0 [b9 L,.int .i64 a,.int .i64 l,.int .i64 pk,.int .i64 pn,.int .i64 pm,.osl 3 vP 0 2 4 bP,.int .i64 F,.bool con],f0.row,.cells vP (f0.cells 2++f1.cells 4),f1.row,B]:List ARow).getD r .none:=by
  funext r
  show s.h.getD r .none=_
  rw [hs]
 have hl:cS s [2,4] [(4,.ptr 0 0 0),(5,.ptr 1 0 0)]:=⟨.inl h4.symm,.inl h5.symm,trivial⟩
 have h1:Ref G0 N 0 s ⟨mkF [(4,.ptr 0 0 0),(5,.ptr 1 0 0)],[.cells 0 box,.cells 0 [b9 L,.int .i64 a,.int .i64 l,.int .i64 pk,.int .i64 pn,.int .i64 pm,.osl 3 vP 0 2 4 bP,.int .i64 F,.bool con],.dead,.cells vP (f0.node++(f1.node++[])),.dead,B]⟩:=by
  refine dD [2,4] _ _ (by rw [hs];rfl) hl ?_
  rw [hs]
  refine ⟨.inr ⟨.inl (by decide),.inl rfl⟩,.inr ⟨.inl (by decide),.inl rfl⟩,.inl ⟨by decide,rfl,fun h=>by cases h⟩,.inr ⟨.inl (by decide),.inr ⟨vP,_,_,rfl,rfl,?_⟩⟩,.inl ⟨by decide,rfl,fun h=>by cases h⟩,.inr ⟨.inl (by decide),.inl rfl⟩,trivial⟩
  show j8 _ _ (f0.cells 2++(f1.cells 4++[])) (f0.node++(f1.node++[]))
  exact hJ w0 (by decide) (by rw [e0];rfl) (hJ w1 (by decide) (by rw [e0];rfl) trivial)
 refine h1.trans (dD [3] _ _ rfl ⟨.inl rfl,.inl rfl,trivial⟩ ?_)
 refine ⟨.inr ⟨.inl (by decide),.inl rfl⟩,.inr ⟨.inl (by decide),.inr ⟨0,_,_,rfl,rfl,.inl rfl,.inl rfl,.inl rfl,.inl rfl,.inl rfl,.inl rfl,.inr (.osl (cs:=f0.node++(f1.node++[])) (by decide) (by simp [aT,lX]) rfl ?_ ?_ ?_),.inl rfl,.inl rfl,trivial⟩⟩,.inr ⟨.inl (by decide),.inl rfl⟩,.inl ⟨by decide,rfl,fun h=>by cases h⟩,.inr ⟨.inl (by decide),.inl rfl⟩,.inr ⟨.inl (by decide),.inl rfl⟩,trivial⟩
 ·intro e he
  simp only [List.mem_cons,List.not_mem_nil,or_false] at he
  rcases he with rfl|rfl<;>rfl
 ·rfl
 ·exact cZ fun e he=>by
   simp only [List.mem_cons,List.not_mem_nil,or_false] at he
   rcases he with rfl|rfl
   ·exact f0.node_ok w0
   ·exact f1.node_ok w1
theorem S4 [Rnd] {N:Nat} {s:AS} {box:List AV} {L:List Int} {a l pk pn pm F:Int} {con:Bool} {vP:Nat} {bP:Bool} {f0 f1 f2:Fn} (w0:f0.wf) (w1:f1.wf) (w2:f2.wf) (hs:s.h=[.cells 0 box,.cells 0 [b9 L,.int .i64 a,.int .i64 l,.int .i64 pk,.int .i64 pn,.int .i64 pm,.osl 3 vP 0 3 4 bP,.int .i64 F,.bool con],f0.row,.cells vP (f0.cells 2++(f1.cells 4++f2.cells 5)),f1.row,f2.row]) (h4:s.get 4=.ptr 0 0 0) (h5:s.get 5=.ptr 1 0 0):
  Ref G0 N 0 s ⟨mkF [(4,.ptr 0 0 0),(5,.ptr 1 0 0)],[.cells 0 box,.cells 0 [b9 L,.int .i64 a,.int .i64 l,.int .i64 pk,.int .i64 pn,.int .i64 pm,.sl false [f0.node,f1.node,f2.node],.int .i64 F,.bool con],.dead,.dead,.dead,.dead]⟩:=by
 have e0:s.row=fun r=>([.cells 0 box,.cells 0 [b9 L,.int .i64 a,.int .i64 l,.int .i64 pk,.int .i64 pn,.int .i64 pm,.osl 3 vP 0 3 4 bP,.int .i64 F,.bool con],f0.row,.cells vP (f0.cells 2++(f1.cells 4++f2.cells 5)),f1.row,f2.row]:List ARow).getD r .none:=by
  funext r
  show s.h.getD r .none=_
  rw [hs]
 have hl:cS s [2,4,5] [(4,.ptr 0 0 0),(5,.ptr 1 0 0)]:=⟨.inl h4.symm,.inl h5.symm,trivial⟩
 have h1:Ref G0 N 0 s ⟨mkF [(4,.ptr 0 0 0),(5,.ptr 1 0 0)],[.cells 0 box,.cells 0 [b9 L,.int .i64 a,.int .i64 l,.int .i64 pk,.int .i64 pn,.int .i64 pm,.osl 3 vP 0 3 4 bP,.int .i64 F,.bool con],.dead,.cells vP (f0.node++(f1.node++(f2.node++[]))),.dead,.dead]⟩:=by
  refine dD [2,4,5] _ _ (by rw [hs];rfl) hl ?_
  rw [hs]
  refine ⟨.inr ⟨.inl (by decide),.inl rfl⟩,.inr ⟨.inl (by decide),.inl rfl⟩,.inl ⟨by decide,rfl,fun h=>by cases h⟩,.inr ⟨.inl (by decide),.inr ⟨vP,_,_,rfl,rfl,?_⟩⟩,.inl ⟨by decide,rfl,fun h=>by cases h⟩,.inl ⟨by decide,rfl,fun h=>by cases h⟩,trivial⟩
  show j8 _ _ (f0.cells 2++(f1.cells 4++(f2.cells 5++[]))) (f0.node++(f1.node++(f2.node++[])))
  exact hJ w0 (by decide) (by rw [e0];rfl) (hJ w1 (by decide) (by rw [e0];rfl) (hJ w2 (by decide) (by rw [e0];rfl) trivial))
 refine h1.trans (dD [3] _ _ rfl ⟨.inl rfl,.inl rfl,trivial⟩ ?_)
 refine ⟨.inr ⟨.inl (by decide),.inl rfl⟩,.inr ⟨.inl (by decide),.inr ⟨0,_,_,rfl,rfl,.inl rfl,.inl rfl,.inl rfl,.inl rfl,.inl rfl,.inl rfl,.inr (.osl (cs:=f0.node++(f1.node++(f2.node++[]))) (by decide) (by simp [aT,lX]) rfl ?_ ?_ ?_),.inl rfl,.inl rfl,trivial⟩⟩,.inr ⟨.inl (by decide),.inl rfl⟩,.inl ⟨by decide,rfl,fun h=>by cases h⟩,.inr ⟨.inl (by decide),.inl rfl⟩,.inr ⟨.inl (by decide),.inl rfl⟩,trivial⟩
 ·intro e he
  simp only [List.mem_cons,List.not_mem_nil,or_false] at he
  rcases he with rfl|rfl|rfl<;>rfl
 ·rfl
 ·exact cZ fun e he=>by
   simp only [List.mem_cons,List.not_mem_nil,or_false] at he
   rcases he with rfl|rfl|rfl
   ·exact f0.node_ok w0
   ·exact f1.node_ok w1
   ·exact f2.node_ok w2
theorem KS [Rnd] {N:Nat} {s:AS} {box:List AV} {x:MX} (hx:x.ok) {a l:Int} (hs:s.h=[.cells 0 box,x.row a l,x.A2,x.A3,x.A4,x.A5]) (h4:s.get 4=.ptr 0 0 0) (h5:s.get 5=.ptr 1 0 0):∃ (ns:List (List AV)) (Y Z:ARow),ns.length≤3∧(∀ e∈ns,NodeV 13 e)∧
  Ref G0 N 0 s ⟨mkF [(4,.ptr 0 0 0),(5,.ptr 1 0 0)],[.cells 0 box,.cells 0 [b9 x.L,.int .i64 a,.int .i64 l,.int .i64 x.pk,.int .i64 x.pn,.int .i64 x.pm,.sl false ns,.int .i64 x.F,.bool x.con],.dead,.dead,Y,Z]⟩:=by
 obtain ⟨L,pk,pn,pm,F,kv,con,A2,A3,A4,A5⟩:=x
 obtain ⟨hL,hcn,hP⟩:=hx
 simp only at hP
 cases hP with
 |one f0 vP bP A B w0 hF _ _=>exact ⟨_,_,_,by simp,gP (f0.node_ok w0),S6 w0 hs h4 h5⟩
 |two f0 f1 vP bP B w0 w1 hF _=>exact ⟨_,_,_,by simp,fun e he=>(gF (f0.node_ok w0) (f1.node_ok w1) e he).up (by decide),S5 w0 w1 hs h4 h5⟩
 |three f0 f1 f2 vP bP w0 w1 w2 hF=>exact ⟨_,_,_,by simp,fun e he=>(dB (f0.node_ok w0) (f1.node_ok w1) (f2.node_ok w2) e he).up (by decide),S4 w0 w1 w2 hs h4 h5⟩
end Go.Proofs.YtggflhbigolakaaGreatDoor
