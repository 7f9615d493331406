import Derived.Test.YtggflhbigolakaaGreatDoorAE
import Derived.Test.YtggflhbigolakaaGreatDoorN4
set_option linter.unusedVariables false
set_option linter.unusedSimpArgs false
namespace Go.Proofs.YtggflhbigolakaaGreatDoor
open Go.AM
attribute [local irreducible] AWp aY bC bI bU bW aN aS bL
set_option maxRecDepth 100000
theorem JY [Rnd] {k n:Nat} {H:List ARow} {base app:List (List AV)} {sz t:Nat} {s:AS} (l:List (Nat × AV)) (hk:k≤H.length) (hh:s.h=dO H base app) (ht:s.get t=gD base H.length sz app) (hsz:∀ e∈base++app,e.length=sz) (htr:inE aC (base++app)=true)
  (hl:kS l s.get) (hln:∀ p∈l,inR (fun r=>decide (r<H.length)) p.2=true) (hH:H.all (aG fun r=>decide (r<H.length))=true):Ref G0 n k s ⟨mkF ((t,.sl false (base++app))::l),H⟩:=by
 have hln':∀ p∈(t,AV.sl false (base++app))::l,inR (fun r=>decide (r<H.length)) p.2=true:=by
  intro p hp
  rcases List.mem_cons.1 hp with rfl|hp
  ·simp only [inR];exact pN (p:=aC) (fun r hr=>by cases hr) htr
  ·exact hln p hp
 by_cases ha:app=[]
 ·subst ha
  have h0:s.h=H:=by rw [hh];simp [dO]
  have:=dD (G:=G0) (n:=n) (k:=k) (s:=s) [] ((t,.sl false (base++[]))::l) (jX [] 0 s.h) (by simp) ⟨.inr (by rw [ht,iS,List.append_nil];rw [List.append_nil] at htr;exact .full htr),jW hl⟩ (jV 0 s.h fun i hi _=>by cases hi)
  rw [qP,h0] at this
  exact this
 ·have h0:s.h=H++[dT base app]:=by rw [hh,dO,if_neg ha]
  have hr:s.row H.length=dT base app:=by
   show s.h.getD H.length .none=_
   rw [h0];simp
  have h1:=dD (G:=G0) (n:=n) (k:=k) (s:=s) [H.length] ((t,.sl false (base++app))::l) (jX [H.length] 0 s.h) (by rw [h0];simp) ⟨.inr (by rw [ht];exact F1 (H:=H) (h:=s.h) hh hsz htr),jW hl⟩ (jV 0 s.h fun i hi _=>by
   have hi:i=H.length:=by simpa using hi
   subst hi
   show s.row H.length≠.none
   rw [hr];simp [dT])
  rw [h0,oL (by simp)] at h1
  have h2:=JX (G:=G0) (n:=n) (k:=k) (l:=(t,.sl false (base++app))::l) (h:=H++jX [H.length] (0+H.length) [dT base app]) H.length hk hG0 hln' (by rw [List.take_left];exact hH)
  rw [List.take_left] at h2
  exact h1.trans h2
theorem HW {rows:Nat→ARow} {r:Nat} {a b:ARow}:upd (upd rows [(r,a)]) [(r,b)]=upd rows [(r,b)]:=by
 funext i
 simp only [eE]
 split<;>rfl
theorem LM {P:Program} {G:Nat→Option (List AV)} {n:Nat} {K:Option Acc→AS→Prop} {d:Option Tmp} {rest:List POp} {m:Option Acc} {fp:List Nat} {s:AS} {t u:TypeId} {sz by':Nat} {x:AV} {rows:Nat→ARow} {nb q:Nat} {e:List AV} {base app:List (List AV)} {H:List ARow} {h:List ARow} (hq:H.length=q) (ht:rY P t u=some (sz,by')) (hh:h=dO H base app) (hrows:rows=fun r=>h.getD r .none) (hnb:nb=h.length)
  (hsz:∀ e∈base++app,e.length=sz) (hs:cJ sz x rows=some (1,e)) (hb:(base.length+app.length+1)*(by'+1)≤140737488355328)
  (hk:aY P G n K rest (adv m fp [q]) ((s.wr [(q,dT base (app++[e]))]).put d (gD base q sz (app++[e])))):bU P G n K d rest m fp s (dN P t u (gD base q sz app) x rows nb):=by
 subst hq
 exact sK ht hh hrows hnb hsz hs hb hk
theorem G9 {H:List ARow} {q:Nat} (hq:H.length=q) (base app:List (List AV)) (e:List AV):d7 (dO H base app) q (dT base (app++[e]))=dO H base (app++[e]):=by
 subst hq
 exact j6 H base app e
theorem G8 {H:List ARow} {base:List (List AV)}:dO H base []=H:=by simp [dO]
theorem KM (k n:Int):NodeV 1 [.int .i64 k,.int .i64 n,.int .i64 0,.sl true []]:=RV _ _ _ _
def sq (x:MX) (q:Nat) (y:ARow):MX:=⟨x.L,x.pk,x.pn,x.pm,x.F,x.kv,x.con,if q=2 then y else x.A2,x.A3,if q=4 then y else x.A4,if q=5 then y else x.A5⟩
def frv (x:MX) (a l:Int):List ARow:=[.dead,x.row a l,x.A2,x.A3,x.A4,x.A5]
def BS (q:Nat):Prop:=q=2∨q=4∨q=5
section
variable {x:MX} {q:Nat} {y z:ARow} {a l a' l':Int}
theorem eA (hq:BS q):(frv (sq x q y) a l).getD q .none=y:=by rcases hq with rfl|rfl|rfl<;>rfl
theorem d9 {rows:Nat→ARow} (hq:BS q):upd rows [(1,y)] q=rows q:=by rw [eE,if_neg (by rcases hq with rfl|rfl|rfl<;>decide)]
theorem cA (hq:BS q):d7 (frv (sq x q y) a l) q z=frv (sq x q z) a l:=by rcases hq with rfl|rfl|rfl<;>rfl
theorem b6:d7 (frv x a l) 1 (x.row a' l')=frv x a' l':=rfl
theorem eB:(frv x a l).getD 1 .none=x.row a l:=rfl
theorem b4:(frv x a l).length=6:=rfl
theorem iT {b k:List (List AV)}:d7 (dO (frv x a l) b k) 1 (x.row a' l')=dO (frv x a' l') b k:=by rw [iA (by rw [b4];decide),b6]
theorem M0 {b k:List (List AV)} {r:Nat} (h:r<6):(dO (frv x a l) b k).getD r .none=(frv x a l).getD r .none:=cN _ _ _ (by rw [b4];exact h)
theorem kL {b k:List (List AV)} {fr:List AV}:MR x (AS.row ⟨fr,dO (frv x a l) b k⟩) a l:=⟨M0 (by decide),M0 (by decide),M0 (by decide),M0 (by decide),M0 (by decide)⟩
theorem kK {b k:List (List AV)} {fr:List AV} {a' l':Int}:MR x (upd (AS.row ⟨fr,dO (frv x a l) b k⟩) [(1,x.row a' l')]) a' l':=by
 rw [sA (by rw [b4];decide),b6];exact kL (fr:=fr)
theorem kJ {b k:List (List AV)} {fr:List AV} {a' l':Int}:MR x (AS.row ⟨fr,d7 (dO (frv x a l) b k) 1 (x.row a' l')⟩) a' l':=by
 rw [iT];exact kL (fr:=fr)
theorem JI (hx:x.frame) (hy:aG nQ y=true):(sq x q y).frame:=by
 refine ⟨hx.L,hx.kv,?_,hx.r3,?_,?_⟩<;>simp only [sq]<;>split<;>first|exact hy|exact hx.r2|exact hx.r4|exact hx.r5
theorem MM {rows:Nat→ARow} (hq:BS q) (hr:MR x rows a l) (hn:rows q=.none):sq x q .none=x:=by
 obtain ⟨_,h2,_,h4,h5⟩:=hr
 obtain ⟨L,pk,pn,pm,F,kv,con,A2,A3,A4,A5⟩:=x
 simp only at h2 h4 h5
 rcases hq with rfl|rfl|rfl
 ·rw [hn] at h2;subst h2;rfl
 ·rw [hn] at h4;subst h4;rfl
 ·rw [hn] at h5;subst h5;rfl
theorem QC (hx:x.frame):(frv x a l).all (aG fun r=>decide (r<(frv x a l).length))=true:=by
 have h:∀ y,aG nQ y=true→aG (fun r=>decide (r<6)) y=true:=fun y hy=>cY (kT (by omega)) hy
 simp only [frv,List.all_cons,List.all_nil,Bool.and_true,List.length_cons,List.length_nil,Nat.reduceAdd,Bool.and_eq_true]
 exact ⟨rfl,h _ (hx.row a l),h _ hx.r2,h _ hx.r3,h _ hx.r4,h _ hx.r5⟩
theorem QB {s:AS} (hx:x.frame):ToH s [] (fun r=>decide (r<6)) 0 (frv x a l) (frv x a l):=by
 have h:∀ y,aG nQ y=true→aG (fun r=>decide (r<6)) y=true:=fun y hy=>cY (kT (by omega)) hy
 have hf:∀ (r:Nat) (y:ARow),iU s.row [] r y y:=fun r y=>.inr ⟨.inl (by simp),.inl rfl⟩
 simp only [frv,ToH,and_true]
 exact ⟨.inr ⟨rfl,rfl,hf _ _⟩,.inr ⟨rfl,h _ (hx.row a l),hf _ _⟩,.inr ⟨rfl,h _ hx.r2,hf _ _⟩,.inr ⟨rfl,h _ hx.r3,hf _ _⟩,.inr ⟨rfl,h _ hx.r4,hf _ _⟩,.inr ⟨rfl,h _ hx.r5,hf _ _⟩⟩
theorem LB {rows:Nat→ARow} {a1 l1:Int} (hx:x.frame) (hq:BS q) (hr:MR x rows a l) (hy:aG nQ y=true):∀ r∈([1,2,3,4,5]:List Nat),(frv (sq x q y) a1 l1).getD r .none=upd rows [(1,x.row a1 l1),(q,y)] r∧aG (fun r=>([1,2,3,4,5]:List Nat).contains r) ((frv (sq x q y) a1 l1).getD r .none)=true:=by
 have hf:=JI (q:=q) hx hy
 obtain ⟨h1,h2,h3,h4,h5⟩:=hr
 intro r hm
 simp only [List.mem_cons,List.not_mem_nil,or_false] at hm
 rw [zM]
 rcases hm with rfl|rfl|rfl|rfl|rfl
 ·exact ⟨by rcases hq with rfl|rfl|rfl<;>rfl,hf.row a1 l1⟩
 ·exact ⟨by rcases hq with rfl|rfl|rfl<;>simp [frv,sq,h2],hf.r2⟩
 ·exact ⟨by rcases hq with rfl|rfl|rfl<;>simp [frv,sq,h3],hf.r3⟩
 ·exact ⟨by rcases hq with rfl|rfl|rfl<;>simp [frv,sq,h4],hf.r4⟩
 ·exact ⟨by rcases hq with rfl|rfl|rfl<;>simp [frv,sq,h5],hf.r5⟩
end
theorem pT {P:Program} {G:Nat→Option (List AV)} {n:Nat} {K:Option Acc→AS→Prop} {d:Option Tmp} {rest:List POp} {m:Option Acc} {fp:List Nat} {s:AS} {t u:TypeId} {sz by':Nat} {x:AV} {rows:Nat→ARow} {nb:Nat} {e:List AV} {r:Nat} {app:List (List AV)} (ht:rY P t u=some (sz,by')) (hr:rows r=rvR (app.length - 1) app) (hsz:∀ e∈app,e.length=sz) (hs:cJ sz x rows=some (1,e)) (hb:(app.length+1)*(by'+1)≤140737488355328)
  (hk:aY P G n K rest (adv m fp [r]) ((s.wr [(r,rvR app.length (app++[e]))]).put d (rv r app.length sz (app++[e])))):bU P G n K d rest m fp s (dN P t u (rv r (app.length - 1) sz app) x rows nb):=by
 refine b8 (es:=[e]) (v':=app.length) ht hr ?_ hsz (by simpa using hs) (by simp) (by simpa using hb) hk
 by_cases ha:app=[]
 ·subst ha;rfl
 ·rw [if_neg ha]
  have:app.length≠0:=by simpa using ha
  omega
theorem JR {d v:Nat} {app:List (List AV)} (h:∀ e∈app,NodeV d e):aG nQ (rvR v app)=true:=bQ (aA (cZ h))
end Go.Proofs.YtggflhbigolakaaGreatDoor
