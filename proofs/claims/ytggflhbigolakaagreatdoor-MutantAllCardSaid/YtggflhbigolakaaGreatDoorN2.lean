import Derived.Test.YtggflhbigolakaaGreatDoorN1
import Derived.Test.YtggflhbigolakaaGreatDoorAE
namespace Go.Proofs.YtggflhbigolakaaGreatDoor
open Go.AM
attribute [local irreducible] cG bG bI bL bW bZ aQ aV bN
set_option maxRecDepth 100000
theorem GJ {ks:List (List AV)} (h:∀ e∈ks,e.length=4):∀ {j:Nat} {e:List AV},ks[j]? =some e->ks.flatten.drop (j*4)=e++ks.flatten.drop ((j+1)*4):=by
 induction ks with
 |nil=>intro j e he;simp at he
 |cons a ks ih=>
  intro j e he
  have ha:a.length=4:=h a (by simp)
  cases j with
  |zero=>
   simp only [fw,ao] at he
   subst he
   simp only [cw,Nat.zero_mul,co,cp,Nat.one_mul]
   rw [List.drop_left' ha]
  |succ j=>
   simp only [gt] at he
   have:=ih (fun e he=>h e (by simp [he])) he
   simp only [cw]
   rw [show (j+1)*4=a.length+j*4 by omega,show (j+1+1)*4=a.length+(j+1)*4 by omega,List.drop_append,List.drop_append,@dz _ a _ (by omega),@dz _ a _ (by omega),Nat.add_sub_cancel_left,Nat.add_sub_cancel_left,ba,ba]
   exact this
theorem UY {f:Fn} (hf:f.wf) {j:Nat} (hj:j<f.q+1):∃ k n m b es tl,f.ks[j]? =some [.int .i64 k,.int .i64 n,.int .i64 m,.sl b es]/\es.length<=6/\(∀ e∈es,NodeV 12 e)/\f.ks.flatten.drop (j*4)=.int .i64 k::.int .i64 n::.int .i64 m::.sl b es::tl:=by
 obtain ⟨e,he⟩:∃ e,f.ks[j]? =some e:=⟨_,ah (by rw [hf.1];exact hj)⟩
 have h:=hf.2.2.2 e (aj he)
 have:=GJ (fun e he=>(hf.2.2.2 e he).len) he
 cases h with
 | @mk _ _ h' k n m b es hl hn=>exact ⟨k,n,m,b,es,_,he,hl,fun e he=>(hn e he).up (Nat.le_of_lt h'),by simpa using this⟩
theorem OR {a:Int} {q:Nat} (ha:0<=a) (hq:0<q):∃ j:Nat,a.tmod q=(j:Int)/\j<q:=by
 obtain ⟨n,rfl⟩:∃ n:Nat,a=n:=⟨a.toNat,(dc ha).symm⟩
 exact ⟨n % q,by rw [Int.tmod_eq_emod_of_nonneg (by omega)];simp,Nat.mod_lt _ hq⟩
def t7 (x:MX) (r:Nat) (f:Fn):Prop:=(r=2/\x.A2=f.row)\/(r=4/\x.A4=f.row)\/(r=5/\x.A5=f.row)
def ZQ (x:MX) (r:Nat) (f:Fn):Prop:=∀ rows at0 left,MR x rows at0 left->c8 Tryz.prog G0 142 [.agg [.int .i64 x.pk,.int .i64 x.pn,.int .i64 x.pm,x.kv],.int .i64 x.F] rows [1,2,3,4,5] ⟨.osl r f.v 0 f.q 4 false,[]⟩
def aBn (x:MX) (r:Nat) (f:Fn):Prop:=f.wf/\t7 x r f/\ZQ x r f
theorem OA {x:MX} {r:Nat} {f:Fn} (h:t7 x r f) (Z Y:ARow):[Y,Z,x.A2,x.A3,x.A4,x.A5].getD r .none=f.row:=by
 rcases h with ⟨rfl,h⟩|⟨rfl,h⟩|⟨rfl,h⟩<;>exact h
theorem aAJ {x:MX} {r:Nat} {f:Fn} (h:t7 x r f):(r=1)=False:=by
 rcases h with ⟨rfl,h⟩|⟨rfl,h⟩|⟨rfl,h⟩<;>simp
theorem JR:∀ {H ys:List ARow} {r:Nat} {y:ARow},r<H.length->eD (H++ys) r y=eD H r y++ys
 | [],_,_,_,h=>by cases h
 |a::H,ys,0,y,_=>rfl
 |a::H,ys,r+1,y,h=>by simp only [ar,eD];rw [JR (by simpa using h)]
theorem kN {H:List ARow} {base app:List (List AV)} {r:Nat} {y:ARow} (h:r<H.length):eD (eF H base app) r y=eF (eD H r y) base app:=by
 unfold eF
 split
 .rfl
 .exact JR h
theorem wM {fr:List AV} {H:List ARow} {base app:List (List AV)} {r:Nat} {y:ARow} (h:r<H.length):upd (AS.row ⟨fr,eF H base app⟩) [(r,y)]=fun i=>(eF (eD H r y) base app).getD i .none:=by
 rw [<- kN h]
 funext i
 rw [qJ,fC]
 rfl
theorem rZ {m:Nat}:∀ {k:Nat} {xs ys:List ARow},k+xs.length<=m->lW [m] k (xs++ys)=xs++lW [m] (k+xs.length) ys
 |k,[],ys,_=>by simp
 |k,a::xs,ys,h=>by
  simp only [af] at h
  simp only [ar,lW,af]
  rw [rZ (by omega),if_neg (by simp;omega),show k+1+xs.length=k+(xs.length+1) by omega]
theorem uZ:∀ {k:Nat} {xs:List ARow},lW [] k xs=xs
 |_,[]=>rfl
 |k,a::xs=>by simp only [lW];rw [uZ];simp
theorem OI [i6] {k n:Nat} {H:List ARow} {app:List (List AV)} {sz t:Nat} {s:AS} (l:List (Nat × AV)) (hk:k<=H.length) (hh:s.h=eF H [] app) (ht:s.get t=hU [] H.length sz app) (hsz:∀ e∈app,e.length=sz) (htr:cQ aE app=true)
  (hl:mG l s.get) (hln:∀ p∈l,aI (fun r=>decide (r<H.length)) p.2=true) (hH:H.all (aG fun r=>decide (r<H.length))=true):Ref G0 n k s ⟨eJ ((t,.sl false app)::l),H⟩:=by
 have hln':∀ p∈(t,AV.sl false app)::l,aI (fun r=>decide (r<H.length)) p.2=true:=by
  intro p hp
  rcases bn.1 hp with rfl|hp
  .simp only [aI];exact aB htr
  .exact hln p hp
 by_cases ha:app=[]
 .subst ha
  have h0:s.h=H:=by rw [hh];simp [eF]
  have:=d7 (G:=G0) (n:=n) (k:=k) (s:=s) [] ((t,.sl false [])::l) (lW [] 0 s.h) (by simp) ⟨.inr (by rw [ht,m7];exact .full rfl),kK hl⟩ (kJ 0 s.h fun i hi _=>by cases hi)
  rw [uZ,h0] at this
  exact this
 .have h0:s.h=H++[dQ [] app]:=by rw [hh,eF,if_neg ha]
  have hr:s.row H.length=dQ [] app:=by
   show s.h.getD H.length .none=_
   rw [h0];simp
  have h1:=d7 (G:=G0) (n:=n) (k:=k) (s:=s) [H.length] ((t,.sl false app)::l) (lW [H.length] 0 s.h) (by rw [h0];simp) ⟨.inr (by rw [ht];simpa using LC (H:=H) (h:=s.h) hh (by simpa using hsz) (by simpa using htr)),kK hl⟩ (kJ 0 s.h fun i hi _=>by
   have hi:i=H.length:=by simpa using hi
   subst hi
   show s.row H.length≠.none
   rw [hr];simp [dQ])
  rw [h0,rZ (by simp)] at h1
  have h2:=M6 (G:=G0) (n:=n) (k:=k) (l:=(t,.sl false app)::l) (h:=H++lW [H.length] (0+H.length) [dQ [] app]) H.length hk bX hln' (by rw [jg];exact hH)
  rw [jg] at h2
  exact h1.trans h2
theorem PF {x:MX} (hx:x.frame) (a l:Int) (ext:List ARow) (m:Nat) (hm:6<=m) (hext:ext.all (aG fun r=>decide (r<m))=true):([.dead,x.row a l,x.A2,x.A3,x.A4,x.A5]++ext).all (aG fun r=>decide (r<m))=true:=by
 have hcon:=gZ hm
 simp only [List.all_append,bg,bz,ab,ae]
 exact ⟨⟨rfl,bJ hcon (hx.row _ _),bJ hcon hx.r2,bJ hcon hx.r3,bJ hcon hx.r4,bJ hcon hx.r5⟩,hext⟩
theorem RK {p:Nat->Bool} {base app:List (List AV)} (h:cQ aE (base++app)=true):aG p (dQ base app)=true:=by
 simp only [dQ,aG]
 exact dK (eN (p:=aE) (fun r hr=>by cases hr) h)
theorem TI [i6] {k n:Nat} {H:List ARow} {base app:List (List AV)} {sz t:Nat} {s:AS} (l:List (Nat × AV)) (hk:k<=H.length) (hh:s.h=eF H base app) (ht:s.get t=hU base H.length sz app) (hsz:∀ e∈base++app,e.length=sz) (htr:cQ aE (base++app)=true)
  (hl:mG l s.get) (hln:∀ p∈l,aI (fun r=>decide (r<H.length)) p.2=true) (hH:H.all (aG fun r=>decide (r<H.length))=true):Ref G0 n k s ⟨eJ ((t,.sl false (base++app))::l),H⟩:=by
 have hln':∀ p∈(t,AV.sl false (base++app))::l,aI (fun r=>decide (r<H.length)) p.2=true:=by
  intro p hp
  rcases bn.1 hp with rfl|hp
  .simp only [aI];exact eN (p:=aE) (fun r hr=>by cases hr) htr
  .exact hln p hp
 by_cases ha:app=[]
 .subst ha
  have h0:s.h=H:=by rw [hh];simp [eF]
  have:=d7 (G:=G0) (n:=n) (k:=k) (s:=s) [] ((t,.sl false (base++[]))::l) (lW [] 0 s.h) (by simp) ⟨.inr (by rw [ht,m7,br];rw [br] at htr;exact .full htr),kK hl⟩ (kJ 0 s.h fun i hi _=>by cases hi)
  rw [uZ,h0] at this
  exact this
 .have h0:s.h=H++[dQ base app]:=by rw [hh,eF,if_neg ha]
  have hr:s.row H.length=dQ base app:=by
   show s.h.getD H.length .none=_
   rw [h0];simp
  have h1:=d7 (G:=G0) (n:=n) (k:=k) (s:=s) [H.length] ((t,.sl false (base++app))::l) (lW [H.length] 0 s.h) (by rw [h0];simp) ⟨.inr (by rw [ht];exact LC (H:=H) (h:=s.h) hh hsz htr),kK hl⟩ (kJ 0 s.h fun i hi _=>by
   have hi:i=H.length:=by simpa using hi
   subst hi
   show s.row H.length≠.none
   rw [hr];simp [dQ])
  rw [h0,rZ (by simp)] at h1
  have h2:=M6 (G:=G0) (n:=n) (k:=k) (l:=(t,.sl false (base++app))::l) (h:=H++lW [H.length] (0+H.length) [dQ base app]) H.length hk bX hln' (by rw [jg];exact hH)
  rw [jg] at h2
  exact h1.trans h2
theorem QD {rows:Nat->ARow} {r:Nat} {a b:ARow}:upd (upd rows [(r,a)]) [(r,b)]=upd rows [(r,b)]:=by
 funext i
 simp only [fC]
 split<;>rfl
theorem VF {P:Program} {G:Nat->Option (List AV)} {n:Nat} {K:Option eV->AS->Prop} {d:Option Tmp} {rest:List nA} {m:Option eV} {fp:List Nat} {s:AS} {t u:TypeId} {sz by':Nat} {x:AV} {rows:Nat->ARow} {nb q:Nat} {e:List AV} {base app:List (List AV)} {H:List ARow} {h:List ARow} (hq:H.length=q) (ht:u3 P t u=some (sz,by')) (hh:h=eF H base app) (hrows:rows=fun r=>h.getD r .none) (hnb:nb=h.length)
  (hsz:∀ e∈base++app,e.length=sz) (hs:cW sz x rows=some (1,e)) (hb:(base.length+app.length+1)*(by'+1)<=140737488355328)
  (hk:bG P G n K rest (lM m fp [q]) ((s.wr [(q,dQ base (app++[e]))]).put d (hU base q sz (app++[e])))):bW P G n K d rest m fp s (eP P t u (hU base q sz app) x rows nb):=by
 subst hq
 exact wY ht hh hrows hnb hsz hs hb hk
theorem NJ {H:List ARow} {q:Nat} (hq:H.length=q) (base app:List (List AV)) (e:List AV):eD (eF H base app) q (dQ base (app++[e]))=eF H base (app++[e]):=by
 subst hq
 exact qQ H base app e
theorem NI {H:List ARow} {base:List (List AV)}:eF H base []=H:=by simp [eF]
theorem aCd (k n:Int):NodeV 1 [.int .i64 k,.int .i64 n,.int .i64 0,.sl true []]:=aCl _ _ _ _
def sq (x:MX) (q:Nat) (y:ARow):MX:=⟨x.L,x.pk,x.pn,x.pm,x.F,x.kv,x.con,if q=2 then y else x.A2,x.A3,if q=4 then y else x.A4,if q=5 then y else x.A5⟩
def oQ (x:MX) (a l:Int):List ARow:=[.dead,x.row a l,x.A2,x.A3,x.A4,x.A5]
def H9 (q:Nat):Prop:=q=2\/q=4\/q=5
section
variable {x:MX} {q:Nat} {y z:ARow} {a l a' l':Int}
theorem dW (hq:H9 q):(oQ (sq x q y) a l).getD q .none=y:=by rcases hq with rfl|rfl|rfl<;>rfl
theorem dU {rows:Nat->ARow} (hq:H9 q):upd rows [(1,y)] q=rows q:=by rw [fC,if_neg (by rcases hq with rfl|rfl|rfl<;>decide)]
theorem cD (hq:H9 q):eD (oQ (sq x q y) a l) q z=oQ (sq x q z) a l:=by rcases hq with rfl|rfl|rfl<;>rfl
theorem b8:eD (oQ x a l) 1 (x.row a' l')=oQ x a' l':=rfl
theorem dX:(oQ x a l).getD 1 .none=x.row a l:=rfl
theorem b9:(oQ x a l).length=6:=rfl
theorem dY {b k:List (List AV)}:eD (eF (oQ x a l) b k) 1 (x.row a' l')=eF (oQ x a' l') b k:=by rw [kN (by rw [b9];decide),b8]
theorem WC {b k:List (List AV)} {r:Nat} (h:r<6):(eF (oQ x a l) b k).getD r .none=(oQ x a l).getD r .none:=eO _ _ _ (by rw [b9];exact h)
theorem nQ {b k:List (List AV)} {fr:List AV}:MR x (AS.row ⟨fr,eF (oQ x a l) b k⟩) a l:=⟨WC (by decide),WC (by decide),WC (by decide),WC (by decide),WC (by decide)⟩
theorem nP {b k:List (List AV)} {fr:List AV} {a' l':Int}:MR x (upd (AS.row ⟨fr,eF (oQ x a l) b k⟩) [(1,x.row a' l')]) a' l':=by
 rw [wM (by rw [b9];decide),b8];exact nQ (fr:=fr)
theorem nO {b k:List (List AV)} {fr:List AV} {a' l':Int}:MR x (AS.row ⟨fr,eD (eF (oQ x a l) b k) 1 (x.row a' l')⟩) a' l':=by
 rw [dY];exact nQ (fr:=fr)
theorem T1 (hx:x.frame) (hy:aG mH y=true):(sq x q y).frame:=by
 refine ⟨hx.L,hx.kv,?_,hx.r3,?_,?_⟩<;>simp only [sq]<;>split<;>first|exact hy|exact hx.r2|exact hx.r4|exact hx.r5
theorem XH {rows:Nat->ARow} (hq:H9 q) (hr:MR x rows a l) (hn:rows q=.none):sq x q .none=x:=by
 obtain ⟨_,h2,_,h4,h5⟩:=hr
 obtain ⟨L,pk,pn,pm,F,kv,con,A2,A3,A4,A5⟩:=x
 simp only at h2 h4 h5
 rcases hq with rfl|rfl|rfl
 .rw [hn] at h2;subst h2;rfl
 .rw [hn] at h4;subst h4;rfl
 .rw [hn] at h5;subst h5;rfl
theorem aA3 (hx:x.frame):(oQ x a l).all (aG fun r=>decide (r<(oQ x a l).length))=true:=by
 have h:∀ y,aG mH y=true->aG (fun r=>decide (r<6)) y=true:=fun y hy=>bJ (gZ (by omega)) hy
 simp only [oQ,bg,bz,ab,af,ak,Nat.reduceAdd,ae]
 exact ⟨rfl,h _ (hx.row a l),h _ hx.r2,h _ hx.r3,h _ hx.r4,h _ hx.r5⟩
theorem aA2 {s:AS} (hx:x.frame):hY s [] (fun r=>decide (r<6)) 0 (oQ x a l) (oQ x a l):=by
 have h:∀ y,aG mH y=true->aG (fun r=>decide (r<6)) y=true:=fun y hy=>bJ (gZ (by omega)) hy
 have hf:∀ (r:Nat) (y:ARow),jW s.row [] r y y:=fun r y=>.inr ⟨.inl (by simp),.inl rfl⟩
 simp only [oQ,hY,and_true]
 exact ⟨.inr ⟨rfl,rfl,hf _ _⟩,.inr ⟨rfl,h _ (hx.row a l),hf _ _⟩,.inr ⟨rfl,h _ hx.r2,hf _ _⟩,.inr ⟨rfl,h _ hx.r3,hf _ _⟩,.inr ⟨rfl,h _ hx.r4,hf _ _⟩,.inr ⟨rfl,h _ hx.r5,hf _ _⟩⟩
theorem UX {rows:Nat->ARow} {a1 l1:Int} (hx:x.frame) (hq:H9 q) (hr:MR x rows a l) (hy:aG mH y=true):∀ r∈([1,2,3,4,5]:List Nat),(oQ (sq x q y) a1 l1).getD r .none=upd rows [(1,x.row a1 l1),(q,y)] r/\aG (fun r=>([1,2,3,4,5]:List Nat).contains r) ((oQ (sq x q y) a1 l1).getD r .none)=true:=by
 have hf:=T1 (q:=q) hx hy
 obtain ⟨h1,h2,h3,h4,h5⟩:=hr
 intro r hm
 replace hm:=aC hm
 rw [nF]
 rcases hm with rfl|rfl|rfl|rfl|rfl
 .exact ⟨by rcases hq with rfl|rfl|rfl<;>rfl,hf.row a1 l1⟩
 .exact ⟨by rcases hq with rfl|rfl|rfl<;>simp [oQ,sq,h2],hf.r2⟩
 .exact ⟨by rcases hq with rfl|rfl|rfl<;>simp [oQ,sq,h3],hf.r3⟩
 .exact ⟨by rcases hq with rfl|rfl|rfl<;>simp [oQ,sq,h4],hf.r4⟩
 .exact ⟨by rcases hq with rfl|rfl|rfl<;>simp [oQ,sq,h5],hf.r5⟩
end
theorem tQ {P:Program} {G:Nat->Option (List AV)} {n:Nat} {K:Option eV->AS->Prop} {d:Option Tmp} {rest:List nA} {m:Option eV} {fp:List Nat} {s:AS} {t u:TypeId} {sz by':Nat} {x:AV} {rows:Nat->ARow} {nb:Nat} {e:List AV} {r:Nat} {app:List (List AV)} (ht:u3 P t u=some (sz,by')) (hr:rows r=eX (app.length - 1) app) (hsz:∀ e∈app,e.length=sz) (hs:cW sz x rows=some (1,e)) (hb:(app.length+1)*(by'+1)<=140737488355328)
  (hk:bG P G n K rest (lM m fp [r]) ((s.wr [(r,eX app.length (app++[e]))]).put d (rv r app.length sz (app++[e])))):bW P G n K d rest m fp s (eP P t u (rv r (app.length - 1) sz app) x rows nb):=by
 refine cL (es:=[e]) (v':=app.length) ht hr ?_ hsz (by simpa using hs) (by simp) (by simpa using hb) hk
 by_cases ha:app=[]
 .subst ha;rfl
 .rw [if_neg ha]
  have:app.length≠0:=by simpa using ha
  omega
end Go.Proofs.YtggflhbigolakaaGreatDoor
