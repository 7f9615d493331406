import Derived.Test.YtggflhbigolakaaGreatDoorN2
import Derived.Test.YtggflhbigolakaaGreatDoorYU
namespace Go.Proofs.YtggflhbigolakaaGreatDoor
open Go.AM
attribute [local irreducible] cG bG bI bL bW bZ aQ aV bN
theorem FN [i6] {n k:Nat} {fr:List AV} {h:List ARow}:Ref G0 n k ⟨fr,h⟩ ⟨fr,h++[.dead]⟩:=fun E a i=>by
 have hx:Ext E (cZ E [h.length]):=uW
 refine ⟨cZ E [h.length],rfl,hx.toK k,⟨uV i.inv,?_,i.sz,fun t=>(i.tm t).agree (pL E _) (lB _),DefOK.of (E:=E) (E':=cZ E [h.length]) (ap _) hx.out hx.fresh i.df⟩⟩
 funext r
 have hr:E.rows r=h.getD r .none:=by rw [i.rows];rfl
 show (if r∈[h.length] then ARow.dead else E.rows r)=(h++[ARow.dead]).getD r .none
 rw [hr]
 simp only [bc]
 rcases Nat.lt_trichotomy r h.length with hlt|rfl|hgt
 .rw [if_neg (by simp;omega),eo hlt]
 .rw [if_pos (by simp)];simp
 .rw [if_neg (by simp;omega),d5 (by omega),d5 (by simp;omega)]
theorem PIs.withF {F:Int} {n vP:Nat} {bP:Bool} {a b c d:ARow} (h:PIs F (.osl 3 vP 0 n 4 bP) a b c d) (i:Nat) (hi:i<n):PIs i (.osl 3 vP 0 n 4 bP) a b c d:=by
 cases h with
 |one f0 vP bP A B h0 hF hA hB=>exact .one f0 vP bP _ _ h0 (by omega) hA hB
 |two f0 f1 vP bP B h0 h1 hF hB=>exact .two f0 f1 vP bP _ h0 h1 (by omega) hB
 |three f0 f1 f2 vP bP h0 h1 h2 hF=>exact .three f0 f1 f2 vP bP h0 h1 h2 (by omega)
def Fn.body (f:Fn) (c:List AV):Fn:=⟨f.v,f.b,f.p,f.q,f.ks.take f.q++[c]⟩
theorem Fn.body_wf {f:Fn} (h:f.wf) {c:List AV} (hc:NodeV 12 c):(f.body c).wf:=by
 obtain ⟨h1,h2,h3,h4⟩:=h
 refine ⟨by simp [Fn.body,h1],h2,h3,fun e he=>?_⟩
 rcases bo.1 he with he|he
 .exact h4 e (fx he)
 .rw [bd.1 he];exact hc
theorem Fn.body_row {f:Fn} (h:f.wf) {c:List AV} (hc:NodeV 12 c):gK f.ks.flatten (f.q*4) c=(f.body c).ks.flatten:=by
 obtain ⟨h1,h2,h3,h4⟩:=h
 have h5:∀ e∈f.ks,e.length=4:=fun e he=>(h4 e he).len
 have h6:(f.ks.take f.q).flatten.length=f.q*4:=by
  rw [dE (sz:=4) fun e he=>h5 e (fx he),cr,h1]
  congr 1;omega
 have h7:f.ks.flatten=(f.ks.take f.q).flatten++(f.ks.drop f.q).flatten:=by rw [<- ei,List.take_append_drop]
 have h8:f.ks.flatten.length=f.q*4+4:=by rw [dE h5,h1];omega
 unfold gK
 rw [dz (by rw [h8,hc.len];omega),br]
 simp only [Fn.body,ei,cw,ey,br]
 rw [h7,<- h6,jg]
def MX.setRow (x:MX) (r:Nat) (y:ARow):MX:=if r=2 then ⟨x.L,x.pk,x.pn,x.pm,x.F,x.kv,x.con,y,x.A3,x.A4,x.A5⟩ else if r=4 then ⟨x.L,x.pk,x.pn,x.pm,x.F,x.kv,x.con,x.A2,x.A3,y,x.A5⟩ else ⟨x.L,x.pk,x.pn,x.pm,x.F,x.kv,x.con,x.A2,x.A3,x.A4,y⟩
def Fn.node (f:Fn):List AV:=[.int .i64 26,.int .i64 f.p,.int .i64 0,.sl false f.ks]
theorem Fn.node_ok {f:Fn} (h:f.wf):NodeV 13 f.node:=.mk (hd:=by decide) _ _ _ _ _ (by have:=h.1;have:=h.2.2.1;omega) h.2.2.2
theorem Fn.lend {f:Fn} (h:f.wf) {rows:Nat->ARow} {fp:List Nat} {r:Nat} (hr:r∈fp) (hrow:rows r=f.row):Lend rows fp (.osl r f.v 0 (f.q+1) 4 f.b) (.sl false f.ks):=
 .osl (cs:=f.ks.flatten) hr (by simp [aU,hrow,Fn.row]) h.1 (fun e he=>(h.2.2.2 e he).len) (by rw [co,bx (by rw [dE (sz:=4) fun e he=>(h.2.2.2 e he).len,h.1];omega)]) (iG h.2.2.2)
theorem kI {f:Fn} (h:f.wf) {rows:Nat->ARow} {fp:List Nat} {r:Nat} (hr:r∈fp) (hrow:rows r=f.row) {xs ys:List AV} (hx:sE rows fp xs ys):sE rows fp (f.cells r++xs) (f.node++ys):=
 ⟨.inl rfl,.inl rfl,.inl rfl,.inr (f.lend h hr hrow),hx⟩
theorem aCv [i6] {N:Nat} {s:AS} {box:List AV} {L:List Int} {a l pk pn pm F:Int} {con:Bool} {vP:Nat} {bP:Bool} {f0:Fn} {A B:ARow} (w0:f0.wf) (hs:s.h=[.cells 0 box,.cells 0 [cY L,.int .i64 a,.int .i64 l,.int .i64 pk,.int .i64 pn,.int .i64 pm,.osl 3 vP 0 1 4 bP,.int .i64 F,.bool con],f0.row,.cells vP (f0.cells 2),A,B]) (h4:s.get 4=.ptr 0 0 0) (h5:s.get 5=.ptr 1 0 0):
  Ref G0 N 0 s ⟨eJ [(4,.ptr 0 0 0),(5,.ptr 1 0 0)],[.cells 0 box,.cells 0 [cY L,.int .i64 a,.int .i64 l,.int .i64 pk,.int .i64 pn,.int .i64 pm,.sl false [f0.node],.int .i64 F,.bool con],.dead,.dead,A,B]⟩:=by
 have e0:s.row=fun r=>([.cells 0 box,.cells 0 [cY L,.int .i64 a,.int .i64 l,.int .i64 pk,.int .i64 pn,.int .i64 pm,.osl 3 vP 0 1 4 bP,.int .i64 F,.bool con],f0.row,.cells vP (f0.cells 2),A,B]:List ARow).getD r .none:=by
  funext r
  show s.h.getD r .none=_
  rw [hs]
 have hl:dL s [2] [(4,.ptr 0 0 0),(5,.ptr 1 0 0)]:=⟨.inl h4.symm,.inl h5.symm,trivial⟩
 have h1:Ref G0 N 0 s ⟨eJ [(4,.ptr 0 0 0),(5,.ptr 1 0 0)],[.cells 0 box,.cells 0 [cY L,.int .i64 a,.int .i64 l,.int .i64 pk,.int .i64 pn,.int .i64 pm,.osl 3 vP 0 1 4 bP,.int .i64 F,.bool con],.dead,.cells vP (f0.node++[]),A,B]⟩:=by
  refine d7 [2] _ _ (by rw [hs];rfl) hl ?_
  rw [hs]
  refine ⟨.inr ⟨.inl (by decide),.inl rfl⟩,.inr ⟨.inl (by decide),.inl rfl⟩,.inl ⟨by decide,rfl,fun h=>by cases h⟩,.inr ⟨.inl (by decide),.inr ⟨vP,_,_,rfl,rfl,?_⟩⟩,.inr ⟨.inl (by decide),.inl rfl⟩,.inr ⟨.inl (by decide),.inl rfl⟩,trivial⟩
  show sE _ _ (f0.cells 2++[]) (f0.node++[])
  exact kI w0 (by decide) (by rw [e0];rfl) trivial
 refine h1.trans (d7 [3] _ _ rfl ⟨.inl rfl,.inl rfl,trivial⟩ ?_)
 refine ⟨.inr ⟨.inl (by decide),.inl rfl⟩,.inr ⟨.inl (by decide),.inr ⟨0,_,_,rfl,rfl,.inl rfl,.inl rfl,.inl rfl,.inl rfl,.inl rfl,.inl rfl,.inr (.osl (cs:=f0.node++[]) (by decide) (by simp [aU,pA]) rfl ?_ ?_ ?_),.inl rfl,.inl rfl,trivial⟩⟩,.inr ⟨.inl (by decide),.inl rfl⟩,.inl ⟨by decide,rfl,fun h=>by cases h⟩,.inr ⟨.inl (by decide),.inl rfl⟩,.inr ⟨.inl (by decide),.inl rfl⟩,trivial⟩
 .intro e he
  replace he:=aC he
  rcases he with rfl<;>rfl
 .rfl
 .exact iG fun e he=>by
   replace he:=aC he
   rcases he with rfl
   .exact f0.node_ok w0
theorem aCu [i6] {N:Nat} {s:AS} {box:List AV} {L:List Int} {a l pk pn pm F:Int} {con:Bool} {vP:Nat} {bP:Bool} {f0 f1:Fn} {B:ARow} (w0:f0.wf) (w1:f1.wf) (hs:s.h=[.cells 0 box,.cells 0 [cY L,.int .i64 a,.int .i64 l,.int .i64 pk,.int .i64 pn,.int .i64 pm,.osl 3 vP 0 2 4 bP,.int .i64 F,.bool con],f0.row,.cells vP (f0.cells 2++f1.cells 4),f1.row,B]) (h4:s.get 4=.ptr 0 0 0) (h5:s.get 5=.ptr 1 0 0):
  Ref G0 N 0 s ⟨eJ [(4,.ptr 0 0 0),(5,.ptr 1 0 0)],[.cells 0 box,.cells 0 [cY L,.int .i64 a,.int .i64 l,.int .i64 pk,.int .i64 pn,.int .i64 pm,.sl false [f0.node,f1.node],.int .i64 F,.bool con],.dead,.dead,.dead,B]⟩:=by
 have e0:s.row=fun r=>([.cells 0 box,.cells 0 [cY L,.int .i64 a,.int .i64 l,.int .i64 pk,.int .i64 pn,.int .i64 pm,.osl 3 vP 0 2 4 bP,.int .i64 F,.bool con],f0.row,.cells vP (f0.cells 2++f1.cells 4),f1.row,B]:List ARow).getD r .none:=by
  funext r
  show s.h.getD r .none=_
  rw [hs]
 have hl:dL s [2,4] [(4,.ptr 0 0 0),(5,.ptr 1 0 0)]:=⟨.inl h4.symm,.inl h5.symm,trivial⟩
 have h1:Ref G0 N 0 s ⟨eJ [(4,.ptr 0 0 0),(5,.ptr 1 0 0)],[.cells 0 box,.cells 0 [cY L,.int .i64 a,.int .i64 l,.int .i64 pk,.int .i64 pn,.int .i64 pm,.osl 3 vP 0 2 4 bP,.int .i64 F,.bool con],.dead,.cells vP (f0.node++(f1.node++[])),.dead,B]⟩:=by
  refine d7 [2,4] _ _ (by rw [hs];rfl) hl ?_
  rw [hs]
  refine ⟨.inr ⟨.inl (by decide),.inl rfl⟩,.inr ⟨.inl (by decide),.inl rfl⟩,.inl ⟨by decide,rfl,fun h=>by cases h⟩,.inr ⟨.inl (by decide),.inr ⟨vP,_,_,rfl,rfl,?_⟩⟩,.inl ⟨by decide,rfl,fun h=>by cases h⟩,.inr ⟨.inl (by decide),.inl rfl⟩,trivial⟩
  show sE _ _ (f0.cells 2++(f1.cells 4++[])) (f0.node++(f1.node++[]))
  exact kI w0 (by decide) (by rw [e0];rfl) (kI w1 (by decide) (by rw [e0];rfl) trivial)
 refine h1.trans (d7 [3] _ _ rfl ⟨.inl rfl,.inl rfl,trivial⟩ ?_)
 refine ⟨.inr ⟨.inl (by decide),.inl rfl⟩,.inr ⟨.inl (by decide),.inr ⟨0,_,_,rfl,rfl,.inl rfl,.inl rfl,.inl rfl,.inl rfl,.inl rfl,.inl rfl,.inr (.osl (cs:=f0.node++(f1.node++[])) (by decide) (by simp [aU,pA]) rfl ?_ ?_ ?_),.inl rfl,.inl rfl,trivial⟩⟩,.inr ⟨.inl (by decide),.inl rfl⟩,.inl ⟨by decide,rfl,fun h=>by cases h⟩,.inr ⟨.inl (by decide),.inl rfl⟩,.inr ⟨.inl (by decide),.inl rfl⟩,trivial⟩
 .intro e he
  replace he:=aC he
  rcases he with rfl|rfl<;>rfl
 .rfl
 .exact iG fun e he=>by
   replace he:=aC he
   rcases he with rfl|rfl
   .exact f0.node_ok w0
   .exact f1.node_ok w1
theorem aCt [i6] {N:Nat} {s:AS} {box:List AV} {L:List Int} {a l pk pn pm F:Int} {con:Bool} {vP:Nat} {bP:Bool} {f0 f1 f2:Fn} (w0:f0.wf) (w1:f1.wf) (w2:f2.wf) (hs:s.h=[.cells 0 box,.cells 0 [cY L,.int .i64 a,.int .i64 l,.int .i64 pk,.int .i64 pn,.int .i64 pm,.osl 3 vP 0 3 4 bP,.int .i64 F,.bool con],f0.row,.cells vP (f0.cells 2++(f1.cells 4++f2.cells 5)),f1.row,f2.row]) (h4:s.get 4=.ptr 0 0 0) (h5:s.get 5=.ptr 1 0 0):
  Ref G0 N 0 s ⟨eJ [(4,.ptr 0 0 0),(5,.ptr 1 0 0)],[.cells 0 box,.cells 0 [cY L,.int .i64 a,.int .i64 l,.int .i64 pk,.int .i64 pn,.int .i64 pm,.sl false [f0.node,f1.node,f2.node],.int .i64 F,.bool con],.dead,.dead,.dead,.dead]⟩:=by
 have e0:s.row=fun r=>([.cells 0 box,.cells 0 [cY L,.int .i64 a,.int .i64 l,.int .i64 pk,.int .i64 pn,.int .i64 pm,.osl 3 vP 0 3 4 bP,.int .i64 F,.bool con],f0.row,.cells vP (f0.cells 2++(f1.cells 4++f2.cells 5)),f1.row,f2.row]:List ARow).getD r .none:=by
  funext r
  show s.h.getD r .none=_
  rw [hs]
 have hl:dL s [2,4,5] [(4,.ptr 0 0 0),(5,.ptr 1 0 0)]:=⟨.inl h4.symm,.inl h5.symm,trivial⟩
 have h1:Ref G0 N 0 s ⟨eJ [(4,.ptr 0 0 0),(5,.ptr 1 0 0)],[.cells 0 box,.cells 0 [cY L,.int .i64 a,.int .i64 l,.int .i64 pk,.int .i64 pn,.int .i64 pm,.osl 3 vP 0 3 4 bP,.int .i64 F,.bool con],.dead,.cells vP (f0.node++(f1.node++(f2.node++[]))),.dead,.dead]⟩:=by
  refine d7 [2,4,5] _ _ (by rw [hs];rfl) hl ?_
  rw [hs]
  refine ⟨.inr ⟨.inl (by decide),.inl rfl⟩,.inr ⟨.inl (by decide),.inl rfl⟩,.inl ⟨by decide,rfl,fun h=>by cases h⟩,.inr ⟨.inl (by decide),.inr ⟨vP,_,_,rfl,rfl,?_⟩⟩,.inl ⟨by decide,rfl,fun h=>by cases h⟩,.inl ⟨by decide,rfl,fun h=>by cases h⟩,trivial⟩
  show sE _ _ (f0.cells 2++(f1.cells 4++(f2.cells 5++[]))) (f0.node++(f1.node++(f2.node++[])))
  exact kI w0 (by decide) (by rw [e0];rfl) (kI w1 (by decide) (by rw [e0];rfl) (kI w2 (by decide) (by rw [e0];rfl) trivial))
 refine h1.trans (d7 [3] _ _ rfl ⟨.inl rfl,.inl rfl,trivial⟩ ?_)
 refine ⟨.inr ⟨.inl (by decide),.inl rfl⟩,.inr ⟨.inl (by decide),.inr ⟨0,_,_,rfl,rfl,.inl rfl,.inl rfl,.inl rfl,.inl rfl,.inl rfl,.inl rfl,.inr (.osl (cs:=f0.node++(f1.node++(f2.node++[]))) (by decide) (by simp [aU,pA]) rfl ?_ ?_ ?_),.inl rfl,.inl rfl,trivial⟩⟩,.inr ⟨.inl (by decide),.inl rfl⟩,.inl ⟨by decide,rfl,fun h=>by cases h⟩,.inr ⟨.inl (by decide),.inl rfl⟩,.inr ⟨.inl (by decide),.inl rfl⟩,trivial⟩
 .intro e he
  replace he:=aC he
  rcases he with rfl|rfl|rfl<;>rfl
 .rfl
 .exact iG fun e he=>by
   replace he:=aC he
   rcases he with rfl|rfl|rfl
   .exact f0.node_ok w0
   .exact f1.node_ok w1
   .exact f2.node_ok w2
end Go.Proofs.YtggflhbigolakaaGreatDoor
