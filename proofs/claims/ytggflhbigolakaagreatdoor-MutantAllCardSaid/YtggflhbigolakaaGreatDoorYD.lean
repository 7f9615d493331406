import Derived.Test.YtggflhbigolakaaGreatDoorYC
set_option linter.unusedSimpArgs false
namespace Go.Proofs.YtggflhbigolakaaGreatDoor
open Go.AM
attribute [local irreducible] cG bG bI bL bW bZ aQ aV bN
set_option maxRecDepth 100000
namespace G7
def ops1:List Int:=[0,1,2,0,3,4,5,6,7,8,9,0]
def ops2:List Int:=[10,11,10,12,13]
def setM (t:T) (m:Int):T:=match t with
 | .mk k n _ es=>.mk k n m es
def two (ex:Int->Int->St->T × St) (op side depth:Int) (s:St):T × St:=match ex side (depth - 1) s with
 |(a,s2)=>match ex side (depth - 1) s2 with
  |(b,s3)=>nd 9 op [a,b] s3
def bin (e:Env) (ex:Int->Int->St->T × St) (kind depth:Int) (s:St):T × St:=
 if kind==0 then (match dr e 12 s with
  |(z,s1)=>two ex (ops1.getD z.toNat 0) 0 depth s1)
 else (match dr e 5 s with
  |(z,s1)=>if ops2.getD z.toNat 0 >= 12 then two ex (ops2.getD z.toNat 0) 1 depth s1 else two ex (ops2.getD z.toNat 0) 0 depth s1)
def exprS (e : Env) (ex : Int -> Int -> St -> T × St) (kind depth : Int) (s : St) : T × St :=
 if depth<=0 then leaf e kind s else if s.2<4 then leaf e kind s else match dr e 12 s with
 | (z, s1) => if z < 3 then leaf e kind s1
  else if z==3 then (match field e kind s1 with
   |((v,k),s2)=>if v >= 0 then (match nd 8 v [] s2 with
    |(t,s3)=>(setM t k,s3)) else bin e ex kind depth s2)
  else if (z==4&&kind==0) then (match pick e 2 s1 with
   |(v,s2)=>if v >= 0 then (match ex 0 (depth - 2) s2 with
    |(a,s3)=>nd 7 v [a] s3) else bin e ex kind depth s2)
  else if (z==5&&kind==0) then call e (fun kd s=>ex kd (depth - 1) s) 11 s1
  else if (z==6&&(e.con&&kind==0)) then (match dr e e.pn s1 with
   |(c,s2)=>nd 12 c [] s2)
  else if (decide (z<6)&&kind==1) then (match ex 1 (depth - 1) s1 with
   |(a,s2)=>nd 10 0 [a] s2)
  else bin e ex kind depth s1
def expr (e:Env):Nat->Int->Int->St->T × St
 |0,kind,_,s=>leaf e kind s
 |d+1,kind,depth,s=>exprS e (fun k dd s=>expr e d k dd s) kind depth s
end G7
theorem qG {x:MX} (hx:x.frame) (k n:Int) (b:Bool) (k1 n1 m1:Int) (es1:List T):rK x 125 [.int .i64 k,.int .i64 n,.sl b [[.int .i64 k1,.int .i64 n1,.int .i64 m1,.sl false (T.encs es1)]]] vT (G7.nd k n [.mk k1 n1 m1 es1]):=
 gN hx k n b _ [.mk k1 n1 m1 es1] (hZ [.mk k1 n1 m1 es1]) (T.encs_tree [.mk k1 n1 m1 es1])
theorem qF {x:MX} (hx:x.frame) (k n:Int) (b:Bool) (k1 n1 m1:Int) (es1:List T) (k2 n2 m2:Int) (es2:List T):rK x 125 [.int .i64 k,.int .i64 n,.sl b [[.int .i64 k1,.int .i64 n1,.int .i64 m1,.sl false (T.encs es1)],[.int .i64 k2,.int .i64 n2,.int .i64 m2,.sl false (T.encs es2)]]] vT (G7.nd k n [.mk k1 n1 m1 es1,.mk k2 n2 m2 es2]):=
 gN hx k n b _ [.mk k1 n1 m1 es1,.mk k2 n2 m2 es2] (hZ [.mk k1 n1 m1 es1,.mk k2 n2 m2 es2]) (T.encs_tree [.mk k1 n1 m1 es1,.mk k2 n2 m2 es2])
set_option maxHeartbeats 16000000 in
theorem V2 {x : MX} {e : G7.Env} {r : Nat} {f : Fn} (hx : x.ok) (h : EnvOK x e r f) (h' : NO x e) (kind depth : Int) (hd1 : -9223372036854775806 < depth) (hd2 : depth <= 9223372036854775807) (ex : Int -> Int -> St -> T × St) (hE : 0 < depth -> ∀ kd dd : Int, (dd = depth - 1 \/ dd = depth - 2) -> rK x 134 [.int .i64 kd, .int .i64 dd] vT (ex kd dd)) : rK x 134 [.int .i64 kind, .int .i64 depth] vT (G7.exprS e ex kind depth) := by
 have e1:IntKind.i64.wrap (depth - 1)=depth - 1:=bC (by omega) (by omega)
 have e2:IntKind.i64.wrap (depth - 2)=depth - 2:=bC (by omega) (by omega)
 have hcp:x.con=true->0<x.pn:=hx.2.1
 have d0:True:=trivial
 have d1:True:=trivial
 have t0:True:=trivial
 have hF:True:=trivial
 have hg:True:=trivial
 refine eC hx.fr Tryz.func134 rfl (by kernel_rfl) (by simp [Tryz.ntmps134]) rfl fun at0 left=>?_
 simp only [Tryz.ntmps134,aK,Nat.reduceAdd,MX.row]
 refine cR fun K0 hK0=>?_
 replace hK0:=aa trivial hK0
 repeat' (first|(refine cC ?_;simp only [wS,simprocAttr,MX.row])|refine aH|fail)
 refine hK0.2.go ?_
 refine cR fun K1 hK1=>?_
 replace hK1:=aa trivial hK1
 by_cases hpos:0<depth
 .have hdp : decide (depth <= 0) = false := by simp; omega
  have hdp':¬ depth<=0:=by omega
  replace hF:=aa hF hdp'
  repeat' (first|(refine cC ?_;simp only [wS,simprocAttr,MX.row,vI,vT,vF,T.enc,e1,e2,t0,d0,d1,hdp])|refine aH|(refine aW (MT hx h _) _ _ (cH hg) ?_;rintro ⟨k1,n1,m1,es1⟩ a1 l1 he;replace hF:=aa hF he;simp only [wS,simprocAttr,MX.row,vI,vT,vF,T.enc,e1,e2,t0,d0,d1])|(with_reducible refine aa (fun hg=>?_) (fun hg=>?_)<;>((try simp only [decide_eq_true_eq,decide_eq_false_iff_not] at hg);replace hF:=aa hF hg))|with_reducible refine aa (by kernel_rfl) ?_)
  .refine eM (x:=x) (at0:=at0) (left:=left) (val:=vT) (g:=G7.exprS e ex kind depth) rfl (by simp only [wS,simprocAttr,MX.row];try exact rfl) (cH hg) ?_ (by simp only [G7.exprS,simprocAttr,<- h'.pn,<- h'.con,hg,ax,ab,da,ac,dl,G7.setM,decide_false,decide_true,hF,if_true,if_false,aw];exact rfl) ?_
   all_goals first|exact .inl rfl|(simp only [aI,aP,T.encs_tree,ai])
  .refine hK1.2.go ?_
   refine cR fun K2 hK2=>?_
   replace hK2:=aa trivial hK2
   repeat' (first|(refine cC ?_;simp only [wS,simprocAttr,MX.row])|refine aH|fail)
   refine aW (dT h.L hx.fr 12 (by decide)) at0 left bS ?_
   rintro z a1 l1 hz
   obtain ⟨hz1,hz2⟩:=G7.dr_b (by decide) hz
   replace hF:=aa hF hz
   simp only [wS,simprocAttr,MX.row,vI]
   repeat' (first|(refine cC ?_;simp only [wS,simprocAttr,MX.row])|refine aH|fail)
   refine hK2.2.go ?_
   refine cR fun K3 hK3=>?_
   replace hK3:=aa trivial hK3
   have key : ∀ (a l : Int) (s : AS), G7.exprS e ex kind depth (at0, left) = G7.bin e ex kind depth (a, l) -> Ref G0 161 6 s ⟨eJ [(0, .ptr 1 0 0), (1, .int .i64 kind), (2, .int .i64 depth), (6, .ptr 6 0 0)], [.dead, x.row a l, x.A2, x.A3, x.A4, x.A5, .cells 0 [.int .i64 0, .int .i64 0, .int .i64 0, .sl true []]]⟩ -> K3 s := by
    intro a l s hgo hr
    refine hK3.2.go (cK hr ?_)
    have hF:True:=trivial
    have hk:kind=0\/kind=1\/(kind≠0/\kind≠1):=by omega
    have d0:True:=trivial
    have d1:True:=trivial
    rcases hk with rfl|rfl|⟨hk0,hk1⟩
    all_goals first
     | (have d0 : (kind == 0) = false := by simp [hk0]
        have d1:(kind==1)=false:=by simp [hk1]
        replace hF:=aa hF (aa d0 d1))
     |skip
    all_goals repeat' (first|(refine cC ?_;simp only [wS,simprocAttr,MX.row,vI,vT,vF,T.enc,e1,e2,t0,d0,d1])|refine aH|(refine aW (dT h.L hx.fr 12 (by decide)) _ _ (cH hg) ?_;rintro z a1 l1 he;replace hF:=aa hF he;obtain ⟨hz1,hz2⟩:=G7.dr_b (by decide) he;obtain ⟨j,rfl⟩:∃ j:Nat,z=j:=⟨z.toNat,(dc hz1).symm⟩;obtain ⟨y,t0,hy⟩:=aAh (l:=G7.ops1) (j:=j) (Int.ofNat_lt.1 hz2);replace hF:=aa hF hy;simp only [G7.ops1,ay,bu] at t0;refine gR ?_)|(refine aW (dT h.L hx.fr 5 (by decide)) _ _ (cH hg) ?_;rintro z a1 l1 he;replace hF:=aa hF he;obtain ⟨hz1,hz2⟩:=G7.dr_b (by decide) he;obtain ⟨j,rfl⟩:∃ j:Nat,z=j:=⟨z.toNat,(dc hz1).symm⟩;obtain ⟨y,t0,hy⟩:=aAh (l:=G7.ops2) (j:=j) (Int.ofNat_lt.1 hz2);replace hF:=aa hF hy;simp only [G7.ops2,ay,bu] at t0;refine gR ?_)|(refine aW (hE hpos _ _ (by first|exact .inl rfl|exact .inr rfl)) _ _ (cH hg) ?_;rintro ⟨k1,n1,m1,es1⟩ a1 l1 he;replace hF:=aa hF he;refine gR ?_)|(refine aW (gN hx.fr _ _ _ _ [] rfl rfl) _ _ (cH hg) ?_;rintro ⟨k1,n1,m1,es1⟩ a1 l1 he;replace hF:=aa hF he;simp only [wS,simprocAttr,MX.row,vI,vT,vF,T.enc,e1,e2])|(refine aW (qG hx.fr _ _ _ _ _ _ _) _ _ (cH hg) ?_;rintro ⟨k1,n1,m1,es1⟩ a1 l1 he;replace hF:=aa hF he;simp only [wS,simprocAttr,MX.row,vI,vT,vF,T.enc,e1,e2])|(refine aW (qF hx.fr _ _ _ _ _ _ _ _ _ _ _) _ _ (cH hg) ?_;rintro ⟨k1,n1,m1,es1⟩ a1 l1 he;replace hF:=aa hF he;simp only [wS,simprocAttr,MX.row,vI,vT,vF,T.enc,e1,e2])|(with_reducible refine aa (fun hg=>?_) (fun hg=>?_)<;>((try simp only [decide_eq_true_eq,decide_eq_false_iff_not] at hg);replace hF:=aa hF hg))|with_reducible refine aa (by kernel_rfl) ?_)
    all_goals (refine eM (x:=x) (at0:=at0) (left:=left) (val:=vT) (g:=G7.exprS e ex _ depth) rfl (by simp only [wS,simprocAttr,MX.row];try exact rfl) (cH hg) ?_ (by rw [hgo];simp only [G7.bin,simprocAttr,ax,decide_false,decide_true,G7.two,hF,if_true,if_false,aw];exact rfl) ?_)
    all_goals first|exact .inl rfl|(simp only [aI,aP,T.encs_tree,ai])
   clear hK3
   have zb1:True:=trivial
   have zb3:True:=trivial
   have zb4:True:=trivial
   have zb5:True:=trivial
   have zb6:True:=trivial
   have a6:True:=trivial
   have hzz:z<3\/z=3\/z=4\/z=5\/z=6\/6<z:=by omega
   rcases hzz with q|rfl|rfl|rfl|rfl|q
   case' inr.inr.inl=>
    have hk:kind=0\/kind=1\/(kind≠0/\kind≠1):=by omega
    have d0:True:=trivial
    have d1:True:=trivial
    rcases hk with rfl|rfl|⟨hk0,hk1⟩
   case' inr.inr.inr.inl=>
    have hk:kind=0\/kind=1\/(kind≠0/\kind≠1):=by omega
    have d0:True:=trivial
    have d1:True:=trivial
    rcases hk with rfl|rfl|⟨hk0,hk1⟩
   case' inr.inr.inr.inr.inl=>
    have hk:kind=0\/kind=1\/(kind≠0/\kind≠1):=by omega
    have d0:True:=trivial
    have d1:True:=trivial
    rcases hk with rfl|rfl|⟨hk0,hk1⟩
   all_goals first
    | (have d0 : (kind == 0) = false := by simp [hk0]
       have d1:(kind==1)=false:=by simp [hk1]
       replace hF:=aa hF (aa d0 d1))
    |skip
   all_goals first
    | (have zb1 : decide (z < 3) = true := by (simp; omega)
       replace hF:=aa hF q)
    |skip
   all_goals first
    | (have q3 : ¬ z < 3 := by omega
       have q6:¬ z<6:=by omega
       have zb1:decide (z<3)=false:=by (simp;omega)
       have zb3:(z==3)=false:=by (simp;omega)
       have zb4:(z==4)=false:=by (simp;omega)
       have zb5:(z==5)=false:=by (simp;omega)
       have zb6:(z==6)=false:=by (simp;omega)
       have a6:decide (z<6)=false:=by (simp;omega)
       replace hF:=aa hF (aa q3 (aa q6 (aa zb3 (aa zb4 (aa zb5 (aa zb6 a6)))))))
    |skip
   all_goals repeat' (first|(refine cC ?_;simp only [wS,simprocAttr,MX.row,vI,vT,vF,T.enc,e1,e2,t0,d0,d1,zb1,zb3,zb4,zb5,zb6,a6])|refine aH|(refine aW (MT hx h _) _ _ (cH hg) ?_;rintro ⟨k1,n1,m1,es1⟩ a1 l1 he;replace hF:=aa hF he;simp only [wS,simprocAttr,MX.row,vI,vT,vF,T.enc,e1,e2,t0,d0,d1])|(refine aW (PK hx h _) _ _ (cH hg) ?_;rintro ⟨va,vb⟩ a1 l1 he;replace hF:=aa hF he;simp only [wS,simprocAttr,MX.row,vI,vT,vF,T.enc,e1,e2,t0,d0,d1])|(refine aW (yN hx h 2) _ _ (cH hg) ?_;rintro r a1 l1 he;replace hF:=aa hF he;simp only [wS,simprocAttr,MX.row,vI,vT,vF,T.enc,e1,e2,t0,d0,d1])|(refine aW (VS hx h' _ depth (by omega) hd2 (fun kd s=>ex kd (depth - 1) s) (fun kd=>hE hpos kd _ (.inl rfl))) _ _ (cH hg) ?_;rintro ⟨k1,n1,m1,es1⟩ a1 l1 he;replace hF:=aa hF he;simp only [wS,simprocAttr,MX.row,vI,vT,vF,T.enc,e1,e2,t0,d0,d1])|(refine aW (dT h.L hx.fr x.pn (hcp (by assumption))) _ _ (cH hg) ?_;rintro r a1 l1 he;replace hF:=aa hF he;simp only [wS,simprocAttr,MX.row,vI,vT,vF,T.enc,e1,e2,t0,d0,d1])|(refine aW (hE hpos _ _ (by first|exact .inl rfl|exact .inr rfl)) _ _ (cH hg) ?_;rintro ⟨k1,n1,m1,es1⟩ a1 l1 he;replace hF:=aa hF he;simp only [wS,simprocAttr,MX.row,vI,vT,vF,T.enc,e1,e2,t0,d0,d1])|(refine aW (gN hx.fr _ _ _ _ [] rfl rfl) _ _ (cH hg) ?_;rintro ⟨k1,n1,m1,es1⟩ a1 l1 he;replace hF:=aa hF he;simp only [wS,simprocAttr,MX.row,vI,vT,vF,T.enc,e1,e2])|(refine aW (qG hx.fr _ _ _ _ _ _ _) _ _ (cH hg) ?_;rintro ⟨k1,n1,m1,es1⟩ a1 l1 he;replace hF:=aa hF he;simp only [wS,simprocAttr,MX.row,vI,vT,vF,T.enc,e1,e2])|(refine aW (qF hx.fr _ _ _ _ _ _ _ _ _ _ _) _ _ (cH hg) ?_;rintro ⟨k1,n1,m1,es1⟩ a1 l1 he;replace hF:=aa hF he;simp only [wS,simprocAttr,MX.row,vI,vT,vF,T.enc,e1,e2])|(with_reducible refine aa (fun hg=>?_) (fun hg=>?_)<;>((try simp only [decide_eq_true_eq,decide_eq_false_iff_not] at hg);replace hF:=aa hF hg))|with_reducible refine aa (by kernel_rfl) ?_)
   all_goals first|(refine eM (x:=x) (at0:=at0) (left:=left) (val:=vT) (g:=G7.exprS e ex _ depth) rfl (by simp only [wS,simprocAttr,MX.row];try exact rfl) (cH hg) ?_ (by simp only [G7.exprS,simprocAttr,<- h'.pn,<- h'.con,hg,ax,ab,da,ac,dl,G7.setM,decide_false,decide_true,hF,if_true,if_false,aw];exact rfl) ?_)|(refine key _ _ _ ?_ (Weak.ref ⟨aZ,.inl (by (simp only [wS,simprocAttr,MX.row,hg];try exact rfl))⟩);simp only [G7.exprS,simprocAttr,<- h'.pn,<- h'.con,hg,ax,ab,da,ac,dl,G7.setM,decide_false,decide_true,hF,if_true,if_false,aw])
   all_goals first|exact .inl rfl|(simp only [aI,aP,T.encs_tree,ai])
 .have hdp:decide (depth<=0)=true:=by simp;omega
  have hdp':depth<=0:=by omega
  replace hF:=aa hF hdp'
  repeat' (first|(refine cC ?_;simp only [wS,simprocAttr,MX.row,vI,vT,vF,T.enc,e1,e2,t0,d0,d1,hdp])|refine aH|(refine aW (MT hx h _) _ _ (cH hg) ?_;rintro ⟨k1,n1,m1,es1⟩ a1 l1 he;replace hF:=aa hF he;simp only [wS,simprocAttr,MX.row,vI,vT,vF,T.enc,e1,e2,t0,d0,d1])|(with_reducible refine aa (fun hg=>?_) (fun hg=>?_)<;>((try simp only [decide_eq_true_eq,decide_eq_false_iff_not] at hg);replace hF:=aa hF hg))|with_reducible refine aa (by kernel_rfl) ?_)
  refine eM (x:=x) (at0:=at0) (left:=left) (val:=vT) (g:=G7.exprS e ex kind depth) rfl (by simp only [wS,simprocAttr,MX.row];try exact rfl) (cH hg) ?_ (by simp only [G7.exprS,simprocAttr,<- h'.pn,<- h'.con,hg,ax,ab,da,ac,dl,G7.setM,decide_false,decide_true,hF,if_true,if_false,aw];exact rfl) ?_
  all_goals first|exact .inl rfl|(simp only [aI,aP,T.encs_tree,ai])
end Go.Proofs.YtggflhbigolakaaGreatDoor
