import Derived.Test.YtggflhbigolakaaGreatDoorYF
set_option linter.unusedSimpArgs false
namespace Go.Proofs.YtggflhbigolakaaGreatDoor
open Go.AM
attribute [local irreducible] cG bG bI bL bW bZ aQ aV bN
set_option maxRecDepth 100000
namespace G7
def stEnd (e:Env) (ex:Int->Int->St->T × St) (s:St):T × St:=match pick e 0 s with
 |(v,s1)=>match ex 0 3 s1 with
  |(a,s2)=>if v >= 0 then nd 14 v [a] s2 else nd 24 0 [a] s2
def stRest (e : Env) (ex : Int -> Int -> St -> T × St) (z : Int) (s : St) : T × St :=
 if z == 5 then (match pick e 2 s with
  |(v,s1)=>if v >= 0 then (match ex 0 1 s1 with
   |(a,s2)=>match ex 0 2 s2 with
    |(b,s3)=>nd 15 v [a,b] s3) else stEnd e ex s1)
 else if z==6 then (match dr e 2 s with
  | (kd, s1) => match field e kd s1 with
   |((v,k),s2)=>if v >= 0 then (match ex kd 2 s2 with
    |(a,s3)=>match nd 16 v [a] s3 with
     |(t,s4)=>(setM t k,s4)) else stEnd e ex s2)
 else if z==7 then (match ex 0 3 s with
  |(a,s1)=>nd 19 0 [a] s1)
 else if z==8 then (match ex 0 1 s with
  |(a,s1)=>nd 20 0 [a] s1)
 else if z==9 then (match pick e 1 s with
  |(v,s1)=>if v >= 0 then (match ex 1 3 s1 with
   |(a,s2)=>nd 14 v [a] s2) else stEnd e ex s1)
 else if z==10 then (match ex 0 3 s with
  |(a,s1)=>nd 24 0 [a] s1)
 else if z==11 then (match ex 0 3 s with
  |(a,s1)=>nd 24 0 [a] s1)
 else if z==12 then (match ex 0 3 s with
  |(a,s1)=>nd 24 0 [a] s1)
 else if z==13 then nd 25 0 [] s
 else stEnd e ex s
def stCon (e:Env) (ex ca:Int->Int->St->T × St) (z:Int) (s:St):T × St:=
 if (e.con&&decide (z >= 12))=true then (if z==12 then ca 23 2 s else if z==13 then ca 23 1 s else match dr e e.pn s with
  |(c,s1)=>match ex 0 2 s1 with
   |(a,s2)=>nd 22 c [a] s2)
 else stRest e ex z s
def stmtS (e:Env) (ex ca:Int->Int->St->T × St) (ne:St->T × St) (depth:Int) (s:St):T × St:=match dr e 16 s with
 |(z,s1)=>if 0<depth/\s1.2 > 8/\z<5 then ne s1 else stCon e ex ca z s1
end G7
set_option maxHeartbeats 16000000 in
theorem SW {x:MX} {e:G7.Env} {r:Nat} {f:Fn} (hx:x.ok) (h:EnvOK x e r f) (h':NO x e) (depth:Int) (ex ca:Int->Int->St->T × St) (ne:St->T × St) (hE:∀ kd dd:Int,(dd=1\/dd=2\/dd=3\/dd=0)->rK x 134 [.int .i64 kd,.int .i64 dd] vT (ex kd dd)) (hC:∀ kd dd:Int,(dd=1\/dd=2)->rK x 133 [.int .i64 kd,.int .i64 dd] vT (ca kd dd)) (hN:0<depth->rK x 132 [.int .i64 depth] vT ne):rK x 126 [.int .i64 depth] vT (G7.stmtS e ex ca ne depth):=by
 have hcp:x.con=true->0<x.pn:=hx.2.1
 have hg:True:=trivial
 have hF:True:=trivial
 refine eC hx.fr Tryz.func126 rfl (by kernel_rfl) (by simp [Tryz.ntmps126]) rfl fun at0 left=>?_
 simp only [Tryz.ntmps126,aK,Nat.reduceAdd,MX.row]
 refine cR fun K0 hK0=>?_
 replace hK0:=aa trivial hK0
 repeat' (first|(refine cC ?_;simp only [wS,simprocAttr,MX.row])|refine aH|fail)
 refine hK0.2.go ?_
 refine cR fun K1 hK1=>?_
 replace hK1:=aa trivial hK1
 repeat' (first|(refine cC ?_;simp only [wS,simprocAttr,MX.row])|refine aH|fail)
 refine aW (dT h.L hx.fr 16 (by decide)) at0 left bS ?_
 rintro z at1 left1 hz
 obtain ⟨hz1,hz2⟩:=G7.dr_b (by decide) hz
 replace hF:=aa hF hz
 simp only [wS,simprocAttr,MX.row,vI]
 repeat' (first|(refine cC ?_;simp only [wS,simprocAttr,MX.row])|refine aH|fail)
 refine hK1.2.go ?_
 refine cR fun K2 hK2=>?_
 replace hK2:=aa trivial hK2
 have key2:∀ (a l:Int) (s:AS),G7.stmtS e ex ca ne depth (at0,left)=G7.stCon e ex ca z (a,l)->Ref G0 153 6 s ⟨eJ [(0,.ptr 1 0 0),(1,.int .i64 depth),(4,.ptr 6 0 0),(5,.int .i64 z)],[.dead,x.row a l,x.A2,x.A3,x.A4,x.A5,.cells 0 [.int .i64 0,.int .i64 0,.int .i64 0,.sl true []]]⟩->K2 s:=by
  intro a l s hgo hr
  have hF:True:=trivial
  refine hK2.2.go (cK hr ?_)
  refine cR fun K4 hK4=>?_
  replace hK4:=aa trivial hK4
  have key4:∀ (s:AS),G7.stmtS e ex ca ne depth (at0,left)=G7.stRest e ex z (a,l)->Ref G0 153 6 s ⟨eJ [(0,.ptr 1 0 0),(1,.int .i64 depth),(4,.ptr 6 0 0),(5,.int .i64 z)],[.dead,x.row a l,x.A2,x.A3,x.A4,x.A5,.cells 0 [.int .i64 0,.int .i64 0,.int .i64 0,.sl true []]]⟩->K4 s:=by
   intro s hgo hr
   refine hK4.2.go (cK hr ?_)
   repeat' (first|with_reducible refine WO fun _ _=>?_|with_reducible refine LX ?_|((first|with_reducible refine SH ?_|with_reducible refine SG ?_|with_reducible refine WN fun _ _ _ _=>?_)<;>simp only [wS,simprocAttr,MX.row,vI,vT,vF,T.enc])|(with_reducible refine SF (fun hg=>?_) (fun hg=>?_)<;>simp only [hg,wS,simprocAttr,MX.row,vI,vT,vF,T.enc]<;>((try simp only [decide_eq_true_eq,decide_eq_false_iff_not] at hg);replace hF:=aa hF hg))|((first|with_reducible refine LT ?_|with_reducible refine LV ?_|with_reducible refine LU ?_);try simp only [wE,simprocAttr])|with_reducible refine X3 ?_|with_reducible refine X2 ?_|(refine aW (dT h.L hx.fr 2 (by decide)) _ _ bS ?_;rintro z2 a1 l1 he;replace hF:=aa hF he;simp only [wS,simprocAttr,MX.row,vI,vT,vF,T.enc])|(refine aW (yN hx h _) _ _ bS ?_;rintro v a1 l1 he;replace hF:=aa hF he;simp only [wS,simprocAttr,MX.row,vI,vT,vF,T.enc])|(refine aW (PK hx h _) _ _ bS ?_;rintro ⟨va,vb⟩ a1 l1 he;replace hF:=aa hF he;simp only [wS,simprocAttr,MX.row,vI,vT,vF,T.enc])|(refine aW (hE _ _ (by decide)) _ _ bS ?_;rintro ⟨k1,n1,m1,es1⟩ a1 l1 he;replace hF:=aa hF he;simp only [wS,simprocAttr,MX.row,vI,vT,vF,T.enc])|(refine aW (gN hx.fr _ _ _ _ [] rfl rfl) _ _ bS ?_;rintro ⟨k1,n1,m1,es1⟩ a1 l1 he;replace hF:=aa hF he;simp only [wS,simprocAttr,MX.row,vI,vT,vF,T.enc])|(refine aW (qG hx.fr _ _ _ _ _ _ _) _ _ bS ?_;rintro ⟨k1,n1,m1,es1⟩ a1 l1 he;replace hF:=aa hF he;simp only [wS,simprocAttr,MX.row,vI,vT,vF,T.enc])|(refine aW (qF hx.fr _ _ _ _ _ _ _ _ _ _ _) _ _ bS ?_;rintro ⟨k1,n1,m1,es1⟩ a1 l1 he;replace hF:=aa hF he;simp only [wS,simprocAttr,MX.row,vI,vT,vF,T.enc])|(with_reducible refine aa (fun hg=>?_) (fun hg=>?_)<;>((try simp only [hg]);(try simp only [decide_eq_true_eq,decide_eq_false_iff_not] at hg);replace hF:=aa hF hg))|with_reducible refine aa (by kernel_rfl) ?_)
   all_goals first|(exfalso;revert hF;generalize (z==10)=b10;generalize (z==11)=b11;generalize (z==12)=b12;generalize (z==13)=b13;cases b10<;>cases b11<;>cases b12<;>cases b13<;>(simp;done))|(refine eM (x:=x) (at0:=at0) (left:=left) (val:=vT) (g:=G7.stmtS e ex ca ne depth) rfl (by simp only [wS,simprocAttr,MX.row];try exact rfl) bS ?_ (by rw [hgo];simp only [G7.stRest,G7.stEnd,simprocAttr,<- h'.pn,<- h'.con,ax,ab,da,ac,dl,ia,ej,jf,gz,decide_true,decide_false,true_and,and_true,false_and,and_false,and_self,G7.setM,hF,if_true,if_false,aw];exact rfl) ?_)
   all_goals first|exact .inl rfl|(simp only [aI,aP,T.encs_tree,ai])
  clear hK4
  cases hc:x.con with
  |false=>
   repeat' (first|with_reducible refine WO fun _ _=>?_|with_reducible refine LX ?_|((first|with_reducible refine SH ?_|with_reducible refine SG ?_|with_reducible refine WN fun _ _ _ _=>?_)<;>simp only [wS,simprocAttr,MX.row,vI,vT,vF,T.enc,hc])|(with_reducible refine SF (fun hg=>?_) (fun hg=>?_)<;>simp only [hg,wS,simprocAttr,MX.row,vI,vT,vF,T.enc,hc]<;>((try simp only [decide_eq_true_eq,decide_eq_false_iff_not] at hg);replace hF:=aa hF hg))|((first|with_reducible refine LT ?_|with_reducible refine LV ?_|with_reducible refine LU ?_);try simp only [wE,simprocAttr])|with_reducible refine X3 ?_|with_reducible refine X2 ?_|(with_reducible refine aa (fun hg=>?_) (fun hg=>?_)<;>((try simp only [decide_eq_true_eq,decide_eq_false_iff_not] at hg);replace hF:=aa hF hg))|with_reducible refine aa (by kernel_rfl) ?_)
   all_goals first|(refine eM (x:=x) (at0:=at0) (left:=left) (val:=vT) (g:=G7.stmtS e ex ca ne depth) rfl (by simp only [wS,simprocAttr,MX.row,hc];try exact rfl) (cH hc) ?_ (by rw [hgo];simp only [G7.stCon,hc,simprocAttr,<- h'.pn,<- h'.con,ax,ab,da,ac,dl,ia,ej,jf,gz,decide_true,decide_false,true_and,and_true,false_and,and_false,and_self,G7.setM,hF,if_true,if_false,aw];exact rfl) ?_)|(refine key4 _ ?_ (Weak.ref ⟨aZ,.inl (by (simp only [wS,simprocAttr,MX.row,hc];try exact rfl))⟩);rw [hgo];simp only [G7.stCon,hc,simprocAttr,<- h'.pn,<- h'.con,ax,ab,da,ac,dl,ia,ej,jf,gz,decide_true,decide_false,true_and,and_true,false_and,and_false,and_self,G7.setM,hF,if_true,if_false,aw])
   all_goals first|exact .inl rfl|(simp only [aI,aP,T.encs_tree,ai])
  |true=>
   repeat' (first|with_reducible refine WO fun _ _=>?_|with_reducible refine LX ?_|((first|with_reducible refine SH ?_|with_reducible refine SG ?_|with_reducible refine WN fun _ _ _ _=>?_)<;>simp only [wS,simprocAttr,MX.row,vI,vT,vF,T.enc,hc])|(with_reducible refine SF (fun hg=>?_) (fun hg=>?_)<;>simp only [hg,wS,simprocAttr,MX.row,vI,vT,vF,T.enc,hc]<;>((try simp only [decide_eq_true_eq,decide_eq_false_iff_not] at hg);replace hF:=aa hF hg))|((first|with_reducible refine LT ?_|with_reducible refine LV ?_|with_reducible refine LU ?_);try simp only [wE,simprocAttr])|with_reducible refine X3 ?_|with_reducible refine X2 ?_|(refine aW (hC _ _ (by decide)) _ _ (cH hc) ?_;rintro ⟨k1,n1,m1,es1⟩ a1 l1 he;replace hF:=aa hF he;simp only [wS,simprocAttr,MX.row,vI,vT,vF,T.enc,hc])|(refine aW (dT h.L hx.fr x.pn (hcp hc)) _ _ (cH hc) ?_;rintro c a1 l1 he;replace hF:=aa hF he;simp only [wS,simprocAttr,MX.row,vI,vT,vF,T.enc,hc])|(refine aW (hE _ _ (by decide)) _ _ (cH hc) ?_;rintro ⟨k1,n1,m1,es1⟩ a1 l1 he;replace hF:=aa hF he;simp only [wS,simprocAttr,MX.row,vI,vT,vF,T.enc,hc])|(refine aW (gN hx.fr _ _ _ _ [] rfl rfl) _ _ (cH hc) ?_;rintro ⟨k1,n1,m1,es1⟩ a1 l1 he;replace hF:=aa hF he;simp only [wS,simprocAttr,MX.row,vI,vT,vF,T.enc,hc])|(refine aW (qG hx.fr _ _ _ _ _ _ _) _ _ (cH hc) ?_;rintro ⟨k1,n1,m1,es1⟩ a1 l1 he;replace hF:=aa hF he;simp only [wS,simprocAttr,MX.row,vI,vT,vF,T.enc,hc])|(refine aW (qF hx.fr _ _ _ _ _ _ _ _ _ _ _) _ _ (cH hc) ?_;rintro ⟨k1,n1,m1,es1⟩ a1 l1 he;replace hF:=aa hF he;simp only [wS,simprocAttr,MX.row,vI,vT,vF,T.enc,hc])|(with_reducible refine aa (fun hg=>?_) (fun hg=>?_)<;>((try simp only [decide_eq_true_eq,decide_eq_false_iff_not] at hg);replace hF:=aa hF hg))|with_reducible refine aa (by kernel_rfl) ?_)
   all_goals first|(refine eM (x:=x) (at0:=at0) (left:=left) (val:=vT) (g:=G7.stmtS e ex ca ne depth) rfl (by simp only [wS,simprocAttr,MX.row,hc];try exact rfl) (cH hc) ?_ (by rw [hgo];simp only [G7.stCon,hc,simprocAttr,<- h'.pn,<- h'.con,ax,ab,da,ac,dl,ia,ej,jf,gz,decide_true,decide_false,true_and,and_true,false_and,and_false,and_self,G7.setM,hF,if_true,if_false,aw];exact rfl) ?_)|(refine key4 _ ?_ (Weak.ref ⟨aZ,.inl (by (simp only [wS,simprocAttr,MX.row,hc];try exact rfl))⟩);rw [hgo];simp only [G7.stCon,hc,simprocAttr,<- h'.pn,<- h'.con,ax,ab,da,ac,dl,ia,ej,jf,gz,decide_true,decide_false,true_and,and_true,false_and,and_false,and_self,G7.setM,hF,if_true,if_false,aw])
   all_goals first|exact .inl rfl|(simp only [aI,aP,T.encs_tree,ai])
 clear hK2
 by_cases hpos:0<depth
 .have hdp:decide (depth > 0)=true:=by simp;omega
  replace hF:=aa hF hpos
  repeat' (first|with_reducible refine WO fun _ _=>?_|with_reducible refine LX ?_|((first|with_reducible refine SH ?_|with_reducible refine SG ?_|with_reducible refine WN fun _ _ _ _=>?_)<;>simp only [wS,simprocAttr,MX.row,vI,vT,vF,T.enc,hdp])|(with_reducible refine SF (fun hg=>?_) (fun hg=>?_)<;>simp only [hg,wS,simprocAttr,MX.row,vI,vT,vF,T.enc,hdp]<;>((try simp only [decide_eq_true_eq,decide_eq_false_iff_not] at hg);replace hF:=aa hF hg))|((first|with_reducible refine LT ?_|with_reducible refine LV ?_|with_reducible refine LU ?_);try simp only [wE,simprocAttr])|with_reducible refine X3 ?_|with_reducible refine X2 ?_|(refine aW (hN hpos) _ _ bS ?_;rintro ⟨k1,n1,m1,es1⟩ a1 l1 he;replace hF:=aa hF he;simp only [wS,simprocAttr,MX.row,vI,vT,vF,T.enc])|(with_reducible refine aa (fun hg=>?_) (fun hg=>?_)<;>((try simp only [decide_eq_true_eq,decide_eq_false_iff_not] at hg);replace hF:=aa hF hg))|with_reducible refine aa (by kernel_rfl) ?_)
  all_goals first|(refine eM (x:=x) (at0:=at0) (left:=left) (val:=vT) (g:=G7.stmtS e ex ca ne depth) rfl (by simp only [wS,simprocAttr,MX.row];try exact rfl) bS ?_ (by simp only [G7.stmtS,simprocAttr,<- h'.pn,<- h'.con,ax,ab,da,ac,dl,ia,ej,jf,gz,decide_true,decide_false,true_and,and_true,false_and,and_false,and_self,G7.setM,hF,if_true,if_false,aw];exact rfl) ?_)|(refine key2 _ _ _ ?_ (Weak.ref ⟨aZ,.inl (by (simp only [wS,simprocAttr,MX.row];try exact rfl))⟩);simp only [G7.stmtS,simprocAttr,<- h'.pn,<- h'.con,ax,ab,da,ac,dl,ia,ej,jf,gz,decide_true,decide_false,true_and,and_true,false_and,and_false,and_self,G7.setM,hF,if_true,if_false,aw])
  all_goals first|exact .inl rfl|(simp only [aI,aP,T.encs_tree,ai])
 .have hdp:decide (depth > 0)=false:=by simp;omega
  replace hF:=aa hF hpos
  repeat' (first|with_reducible refine WO fun _ _=>?_|with_reducible refine LX ?_|((first|with_reducible refine SH ?_|with_reducible refine SG ?_|with_reducible refine WN fun _ _ _ _=>?_)<;>simp only [wS,simprocAttr,MX.row,vI,vT,vF,T.enc,hdp])|(with_reducible refine SF (fun hg=>?_) (fun hg=>?_)<;>simp only [hg,wS,simprocAttr,MX.row,vI,vT,vF,T.enc,hdp]<;>((try simp only [decide_eq_true_eq,decide_eq_false_iff_not] at hg);replace hF:=aa hF hg))|((first|with_reducible refine LT ?_|with_reducible refine LV ?_|with_reducible refine LU ?_);try simp only [wE,simprocAttr])|with_reducible refine X3 ?_|with_reducible refine X2 ?_|(with_reducible refine aa (fun hg=>?_) (fun hg=>?_)<;>((try simp only [decide_eq_true_eq,decide_eq_false_iff_not] at hg);replace hF:=aa hF hg))|with_reducible refine aa (by kernel_rfl) ?_)
  all_goals first|(refine eM (x:=x) (at0:=at0) (left:=left) (val:=vT) (g:=G7.stmtS e ex ca ne depth) rfl (by simp only [wS,simprocAttr,MX.row];try exact rfl) bS ?_ (by simp only [G7.stmtS,simprocAttr,<- h'.pn,<- h'.con,ax,ab,da,ac,dl,ia,ej,jf,gz,decide_true,decide_false,true_and,and_true,false_and,and_false,and_self,G7.setM,hF,if_true,if_false,aw];exact rfl) ?_)|(refine key2 _ _ _ ?_ (Weak.ref ⟨aZ,.inl (by (simp only [wS,simprocAttr,MX.row];try exact rfl))⟩);simp only [G7.stmtS,simprocAttr,<- h'.pn,<- h'.con,ax,ab,da,ac,dl,ia,ej,jf,gz,decide_true,decide_false,true_and,and_true,false_and,and_false,and_self,G7.setM,hF,if_true,if_false,aw])
  all_goals first|exact .inl rfl|(simp only [aI,aP,T.encs_tree,ai])
end Go.Proofs.YtggflhbigolakaaGreatDoor
