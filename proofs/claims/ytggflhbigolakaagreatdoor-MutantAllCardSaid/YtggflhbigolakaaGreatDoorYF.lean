import Derived.Test.YtggflhbigolakaaGreatDoorAE
import Derived.Test.YtggflhbigolakaaGreatDoorYD
import Derived.Test.YtggflhbigolakaaGreatDoorYE
set_option linter.unusedSimpArgs false
namespace Go.Proofs.YtggflhbigolakaaGreatDoor
open Go.AM
attribute [local irreducible] cG bG bI bL bW bZ aQ aV bN
set_option maxRecDepth 100000
namespace G7
def loopEnd (a:T) (l:List T) (s:St):T × St:=match nd 13 0 l s with
 |(b,s1)=>nd 18 0 [a,b] s1
def loopS (e:Env) (st:St->T × St) (v:Int) (s:St):T × St:=match nd 6 v [] s with
 |(a,s1)=>match dr e 3 s1 with
 |(z,s2)=>match nd 4 (IntKind.i64.wrap (1+z)) [] s2 with
 |(b,s3)=>match nd 9 10 [a,b] s3 with
 |(cond,s4)=>match nd 6 v [] s4 with
 |(c,s5)=>match nd 4 1 [] s5 with
 |(d,s6)=>match nd 9 0 [c,d] s6 with
 |(next,s7)=>match nd 14 v [next] s7 with
 |(count,s8)=>if s8.2 > 4 then (match st s8 with
  |(t,s9)=>loopEnd cond [t,count] s9) else loopEnd cond [count] s8
def nestEnd (ex:St->T × St) (bl:Int->St->T × St) (s:St):T × St:=match ex s with
 |(c,s1)=>match bl 2 s1 with
 |(b,s2)=>match bl 1 s2 with
 |(d,s3)=>nd 17 0 [c,b,d] s3
def nestS (e : Env) (ex : St -> T × St) (bl : Int -> St -> T × St) (lp : Int -> St -> T × St) (s : St) : T × St := match dr e 5 s with
 |(z,s1)=>if z==0 then (match ex s1 with
  |(c,s2)=>match bl 2 s2 with
   |(b,s3)=>nd 18 0 [c,b] s3)
 else if z==1 then (match pick e 0 s1 with
  |(v,s2)=>if v >= 0/\s2.2 > 10 then lp v s2 else nestEnd ex bl s2)
 else if z==2 then (match pick e 0 s1 with
  |(v,s2)=>if v >= 0 then (match bl 2 s2 with
   |(b,s3)=>match bl 1 s3 with
    |(d,s4)=>nd 21 v [b,d] s4) else nestEnd ex bl s2)
 else if z==3 then bl 2 s1 else nestEnd ex bl s1
end G7
theorem OQ {x:MX} (hx:x.frame) (k n:Int) (b:Bool) (k1 n1 m1:Int) (es1:List T) (k2 n2 m2:Int) (es2:List T) (k3 n3 m3:Int) (es3:List T):rK x 125 [.int .i64 k,.int .i64 n,.sl b [[.int .i64 k1,.int .i64 n1,.int .i64 m1,.sl false (T.encs es1)],[.int .i64 k2,.int .i64 n2,.int .i64 m2,.sl false (T.encs es2)],[.int .i64 k3,.int .i64 n3,.int .i64 m3,.sl false (T.encs es3)]]] vT (G7.nd k n [.mk k1 n1 m1 es1,.mk k2 n2 m2 es2,.mk k3 n3 m3 es3]):=
 gN hx k n b _ [.mk k1 n1 m1 es1,.mk k2 n2 m2 es2,.mk k3 n3 m3 es3] (hZ [.mk k1 n1 m1 es1,.mk k2 n2 m2 es2,.mk k3 n3 m3 es3]) (T.encs_tree [.mk k1 n1 m1 es1,.mk k2 n2 m2 es2,.mk k3 n3 m3 es3])
theorem KU {n:Nat} {d:Option Tmp} {rest:List nA} {m:Option eV} {s:AS} {K:Option eV->AS->Prop} {x:MX} {f:FuncId} {more more':List AV} {β:Type} {val: β->AV} {g:St->β × St} (q:Nat) (h:rK x f more' val g) (a l:Int) (hr:MR x s.row a l) (hl:sE s.row [q] more more') (hd:∀ r∈[1,2,3,4,5],r ∉ [q])
  (hk:∀ r a1 l1,g (a,l)=(r,(a1,l1))->bG Tryz.prog G0 n K rest (lM m [1,2,3,4,5,q] [1,q]) ((s.wr [(1,x.row a1 l1),(q,.dead)]).put d (val r))):bI Tryz.prog G0 n K d rest m s f (.ptr 1 0 0::more):=
 cM (nZ [q] (h s.row a l hr) ⟨.inl rfl,hl⟩ hd) (hk _ _ _ rfl)
theorem O5 {sz:Nat} {b:Bool} {e:List AV} {rows:Nat->ARow} (h:e.length=sz):cW sz (.sl b [e]) rows=some (1,e):=by simp [cW,h]
set_option maxHeartbeats 8000000 in
theorem aAW {x:MX} {e:G7.Env} (hx:x.ok) (hL:x.L=e.L) (v0 depth:Int) (hd1: -9223372036854775806<depth) (hd2:depth<=9223372036854775807) (st:St->T × St) (hS:rK x 126 [.int .i64 (depth - 1)] vT st):rK x 140 [.int .i64 v0,.int .i64 depth] vT (G7.loopS e st v0):=by
 have e1:IntKind.i64.wrap (depth - 1)=depth - 1:=bC (by omega) (by omega)
 have hg:True:=trivial
 have hF:True:=trivial
 have hr10:True:=trivial
 refine eC hx.fr Tryz.func140 rfl (by kernel_rfl) (by simp [Tryz.ntmps140]) rfl fun at0 left=>?_
 simp only [Tryz.ntmps140,aK,Nat.reduceAdd,MX.row]
 repeat' (first|with_reducible refine WO fun _ _=>?_|with_reducible refine LX ?_|((first|with_reducible refine SH ?_|with_reducible refine SG ?_|with_reducible refine WN fun _ _ _ _=>?_)<;>simp only [wS,simprocAttr,MX.row,vI,vT,vF,T.enc,e1,hr10])|(with_reducible refine SF (fun hg=>?_) (fun hg=>?_)<;>simp only [hg,wS,simprocAttr,MX.row,vI,vT,vF,T.enc,e1,hr10]<;>((try simp only [decide_eq_true_eq,decide_eq_false_iff_not] at hg);replace hF:=aa hF hg))|((first|with_reducible refine LT ?_|with_reducible refine LV ?_|with_reducible refine LU ?_);try simp only [wE,simprocAttr])|with_reducible refine X3 ?_|with_reducible refine X2 ?_|(refine aW (dT hL hx.fr 3 (by decide)) _ _ bS ?_;rintro z a1 l1 he;replace hF:=aa hF he;simp only [wS,simprocAttr,MX.row,vI,vT,vF,T.enc,e1,hr10])|(refine aW (hS) _ _ bS ?_;rintro ⟨k9,n9,m9,es9⟩ a1 l1 he;replace hF:=aa hF he;simp only [wS,simprocAttr,MX.row,vI,vT,vF,T.enc,e1,hr10])|(refine fO (es:=[]) (sz:=4) (by':=48) (mm:=1) (by kernel_rfl) rfl rfl (O5 rfl) (by decide) (by simp) ?_;simp only [wS,simprocAttr,MX.row,vI,vT,vF,T.enc,e1,hr10])|(refine lV (sz:=4) (by':=48) (mm:=1) (by kernel_rfl) rfl rfl (O5 rfl) (by decide) ?_;simp only [wS,simprocAttr,MX.row,vI,vT,vF,T.enc,e1,hr10])|(refine KU (more':=[.int .i64 13,.int .i64 0,.sl false (T.encs [.mk k9 n9 m9 es9,.mk k1 n1 m1 es1])]) 10 (gN hx.fr _ _ _ _ [.mk k9 n9 m9 es9,.mk k1 n1 m1 es1] (hZ _) (T.encs_tree _)) _ _ bS ⟨.inl rfl,.inl rfl,.inr (.osl (by simp) rfl rfl (mI [.mk k9 n9 m9 es9,.mk k1 n1 m1 es1]) rfl (T.encs_tree [.mk k9 n9 m9 es9,.mk k1 n1 m1 es1])),trivial⟩ (by decide) ?_;rintro ⟨k1,n1,m1,es1⟩ a1 l1 he;replace hF:=aa hF he;simp only [wS,simprocAttr,MX.row,vI,vT,vF,T.enc,e1,hr10])|(refine KU (more':=[.int .i64 13,.int .i64 0,.sl false (T.encs [.mk k1 n1 m1 es1])]) 10 (gN hx.fr _ _ _ _ [.mk k1 n1 m1 es1] (hZ _) (T.encs_tree _)) _ _ bS ⟨.inl rfl,.inl rfl,.inr (.osl (by simp) rfl rfl (mI [.mk k1 n1 m1 es1]) rfl (T.encs_tree [.mk k1 n1 m1 es1])),trivial⟩ (by decide) ?_;rintro ⟨k1,n1,m1,es1⟩ a1 l1 he;replace hF:=aa hF he;simp only [wS,simprocAttr,MX.row,vI,vT,vF,T.enc,e1,hr10])|(refine aW (gN hx.fr _ _ _ _ [] rfl rfl) _ _ bS ?_;rintro ⟨k1,n1,m1,es1⟩ a1 l1 he;replace hF:=aa hF he;simp only [wS,simprocAttr,MX.row,vI,vT,vF,T.enc,e1,hr10])|(refine aW (qG hx.fr _ _ _ _ _ _ _) _ _ bS ?_;rintro ⟨k1,n1,m1,es1⟩ a1 l1 he;replace hF:=aa hF he;simp only [wS,simprocAttr,MX.row,vI,vT,vF,T.enc,e1,hr10])|(refine aW (qF hx.fr _ _ _ _ _ _ _ _ _ _ _) _ _ bS ?_;rintro ⟨k1,n1,m1,es1⟩ a1 l1 he;replace hF:=aa hF he;simp only [wS,simprocAttr,MX.row,vI,vT,vF,T.enc,e1,hr10])|(refine aW (OQ hx.fr _ _ _ _ _ _ _ _ _ _ _ _ _ _ _) _ _ bS ?_;rintro ⟨k1,n1,m1,es1⟩ a1 l1 he;replace hF:=aa hF he;simp only [wS,simprocAttr,MX.row,vI,vT,vF,T.enc,e1,hr10])|(with_reducible refine aa (fun hg=>?_) (fun hg=>?_)<;>((try simp only [decide_eq_true_eq,decide_eq_false_iff_not] at hg);replace hF:=aa hF hg))|with_reducible refine aa (by kernel_rfl) ?_)
 all_goals refine eM (x:=x) (at0:=at0) (left:=left) (val:=vT) (g:=G7.loopS e st v0) rfl (by simp only [wS,simprocAttr,MX.row];try exact rfl) bS ?_ (by simp only [G7.loopS,G7.loopEnd,simprocAttr,ax,ab,da,ac,dl,decide_true,decide_false,true_and,and_true,false_and,and_false,and_self,hF,if_true,if_false,aw];exact rfl) ?_
 all_goals first|exact .inl rfl|(simp only [aI,aP,T.encs_tree,ai])
set_option maxHeartbeats 8000000 in
theorem U5 {x:MX} {e:G7.Env} {r:Nat} {f:Fn} (hx:x.ok) (h:EnvOK x e r f) (depth:Int) (hd1: -9223372036854775806<depth) (hd2:depth<=9223372036854775807) (ex:St->T × St) (bl lp:Int->St->T × St) (hE:rK x 134 [.int .i64 1,.int .i64 2] vT ex) (hB:∀ most:Int,0<most->most<=6->rK x 104 [.int .i64 (depth - 1),.int .i64 most] vT (bl most)) (hLp:∀ v:Int,rK x 140 [.int .i64 v,.int .i64 depth] vT (lp v)):rK x 132 [.int .i64 depth] vT (G7.nestS e ex bl lp):=by
 have e1:IntKind.i64.wrap (depth - 1)=depth - 1:=bC (by omega) (by omega)
 have hg:True:=trivial
 have hF:True:=trivial
 have hr10:True:=trivial
 refine eC hx.fr Tryz.func132 rfl (by kernel_rfl) (by simp [Tryz.ntmps132]) rfl fun at0 left=>?_
 simp only [Tryz.ntmps132,aK,Nat.reduceAdd,MX.row]
 repeat' (first|with_reducible refine WO fun _ _=>?_|with_reducible refine LX ?_|((first|with_reducible refine SH ?_|with_reducible refine SG ?_|with_reducible refine WN fun _ _ _ _=>?_)<;>simp only [wS,simprocAttr,MX.row,vI,vT,vF,T.enc,e1,hr10])|(with_reducible refine SF (fun hg=>?_) (fun hg=>?_)<;>simp only [hg,wS,simprocAttr,MX.row,vI,vT,vF,T.enc,e1,hr10]<;>((try simp only [decide_eq_true_eq,decide_eq_false_iff_not] at hg);replace hF:=aa hF hg))|((first|with_reducible refine LT ?_|with_reducible refine LV ?_|with_reducible refine LU ?_);try simp only [wE,simprocAttr])|with_reducible refine X3 ?_|with_reducible refine X2 ?_|(refine aW (dT h.L hx.fr 5 (by decide)) _ _ bS ?_;rintro z a1 l1 he;replace hF:=aa hF he;simp only [wS,simprocAttr,MX.row,vI,vT,vF,T.enc,e1,hr10])|(refine aW (yN hx h 0) _ _ bS ?_;rintro v a1 l1 he;replace hF:=aa hF he;simp only [wS,simprocAttr,MX.row,vI,vT,vF,T.enc,e1,hr10])|(refine aW (hE) _ _ bS ?_;rintro ⟨k1,n1,m1,es1⟩ a1 l1 he;replace hF:=aa hF he;simp only [wS,simprocAttr,MX.row,vI,vT,vF,T.enc,e1,hr10])|(refine aW (hB _ (by decide) (by decide)) _ _ bS ?_;rintro ⟨k1,n1,m1,es1⟩ a1 l1 he;replace hF:=aa hF he;simp only [wS,simprocAttr,MX.row,vI,vT,vF,T.enc,e1,hr10])|(refine aW (hLp _) _ _ bS ?_;rintro ⟨k1,n1,m1,es1⟩ a1 l1 he;replace hF:=aa hF he;simp only [wS,simprocAttr,MX.row,vI,vT,vF,T.enc,e1,hr10])|(refine aW (gN hx.fr _ _ _ _ [] rfl rfl) _ _ bS ?_;rintro ⟨k1,n1,m1,es1⟩ a1 l1 he;replace hF:=aa hF he;simp only [wS,simprocAttr,MX.row,vI,vT,vF,T.enc,e1,hr10])|(refine aW (qG hx.fr _ _ _ _ _ _ _) _ _ bS ?_;rintro ⟨k1,n1,m1,es1⟩ a1 l1 he;replace hF:=aa hF he;simp only [wS,simprocAttr,MX.row,vI,vT,vF,T.enc,e1,hr10])|(refine aW (qF hx.fr _ _ _ _ _ _ _ _ _ _ _) _ _ bS ?_;rintro ⟨k1,n1,m1,es1⟩ a1 l1 he;replace hF:=aa hF he;simp only [wS,simprocAttr,MX.row,vI,vT,vF,T.enc,e1,hr10])|(refine aW (OQ hx.fr _ _ _ _ _ _ _ _ _ _ _ _ _ _ _) _ _ bS ?_;rintro ⟨k1,n1,m1,es1⟩ a1 l1 he;replace hF:=aa hF he;simp only [wS,simprocAttr,MX.row,vI,vT,vF,T.enc,e1,hr10])|(with_reducible refine aa (fun hg=>?_) (fun hg=>?_)<;>((try simp only [decide_eq_true_eq,decide_eq_false_iff_not] at hg);replace hF:=aa hF hg))|with_reducible refine aa (by kernel_rfl) ?_)
 all_goals refine eM (x:=x) (at0:=at0) (left:=left) (val:=vT) (g:=G7.nestS e ex bl lp) rfl (by simp only [wS,simprocAttr,MX.row];try exact rfl) bS ?_ (by simp only [G7.nestS,G7.nestEnd,simprocAttr,ax,ab,da,ac,dl,decide_true,decide_false,true_and,and_true,false_and,and_false,and_self,hF,if_true,if_false,aw];exact rfl) ?_
 all_goals first|exact .inl rfl|(simp only [aI,aP,T.encs_tree,ai])
end Go.Proofs.YtggflhbigolakaaGreatDoor
