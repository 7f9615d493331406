import Derived.Test.YtggflhbigolakaaGreatDoorEN
import Derived.Test.YtggflhbigolakaaGreatDoorUF
namespace Go.Proofs.YtggflhbigolakaaGreatDoor
open Go.AM
attribute [local irreducible] cG bG bI bL bW bZ aQ aV bN
set_option maxRecDepth 100000
def Runs (T:List (FuncId × List AV × AV)):Prop:=∀ e∈T,Pure Tryz.prog G0 e.1 e.2.1 e.2.2
theorem Runs.app {a b:List (FuncId × List AV × AV)} (ha:Runs a) (hb:Runs b):Runs (a++b):=fun e he=>(bo.1 he).elim (ha e) (hb e)
theorem Runs.one {f:FuncId} {a:List AV} {v:AV} (h:Pure Tryz.prog G0 f a v):Runs [(f,a,v)]:=fun e he=>by
 obtain rfl:=bd.1 he
 exact h
theorem sQ {T:List (FuncId × List AV × AV)} (hT:Runs T) (K:List FuncId) {f:FuncId} {args:List AV} {v:AV} (ht:aI aE v=true) (h:VV Tryz.prog G0 60 T K 60 f args []=some (v,[])):Pure Tryz.prog G0 f args v:=nL 60 60 _ K hT bX (by kernel_rfl) ht h
def lfT (n:Int):T:=.mk 4 n 0 []
def rtT (op a b:Int):T:=.mk 9 op 0 [lfT a,lfT b]
def lfV (n:Int) (b:Bool):AV:=.agg [.int .i64 4,.int .i64 n,.int .i64 0,.sl b []]
def IL (op a b:Int):AV:=.agg [.int .i64 9,.int .i64 op,.int .i64 0,.sl false [[.int .i64 4,.int .i64 a,.int .i64 0,.sl true []],[.int .i64 4,.int .i64 b,.int .i64 0,.sl true []]]]
def aB6:AV:=.agg [.int .i64 9,.int .i64 0,.int .i64 0,.sl false [[.int .i64 4,.int .i64 1,.int .i64 0,.sl true []],[.int .i64 4,.int .i64 1,.int .i64 0,.sl true []]]]
def jK:AV:=.agg [.int .i64 9,.int .i64 0,.int .i64 0,.sl true [[.int .i64 4,.int .i64 1,.int .i64 0,.sl true []],[.int .i64 4,.int .i64 1,.int .i64 0,.sl true []]]]
def X7 (v:AV) (t:T):List (FuncId × List AV × AV):=rO.map fun e=>(25,[.agg e,v],gG (uC (HZ e) t))
theorem F1 {cs:List AV} {t:T} (ht:T.size t<=1000) (hc:aP aE cs=true) (hw:wkL cs=T.enc t):Runs (X7 (.agg cs) t):=fun e he=>by
 obtain ⟨c,hm,rfl⟩:=cf.1 he
 have h1:wkL c=eE (HZ c):=by
  have h:=SY
  rw [LZ,gn] at h
  exact List.map_inj_left.1 h c hm
 have h2:=SX (HZ c) (cf.2 ⟨c,hm,rfl⟩)
 have h3:=HW xN c hm
 exact (H2 (HZ c).1 (HZ c).2.1 (HZ c).2.2.1 (HZ c).2.2.2 (dj h2.1 (by decide)) (dj h2.2 (by decide)) t (dj ht (by decide))).lend bX (.cons (G8 (.same (by simp only [aI];exact h3)) (by rw [AM.wk,h1];rfl)) (.cons (G8 (.same (by simp only [aI];exact hc)) (by rw [AM.wk,hw])) .nil))
def tS:List (FuncId × List AV × AV):=X7 aB6 (rtT 0 1 1)++X7 (lfV 1 true) (lfT 1)
theorem xK:Runs tS:=(F1 (by decide) rfl (by kernel_rfl)).app (F1 (by decide) rfl (by kernel_rfl))
def tB:List (FuncId × List AV × AV):=X7 (lfV 0 true) (lfT 0)
theorem aBR:Runs tB:=F1 (by decide) rfl (by kernel_rfl)
def uL:AV:=.sl false [[.sl true [],.int .i64 0],[.sl false [[.int .i64 0]],.int .i64 13],[.sl false [[.int .i64 1]],.int .i64 13]]
theorem T9:Pure Tryz.prog G0 33 [jK,lJ] uL:=sQ xK [101] (by kernel_rfl) (by kernel_rfl)
theorem TB:Pure Tryz.prog G0 52 [jK,lJ,uL] uL:=sQ xK [99,66] (by kernel_rfl) (by kernel_rfl)
def Y7:AV:=.agg [.sl false [[.sl true [],.int .i64 0]]]
theorem aB0:Pure Tryz.prog G0 13 [jK,lJ,Y7] (.tup [IL 1 1 1,.int .i64 0]):=sQ xK [58,76] (by kernel_rfl) (by kernel_rfl)
def aCq:AV:=.str ⟨#[129,4,129,9,129,1,128,129,2,129,4,129,4,129,1,128,128,129,4,129,4,129,1,128,128]⟩
theorem aB4:Pure Tryz.prog G0 54 [IL 1 1 1] aCq:=sQ (T:=[]) (fun e he=>by cases he) [99,66] (by kernel_rfl) (by kernel_rfl)
def aCg:AV:=.agg [.sl false [[.sl false [[.int .i64 0]],.int .i64 13]]]
theorem aBZ:Pure Tryz.prog G0 13 [jK,lJ,aCg] (.tup [IL 0 0 1,.int .i64 0]):=sQ xK [58,76] (by kernel_rfl) (by kernel_rfl)
def aCp:AV:=.str ⟨#[129,4,129,9,128,128,129,2,129,4,129,4,128,128,128,129,4,129,4,129,1,128,128]⟩
theorem aB3:Pure Tryz.prog G0 54 [IL 0 0 1] aCp:=sQ (T:=[]) (fun e he=>by cases he) [99,66] (by kernel_rfl) (by kernel_rfl)
def aCf:AV:=.agg [.sl false [[.sl false [[.int .i64 1]],.int .i64 13]]]
theorem aBY:Pure Tryz.prog G0 13 [jK,lJ,aCf] (.tup [IL 0 1 0,.int .i64 0]):=sQ xK [58,76] (by kernel_rfl) (by kernel_rfl)
def aCo:AV:=.str ⟨#[129,4,129,9,128,128,129,2,129,4,129,4,129,1,128,128,129,4,129,4,128,128,128]⟩
theorem aB2:Pure Tryz.prog G0 54 [IL 0 1 0] aCo:=sQ (T:=[]) (fun e he=>by cases he) [99,66] (by kernel_rfl) (by kernel_rfl)
def MH:AV:=.agg [.sl false [[.sl false [[.int .i64 0]],.int .i64 13],[.sl false [[.int .i64 1]],.int .i64 13]]]
theorem ZE:Pure Tryz.prog G0 13 [jK,lJ,MH] (.tup [IL 0 0 0,.int .i64 0]):=sQ xK [58,76] (by kernel_rfl) (by kernel_rfl)
def aCn:AV:=.str ⟨#[129,4,129,9,128,128,129,2,129,4,129,4,128,128,128,129,4,129,4,128,128,128]⟩
theorem aB1:Pure Tryz.prog G0 54 [IL 0 0 0] aCn:=sQ (T:=[]) (fun e he=>by cases he) [99,66] (by kernel_rfl) (by kernel_rfl)
def aCV:List (FuncId × List AV × AV):=([(46,[],lJ)]++([(33,[jK,lJ],uL)]++([(52,[jK,lJ,uL],uL)]++([(13,[jK,lJ,Y7],.tup [IL 1 1 1,.int .i64 0])]++([(54,[IL 1 1 1],aCq)]++([(13,[jK,lJ,aCg],.tup [IL 0 0 1,.int .i64 0])]++([(54,[IL 0 0 1],aCp)]++([(13,[jK,lJ,aCf],.tup [IL 0 1 0,.int .i64 0])]++([(54,[IL 0 1 0],aCo)]++([(13,[jK,lJ,MH],.tup [IL 0 0 0,.int .i64 0])]++[(54,[IL 0 0 0],aCn)]))))))))))
theorem X8:Runs aCV:=(Runs.app (Runs.one aAy) (Runs.app (Runs.one T9) (Runs.app (Runs.one TB) (Runs.app (Runs.one aB0) (Runs.app (Runs.one aB4) (Runs.app (Runs.one aBZ) (Runs.app (Runs.one aB3) (Runs.app (Runs.one aBY) (Runs.app (Runs.one aB2) (Runs.app (Runs.one ZE) (Runs.one aB1)))))))))))
def aCC:AV:=.tup [.sl false [[.sl false [[.sl true [],.int .i64 0]]],[.sl false [[.sl false [[.int .i64 0]],.int .i64 13]]],[.sl false [[.sl false [[.int .i64 1]],.int .i64 13]]],[.sl false [[.sl false [[.int .i64 0]],.int .i64 13],[.sl false [[.int .i64 1]],.int .i64 13]]]],.int .i64 0]
theorem aAr:Pure Tryz.prog G0 20 [jK,lJ,.int .i64 2] aCC:=sQ X8 [53] (by kernel_rfl) (by kernel_rfl)
def ZP:AV:=.tup [.agg [.sl false [[.sl false [[.int .i64 0]],.int .i64 12],[.sl false [[.int .i64 1]],.int .i64 12]]],.int .i64 0]
theorem XK:Pure Tryz.prog G0 27 [jK,lJ,MH] ZP:=sQ (xK.app aBR) [63,58,76] (by kernel_rfl) (by kernel_rfl)
theorem aAq:Pure Tryz.prog G0 17 [Y7,MH] (.int .i64 (-1)):=sQ (T:=[]) (fun e he=>by cases he) [] (by kernel_rfl) (by kernel_rfl)
theorem UG:Pure Tryz.prog G0 16 [] (.bool true):=sQ (T:=([(46,[],lJ)]++([(20,[jK,lJ,.int .i64 2],aCC)]++([(13,[jK,lJ,MH],.tup [IL 0 0 0,.int .i64 0])]++([(27,[jK,lJ,MH],ZP)]++[(17,[Y7,MH],.int .i64 (-1))]))))) (Runs.app (Runs.one aAy) (Runs.app (Runs.one aAr) (Runs.app (Runs.one ZE) (Runs.app (Runs.one XK) (Runs.one aAq))))) [] (by kernel_rfl) (by kernel_rfl)
end Go.Proofs.YtggflhbigolakaaGreatDoor
