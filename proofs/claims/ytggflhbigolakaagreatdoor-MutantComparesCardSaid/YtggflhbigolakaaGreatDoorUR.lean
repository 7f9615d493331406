import Derived.Test.YtggflhbigolakaaGreatDoorUJ
import Derived.Test.YtggflhbigolakaaGreatDoorUM
set_option linter.unusedVariables false
set_option linter.unusedSimpArgs false
namespace Go.Proofs.YtggflhbigolakaaGreatDoor
open Go.AM
attribute [local irreducible] AWp aY bC bI bU bW aN aS bL
set_option maxRecDepth 100000
def Runs (T:List (FuncId × List AV × AV)):Prop:=∀ e∈T,Pure Tryz.prog G0 e.1 e.2.1 e.2.2
theorem Runs.app {a b:List (FuncId × List AV × AV)} (ha:Runs a) (hb:Runs b):Runs (a++b):=fun e he=>(List.mem_append.1 he).elim (ha e) (hb e)
theorem Runs.one {f:FuncId} {a:List AV} {v:AV} (h:Pure Tryz.prog G0 f a v):Runs [(f,a,v)]:=fun e he=>by
 obtain rfl:=List.mem_singleton.1 he
 exact h
theorem o7 {T:List (FuncId × List AV × AV)} (hT:Runs T) (K:List FuncId) {f:FuncId} {args:List AV} {v:AV} (ht:inR aC v=true) (h:LO Tryz.prog G0 60 T K 60 f args []=some (v,[])):Pure Tryz.prog G0 f args v:=kF 60 60 _ K hT hG0 (by kernel_rfl) ht h
def lfT (n:Int):T:=.mk 4 n 0 []
def rtT (op a b:Int):T:=.mk 9 op 0 [lfT a,lfT b]
def lfV (n:Int) (b:Bool):AV:=.agg [.int .i64 4,.int .i64 n,.int .i64 0,.sl b []]
def rtW (op a b:Int):AV:=.agg [.int .i64 9,.int .i64 op,.int .i64 0,.sl false [[.int .i64 4,.int .i64 a,.int .i64 0,.sl true []],[.int .i64 4,.int .i64 b,.int .i64 0,.sl true []]]]
def RL:AV:=.agg [.int .i64 9,.int .i64 0,.int .i64 0,.sl false [[.int .i64 4,.int .i64 1,.int .i64 0,.sl true []],[.int .i64 4,.int .i64 1,.int .i64 0,.sl true []]]]
def gH:AV:=.agg [.int .i64 9,.int .i64 0,.int .i64 0,.sl true [[.int .i64 4,.int .i64 1,.int .i64 0,.sl true []],[.int .i64 4,.int .i64 1,.int .i64 0,.sl true []]]]
def MF (v:AV) (t:T):List (FuncId × List AV × AV):=n6.map fun e=>(25,[.agg e,v],fJ (qV (C7 e) t))
theorem zO {cs:List AV} {t:T} (ht:T.size t≤1000) (hc:inL aC cs=true) (hw:wkL cs=T.enc t):Runs (MF (.agg cs) t):=fun e he=>by
 obtain ⟨c,hm,rfl⟩:=List.mem_map.1 he
 have h1:wkL c=opC (C7 c):=by
  have h:=JE
  rw [JF,List.map_map] at h
  exact List.map_inj_left.1 h c hm
 have h2:=JD (C7 c) (List.mem_map.2 ⟨c,hm,rfl⟩)
 have h3:=jN s6 c hm
 exact (BM (C7 c).1 (C7 c).2.1 (C7 c).2.2.1 (C7 c).2.2.2 (Nat.le_trans h2.1 (by decide)) (Nat.le_trans h2.2 (by decide)) t (Nat.le_trans ht (by decide))).lend hG0 (.cons (AO (.same (by simp only [inR];exact h3)) (by rw [AM.wk,h1];rfl)) (.cons (AO (.same (by simp only [inR];exact hc)) (by rw [AM.wk,hw])) .nil))
def tS:List (FuncId × List AV × AV):=MF RL (rtT 0 1 1)++MF (lfV 1 true) (lfT 1)
theorem sY:Runs tS:=(zO (by decide) rfl (by kernel_rfl)).app (zO (by decide) rfl (by kernel_rfl))
def tB:List (FuncId × List AV × AV):=MF (lfV 0 true) (lfT 0)
theorem R9:Runs tB:=zO (by decide) rfl (by kernel_rfl)
def qF:AV:=.sl false [[.sl true [],.int .i64 0],[.sl false [[.int .i64 0]],.int .i64 13],[.sl false [[.int .i64 1]],.int .i64 13]]
theorem JO:Pure Tryz.prog G0 33 [gH,iV] qF:=o7 sY [101] (by kernel_rfl) (by kernel_rfl)
theorem JQ:Pure Tryz.prog G0 52 [gH,iV,qF] qF:=o7 sY [99,66] (by kernel_rfl) (by kernel_rfl)
def NA:AV:=.agg [.sl false [[.sl true [],.int .i64 0]]]
theorem RF:Pure Tryz.prog G0 13 [gH,iV,NA] (.tup [rtW 1 1 1,.int .i64 0]):=o7 sY [58,76] (by kernel_rfl) (by kernel_rfl)
def S0:AV:=.str ⟨#[129,4,129,9,129,1,128,129,2,129,4,129,4,129,1,128,128,129,4,129,4,129,1,128,128]⟩
theorem RK:Pure Tryz.prog G0 54 [rtW 1 1 1] S0:=o7 (T:=[]) (fun e he=>by cases he) [99,66] (by kernel_rfl) (by kernel_rfl)
def RS:AV:=.agg [.sl false [[.sl false [[.int .i64 0]],.int .i64 13]]]
theorem RE:Pure Tryz.prog G0 13 [gH,iV,RS] (.tup [rtW 0 0 1,.int .i64 0]):=o7 sY [58,76] (by kernel_rfl) (by kernel_rfl)
def RZ:AV:=.str ⟨#[129,4,129,9,128,128,129,2,129,4,129,4,128,128,128,129,4,129,4,129,1,128,128]⟩
theorem RI:Pure Tryz.prog G0 54 [rtW 0 0 1] RZ:=o7 (T:=[]) (fun e he=>by cases he) [99,66] (by kernel_rfl) (by kernel_rfl)
def RR:AV:=.agg [.sl false [[.sl false [[.int .i64 1]],.int .i64 13]]]
theorem RD:Pure Tryz.prog G0 13 [gH,iV,RR] (.tup [rtW 0 1 0,.int .i64 0]):=o7 sY [58,76] (by kernel_rfl) (by kernel_rfl)
def RY:AV:=.str ⟨#[129,4,129,9,128,128,129,2,129,4,129,4,129,1,128,128,129,4,129,4,128,128,128]⟩
theorem RH:Pure Tryz.prog G0 54 [rtW 0 1 0] RY:=o7 (T:=[]) (fun e he=>by cases he) [99,66] (by kernel_rfl) (by kernel_rfl)
def FL:AV:=.agg [.sl false [[.sl false [[.int .i64 0]],.int .i64 13],[.sl false [[.int .i64 1]],.int .i64 13]]]
theorem OH:Pure Tryz.prog G0 13 [gH,iV,FL] (.tup [rtW 0 0 0,.int .i64 0]):=o7 sY [58,76] (by kernel_rfl) (by kernel_rfl)
def RX:AV:=.str ⟨#[129,4,129,9,128,128,129,2,129,4,129,4,128,128,128,129,4,129,4,128,128,128]⟩
theorem RG:Pure Tryz.prog G0 54 [rtW 0 0 0] RX:=o7 (T:=[]) (fun e he=>by cases he) [99,66] (by kernel_rfl) (by kernel_rfl)
def SM:List (FuncId × List AV × AV):=([(46,[],iV)]++([(33,[gH,iV],qF)]++([(52,[gH,iV,qF],qF)]++([(13,[gH,iV,NA],.tup [rtW 1 1 1,.int .i64 0])]++([(54,[rtW 1 1 1],S0)]++([(13,[gH,iV,RS],.tup [rtW 0 0 1,.int .i64 0])]++([(54,[rtW 0 0 1],RZ)]++([(13,[gH,iV,RR],.tup [rtW 0 1 0,.int .i64 0])]++([(54,[rtW 0 1 0],RY)]++([(13,[gH,iV,FL],.tup [rtW 0 0 0,.int .i64 0])]++[(54,[rtW 0 0 0],RX)]))))))))))
theorem MG:Runs SM:=(Runs.app (Runs.one PO) (Runs.app (Runs.one JO) (Runs.app (Runs.one JQ) (Runs.app (Runs.one RF) (Runs.app (Runs.one RK) (Runs.app (Runs.one RE) (Runs.app (Runs.one RI) (Runs.app (Runs.one RD) (Runs.app (Runs.one RH) (Runs.app (Runs.one OH) (Runs.one RG)))))))))))
def SC:AV:=.tup [.sl false [[.sl false [[.sl true [],.int .i64 0]]],[.sl false [[.sl false [[.int .i64 0]],.int .i64 13]]],[.sl false [[.sl false [[.int .i64 1]],.int .i64 13]]],[.sl false [[.sl false [[.int .i64 0]],.int .i64 13],[.sl false [[.int .i64 1]],.int .i64 13]]]],.int .i64 0]
theorem PH:Pure Tryz.prog G0 20 [gH,iV,.int .i64 2] SC:=o7 MG [53] (by kernel_rfl) (by kernel_rfl)
def OU:AV:=.tup [.agg [.sl false [[.sl false [[.int .i64 0]],.int .i64 12],[.sl false [[.int .i64 1]],.int .i64 12]]],.int .i64 0]
theorem MT:Pure Tryz.prog G0 27 [gH,iV,FL] OU:=o7 (sY.app R9) [63,58,76] (by kernel_rfl) (by kernel_rfl)
theorem PF:Pure Tryz.prog G0 17 [NA,FL] (.int .i64 (-1)):=o7 (T:=[]) (fun e he=>by cases he) [] (by kernel_rfl) (by kernel_rfl)
theorem DK:Pure Tryz.prog G0 16 [] (.bool true):=o7 (T:=([(46,[],iV)]++([(20,[gH,iV,.int .i64 2],SC)]++([(13,[gH,iV,FL],.tup [rtW 0 0 0,.int .i64 0])]++([(27,[gH,iV,FL],OU)]++[(17,[NA,FL],.int .i64 (-1))]))))) (Runs.app (Runs.one PO) (Runs.app (Runs.one PH) (Runs.app (Runs.one OH) (Runs.app (Runs.one MT) (Runs.one PF))))) [] (by kernel_rfl) (by kernel_rfl)
end Go.Proofs.YtggflhbigolakaaGreatDoor
