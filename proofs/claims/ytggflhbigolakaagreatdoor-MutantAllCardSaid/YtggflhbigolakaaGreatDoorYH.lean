import Derived.Test.YtggflhbigolakaaGreatDoorYG
namespace Go.Proofs.YtggflhbigolakaaGreatDoor
open Go.AM
attribute [local irreducible] cG bG bI bL bW bZ aQ aV bN
namespace G7
def cal (e:Env) (kind depth:Int) (s:St):T × St:=call e (fun kd s=>expr e 3 kd (depth - 1) s) kind s
def stm (e:Env):Nat->Int->St->T × St
 |0,depth,s=>stmtS e (expr e 3) (cal e) (fun s=>(.mk 0 0 0 [],s)) depth s
 |d+1,depth,s=>stmtS e (expr e 3) (cal e) (nestS e (expr e 3 1 2) (fun most s=>blockS e (fun s=>stm e d (depth - 1) s) most s) (fun v s=>loopS e (fun s=>stm e d (depth - 1) s) v s)) depth s
def block (e:Env) (s:St):T × St:=blockS e (stm e 3 3) 4 s
end G7
theorem KD {x:MX} {e:G7.Env} {r:Nat} {f:Fn} (hx:x.ok) (h:EnvOK x e r f) (h':NO x e):∀ (d:Nat) (kind depth:Int),depth<=d-> -9223372036854775806<depth->depth<=9223372036854775807->rK x 134 [.int .i64 kind,.int .i64 depth] vT (G7.expr e d kind depth)
 |0,kind,depth,h1,h2,h3=>by
  have:=V2 hx h h' kind depth h2 h3 (fun _ _ s=>(.mk 0 0 0 [],s)) fun h4=>by omega
  have e0:G7.exprS e (fun _ _ s=>(.mk 0 0 0 [],s)) kind depth=G7.expr e 0 kind depth:=by
   funext s
   rw [G7.exprS,if_pos (by omega),G7.expr]
  rwa [e0] at this
 |d+1,kind,depth,h1,h2,h3=>by
  have:=V2 hx h h' kind depth h2 h3 (fun k dd s=>G7.expr e d k dd s) fun h4 kd dd hdd=>KD hx h h' d kd dd (by omega) (by omega) (by omega)
  have e0:G7.exprS e (fun k dd s=>G7.expr e d k dd s) kind depth=G7.expr e (d+1) kind depth:=by
   funext s
   rw [G7.expr]
  rwa [e0] at this
theorem aBT {x:MX} {e:G7.Env} {r:Nat} {f:Fn} (hx:x.ok) (h:EnvOK x e r f) (h':NO x e):∀ (d:Nat) (depth:Int),depth<=d-> -9223372036854775806<depth->depth<=9223372036854775807->rK x 126 [.int .i64 depth] vT (G7.stm e d depth):=by
 have hE:∀ kd dd:Int,(dd=1\/dd=2\/dd=3\/dd=0)->rK x 134 [.int .i64 kd,.int .i64 dd] vT (G7.expr e 3 kd dd):=fun kd dd hdd=>KD hx h h' 3 kd dd (by omega) (by omega) (by omega)
 have hC:∀ kd dd:Int,(dd=1\/dd=2)->rK x 133 [.int .i64 kd,.int .i64 dd] vT (G7.cal e kd dd):=fun kd dd hdd=>VS hx h' kd dd (by omega) (by omega) (fun kd s=>G7.expr e 3 kd (dd - 1) s) fun k=>hE k (dd - 1) (by omega)
 intro d
 induction d with
 |zero=>
  intro depth h1 h2 h3
  have:=SW hx h h' depth (G7.expr e 3) (G7.cal e) (fun s=>(.mk 0 0 0 [],s)) hE hC fun h4=>by omega
  have e0:G7.stmtS e (G7.expr e 3) (G7.cal e) (fun s=>(.mk 0 0 0 [],s)) depth=G7.stm e 0 depth:=by
   funext s
   rw [G7.stm]
  rwa [e0] at this
 |succ d ih=>
  intro depth h1 h2 h3
  have:=SW hx h h' depth (G7.expr e 3) (G7.cal e) (G7.nestS e (G7.expr e 3 1 2) (fun most s=>G7.blockS e (fun s=>G7.stm e d (depth - 1) s) most s) (fun v s=>G7.loopS e (fun s=>G7.stm e d (depth - 1) s) v s)) hE hC fun h4=>by
   have hS:=ih (depth - 1) (by omega) (by omega) (by omega)
   exact U5 hx h depth h2 h3 _ _ _ (hE 1 2 (.inr (.inl rfl))) (fun most h5 h6=>PW hx h.L (depth - 1) most h5 h6 _ hS) fun v=>aAW hx h.L v depth h2 h3 _ hS
  have e0:G7.stmtS e (G7.expr e 3) (G7.cal e) (G7.nestS e (G7.expr e 3 1 2) (fun most s=>G7.blockS e (fun s=>G7.stm e d (depth - 1) s) most s) (fun v s=>G7.loopS e (fun s=>G7.stm e d (depth - 1) s) v s)) depth=G7.stm e (d+1) depth:=by
   funext s
   rw [G7.stm]
  rwa [e0] at this
theorem aCy {x:MX} {e:G7.Env} {r:Nat} {f:Fn} (hx:x.ok) (h:EnvOK x e r f) (h':NO x e):rK x 104 [.int .i64 3,.int .i64 4] vT (G7.block e):=PW hx h.L 3 4 (by decide) (by decide) _ (aBT hx h h' 3 3 (by decide) (by decide) (by decide))
end Go.Proofs.YtggflhbigolakaaGreatDoor
