import Derived.Test.YtggflhbigolakaaGreatDoorM1
set_option linter.unusedVariables false
set_option linter.unusedSimpArgs false
namespace Go.Proofs.YtggflhbigolakaaGreatDoor
open Go.AM
attribute [local irreducible] AWp aY bC bI bU bW aN aS bL
set_option maxRecDepth 100000
theorem B1 {ks:List (List AV)} (h:∀ e∈ks,e.length=4):∀ {j:Nat} {e:List AV},ks[j]? =some e→ks.flatten.drop (j*4)=e++ks.flatten.drop ((j+1)*4):=by
 induction ks with
 |nil=>intro j e he;simp at he
 |cons a ks ih=>
  intro j e he
  have ha:a.length=4:=h a (by simp)
  cases j with
  |zero=>
   simp only [List.getElem?_cons_zero,Option.some.injEq] at he
   subst he
   simp only [List.flatten_cons,Nat.zero_mul,List.drop_zero,Nat.zero_add,Nat.one_mul]
   rw [List.drop_left' ha]
  |succ j=>
   simp only [List.getElem?_cons_succ] at he
   have:=ih (fun e he=>h e (by simp [he])) he
   simp only [List.flatten_cons]
   rw [show (j+1)*4=a.length+j*4 by omega,show (j+1+1)*4=a.length+(j+1)*4 by omega,List.drop_append,List.drop_append,@List.drop_eq_nil_of_le _ a _ (by omega),@List.drop_eq_nil_of_le _ a _ (by omega),Nat.add_sub_cancel_left,Nat.add_sub_cancel_left,List.nil_append,List.nil_append]
   exact this
theorem LC {f:Fn} (hf:f.wf) {j:Nat} (hj:j<f.q+1):∃ k n m b es tl,f.ks[j]? =some [.int .i64 k,.int .i64 n,.int .i64 m,.sl b es]∧es.length≤6∧(∀ e∈es,NodeV 12 e)∧f.ks.flatten.drop (j*4)=.int .i64 k::.int .i64 n::.int .i64 m::.sl b es::tl:=by
 obtain ⟨e,he⟩:∃ e,f.ks[j]? =some e:=⟨_,List.getElem?_eq_getElem (by rw [hf.1];exact hj)⟩
 have h:=hf.2.2.2 e (List.mem_of_getElem? he)
 have:=B1 (fun e he=>(hf.2.2.2 e he).len) he
 cases h with
 | @mk _ _ h' k n m b es hl hn=>exact ⟨k,n,m,b,es,_,he,hl,fun e he=>(hn e he).up (Nat.le_of_lt h'),by simpa using this⟩
theorem GX {a:Int} {q:Nat} (ha:0≤a) (hq:0<q):∃ j:Nat,a.tmod q=(j:Int)∧j<q:=by
 obtain ⟨n,rfl⟩:∃ n:Nat,a=n:=⟨a.toNat,(Int.toNat_of_nonneg ha).symm⟩
 exact ⟨n % q,by rw [Int.tmod_eq_emod_of_nonneg (by omega)];simp,Nat.mod_lt _ hq⟩
def zC (x:MX) (r:Nat) (f:Fn):Prop:=(r=2∧x.A2=f.row)∨(r=4∧x.A4=f.row)∨(r=5∧x.A5=f.row)
def OW (x:MX) (r:Nat) (f:Fn):Prop:=∀ rows at0 left,MR x rows at0 left→dH Tryz.prog G0 142 [.agg [.int .i64 x.pk,.int .i64 x.pn,.int .i64 x.pm,x.kv],.int .i64 x.F] rows [1,2,3,4,5] ⟨.osl r f.v 0 f.q 4 false,[]⟩
def M3 (x:MX) (r:Nat) (f:Fn):Prop:=f.wf∧zC x r f∧OW x r f
theorem oS {x:MX} (hx:x.ok):∃ r f,M3 x r f:=by
 obtain ⟨L,pk,pn,pm,F,kv,con,A2,A3,A4,A5⟩:=x
 have hok:=hx
 obtain ⟨hL,hcn,hP⟩:=hx
 simp only at hP
 cases hP with
 |one f0 vP bP _ _ wf0 hF _ _=>
  subst hF
  ·
   refine ⟨2,f0,wf0,.inl ⟨rfl,rfl⟩,gB hok.fr Tryz.func142 rfl (by kernel_rfl) (by simp [Tryz.ntmps142]) rfl rfl fun at0 left=>?_⟩
   have e1:IntKind.i64.wrap (((f0.q+1:Nat):Int) - 1)=(f0.q:Int):=by
    have:=wf0.2.2.1
    rw [cB (by omega) (by omega)];omega
   simp only [Tryz.ntmps142,aH,Nat.reduceAdd,MX.row,Fn.row,Fn.cells]
   have g1:f0.q≤f0.q+1:=Nat.le_succ _
   have g2:(f0.q==f0.q+1)=false:=by simp
   repeat' (first|(refine u'S ?_;simp only [wS,simprocAttr,e1,g1,g2,Fn.cells,Fn.row,or_true,Bool.and_false,Nat.zero_mul,Bool.or_self])|refine u'Q fun _ _=>?_|refine aV ?_|refine aR (fun hg=>?_) fun hg=>?_|fail)
   refine aB rfl ⟨?_,?_⟩
   ·simp only [wS,simprocAttr,Fn.cells,Fn.row,MX.row,e1]
   ·refine ⟨?_,?_,?_,?_,?_⟩<;>(simp only [wS,simprocAttr,Fn.cells,Fn.row,MX.row];try exact rfl)
 |two f0 f1 vP bP _ wf0 wf1 hF _=>
  rcases hF with rfl|rfl
  ·
   refine ⟨2,f0,wf0,.inl ⟨rfl,rfl⟩,gB hok.fr Tryz.func142 rfl (by kernel_rfl) (by simp [Tryz.ntmps142]) rfl rfl fun at0 left=>?_⟩
   have e1:IntKind.i64.wrap (((f0.q+1:Nat):Int) - 1)=(f0.q:Int):=by
    have:=wf0.2.2.1
    rw [cB (by omega) (by omega)];omega
   simp only [Tryz.ntmps142,aH,Nat.reduceAdd,MX.row,Fn.row,Fn.cells]
   have g1:f0.q≤f0.q+1:=Nat.le_succ _
   have g2:(f0.q==f0.q+1)=false:=by simp
   repeat' (first|(refine u'S ?_;simp only [wS,simprocAttr,e1,g1,g2,Fn.cells,Fn.row,or_true,Bool.and_false,Nat.zero_mul,Bool.or_self])|refine u'Q fun _ _=>?_|refine aV ?_|refine aR (fun hg=>?_) fun hg=>?_|fail)
   refine aB rfl ⟨?_,?_⟩
   ·simp only [wS,simprocAttr,Fn.cells,Fn.row,MX.row,e1]
   ·refine ⟨?_,?_,?_,?_,?_⟩<;>(simp only [wS,simprocAttr,Fn.cells,Fn.row,MX.row];try exact rfl)
  ·
   refine ⟨4,f1,wf1,.inr (.inl ⟨rfl,rfl⟩),gB hok.fr Tryz.func142 rfl (by kernel_rfl) (by simp [Tryz.ntmps142]) rfl rfl fun at0 left=>?_⟩
   have e1:IntKind.i64.wrap (((f1.q+1:Nat):Int) - 1)=(f1.q:Int):=by
    have:=wf1.2.2.1
    rw [cB (by omega) (by omega)];omega
   simp only [Tryz.ntmps142,aH,Nat.reduceAdd,MX.row,Fn.row,Fn.cells]
   have g1:f1.q≤f1.q+1:=Nat.le_succ _
   have g2:(f1.q==f1.q+1)=false:=by simp
   repeat' (first|(refine u'S ?_;simp only [wS,simprocAttr,e1,g1,g2,Fn.cells,Fn.row,or_true,Bool.and_false,Nat.zero_mul,Bool.or_self])|refine u'Q fun _ _=>?_|refine aV ?_|refine aR (fun hg=>?_) fun hg=>?_|fail)
   refine aB rfl ⟨?_,?_⟩
   ·simp only [wS,simprocAttr,Fn.cells,Fn.row,MX.row,e1]
   ·refine ⟨?_,?_,?_,?_,?_⟩<;>(simp only [wS,simprocAttr,Fn.cells,Fn.row,MX.row];try exact rfl)
 |three f0 f1 f2 vP bP wf0 wf1 wf2 hF=>
  rcases hF with rfl|rfl|rfl
  ·
   refine ⟨2,f0,wf0,.inl ⟨rfl,rfl⟩,gB hok.fr Tryz.func142 rfl (by kernel_rfl) (by simp [Tryz.ntmps142]) rfl rfl fun at0 left=>?_⟩
   have e1:IntKind.i64.wrap (((f0.q+1:Nat):Int) - 1)=(f0.q:Int):=by
    have:=wf0.2.2.1
    rw [cB (by omega) (by omega)];omega
   simp only [Tryz.ntmps142,aH,Nat.reduceAdd,MX.row,Fn.row,Fn.cells]
   have g1:f0.q≤f0.q+1:=Nat.le_succ _
   have g2:(f0.q==f0.q+1)=false:=by simp
   repeat' (first|(refine u'S ?_;simp only [wS,simprocAttr,e1,g1,g2,Fn.cells,Fn.row,or_true,Bool.and_false,Nat.zero_mul,Bool.or_self])|refine u'Q fun _ _=>?_|refine aV ?_|refine aR (fun hg=>?_) fun hg=>?_|fail)
   refine aB rfl ⟨?_,?_⟩
   ·simp only [wS,simprocAttr,Fn.cells,Fn.row,MX.row,e1]
   ·refine ⟨?_,?_,?_,?_,?_⟩<;>(simp only [wS,simprocAttr,Fn.cells,Fn.row,MX.row];try exact rfl)
  ·
   refine ⟨4,f1,wf1,.inr (.inl ⟨rfl,rfl⟩),gB hok.fr Tryz.func142 rfl (by kernel_rfl) (by simp [Tryz.ntmps142]) rfl rfl fun at0 left=>?_⟩
   have e1:IntKind.i64.wrap (((f1.q+1:Nat):Int) - 1)=(f1.q:Int):=by
    have:=wf1.2.2.1
    rw [cB (by omega) (by omega)];omega
   simp only [Tryz.ntmps142,aH,Nat.reduceAdd,MX.row,Fn.row,Fn.cells]
   have g1:f1.q≤f1.q+1:=Nat.le_succ _
   have g2:(f1.q==f1.q+1)=false:=by simp
   repeat' (first|(refine u'S ?_;simp only [wS,simprocAttr,e1,g1,g2,Fn.cells,Fn.row,or_true,Bool.and_false,Nat.zero_mul,Bool.or_self])|refine u'Q fun _ _=>?_|refine aV ?_|refine aR (fun hg=>?_) fun hg=>?_|fail)
   refine aB rfl ⟨?_,?_⟩
   ·simp only [wS,simprocAttr,Fn.cells,Fn.row,MX.row,e1]
   ·refine ⟨?_,?_,?_,?_,?_⟩<;>(simp only [wS,simprocAttr,Fn.cells,Fn.row,MX.row];try exact rfl)
  ·
   refine ⟨5,f2,wf2,.inr (.inr ⟨rfl,rfl⟩),gB hok.fr Tryz.func142 rfl (by kernel_rfl) (by simp [Tryz.ntmps142]) rfl rfl fun at0 left=>?_⟩
   have e1:IntKind.i64.wrap (((f2.q+1:Nat):Int) - 1)=(f2.q:Int):=by
    have:=wf2.2.2.1
    rw [cB (by omega) (by omega)];omega
   simp only [Tryz.ntmps142,aH,Nat.reduceAdd,MX.row,Fn.row,Fn.cells]
   have g1:f2.q≤f2.q+1:=Nat.le_succ _
   have g2:(f2.q==f2.q+1)=false:=by simp
   repeat' (first|(refine u'S ?_;simp only [wS,simprocAttr,e1,g1,g2,Fn.cells,Fn.row,or_true,Bool.and_false,Nat.zero_mul,Bool.or_self])|refine u'Q fun _ _=>?_|refine aV ?_|refine aR (fun hg=>?_) fun hg=>?_|fail)
   refine aB rfl ⟨?_,?_⟩
   ·simp only [wS,simprocAttr,Fn.cells,Fn.row,MX.row,e1]
   ·refine ⟨?_,?_,?_,?_,?_⟩<;>(simp only [wS,simprocAttr,Fn.cells,Fn.row,MX.row];try exact rfl)
theorem GQ {x:MX} {r:Nat} {f:Fn} (h:zC x r f) (Z Y:ARow):[Y,Z,x.A2,x.A3,x.A4,x.A5].getD r .none=f.row:=by
 rcases h with ⟨rfl,h⟩|⟨rfl,h⟩|⟨rfl,h⟩<;>exact h
theorem PW {x:MX} {r:Nat} {f:Fn} (h:zC x r f):(r=1)=False:=by
 rcases h with ⟨rfl,h⟩|⟨rfl,h⟩|⟨rfl,h⟩<;>simp
theorem eF {x:MX} (hx:x.ok) (kind:Int) {r:Nat} {f:Fn} (h:M3 x r f):MC x 135 [.int .i64 kind] (VI (-1) f.q):=by
 obtain ⟨hw,ha,hv⟩:=h
 have hA:=GQ ha
 refine dK hx.fr Tryz.func135 rfl (by kernel_rfl) (by simp [Tryz.ntmps135]) rfl fun at0 left=>?_
 simp only [Tryz.ntmps135,aH,Nat.reduceAdd,MX.row]
 repeat' (first|(refine u'S ?_;simp only [wS,simprocAttr])|refine v'Q fun _ _=>?_|refine bB ?_|refine aZ (fun hg=>?_) fun hg=>?_|fail)
 refine kW ⟨_,rfl,hv _ at0 left (by refine ⟨?_,?_,?_,?_,?_⟩<;>((try simp only [wS,simprocAttr,MX.row]);try exact rfl))⟩ ?_
 rintro eff rfl
 simp only [wS,simprocAttr]
 repeat' (first|(refine u'S ?_;simp only [wS,simprocAttr])|refine v'Q fun _ _=>?_|refine bB ?_|refine aZ (fun hg=>?_) fun hg=>?_|fail)
 refine aK (bS hx.fr 6 (by decide)) at0 left (by refine ⟨?_,?_,?_,?_,?_⟩<;>((try simp only [wS,simprocAttr,MX.row]);try exact rfl)) ?_
 rintro v at1 left1 ⟨fr,rfl,hf1,hf2⟩ -
 simp only [wS,simprocAttr,MX.row]
 repeat' (first|(refine u'S ?_;simp only [wS,simprocAttr])|refine v'Q fun _ _=>?_|refine bB ?_|refine aZ (fun hg=>?_) fun hg=>?_|fail)
 refine fR (α:={k:Nat // k≤f.q}) (fun k=>[(0,.ptr 1 0 0),(1,.int .i64 kind),(5,.osl r f.v 0 f.q 4 false),(6,.int .i64 fr),(7,.int .i64 k.1)]) (fun _=>[.dead,x.row at1 left1,x.A2,x.A3,x.A4,x.A5]) (fun k=>f.q - k.1) ⟨0,Nat.zero_le _⟩ (Weak.ref ⟨?_,.inl ?_⟩) ?_
 ·exact u'p
 ·exact u'p
 ·rintro ⟨k,hk⟩ K2 hK2
  have hq:=hw.2.2.1
  repeat' (first|(refine u'S ?_;simp only [wS,simprocAttr,MX.row,hA,Fn.row])|refine v'Q fun _ _=>?_|refine bB ?_|refine aZ (fun hg=>?_) fun hg=>?_|fail)
  refine bD (fun h=>?_) (fun h=>?_)
  ·have hlt:k<f.q:=by simpa using h
   have hq0:((f.q:Nat):Int)≠0:=by omega
   have e1:IntKind.i64.wrap (fr+(k:Int))=fr+k:=cO (by omega) (by omega)
   obtain ⟨j,e2,hj⟩:=GX (a:=fr+(k:Int)) (q:=f.q) (by omega) (by omega)
   obtain ⟨kd,nn,mm,b,es,tl,_,_,_,hd⟩:=LC hw (j:=j) (by omega)
   have e3:=aL (k:=k) hlt (by omega)
   repeat' (first|(refine u'S ?_;simp only [wS,simprocAttr,MX.row,e1,e2,hq0,hj,hA,Fn.row,hd])|refine v'Q fun _ _=>?_|refine bB ?_|refine aZ (fun hg=>?_) fun hg=>?_|fail)
   refine bD (fun h2=>?_) (fun h2=>?_)
   ·repeat' (first|(refine u'S ?_;simp only [wS,simprocAttr])|refine v'Q fun _ _=>?_|refine bB ?_|refine aZ (fun hg=>?_) fun hg=>?_|fail)
    exact B9 rfl rfl (by refine ⟨?_,?_,?_,?_,?_⟩<;>((try simp only [wS,simprocAttr,MX.row]);try exact rfl)) ⟨_,rfl,by omega,by omega⟩ rfl
   ·repeat' (first|(refine u'S ?_;simp only [wS,simprocAttr,e3])|refine v'Q fun _ _=>?_|refine bB ?_|refine aZ (fun hg=>?_) fun hg=>?_|fail)
    refine hK2 _ ⟨k+1,hlt⟩ (Weak.ref ⟨?_,.inl ?_⟩) (by simp only;omega)
    ·exact u'p
    ·simp only [wS,simprocAttr,hA,Fn.row];try exact rfl
  ·repeat' (first|(refine u'S ?_;simp only [wS,simprocAttr])|refine v'Q fun _ _=>?_|refine bB ?_|refine aZ (fun hg=>?_) fun hg=>?_|fail)
   exact B9 rfl rfl (by refine ⟨?_,?_,?_,?_,?_⟩<;>((try simp only [wS,simprocAttr,MX.row]);try exact rfl)) ⟨_,rfl,by omega,by omega⟩ rfl
theorem eJ {x:MX} (hx:x.ok) (kind:Int):MC x 136 [.int .i64 kind] VF:=by
 obtain ⟨r,f,hva⟩:=oS hx
 have hw:=hva.1
 have hv:OW x r f:=hva.2.2
 have hA:=GQ hva.2.1
 have hr1:=PW hva.2.1
 refine dK hx.fr Tryz.func136 rfl (by kernel_rfl) (by simp [Tryz.ntmps136]) rfl fun at0 left=>?_
 simp only [Tryz.ntmps136,aH,Nat.reduceAdd,MX.row]
 repeat' (first|(refine u'S ?_;simp only [wS,simprocAttr])|refine v'Q fun _ _=>?_|refine bB ?_|refine aZ (fun hg=>?_) fun hg=>?_|fail)
 refine aK (eF hx 3 hva) at0 left (by refine ⟨?_,?_,?_,?_,?_⟩<;>((try simp only [wS,simprocAttr,MX.row]);try exact rfl)) ?_
 rintro v at1 left1 ⟨z,rfl,hz1,hz2⟩ -
 simp only [wS,simprocAttr,MX.row]
 repeat' (first|(refine u'S ?_;simp only [wS,simprocAttr])|refine v'Q fun _ _=>?_|refine bB ?_|refine aZ (fun hg=>?_) fun hg=>?_|fail)
 refine bD (fun h=>?_) (fun h=>?_)
 ·repeat' (first|(refine u'S ?_;simp only [wS,simprocAttr])|refine v'Q fun _ _=>?_|refine bB ?_|refine aZ (fun hg=>?_) fun hg=>?_|fail)
  exact B8 rfl rfl (by refine ⟨?_,?_,?_,?_,?_⟩<;>((try simp only [wS,simprocAttr,MX.row]);try exact rfl)) ⟨_,_,rfl⟩ rfl
 ·have hz:0≤z:=by simpa using h
  obtain ⟨j,rfl⟩:∃ j:Nat,z=j:=⟨z.toNat,(Int.toNat_of_nonneg hz).symm⟩
  have hj:j<f.q:=by omega
  obtain ⟨kd,nn,mm,b,es,tl,_,hes1,hes2,hd⟩:=LC hw (j:=j) (by omega)
  have hd3:f.ks.flatten.drop (j*4+3)=.sl b es::tl:=by rw [← List.drop_drop,hd];rfl
  repeat' (first|(refine u'S ?_;simp only [wS,simprocAttr])|refine v'Q fun _ _=>?_|refine bB ?_|refine aZ (fun hg=>?_) fun hg=>?_|fail)
  refine kW (R':=fun eff=>eff=⟨.osl r f.v 0 f.q 4 false,[]⟩) ⟨_,rfl,hv _ at1 left1 (by refine ⟨?_,?_,?_,?_,?_⟩<;>((try simp only [wS,simprocAttr,MX.row]);try exact rfl))⟩ ?_
  rintro eff rfl
  simp only [wS,simprocAttr,hj,hA,Fn.row,hd,hd3,hr1,if_false]
  repeat' (first|(refine u'S ?_;simp only [wS,simprocAttr,hj,hA,Fn.row,hd,hd3,hr1,if_false])|refine v'Q fun _ _=>?_|refine bB ?_|refine aZ (fun hg=>?_) fun hg=>?_|fail)
  refine aK (bS hx.fr 3 (by decide)) at1 left1 (by refine ⟨?_,?_,?_,?_,?_⟩<;>((try simp only [wS,simprocAttr,MX.row]);try exact rfl)) ?_
  rintro v at2 left2 ⟨fr,rfl,hf1,hf2⟩ -
  simp only [wS,simprocAttr,MX.row]
  repeat' (first|(refine u'S ?_;simp only [wS,simprocAttr])|refine v'Q fun _ _=>?_|refine bB ?_|refine aZ (fun hg=>?_) fun hg=>?_|fail)
  refine fR (α:={k:Nat // k≤es.length}) (fun k=>[(0,.ptr 1 0 0),(1,.int .i64 kind),(6,.int .i64 j),(7,.sl b es),(8,.int .i64 fr),(9,.int .i64 k.1)]) (fun _=>[.dead,x.row at2 left2,x.A2,x.A3,x.A4,x.A5]) (fun k=>es.length - k.1) ⟨0,Nat.zero_le _⟩ (Weak.ref ⟨?_,.inl ?_⟩) ?_
  ·exact u'p
  ·simp only [wS,simprocAttr,hA,Fn.row];try exact rfl
  ·rintro ⟨k,hk⟩ K2 hK2
   repeat' (first|(refine u'S ?_;simp only [wS,simprocAttr,MX.row])|refine v'Q fun _ _=>?_|refine bB ?_|refine aZ (fun hg=>?_) fun hg=>?_|fail)
   refine bD (fun h3=>?_) (fun h3=>?_)
   ·have hlt:k<es.length:=by simpa using h3
    have hq0:((es.length:Nat):Int)≠0:=by omega
    have e1:IntKind.i64.wrap (fr+(k:Int))=fr+k:=cO (by omega) (by omega)
    obtain ⟨i,e2,hi⟩:=GX (a:=fr+(k:Int)) (q:=es.length) (by omega) (by omega)
    obtain ⟨e,he⟩:∃ e,es[i]? =some e:=⟨_,List.getElem?_eq_getElem hi⟩
    obtain ⟨k1,n1,m1,b1,es1,rfl⟩:=bF (hes2 e (List.mem_of_getElem? he))
    have e3:=aL (k:=k) hlt (by omega)
    repeat' (first|(refine u'S ?_;simp only [wS,simprocAttr,MX.row,e1,e2,hq0,hi,he])|refine v'Q fun _ _=>?_|refine bB ?_|refine aZ (fun hg=>?_) fun hg=>?_|fail)
    refine bD (fun h4=>?_) (fun h4=>?_)
    ·repeat' (first|(refine u'S ?_;simp only [wS,simprocAttr])|refine v'Q fun _ _=>?_|refine bB ?_|refine aZ (fun hg=>?_) fun hg=>?_|fail)
     exact B8 rfl rfl (by refine ⟨?_,?_,?_,?_,?_⟩<;>((try simp only [wS,simprocAttr,MX.row]);try exact rfl)) ⟨_,_,rfl⟩ rfl
    ·repeat' (first|(refine u'S ?_;simp only [wS,simprocAttr,e3])|refine v'Q fun _ _=>?_|refine bB ?_|refine aZ (fun hg=>?_) fun hg=>?_|fail)
     refine hK2 _ ⟨k+1,hlt⟩ (Weak.ref ⟨?_,.inl ?_⟩) (by simp only;omega)
     ·exact u'p
     ·exact u'p
   ·repeat' (first|(refine u'S ?_;simp only [wS,simprocAttr])|refine v'Q fun _ _=>?_|refine bB ?_|refine aZ (fun hg=>?_) fun hg=>?_|fail)
    exact B8 rfl rfl (by refine ⟨?_,?_,?_,?_,?_⟩<;>((try simp only [wS,simprocAttr,MX.row]);try exact rfl)) ⟨_,_,rfl⟩ rfl
set_option maxHeartbeats 4000000 in
theorem fC {x:MX} (hx:x.ok) (kind:Int):MC x 141 [.int .i64 kind] (VN 1):=by
 obtain ⟨r,f,hva⟩:=oS hx
 have t0:True:=trivial
 refine dK hx.fr Tryz.func141 rfl (by kernel_rfl) (by simp [Tryz.ntmps141]) rfl fun at0 left=>?_
 simp only [Tryz.ntmps141,aH,Nat.reduceAdd,MX.row]
 repeat' (first|(refine u'S ?_;simp only [wS,simprocAttr,MX.row,t0])|refine v'Q fun _ _=>?_|refine bB ?_|refine aZ (fun hg=>?_) fun hg=>?_|(refine aK (bS hx.fr 10 (by decide)) _ _ (by refine ⟨?_,?_,?_,?_,?_⟩<;>((try simp only [wS,simprocAttr,MX.row]);try exact rfl)) ?_;rintro _ _ _ ⟨z,rfl,hz1,hz2⟩ -;obtain ⟨j,rfl⟩:∃ j:Nat,z=j:=⟨z.toNat,(Int.toNat_of_nonneg hz1).symm⟩;obtain ⟨y,t0⟩:∃ y,([[AV.int .i64 0],[AV.int .i64 1],[AV.int .i64 2],[AV.int .i64 3],[AV.int .i64 (-1)],[AV.int .i64 7],[AV.int .i64 (-8)],[AV.int .i64 5],[AV.int .i64 4],[AV.int .i64 (-3)]]:List (List AV))[j]? =some [AV.int .i64 y]:=FB (l:=[0,1,2,3, -1,7, -8,5,4, -3]) (Int.ofNat_lt.1 hz2);refine u'T ?_)|(refine aK (bS hx.fr _ (by decide)) _ _ (by refine ⟨?_,?_,?_,?_,?_⟩<;>((try simp only [wS,simprocAttr,MX.row]);try exact rfl)) ?_;rintro _ _ _ ⟨z,rfl,hz1,hz2⟩ -;simp only [wS,simprocAttr,MX.row])|(refine aK (eF hx _ hva) _ _ (by refine ⟨?_,?_,?_,?_,?_⟩<;>((try simp only [wS,simprocAttr,MX.row]);try exact rfl)) ?_;rintro _ _ _ ⟨y,rfl,hy1,hy2⟩ -;simp only [wS,simprocAttr,MX.row])|(refine aK (node_ok hx.fr _ _ _ _ (by first|assumption|simp) (by first|exact eM|exact gP (by assumption)|exact gF (by assumption) (by assumption)|exact dB (by assumption) (by assumption) (by assumption)|assumption)) _ _ (by refine ⟨?_,?_,?_,?_,?_⟩<;>((try simp only [wS,simprocAttr,MX.row]);try exact rfl)) ?_;rintro _ _ _ ⟨rfl,hn⟩ -;simp only [wS,simprocAttr,MX.row])|with_reducible refine bD (fun _=>?_) (fun _=>?_)|with_reducible refine cV (by kernel_rfl) ?_)
 all_goals refine cL rfl u'p (by refine ⟨?_,?_,?_,?_,?_⟩<;>((try simp only [wS,simprocAttr,MX.row]);try exact rfl)) ⟨_,rfl,by first|exact NodeV.up (by assumption) (by omega)|exact NodeV.up (NodeV.setM (by assumption)) (by omega)⟩
theorem NL {x:MX} (hx:x.ok):∃ n vP bP c3,x.kv=.osl 3 vP 0 n 4 bP∧x.A3=.cells vP c3∧c3.length=n*4∧1≤n∧n≤3∧∀ f,f<n→∃ r fn tl,fn.wf∧zC x r fn∧c3.drop (f*4)=fn.cells r++tl:=by
 obtain ⟨L,pk,pn,pm,F,kv,con,A2,A3,A4,A5⟩:=x
 obtain ⟨hL,hcn,hP⟩:=hx
 simp only at hP
 cases hP with
 |one f0 vP bP _ _ wf0 hF _ _=>
  refine ⟨1,vP,bP,_,rfl,rfl,rfl,by decide,by decide,fun f hf=>?_⟩
  obtain rfl:f=0:=by omega
  exact ⟨2,f0,[],wf0,.inl ⟨rfl,rfl⟩,by simp [Fn.cells]⟩
 |two f0 f1 vP bP _ wf0 wf1 hF _=>
  refine ⟨2,vP,bP,_,rfl,rfl,rfl,by decide,by decide,fun f hf=>?_⟩
  match f,hf with
  |0,_=>exact ⟨2,f0,f1.cells 4,wf0,.inl ⟨rfl,rfl⟩,by simp [Fn.cells]⟩
  |1,_=>exact ⟨4,f1,[],wf1,.inr (.inl ⟨rfl,rfl⟩),by simp [Fn.cells]⟩
 |three f0 f1 f2 vP bP wf0 wf1 wf2 hF=>
  refine ⟨3,vP,bP,_,rfl,rfl,rfl,by decide,by decide,fun f hf=>?_⟩
  match f,hf with
  |0,_=>exact ⟨2,f0,f1.cells 4++f2.cells 5,wf0,.inl ⟨rfl,rfl⟩,by simp [Fn.cells]⟩
  |1,_=>exact ⟨4,f1,f2.cells 5,wf1,.inr (.inl ⟨rfl,rfl⟩),by simp [Fn.cells]⟩
  |2,_=>exact ⟨5,f2,[],wf2,.inr (.inr ⟨rfl,rfl⟩),by simp [Fn.cells]⟩
end Go.Proofs.YtggflhbigolakaaGreatDoor
