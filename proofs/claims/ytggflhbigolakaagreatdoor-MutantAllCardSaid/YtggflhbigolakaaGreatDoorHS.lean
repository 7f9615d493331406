import Derived.Test.YtggflhbigolakaaGreatDoorN1
import Derived.Laws.Strings
import Derived.Test.YtggflhbigolakaaGreatDoorG
set_option linter.unusedSimpArgs false
namespace Go.Proofs.YtggflhbigolakaaGreatDoor
open Go.AM
attribute [local irreducible] cG bG bI bL bW bZ aQ aV bN
set_option maxRecDepth 100000
theorem IJ:∀ (N:Nat) (t:T),T.size t<=N->N<=1000000000000->Pure Tryz.prog G0 108 [.agg (T.enc t)] (.int .i64 (T.size t:Nat)):=by
 intro N
 induction N with
 |zero=>intro t h;have:=T.size_pos t;omega
 |succ N ih=>
  intro t ht hN
  cases t with
  |mk k n m es=>
  have ih2:∀ e∈es,Pure Tryz.prog G0 108 [.agg (T.enc e)] (.int .i64 (T.size e:Nat)):=fun e he=>ih e (by have:=T.size_mem he;simp only [T.size] at ht;omega) (by omega)
  have htr:=T.enc_tree (.mk k n m es)
  have hls:=T.len_sizes es
  simp only [T.size] at ht
  refine aL bX Tryz.func108 rfl (by kernel_rfl) (by simp [Tryz.ntmps108]) (by simp only [aP,aI,htr,ai]) rfl ?_
  simp only [Tryz.ntmps108,aK,Nat.reduceAdd,T.enc]
  have hgt:=fun (i:Nat) (e:T)=>T.encs_get (es:=es) (i:=i) (e:=e)
  have hln:=T.encs_len es
  have hte:=T.encs_tree es
  generalize T.encs es=EE at hgt hln hte
  refine aF
  refine aJ (α:={i:Nat // i<=es.length}) (fun i=>[(1,.ptr 0 0 0),(3,.int .i64 ((1+T.sizes (es.take i.1):Nat))),(4,.int .i64 (i.1:Nat))]) (fun i=>[.cells 0 [.int .i64 k,.int .i64 n,.int .i64 m,.sl false EE]]) (fun i=>es.length - i.1) ⟨0,az _⟩ (Weak.ref ⟨?_,.inl ?_⟩) ?_
  .simp only [wS,simprocAttr,hln,T.sizes,ci];try exact rfl
  .exact aZ
  .rintro ⟨i,hi⟩ K2 hK2
   refine aF
   refine ⟨fun h=>?_,fun h=>?_⟩
   .have hlt:i<es.length:=by simpa [hln] using h
    have hltE:i<EE.length:=by omega
    obtain ⟨e,he⟩:∃ e,es[i]? =some e:=⟨_,ah hlt⟩
    have hg:=hgt i e he
    have hs:=T.sizes_take he
    have hsl:=T.sizes_take_le es (i+1)
    have ke:=ih2 e (aj he)
    have e1:=aO (k:=i) hlt (by omega)
    have e2:IntKind.i64.wrap (((1+T.sizes (es.take i):Nat):Int)+((T.size e:Nat):Int))=((1+T.sizes (es.take (i+1)):Nat):Int):=by rw [dP (by omega) (by omega)];omega
    obtain ⟨ek,en,em,ees,hee⟩:=aN e
    rw [hee] at hg ke
    repeat' (first|(refine cC ?_;simp only [wS,simprocAttr,hg,hltE,hlt])|refine aH|fail)
    refine bO bX ke ?_
    simp only [wS,simprocAttr,e2]
    refine aR (bF e1 e2)
    refine hK2.go ⟨i+1,hlt⟩ (Weak.ref ⟨?_,.inr ⟨az _,?_,fun g cs hg=>bE (bX g cs hg),?_,?_⟩⟩) (by simp only;omega)
    .exact aZ
    .exact aZ
    .intro z hz
     replace hz:=aC hz
     rcases hz with rfl|rfl|rfl<;>rfl
    .simp only [bg,bz,ab,aG,aP,aI,ac]
     exact aB hte
   .have hge:i=es.length:=by simp [hln] at h;omega
    refine aF
    refine aD rfl ?_
    refine aA
    rw [hge,bi];simp only [T.size]
def lcI (c:Int):Bool:=decide (97<=c/\c<=122)
def pG (s:ByteArray) (i:Nat):Bool:=match s[i]? with
 |some b=>lcI b.toNat
 |none=>false
theorem GU {s:ByteArray} {i:Nat} (h:i<s.size):∃ b:UInt8,s[i]? =some b/\pG s i=lcI b.toNat:=by
 have:s[i]? =some s[i]:=getElem?_pos s i h
 exact ⟨s[i],this,by rw [pG,this]⟩
theorem sA {s:ByteArray} {a b i:Nat} (hb:b<=s.size) (hi:a+i<b):(s.extract a b)[i]? =s[a+i]? :=by
 have h1:i<(s.extract a b).size:=by rw [iz];omega
 rw [getElem?_pos _ i h1,getElem?_pos s (a+i) (by omega),ByteArray.getElem_extract]
theorem G9 {s:ByteArray} {a b i:Nat} (hb:b<=s.size) (hi:a+i<b):pG (s.extract a b) i=pG s (a+i):=by
 rw [pG,pG,sA hb hi]
def xE (s:ByteArray):Nat->Nat
 |0=>0
 |j+1=>if pG s j then xE s j else j+1
def X6 (s:ByteArray):Nat->Nat
 |0=>s.size
 |r+1=>if pG s (s.size - (r+1)) then X6 s r else s.size - (r+1)
theorem SM (s:ByteArray):∀ j,xE s j<=j
 |0=>ap _
 |j+1=>by
  rw [xE]
  split
  .exact Nat.le_succ_of_le (SM s j)
  .exact ap _
theorem HV (s:ByteArray):∀ j,xE s j=0↔ ∀ i,i<j->pG s i=true
 |0=>⟨fun _ i h=>absurd h (bm i),fun _=>rfl⟩
 |j+1=>by
  rw [xE]
  split
  .rename_i h
   rw [HV s j]
   refine ⟨fun g i hi=>?_,fun g i hi=>g i (by omega)⟩
   rcases jc.1 hi with h1|rfl
   .exact g i h1
   .exact h
  .rename_i h
   exact ⟨fun g=>by omega,fun g=>absurd (g j (Nat.lt_succ_self j)) h⟩
theorem NX (s:ByteArray):∀ j,xE s j≠0->pG s (xE s j - 1)=false
 |0,h=>absurd rfl h
 |j+1,h=>by
  rw [xE] at h ⊢
  split at h
  .rename_i g
   rw [if_pos g]
   exact NX s j h
  .rename_i g
   rw [if_neg g]
   simpa using g
theorem SK (s:ByteArray):∀ r,r<=s.size->(∃ i,s.size - r<=i/\i<s.size/\pG s i=false)->X6 s r<s.size
 |0,_,⟨i,h1,h2,_⟩=>by omega
 |r+1,hr,⟨i,h1,h2,h3⟩=>by
  rw [X6]
  split
  .rename_i h
   refine SK s r (by omega) ⟨i,?_,h2,h3⟩
   have:i≠s.size - (r+1):=fun e=>by rw [e,h] at h3;cases h3
   omega
  .omega
def xG (s:ByteArray):ByteArray:=let s1:=s.extract 0 (xE s s.size);s1.extract (X6 s1 s1.size) s1.size
theorem xJ {s:ByteArray}:(s.toList==[])=decide (s.size=0):=by
 rw [ByteArray.toList_eq]
 have:s.data.toList.length=s.size:=by rw [Array.length_toList];rfl
 cases h:s.data.toList with
 |nil=>rw [h] at this;simp [<- this]
 |cons a l=>rw [h] at this;simp [<- this]
theorem SN (s:ByteArray):((xG s).toList==[])=decide (∀ i,i<s.size->pG s i=true):=by
 rw [xJ]
 have hj:=SM s s.size
 have hs1:(s.extract 0 (xE s s.size)).size=xE s s.size:=by rw [iz];omega
 refine decide_eq_decide.2 ?_
 rw [<- HV s s.size]
 have hsz:(xG s).size=xE s s.size - X6 (s.extract 0 (xE s s.size)) (xE s s.size):=by
  unfold xG
  simp only [iz,hs1]
  omega
 rw [hsz]
 refine ⟨fun h=>?_,fun h=>by omega⟩
 apply Classical.byContradiction
 intro h0
 have hb:=NX s s.size h0
 have:=SK (s.extract 0 (xE s s.size)) (xE s s.size) (by omega) ⟨xE s s.size - 1,by omega,by omega,by
  rw [G9 hj (by omega),cp];exact hb⟩
 omega
def Q0:List AV:=(List.range 256).map fun (i:Nat)=>AV.bool (lcI (i:Int))
def azS:ByteArray:=⟨#[97,98,99,100,101,102,103,104,105,106,107,108,109,110,111,112,113,114,115,116,117,118,119,120,121,122]⟩
theorem H0:Q0.length=256:=by simp [Q0]
theorem uA:aP aE Q0=true:=by kernel_rfl
theorem aBi {c:Nat} (h:c<256):Q0.drop c=.bool (lcI c)::Q0.drop (c+1):=by
 rw [cg (by rw [H0];exact h)]
 simp [Q0]
theorem k8 {rows:Nat->ARow} {fp:List Nat}:∀ {l:List AV},aP aE l=true->LendL rows fp l l
 | [],_=>.nil
 |a::l,h=>by
  simp only [aP,ae] at h
  exact .cons (.same h.1) (k8 h.2)
theorem aBW:Pure Tryz.prog G0 116 [.str azS] (.tup [.agg Q0,.bool true]):=nL 200 60 _ [] J9 bX (by kernel_rfl) (by kernel_rfl) (by kernel_rfl)
theorem AF (c:Nat) (h:c<256):Pure Tryz.prog G0 128 [.imm Q0,.int .u8 c] (.bool (lcI c)):=by
 have hat:=aBi h
 have hl:=H0
 have ht:=uA
 generalize Q0=A at hat hl ht
 have h1:c+1<=256:=h
 have hm:c*1=c:=Nat.mul_one c
 refine aL bX Tryz.func128 rfl (by kernel_rfl) (by simp [Tryz.ntmps128]) (by simp only [aP,aI,ht,ai]) rfl ?_
 simp only [Tryz.ntmps128,aK,Nat.reduceAdd]
 refine aR (kT hat hl h h1 hm)
 refine aD rfl ?_
 refine aA
set_option maxHeartbeats 4000000 in
theorem XQ (s:ByteArray) (hs:s.size<=1000000):Pure Tryz.prog G0 118 [.str s,.imm Q0] (.str (s.extract 0 (xE s s.size))):=by
 have hcc:=AF
 have ht:=uA
 generalize Q0=A at hcc ht
 refine aL bX Tryz.func118 rfl (by kernel_rfl) (by simp [Tryz.ntmps118]) (by simp only [aP,aI,ht,ai]) rfl ?_
 simp only [Tryz.ntmps118,aK,Nat.reduceAdd]
 refine aF
 refine aJ (α:={j:Nat // j<=s.size/\xE s j=xE s s.size}) (fun j=>[(0,.str (s.extract 0 j.1)),(1,.imm A)]) (fun j=>[]) (fun j=>j.1) ⟨s.size,ap _,rfl⟩ (Weak.ref ⟨?_,.inl ?_⟩) ?_
 .simp only [wS,simprocAttr,ByteArray.extract_zero_size];try exact rfl
 .exact aZ
 .rintro ⟨j,hj,hjt⟩ K1 hK1
  have hsz:(s.extract 0 j).size=j:=by rw [iz];omega
  cases j with
  |zero=>
   refine aR hsz
   refine aD rfl ?_
   refine aA
   rw [<- hjt]
   rfl
  |succ q=>
   have hpos:decide (((q+1:Nat):Int) > 0)=true:=by simp only [decide_eq_true_eq];omega
   have e1:IntKind.i64.wrap (((q+1:Nat):Int) - 1)=(q:Nat):=by rw [dP (by omega) (by omega)];omega
   obtain ⟨b,hb,hlb⟩:=GU (s:=s) (i:=q) (by omega)
   have hx:(s.extract 0 (q+1))[q]? =some b:=by rw [sA hj (by omega),cp];exact hb
   have hkc:=hcc b.toNat b.toNat_lt
   have hex:(s.extract 0 (q+1)).extract 0 q=s.extract 0 q:=by
    rw [ByteArray.extract_extract];congr 1<;>omega
   have hq1:(q<=q+1)=True:=eq_true (by omega)
   have hq0:(0:Int)<=(q:Nat):=by omega
   rw [xE] at hjt
   generalize hsq:s.extract 0 (q+1)=sq at hsz hx hex
   cases hlc:pG s q with
   |true=>
    rw [hlb] at hlc
    rw [hlb,hlc,if_pos rfl] at hjt
    rw [hlc] at hkc
    refine aR (dV hsz hpos e1 hx)
    refine bO bX hkc ?_
    simp only [wS,simprocAttr,bf]
    refine f8 (dV hsz e1 hex hq1)
    refine hK1.go ⟨q,by omega,hjt⟩ (Weak.ref ⟨?_,.inl ?_⟩) (by simp only;omega)
    .exact aZ
    .exact aZ
   |false=>
    rw [hlb] at hlc
    rw [hlb,hlc,if_neg (by decide)] at hjt
    rw [hlc] at hkc
    refine aR (dV hsz hpos e1 hx)
    refine bO bX hkc ?_
    simp only [wS,simprocAttr,be]
    refine HR
    refine aD rfl ?_
    refine aA
    rw [<- hjt,hsq]
set_option maxHeartbeats 4000000 in
theorem aAX (s:ByteArray) (hs:s.size<=1000000):Pure Tryz.prog G0 117 [.str s,.imm Q0] (.str (s.extract (X6 s s.size) s.size)):=by
 have hcc:=AF
 have ht:=uA
 generalize Q0=A at hcc ht
 refine aL bX Tryz.func117 rfl (by kernel_rfl) (by simp [Tryz.ntmps117]) (by simp only [aP,aI,ht,ai]) rfl ?_
 simp only [Tryz.ntmps117,aK,Nat.reduceAdd]
 refine aF
 refine aJ (α:={j:Nat // j<=s.size/\X6 s j=X6 s s.size}) (fun j=>[(0,.str (s.extract (s.size - j.1) s.size)),(1,.imm A)]) (fun j=>[]) (fun j=>j.1) ⟨s.size,ap _,rfl⟩ (Weak.ref ⟨?_,.inl ?_⟩) ?_
 .simp only [wS,simprocAttr,Nat.sub_self,ByteArray.extract_zero_size];try exact rfl
 .exact aZ
 .rintro ⟨j,hj,hjt⟩ K1 hK1
  have hsz:(s.extract (s.size - j) s.size).size=j:=by rw [iz];omega
  cases j with
  |zero=>
   rw [dm] at hsz
   refine aR hsz
   refine aD rfl ?_
   refine aA
   rw [<- hjt]
   rfl
  |succ q=>
   have hpos:decide (((q+1:Nat):Int) > 0)=true:=by simp only [decide_eq_true_eq];omega
   obtain ⟨b,hb,hlb⟩:=GU (s:=s) (i:=s.size - (q+1)) (by omega)
   have hx:(s.extract (s.size - (q+1)) s.size)[0]? =some b:=by rw [sA (ap _) (by omega),fy];exact hb
   have hkc:=hcc b.toNat b.toNat_lt
   have hex:(s.extract (s.size - (q+1)) s.size).extract 1 (q+1)=s.extract (s.size - q) s.size:=by
    rw [ByteArray.extract_extract];congr 1<;>omega
   have hq1:(1<=q+1)=True:=eq_true (by omega)
   rw [X6] at hjt
   generalize hsq:s.extract (s.size - (q+1)) s.size=sq at hsz hx hex
   cases hlc:pG s (s.size - (q+1)) with
   |true=>
    rw [hlc,if_pos rfl] at hjt
    rw [hlb] at hlc
    rw [hlc] at hkc
    refine aR (eB hsz hpos hx)
    refine bO bX hkc ?_
    simp only [wS,simprocAttr,bf]
    repeat' (first|(refine cC ?_;simp only [wS,simprocAttr,hsz,hex,hq1,ap,if_true,bf])|refine aH|fail)
    refine hK1.go ⟨q,by omega,hjt⟩ (Weak.ref ⟨?_,.inl ?_⟩) (by simp only;omega)
    .exact aZ
    .exact aZ
   |false=>
    rw [hlc,if_neg (by decide)] at hjt
    rw [hlb] at hlc
    rw [hlc] at hkc
    refine aR (eB hsz hpos hx)
    refine bO bX hkc ?_
    simp only [wS,simprocAttr,be]
    refine HR
    refine aD rfl ?_
    refine aA
    rw [<- hjt,hsq]
theorem A7:(ByteArray.mk #[]).toList=[]:=by kernel_rfl
theorem aAc (s:ByteArray) (hs:s.size<=1000000) (h0:s.size≠0):Pure Tryz.prog G0 89 [.str s,.str azS] (.str (xG s)):=by
 have hm:=aBW
 have hr:=XQ s hs
 have hl:=aAX (s.extract 0 (xE s s.size)) (by rw [iz];omega)
 have hn:(s.toList==[])=false:=by rw [xJ];simp [h0]
 have hz:(azS.toList==[])=false:=by kernel_rfl
 have hz2:azS.size=26:=by kernel_rfl
 have hal:=H0
 have hat:=uA
 generalize Q0=A at hm hr hl hal hat
 generalize azS=Z at hm hz hz2
 unfold xG
 generalize s.extract 0 (xE s s.size)=s1 at hr hl
 refine aL bX Tryz.func89 rfl (by kernel_rfl) (by simp [Tryz.ntmps89]) rfl rfl ?_
 simp only [Tryz.ntmps89,aK,Nat.reduceAdd]
 have hlen:A.length=256:=hal
 refine aR (dV @A7 hn hz hz2)
 refine bO bX hm ?_
 simp only [wS,simprocAttr,hal]
 refine aR hal
 refine AN (fp:=[0]) bX hr (.cons (.same rfl) (.cons (.ptr (cs:=A) (by simp) lQ (k8 hat)) .nil)) (.inr rfl) ?_
 refine aA
 refine aF
 refine AN (fp:=[0]) bX hl (.cons (.same rfl) (.cons (.ptr (cs:=A) (by simp) lQ (k8 hat)) .nil)) (.inr rfl) ?_
 refine aA
 refine aF
 exact aD rfl lQ
end Go.Proofs.YtggflhbigolakaaGreatDoor
