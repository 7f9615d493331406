import Derived.Test.YtggflhbigolakaaGreatDoorSA
set_option linter.unusedSimpArgs false
namespace Go.Proofs.YtggflhbigolakaaGreatDoor
open Go.AM
attribute [local irreducible] cG bG bI bL bW bZ aQ aV bN
set_option maxRecDepth 100000
abbrev MP:=List (Int × T)
def mK:List Int->Int->Nat->Option Nat
 | [],_,_=>none
 |x::xs,k,i=>if k=x then some i else mK xs k (i+1)
def ZN (l:List Int):List AV:=l.map fun n=>.int .i64 n
theorem m6:∀ (ks:List Int) (k:Int) (i:Nat),lY (.int .i64) (.int .i64 k) (ZN ks) i=some (mK ks k i)
 | [],k,i=>rfl
 |x::xs,k,i=>by
  have e:ZN (x::xs)=.int .i64 x::ZN xs:=rfl
  have ih:=m6 xs k (i+1)
  rw [e,lY]
  by_cases h:k=x
  .have:jS (.int .i64) (.int .i64 k) (.int .i64 x)=some true:=by simp [jS,h]
   simp only [this,mK,if_pos h]
  .have:jS (.int .i64) (.int .i64 k) (.int .i64 x)=some false:=by simp [jS,h]
   simp only [this,mK,if_neg h,ih]
def sZ (mp:MP):List Int:=mp.map (·.1)
def xA (mp:MP):List AV:=mp.map fun x=>.agg (T.enc x.2)
def cV (mp:MP):ARow:=.map (ZN (sZ mp)) (xA mp)
def dG:MP->Int->Option T
 | [],_=>none
 |x::mp,n=>if n=x.1 then some x.2 else dG mp n
theorem pV:∀ (mp:MP) (n:Int) (i j:Nat),mK (sZ mp) n i=some j->∃ x,i<=j/\mp[j - i]? =some (n,x)/\dG mp n=some x
 | [],n,i,j,h=>by cases h
 |y::mp,n,i,j,h=>by
  simp only [sZ,ay,mK] at h
  split at h
  .rename_i he
   injection h with h
   subst h
   obtain ⟨a,b⟩:=y
   simp only at he
   exact ⟨b,ap _,by simp [he],by rw [dG,if_pos he]⟩
  .rename_i he
   obtain ⟨x,h1,h2,h3⟩:=pV mp n (i+1) j h
   exact ⟨x,by omega,by rw [show j - i=(j - (i+1))+1 by omega,gt,h2],by rw [dG,if_neg he,h3]⟩
theorem pW:∀ (mp:MP) (n:Int) (i:Nat),mK (sZ mp) n i=none->dG mp n=none
 | [],n,i,h=>rfl
 |y::mp,n,i,h=>by
  simp only [sZ,ay,mK] at h
  split at h
  .cases h
  .rename_i he
   rw [dG,if_neg he];exact pW mp n (i+1) h
def jZ (B:Nat) (mp:MP):Prop:=∀ x∈mp,T.size x.2<=B
theorem w9:∀ mp:MP,aP aE (xA mp)=true
 | []=>rfl
 |x::mp=>by have:=w9 mp;simp only [xA,ay,aP,aI,T.enc_tree,ac] at this ⊢;exact this
theorem PU (p:Nat->Bool):∀ l:List Int,aP p (ZN l)=true
 | []=>rfl
 |x::l=>by have:=PU p l;simp only [ZN,ay,aP,aI,ac] at this ⊢;exact this
theorem eH {p:Nat->Bool} (mp:MP):aG p (cV mp)=true:=by
 simp only [cV,aG,ae]
 exact ⟨PU _ _,bE (w9 mp)⟩
theorem JG (mp:MP) (k:Int) (t:T):ARow.map (ZN (sZ mp)++[.int .i64 k]) (xA mp++[.agg (T.enc t)])=cV (mp++[(k,t)]):=by simp [cV,sZ,xA,ZN]
theorem C6 {mp:MP} {j:Nat} {n:Int} {x:T} (h:mp[j]? =some (n,x)):(xA mp)[j]? =some (.agg (T.enc x)):=by simp [xA,h]
namespace T
mutual
def mat : T -> T -> Bool -> MP -> Bool × MP
 |mk pk pn pm ps,t,root,mp=>
  if pk=28 then
   if pn<0\/7<pn then (false,mp) else match dG mp pn with
    |some x=>(cmp x t==0,mp)
    |none=>(true,mp++[(pn,t)])
  else if pk=t.kind/\pm=t.low/\(pn=t.num\/(root=true/\pn= -100))/\ps.length=t.kids.length then mats ps t.kids mp else (false,mp)
def mats:List T->List T->MP->Bool × MP
 |p::ps,e::es,mp=>match mat p e false mp with
  |(true,mp')=>mats ps es mp'
  |(false,mp')=>(false,mp')
 |_,_,mp=>(true,mp)
end
mutual
theorem mat_good {B:Nat}:∀ (p t:T) (root:Bool) (mp:MP),size t<=B->jZ B mp->jZ B (mat p t root mp).2
 |mk pk pn pm ps,t,root,mp,ht,hm=>by
  have hk:sizes t.kids<=B:=by rw [uK] at ht;omega
  have h:=D1 ps t.kids mp hk hm
  rw [mat]
  split
  .split
   .exact hm
   .split
    .exact hm
    .intro x hx
     rcases bo.1 hx with hx|hx
     .exact hm x hx
     .rw [bd.1 hx];exact ht
  .split
   .exact h
   .exact hm
theorem D1 {B:Nat}:∀ (ps es:List T) (mp:MP),sizes es<=B->jZ B mp->jZ B (mats ps es mp).2
 |p::ps,e::es,mp,hs,hm=>by
  simp only [sizes] at hs
  have h1:=mat_good p e false mp (by omega) hm
  rw [mats]
  split
  .rename_i mp' h
   rw [h] at h1
   exact D1 ps es mp' (by omega) h1
  .rename_i mp' h
   rw [h] at h1
   exact h1
 | [],_,mp,_,hm=>by rw [mats];exact hm;simp
 |_::_,[],mp,_,hm=>by rw [mats];exact hm;simp
end
theorem mats_drop {ps es:List T} {i:Nat} {p e:T} (hp:ps[i]? =some p) (he:es[i]? =some e) (mp:MP):mats (ps.drop i) (es.drop i) mp=match mat p e false mp with
  |(true,mp')=>mats (ps.drop (i+1)) (es.drop (i+1)) mp'
  |(false,mp')=>(false,mp'):=by
 obtain ⟨h1,h2⟩:=aq.1 hp
 obtain ⟨h3,h4⟩:=aq.1 he
 rw [cg h1,cg h3,h2,h4,mats]
end T
def aBp (N:Nat):Prop:=∀ p:T,T.size p<=N->∀ t:T,T.size t<=1000000000000->∀ (root:Bool) (mp:MP),jZ 1000000000000 mp->∀ rows:Nat->ARow,rows 3=cV mp->
 c8 Tryz.prog G0 60 [.omp 3,.agg (T.enc p),.agg (T.enc t),.bool root] rows [3] ⟨.bool (T.mat p t root mp).1,[(3,cV (T.mat p t root mp).2)]⟩
theorem Y8 {N:Nat} (h:aBp N) (p:T) (hp:T.size p<=N) (t:T) (ht:T.size t<=1000000000000) (mp:MP) (hm:jZ 1000000000000 mp) (rows:Nat->ARow) (h3:rows 3=cV mp) (h4:rows 4=.cells 0 [.omp 3]):
  c8 Tryz.prog G0 97 [.agg (T.enc p),.agg (T.enc t),.ptr 4 0 0] rows [3,4] ⟨.bool (T.mat p t false mp).1,[(3,cV (T.mat p t false mp).2)]⟩:=by
 have key:=fun rows h3=>h p hp t ht false mp hm rows h3
 have h1t:=T.enc_tree p
 have h2t:=T.enc_tree t
 generalize T.mat p t false mp=res at key
 obtain ⟨xa,xb,xc,xd,hxe⟩:=aN p
 obtain ⟨ya,yb,yc,yd,hye⟩:=aN t
 rw [hxe] at key h1t ⊢
 rw [hye] at key h2t ⊢
 refine bT [.dead,.dead,.dead,cV mp,.cells 0 [.omp 3]] bX Tryz.func97 rfl (by kernel_rfl) (by simp [Tryz.ntmps97]) ?_ ?_ ?_ ?_ ?_ ?_ ?_
 .intro r hr
  replace hr:=aC hr
  rcases hr with rfl|rfl
  .exact h3.symm
  .exact h4.symm
 .intro r hr
  match r,hr with
  |0,_=>simp
  |1,_=>simp
  |2,_=>simp
  |3,hr=>exact absurd (by simp) hr
  |4,hr=>exact absurd (by simp) hr
  |r+5,_=>simp
 .simp only [aP,aI,af,ak,Nat.reduceAdd,Nat.reduceLT,decide_true,ac,ab,ae];exact ⟨aB (by simpa only [aP,aI,ac,ab] using h1t),aB (by simpa only [aP,aI,ac,ab] using h2t)⟩
 .intro r hr
  replace hr:=aC hr
  rcases hr with rfl|rfl
  .rw [h3];exact eH _
  .rw [h4];exact rfl
 .intro r hr h
  replace hr:=aC hr
  simp only [af,ak] at h
  omega
 .simp
 simp only [Tryz.ntmps97,aK,Nat.reduceAdd,af,ak]
 refine aF
 refine cM (key _ lQ) ?_
 refine aA
 refine aF
 refine aD rfl ?_
 simp only [wS,simprocAttr,aI]
 intro r hr
 replace hr:=aC hr
 rcases hr with rfl|rfl
 .exact ⟨rfl,eH _⟩
 .exact ⟨h4.symm,rfl⟩
def y9 (ps es:List T) (mp:MP):Bool × MP:=if ps.length=es.length then T.mats ps es mp else (false,mp)
set_option maxHeartbeats 4000000 in
theorem YS {N:Nat} (hMat:aBp N) (ps es:List T) (hp:T.sizes ps<=N) (hN:N<=1000000000000) (he:T.sizes es<=1000000000000) (mp:MP) (hm:jZ 1000000000000 mp) (rows:Nat->ARow) (h3:rows 3=cV mp) (h4:rows 4=.cells 0 [.omp 3]):
  c8 Tryz.prog G0 96 [.sl false (T.encs ps),.sl false (T.encs es),.fn (.func 97) [] [.ptr 4 0 0]] rows [3,4] ⟨.bool (y9 ps es mp).1,[(3,cV (y9 ps es mp).2)]⟩:=by
 have h1t:=T.encs_tree ps
 have h2t:=T.encs_tree es
 have hla:=T.len_sizes ps
 have hga:=fun (i:Nat) (e:T)=>T.encs_get (es:=ps) (i:=i) (e:=e)
 have hgb:=fun (i:Nat) (e:T)=>T.encs_get (es:=es) (i:=i) (e:=e)
 have hna:=T.encs_len ps
 have hnb:=T.encs_len es
 have heq:ps.length=es.length->y9 ps es mp=T.mats ps es mp:=fun h=>by rw [y9,if_pos h]
 have hne:ps.length≠es.length->y9 ps es mp=(false,mp):=fun h=>by rw [y9,if_neg h]
 generalize y9 ps es mp=res at heq hne
 generalize T.encs ps=A at h1t hga hna ⊢
 generalize T.encs es=B at h2t hgb hnb ⊢
 refine bT [.dead,.dead,.dead,cV mp,.cells 0 [.omp 3]] bX Tryz.func96 rfl (by kernel_rfl) (by simp [Tryz.ntmps96]) ?_ ?_ ?_ ?_ ?_ ?_ ?_
 .intro r hr
  replace hr:=aC hr
  rcases hr with rfl|rfl
  .exact h3.symm
  .exact h4.symm
 .intro r hr
  match r,hr with
  |0,_=>simp
  |1,_=>simp
  |2,_=>simp
  |3,hr=>exact absurd (by simp) hr
  |4,hr=>exact absurd (by simp) hr
  |r+5,_=>simp
 .simp only [aP,aI,af,ak,Nat.reduceAdd,Nat.reduceLT,decide_true,ac,ab,ae];exact ⟨aB h1t,aB h2t⟩
 .intro r hr
  replace hr:=aC hr
  rcases hr with rfl|rfl
  .rw [h3];exact eH _
  .rw [h4];exact rfl
 .intro r hr h
  replace hr:=aC hr
  simp only [af,ak] at h
  omega
 .simp
 simp only [Tryz.ntmps96,aK,Nat.reduceAdd,af,ak]
 have post:∀ s:AS,s.row 3=cV res.2->s.row 4=.cells 0 [.omp 3]->∀ r∈[3,4],s.row r=upd rows [(3,cV res.2)] r/\aG (fun r=>[3,4].contains r) (s.row r)=true:=fun s a b r hr=>by
  replace hr:=aC hr
  rcases hr with rfl|rfl
  .rw [a];exact ⟨rfl,eH _⟩
  .rw [b];exact ⟨h4.symm,rfl⟩
 by_cases hl:ps.length=es.length
 .have c0:(((A.length:Nat):Int) != ((B.length:Nat):Int))=false:=by simp;omega
  have hres:=(heq hl).symm
  refine aR c0
  refine aJ (α:={x:Nat × MP // x.1<=ps.length/\jZ 1000000000000 x.2/\T.mats (ps.drop x.1) (es.drop x.1) x.2=res}) (fun x=>[(0,.sl false A),(1,.sl false B),(2,.fn (.func 97) [] [.ptr 4 0 0]),(15,.sl false A),(16,.int .i64 (A.length:Nat)),(17,.int .i64 (x.1.1:Nat))]) (fun x=>[.dead,.dead,.dead,cV x.1.2,.cells 0 [.omp 3]]) (fun x=>ps.length - x.1.1) ⟨(0,mp),az _,hm,hres⟩ (Weak.ref ⟨?_,.inl ?_⟩) ?_
  .exact aZ
  .exact aZ
  .rintro ⟨⟨i,mi⟩,hi,hmi,hri⟩ K hK
   simp only at hi hmi hri
   by_cases hlt:i<ps.length
   .have c1:decide (((i:Nat):Int)<((A.length:Nat):Int))=true:=by simp;omega
    obtain ⟨x,hx⟩:∃ x,ps[i]? =some x:=⟨_,ah hlt⟩
    obtain ⟨y,hy⟩:∃ y,es[i]? =some y:=⟨_,ah (by omega)⟩
    have gx:=hga i x hx
    have gy:=hgb i y hy
    have hA:i<A.length:=by omega
    have hB:i<B.length:=by omega
    have e3:=aO (k:=i) hlt (by omega)
    have hd:=T.mats_drop hx hy mi
    have hsy:T.size y<=1000000000000:=by have:=T.size_mem (aj hy);omega
    have hgi:=T.mat_good x y false mi hsy hmi
    have kc:=fun rows h3 h4=>Y8 hMat x (by have:=T.size_mem (aj hx);omega) y hsy mi hmi rows h3 h4
    obtain ⟨xa,xb,xc,xd,hxe⟩:=aN x
    obtain ⟨ya,yb,yc,yd,hye⟩:=aN y
    rw [hxe] at gx kc
    rw [hye] at gy kc
    generalize T.mat x y false mi=r1 at hd hgi kc
    obtain ⟨ok,mj⟩:=r1
    cases ok with
    |true=>
     repeat' (first|(refine cC ?_;simp only [wS,simprocAttr,bf,be,gx,gy,hA,hB,c1,e3])|refine aM|refine cM (kc _ lQ lQ) (gR ?_))
     refine hK.go ⟨(i+1,mj),hlt,hgi,by rw [<- hri,hd]⟩ aX (by simp only;omega)
     .exact aZ
     .exact aZ
     .intro z hz
      replace hz:=aC hz
      rcases hz with rfl|rfl|rfl|rfl|rfl|rfl<;>first|rfl|(simp only [aI];first|exact aB h1t|exact aB h2t)
     .refine aS;try exact ⟨rfl,rfl,rfl,eH _,rfl⟩
    |false=>
     have hres2:res=(false,mj):=by rw [<- hri,hd]
     repeat' (first|(refine cC ?_;simp only [wS,simprocAttr,bf,be,gx,gy,hA,hB,c1,e3])|refine aM|refine cM (kc _ lQ lQ) (gR ?_))
     refine aD rfl ⟨.inl ?_,?_,post _ ?_ ?_⟩<;>(try rw [hres2])<;>(simp only [wS,simprocAttr,aI];try exact rfl)
   .have c1:decide (((i:Nat):Int)<((A.length:Nat):Int))=false:=by simp;omega
    have hres2:res=(true,mi):=by
     rw [<- hri,show i=ps.length by omega,du,T.mats]
     simp
    refine aR c1
    refine aD rfl ⟨.inl ?_,?_,post _ ?_ ?_⟩<;>(try rw [hres2])<;>(simp only [wS,simprocAttr,aI];try exact rfl)
 .have c0:(((A.length:Nat):Int) != ((B.length:Nat):Int))=true:=by simp;omega
  have hres2:=hne hl
  refine aR c0
  refine aD rfl ⟨.inl ?_,?_,post _ ?_ ?_⟩<;>(try rw [hres2])<;>(simp only [wS,simprocAttr,aI];try exact rfl)
end Go.Proofs.YtggflhbigolakaaGreatDoor
