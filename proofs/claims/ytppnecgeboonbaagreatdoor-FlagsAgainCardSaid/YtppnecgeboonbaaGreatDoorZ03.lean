/- Walks. -/
import Derived.Test.YtppnecgeboonbaaGreatDoorZ02
namespace Go.Proofs.YtppnecgeboonbaaGreatDoor
set_option maxRecDepth 100000
set_option linter.all false
open Rat3
theorem CG{α β:Type}[DecidableEq α]:∀(l:List (α×β)) (a:α) (x:β),(bQ l a x).length=if a∈l.map Prod.fst then l.length else l.length+1
 |[],a,x=>by simp[bQ]
 |(k,v)::r,a,x=>by
  unfold bQ;by_cases h:k=a
  ·rw[aaa h,aaa (by rw[h];simp)];rfl
  ·rw[aab h,aaF,CG r a x]
   have h':(a∈List.map Prod.fst ((k,v)::r))↔a∈r.map Prod.fst:=by
    rw[aa5,aay];exact⟨fun e=>e.resolve_left (fun e=>h e.symm),aad⟩
   by_cases h2:a∈r.map Prod.fst
   ·rw[aaa h2,aaa (h'.2 h2)];rfl
   ·rw[aab h2,aab (fun e=>h2 (h'.1 e))];rfl
theorem CF{α β:Type}[DecidableEq α]:∀(l:List (α×β)) (a:α) (x:β),(bQ l a x).map Prod.fst=if a∈l.map Prod.fst then l.map Prod.fst else l.map Prod.fst++[a]
 |[],a,x=>by simp[bQ]
 |(k,v)::r,a,x=>by
  unfold bQ;by_cases h:k=a
  ·rw[aaa h,aaa (by rw[h];simp)];rfl
  ·rw[aab h,aa5,CF r a x]
   have h':(a∈List.map Prod.fst ((k,v)::r))↔a∈r.map Prod.fst:=by
    rw[aa5,aay];exact⟨fun e=>e.resolve_left (fun e=>h e.symm),aad⟩
   by_cases h2:a∈r.map Prod.fst
   ·rw[aaa h2,aaa (h'.2 h2)];rfl
   ·rw[aab h2,aab (fun e=>h2 (h'.1 e))];rfl
def iw:List Bs->Nat->List (Bs×Nat)->List (Bs×Nat)
 |[],_,l=>l
 |s::r,i,l=>iw r (i+1) (bQ l s (i+1))
theorem Ck:∀(t:List Bs) (i:Nat) (l:List (Bs×Nat)),(iw t i l).length<=l.length+t.length/\((iw t i l).length=l.length+t.length↔t.Nodup/\∀s∈t,s∉l.map Prod.fst)
 |[],i,l=>by simp[iw]
 |s::r,i,l=>by
  obtain⟨h1,h2⟩:=Ck r (i+1) (bQ l s (i+1));rw[CG]at h1 h2;rw[CF]at h2;show(iw r (i+1) (bQ l s (i+1))).length<=_/\((iw r (i+1) (bQ l s (i+1))).length=_↔_);rw[aaF,aa8];by_cases h:s∈l.map Prod.fst
  ·rw[aaa h]at h1 h2
   refine⟨by omega,⟨fun e=>by omega,fun e=>absurd h (e.2 s aal)⟩⟩
  ·rw[aab h]at h1 h2
   rw[aab h]at h2;refine⟨by omega,?_⟩;rw[show l.length+(r.length+1)=l.length+1+r.length by omega,h2];constructor
   ·rintro⟨e1,e2⟩
    refine⟨⟨fun hs=>e2 s hs (ab6 _ (by simp)),e1⟩,fun x hx=>?_⟩;rcases aay.1 hx with rfl|hx
    ·exact h
    ·exact fun hm=>e2 x hx (abB _ hm)
   ·rintro⟨⟨e1,e2⟩,e3⟩
    refine⟨e2,fun x hx hm=>?_⟩;rcases aaG.1 hm with hm|hm
    ·exact e3 x (aaj _ hx) hm
    ·simp only[aar]at hm;subst hm;exact e1 hx
def Cm(t:List Bs):((iw t 0 []).length=t.length)↔t.Nodup:=by
 have:=(Ck t 0 []).2;simp only[abG,aaP,afL,aaK,abO,implies_true,acH]at this;exact this
def dW:List Bs->Nat->List (Nat×aH)->List (Nat×aH)
 |[],_,l=>l
 |s::r,i,l=>match bR s with|some f=>dW r (i+1) (bQ l (i+1) f)|none=>dW r (i+1) l
theorem Q3:∀(t:List Bs) (i:Nat) (l:List (Nat×aH)) (s:Nat),bO (dW t i l) s=if i<s/\s<=i+t.length then (match bR (t.getD (s-i-1) []) with|some f=>some f|none=>bO l s) else bO l s
 |[],i,l,s=>by
  rw[aab (by simp only[abG];omega)];rfl
 |x::r,i,l,s=>by
  have key:∀l',bO (dW r (i+1) l') s=if i+1<s/\s<=i+1+r.length then (match bR (r.getD (s-(i+1)-1) []) with|some f=>some f|none=>bO l' s) else bO l' s:=fun l'=>Q3 r (i+1) l' s
  unfold dW;by_cases h1:s=i+1
  ·subst h1
   rw[aaa (by simp)];have e0:(x::r).getD (i+1-i-1) []=x:=by rw[show i+1-i-1=0 by omega];rfl
   rw[e0]
   cases hp:bR x with
   |some f=>simp only[];rw[key,aab (by omega),vW,aaa rfl]
   |none=>simp only[];rw[key,aab (by omega)]
  ·by_cases h2:i<s/\s<=i+(x::r).length
   ·rw[aaa h2]
    have h3:i+1<s/\s<=i+1+r.length:=by rw[aaF]at h2;omega
    have e0:(x::r).getD (s-i-1) []=r.getD (s-(i+1)-1) []:=by rw[show s-i-1=(s-(i+1)-1)+1 by omega];rfl
    rw[e0]
    cases hp:bR x with
    |some f=>
     simp only[];rw[key,aaa h3,vW,aab (fun e=>h1 e.symm)]
    |none=>simp only[];rw[key,aaa h3]
   ·rw[aab h2]
    have h3:¬ (i+1<s/\s<=i+1+r.length):=by rw[aaF]at h2;omega
    cases hp:bR x with
    |some f=>
     simp only[];rw[key,aab h3,vW,aab (fun e=>h1 e.symm)]
    |none=>simp only[];rw[key,aab h3]
def Hr(t:List Bs)(s:Int):(if 0<=s then bO (dW t 0 []) s.toNat else none)=dD t s:=by
 unfold dD;by_cases h0:0<=s
 ·rw[aaa h0,Q3]
  by_cases h:1<=s/\s<=t.length
  ·rw[aaa h,aaa (by omega),show s.toNat-0-1=(s-1).toNat by omega]
   cases bR (t.getD (s-1).toNat [])<;>rfl
  ·rw[aab h,aab (by omega)];rfl
 ·rw[aab h0,aab (by omega)]
theorem xJ:∀(ps:List Bs),(∀p∈ps,∀c∈p,c≠46)->dots (ps.flatMap (fun p=>p++[46]))=ps++[[]]
 |[],_=>rfl
 |p::r,h=>by
  rw[adb,aaZ];show ja [] (p++46::r.flatMap _)=_;rw[vz _ _ _ (h p aal)];show([]++p)::dots (r.flatMap fun p=>p++[46])=_;rw[xJ r (fun q hq=>h q (aaj _ hq))]
  rfl
def oU(m:eU):Prop:=yc m/\∀c∈m.of,c≠46
def I7:oU iF:=⟨aam ⟨rfl,rfl⟩,fun c hc=>by cases hc⟩
def kE(m:eU):Bs:=lY m.kind++m.of
def CV{m:eU}(h:oU m):∀c∈kE m,c≠46:=by
 intro c hc;unfold kE at hc;rcases aaG.1 hc with hc|hc
 ·unfold lY at hc
  split at hc
  ·cases hc
  ·split at hc
   ·simp only[aar]at hc;subst hc;decide
   ·simp only[aar]at hc;subst hc;decide
 ·exact h.2 c hc
def Kc{m:eU}(h:oU m):(kE m=[]↔m=iF)/\(m≠iF->mY (kE m)=m):=by
 obtain⟨k,o⟩:=m;rcases h.1 with⟨h1,h2⟩|⟨h1|h1,h2⟩
 all_goals (dsimp only at h1 h2;subst h1)
 ·subst h2
  exact⟨⟨fun _=>rfl,fun _=>rfl⟩,fun e=>absurd rfl e⟩
 ·refine⟨⟨fun e=>by simp[kE,lY]at e,fun e=>by simp[iF]at e⟩,fun _=>rfl⟩
 ·refine⟨⟨fun e=>by simp[kE,lY]at e,fun e=>by simp[iF]at e⟩,fun _=>rfl⟩
def BO(fs:List Bs)(m:aBK):dE fs m=(fs.map fun f=>kE (aP m f)).flatMap (fun p=>p++[46]):=by
 unfold dE
 induction fs with
 |nil=>rfl
 |cons f r ih=>rw[adb,aa5,adb,ih];rfl
theorem yH:∀(fs:List Bs) (m k:aBK) (tail:List Bs),fs.Nodup->(∀f,oU (aP m f))->(∀f∈fs,aP k f=iF)->∀g,aP (iJ fs ((fs.map fun f=>kE (aP m f))++tail) k) g=if g∈fs then aP m g else aP k g
 |[],m,k,tail,_,_,_,g=>by simp[iJ]
 |f::r,m,k,tail,hn,hm,hk,g=>by
  rw[aa8]at hn;obtain⟨p1,p2⟩:=Kc (hm f);rw[aa5,abZ];show aP (if kE (aP m f)=[] then iJ r (List.map (fun f=>kE (aP m f)) r++tail) k else iJ r (List.map (fun f=>kE (aP m f)) r++tail) (iW k f (mY (kE (aP m f))))) g=_;by_cases h:kE (aP m f)=[]
  ·rw[aaa h,yH r m k tail hn.2 hm (fun x hx=>hk x (aaj _ hx)) g]
   by_cases hg:g∈r
   ·rw[aaa hg,aaa (aaj _ hg)]
   ·rw[aab hg]
    by_cases hf:g=f
    ·subst hf
     rw[aaa aal,hk g aal,p1.1 h]
    ·rw[aab (fun e=>(aay.1 e).elim hf hg)]
  ·rw[aab h,p2 (fun e=>h (p1.2 e)),yH r m _ tail hn.2 hm (fun x hx=>by
    rw[vK,aab (fun e:f=x=>hn.1 (by rw[e];exact hx))];exact hk x (aaj _ hx)) g]
   by_cases hg:g∈r
   ·rw[aaa hg,aaa (aaj _ hg)]
   ·rw[aab hg,vK]
    by_cases hf:f=g
    ·rw[aaa hf,aaa (by rw[hf];exact aal),hf]
    ·rw[aab hf,aab (fun e=>(aay.1 e).elim (fun e=>hf e.symm) hg)]
def Jb{fs:List Bs}(hn:fs.Nodup){m:aBK}(hm:∀f,oU (aP m f))(hout:∀f,f∉fs->aP m f=iF)(g:Bs):aP (jg fs (dE fs m)) g=aP m g:=by
 unfold jg;rw[BO,xJ _ (fun p hp=>by obtain⟨f,_,rfl⟩:=abk.1 hp;exact CV (hm f)),yH fs m [] [[]] hn hm (fun _ _=>rfl)];by_cases hg:g∈fs
 ·rw[aaa hg]
 ·rw[aab hg,hout g hg];rfl
structure OG (cmp:Bs->Bs->Bool):Prop where
 irr:∀a,cmp a a=false
 tr:∀ {a b c},cmp a b=true->cmp b c=true->cmp a c=true
 tot:∀ {a b},a≠b->cmp a b=true\/cmp b a=true
inductive Two {α β:Type} (R:α->β->Prop):List α->List β->Prop
 |nil:Two R [] []
 |cons {a b l k}:R a b->Two R l k->Two R (a::l) (b::k)
def J9{s:Bs}(h:dM s=true):∀c∈s,c≠46:=(qo h).2.2.1
def Ql{t:List Bs}{s:Int}{f:aH}(h:dD t s=some f):aN f=true:=by
 unfold dD at h
 split at h
 ·exact((uu _ _).1 h).1
 ·cases h
def vT{t:List Bs}{a:aO}{f:aH}(h:eO t a=some f):aN f=true:=by
 unfold eO at h
 cases h1:dD t a.inn with
 |some g=>rw[h1]at h;cases h;exact Ql h1
 |none=>rw[h1]at h;exact Ql h
def Nl{m x:eU}{f:aH}(hm:oU m)(hf:aN f=true)(h:jZ m f.op f.val=some x):oU x:=by
 refine⟨Nn hm.1 hf h,?_⟩;have hv:∀c∈f.val,c≠46:=by
  by_cases e:f.val=[]
  ·rw[e];intro c hc;cases hc
  ·unfold aN at hf
   rw[aaE]at hf;exact J9 ((qd hf.1).2.2 e)
 have h0:∀c∈iF.of,c≠46:=fun c hc=>by cases hc
 unfold jZ at h
 split at h
 ·cases h;exact hv
 ·split at h
  ·cases h;exact hv
  ·split at h
   ·cases h;exact h0
   ·split at h
    ·split at h<;>split at h<;>cases h<;>exact hm.2
    ·split at h
     ·split at h<;>split at h<;>cases h<;>exact hm.2
     ·split at h
      ·cases h;exact hv
      ·cases h
theorem vE(t:List Bs):∀(arcs:List aO) (l:List Bs),l.Nodup->(dR t arcs l).Nodup/\(∀x∈l,x∈dR t arcs l)/\∀a∈arcs,∀f,eO t a=some f->f.feat∈dR t arcs l
 |[],l,h=>⟨h,fun x hx=>hx,fun a ha=>by cases ha⟩
 |a::r,l,h=>by
  unfold dR
  cases ha:eO t a with
  |none=>
   obtain⟨h1,h2,h3⟩:=vE t r l h;refine⟨h1,h2,fun b hb f hf=>?_⟩;rcases aay.1 hb with rfl|hb
   ·rw[ha]at hf;cases hf
   ·exact h3 b hb f hf
  |some f=>
   by_cases hm:f.feat∈l
   ·simp only[]
    rw[aaa hm];obtain⟨h1,h2,h3⟩:=vE t r l h;refine⟨h1,h2,fun b hb g hg=>?_⟩;rcases aay.1 hb with rfl|hb
    ·rw[ha]at hg;cases hg;exact h2 _ hm
    ·exact h3 b hb g hg
   ·simp only[]
    rw[aab hm];obtain⟨h1,h2,h3⟩:=vE t r (l++[f.feat]) (by
     rw[adD];refine⟨h,by simp,fun x hx y hy e=>?_⟩;simp only[aar]at hy;subst hy;subst e;exact hm hx)
    refine⟨h1,fun x hx=>h2 x (abB _ hx),fun b hb g hg=>?_⟩;rcases aay.1 hb with rfl|hb
    ·rw[ha]at hg;cases hg;exact h2 _ (ab6 _ (by simp))
    ·exact h3 b hb g hg
theorem xN(t:List Bs):∀(ss:List bI) (l:List Bs),l.Nodup->(fG t ss l).Nodup/\(∀x∈l,x∈fG t ss l)/\∀s∈ss,∀a∈s.arcs,∀f,eO t a=some f->f.feat∈fG t ss l
 |[],l,h=>⟨h,fun x hx=>hx,fun a ha=>by cases ha⟩
 |s::r,l,h=>by
  unfold fG;obtain⟨h1,h2,h3⟩:=vE t s.arcs l h;obtain⟨k1,k2,k3⟩:=xN t r (dR t s.arcs l) h1;refine⟨k1,fun x hx=>k2 x (h2 x hx),fun q hq a ha f hf=>?_⟩;rcases aay.1 hq with rfl|hq
  ·exact k2 _ (h3 a ha f hf)
  ·exact k3 q hq a ha f hf
theorem AU{γ:Type}[DecidableEq γ]:∀ {l:List γ} {p:γ} {n:Nat},jr l p=some n->n<l.length
 |[],p,n,h=>by cases h
 |q::r,p,n,h=>by
  unfold jr at h
  split at h
  ·cases h;simp
  ·cases hf:jr r p with
   |none=>rw[hf]at h;cases h
   |some k=>
    rw[hf]at h;simp only[aba,aao]at h;have:=AU hf;rw[aaF];omega
def Om{γ:Type}[DecidableEq γ](l:List γ)(p:γ):(dG l p).1<(dG l p).2.length/\l.length<=(dG l p).2.length/\(∀x∈(dG l p).2,x∈l\/x=p)/\∀x∈l,x∈(dG l p).2:=by
 unfold dG
 cases h:jr l p with
 |some n=>exact⟨AU h,Pe _,fun x hx=>aam hx,fun x hx=>hx⟩
 |none=>
  refine⟨by simp,by simp,fun x hx=>?_,fun x hx=>abB _ hx⟩;rcases aaG.1 hx with h|h
  ·exact aam h
  ·exact aad (aar.1 h)
def RJ{t:List Bs}{s:Int}(h:aBU s=true):aBU (fE t s)=true:=by
 unfold fE
 split
 ·rfl
 ·exact h
def Ms{k:Int}{a:Bs}(h:bg k a=true):aT k a=true/\a≠bD/\a≠dC:=by
 unfold bg at h;simp only[aaE,aax]at h;exact⟨h.1,h.2.1,h.2.2.1⟩
def mh{k:Int}{n:Nat}{a:aO}:dZ k n a=true↔aBU a.inn=true/\aBU a.out=true/\(0<=a.to/\a.to<n)/\bg k a.w=true:=by
 unfold dZ;simp only[aaE,aax,and_assoc]
def QM{k:Int}{n n':Nat}{a:aO}(h:dZ k n a=true)(hn:n<=n'):dZ k n' a=true:=by
 rw[mh]at h ⊢;exact⟨h.1,h.2.1,⟨h.2.2.1.1,by omega⟩,h.2.2.2⟩
theorem Qc{k:Int}{N:Nat}{t fs:List Bs}{mem:Bs}:∀(arcs:List aO) (l:List aR) (out:List aO),(∀a∈arcs,dZ k N a=true)->(∀p∈l,0<=p.1/\p.1<N)->(∀a∈out,dZ k l.length a=true) ->
  (∀p∈(iO t fs mem arcs l out).2,0<=p.1/\p.1<N)/\(∀a∈(iO t fs mem arcs l out).1,dZ k (iO t fs mem arcs l out).2.length a=true)/\l.length<=(iO t fs mem arcs l out).2.length/\(∀x∈l,x∈(iO t fs mem arcs l out).2)
 |[],l,out,_,h2,h3=>⟨h2,h3,Pe _,fun x hx=>hx⟩
 |a::r,l,out,h1,h2,h3=>by
  have ha:=h1 a aal;have hr:=fun b hb=>h1 b (aaj a hb)
  unfold iO
  cases hn:jy t fs mem a with
  |none=>exact Qc r l out hr h2 h3
  |some tz=>
   simp only[];obtain⟨v1,v2,v3,v4⟩:=Om l (a.to,tz);obtain⟨e1,e2,e3,e4⟩:=Qc (t:=t) (fs:=fs) (mem:=mem) r (dG l (a.to,tz)).2 (out++[⟨fE t a.inn,fE t a.out,a.w,(dG l (a.to,tz)).1⟩]) hr (fun p hp=>by
     rcases v3 p hp with h|rfl
     ·exact h2 p h
     ·exact(mh.1 ha).2.2.1) (fun b hb=>by
     rcases aaG.1 hb with h|h
     ·exact QM (h3 b h) v2
     ·rw[aar]at h
      subst h;rw[mh]at ha ⊢;exact⟨RJ ha.1,RJ ha.2.1,⟨by show(0:Int)<=((dG l (a.to,tz)).1:Int);omega,by show((dG l (a.to,tz)).1:Int)<_;omega⟩,ha.2.2.2⟩)
   exact⟨e1,e2,aaB v2 e3,fun x hx=>e4 x (v4 x hx)⟩
def pg{k:Int}{n:Nat}{s:bI}:aBP k n s=true↔(s.fin=[]\/bg k s.fin=true)/\∀a∈s.arcs,dZ k n a=true:=by
 unfold aBP;simp only[aaE,aca,aax,aaT]
def Tp{k:Int}{n n':Nat}{s:bI}(h:aBP k n s=true)(hn:n<=n'):aBP k n' s=true:=by
 rw[pg]at h ⊢;exact⟨h.1,fun a ha=>QM (h.2 a ha) hn⟩
def kV{m:aQ}:bM m=true↔kindOk m.kind=true/\(1<=m.states.length/\m.states.length<=3000/\0<=m.start/\m.start<m.states.length)/\bg m.kind m.lead=true/\(∀s∈m.states,aBP m.kind m.states.length s=true)/\dh m.states<=30000:=by
 unfold bM;simp only[aaE,aax,aaT,and_assoc]
def RB{m:aQ}(hm:bM m=true){q:Int}(h:0<=q/\q<m.states.length):wL m q∈m.states:=by
 unfold wL;rw[aaf,aak (show q.toNat<m.states.length by omega)];exact aag _
theorem QT{m:aQ}{t fs:List Bs}(hm:bM m=true):∀(n i:Nat) (l:List aR) (out:List bI) (c:Nat) (x:List bI),l.length<=3000->1<=l.length->out.length=i->i<=l.length->(∀p∈l,0<=p.1/\p.1<m.states.length)->dh out=c->c<=30000 ->
  (∀s∈out,aBP m.kind l.length s=true)->lC m t fs n i l out c=some x->bM ⟨m.kind,0,m.lead,x⟩=true
 |0,i,l,out,c,x,_,_,_,_,_,_,_,_,h=>by cases h
 |n+1,i,l,out,c,x,h1,h2,h3,h4,h5,h6,h7,h8,h=>by
  unfold lC at h;obtain⟨m1,m2,m3,m4,m5⟩:=kV.1 hm;by_cases hi:i<l.length
  ·rw[afd hi]at h
   have hs:=m4 _ (RB hm (h5 _ (aag hi)));obtain⟨s1,s2⟩:=pg.1 hs;obtain⟨e1,e2,e3,e4⟩:=Qc (t:=t) (fs:=fs) (mem:=l[i].2) (wL m l[i].1).arcs l [] s2 h5 (fun a ha=>by cases ha);simp only[]at h
   split at h
   ·cases h
   ·rename_i hno
    refine QT hm n (i+1) _ _ _ x (by omega) (by omega) (by simp[h3]) (by omega) e1 ?_ (by omega) ?_ h
    ·unfold dh at h6 ⊢
     rw[aa3,ady,h6];simp
    ·intro s hs'
     rcases aaG.1 hs' with h'|h'
     ·exact Tp (h8 s h') e3
     ·rw[aar]at h'
      subst h';exact pg.2 ⟨s1,e2⟩
  ·rw[aek hi]at h
   cases h
   obtain rfl:i=l.length:=by omega
   refine kV.2 ⟨m1,⟨by show 1<=out.length;omega,by show out.length<=3000;omega,by show(0:Int)<=0;omega,by show(0:Int)<(out.length:Int);omega⟩,m3,fun s hs=>?_,by show dh out<=_;omega⟩;show aBP m.kind out.length s=true;rw[h3];exact h8 s hs
def Sc{m:aQ}{t:List Bs}{x:List bI}(hm:bM m=true)(h:lC m t (fG t m.states []) 3001 0 [(m.start,dE (fG t m.states []) [])] [] 0=some x):bM ⟨m.kind,0,m.lead,x⟩=true:=by
 obtain⟨m1,m2,m3,m4,m5⟩:=kV.1 hm;exact QT hm 3001 0 _ [] 0 x (by simp) (by simp) rfl (by omega) (fun p hp=>by rw[aar]at hp;subst hp;exact⟨m2.2.2.1,m2.2.2.2⟩) rfl (by omega) (fun s hs=>by cases hs) h
end Go.Proofs.YtppnecgeboonbaaGreatDoor
