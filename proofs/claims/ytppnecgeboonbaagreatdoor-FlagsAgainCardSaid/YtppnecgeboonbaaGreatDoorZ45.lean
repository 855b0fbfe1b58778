/- Walks. -/
import Derived.Test.YtppnecgeboonbaaGreatDoorZ44
namespace Go.Proofs.YtppnecgeboonbaaGreatDoor
set_option maxRecDepth 100000
set_option linter.all false
set_option maxHeartbeats 16000000
structure DN (V:Type) where
 dom:V->Prop
 zero:V
 one:V
 qpl:V->V->V
 qtm:V->V->V
 star:V->V
 le:V->V->Prop
 dz:dom zero
 do_:dom one
 dp:∀ {a b},dom a->dom b->dom (qpl a b)
 dt:∀ {a b},dom a->dom b->dom (qtm a b)
 ds:∀ {a},dom a->dom (star a)
 pc:∀ {a b},dom a->dom b->qpl a b=qpl b a
 pa:∀ {a b c},dom a->dom b->dom c->qpl (qpl a b) c=qpl a (qpl b c)
 pz:∀ {a},dom a->qpl zero a=a
 ta:∀ {a b c},dom a->dom b->dom c->qtm (qtm a b) c=qtm a (qtm b c)
 ono:∀ {a},dom a->qtm one a=a
 ot:∀ {a},dom a->qtm a one=a
 tz:∀ {a},dom a->qtm a zero=zero
 zt:∀ {a},dom a->qtm zero a=zero
 dl:∀ {a b c},dom a->dom b->dom c->qtm a (qpl b c)=qpl (qtm a b) (qtm a c)
 dr:∀ {a b c},dom a->dom b->dom c->qtm (qpl a b) c=qpl (qtm a c) (qtm b c)
 refl:∀ {a},dom a->le a a
 anti:∀ {a b},dom a->dom b->le a b->le b a->a=b
 trans:∀ {a b c},dom a->dom b->dom c->le a b->le b c->le a c
 mono:∀ {a b c},dom a->dom b->dom c->le a b->le (qpl a c) (qpl b c)
 qqs:∀ {a b c},dom a->dom b->dom c->le a b->le (qtm c a) (qtm c b)
 sfix:∀ {a},dom a->qpl one (qtm a (star a))=star a
 qqr:∀ {a b x},dom a->dom b->dom x->le (qpl b (qtm a x)) x->le (qtm (star a) b) x
namespace DN
variable {V:Type} (K:DN V)
def sum(f:Nat->V):Nat->Nat->V
 |_,0=>K.zero
 |i,n+1=>K.qpl (f i) (sum f (i+1) n)
variable {K}
theorem qqe{f:Nat->V}:∀(i n:Nat),(∀j,i<=j->j<i+n->K.dom (f j))->K.dom (K.sum f i n)
 |i,0,_=>K.dz
 |i,n+1,h=>K.dp (h i (Pe _) (by omega)) (qqe (i+1) n fun j h1 h2=>h j (by omega) (by omega))
theorem qqf{f g:Nat->V}:∀(i n:Nat),(∀j,i<=j->j<i+n->f j=g j)->K.sum f i n=K.sum g i n
 |i,0,_=>rfl
 |i,n+1,h=>by rw[sum,sum,h i (Pe _) (by omega),qqf (i+1) n fun j h1 h2=>h j (by omega) (by omega)]
theorem aFH{f g:Nat->V}:∀(i n:Nat),(∀j,i<=j->j<i+n->K.dom (f j))->(∀j,i<=j->j<i+n->K.dom (g j))->K.sum (fun j=>K.qpl (f j) (g j)) i n=K.qpl (K.sum f i n) (K.sum g i n)
 |i,0,_,_=>(K.pz K.dz).symm
 |i,n+1,hf,hg=>by
  have f0:=hf i (Pe _) (by omega);have g0:=hg i (Pe _) (by omega);have f1:=qqe (K:=K) (i+1) n fun j h1 h2=>hf j (by omega) (by omega)
  have g1:=qqe (K:=K) (i+1) n fun j h1 h2=>hg j (by omega) (by omega)
  rw[sum,sum,sum,aFH (i+1) n (fun j h1 h2=>hf j (by omega) (by omega)) (fun j h1 h2=>hg j (by omega) (by omega))];rw[K.pa f0 g0 (K.dp f1 g1),K.pa f0 f1 (K.dp g0 g1)];congr 1;rw[<-K.pa g0 f1 g1,K.pc g0 f1,K.pa f1 g0 g1]
theorem aFV{f:Nat->V}{c:V}(hc:K.dom c):∀(i n:Nat),(∀j,i<=j->j<i+n->K.dom (f j))->K.sum (fun j=>K.qtm c (f j)) i n=K.qtm c (K.sum f i n)
 |i,0,_=>(K.tz hc).symm
 |i,n+1,hf=>by
  have f0:=hf i (Pe _) (by omega);have f1:=qqe (K:=K) (i+1) n fun j h1 h2=>hf j (by omega) (by omega)
  rw[sum,sum,aFV hc (i+1) n (fun j h1 h2=>hf j (by omega) (by omega)),K.dl hc f0 f1]
theorem aFz{f:Nat->V}:∀(i n:Nat),(∀j,i<=j->j<i+(n+1)->K.dom (f j))->K.sum f i (n+1)=K.qpl (K.sum f i n) (f (i+n))
 |i,0,hf=>by
  have f0:=hf i (Pe _) (by omega);show K.qpl (f i) K.zero=K.qpl K.zero (f (i+0));rw[K.pc f0 K.dz];rfl
 |i,n+1,hf=>by
  have f0:=hf i (Pe _) (by omega);have f1:=qqe (K:=K) (i+1) n fun j h1 h2=>hf j (by omega) (by omega)
  have f2:=hf (i+1+n) (by omega) (by omega);rw[sum,aFz (i+1) n (fun j h1 h2=>hf j (by omega) (by omega)),sum,<-K.pa f0 f1 f2,show i+1+n=i+(n+1) by omega]
theorem qqi{f:Nat->V}:∀(i n:Nat),(∀j,i<=j->j<i+n->f j=K.zero)->K.sum f i n=K.zero
 |i,0,_=>rfl
 |i,n+1,h=>by rw[sum,h i (Pe _) (by omega),qqi (i+1) n fun j h1 h2=>h j (by omega) (by omega),K.pz K.dz]
def aFr{a b c d:V}(ha:K.dom a)(hb:K.dom b)(hc:K.dom c)(hd:K.dom d)(h:K.le a b)(h':K.le c d):K.le (K.qpl a c) (K.qpl b d):=by
 refine K.trans (K.dp ha hc) (K.dp hb hc) (K.dp hb hd) (K.mono ha hb hc h) ?_;rw[K.pc hb hc,K.pc hb hd];exact K.mono hc hd hb h'
def next(K:DN V)(p:Nat)(a:Nat->Nat->V)(i j:Nat):V:=K.qpl (a i j) (K.qtm (K.qtm (a i p) (K.star (a p p))) (a p j))
def nexts(K:DN V):Nat->(Nat->Nat->V)->Nat->Nat->V
 |0,a=>a
 |p+1,a=>next K p (nexts K p a)
def MDom(K:DN V)(n:Nat)(a:Nat->Nat->V):Prop:=∀i j,i<n->j<n->K.dom (a i j)
def aF2{n p:Nat}{a:Nat->Nat->V}(h:MDom K n a)(hp:p<n):MDom K n (next K p a):=fun i j hi hj=>
 K.dp (h i j hi hj) (K.dt (K.dt (h i p hi hp) (K.ds (h p p hp hp))) (h p j hp hj))
theorem qqk{n:Nat}{a:Nat->Nat->V}(h:MDom K n a):∀p,p<=n->MDom K n (nexts K p a)
 |0,_=>h
 |p+1,hp=>aF2 (qqk h p (by omega)) (by omega)
def rhs(K:DN V)(n p:Nat)(a:Nat->Nat->V)(b x:Nat->V)(i:Nat):V:=
 K.qpl (K.qpl (b i) (K.sum (fun j=>K.qtm (a i j) (b j)) 0 p)) (K.sum (fun j=>K.qtm (a i j) (x j)) p (n-p))
section
variable {n p:Nat} {a:Nat->Nat->V} {b x:Nat->V} (ha:MDom K n a) (hb:∀i,i<n->K.dom (b i)) (hx:∀i,i<n->K.dom (x i)) (hp:p<n)
include ha hb hx hp
def aFB{i:Nat}(hi:i<n):K.dom (K.qpl (b i) (K.sum (fun j=>K.qtm (a i j) (b j)) 0 p)):=by
 have _:=hx i hi;exact K.dp (hb i hi) (qqe 0 p fun j _ h=>K.dt (ha i j hi (by omega)) (hb j (by omega)))
def aFq{i:Nat}(hi:i<n):K.dom (K.sum (fun j=>K.qtm (a i j) (x j)) (p+1) (n-(p+1))):=by
 have _:=hb i hi;exact qqe _ _ fun j h h'=>K.dt (ha i j hi (by omega)) (hx j (by omega))
def aFE{i:Nat}(hi:i<n):rhs K n p a b x i =
  K.qpl (K.qpl (b i) (K.sum (fun j=>K.qtm (a i j) (b j)) 0 p)) (K.qpl (K.qtm (a i p) (x p)) (K.sum (fun j=>K.qtm (a i j) (x j)) (p+1) (n-(p+1)))):=by
 have _:=ha i i hi hi;have _:=hb i hi;have _:=hx i hi;unfold rhs;rw[show n-p=(n-(p+1))+1 by omega,sum]
def aFD{i:Nat}(hi:i<n):rhs K n (p+1) (next K p a) b x i =
  K.qpl (K.qpl (b i) (K.sum (fun j=>K.qtm (a i j) (b j)) 0 p))
   (K.qpl (K.qtm (a i p) (K.qtm (K.star (a p p)) (K.qpl (K.qpl (b p) (K.sum (fun j=>K.qtm (a p j) (b j)) 0 p)) (K.sum (fun j=>K.qtm (a p j) (x j)) (p+1) (n-(p+1))))))
    (K.sum (fun j=>K.qtm (a i j) (x j)) (p+1) (n-(p+1)))):=by
 have hs:=K.ds (ha p p hp hp);have hip:=ha i p hi hp;have hc:=K.dt hip hs;have d1:∀r,r<n->∀j,j<n->K.dom (K.qtm (a r j) (b j)):=fun r hr j hj=>K.dt (ha r j hr hj) (hb j hj)
 have d2:∀r,r<n->∀j,j<n->K.dom (K.qtm (a r j) (x j)):=fun r hr j hj=>K.dt (ha r j hr hj) (hx j hj)
 have key:∀(y:Nat->V),(∀j,j<n->K.dom (y j))->∀q c,q+c<=n->K.sum (fun j=>K.qtm (next K p a i j) (y j)) q c=K.qpl (K.sum (fun j=>K.qtm (a i j) (y j)) q c) (K.qtm (K.qtm (a i p) (K.star (a p p))) (K.sum (fun j=>K.qtm (a p j) (y j)) q c)):=by
  intro y hy q c hq;rw[<-aFV hc q c (fun j h h'=>K.dt (ha p j hp (by omega)) (hy j (by omega))),<-aFH q c (fun j h h'=>K.dt (ha i j hi (by omega)) (hy j (by omega))) (fun j h h'=>K.dt hc (K.dt (ha p j hp (by omega)) (hy j (by omega))))];refine qqf q c fun j h h'=>?_
  have hj:j<n:=by omega
  unfold next
  rw[K.dr (ha i j hi hj) (K.dt hc (ha p j hp hj)) (hy j hj),K.ta hc (ha p j hp hj) (hy j hj)]
 unfold rhs;rw[key b hb 0 (p+1) (by omega),key x hx (p+1) (n-(p+1)) (by omega)];rw[aFz 0 p (fun j _ h=>d1 i hi j (by omega)),aFz 0 p (fun j _ h=>d1 p hp j (by omega)),aaP];have B:=hb i hi;have S:=qqe (K:=K) (f:=fun j=>K.qtm (a i j) (b j)) 0 p (fun j _ h=>d1 i hi j (by omega));have Sp:=qqe (K:=K) (f:=fun j=>K.qtm (a p j) (b j)) 0 p (fun j _ h=>d1 p hp j (by omega));have X:=aFq ha hb hx hp hi;have Xp:=aFq ha hb hx hp hp;have Vf:=ha p p hp hp;have Bp0q:=hb p hp;generalize K.sum (fun j=>K.qtm (a i j) (b j)) 0 p=s at*;generalize K.sum (fun j=>K.qtm (a p j) (b j)) 0 p=sp at*;generalize K.sum (fun j=>K.qtm (a i j) (x j)) (p+1) (n-(p+1))=X1 at*;generalize K.sum (fun j=>K.qtm (a p j) (x j)) (p+1) (n-(p+1))=X2 at*;generalize b i=bi0q at*;generalize b p=bp at*;generalize a i p=u at*;have e1:K.qpl (K.qtm u bp) (K.qtm (K.qtm u (K.star (a p p))) (K.qpl sp (K.qtm (a p p) bp)))=K.qtm (K.qtm u (K.star (a p p))) (K.qpl sp bp):=by
  have hstar:K.qpl K.one (K.qtm (K.star (a p p)) (a p p))=K.star (a p p):=by
   have h1:=K.sfix Vf;have comm:K.qtm (a p p) (K.star (a p p))=K.qtm (K.star (a p p)) (a p p):=by
    have hr:=K.ds Vf;refine K.anti (K.dt Vf hr) (K.dt hr Vf) ?_ ?_
    ·
     have:K.le (K.qpl K.one (K.qtm (a p p) (K.qpl K.one (K.qtm (K.star (a p p)) (a p p))))) (K.qpl K.one (K.qtm (K.star (a p p)) (a p p))):=by
      have e:K.qpl K.one (K.qtm (a p p) (K.qpl K.one (K.qtm (K.star (a p p)) (a p p))))=K.qpl K.one (K.qtm (K.star (a p p)) (a p p)):=by
       rw[K.dl Vf K.do_ (K.dt hr Vf),K.ot Vf,<-K.ta Vf hr Vf];congr 1;have:=aaw (fun z=>K.qtm z (a p p)) h1;simp only[K.dr K.do_ (K.dt Vf hr) Vf,K.ono Vf]at this;exact this
      rw[e];exact K.refl (K.dp K.do_ (K.dt hr Vf))
     have l:=K.qqr Vf K.do_ (K.dp K.do_ (K.dt hr Vf)) this;rw[K.ot hr]at l;have l2:=K.qqs hr (K.dp K.do_ (K.dt hr Vf)) Vf l;refine K.trans (K.dt Vf hr) (K.dt Vf (K.dp K.do_ (K.dt hr Vf))) (K.dt hr Vf) l2 ?_;rw[K.dl Vf K.do_ (K.dt hr Vf),K.ot Vf,<-K.ta Vf hr Vf];have:=aaw (fun z=>K.qtm z (a p p)) h1;simp only[K.dr K.do_ (K.dt Vf hr) Vf,K.ono Vf]at this;rw[this];exact K.refl (K.dt hr Vf)
    ·refine K.qqr Vf Vf (K.dt Vf hr) ?_
     have e:K.qpl (a p p) (K.qtm (a p p) (K.qtm (a p p) (K.star (a p p))))=K.qtm (a p p) (K.star (a p p)):=by
      have:=aaw (fun z=>K.qtm (a p p) z) h1;simp only[K.dl Vf K.do_ (K.dt Vf hr),K.ot Vf]at this;exact this
     rw[e];exact K.refl (K.dt Vf hr)
   rw[<-comm];exact h1
  rw[K.dl hc Sp (K.dt Vf Bp0q),K.dl hc Sp Bp0q,<-K.pa (K.dt hip Bp0q) (K.dt hc Sp) (K.dt hc (K.dt Vf Bp0q)),K.pc (K.dt hip Bp0q) (K.dt hc Sp),K.pa (K.dt hc Sp) (K.dt hip Bp0q) (K.dt hc (K.dt Vf Bp0q))];congr 1;rw[K.ta hip hs (K.dt Vf Bp0q),<-K.ta hs Vf Bp0q,<-K.dl hip Bp0q (K.dt (K.dt hs Vf) Bp0q),K.ta hip hs Bp0q];congr 1;have:=aaw (fun z=>K.qtm z bp) hstar;simp only[K.dr K.do_ (K.dt hs Vf) Bp0q,K.ono Bp0q]at this;exact this
 have W:=K.dt hc (K.dp Sp (K.dt Vf Bp0q));rw[show K.qpl (K.qpl s (K.qtm u bp)) (K.qtm (K.qtm u (K.star (a p p))) (K.qpl sp (K.qtm (a p p) bp)))=K.qpl s (K.qtm (K.qtm u (K.star (a p p))) (K.qpl sp bp)) by rw[K.pa S (K.dt hip Bp0q) W,e1]];rw[<-K.ta hip hs (K.dp (K.dp Bp0q Sp) Xp),K.dl hc (K.dp Bp0q Sp) Xp,K.pc Bp0q Sp];have P:=K.dt hc (K.dp Sp Bp0q);have Q:=K.dt hc Xp;generalize K.qtm (K.qtm u (K.star (a p p))) (K.qpl sp bp)=P1 at*;generalize K.qtm (K.qtm u (K.star (a p p))) X2=Q1 at*;rw[<-K.pa B S P,K.pa (K.dp B S) P (K.dp X Q),K.pc X Q,<-K.pa P Q X]
def aFZ(h:∀i,i<n->K.le (rhs K n p a b x i) (x i)):∀i,i<n->K.le (rhs K n (p+1) (next K p a) b x i) (x i):=by
 have C:=aFB ha hb hx hp hp;have X:=aFq ha hb hx hp hp;have Vf:=ha p p hp hp;have hs:=K.ds Vf;have hpi:=h p hp;rw[aFE ha hb hx hp hp]at hpi;have hle:K.le (K.qtm (K.star (a p p)) (K.qpl (K.qpl (b p) (K.sum (fun j=>K.qtm (a p j) (b j)) 0 p)) (K.sum (fun j=>K.qtm (a p j) (x j)) (p+1) (n-(p+1))))) (x p):=by
  refine K.qqr Vf (K.dp C X) (hx p hp) ?_;rw[K.pa C X (K.dt Vf (hx p hp)),K.pc X (K.dt Vf (hx p hp))];exact hpi
 intro i hi;have h0:=h i hi;rw[aFE ha hb hx hp hi]at h0;rw[aFD ha hb hx hp hi];have Ci0q:=aFB ha hb hx hp hi;have Xi0q:=aFq ha hb hx hp hi;have hip:=ha i p hi hp;have D:=K.dt hs (K.dp C X);refine K.trans (K.dp Ci0q (K.dp (K.dt hip D) Xi0q)) (K.dp Ci0q (K.dp (K.dt hip (hx p hp)) Xi0q)) (hx i hi) ?_ h0;refine aFr Ci0q Ci0q (K.dp (K.dt hip D) Xi0q) (K.dp (K.dt hip (hx p hp)) Xi0q) (K.refl Ci0q) ?_;exact aFr (K.dt hip D) (K.dt hip (hx p hp)) Xi0q Xi0q (K.qqs D (hx p hp) hip hle) (K.refl Xi0q)
def aFY(h:∀i,i<n->x i=rhs K n (p+1) (next K p a) b x i):∀i,i<n->x i=rhs K n p a b x i:=by
 have C:=aFB ha hb hx hp hp;have X:=aFq ha hb hx hp hp;have Vf:=ha p p hp hp;have hs:=K.ds Vf;have D:=K.dt hs (K.dp C X);have hxp:x p=K.qtm (K.star (a p p)) (K.qpl (K.qpl (b p) (K.sum (fun j=>K.qtm (a p j) (b j)) 0 p)) (K.sum (fun j=>K.qtm (a p j) (x j)) (p+1) (n-(p+1)))):=by
  have h0:=h p hp;rw[aFD ha hb hx hp hp]at h0;rw[h0,K.pc (K.dt Vf D) X,<-K.pa C X (K.dt Vf D),<-K.ta Vf hs (K.dp C X)];have h1:=aaw (fun z=>K.qtm z (K.qpl (K.qpl (b p) (K.sum (fun j=>K.qtm (a p j) (b j)) 0 p)) (K.sum (fun j=>K.qtm (a p j) (x j)) (p+1) (n-(p+1))))) (K.sfix Vf);simp only[K.dr K.do_ (K.dt Vf hs) (K.dp C X),K.ono (K.dp C X)]at h1;exact h1
 intro i hi;rw[aFE ha hb hx hp hi]
 conv=>rhs;rw[hxp]
 rw[<-aFD ha hb hx hp hi];exact h i hi
end
def sol(K:DN V)(n:Nat)(a:Nat->Nat->V)(b:Nat->V)(i:Nat):V:=K.qpl (b i) (K.sum (fun j=>K.qtm (nexts K n a i j) (b j)) 0 n)
def qql{n:Nat}{a:Nat->Nat->V}{b:Nat->V}(ha:MDom K n a)(hb:∀i,i<n->K.dom (b i)):∀i,i<n->K.dom (sol K n a b i):=fun i hi=>
 K.dp (hb i hi) (qqe 0 n fun j _ h=>K.dt (qqk ha n (Pe _) i j hi (by omega)) (hb j (by omega)))
def aFS{n:Nat}{a:Nat->Nat->V}{b x:Nat->V}(ha:MDom K n a)(hb:∀i,i<n->K.dom (b i)){i:Nat}(hi:i<n):rhs K n n a b x i=K.qpl (b i) (K.sum (fun j=>K.qtm (a i j) (b j)) 0 n):=by
 unfold rhs;rw[abx,sum];have:=K.dp (hb i hi) (qqe (K:=K) (f:=fun j=>K.qtm (a i j) (b j)) 0 n fun j _ h=>K.dt (ha i j hi (by omega)) (hb j (by omega)));rw[K.pc this K.dz,K.pz this]
def aFT{n:Nat}{a:Nat->Nat->V}{b x:Nat->V}(hb:∀i,i<n->K.dom (b i)){i:Nat}(hi:i<n):rhs K n 0 a b x i=K.qpl (b i) (K.sum (fun j=>K.qtm (a i j) (x j)) 0 n):=by
 unfold rhs;rw[sum,K.pc (hb i hi) K.dz,K.pz (hb i hi),aeT]
def aFy{n:Nat}{a:Nat->Nat->V}{b:Nat->V}(ha:MDom K n a)(hb:∀i,i<n->K.dom (b i)):∀i,i<n->sol K n a b i=K.qpl (b i) (K.sum (fun j=>K.qtm (a i j) (sol K n a b j)) 0 n):=by
 have hx:=qql ha hb;have key:∀c p,p+c=n->∀i,i<n->sol K n a b i=rhs K n p (nexts K p a) b (sol K n a b) i:=by
  intro c
  induction c with
  |zero=>
   intro p hp i hi;obtain rfl:p=n:=by omega
   rw[aFS (qqk ha p (Pe _)) hb hi];rfl
  |succ c ih=>
   intro p hp;exact aFY (qqk ha p (by omega)) hb hx (by omega) (ih (p+1) (by omega))
 intro i hi;rw[key n 0 (by omega) i hi,aFT hb hi]
 rfl
def aFU{n:Nat}{a:Nat->Nat->V}{b x:Nat->V}(ha:MDom K n a)(hb:∀i,i<n->K.dom (b i))(hx:∀i,i<n->K.dom (x i))(h:∀i,i<n->K.le (K.qpl (b i) (K.sum (fun j=>K.qtm (a i j) (x j)) 0 n)) (x i)):∀i,i<n->K.le (sol K n a b i) (x i):=by
 have key:∀p,p<=n->∀i,i<n->K.le (rhs K n p (nexts K p a) b x i) (x i):=by
  intro p
  induction p with
  |zero=>intro _ i hi;rw[aFT hb hi];exact h i hi
  |succ p ih=>intro hp;exact aFZ (qqk ha p (by omega)) hb hx (by omega) (ih (by omega))
 intro i hi;have:=key n (Pe _) i hi;rwa[aFS (qqk ha n (Pe _)) hb hi]at this
end DN
inductive Val where
 |inf|down|num (q:Rat)
deriving DecidableEq
namespace Val
def minV:Val->Val->Val
 |inf,b=>b
 |a,inf=>a
 |down,_=>down
 |_,down=>down
 |num p,num q=>if q<p then num q else num p
def addI:Val->Val->Val
 |inf,_=>inf
 |_,inf=>inf
 |down,_=>down
 |_,down=>down
 |num p,num q=>num (p+q)
def qqp:Val->Val
 |inf=>num 0
 |down=>down
 |num q=>if 0<=q then num 0 else down
def leI:Val->Val->Prop
 |inf,_=>True
 |_,down=>True
 |_,inf=>False
 |down,_=>False
 |num p,num q=>q<=p
def aBW{p q:Rat}(h:p=q):num p=num q:=by rw[h]
def trop:DN Val where
 dom _:=True
 zero:=inf
 one:=num 0
 qpl:=minV
 qtm:=addI
 star:=qqp
 le:=leI
 dz:=trivial
 do_:=trivial
 dp _ _:=trivial
 dt _ _:=trivial
 ds _:=trivial
 pc:=by
  intro a b _ _
  cases a<;>cases b<;>simp only[minV]
  split<;>split<;>first|rfl|(apply aBW;grind)|grind
 pa:=by
  intro a b c _ _ _
  cases a<;>cases b<;>cases c<;>simp only[minV]<;>(repeat' split)<;>(try simp only[minV])<;>(repeat' split)<;>first|rfl|(apply aBW;grind)|grind
 pz:=by intro a _;cases a<;>rfl
 ta:=by
  intro a b c _ _ _
  cases a<;>cases b<;>cases c<;>simp only[addI]
  apply aBW;grind
 ono:=by intro a _;cases a<;>simp only[addI];apply aBW;grind
 ot:=by intro a _;cases a<;>simp only[addI];apply aBW;grind
 tz:=by intro a _;cases a<;>rfl
 zt:=by intro a _;cases a<;>rfl
 dl:=by
  intro a b c _ _ _
  cases a<;>cases b<;>cases c<;>simp only[minV,addI]<;>(repeat' split)<;>(try simp only[minV,addI])<;>(repeat' split)<;>first|rfl|(apply aBW;grind)|grind
 dr:=by
  intro a b c _ _ _
  cases a<;>cases b<;>cases c<;>simp only[minV,addI]<;>(repeat' split)<;>(try simp only[minV,addI])<;>(repeat' split)<;>first|rfl|(apply aBW;grind)|grind
 refl:=by intro a _;cases a<;>simp only[leI];exact af6
 anti:=by
  intro a b _ _ h h'
  cases a<;>cases b<;>simp only[leI]at h h'<;>first|rfl|(exact h.elim)|(exact h'.elim)|(apply aBW;grind)
 trans:=by
  intro a b c _ _ _ h h'
  cases a<;>cases b<;>cases c<;>simp only[leI]at h h' ⊢<;>first|trivial|(exact h.elim)|(exact h'.elim)|grind
 mono:=by
  intro a b c _ _ _ h
  cases a<;>cases b<;>cases c<;>simp only[leI]at h<;>simp only[minV]<;>(repeat' split)<;>simp only[leI]<;>first|trivial|(exact h.elim)|grind
 qqs:=by
  intro a b c _ _ _ h
  cases a<;>cases b<;>cases c<;>simp only[leI]at h<;>simp only[addI,leI]<;>first|trivial|(exact h.elim)|grind
 sfix:=by
  intro a _
  cases a with
  |inf=>rfl
  |down=>rfl
  |num q=>
   simp only[qqp];by_cases h:0<=q
   ·rw[aaa h];simp only[addI,minV];rw[aab (by grind)]
   ·rw[aab h];rfl
 qqr:=by
  intro a b x _ _ _ h
  cases a with
  |inf=>
   cases b<;>cases x<;>simp only[addI,qqp,minV,leI]at h ⊢<;>first|trivial|(exact h.elim)|grind
  |down=>
   cases b<;>cases x<;>simp only[addI,qqp,minV,leI]at h ⊢<;>first|trivial|(exact h.elim)|grind
  |num q=>
   simp only[qqp];by_cases h0:0<=q
   ·rw[aaa h0]
    cases b<;>cases x<;>simp only[addI,minV]at h ⊢<;>(try simp only[leI]at h ⊢)<;>(try split at h)<;>(try simp only[leI]at h ⊢)<;>first|trivial|(exact h.elim)|grind
   ·rw[aab h0]
    cases b<;>cases x<;>simp only[addI,minV]at h ⊢<;>(try simp only[leI]at h ⊢)<;>(try split at h)<;>(try simp only[leI]at h ⊢)<;>first|trivial|(exact h.elim)|grind
def pos:Val->Prop
 |inf=>True
 |down=>False
 |num q=>0<=q
def addP:Val->Val->Val
 |num p,num q=>num (p+q)
 |_,_=>inf
def maxV:Val->Val->Val
 |num p,num q=>if p<q then num q else num p
 |_,_=>inf
def mulV(a b:Val):Val:=if a=num 0\/b=num 0 then num 0 else match a,b with
 |num p,num q=>num (p*q)
 |_,_=>inf
def leP:Val->Val->Prop
 |_,inf=>True
 |inf,_=>False
 |num p,num q=>p<=q
 |down,_=>True
 |_,down=>False
def qqo:Val->Val
 |num q=>if 1<=q then inf else num (1/(1-q))
 |_=>inf
def qqn:Val->Val
 |num q=>if q<=1 then num 1 else inf
 |_=>inf
def qqa(p q:Rat):mulV (num p) (num q)=num (p*q):=by
 unfold mulV
 split
 ·rename_i h
  apply aBW;rcases h with h|h
  ·cases h;grind
  ·cases h;grind
 ·rfl
def qqc{p:Rat}:mulV (num p) inf=if p=0 then num 0 else inf:=by
 unfold mulV;by_cases h:p=0
 ·rw[aaa h,aaa (aam (by rw[h]))]
 ·rw[aab h,aab]
  rintro(e|e)
  ·cases e;exact h rfl
  ·cases e
def qqb{p:Rat}:mulV inf (num p)=if p=0 then num 0 else inf:=by
 unfold mulV;by_cases h:p=0
 ·rw[aaa h,aaa (aad (by rw[h]))]
 ·rw[aab h,aab]
  rintro(e|e)
  ·cases e
  ·cases e;exact h rfl
def qqd:mulV inf inf=inf:=by
 unfold mulV;rw[aab];rintro(e|e)<;>cases e
def aFP{p q:Rat}(hp:p≠0)(hq:q≠0):p*q≠0:=fun e=>(Rat.mul_eq_zero.1 e).elim hp hq
def aF0{p q:Rat}(hp:0<=p)(hq:0<=q):0<=p*q:=Rat.mul_nonneg hp hq
def aFl{p q r:Rat}(h:p<=q)(hr:0<=r):r*p<=r*q:=Rat.mul_le_mul_of_nonneg_left h hr
def aFR{a b:Val}(ha:pos a)(hb:pos b):pos (mulV a b):=by
 cases a with
 |down=>exact ha.elim
 |inf=>
  cases b with
  |down=>exact hb.elim
  |inf=>rw[qqd];trivial
  |num q=>rw[qqb];split<;>simp only[pos];exact af6
 |num p=>
  cases b with
  |down=>exact hb.elim
  |inf=>rw[qqc];split<;>simp only[pos];exact af6
  |num q=>rw[qqa];exact aF0 ha hb
def aFO{a b c:Val}(ha:pos a)(hb:pos b)(hc:pos c):mulV (mulV a b) c=mulV a (mulV b c):=by
 cases a<;>cases b<;>cases c<;>first|(exact ha.elim)|(exact hb.elim)|(exact hc.elim)|skip
 ·rw[qqd,qqd]
 ·rename_i q
  rw[qqd,qqb]
  split
  ·rw[qqb,aaa rfl]
  ·rw[qqd]
 ·rename_i q
  rw[qqb,qqc]
  split
  ·rw[qqc,aaa rfl,qqb,aaa rfl]
  ·rfl
 ·rename_i p q
  rw[qqb,qqa,qqb];by_cases h:p=0
  ·rw[aaa h,qqa,aaa (by rw[h];grind)];apply aBW;grind
  ·rw[aab h,qqb]
   by_cases h2:q=0
   ·rw[aaa h2,aaa (by rw[h2];grind)]
   ·rw[aab h2,aab (aFP h h2)]
 ·rename_i p
  rw[qqc,qqd,qqc];by_cases h:p=0
  ·rw[aaa h,qqc,aaa rfl]
  ·rw[aab h,qqd]
 ·rename_i p q
  rw[qqc,qqb];by_cases h:p=0
  ·rw[aaa h,qqa]
   by_cases h2:q=0
   ·rw[aaa h2,qqa];apply aBW;grind
   ·rw[aab h2,qqc,aaa h];apply aBW;grind
  ·rw[aab h,qqb]
   by_cases h2:q=0
   ·rw[aaa h2,qqa];apply aBW;grind
   ·rw[aab h2,qqc,aab h]
 ·rename_i p q
  rw[qqa,qqc,qqc];by_cases h:q=0
  ·rw[aaa h,qqa,aaa (by rw[h];grind)];apply aBW;grind
  ·rw[aab h,qqc]
   by_cases h2:p=0
   ·rw[aaa h2,aaa (by rw[h2];grind)]
   ·rw[aab h2,aab (aFP h2 h)]
 ·rename_i p q r
  rw[qqa,qqa,qqa,qqa];apply aBW;grind
def mul_comm{a b:Val}(ha:pos a)(hb:pos b):mulV a b=mulV b a:=by
 cases a<;>cases b<;>first|(exact ha.elim)|(exact hb.elim)|skip
 ·rfl
 ·rw[qqb,qqc]
 ·rw[qqb,qqc]
 ·rw[qqa,qqa];apply aBW;grind
def aFA{p q:Rat}(hp:0<=p)(hq:0<=q):p+q=0↔p=0/\q=0:=by
 constructor
 ·intro h;constructor<;>grind
 ·rintro⟨rfl,rfl⟩;grind
def dlP{a b c:Val}(ha:pos a)(hb:pos b)(hc:pos c):mulV a (addP b c)=addP (mulV a b) (mulV a c):=by
 cases a<;>cases b<;>cases c<;>first|(exact ha.elim)|(exact hb.elim)|(exact hc.elim)|skip
 all_goals (simp only[addP])
 ·rw[qqd]
 ·rw[qqd]
 ·rename_i q
  rw[qqd,qqb];by_cases h0:q=0
  ·rw[aaa h0];try rfl
  ·rw[aab h0];try rfl
 ·rename_i p q
  rw[qqb,qqb,qqb];by_cases h:p=0
  ·by_cases h2:q=0
   ·rw[aaa ((aFA hb hc).2 ⟨h,h2⟩),aaa h,aaa h2];simp only[addP];apply aBW;grind
   ·rw[aab (fun e=>h2 ((aFA hb hc).1 e).2),aaa h,aab h2]
  ·rw[aab (fun e=>h ((aFA hb hc).1 e).1),aab h]
 ·rename_i p;rw[qqc];split
  ·simp only[addP];apply aBW;grind
  ·rfl
 ·rename_i p q
  rw[qqc,qqa];by_cases h:p=0
  ·rw[aaa h];simp only[addP];apply aBW;rw[h];grind
  ·rw[aab h]
 ·rename_i p q
  rw[qqc,qqa];by_cases h:p=0
  ·rw[aaa h];simp only[addP];apply aBW;rw[h];grind
  ·rw[aab h]
 ·rename_i p q r
  rw[qqa,qqa,qqa];simp only[addP];apply aBW;grind
def dlM{a b c:Val}(ha:pos a)(hb:pos b)(hc:pos c):mulV a (maxV b c)=maxV (mulV a b) (mulV a c):=by
 cases a<;>cases b<;>cases c<;>first|(exact ha.elim)|(exact hb.elim)|(exact hc.elim)|skip
 all_goals (simp only[maxV])
 ·rw[qqd]
 ·rw[qqd]
 ·rename_i q
  rw[qqd,qqb];by_cases h0:q=0
  ·rw[aaa h0];try rfl
  ·rw[aab h0];try rfl
 ·rename_i p q
  simp only[pos]at hb hc;by_cases hlt:p<q
  ·rw[aaa hlt,qqb,qqb]
   rw[aab (by grind)];by_cases hp0:p=0
   ·rw[aaa hp0]
   ·rw[aab hp0]
  ·rw[aab hlt,qqb,qqb]
   by_cases h2:p=0
   ·rw[aaa h2,aaa (by grind)];simp only[maxV];rw[aab (by grind)]
   ·rw[aab h2]
 ·rename_i p;rw[qqc];split
  ·simp only[maxV];rw[aab (by grind)]
  ·rfl
 ·rename_i p q
  rw[qqc,qqa];by_cases h:p=0
  ·rw[aaa h];simp only[maxV];rw[aab (by rw[h];grind)]
  ·rw[aab h]
 ·rename_i p q
  rw[qqc,qqa];by_cases h:p=0
  ·rw[aaa h];simp only[maxV];rw[aab (by rw[h];grind)];apply aBW;rw[h];grind
  ·rw[aab h]
 ·rename_i p q r
  simp only[pos]at ha hb hc;by_cases hlt:q<r
  ·rw[aaa hlt,qqa,qqa];try rw[qqa]
   try simp only[maxV]
   have:=aFl (Rat.le_of_lt hlt) ha
   split
   ·rfl
   ·apply aBW;grind
  ·rw[aab hlt,qqa,qqa];try rw[qqa]
   try simp only[maxV]
   have:=aFl (show r<=q by grind) ha;rw[aab (by grind)]
def aFW{a b c:Val}(ha:pos a)(hb:pos b)(hc:pos c)(h:leP a b):leP (mulV c a) (mulV c b):=by
 cases a<;>cases b<;>cases c<;>first|(exact ha.elim)|(exact hb.elim)|(exact hc.elim)|skip
 all_goals (simp only[leP]at h)
 ·rw[qqd];trivial
 ·rename_i p;rw[qqc];split
  ·exact af6
  ·trivial
 ·rw[qqd];trivial
 ·rename_i p q;rw[qqa,qqc]
  by_cases h0:q=0
  ·rw[aaa h0];simp only[leP];rw[h0];grind
  ·rw[aab h0];trivial
 ·rename_i p q
  rw[qqb,qqb];simp only[pos]at ha hb;by_cases h0:q=0
  ·rw[aaa h0,aaa (by grind)];exact af6
  ·rw[aab h0];split<;>trivial
 ·rename_i p q r
  rw[qqa,qqa];exact aFl h hc
def aFM{a:Val}:leP a a:=by cases a<;>simp only[leP];exact af6
def aFK{a b:Val}(ha:pos a)(hb:pos b)(h:leP a b)(h':leP b a):a=b:=by
 cases a<;>cases b<;>first|(exact ha.elim)|(exact hb.elim)|skip
 all_goals (simp only[leP]at h h')
 all_goals first|rfl|(apply aBW;grind)
def aFL{a b c:Val}(ha:pos a)(hb:pos b)(hc:pos c)(h:leP a b)(h':leP b c):leP a c:=by
 cases a<;>cases b<;>cases c<;>first|(exact ha.elim)|(exact hb.elim)|(exact hc.elim)|skip
 all_goals (simp only[leP]at h h' ⊢)
 grind
def aFx{a:Val}(ha:pos a):mulV (num 1) a=a:=by
 cases a with
 |down=>exact ha.elim
 |inf=>rw[qqc,aab (by decide)]
 |num q=>rw[qqa];apply aBW;grind
def aFX{a:Val}:mulV (num 0) a=num 0:=by unfold mulV;rw[aaa (aam rfl)]
def aFN{a:Val}:mulV a (num 0)=num 0:=by unfold mulV;rw[aaa (aad rfl)]
def aFC{q:Rat}(h:¬ 1<=q):0<=1/(1-q)/\(1-q)*(1/(1-q))=1:=by
 have h1:0<1-q:=by grind
 refine⟨?_,?_⟩
 ·rw[Rat.div_def,Rat.one_mul];exact Rat.le_of_lt (Rat.inv_pos.2 h1)
 ·rw[Rat.div_def,Rat.one_mul];exact Rat.mul_inv_cancel _ (by grind)
def prob:DN Val where
 dom:=pos
 zero:=num 0
 one:=num 1
 qpl:=addP
 qtm:=mulV
 star:=qqo
 le:=leP
 dz:=af6
 do_:=by show(0:Rat)<=1;decide
 dp:=by
  intro a b ha hb
  cases a<;>cases b<;>simp only[addP,pos]at * ;grind
 dt:=aFR
 ds:=by
  intro a ha
  cases a with
  |inf=>trivial
  |down=>exact ha.elim
  |num q=>
   simp only[qqo]
   split
   ·trivial
   ·rename_i h;exact(aFC h).1
 pc:=by
  intro a b ha hb
  cases a<;>cases b<;>simp only[addP]
  apply aBW;grind
 pa:=by
  intro a b c ha hb hc
  cases a<;>cases b<;>cases c<;>simp only[addP]
  apply aBW;grind
 pz:=by
  intro a ha
  cases a with
  |inf=>rfl
  |down=>exact ha.elim
  |num q=>simp only[addP];apply aBW;grind
 ta:=aFO
 ono:=aFx
 ot:=by
  intro a ha;rw[mul_comm ha (show pos (num 1) by show(0:Rat)<=1;decide)];exact aFx ha
 tz:=fun _=>aFN
 zt:=fun _=>aFX
 dl:=dlP
 dr:=by
  intro a b c ha hb hc;have hab:pos (addP a b):=by cases a<;>cases b<;>simp only[addP,pos]at *;grind
  rw[mul_comm hab hc,dlP hc ha hb,mul_comm hc ha,mul_comm hc hb]
 refl:=fun _=>aFM
 anti:=aFK
 trans:=aFL
 mono:=by
  intro a b c ha hb hc h
  cases a<;>cases b<;>cases c<;>simp only[addP,leP]at h ⊢
  all_goals first|(exact ha.elim)|(exact hb.elim)|(exact hc.elim)|grind
 qqs:=aFW
 sfix:=by
  intro a ha
  cases a with
  |inf=>simp only[qqo];rw[qqd];rfl
  |down=>exact ha.elim
  |num q=>
   simp only[qqo]
   split
   ·rename_i h
    rw[qqc,aab (by grind)];rfl
   ·rename_i h
    rw[qqa];simp only[addP];apply aBW;have:=(aFC h).2
    grind
 qqr:=by
  intro a b x ha hb hx h
  cases x with
  |down=>exact hx.elim
  |inf=>cases mulV (qqo a) b<;>trivial
  |num y=>
   cases b with
   |down=>exact hb.elim
   |inf=>simp only[addP,leP]at h
   |num z=>
    simp only[pos]at hb hx
    cases a with
    |down=>exact ha.elim
    |inf=>
     rw[qqb]at h;simp only[qqo];rw[qqb];by_cases hy:y=0
     ·rw[aaa hy]at h
      simp only[addP,leP]at h;rw[aaa (by grind)];exact hx
     ·rw[aab hy]at h
      exact h.elim
    |num q=>
     simp only[pos]at ha;rw[qqa]at h;simp only[addP,leP]at h;simp only[qqo]
     split
     ·rename_i h1
      have h2:=aFl h1 hx;rw[qqb,aaa (by grind)];exact hx
     ·rename_i h1
      rw[qqa];obtain⟨i1,i2⟩:=aFC h1;show 1/(1-q)*z<=y;have h3:z<=(1-q)*y:=by grind
      have h4:=aFl h3 i1;have h5:1/(1-q)*((1-q)*y)=y:=by
       rw[<-Rat.mul_assoc,Rat.mul_comm (1/(1-q)),i2,Rat.one_mul]
      rw[h5]at h4;exact h4
def vit:DN Val where
 dom:=pos
 zero:=num 0
 one:=num 1
 qpl:=maxV
 qtm:=mulV
 star:=qqn
 le:=leP
 dz:=af6
 do_:=by show(0:Rat)<=1;decide
 dp:=by
  intro a b ha hb
  cases a<;>cases b<;>simp only[maxV]at *<;>(try split)<;>first|trivial|assumption
 dt:=aFR
 ds:=by
  intro a ha
  cases a with
  |inf=>trivial
  |down=>exact ha.elim
  |num q=>
   simp only[qqn]
   split
   ·show(0:Rat)<=1;decide
   ·trivial
 pc:=by
  intro a b ha hb
  cases a<;>cases b<;>simp only[maxV]
  split<;>split<;>first|rfl|(apply aBW;grind)|grind
 pa:=by
  intro a b c ha hb hc
  cases a<;>cases b<;>cases c<;>simp only[maxV]<;>(repeat' split)<;>(try simp only[maxV])<;>(repeat' split)<;>first|rfl|(apply aBW;grind)|grind
 pz:=by
  intro a ha
  cases a with
  |inf=>rfl
  |down=>exact ha.elim
  |num q=>
   simp only[maxV];simp only[pos]at ha
   split
   ·rfl
   ·apply aBW;grind
 ta:=aFO
 ono:=aFx
 ot:=by
  intro a ha;rw[mul_comm ha (show pos (num 1) by show(0:Rat)<=1;decide)];exact aFx ha
 tz:=fun _=>aFN
 zt:=fun _=>aFX
 dl:=dlM
 dr:=by
  intro a b c ha hb hc;have hab:pos (maxV a b):=by cases a<;>cases b<;>simp only[maxV]at *<;>(try split)<;>first|trivial|assumption
  rw[mul_comm hab hc,dlM hc ha hb,mul_comm hc ha,mul_comm hc hb]
 refl:=fun _=>aFM
 anti:=aFK
 trans:=aFL
 mono:=by
  intro a b c ha hb hc h
  cases a<;>cases b<;>cases c<;>simp only[leP]at h<;>simp only[maxV]<;>(repeat' split)<;>simp only[leP]<;>first|trivial|(exact h.elim)|grind
 qqs:=aFW
 sfix:=by
  intro a ha
  cases a with
  |inf=>simp only[qqn];rw[qqd];rfl
  |down=>exact ha.elim
  |num q=>
   simp only[qqn]
   split
   ·rename_i h
    rw[qqa];simp only[maxV];rw[aab (by grind)]
   ·rename_i h
    rw[qqc,aab (by intro e;rw[e]at h;exact h (by decide))];rfl
 qqr:=by
  intro a b x ha hb hx h
  cases x with
  |down=>exact hx.elim
  |inf=>cases mulV (qqn a) b<;>trivial
  |num y=>
   cases b with
   |down=>exact hb.elim
   |inf=>simp only[maxV,leP]at h
   |num z=>
    simp only[pos]at hb hx;have hzy:z<=y:=by
     generalize mulV a (num y)=w at h
     cases w with
     |inf=>exact h.elim
     |down=>exact h.elim
     |num w=>
      simp only[maxV]at h
      split at h
      ·simp only[leP]at h;grind
      ·exact h
    cases a with
    |down=>exact ha.elim
    |inf=>
     rw[qqb]at h;simp only[qqn];rw[qqb];by_cases hy:y=0
     ·rw[aaa (by grind)];exact hx
     ·rw[aab hy]at h
      exact h.elim
    |num q=>
     simp only[qqn]
     split
     ·rw[qqa];show 1*z<=y;grind
     ·rename_i h1
      rw[qqa]at h;have hqy:q*y<=y:=by
       simp only[maxV]at h
       split at h
       ·exact h
       ·simp only[leP]at h;grind
      have hy0:y=0:=by
       refine afC fun hne=>?_
       have hpos:0<y:=by grind
       have h2:y<q*y:=by
        have:=Rat.mul_lt_mul_of_pos_right (show(1:Rat)<q by grind) hpos
        grind
       grind
      rw[qqb,aaa (by grind)];exact hx
end Val
open Rat3
def KK(k:Int):DN Val:=if k=1 then Val.trop else if k=2 then Val.prob else Val.vit
def Ac(a:Bs):Val:=if a=bD then .inf else if a=dC then .down else match aK a with|some q=>.num q|none=>.inf
def aBV:Ac bD=.inf:=by unfold Ac;rw[aaa rfl]
def aCX:Ac dC=.down:=by unfold Ac;rw[aab (by decide),aaa rfl]
def aEj{a:Bs}{q:Rat}(h:aK a=some q):a≠bD/\a≠dC:=⟨(fun e=>by rw[e,Qv]at h;cases h),(fun e=>by rw[e,Rm]at h;cases h)⟩
def aAj{a:Bs}{q:Rat}(h:aK a=some q):Ac a=.num q:=by
 unfold Ac;rw[aab (aEj h).1,aab (aEj h).2,h]
def KK1:KK 1=Val.trop:=by unfold KK;rw[aaa rfl]
def KK2:KK 2=Val.prob:=by unfold KK;rw[aab (by decide),aaa rfl]
def KK3:KK 3=Val.vit:=by unfold KK;rw[aab (by decide),aab (by decide)]
def aBM{k:Int}{a:Bs}(h:aT k a=true):(KK k).dom (Ac a):=by
 obtain⟨hk,c⟩:=Oe h;rcases PE hk with rfl|rfl|rfl
 ·rw[KK1];trivial
 ·rw[KK2]
  show Val.pos (Ac a);rcases c with rfl|⟨e,-⟩|⟨q,hq,-,-,h0⟩
  ·rw[aBV];trivial
  ·omega
  ·rw[aAj hq];exact h0.resolve_left (by decide)
 ·rw[KK3]
  show Val.pos (Ac a);rcases c with rfl|⟨e,-⟩|⟨q,hq,-,-,h0⟩
  ·rw[aBV];trivial
  ·omega
  ·rw[aAj hq];exact h0.resolve_left (by decide)
def aE6{k:Int}{a b:Bs}(ha:aT k a=true)(hb:aT k b=true)(h:Ac a=Ac b):a=b:=by
 obtain⟨-,ca⟩:=Oe ha;obtain⟨-,cb⟩:=Oe hb;rcases ca with rfl|⟨-,rfl⟩|⟨p,hp,-⟩<;>rcases cb with rfl|⟨-,rfl⟩|⟨q,hq,-⟩
 ·rfl
 ·rw[aBV,aCX]at h;cases h
 ·rw[aBV,aAj hq]at h;cases h
 ·rw[aBV,aCX]at h;cases h
 ·rfl
 ·rw[aCX,aAj hq]at h;cases h
 ·rw[aBV,aAj hp]at h;cases h
 ·rw[aCX,aAj hp]at h;cases h
 ·rw[aAj hp,aAj hq]at h
  cases h
  exact KW hp hq
def aDj{k:Int}(hk:kindOk k=true):Ac (aF k)=(KK k).zero:=by
 rcases PE hk with rfl|rfl|rfl
 ·rw[KK1];exact aBV
 ·rw[KK2];exact aAj nW
 ·rw[KK3];exact aAj nW
def aE7{k:Int}(hk:kindOk k=true):Ac (fQ k)=(KK k).one:=by
 rcases PE hk with rfl|rfl|rfl
 ·rw[KK1];exact aAj nW
 ·rw[KK2];exact aAj Qw
 ·rw[KK3];exact aAj Qw
def aDR(a:Bs):gJ a a=0:=by unfold gJ;rw[aaa rfl]
def aDC{a:Bs}(h:a≠dC):gJ dC a=-1/\gJ a dC=1:=by
 unfold gJ;refine⟨?_,?_⟩
 ·rw[aab (fun e=>h e.symm),aaa (aam rfl)]
 ·rw[aab h,aab (fun e=>e.elim h (fun e=>by revert e;decide)),aaa (aad rfl)]
def aDE{k:Int}{a b:Bs}(ha:aT k a=true)(hb:aT k b=true)(h:(fI k a b).2=0):Ac (fI k a b).1=(KK k).qpl (Ac a) (Ac b):=by
 obtain⟨hk,ca⟩:=Oe ha;obtain⟨_,cb⟩:=Oe hb;unfold fI at h ⊢;rw[aaa ⟨ha,hb⟩]at h ⊢;rcases PE hk with rfl|rfl|rfl
 ·rw[aaa (by decide)]at h ⊢
  have YH:og 1 b a=gJ b a:=by unfold og;rw[aaa ⟨hb,ha⟩,aaa rfl]
  rw[YH,KK1];show _=Val.minV (Ac a) (Ac b);rcases ca with rfl|⟨-,rfl⟩|⟨p,hp,hp1,hp2,-⟩
  ·by_cases e:b=bD
   ·subst e;rw[aDR,aab (by decide),aBV];rfl
   ·rw[(PN e).2,aaa (by decide),aBV];rfl
  ·rcases cb with rfl|⟨-,rfl⟩|⟨q,hq,hq1,hq2,-⟩
   ·rw[(aDC (a:=bD) (by decide)).2,aab (by decide),aBV,aCX];rfl
   ·rw[aDR,aab (by decide),aCX];rfl
   ·rw[(aDC hq2).2,aab (by decide),aCX,aAj hq];rfl
  ·rcases cb with rfl|⟨-,rfl⟩|⟨q,hq,hq1,hq2,-⟩
   ·rw[(PN hp1).1,aab (by decide),aBV,aAj hp];rfl
   ·rw[(aDC hp2).1,aaa (by decide),aCX,aAj hp];rfl
   ·rw[QA hq hp,aAj hp,aAj hq]
    show _=if q<p then Val.num q else Val.num p;by_cases e:q=p
    ·subst e
     rw[aaa rfl,aab (by decide),aab af9];exact aAj hp
    ·rw[aab e]
     by_cases hl:q<p
     ·rw[aaa hl,aaa hl,aaa (by decide)];exact aAj hq
     ·rw[aab hl,aab hl,aab (by decide)];exact aAj hp
 ·rw[aab (by decide)]at h ⊢
  rw[KK2];show _=Val.addP (Ac a) (Ac b);rcases ca with rfl|⟨e,-⟩|⟨p,hp,hp1,hp2,-⟩
  ·rw[aaa (aam rfl),aBV];rfl
  ·omega
  ·rcases cb with rfl|⟨e,-⟩|⟨q,hq,hq1,hq2,-⟩
   ·rw[aaa (aad rfl),aBV,aAj hp];rfl
   ·omega
   ·rw[aab (fun e=>e.elim hp1 hq1)]at h ⊢
    rw[aAj hp,aAj hq];exact aAj (Rl hp hq h)
 ·rw[aaa (by decide)]at h ⊢
  have YH:og 3 b a=gJ a b:=by unfold og;rw[aaa ⟨hb,ha⟩,aab (by decide)]
  rw[YH,KK3];show _=Val.maxV (Ac a) (Ac b);rcases ca with rfl|⟨e,-⟩|⟨p,hp,hp1,hp2,-⟩
  ·by_cases e:b=bD
   ·subst e;rw[aDR,aab (by decide),aBV];rfl
   ·rw[(PN e).1,aab (by decide),aBV];rfl
  ·omega
  ·rcases cb with rfl|⟨e,-⟩|⟨q,hq,hq1,hq2,-⟩
   ·rw[(PN hp1).2,aaa (by decide),aBV,aAj hp];rfl
   ·omega
   ·rw[QA hp hq,aAj hp,aAj hq]
    show _=if p<q then Val.num q else Val.num p;by_cases e:p=q
    ·subst e
     rw[aaa rfl,aab (by decide),aab af9];exact aAj hp
    ·rw[aab e]
     by_cases hl:p<q
     ·rw[aaa hl,aaa hl,aaa (by decide)];exact aAj hq
     ·rw[aab hl,aab hl,aab (by decide)];exact aAj hp
def aEv{k:Int}{a b:Bs}(ha:aT k a=true)(hb:aT k b=true)(h:(iV k a b).2=0):Ac (iV k a b).1=(KK k).qtm (Ac a) (Ac b):=by
 obtain⟨hk,ca⟩:=Oe ha;obtain⟨_,cb⟩:=Oe hb;unfold iV at h ⊢;rw[aaa ⟨ha,hb⟩]at h ⊢;have da:=aBM ha;have db:=aBM hb;by_cases hz:a=aF k\/b=aF k
 ·rw[aaa hz]
  show Ac (aF k)=_;rcases hz with e|e
  ·rw[e,aDj hk,(KK k).zt db]
  ·rw[e,aDj hk,(KK k).tz da]
 ·rw[aab hz]at h ⊢
  rcases PE hk with rfl|rfl|rfl
  ·rw[KK1]
   show _=Val.addI (Ac a) (Ac b);have hz1:a≠bD/\b≠bD:=⟨fun e=>hz (aam e),fun e=>hz (aad e)⟩;rw[aab (fun e=>e.elim hz1.1 hz1.2)]at h ⊢;rcases ca with e|⟨-,rfl⟩|⟨p,hp,hp1,hp2,-⟩
   ·exact absurd e hz1.1
   ·rw[aaa (aam rfl),aCX]
    rcases cb with e|⟨-,rfl⟩|⟨q,hq,hq1,hq2,-⟩
    ·exact absurd e hz1.2
    ·rw[aCX];rfl
    ·rw[aAj hq];rfl
   ·rcases cb with e|⟨-,rfl⟩|⟨q,hq,hq1,hq2,-⟩
    ·exact absurd e hz1.2
    ·rw[aaa (aad rfl),aCX,aAj hp];rfl
    ·rw[aab (fun e=>e.elim hp2 hq2),aaa rfl]at h ⊢
     rw[aAj hp,aAj hq];exact aAj (Rl hp hq h)
  all_goals
   first|rw[KK2]|rw[KK3]
   show _=Val.mulV (Ac a) (Ac b);rcases ca with rfl|⟨e,-⟩|⟨p,hp,hp1,hp2,-⟩
   ·rw[aaa (aam rfl),aBV]
    rcases cb with rfl|⟨e,-⟩|⟨q,hq,hq1,hq2,-⟩
    ·rw[aBV,Val.qqd]
    ·omega
    ·rw[aAj hq,Val.qqb,aab (fun e=>hz (aad ((Iw hq).2 e)))]
   ·omega
   ·rcases cb with rfl|⟨e,-⟩|⟨q,hq,hq1,hq2,-⟩
    ·rw[aaa (aad rfl),aBV,aAj hp,Val.qqc,aab (fun e=>hz (aam ((Iw hp).2 e)))]
    ·omega
    ·rw[aab (fun e=>e.elim hp1 hq1),aab (fun e=>e.elim hp2 hq2),aab (by decide)]at h ⊢
     rw[aAj hp,aAj hq,Val.qqa];exact aAj (SI hp hq h)
def aE8{k:Int}{a:Bs}(ha:aT k a=true)(h:(oh k a).2=0):Ac (oh k a).1=(KK k).star (Ac a):=by
 obtain⟨hk,ca⟩:=Oe ha;unfold oh at h ⊢;rw[aaa ha]at h ⊢;rcases PE hk with rfl|rfl|rfl
 ·rw[aaa rfl]at h ⊢
  rw[KK1];show _=Val.qqp (Ac a);have h1:Ac (fQ 1)=.num 0:=aAj nW;rcases ca with rfl|⟨-,rfl⟩|⟨p,hp,hp1,hp2,-⟩
  ·rw[(PN (a:=[48]) (by decide)).1,aaa (by decide),aBV];exact h1
  ·rw[(aDC (a:=[48]) (by decide)).1,aab (by decide),aCX];exact aCX
  ·rw[QA hp nW,aAj hp]
   show _=if 0<=p then Val.num 0 else Val.down;by_cases e:p=0
   ·rw[aaa e,aaa (by decide),aaa (by rw[e];exact af6)];exact h1
   ·rw[aab e]
    by_cases hl:p<0
    ·rw[aaa hl,aab (by decide),aab (Rat.not_le.2 hl)];exact aCX
    ·rw[aab hl,aaa (by decide),aaa (aeV.1 hl)];exact h1
 ·rw[aab (by decide),aab (by decide)]at h ⊢
  rw[KK2];show _=Val.qqo (Ac a);rcases ca with rfl|⟨e,-⟩|⟨p,hp,hp1,hp2,-⟩
  ·rw[(PN (a:=[49]) (by decide)).1,aaa (by decide),aBV];rfl
  ·omega
  ·have hc:(0<=gJ a [49])↔1<=p:=by
    rw[QA hp Qw];by_cases e:p=1
    ·rw[aaa e];exact⟨fun _=>by rw[e];exact af6,fun _=>by decide⟩
    ·rw[aab e]
     by_cases hl:p<1
     ·rw[aaa hl];exact⟨fun h=>absurd h (by decide),fun h=>absurd h (Rat.not_le.2 hl)⟩
     ·rw[aab hl];exact⟨fun _=>aeV.1 hl,fun _=>by decide⟩
   rw[aAj hp];show _=if 1<=p then Val.inf else Val.num (1/(1-p));by_cases h1:1<=p
   ·rw[aaa (hc.2 h1),aaa h1];exact aBV
   ·rw[aab (fun e=>h1 (hc.1 e))]at h ⊢
    rw[aab h1];by_cases hs:(gV [49] a).2≠0
    ·rw[aaa hs]at h;exact absurd h hs
    ·rw[aab hs]at h ⊢
     simp only[abb]at hs;exact aAj (SH Qw (SK Qw hp hs) h).2
 ·rw[aab (by decide),aaa rfl]at h ⊢
  rw[KK3];show _=Val.qqn (Ac a);have h1:Ac (fQ 3)=.num 1:=aAj Qw;rcases ca with rfl|⟨e,-⟩|⟨p,hp,hp1,hp2,-⟩
  ·rw[(PN (a:=[49]) (by decide)).1,aab (by decide),aBV];exact aBV
  ·omega
  ·rw[QA hp Qw,aAj hp]
   show _=if p<=1 then Val.num 1 else Val.inf;by_cases e:p=1
   ·rw[aaa e,aaa (by decide),aaa (by rw[e];exact af6)];exact h1
   ·rw[aab e]
    by_cases hl:p<1
    ·rw[aaa hl,aaa (by decide),aaa (Rat.le_of_lt hl)];exact h1
    ·rw[aab hl,aab (by decide),aab (fun h=>e (Rat.le_antisymm h (aeV.1 hl)))];exact aBV
namespace DN
variable {V:Type} {K:DN V}
def zp{a:V}(h:K.dom a):K.qpl a K.zero=a:=by rw[K.pc h K.dz,K.pz h]
theorem qqh{f:Nat->V}:∀(i n:Nat),K.sum f (i+1) n=K.sum (fun q=>f (q+1)) i n
 |i,0=>rfl
 |i,n+1=>by rw[sum,sum,qqh (i+1) n]
end DN
def vv(v:Vec)(i:Nat):Val:=Ac (v.getD i [])
def aCV{k:Int}{n:Nat}{v:Vec}(h:H5 k n v){i:Nat}(hi:i<n):(KK k).dom (vv v i):=aBM (h.at hi)
def aS(K:DN Val)(g:aO->Val):List aO->Val
 |[]=>K.zero
 |a::r=>K.qpl (g a) (aS K g r)
instance (inn out:Int) (loose:Bool) (a:aO):Decidable (fits inn out loose a):=inferInstanceAs (Decidable (_/\_))
def gA(K:DN Val)(inn out:Int)(loose:Bool)(j:Nat)(x:Val)(a:aO):Val:=if fits inn out loose a/\a.to.toNat=j then K.qtm x (Ac a.w) else K.zero
def aDm{k:Int}{n:Nat}{a:aO}(h:dZ k n a=true):aT k a.w=true/\a.to.toNat<n:=by
 have:=mh.1 h;exact⟨(Pv this.2.2.2).1,by omega⟩
def aDw{k:Int}{n:Nat}{inn out:Int}{loose:Bool}{j:Nat}{x:Val}(hx:(KK k).dom x){a:aO}(h:dZ k n a=true):(KK k).dom (gA (KK k) inn out loose j x a):=by
 unfold gA
 split
 ·exact(KK k).dt hx (aBM (aDm h).1)
 ·exact(KK k).dz
theorem aDb{K:DN Val}{g:aO->Val}:∀ {l:List aO},(∀a∈l,K.dom (g a))->K.dom (aS K g l)
 |[],_=>K.dz
 |a::r,h=>K.dp (h a aal) (aDb fun b hb=>h b (aaj _ hb))
def aDG{k:Int}{n i:Nat}{l l':Vec}{a b:Bs}(hl:H5 k n l)(hi:i<n)(ha:aT k a=true)(hb:aT k b=true)(h:fK k l i a b=.ok l') :
  H5 k n l'/\∀j,j<n->vv l' j=if i=j then (KK k).qpl (vv l i) ((KK k).qtm (Ac a) (Ac b)) else vv l j:=by
 have h0:=(P8 hl hi ha hb h).1;refine⟨h0,fun j hj=>?_⟩;unfold fK at h
 split at h
 ·cases h
 ·rename_i h1
  split at h
  ·cases h
  ·rename_i h2
   simp only[abb]at h1 h2;obtain⟨t1,t2⟩:=RL ha hb h1;simp only[aaW]at h;subst h;unfold vv;rw[aAb _ _ _ _ (by rw[hl.1];exact hi)];by_cases e:i=j
   ·rw[aaa e,aaa e,aDE (hl.at hi) t1 h2,aEv ha hb h1]
   ·rw[aab e,aab e]
theorem aDU{k inn out:Int}{loose:Bool}{n:Nat}{x:Bs}(hx:aT k x=true):∀(arcs:List aO) (l l':Vec),H5 k n l->(∀a∈arcs,dZ k n a=true)->lZ k inn out loose x arcs l=.ok l' ->
  H5 k n l'/\∀j,j<n->vv l' j=(KK k).qpl (vv l j) (aS (KK k) (gA (KK k) inn out loose j (Ac x)) arcs)
 |[],l,l',hl,_,h=>by
  simp only[lZ,aaW]at h;subst h;exact⟨hl,fun j hj=>(DN.zp (aCV hl hj)).symm⟩
 |a::r,l,l',hl,ha,h=>by
  have ha0:=ha a aal;have har:=fun b hb=>ha b (aaj a hb)
  have hxd:=aBM hx;have hrd:∀j,(KK k).dom (aS (KK k) (gA (KK k) inn out loose j (Ac x)) r):=fun j=>aDb fun b hb=>aDw hxd (har b hb)
  unfold lZ at h;by_cases hc:a.inn≠inn\/(a.out≠out/\loose=false)
  ·rw[aaa hc]at h
   obtain⟨h1,h2⟩:=aDU hx r l l' hl har h;refine⟨h1,fun j hj=>?_⟩;rw[h2 j hj,aS];have hg:gA (KK k) inn out loose j (Ac x) a=(KK k).zero:=by unfold gA;rw[aab (fun e=>PU.1 hc e.1)]
   rw[hg,(KK k).pz (hrd j)]
  ·rw[aab hc]at h
   obtain⟨l1,e1,e2⟩:=O6 h;obtain⟨w1,w2⟩:=aDm ha0;obtain⟨g1,g2⟩:=aDG hl w2 hx w1 e1;obtain⟨h1,h2⟩:=aDU hx r l1 l' g1 har e2;have hf:fits inn out loose a:=abb.1 (fun e=>hc (PU.2 e));refine⟨h1,fun j hj=>?_⟩;rw[h2 j hj,g2 j hj,aS];by_cases e:a.to.toNat=j
   ·rw[aaa e]
    have hg:gA (KK k) inn out loose j (Ac x) a=(KK k).qtm (Ac x) (Ac a.w):=by unfold gA;rw[aaa ⟨hf,e⟩]
    rw[hg,e,(KK k).pa (aCV hl hj) ((KK k).dt hxd (aBM w1)) (hrd j)]
   ·rw[aab e]
    have hg:gA (KK k) inn out loose j (Ac x) a=(KK k).zero:=by unfold gA;rw[aab (fun h=>e h.2)]
    rw[hg,(KK k).pz (hrd j)]
theorem aDy{K:DN Val}{g:aO->Val}:∀ {l:List aO},(∀a∈l,g a=K.zero)->aS K g l=K.zero
 |[],_=>rfl
 |a::r,h=>by rw[aS,h a aal,aDy fun b hb=>h b (aaj _ hb),K.pz K.dz]
def aEb{k:Int}{n:Nat}{inn out:Int}{loose:Bool}{j:Nat}{a:aO}(h:dZ k n a=true):gA (KK k) inn out loose j (KK k).zero a=(KK k).zero:=by
 unfold gA
 split
 ·exact(KK k).zt (aBM (aDm h).1)
 ·rfl
def aDd(ss:List bI)(i:Nat):List aO:=(ss.getD i ⟨[],[]⟩).arcs
def aEr{ss:List bI}{i:Nat}{a:aO}(h:a∈aDd ss i):∃s∈ss,a∈s.arcs:=by
 unfold aDd at h;rw[aaf]at h
 cases hg:ss[i]? with
 |none=>rw[hg]at h;cases h
 |some s=>rw[hg]at h;exact⟨s,abC hg,h⟩
theorem aDV{k inn out:Int}{loose:Bool}{n:Nat}(hk:kindOk k=true):∀(ss:List bI) (v l l':Vec),H5 k n l->(∀i,i<ss.length->aT k (v.getD i [])=true)->(∀s∈ss,∀a∈s.arcs,dZ k n a=true)->nu k inn out loose ss v l=.ok l' ->
  H5 k n l'/\∀j,j<n->vv l' j=(KK k).qpl (vv l j) ((KK k).sum (fun i=>aS (KK k) (gA (KK k) inn out loose j (vv v i)) (aDd ss i)) 0 ss.length)
 |[],v,l,l',hl,_,_,h=>by
  simp only[nu,aaW]at h;subst h;exact⟨hl,fun j hj=>(DN.zp (aCV hl hj)).symm⟩
 |s::r,v,l,l',hl,hv,ha,h=>by
  have hr:∀i,i<r.length->aT k (v.tail.getD i [])=true:=fun i hi=>by rw[Pb];exact hv (i+1) (by simpa using hi)
  have hv0:aT k (v.headD [])=true:=by rw[Pg];exact hv 0 (by simp)
  have har:=fun t ht=>ha t (aaj s ht)
  have has:=ha s aal;have hsum:∀j,(KK k).sum (fun i=>aS (KK k) (gA (KK k) inn out loose j (vv v i)) (aDd (s::r) i)) 0 (s::r).length =
    (KK k).qpl (aS (KK k) (gA (KK k) inn out loose j (Ac (v.headD []))) s.arcs) ((KK k).sum (fun i=>aS (KK k) (gA (KK k) inn out loose j (vv v.tail i)) (aDd r i)) 0 r.length):=by
   intro j;rw[aaF,DN.sum,DN.qqh];congr 1
   ·show aS _ (gA _ _ _ _ _ (Ac (v.getD 0 []))) s.arcs=_
    rw[Pg]
   ·refine DN.qqf 0 _ fun i _ _=>?_
    show aS _ (gA _ _ _ _ _ (Ac (v.getD (i+1) []))) (aDd r i)=aS _ (gA _ _ _ _ _ (Ac (v.tail.getD i []))) (aDd r i);rw[Pb]
  have d0:∀j,(KK k).dom (aS (KK k) (gA (KK k) inn out loose j (Ac (v.headD []))) s.arcs):=fun j=>aDb fun a h=>aDw (aBM hv0) (has a h)
  have d1:∀j,(KK k).dom ((KK k).sum (fun i=>aS (KK k) (gA (KK k) inn out loose j (vv v.tail i)) (aDd r i)) 0 r.length):=fun j=>DN.qqe 0 _ fun i _ hi=>aDb fun a h=>by
   obtain⟨t,ht,hat⟩:=aEr h;exact aDw (aBM (hr i (by omega))) (har t ht a hat)
  unfold nu at h;by_cases hc:v.headD []=aF k
  ·rw[aaa hc]at h
   obtain⟨h1,h2⟩:=aDV hk r v.tail l l' hl hr har h;refine⟨h1,fun j hj=>?_⟩;rw[h2 j hj,hsum j,hc,aDj hk];have:aS (KK k) (gA (KK k) inn out loose j (KK k).zero) s.arcs=(KK k).zero:=aDy fun a h=>aEb (has a h)
   rw[this,(KK k).pz (d1 j)]
  ·rw[aab hc]at h
   obtain⟨l1,e1,e2⟩:=O6 h;obtain⟨g1,g2⟩:=aDU hv0 s.arcs l l1 hl has e1;obtain⟨h1,h2⟩:=aDV hk r v.tail l1 l' g1 hr har e2;refine⟨h1,fun j hj=>?_⟩;rw[h2 j hj,g2 j hj,hsum j,(KK k).pa (aCV hl hj) (d0 j) (d1 j)]
def aDt{m:aQ}(hk:kindOk m.kind=true){j:Nat}(hj:j<m.states.length):vv (eT m) j=(KK m.kind).zero:=by
 unfold vv;rw[P5 m hj,aDj hk]
def aDn(m:aQ)(inn out:Int)(loose:Bool)(f:Nat->Val)(j:Nat):Val:=(KK m.kind).sum (fun i=>aS (KK m.kind) (gA (KK m.kind) inn out loose j (f i)) (OX m i)) 0 m.states.length
def aDr{m:aQ}(hm:bM m=true){i:Nat}:∀a∈OX m i,dZ m.kind m.states.length a=true:=fun a h=>by
 obtain⟨s,hs,ha⟩:=aEr (ss:=m.states) (i:=i) h;exact(Pt hm).2 s hs a ha
def aE3{m:aQ}(hm:bM m=true){inn out:Int}{loose:Bool}{f:Nat->Val}(hf:∀i,i<m.states.length->(KK m.kind).dom (f i))(j:Nat):(KK m.kind).dom (aDn m inn out loose f j):=
 DN.qqe 0 _ fun i _ hi=>aDb fun a h=>aDw (hf i (by omega)) (aDr hm a h)
def aEu{m:aQ}(hm:bM m=true){inn out:Int}{loose:Bool}{v v':Vec}(hv:H5 m.kind m.states.length v)(h:rU m v inn out loose=.ok v') :
  H5 m.kind m.states.length v'/\∀j,j<m.states.length->vv v' j=aDn m inn out loose (vv v) j:=by
 obtain⟨hk,ha⟩:=Pt hm;obtain⟨h1,h2⟩:=aDV hk m.states v (eT m) v' (PP hk) (fun i hi=>hv.at hi) ha h;refine⟨h1,fun j hj=>?_⟩;rw[h2 j hj,aDt hk hj];exact(KK m.kind).pz (aE3 hm (fun i hi=>aCV hv hi) j)
def aCq(k:Int)(x:Bs)(y:Val):Val:=if x=[] then (KK k).zero else (KK k).qtm y (Ac x)
def aDK{k:Int}{x:Bs}{y:Val}(hx:x=[]\/bg k x=true)(hy:(KK k).dom y):(KK k).dom (aCq k x y):=by
 unfold aCq
 split
 ·exact(KK k).dz
 ·rename_i h
  exact(KK k).dt hy (aBM (Pv (hx.resolve_left h)).1)
theorem aDA{k:Int}:∀(ss:List bI) (v:Vec) (x y:Bs),aT k x=true->(∀i,i<ss.length->aT k (v.getD i [])=true)->(∀s∈ss,s.fin=[]\/bg k s.fin=true)->lH k ss v x=.ok y ->
  aT k y=true/\Ac y=(KK k).qpl (Ac x) ((KK k).sum (fun i=>aCq k (ss.getD i ⟨[],[]⟩).fin (vv v i)) 0 ss.length)
 |[],v,x,y,hx,_,_,h=>by
  simp only[lH,aaW]at h;subst h;exact⟨hx,(DN.zp (aBM hx)).symm⟩
 |s::r,v,x,y,hx,hv,hf,h=>by
  have hr:∀i,i<r.length->aT k (v.tail.getD i [])=true:=fun i hi=>by rw[Pb];exact hv (i+1) (by simpa using hi)
  have hv0:aT k (v.headD [])=true:=by rw[Pg];exact hv 0 (by simp)
  have hfr:=fun t ht=>hf t (aaj s ht)
  have hfs:=hf s aal;have hsum:(KK k).sum (fun i=>aCq k ((s::r).getD i ⟨[],[]⟩).fin (vv v i)) 0 (s::r).length=(KK k).qpl (aCq k s.fin (Ac (v.headD []))) ((KK k).sum (fun i=>aCq k (r.getD i ⟨[],[]⟩).fin (vv v.tail i)) 0 r.length):=by
   rw[aaF,DN.sum,DN.qqh];congr 1
   ·show aCq k s.fin (Ac (v.getD 0 []))=_
    rw[Pg]
   ·refine DN.qqf 0 _ fun i _ _=>?_
    show aCq k (r.getD i ⟨[],[]⟩).fin (Ac (v.getD (i+1) []))=aCq k (r.getD i ⟨[],[]⟩).fin (Ac (v.tail.getD i []));rw[Pb]
  have d0:=aDK hfs (aBM hv0);have d1:(KK k).dom ((KK k).sum (fun i=>aCq k (r.getD i ⟨[],[]⟩).fin (vv v.tail i)) 0 r.length):=DN.qqe 0 _ fun i _ hi=>by
   refine aDK ?_ (aBM (hr i (by omega)));rw[aaf,aak (show i<r.length by omega)];exact hfr _ (aag _)
  rw[hsum];unfold lH at h;by_cases hc:s.fin=[]
  ·rw[aaa hc]at h
   obtain⟨h1,h2⟩:=aDA r v.tail x y hx hr hfr h;refine⟨h1,?_⟩;rw[h2];have:aCq k s.fin (Ac (v.headD []))=(KK k).zero:=by unfold aCq;rw[aaa hc]
   rw[this,(KK k).pz d1]
  ·rw[aab hc]at h
   obtain⟨l1,e1,e2⟩:=O6 h;have hw:=hfs.resolve_left hc;obtain⟨w1,w2⟩:=Pv hw;obtain⟨g1,g2⟩:=aDG (n:=1) ⟨rfl,fun z hz=>by rw[aar.1 hz];exact hx⟩ (by omega) hv0 w1 e1;have g3:=g2 0 (by omega);rw[aaa rfl]at g3;have hl:aT k (l1.headD [])=true:=by rw[Pg];exact g1.at (by omega)
   obtain⟨h1,h2⟩:=aDA r v.tail (l1.headD []) y hl hr hfr e2;refine⟨h1,?_⟩;have e3:Ac (l1.headD [])=(KK k).qpl (Ac x) (aCq k s.fin (Ac (v.headD []))):=by
    rw[Pg];unfold aCq;rw[aab hc];exact g3
   rw[h2,e3,(KK k).pa (aBM hx) d0 d1]
theorem aDW{k:Int}:∀(a b l:Vec) {n:Nat},H5 k n a->H5 k n b->aCs k a b=.ok l->H5 k n l/\∀j,j<n->vv l j=(KK k).qpl (vv a j) (vv b j)
 |[],b,l,n,ha,hb,h=>by
  simp only[aCs,aaW]at h;subst h;exact⟨ha,fun j hj=>by have:=ha.1;simp at this;omega⟩
 |x::r,[],l,n,ha,hb,h=>by
  have h1:=ha.1;have h2:=hb.1;simp at h1 h2;omega
 |x::r,y::s,l,n,ha,hb,h=>by
  obtain⟨n,rfl⟩:∃q,n=q+1:=⟨r.length,by have:=ha.1;simpa using this.symm⟩;have hx:=ha.2 x aal;have hy:=hb.2 y aal;unfold aCs at h;by_cases hp:(fI k x ((y::s).headD [])).2≠0
  ·rw[aaa hp]at h;cases h
  ·rw[aab hp]at h
   replace hp:(fI k x y).2=0:=abb.1 hp;obtain⟨l1,e1,e2⟩:=O6 h;replace e1:aCs k r s=.ok l1:=e1;simp only[aaW]at e2;subst e2;obtain⟨h1,h2⟩:=aDW r s l1 (n:=n) ⟨by have:=ha.1;simpa using this,fun z hz=>ha.2 z (aaj _ hz)⟩ ⟨by have:=hb.1;simpa using this,fun z hz=>hb.2 z (aaj _ hz)⟩ e1;refine⟨⟨by simp[h1.1],fun z hz=>?_⟩,fun j hj=>?_⟩
   ·rcases aay.1 hz with rfl|hz
    ·exact(Qu hx hy hp).1
    ·exact h1.2 z hz
   ·cases j with
    |zero=>exact aDE hx hy hp
    |succ j=>
     have:=h2 j (by omega);unfold vv at this ⊢
     simpa using this
def mv(a:ak)(i j:Nat):Val:=Ac (aX a i j)
def aDP{k:Int}{n:Nat}{a:ak}(h:OU k n a){i j:Nat}(hi:i<n)(hj:j<n):(KK k).dom (mv a i j):=aBM (h.at hi hj)
theorem aDQ{k:Int}{n:Nat}{v:Bs}(hk:kindOk k=true)(hv:aT k v=true):∀(r:Vec) (p:Nat) (l l':Vec),p+r.length<=n->H5 k n l->(∀x∈r,aT k x=true)->lT k v r p l=.ok l' ->
  H5 k n l'/\∀j,j<n->vv l' j=if p<=j/\j<p+r.length then (KK k).qpl (vv l j) ((KK k).qtm (Ac v) (vv r (j-p))) else vv l j
 |[],p,l,l',_,hl,_,h=>by
  simp only[lT,aaW]at h;subst h;exact⟨hl,fun j hj=>by rw[aab (by simp only[abG];omega)]⟩
 |s::r,p,l,l',hp,hl,hr,h=>by
  rw[aaF]at hp;have hs:=hr s aal;have hr':=fun x hx=>hr x (aaj s hx)
  have tail:∀j,p<j->vv (s::r) (j-p)=vv r (j-(p+1)):=by
   intro j hj;rw[show j-p=(j-(p+1))+1 by omega]
   rfl
  have head:vv (s::r) (p-p)=Ac s:=by rw[abx];rfl
  unfold lT at h;by_cases hc:v=aF k\/s=aF k
  ·rw[aaa hc]at h
   obtain⟨h1,h2⟩:=aDQ hk hv r (p+1) l l' (by omega) hl hr' h;refine⟨h1,fun j hj=>?_⟩;rw[h2 j hj,aaF];by_cases e:p=j
   ·subst e
    rw[aab (by omega),aaa (by omega),head];have:(KK k).qtm (Ac v) (Ac s)=(KK k).zero:=by
     rcases hc with e|e
     ·rw[e,aDj hk,(KK k).zt (aBM hs)]
     ·rw[e,aDj hk,(KK k).tz (aBM hv)]
    rw[this,DN.zp (aCV hl hj)]
   ·by_cases e2:p+1<=j/\j<p+1+r.length
    ·rw[aaa e2,aaa (by omega),tail j (by omega)]
    ·rw[aab e2,aab (by omega)]
  ·rw[aab hc]at h
   obtain⟨l1,e1,e2⟩:=O6 h;obtain⟨g1,g2⟩:=aDG hl (show p<n by omega) hv hs e1;obtain⟨h1,h2⟩:=aDQ hk hv r (p+1) l1 l' (by omega) g1 hr' e2;refine⟨h1,fun j hj=>?_⟩;rw[h2 j hj,g2 j hj,aaF];by_cases e:p=j
   ·subst e
    rw[aab (by omega),aaa rfl,aaa (by omega),head]
   ·rw[aab e]
    by_cases e2:p+1<=j/\j<p+1+r.length
    ·rw[aaa e2,aaa (by omega),tail j (by omega)]
    ·rw[aab e2,aab (by omega)]
theorem aEk{k:Int}{n:Nat}(hk:kindOk k=true):∀(v:Vec) (a:ak) (l l':Vec),v.length=a.length->H5 k n l->(∀x∈v,aT k x=true)->(∀r∈a,H5 k n r)->lU k v a l=.ok l' ->
  H5 k n l'/\∀j,j<n->vv l' j=(KK k).qpl (vv l j) ((KK k).sum (fun i=>(KK k).qtm (vv v i) (mv a i j)) 0 v.length)
 |[],a,l,l',_,hl,_,_,h=>by
  simp only[lU,aaW]at h;subst h;exact⟨hl,fun j hj=>(DN.zp (aCV hl hj)).symm⟩
 |x::v,[],l,l',hla,_,_,_,_=>by simp at hla
 |x::v,r::a,l,l',hla,hl,hv,ha,h=>by
  unfold lU at h;obtain⟨l1,e1,e2⟩:=O6 h;have hr:=ha r aal;have hx:=hv x aal;have ha':=fun y hy=>ha y (aaj r hy)
  have hv':=fun y hy=>hv y (aaj x hy)
  have hla':v.length=a.length:=by simpa using hla
  obtain⟨g1,g2⟩:=aDQ hk hx r 0 l l1 (by rw[hr.1];omega) hl hr.2 e1;obtain⟨h1,h2⟩:=aEk hk v a l1 l' hla' g1 hv' ha' e2;refine⟨h1,fun j hj=>?_⟩;have d1:(KK k).dom ((KK k).sum (fun i=>(KK k).qtm (vv v i) (mv a i j)) 0 v.length):=DN.qqe 0 _ fun i _ hi=>by
   refine(KK k).dt (aBM (hv' _ (Sk (by omega)))) (aBM ?_);have:a.getD i []∈a:=by rw[aaf,aak (show i<a.length by omega)];exact aag _
   exact(ha' _ this).at hj
  rw[h2 j hj,g2 j hj,aaa (by rw[hr.1];omega),aeT];have hs:(KK k).sum (fun i=>(KK k).qtm (vv (x::v) i) (mv (r::a) i j)) 0 (x::v).length=(KK k).qpl ((KK k).qtm (Ac x) (vv r j)) ((KK k).sum (fun i=>(KK k).qtm (vv v i) (mv a i j)) 0 v.length):=by
   rw[aaF,DN.sum,DN.qqh]
   rfl
  rw[hs,(KK k).pa (aCV hl hj) ((KK k).dt (aBM hx) (aCV hr hj)) d1]
def gS(K:DN Val)(loose:Bool)(j:Nat)(a:aO):Val:=if fits 0 0 loose a/\a.to.toNat=j then Ac a.w else K.zero
def aDN{k:Int}{n:Nat}{loose:Bool}{j:Nat}{a:aO}(h:dZ k n a=true):(KK k).dom (gS (KK k) loose j a):=by
 unfold gS
 split
 ·exact aBM (aDm h).1
 ·exact(KK k).dz
theorem aDS{k:Int}{n:Nat}{loose:Bool}:∀(arcs:List aO) (b:Bool) (l:Vec) (r:Bool×Vec),H5 k n l->(∀a∈arcs,dZ k n a=true)->kX k loose arcs (b,l)=.ok r ->
  H5 k n r.2/\∀j,j<n->vv r.2 j=(KK k).qpl (vv l j) (aS (KK k) (gS (KK k) loose j) arcs)
 |[],b,l,r,hl,_,h=>by
  simp only[kX,aaW]at h;subst h;exact⟨hl,fun j hj=>(DN.zp (aCV hl hj)).symm⟩
 |a::t,b,l,r,hl,ha,h=>by
  have ha0:=ha a aal;have hat:=fun b hb=>ha b (aaj a hb)
  have hrd:∀j,(KK k).dom (aS (KK k) (gS (KK k) loose j) t):=fun j=>aDb fun b hb=>aDN (hat b hb)
  unfold kX at h;by_cases hc:a.inn≠0\/(a.out≠0/\loose=false)
  ·rw[aaa hc]at h
   obtain⟨h1,h2⟩:=aDS t b l r hl hat h;refine⟨h1,fun j hj=>?_⟩;have hg:gS (KK k) loose j a=(KK k).zero:=by unfold gS;rw[aab (fun e=>PU.1 hc e.1)]
   rw[h2 j hj,aS,hg,(KK k).pz (hrd j)]
  ·rw[aab hc]at h
   have hf:fits 0 0 loose a:=abb.1 (fun e=>hc (PU.2 e));obtain⟨w1,w2⟩:=aDm ha0;by_cases hp:(fI k (l.getD a.to.toNat []) a.w).2≠0
   ·rw[aaa hp]at h;cases h
   ·rw[aab hp]at h
    replace hp:(fI k (l.getD a.to.toNat []) a.w).2=0:=abb.1 hp;have hv:=(Qu (hl.at w2) w1 hp).1;obtain⟨h1,h2⟩:=aDS t true _ r (hl.set a.to.toNat hv) hat h;refine⟨h1,fun j hj=>?_⟩;rw[h2 j hj,aS];have hset:vv (l.set a.to.toNat (fI k (l.getD a.to.toNat []) a.w).1) j=if a.to.toNat=j then (KK k).qpl (vv l j) (Ac a.w) else vv l j:=by
     unfold vv;rw[aAb _ _ _ _ (by rw[hl.1];exact w2)];by_cases e:a.to.toNat=j
     ·rw[aaa e,aaa e,aDE (hl.at w2) w1 hp,e]
     ·rw[aab e,aab e]
    show(KK k).qpl (vv (l.set a.to.toNat (fI k (l.getD a.to.toNat []) a.w).1) j) _=_;rw[hset];by_cases e:a.to.toNat=j
    ·have hg:gS (KK k) loose j a=Ac a.w:=by unfold gS;rw[aaa ⟨hf,e⟩]
     rw[aaa e,hg,(KK k).pa (aCV hl hj) (aBM w1) (hrd j)]
    ·have hg:gS (KK k) loose j a=(KK k).zero:=by unfold gS;rw[aab (fun h=>e h.2)]
     rw[aab e,hg,(KK k).pz (hrd j)]
theorem aEq{m:aQ}(hm:bM m=true){loose:Bool}:∀(ss:List bI) (b:Bool) (l:ak) (r:Bool×ak),(∀s∈ss,∀a∈s.arcs,dZ m.kind m.states.length a=true)->kG m loose ss (b,l)=.ok r ->
  ∃rows:ak,r.2=l++rows/\rows.length=ss.length/\(∀x∈rows,H5 m.kind m.states.length x) ∧
   ∀i,i<ss.length->∀j,j<m.states.length->mv rows i j=aS (KK m.kind) (gS (KK m.kind) loose j) (aDd ss i)
 |[],b,l,r,_,h=>by
  simp only[kG,aaW]at h;subst h;exact⟨[],by simp,rfl,(fun x hx=>by cases hx),fun i hi=>absurd hi (by simp)⟩
 |s::t,b,l,r,ha,h=>by
  obtain⟨hk,_⟩:=Pt hm;unfold kG at h;obtain⟨x,e1,e2⟩:=O6 h;obtain⟨g1,g2⟩:=aDS s.arcs b (eT m) x (PP hk) (ha s aal) e1;obtain⟨rows,f1,f2,f3,f4⟩:=aEq hm t x.1 (l++[x.2]) r (fun q hq=>ha q (aaj _ hq)) e2;refine⟨x.2::rows,by rw[f1];simp,by simp[f2],fun y hy=>?_,fun i hi j hj=>?_⟩
  ·rcases aay.1 hy with rfl|hy
   ·exact g1
   ·exact f3 y hy
  ·cases i with
   |zero=>
    show vv x.2 j=aS _ _ s.arcs;rw[g2 j hj,aDt hk hj];exact(KK m.kind).pz (aDb fun a h=>aDN (ha s aal a h))
   |succ i=>exact f4 i (by simpa using hi) j hj
def aEf{k:Int}{b:Bool}{x y:Bs}(hx:aT k x=true)(hy:aT k y=true)(h:(jG k b x y).1=false):Ac (jG k b x y).2=(KK k).qpl (Ac x) (Ac y):=by
 unfold jG at h ⊢
 split at h
 ·cases h
 ·rename_i hc
  simp only[aca,aax,acw,acX,abb]at hc;rw[aab (by simp[hc.1,hc.2])];exact aDE hx hy hc.2
def aEg{k:Int}{b:Bool}{x y:Bs}(hx:aT k x=true)(hy:aT k y=true)(h:(q9 k b x y).1=false):Ac (q9 k b x y).2=(KK k).qtm (Ac x) (Ac y):=by
 unfold q9 at h ⊢
 split at h
 ·cases h
 ·rename_i hc
  simp only[aca,aax,acw,acX,abb]at hc;rw[aab (by simp[hc.1,hc.2])];exact aEv hx hy hc.2
def aEU{k:Int}{b:Bool}{x:Bs}(hx:aT k x=true)(h:(oQ k b x).1=false):Ac (oQ k b x).2=(KK k).star (Ac x):=by
 unfold oQ at h ⊢
 split at h
 ·cases h
 ·rename_i hc
  simp only[aca,aax,acw,acX,abb]at hc;rw[aab (by simp[hc.1,hc.2])];exact aE8 hx hc.2
def aEI{k:Int}{n:Nat}{a:ak}(hk:kindOk k=true)(ha:OU k n a){loop:Bs}(hl:aT k loop=true){p i j:Nat}(hp:p<n)(hi:i<n)(hj:j<n)(b:Bool)(h:(ug k a loop p i j b).1=false) :
  Ac (ug k a loop p i j b).2=(KK k).qpl (mv a i j) ((KK k).qtm ((KK k).qtm (mv a i p) (Ac loop)) (mv a p j)):=by
 unfold ug at h ⊢;have v1:=ha.at hi hj;have v2:=ha.at hi hp;have v3:=ha.at hp hj;by_cases hc:aX a i p≠aF k/\aX a p j≠aF k
 ·rw[aaa hc]at h ⊢
  have u1:=Rb hk (b:=b) v2 hl;have u2:=Rb hk (b:=(q9 k b (aX a i p) loop).1) u1 v3;obtain⟨e1,_,_⟩:=Qo v1 u2 h;obtain⟨e3,_,_⟩:=Qp u1 v3 e1;rw[aEf v1 u2 h,aEg u1 v3 e1,aEg v2 hl e3]
  rfl
 ·rw[aab hc]
  show mv a i j=_;have hz:(KK k).qtm ((KK k).qtm (mv a i p) (Ac loop)) (mv a p j)=(KK k).zero:=by
   by_cases e:aX a i p=aF k
   ·unfold mv
    rw[e,aDj hk,(KK k).zt (aBM hl),(KK k).zt (aBM v3)]
   ·have e2:aX a p j=aF k:=abb.1 (fun h=>hc ⟨e,h⟩)
    unfold mv;rw[e2,aDj hk,(KK k).tz ((KK k).dt (aBM v2) (aBM hl))]
  rw[hz,DN.zp (aDP ha hi hj)]
theorem aEn{k:Int}{n:Nat}{a:ak}(hk:kindOk k=true)(ha:OU k n a){loop:Bs}(hl:aT k loop=true){p i:Nat}(hp:p<n)(hi:i<n):∀(c j:Nat) (b:Bool),j+c<=n->(qx k a loop p i c j b).1=false ->
  ∀d,d<c->vv (qx k a loop p i c j b).2 d=(KK k).qpl (mv a i (j+d)) ((KK k).qtm ((KK k).qtm (mv a i p) (Ac loop)) (mv a p (j+d)))
 |0,j,b,_,_=>fun d hd=>absurd hd (by omega)
 |c+1,j,b,hj,h=>by
  have hr:=(Rt hk ha hl hp hi c (j+1) (ug k a loop p i j b).1 (by omega)).2;have ih:=aEn hk ha hl hp hi c (j+1) (ug k a loop p i j b).1 (by omega);unfold qx at h ⊢;intro d hd
  cases d with
  |zero=>exact aEI hk ha hl hp hi (by omega) b (hr h).1
  |succ d=>
   rw[show j+(d+1)=j+1+d by omega];exact ih h d (by omega)
theorem aEo{k:Int}{n:Nat}{a:ak}(hk:kindOk k=true)(ha:OU k n a){loop:Bs}(hl:aT k loop=true){p:Nat}(hp:p<n):∀(c i:Nat) (b:Bool),i+c<=n->(rQ k a loop p n c i b).1=false ->
  ∀d j,d<c->j<n->mv (rQ k a loop p n c i b).2 d j=(KK k).qpl (mv a (i+d) j) ((KK k).qtm ((KK k).qtm (mv a (i+d) p) (Ac loop)) (mv a p j))
 |0,i,b,_,_=>fun d j hd _=>absurd hd (by omega)
 |c+1,i,b,hi,h=>by
  have hr:=(Ru hk ha hl hp c (i+1) (qx k a loop p i n 0 b).1 (by omega)).2;have ih:=aEo hk ha hl hp c (i+1) (qx k a loop p i n 0 b).1 (by omega);unfold rQ at h ⊢;intro d j hd hj
  cases d with
  |zero=>
   have:=aEn hk ha hl hp (show i<n by omega) n 0 b (by omega) (hr h).1 j hj;rw[aaP]at this;exact this
  |succ d=>
   rw[show i+(d+1)=i+1+d by omega];exact ih h d j (by omega) hj
def aEZ{k:Int}{n:Nat}{a:ak}(hk:kindOk k=true)(ha:OU k n a){p:Nat}(hp:p<n)(b:Bool)(h:(yM k p n b a).1=false) :
  ∀i j,i<n->j<n->mv (yM k p n b a).2 i j=DN.next (KK k) p (mv a) i j:=by
 have hs:=Sm hk (b:=b) (ha.at hp hp);unfold yM at h ⊢;have h1:=((Ru hk ha hs hp n 0 (oQ k b (aX a p p)).1 (by omega)).2 h).1;intro i j hi hj;have:=aEo hk ha hs hp n 0 (oQ k b (aX a p p)).1 (by omega) h i j hi hj;rw[aaP,aEU (ha.at hp hp) h1]at this;exact this
def aEW{K:DN Val}{n p:Nat}{a b:Nat->Nat->Val}(hp:p<n)(h:∀i j,i<n->j<n->a i j=b i j):∀i j,i<n->j<n->DN.next K p a i j=DN.next K p b i j:=by
 intro i j hi hj;unfold DN.next;rw[h i j hi hj,h i p hi hp,h p p hp hp,h p j hp hj]
theorem aEm{k:Int}{n:Nat}(A:Nat->Nat->Val)(hk:kindOk k=true):∀(c p:Nat) (b:Bool) (a:ak),p+c=n->OU k n a->(uH k n c p b a).1=false->(∀i j,i<n->j<n->mv a i j=DN.nexts (KK k) p A i j) ->
  ∀i j,i<n->j<n->mv (uH k n c p b a).2 i j=DN.nexts (KK k) n A i j
 |0,p,b,a,hp,ha,h,hA=>by
  obtain rfl:p=n:=by omega
  exact hA
 |c+1,p,b,a,hp,ha,h,hA=>by
  have hpn:p<n:=by omega
  obtain⟨r1,_⟩:=S9 hk ha hpn b;have s2:=(Rs (R:=fun _ _=>False) hk c (p+1) (yM k p n b a).1 (yM k p n b a).2 (by omega) r1).2;unfold uH at h ⊢;refine aEm A hk c (p+1) _ _ (by omega) r1 h fun i j hi hj=>?_
  rw[aEZ hk ha hpn b (s2 h).1 i j hi hj];exact aEW hpn hA i j hi hj
theorem aD2{k:Int}{n:Nat}(hk:kindOk k=true):∀(c i:Nat) (b:Bool) (a:ak),i+c=n->OU k n a->(jq k c i b a).1=false ->
  ∀r s,r<n->s<n->mv (jq k c i b a).2 r s=if r=s/\i<=r then (KK k).qpl (KK k).one (mv a r s) else mv a r s
 |0,i,b,a,hi,ha,_=>fun r s hr hs=>by rw[aab (by omega)];rfl
 |c+1,i,b,a,hi,ha,h=>by
  have hin:i<n:=by omega
  obtain⟨o1,o2⟩:=SB hk;have hx:=Q8 hk (b:=b) o1 (ha.at hin hin);have s2:=(QR hk c (i+1) (jG k b (fQ k) (aX a i i)).1 (setAt a i i (jG k b (fQ k) (aX a i i)).2) (by omega) (ha.setAt hin hx)).2;have ih:=aD2 hk c (i+1) (jG k b (fQ k) (aX a i i)).1 (setAt a i i (jG k b (fQ k) (aX a i i)).2) (by omega) (ha.setAt hin hx);unfold jq at h ⊢;intro r s hr hs;rw[ih h r s hr hs];have hm:mv (setAt a i i (jG k b (fQ k) (aX a i i)).2) r s=if r=i/\s=i then (KK k).qpl (KK k).one (mv a r s) else mv a r s:=by
   unfold mv;rw[R5 ha.1 (fun l hl=>(ha.2 l hl).1) hin hin];by_cases e:r=i/\s=i
   ·rw[aaa e,aaa e,aEf o1 (ha.at hin hin) (s2 h).1,aE7 hk,e.1,e.2]
   ·rw[aab e,aab e]
  rw[hm];by_cases e:r=i/\s=i
  ·rw[aaa e,aab (by omega),aaa (by omega)]
  ·rw[aab e]
   by_cases e2:r=s/\i+1<=r
   ·rw[aaa e2,aaa (by omega)]
   ·rw[aab e2,aab (by omega)]
def aC2(K:DN Val)(n:Nat)(A:Nat->Nat->Val)(i j:Nat):Val:=DN.sol K n A (fun q=>if q=j then K.one else K.zero) i
def aE2{k:Int}{n:Nat}{a s:ak}(hk:kindOk k=true)(ha:OU k n a)(h:qz k a=.ok s):∀i j,i<n->j<n->mv s i j=aC2 (KK k) n (mv a) i j:=by
 unfold qz at h
 split at h
 ·split at h
  ·cases h
  ·split at h
   ·cases h
   ·rename_i hb
    simp only[aaW]at h;subst h;unfold rT at hb ⊢;rw[ha.1]at hb ⊢;have r1:=(Rs (R:=fun _ _=>False) hk n 0 false a (by omega) ha).1;have hb':(jq k n 0 (uH k n n 0 false a).1 (uH k n n 0 false a).2).1=false:=by simpa using hb
    have q1:=((QR hk n 0 (uH k n n 0 false a).1 (uH k n n 0 false a).2 (by omega) r1).2 hb').1;have hN:=aEm (mv a) hk n 0 false a (by omega) ha q1 (fun i j _ _=>rfl);intro i j hi hj;rw[aD2 hk n 0 _ _ (by omega) r1 hb' i j hi hj];have hdN:=DN.qqk (K:=KK k) (n:=n) (a:=mv a) (fun i j hi hj=>aDP ha hi hj) n (Pe _);have hsum:∀(c q:Nat),q+c<=n->(KK k).sum (fun l=>(KK k).qtm (DN.nexts (KK k) n (mv a) i l) (if l=j then (KK k).one else (KK k).zero)) q c=if q<=j/\j<q+c then DN.nexts (KK k) n (mv a) i j else (KK k).zero:=by
     intro c
     induction c with
     |zero=>intro q _;rw[aab (by omega)];rfl
     |succ c ih=>
      intro q hq;have dq:=hdN i q hi (by omega);rw[DN.sum,ih (q+1) (by omega)];by_cases e:q=j
      ·rw[aaa e,(KK k).ot dq,aab (by omega),aaa (by omega),DN.zp dq,e]
      ·rw[aab e,(KK k).tz dq]
       by_cases e2:q+1<=j/\j<q+1+c
       ·rw[aaa e2,aaa (by omega),(KK k).pz (hdN i j hi hj)]
       ·rw[aab e2,aab (by omega),(KK k).pz (KK k).dz]
    have hs:=hsum n 0 (by omega);rw[aaa (show 0<=j/\j<0+n by omega)]at hs;unfold aC2 DN.sol;show _=(KK k).qpl (if i=j then (KK k).one else (KK k).zero) _;rw[hs,hN i j hi hj];by_cases e:i=j
    ·rw[aaa ⟨e,aaS _⟩,aaa e]
    ·rw[aab (fun h=>e h.1),aab e,(KK k).pz (hdN i j hi hj)]
 ·cases h
def aC1(m:aQ)(loose:Bool)(i j:Nat):Val:=aS (KK m.kind) (gS (KK m.kind) loose j) (OX m i)
def aDD{m:aQ}(hm:bM m=true){loose:Bool}(i j:Nat):(KK m.kind).dom (aC1 m loose i j):=aDb fun a h=>aDN (aDr hm a h)
def aDi(m:aQ)(loose:Bool)(f:Nat->Val)(j:Nat):Val:=(KK m.kind).sum (fun i=>(KK m.kind).qtm (f i) (aC2 (KK m.kind) m.states.length (aC1 m loose) i j)) 0 m.states.length
namespace DN
variable {V:Type} {K:DN V}
def qqj{n j:Nat}{g:Nat->V}(hg:∀i,i<n->K.dom (g i))(hj:j<n):K.sum (fun i=>K.qtm (g i) (if i=j then K.one else K.zero)) 0 n=g j:=by
 have hsum:∀(c q:Nat),q+c<=n->K.sum (fun l=>K.qtm (g l) (if l=j then K.one else K.zero)) q c=if q<=j/\j<q+c then g j else K.zero:=by
  intro c
  induction c with
  |zero=>intro q _;rw[aab (by omega)];rfl
  |succ c ih=>
   intro q hq;have dq:=hg q (by omega);rw[DN.sum,ih (q+1) (by omega)];by_cases e:q=j
   ·rw[aaa e,K.ot dq,aab (by omega),aaa (by omega),DN.zp dq,e]
   ·rw[aab e,K.tz dq]
    by_cases e2:q+1<=j/\j<q+1+c
    ·rw[aaa e2,aaa (by omega),K.pz (hg j hj)]
    ·rw[aab e2,aab (by omega),K.pz K.dz]
 have:=hsum n 0 (by omega);rwa[aaa (show 0<=j/\j<0+n by omega)]at this
def aF3{n r:Nat}{x:V}(hx:K.dom x)(hr:r<n):K.sum (fun q=>if q=r then x else K.zero) 0 n=x:=by
 have h:=qqj (K:=K) (n:=n) (j:=r) (g:=fun _=>x) (fun _ _=>hx) hr;refine Eq.trans (qqf 0 n fun q _ _=>?_) h;by_cases e:q=r
 ·rw[aaa e,aaa e,K.ot hx]
 ·rw[aab e,aab e,K.tz hx]
theorem qqg{N:Nat}{ρ:Nat->Nat}:∀(N':Nat) (f:Nat->V),(∀q,q<N->K.dom (f q))->(∀p,p<N'->ρ p<N)->(∀p q,p<N'->q<N'->ρ p=ρ q->p=q)->(∀q,q<N->(¬ ∃p,p<N'/\ρ p=q)->f q=K.zero) ->
  K.sum f 0 N=K.sum (fun p=>f (ρ p)) 0 N'
 |0,f,_,_,_,hz=>qqi 0 N fun q _ hq=>hz q (by omega) (by rintro⟨p,h,_⟩;omega)
 |N'+1,f,hf,hlt,hinj,hz=>by
  have hr:=hlt N' (by omega);have ih:=qqg (N:=N) (ρ:=ρ) N' (fun q=>if q=ρ N' then K.zero else f q) (fun q hq=>by split;exact K.dz;exact hf q hq) (fun p hp=>hlt p (by omega)) (fun p q hp hq=>hinj p q (by omega) (by omega)) (fun q hq hn=>by
   by_cases e:q=ρ N'
   ·rw[aaa e]
   ·rw[aab e]
    refine hz q hq ?_;rintro⟨p,h1,h2⟩;by_cases e2:p=N'
    ·exact e (by rw[<-h2,e2])
    ·exact hn ⟨p,by omega,h2⟩)
  have e1:K.sum f 0 N=K.sum (fun q=>K.qpl (if q=ρ N' then K.zero else f q) (if q=ρ N' then f (ρ N') else K.zero)) 0 N:=by
   refine qqf 0 N fun q _ hq=>?_
   by_cases e:q=ρ N'
   ·rw[aaa e,aaa e,K.pz (hf _ hr),e]
   ·rw[aab e,aab e,DN.zp (hf q (by omega))]
  rw[e1,aFH 0 N (fun q _ hq=>by split;exact K.dz;exact hf q (by omega)) (fun q _ hq=>by split;exact hf _ hr;exact K.dz),ih,aF3 (hf _ hr) hr];rw[aFz 0 N' (fun p _ hp=>hf _ (hlt p (by omega))),aaP];congr 1;refine qqf 0 N' fun p _ hp=>?_
  show(if ρ p=ρ N' then K.zero else f (ρ p))=f (ρ p);rw[aab (fun e=>by have:=hinj p N' (by omega) (by omega) e;omega)]
theorem aFQ{n:Nat}{a b:Nat->Nat->V}(h:∀i j,i<n->j<n->a i j=b i j):∀p,p<=n->∀i j,i<n->j<n->nexts K p a i j=nexts K p b i j
 |0,_=>h
 |p+1,hp=>by
  have ih:=aFQ h p (by omega);intro i j hi hj;show next K p _ i j=next K p _ i j
  unfold next
  rw[ih i j hi hj,ih i p hi (by omega),ih p p (by omega) (by omega),ih p j (by omega) hj]
def qqm{n:Nat}{a a':Nat->Nat->V}{b b':Nat->V}(h:∀i j,i<n->j<n->a i j=a' i j)(hb:∀i,i<n->b i=b' i){i:Nat}(hi:i<n):sol K n a b i=sol K n a' b' i:=by
 unfold sol;rw[hb i hi];congr 1;refine qqf 0 n fun j _ hj=>?_
 rw[aFQ h n (Pe _) i j hi (by omega),hb j (by omega)]
def sol_none{n:Nat}{a:Nat->Nat->V}{b:Nat->V}(h:∀i j,i<n->j<n->a i j=K.zero)(hb:∀i,i<n->K.dom (b i)){i:Nat}(hi:i<n):sol K n a b i=b i:=by
 have ha:MDom K n a:=fun i j hi hj=>by rw[h i j hi hj];exact K.dz
 have hs:=qql ha hb;rw[aFy ha hb i hi,qqi 0 n (fun j _ hj=>by rw[h i j hi (by omega),K.zt (hs j (by omega))]),DN.zp (hb i hi)]
def sol_ren{N N':Nat}{ρ:Nat->Nat}{a' a:Nat->Nat->V}{b':Nat->V}(hlt:∀p,p<N'->ρ p<N)(hinj:∀p q,p<N'->q<N'->ρ p=ρ q->p=q)(ha':MDom K N a')(ha:MDom K N' a)(hb':∀q,q<N->K.dom (b' q))
  (hA:∀i j,i<N'->j<N'->a' (ρ i) (ρ j)=a i j) (hO:∀i q,i<N'->q<N->(¬ ∃p,p<N'/\ρ p=q)->a' (ρ i) q=K.zero) {i:Nat} (hi:i<N'):sol K N a' b' (ρ i)=sol K N' a (fun p=>b' (ρ p)) i:=by
 have hb:∀p,p<N'->K.dom (b' (ρ p)):=fun p hp=>hb' _ (hlt p hp)
 have dS':=qql ha' hb';have dS:=qql (K:=K) (b:=fun p=>b' (ρ p)) ha hb;have row:∀(x:Nat->V),(∀q,q<N->K.dom (x q))->∀i,i<N'->K.sum (fun j=>K.qtm (a' (ρ i) j) (x j)) 0 N=K.sum (fun j=>K.qtm (a i j) (x (ρ j))) 0 N':=by
  intro x hx i hi;rw[qqg (ρ:=ρ) N' _ (fun q hq=>K.dt (ha' _ q (hlt i hi) hq) (hx q hq)) hlt hinj (fun q hq hn=>by rw[hO i q hi hq hn,K.zt (hx q hq)])];refine qqf 0 N' fun j _ hj=>?_
  rw[hA i j hi (by omega)]
 have le1:∀i,i<N'->K.le (sol K N' a (fun p=>b' (ρ p)) i) (sol K N a' b' (ρ i)):=by
  refine aFU (x:=fun i=>sol K N a' b' (ρ i)) ha hb (fun i hi=>dS' _ (hlt i hi)) fun i hi=>?_
  have:=aFy ha' hb' (ρ i) (hlt i hi);rw[row _ dS' i hi]at this;show K.le (K.qpl (b' (ρ i)) (K.sum (fun j=>K.qtm (a i j) (sol K N a' b' (ρ j))) 0 N')) (sol K N a' b' (ρ i));rw[<-this];exact K.refl (dS' _ (hlt i hi))
 refine K.anti (dS' _ (hlt i hi)) (dS i hi) ?_ (le1 i hi);have cls:∀q,∃y,(∀p,p<N'->ρ p=q->y=sol K N' a (fun p=>b' (ρ p)) p)/\((¬ ∃p,p<N'/\ρ p=q)->y=sol K N a' b' q):=by
  intro q;by_cases h:∃p,p<N'/\ρ p=q
  ·obtain⟨p,hp,e⟩:=h
   exact⟨sol K N' a (fun p=>b' (ρ p)) p,fun p2 hp2 e2=>by rw[hinj p2 p hp2 hp (e2.trans e.symm)],fun hn=>absurd ⟨p,hp,e⟩ hn⟩
  ·exact⟨sol K N a' b' q,fun p hp e=>absurd ⟨p,hp,e⟩ h,fun _=>rfl⟩
 let y:Nat->V:=fun q=>Classical.choose (cls q)
 have y1:∀p,p<N'->y (ρ p)=sol K N' a (fun p=>b' (ρ p)) p:=fun p hp=>(Classical.choose_spec (cls (ρ p))).1 p hp rfl
 have y2:∀q,(¬ ∃p,p<N'/\ρ p=q)->y q=sol K N a' b' q:=fun q=>(Classical.choose_spec (cls q)).2
 have dy:∀q,q<N->K.dom (y q):=by
  intro q hq;by_cases h:∃p,p<N'/\ρ p=q
  ·obtain⟨p,hp,rfl⟩:=h
   rw[y1 p hp];exact dS p hp
  ·rw[y2 q h];exact dS' q hq
 have yle:∀q,q<N->K.le (y q) (sol K N a' b' q):=by
  intro q hq;by_cases h:∃p,p<N'/\ρ p=q
  ·obtain⟨p,hp,rfl⟩:=h
   rw[y1 p hp];exact le1 p hp
  ·rw[y2 q h];exact K.refl (dS' q hq)
 have smono:∀(f g:Nat->V) (c s:Nat),(∀j,s<=j->j<s+c->K.dom (f j))->(∀j,s<=j->j<s+c->K.dom (g j))->(∀j,s<=j->j<s+c->K.le (f j) (g j))->K.le (K.sum f s c) (K.sum g s c):=by
  intro f g c
  induction c with
  |zero=>intro s _ _ _;exact K.refl K.dz
  |succ c ih=>
   intro s hf hg h;rw[DN.sum,DN.sum];exact aFr (hf s (by omega) (by omega)) (hg s (by omega) (by omega)) (qqe _ _ fun j h1 h2=>hf j (by omega) (by omega)) (qqe _ _ fun j h1 h2=>hg j (by omega) (by omega)) (h s (by omega) (by omega)) (ih (s+1) (fun j h1 h2=>hf j (by omega) (by omega)) (fun j h1 h2=>hg j (by omega) (by omega)) fun j h1 h2=>h j (by omega) (by omega))
 have fin:K.le (sol K N a' b' (ρ i)) (y (ρ i)):=by
  refine aFU (x:=y) ha' hb' dy (fun q hq=>?_) (ρ i) (hlt i hi);by_cases h:∃p,p<N'/\ρ p=q
  ·obtain⟨p,hp,rfl⟩:=h
   rw[row y dy p hp,y1 p hp];have e:=aFy (K:=K) (b:=fun p=>b' (ρ p)) ha hb p hp;have e2:K.sum (fun j=>K.qtm (a p j) (y (ρ j))) 0 N'=K.sum (fun j=>K.qtm (a p j) (sol K N' a (fun p=>b' (ρ p)) j)) 0 N':=qqf 0 N' fun j _ hj=>by rw[y1 j (by omega)]
   rw[e2,<-e];exact K.refl (dS p hp)
  ·rw[y2 q h]
   have e:=aFy ha' hb' q hq;have d1:∀j,j<N->K.dom (K.qtm (a' q j) (y j)):=fun j hj=>K.dt (ha' q j hq hj) (dy j hj)
   have d2:∀j,j<N->K.dom (K.qtm (a' q j) (sol K N a' b' j)):=fun j hj=>K.dt (ha' q j hq hj) (dS' j hj)
   have s1:=qqe (K:=K) (f:=fun j=>K.qtm (a' q j) (y j)) 0 N fun j _ hj=>d1 j (by omega)
   have s2:=qqe (K:=K) (f:=fun j=>K.qtm (a' q j) (sol K N a' b' j)) 0 N fun j _ hj=>d2 j (by omega)
   conv=>rhs;rw[e]
   exact aFr (hb' q hq) (hb' q hq) s1 s2 (K.refl (hb' q hq)) (smono _ _ N 0 (fun j _ hj=>d1 j (by omega)) (fun j _ hj=>d2 j (by omega)) fun j _ hj=>K.qqs (dy j (by omega)) (dS' j (by omega)) (ha' q j hq (by omega)) (yle j (by omega)))
 rwa[y1 i hi]at fin
end DN
def aEl{m:aQ}(hm:bM m=true){loose:Bool}{star:Option ak}(hs:qy m loose=.ok star){v v':Vec}(hv:H5 m.kind m.states.length v)(h:uB m v star=.ok v') :
  H5 m.kind m.states.length v'/\∀j,j<m.states.length->vv v' j=aDi m loose (vv v) j:=by
 obtain⟨hk,ha⟩:=Pt hm;have hso:=Tm hm hs;refine⟨(Rq hm hso hv h).1,fun j hj=>?_⟩;unfold uB at h
 cases star with
 |none=>
  simp only[aaW]at h;subst h;have hz:∀i j,i<m.states.length->j<m.states.length->aC1 m loose i j=(KK m.kind).zero:=fun i j hi hj=>aDy fun a h=>by
   unfold gS;rw[aab];rintro⟨h1,h2⟩;have:=(QN hm h);exact hso i j ⟨hi,hj,a,h,h1,by omega⟩
  unfold aDi;rw[DN.qqf (g:=fun i=>(KK m.kind).qtm (vv v i) (if i=j then (KK m.kind).one else (KK m.kind).zero)) 0 _ fun i _ hi=>by
   show(KK m.kind).qtm (vv v i) (aC2 (KK m.kind) m.states.length (aC1 m loose) i j)=_;unfold aC2;rw[DN.sol_none hz (fun q _=>by split;exact(KK m.kind).do_;exact(KK m.kind).dz) (show i<m.states.length by omega)]]
  exact(DN.qqj (fun i hi=>aCV hv hi) hj).symm
 |some s=>
  unfold qy at hs;obtain⟨x,e1,e2⟩:=O6 hs;obtain⟨rows,f1,f2,f3,f4⟩:=aEq hm m.states false [] x ha e1;rw[abH]at f1
  split at e2
  ·cases e2
  ·split at e2
   ·cases e2
   ·obtain⟨s',e3,e4⟩:=O6 e2
    simp only[aaW,aao]at e4;subst e4;rw[f1]at e3;have hs':=aE2 hk ⟨f2,f3⟩ e3;obtain⟨s1,_⟩:=hso;obtain⟨-,h2⟩:=aEk hk v s' (eT m) v' (by rw[hv.1,s1.1]) (PP hk) hv.2 s1.2 h;rw[h2 j hj,aDt hk hj,hv.1,(KK m.kind).pz (DN.qqe 0 _ fun i _ hi=>(KK m.kind).dt (aCV hv (by omega)) (aDP s1 (by omega) hj))];unfold aDi;refine DN.qqf 0 _ fun i _ hi=>?_
    show(KK m.kind).qtm (vv v i) (mv s' i j)=_;rw[hs' i j (by omega) hj];congr 1;unfold aC2;exact DN.qqm (fun i j hi hj=>f4 i hi j hj) (fun _ _=>rfl) (by omega)
def aDu(ρ:Nat->Nat):List aO->List aO->Prop
 |[],[]=>True
 |a::r,b::s=>(a.inn=b.inn/\a.out=b.out/\a.w=b.w/\a.to.toNat=ρ b.to.toNat)/\aDu ρ r s
 |_,_=>False
structure Ren (m n:aQ) (ρ:Nat->Nat):Prop where
 mok:bM m=true
 nok:bM n=true
 kind:n.kind=m.kind
 lead:n.lead=m.lead
 lt:∀p,p<n.states.length->ρ p<m.states.length
 inj:∀p q,p<n.states.length->q<n.states.length->ρ p=ρ q->p=q
 start:ρ n.start.toNat=m.start.toNat
 fin:∀p,p<n.states.length->Pz n p=Pz m (ρ p)
 arcs:∀p,p<n.states.length->aDu ρ (OX m (ρ p)) (OX n p)
def aCF(m n:aQ)(ρ:Nat->Nat)(f' f:Nat->Val):Prop:=(∀p,p<n.states.length->f' (ρ p)=f p)/\∀q,q<m.states.length->(¬ ∃p,p<n.states.length/\ρ p=q)->f' q=(KK m.kind).zero
theorem aDM{K:DN Val}{ρ:Nat->Nat}{N':Nat}{inn out:Int}{loose:Bool}{x:Val}(hinj:∀p q,p<N'->q<N'->ρ p=ρ q->p=q){j:Nat}(hj:j<N'):∀ {us bs:List aO},aDu ρ us bs->(∀b∈bs,b.to.toNat<N') ->
  aS K (gA K inn out loose (ρ j) x) us=aS K (gA K inn out loose j x) bs
 |[],[],_,_=>rfl
 |a::r,b::s,h,hb=>by
  obtain⟨⟨h1,h2,h3,h4⟩,hr⟩:=h;rw[aS,aS,aDM hinj hj hr fun c hc=>hb c (aaj _ hc)];congr 1;unfold gA;have hf:(fits inn out loose a/\a.to.toNat=ρ j)↔(fits inn out loose b/\b.to.toNat=j):=by
   unfold fits;rw[h1,h2,h4];constructor
   ·rintro⟨e1,e2⟩;exact⟨e1,hinj _ _ (hb b aal) hj e2⟩
   ·rintro⟨e1,e2⟩;exact⟨e1,by rw[e2]⟩
  by_cases e:fits inn out loose b/\b.to.toNat=j
  ·rw[aaa e,aaa (hf.2 e),h3]
  ·rw[aab e,aab (fun h=>e (hf.1 h))]
 |[],_::_,h,_=>h.elim
 |_::_,[],h,_=>h.elim
theorem aDL{K:DN Val}{ρ:Nat->Nat}{N':Nat}{inn out:Int}{loose:Bool}{x:Val}{q:Nat}(hq:¬ ∃p,p<N'/\ρ p=q):∀ {us bs:List aO},aDu ρ us bs->(∀b∈bs,b.to.toNat<N')->aS K (gA K inn out loose q x) us=K.zero
 |[],[],_,_=>rfl
 |a::r,b::s,h,hb=>by
  obtain⟨⟨h1,h2,h3,h4⟩,hr⟩:=h;rw[aS,aDL hq hr fun c hc=>hb c (aaj _ hc)];have:gA K inn out loose q x a=K.zero:=by
   unfold gA;rw[aab];rintro⟨-,e⟩;exact hq ⟨b.to.toNat,hb b aal,by rw[<-h4,e]⟩
  rw[this,K.pz K.dz]
 |[],_::_,h,_=>h.elim
 |_::_,[],h,_=>h.elim
def aER{K:DN Val}{loose:Bool}{j:Nat}{a:aO}(h:K.dom (Ac a.w)):gS K loose j a=gA K 0 0 loose j K.one a:=by
 unfold gS gA
 split
 ·rw[K.ono h]
 ·rfl
theorem aDY{K:DN Val}{f g:aO->Val}:∀ {l:List aO},(∀a∈l,f a=g a)->aS K f l=aS K g l
 |[],_=>rfl
 |a::r,h=>by rw[aS,aS,h a aal,aDY fun b hb=>h b (aaj _ hb)]
def aDz{m:aQ}(hm:bM m=true){i:Nat}:∀b∈OX m i,b.to.toNat<m.states.length:=fun b hb=>(aDm (aDr hm b hb)).2
def aE4{m n:aQ}{ρ:Nat->Nat}(R:Ren m n ρ){inn out:Int}{loose:Bool}{f' f:Nat->Val}(hd:∀i,i<m.states.length->(KK m.kind).dom (f' i))(h:aCF m n ρ f' f):aCF m n ρ (aDn m inn out loose f') (aDn n inn out loose f):=by
 have key:∀j',aDn m inn out loose f' j'=(KK m.kind).sum (fun p=>aS (KK m.kind) (gA (KK m.kind) inn out loose j' (f' (ρ p))) (OX m (ρ p))) 0 n.states.length:=fun j'=>by
  unfold aDn;refine DN.qqg (ρ:=ρ) n.states.length _ (fun q hq=>aDb fun a ha=>aDw (hd q hq) (aDr R.mok a ha)) R.lt R.inj fun q hq hn=>?_
  rw[h.2 q hq hn];exact aDy fun a ha=>aEb (aDr R.mok a ha)
 refine⟨fun j hj=>?_,fun q hq hn=>?_⟩
 ·rw[key]
  unfold aDn;rw[R.kind];refine DN.qqf 0 _ fun p _ hp=>?_
  rw[h.1 p (by omega)];exact aDM R.inj hj (R.arcs p (by omega)) (aDz R.nok)
 ·rw[key]
  exact DN.qqi 0 _ fun p _ hp=>aDL hn (R.arcs p (by omega)) (aDz R.nok)
def aDT{m:aQ}(hm:bM m=true){loose:Bool}(i j:Nat):aC1 m loose i j=aS (KK m.kind) (gA (KK m.kind) 0 0 loose j (KK m.kind).one) (OX m i):=
 aDY fun a ha=>aER (aBM (aDm (aDr hm a ha)).1)
def aEt{m n:aQ}{ρ:Nat->Nat}(R:Ren m n ρ){loose:Bool}{i:Nat}(hi:i<n.states.length) :
  (∀j,j<n.states.length->aC2 (KK m.kind) m.states.length (aC1 m loose) (ρ i) (ρ j)=aC2 (KK n.kind) n.states.length (aC1 n loose) i j) ∧
  ∀q,q<m.states.length->(¬ ∃p,p<n.states.length/\ρ p=q)->aC2 (KK m.kind) m.states.length (aC1 m loose) (ρ i) q=(KK m.kind).zero:=by
 have key:∀b':Nat->Val,(∀q,q<m.states.length->(KK m.kind).dom (b' q))->DN.sol (KK m.kind) m.states.length (aC1 m loose) b' (ρ i)=DN.sol (KK m.kind) n.states.length (aC1 n loose) (fun p=>b' (ρ p)) i:=fun b' hb'=>by
  refine DN.sol_ren R.lt R.inj (fun i j _ _=>aDD R.mok i j) (fun i j _ _=>by have:=aDD R.nok (loose:=loose) i j;rwa[R.kind]at this) hb' (fun i j hi hj=>?_) (fun i q hi hq hn=>?_) hi
  ·rw[aDT R.mok,aDT R.nok,R.kind]
   exact aDM R.inj hj (R.arcs i hi) (aDz R.nok)
  ·rw[aDT R.mok]
   exact aDL hn (R.arcs i hi) (aDz R.nok)
 have du:∀(j q:Nat),(KK m.kind).dom (if q=j then (KK m.kind).one else (KK m.kind).zero):=fun j q=>by split;exact(KK m.kind).do_;exact(KK m.kind).dz
 refine⟨fun j hj=>?_,fun q hq hn=>?_⟩
 ·unfold aC2
  rw[key _ (fun q _=>du _ q),R.kind];refine DN.qqm (fun _ _ _ _=>rfl) (fun p hp=>?_) hi;by_cases e:p=j
  ·rw[aaa e,aaa (by rw[e])]
  ·rw[aab e,aab (fun h=>e (R.inj p j hp hj h))]
 ·unfold aC2
  rw[key _ (fun q _=>du _ q)];have dn:DN.MDom (KK m.kind) n.states.length (aC1 n loose):=fun i j _ _=>by have:=aDD R.nok (loose:=loose) i j;rwa[R.kind]at this
  have hz:∀p,p<n.states.length->(fun p=>if ρ p=q then (KK m.kind).one else (KK m.kind).zero) p=(KK m.kind).zero:=fun p hp=>aab (fun e=>hn ⟨p,hp,e⟩)
  rw[DN.qqm (b':=fun _=>(KK m.kind).zero) (fun _ _ _ _=>rfl) hz hi];unfold DN.sol;rw[DN.qqi 0 _ fun j _ hj=>(KK m.kind).tz (DN.qqk dn _ (Pe _) i j hi (by omega)),(KK m.kind).pz (KK m.kind).dz]
def aEs{m:aQ}(hm:bM m=true){loose:Bool}{i j:Nat}(hi:i<m.states.length):(KK m.kind).dom (aC2 (KK m.kind) m.states.length (aC1 m loose) i j):=
 DN.qql (fun i j _ _=>aDD hm i j) (fun q _=>by split;exact(KK m.kind).do_;exact(KK m.kind).dz) i hi
def aEX{m n:aQ}{ρ:Nat->Nat}(R:Ren m n ρ){loose:Bool}{f' f:Nat->Val}(hd:∀i,i<m.states.length->(KK m.kind).dom (f' i))(h:aCF m n ρ f' f):aCF m n ρ (aDi m loose f') (aDi n loose f):=by
 have key:∀j',aDi m loose f' j'=(KK m.kind).sum (fun p=>(KK m.kind).qtm (f' (ρ p)) (aC2 (KK m.kind) m.states.length (aC1 m loose) (ρ p) j')) 0 n.states.length:=fun j'=>by
  unfold aDi;refine DN.qqg (ρ:=ρ) n.states.length _ (fun q hq=>(KK m.kind).dt (hd q hq) (aEs R.mok hq)) R.lt R.inj fun q hq hn=>?_
  rw[h.2 q hq hn,(KK m.kind).zt (aEs R.mok hq)]
 refine⟨fun j hj=>?_,fun q hq hn=>?_⟩
 ·rw[key]
  unfold aDi;rw[R.kind];refine DN.qqf 0 _ fun p _ hp=>?_
  have:=(aEt R (loose:=loose) (show p<n.states.length by omega)).1 j hj;rw[R.kind]at this;rw[h.1 p (by omega),this]
 ·rw[key]
  refine DN.qqi 0 _ fun p _ hp=>?_
  rw[(aEt R (show p<n.states.length by omega)).2 q hq hn,(KK m.kind).tz (hd _ (R.lt p (by omega)))]
structure GOk (k:Int) (n a b:Nat) (g:aAk):Prop where
 len:g.length=a+1
 row:∀i,i<=a->(g.getD i []).length=b+1
 vec:∀i j,i<=a->j<=b->H5 k n (gAt g i j)
def aDO{α:Type}(l:List α)(i j:Nat)(x d:α)(hi:i<l.length):(l.set i x).getD j d=if i=j then x else l.getD j d:=by
 rw[aaf,ab2];by_cases h:i=j
 ·subst h;rw[aaa rfl,aaa hi,aaa rfl];rfl
 ·rw[aab h,aab h,aaf]
def GOk.at_set{k:Int}{n a b:Nat}{g:aAk}(h:GOk k n a b g){i j:Nat}(hi:i<=a)(hj:j<=b)(v:Vec)(r c:Nat):gAt (aBS g i j v) r c=if r=i/\c=j then v else gAt g r c:=by
 unfold gAt aBS;rw[aDO _ _ _ _ _ (by rw[h.len];omega)];by_cases e:i=r
 ·subst e
  rw[aaa rfl,aDO _ _ _ _ _ (by rw[h.row i hi];omega)];by_cases e2:j=c
  ·rw[aaa e2,aaa ⟨rfl,e2.symm⟩]
  ·rw[aab e2,aab (fun h=>e2 h.2.symm)]
 ·rw[aab e,aab (fun h=>e h.1.symm)]
def GOk.set{k:Int}{n a b:Nat}{g:aAk}(h:GOk k n a b g){i j:Nat}(hi:i<=a)(hj:j<=b){v:Vec}(hv:H5 k n v):GOk k n a b (aBS g i j v):=by
 refine⟨by unfold aBS;rw[abh];exact h.len,fun r hr=>?_,fun r c hr hc=>?_⟩
 ·unfold aBS
  rw[aDO _ _ _ _ _ (by rw[h.len];omega)]
  split
  ·rw[abh];exact h.row i hi
  ·exact h.row r hr
 ·rw[h.at_set hi hj]
  split
  ·exact hv
  ·exact h.vec r c hr hc
structure aCW (m n:aQ) (ρ:Nat->Nat) (a b:Nat) (g' g:aAk):Prop where
 one:GOk m.kind m.states.length a b g'
 two:GOk n.kind n.states.length a b g
 rel:∀i j,i<=a->j<=b->aCF m n ρ (vv (gAt g' i j)) (vv (gAt g i j))
def aCW.set{m n:aQ}{ρ:Nat->Nat}{a b:Nat}{g' g:aAk}(h:aCW m n ρ a b g' g){i j:Nat}(hi:i<=a)(hj:j<=b){v' v:Vec}(hv':H5 m.kind m.states.length v')(hv:H5 n.kind n.states.length v)(hr:aCF m n ρ (vv v') (vv v)):aCW m n ρ a b (aBS g' i j v') (aBS g i j v):=by
 refine⟨h.one.set hi hj hv',h.two.set hi hj hv,fun r c hr' hc=>?_⟩;rw[h.one.at_set hi hj,h.two.at_set hi hj]
 split
 ·exact hr
 ·exact h.rel r c hr' hc
def aCF.congr{m n:aQ}{ρ:Nat->Nat}{f' f g' g:Nat->Val}(hlt:∀p,p<n.states.length->ρ p<m.states.length)(h:aCF m n ρ f' f)(h1:∀q,q<m.states.length->g' q=f' q)(h2:∀p,p<n.states.length->g p=f p):aCF m n ρ g' g:=
 ⟨fun p hp=>by rw[h1 _ (hlt p hp),h2 p hp];exact h.1 p hp,fun q hq hn=>by rw[h1 q hq];exact h.2 q hq hn⟩
def aCF.sum{m n:aQ}{ρ:Nat->Nat}(hk:n.kind=m.kind){f' f g' g:Nat->Val}(h:aCF m n ρ f' f)(h2:aCF m n ρ g' g):aCF m n ρ (fun i=>(KK m.kind).qpl (f' i) (g' i)) (fun i=>(KK n.kind).qpl (f i) (g i)):=
 ⟨fun p hp=>by
  show(KK m.kind).qpl (f' (ρ p)) (g' (ρ p))=(KK n.kind).qpl (f p) (g p);rw[h.1 p hp,h2.1 p hp,hk],fun q hq hn=>by
  show(KK m.kind).qpl (f' q) (g' q)=_;rw[h.2 q hq hn,h2.2 q hq hn,(KK m.kind).pz (KK m.kind).dz]⟩
def aFf{m n:aQ}{ρ:Nat->Nat}(R:Ren m n ρ){x y:List Int}{i j:Nat}(hi:i<=x.length)(hj:j<=y.length){v' v:Vec}(hv':H5 m.kind m.states.length v')(hv:H5 n.kind n.states.length v)(hr:aCF m n ρ (vv v') (vv v))(k:Nat){g' g h' h:aAk}(hg:aCW m n ρ x.length y.length g' g)
  (e':aCZ m x y i j v' k g'=.ok h') (e:aCZ n x y i j v k g=.ok h):aCW m n ρ x.length y.length h' h:=by
 unfold aCZ at e' e;by_cases hc:x.length<i+k%2\/y.length<j+k/2
 ·rw[aaa hc]at e' e
  simp only[aaW]at e' e;subst e' e;exact hg
 ·rw[aab hc]at e' e
  have hi2:i+k%2<=x.length:=by omega
  have hj2:j+k/2<=y.length:=by omega
  obtain⟨s',a1,a2⟩:=O6 e';obtain⟨s,b1,b2⟩:=O6 e;obtain⟨u',c1,c2⟩:=O6 a2;obtain⟨u,d1,d2⟩:=O6 b2;simp only[aaW]at c2 d2;subst c2 d2;obtain⟨p1,p2⟩:=aEu R.mok hv' a1;obtain⟨q1,q2⟩:=aEu R.nok hv b1;obtain⟨r1,r2⟩:=aDW _ _ _ (hg.one.vec _ _ hi2 hj2) p1 c1;obtain⟨t1,t2⟩:=aDW _ _ _ (hg.two.vec _ _ hi2 hj2) q1 d1;refine hg.set hi2 hj2 r1 t1 ?_;have hstep:=aE4 R (inn:=if k%2=1 then x.getD i 0 else 0) (out:=if k/2=1 then y.getD j 0 else 0) (loose:=false) (fun i hi=>aCV hv' hi) hr;have hs:aCF m n ρ (vv s') (vv s):=hstep.congr R.lt p2 q2;exact(aCF.sum R.kind (hg.rel _ _ hi2 hj2) hs).congr R.lt r2 t2
theorem aEz{m n:aQ}{ρ:Nat->Nat}(R:Ren m n ρ){x y:List Int}{i j:Nat}(hi:i<=x.length)(hj:j<=y.length){v' v:Vec}(hv':H5 m.kind m.states.length v')(hv:H5 n.kind n.states.length v)(hr:aCF m n ρ (vv v') (vv v)):∀(c k:Nat) {g' g h' h:aAk},aCW m n ρ x.length y.length g' g ->
  aDe m x y i j v' c k g'=.ok h'->aDe n x y i j v c k g=.ok h->aCW m n ρ x.length y.length h' h
 |0,k,g',g,h',h,hg,e',e=>by
  simp only[aDe,aaW]at e' e;subst e' e;exact hg
 |c+1,k,g',g,h',h,hg,e',e=>by
  unfold aDe at e' e;obtain⟨z',a1,a2⟩:=O6 e';obtain⟨z,b1,b2⟩:=O6 e;exact aEz R hi hj hv' hv hr c (k+1) (aFf R hi hj hv' hv hr k hg a1 b1) a2 b2
def aFe{m n:aQ}{ρ:Nat->Nat}(R:Ren m n ρ){x y:List Int}{s' s:Option ak}(hs':qy m false=.ok s')(hs:qy n false=.ok s){i j:Nat}(hi:i<=x.length)(hj:j<=y.length){g' g h' h:aAk}(hg:aCW m n ρ x.length y.length g' g)
  (e':aDx m s' x y i j g'=.ok h') (e:aDx n s x y i j g=.ok h):aCW m n ρ x.length y.length h' h:=by
 unfold aDx at e' e;obtain⟨v',a1,a2⟩:=O6 e';obtain⟨v,b1,b2⟩:=O6 e;have k1:=hg.one.vec i j hi hj;have k2:=hg.two.vec i j hi hj;obtain⟨p1,p2⟩:=aEl R.mok hs' k1 a1;obtain⟨q1,q2⟩:=aEl R.nok hs k2 b1;have hr:aCF m n ρ (vv v') (vv v):=(aEX R (loose:=false) (fun i hi=>aCV k1 hi) (hg.rel i j hi hj)).congr R.lt p2 q2;exact aEz R hi hj p1 q1 hr 3 1 (hg.set hi hj p1 q1 hr) a2 b2
theorem aEx{m n:aQ}{ρ:Nat->Nat}(R:Ren m n ρ){x y:List Int}{s' s:Option ak}(hs':qy m false=.ok s')(hs:qy n false=.ok s){i:Nat}(hi:i<=x.length):∀(c j:Nat) {g' g h' h:aAk},j+c<=y.length+1->aCW m n ρ x.length y.length g' g ->
  aC6 m s' x y i c j g'=.ok h'->aC6 n s x y i c j g=.ok h->aCW m n ρ x.length y.length h' h
 |0,j,g',g,h',h,_,hg,e',e=>by
  simp only[aC6,aaW]at e' e;subst e' e;exact hg
 |c+1,j,g',g,h',h,hj,hg,e',e=>by
  unfold aC6 at e' e;obtain⟨z',a1,a2⟩:=O6 e';obtain⟨z,b1,b2⟩:=O6 e;exact aEx R hs' hs hi c (j+1) (by omega) (aFe R hs' hs hi (by omega) hg a1 b1) a2 b2
theorem aEy{m n:aQ}{ρ:Nat->Nat}(R:Ren m n ρ){x y:List Int}{s' s:Option ak}(hs':qy m false=.ok s')(hs:qy n false=.ok s):∀(c i:Nat) {g' g h' h:aAk},i+c<=x.length+1->aCW m n ρ x.length y.length g' g ->
  aCY m s' x y c i g'=.ok h'->aCY n s x y c i g=.ok h->aCW m n ρ x.length y.length h' h
 |0,i,g',g,h',h,_,hg,e',e=>by
  simp only[aCY,aaW]at e' e;subst e' e;exact hg
 |c+1,i,g',g,h',h,hi,hg,e',e=>by
  unfold aCY at e' e;obtain⟨z',a1,a2⟩:=O6 e';obtain⟨z,b1,b2⟩:=O6 e;exact aEy R hs' hs c (i+1) (by omega) (aEx R hs' hs (by omega) (y.length+1) 0 (by omega) hg a1 b1) a2 b2
def aEh{m:aQ}(hm:bM m=true):aT m.kind m.lead=true/\m.start.toNat<m.states.length:=by
 obtain⟨-,h2,h3,-,-⟩:=kV.1 hm;exact⟨(Pv h3).1,by omega⟩
def aEe{m:aQ}(hm:bM m=true)(x y:List Int):GOk m.kind m.states.length x.length y.length (List.replicate (x.length+1) (List.replicate (y.length+1) (eT m)))/\∀i j,i<=x.length->j<=y.length->gAt (List.replicate (x.length+1) (List.replicate (y.length+1) (eT m))) i j=eT m:=by
 have hr:∀i,i<=x.length->(List.replicate (x.length+1) (List.replicate (y.length+1) (eT m))).getD i []=List.replicate (y.length+1) (eT m):=fun i hi=>by
  rw[aaf,abv,aaa (by omega)];rfl
 have ha:∀i j,i<=x.length->j<=y.length->gAt (List.replicate (x.length+1) (List.replicate (y.length+1) (eT m))) i j=eT m:=fun i j hi hj=>by
  unfold gAt;rw[hr i hi,aaf,abv,aaa (by omega)];rfl
 exact⟨⟨by simp,fun i hi=>by rw[hr i hi];simp,fun i j hi hj=>by rw[ha i j hi hj];exact PP (Pt hm).1⟩,ha⟩
def aES{m n:aQ}{ρ:Nat->Nat}(R:Ren m n ρ)(x y:List Int):aCW m n ρ x.length y.length (aC8 m x y) (aC8 n x y):=by
 obtain⟨m1,m2⟩:=aEe R.mok x y;obtain⟨n1,n2⟩:=aEe R.nok x y;obtain⟨l1,l2⟩:=aEh R.mok;obtain⟨l3,l4⟩:=aEh R.nok;have hkm:=(Pt R.mok).1;have hkn:=(Pt R.nok).1;have z1:=PP (m:=m) hkm;have z2:=PP (m:=n) hkn;have base:aCF m n ρ (vv (eT m)) (vv (eT n)):=⟨fun p hp=>by rw[aDt hkm (R.lt p hp),aDt hkn hp,R.kind],fun q hq _=>aDt hkm hq⟩;have g0:aCW m n ρ x.length y.length (List.replicate (x.length+1) (List.replicate (y.length+1) (eT m))) (List.replicate (x.length+1) (List.replicate (y.length+1) (eT n))):=⟨m1,n1,fun i j hi hj=>by rw[m2 i j hi hj,n2 i j hi hj];exact base⟩;refine g0.set (aaS _) (aaS _) (z1.set _ l1) (z2.set _ l3) ⟨fun p hp=>?_,fun q hq hn=>?_⟩
 ·have hs:=aAb (eT m) m.start.toNat (ρ p) m.lead (by rw[z1.1];exact l2)
  have hs2:=aAb (eT n) n.start.toNat p n.lead (by rw[z2.1];exact l4);unfold vv;rw[hs,hs2,<-R.start];by_cases e:n.start.toNat=p
  ·rw[aaa e,aaa (by rw[e]),R.lead]
  ·rw[aab e,aab (fun h=>e (R.inj _ _ l4 hp h))]
   exact base.1 p hp
 ·have hs:=aAb (eT m) m.start.toNat q m.lead (by rw[z1.1];exact l2)
  unfold vv;rw[hs,aab (fun h=>hn ⟨n.start.toNat,l4,by rw[R.start];exact h⟩)];exact base.2 q hq hn
def aEP{k:Int}{x:Bs}(hx:x=[]\/bg k x=true):aCq k x (KK k).zero=(KK k).zero:=by
 unfold aCq
 split
 ·rfl
 ·rename_i h
  exact(KK k).zt (aBM (Pv (hx.resolve_left h)).1)
def fin_at{m:aQ}(hm:bM m=true)(i:Nat):Pz m i=[]\/bg m.kind (Pz m i)=true:=by
 unfold Pz;rw[aaf]
 cases h:m.states[i]? with
 |none=>exact aam rfl
 |some s=>exact Sw hm s (abC h)
def aFg{m n:aQ}{ρ:Nat->Nat}(R:Ren m n ρ){x y:List Int}{a b:Bs}(ha:aC9 m x y=.ok a)(hb:aC9 n x y=.ok b):a=b:=by
 unfold aC9 at ha hb
 split at ha
 ·split at hb
  ·obtain⟨s',a1,a2⟩:=O6 ha
   obtain⟨s,b1,b2⟩:=O6 hb;obtain⟨g',c1,c2⟩:=O6 a2;obtain⟨g,d1,d2⟩:=O6 b2;have G:=aEy R a1 b1 (x.length+1) 0 (by omega) (aES R x y) c1 d1;have v1:=G.one.vec x.length y.length (Pe _) (Pe _);have v2:=G.two.vec x.length y.length (Pe _) (Pe _);have hr:=G.rel x.length y.length (Pe _) (Pe _);have hkm:=(Pt R.mok).1;have hkn:=(Pt R.nok).1;obtain⟨p1,p2⟩:=aDA m.states _ _ _ (PH hkm) (fun i hi=>v1.at hi) (Sw R.mok) c2;obtain⟨q1,q2⟩:=aDA n.states _ _ _ (PH hkn) (fun i hi=>v2.at hi) (Sw R.nok) d2;rw[R.kind]at q1;refine aE6 p1 q1 ?_;rw[p2,q2,R.kind];congr 1;have e1:=DN.qqg (K:=KK m.kind) (N:=m.states.length) (ρ:=ρ) n.states.length (fun i=>aCq m.kind (Pz m i) (vv (gAt g' x.length y.length) i)) (fun q hq=>aDK (fin_at R.mok q) (aCV v1 hq)) R.lt R.inj fun q hq hn=>by
    show aCq m.kind (Pz m q) (vv (gAt g' x.length y.length) q)=_;rw[hr.2 q hq hn,aEP (fin_at R.mok q)]
   refine Eq.trans e1 (DN.qqf 0 _ fun p _ hp=>?_);show aCq m.kind (Pz m (ρ p)) (vv (gAt g' x.length y.length) (ρ p))=aCq m.kind (Pz n p) (vv (gAt g x.length y.length) p);rw[hr.1 p (by omega),R.fin p (by omega)]
  ·cases hb
 ·cases ha
def flP(c:Nat):List aR:=(List.range c).map fun(i:Nat)=>((i:Int),([]:Bs))
def aDv(c:Nat):(flP c).length=c:=by simp[flP]
def aDB{c i:Nat}(h:i<(flP c).length):(flP c)[i]=((i:Int),[]):=by simp[flP]
def aEQ(c:Nat):flP (c+1)=flP c++[((c:Int),[])]:=by simp[flP,List.range_succ]
theorem aD9{γ:Type}[DecidableEq γ]:∀ {l:List γ} {i:Nat} (hi:i<l.length),(∀j (hj:j<i),l[j]≠l[i])->jr l l[i]=some i
 |[],i,hi,_=>absurd hi (by simp)
 |q::r,0,hi,_=>by unfold jr;rw[acy,aaa rfl]
 |q::r,i+1,hi,h=>by
  have h0:=h 0 (by omega);rw[acy]at h0;unfold jr;rw[aab h0];have hi':i<r.length:=by simpa using hi
  have ih:=aD9 hi' fun j hj=>by
   have:=h (j+1) (by omega)
   simpa using this
  rw[abP,ih];rfl
theorem aEa{γ:Type}[DecidableEq γ]:∀ {l:List γ} {p:γ},p∉l->jr l p=none
 |[],p,_=>rfl
 |q::r,p,h=>by
  unfold jr;rw[aab (fun e=>h (by rw[e];exact aal)),aEa (fun e=>h (aaj _ e))];rfl
def aFd{c k:Nat}(h:k<c):dG (flP c) ((k:Int),[])=(k,flP c):=by
 have hk:k<(flP c).length:=by rw[aDv];exact h
 have:=aD9 hk fun j hj=>by
  rw[aDB,aDB];intro e;have:=aaw Prod.fst e;simp only at this;omega
 rw[aDB]at this;unfold dG;rw[this]
def aFc(c:Nat):dG (flP c) ((c:Int),[])=(c,flP (c+1)):=by
 have:jr (flP c) ((c:Int),[])=none:=aEa (by
  intro h;simp only[flP,abk,afc,adw]at h;obtain⟨a,h1,h2,-⟩:=h;omega)
 unfold dG;rw[this,aDv,aEQ]
def aEG(t:List Bs)(s:Int):fE t (fE t s)=fE t s:=P9 (R6 t s)
def aEi(t:List Bs)(a:aO)(k:Nat):eO t (Ps t a k)=none:=by
 unfold eO Ps;simp only[R6]
def aEJ{t fs:List Bs}{mem:Bs}{a:aO}{r:List aO}{l:List aR}{out:List aO}(hn:jy t fs mem a=none):iO t fs mem (a::r) l out=iO t fs mem r l out:=by
 rw[iO.eq_def];simp only[hn]
def aDI{t fs:List Bs}{mem tz:Bs}{a:aO}{r:List aO}{l:List aR}{out:List aO}(hn:jy t fs mem a=some tz) :
  iO t fs mem (a::r) l out=iO t fs mem r (dG l (a.to,tz)).2 (out++[Ps t a (dG l (a.to,tz)).1]):=by
 rw[iO.eq_def];simp only[hn]
 rfl
theorem aDH{t fs:List Bs}{mem:Bs}:∀(arcs:List aO) (l:List aR) (out:List aO),
  ∃bs,(iO t fs mem arcs l out).1=out++bs/\l.length<=(iO t fs mem arcs l out).2.length/\(∀b∈bs,eO t b=none)/\∀out2,iO t [] [] bs (flP l.length) out2=(out2++bs,flP (iO t fs mem arcs l out).2.length)
 |[],l,out=>⟨[],by simp[iO],Pe _,(fun b hb=>by cases hb),fun out2=>by simp[iO]⟩
 |a::r,l,out=>by
  cases hn:jy t fs mem a with
  |none=>rw[aEJ hn];exact aDH r l out
  |some tz=>
   rw[aDI hn];obtain⟨bs,h1,h2,h3,h4⟩:=aDH (t:=t) (fs:=fs) (mem:=mem) r (dG l (a.to,tz)).2 (out++[Ps t a (dG l (a.to,tz)).1]);have hv:l.length<=(dG l (a.to,tz)).2.length/\dG (flP l.length) (((dG l (a.to,tz)).1:Int),[])=((dG l (a.to,tz)).1,flP (dG l (a.to,tz)).2.length):=by
    unfold dG
    cases hf:jr l (a.to,tz) with
    |some n=>exact⟨Pe _,aFd (AU hf)⟩
    |none=>exact⟨by simp,by rw[aas];exact aFc _⟩
   refine⟨Ps t a (dG l (a.to,tz)).1::bs,?_,by omega,fun b hb=>?_,fun out2=>?_⟩
   ·rw[h1,aaZ];rfl
   ·rcases aay.1 hb with rfl|hb
    ·exact aEi t a _
    ·exact h3 b hb
   ·have hnx:jy t [] [] (Ps t a (dG l (a.to,tz)).1)=some []:=by unfold jy;rw[aEi]
    rw[aDI hnx];have e1:(Ps t a (dG l (a.to,tz)).1).to=((dG l (a.to,tz)).1:Int):=rfl;rw[e1,hv.2];simp only[];have e2:Ps t (Ps t a (dG l (a.to,tz)).1) (dG l (a.to,tz)).1=Ps t a (dG l (a.to,tz)).1:=by
     unfold Ps;simp only[aEG]
    rw[e2,h4,aaZ];rfl
theorem aD5{m:aQ}{t fs:List Bs}(kd:Int)(ld:Bs):∀(n i:Nat) (l:List aR) (out:List bI) (c:Nat) (x:List bI),out.length=i->i<=l.length->(∀s∈out,∀b∈s.arcs,eO t b=none)->lC m t fs n i l out c=some x ->
  (∀s∈x,∀b∈s.arcs,eO t b=none)/\lC ⟨kd,0,ld,x⟩ t [] n i (flP l.length) out c=some x
 |0,i,l,out,c,x,_,_,_,h=>by cases h
 |n+1,i,l,out,c,x,h1,h2,h3,h=>by
  have hpre:=h;unfold lC at h ⊢;by_cases hi:i<l.length
  ·rw[afd hi]at h
   rw[afd (by rw[aDv];exact hi)];simp only[]at h ⊢;obtain⟨bs,e1,e2,e3,e4⟩:=aDH (t:=t) (fs:=fs) (mem:=l[i].2) (wL m l[i].1).arcs l [];rw[abH]at e1
   split at h
   ·cases h
   ·rename_i hc
    obtain⟨L,-,-,⟨r3,f3⟩,-⟩:=QU n (i+1) _ _ _ x (by simp[h1]) (by omega) h;obtain⟨g1,g2⟩:=aD5 kd ld n (i+1) _ _ _ x (by simp[h1]) (by omega) (fun s hs b hb=>by
     rcases aaG.1 hs with hs|hs
     ·exact h3 s hs b hb
     ·rw[aar]at hs
      subst hs;simp only at hb;rw[e1]at hb;exact e3 b hb) h
    refine⟨g1,?_⟩;have hst:wL ⟨kd,0,ld,x⟩ (i:Int)=⟨(wL m l[i].1).fin,bs⟩:=by
     show x.getD ((i:Int)).toNat ⟨[],[]⟩=_;rw[abT,f3,aaf,aaZ,aaU (by omega),h1,abx,e1]
     rfl
    rw[aDB];simp only[];rw[hst];simp only[];rw[e4 []];simp only[abH,aDv];rw[e1]at hc g2;rw[aab hc];exact g2
  ·rw[aek hi]at h
   rw[aek (by rw[aDv];exact hi)]
   cases h
   exact⟨h3,rfl⟩
theorem aD6{t:List Bs}:∀(arcs:List aO) (l:List Bs),(∀a∈arcs,eO t a=none)->dR t arcs l=l
 |[],l,_=>rfl
 |a::r,l,h=>by
  unfold dR;rw[h a aal];exact aD6 r l fun b hb=>h b (aaj _ hb)
theorem aDJ{t:List Bs}:∀(ss:List bI) (l:List Bs),(∀s∈ss,∀a∈s.arcs,eO t a=none)->fG t ss l=l
 |[],l,_=>rfl
 |s::r,l,h=>by
  unfold fG;rw[aD6 s.arcs l (h s aal)];exact aDJ r l fun x hx=>h x (aaj _ hx)
def aEK{m:aQ}{t:List Bs}{xs:List bI}(hm:bM m=true)(ht:l7 t=true)(h:lC m t (fG t m.states []) 3001 0 [(m.start,dE (fG t m.states []) [])] [] 0=some xs) :
  jd ⟨m.kind,0,m.lead,xs⟩ t=(⟨m.kind,0,m.lead,xs⟩,0):=by
 obtain⟨h1,h2⟩:=aD5 m.kind m.lead 3001 0 _ [] 0 xs rfl (by simp) (fun s hs=>by cases hs) h;unfold jd;rw[aaa ⟨Sc hm h,ht⟩];have e:fG t xs []=[]:=aDJ xs [] h1;simp only[e];have e2:flP [(m.start,dE (fG t m.states []) [])].length=[((0:Int),dE [] [])]:=rfl;rw[e2]at h2;rw[h2]
def aDa(L:List aR):List aO->List aO->Prop
 |[],[]=>True
 |a::r,b::s=>(a.inn=b.inn/\a.out=b.out/\a.w=b.w/\0<=b.to/\L[b.to.toNat]? = some (a.to,[]))/\aDa L r s
 |_,_=>False
def aDa.mono{L k:List aR}:∀ {us bs:List aO},aDa L us bs->aDa (L++k) us bs
 |[],[],_=>trivial
 |a::r,b::s,h=>⟨⟨h.1.1,h.1.2.1,h.1.2.2.1,h.1.2.2.2.1,get_append h.1.2.2.2.2⟩,h.2.mono⟩
 |[],_::_,h=>h.elim
 |_::_,[],h=>h.elim
theorem aD3{t:List Bs}(hno:∀s,dD t s=none){mem:Bs}(hmem:mem=[]){N:Nat}:∀(arcs:List aO) (l:List aR) (out:List aO),l.Nodup->(∀p∈l,p.2=[]/\0<=p.1/\p.1<N)->(∀a∈arcs,0<=a.to/\a.to<N) ->
  ∃bs r,(iO t [] mem arcs l out).1=out++bs/\(iO t [] mem arcs l out).2=l++r/\(l++r).Nodup/\(∀p∈l++r,p.2=[]/\0<=p.1/\p.1<N)/\aDa (l++r) arcs bs
 |[],l,out,hn,hl,_=>⟨[],[],by simp[iO],by simp[iO],by simpa using hn,by simpa using hl,trivial⟩
 |a::r,l,out,hn,hl,ha=>by
  have hof:eO t a=none:=by unfold eO;simp only[hno]
  have hnx:jy t [] mem a=some mem:=by unfold jy;rw[hof]
  have hb:∀s,fE t s=s:=fun s=>P9 (hno s)
  rw[aDI hnx];obtain⟨v1,k,v2⟩:=Ty l (a.to,mem);obtain⟨n1,-⟩:=Tz (p:=(a.to,mem)) hn;have ha0:=ha a aal;have hl2:∀p∈(dG l (a.to,mem)).2,p.2=[]/\0<=p.1/\p.1<N:=fun p hp=>by
   rcases(Om l (a.to,mem)).2.2.1 p hp with h|h
   ·exact hl p h
   ·rw[h];exact⟨hmem,ha0⟩
  obtain⟨bs,r2,e1,e2,e3,e4,e5⟩:=aD3 hno hmem (N:=N) r (dG l (a.to,mem)).2 (out++[Ps t a (dG l (a.to,mem)).1]) n1 hl2 (fun b hb=>ha b (aaj _ hb));have hL:(dG l (a.to,mem)).2++r2=l++(k++r2):=by rw[v2,aaZ]
  rw[hL]at e2 e3 e4 e5;refine⟨Ps t a (dG l (a.to,mem)).1::bs,k++r2,by rw[e1,aaZ];rfl,e2,e3,e4,⟨(hb _).symm,(hb _).symm,rfl,Int.natCast_nonneg _,?_⟩,e5⟩;show(l++(k++r2))[((dG l (a.to,mem)).1:Int).toNat]? = some (a.to,[]);rw[abT,<-hL,<-hmem];exact get_append v1
theorem aD4{m:aQ}{t:List Bs}(hm:bM m=true)(hno:∀s,dD t s=none):∀(n i:Nat) (l:List aR) (out:List bI) (c:Nat) (x:List bI),out.length=i->i<=l.length->l.Nodup->(∀p∈l,p.2=[]/\0<=p.1/\p.1<m.states.length)->lC m t [] n i l out c=some x ->
  ∃L:List aR,(∃r,L=l++r)/\x.length=L.length/\(∃r,x=out++r)/\L.Nodup/\(∀p∈L,p.2=[]/\0<=p.1/\p.1<m.states.length)/\∀(j:Nat) (p:aR),i<=j->L[j]? = some p->∃s,x[j]? = some s/\s.fin=(wL m p.1).fin/\aDa L (wL m p.1).arcs s.arcs
 |0,i,l,out,c,x,_,_,_,_,h=>by cases h
 |n+1,i,l,out,c,x,h1,h2,hn,hl,h=>by
  unfold lC at h;by_cases hi:i<l.length
  ·rw[afd hi]at h
   simp only[]at h;have UM:=hl l[i] (aag hi);have hst:=RB hm ⟨UM.2.1,UM.2.2⟩;obtain⟨bs,r,e1,e2,e3,e4,e5⟩:=aD3 hno UM.1 (N:=m.states.length) (wL m l[i].1).arcs l [] hn hl (fun a ha=>by
    have:=mh.1 ((pg.1 ((kV.1 hm).2.2.2.1 _ hst)).2 a ha);exact this.2.2.1)
   rw[abH]at e1
   split at h
   ·cases h
   ·rw[e2]at h
    obtain⟨L,⟨r2,f1⟩,f2,⟨r3,f3⟩,f4,f5,f6⟩:=aD4 hm hno n (i+1) _ _ _ x (by simp[h1]) (by simp;omega) e3 e4 h;refine⟨L,⟨r++r2,by rw[f1,aaZ]⟩,f2,⟨_::r3,by rw[f3,aaZ];rfl⟩,f4,f5,fun j p hj hp=>?_⟩;by_cases hji:j=i
    ·subst hji
     have hpl:p=l[j]:=by
      rw[f1,aaZ,adi hi,aak hi]at hp
      cases hp;rfl
     subst hpl;refine⟨⟨(wL m l[j].1).fin,(iO t [] l[j].2 (wL m l[j].1).arcs l []).1⟩,?_,rfl,?_⟩
     ·rw[f3,aaZ,aaU (by omega),h1];simp
     ·show aDa L _ (iO t [] l[j].2 (wL m l[j].1).arcs l []).1
      rw[e1,f1];exact e5.mono
    ·exact f6 j p (by omega) hp
  ·rw[aek hi]at h
   cases h
   refine⟨l,⟨[],by simp⟩,by omega,⟨[],by simp⟩,hn,hl,fun j p hj hp=>?_⟩;have:=(aby.1 hp).1;omega
theorem aDZ{L:List aR}:∀ {us bs:List aO},aDa L us bs->aDu (fun p=>(L.getD p (0,[])).1.toNat) us bs
 |[],[],_=>trivial
 |a::r,b::s,h=>⟨⟨h.1.1,h.1.2.1,h.1.2.2.1,by
   show a.to.toNat=(L.getD b.to.toNat (0,[])).1.toNat;rw[aaf,h.1.2.2.2.2];rfl⟩,aDZ h.2⟩
 |[],_::_,h=>h.elim
 |_::_,[],h=>h.elim
def aEM{m:aQ}{t:List Bs}{xs:List bI}(hm:bM m=true)(hno:∀s,dD t s=none)(h:lC m t (fG t m.states []) 3001 0 [(m.start,dE (fG t m.states []) [])] [] 0=some xs) :
  ∃ρ,Ren m ⟨m.kind,0,m.lead,xs⟩ ρ:=by
 have hn:=Sc hm h;have hf:fG t m.states []=[]:=aDJ m.states [] fun s _ a _=>by unfold eO;simp only[hno]
 rw[hf]at h;have hst:=(kV.1 hm).2.1;obtain⟨L,⟨r,f1⟩,f2,-,f4,f5,f6⟩:=aD4 hm hno 3001 0 [(m.start,dE [] [])] [] 0 xs rfl (by simp) (by simp) (fun p hp=>by
  rw[aar]at hp;rw[hp];exact⟨rfl,hst.2.2.1,hst.2.2.2⟩) h
 have hget:∀p,p<xs.length->∃(hp:p<L.length),L.getD p (0,[])=L[p]/\L[p].2=[]/\0<=L[p].1/\L[p].1<m.states.length:=fun p hp=>by
  have hp':p<L.length:=by omega
  exact⟨hp',by rw[aaf,aak hp'];rfl,f5 _ (aag hp')⟩
 have hs:∀p,p<xs.length->∃s,xs[p]? = some s/\s.fin=Pz m (L.getD p (0,[])).1.toNat/\aDa L (OX m (L.getD p (0,[])).1.toNat) s.arcs:=fun p hp=>by
  obtain⟨hp',e,-⟩:=hget p hp;obtain⟨s,s1,s2,s3⟩:=f6 p L[p] (aaS _) (aak hp');rw[e];exact⟨s,s1,s2,s3⟩
 refine⟨fun p=>(L.getD p (0,[])).1.toNat,hm,hn,rfl,rfl,fun p hp=>?_,fun p q hp hq e=>?_,?_,fun p hp=>?_,fun p hp=>?_⟩
 ·obtain⟨hp',e,-,e1,e2⟩:=hget p hp
  show(L.getD p (0,[])).1.toNat<m.states.length;rw[e];omega
 ·obtain⟨hp',e1,a1,a2,-⟩:=hget p hp
  obtain⟨hq',e2,b1,b2,-⟩:=hget q hq;rw[e1,e2]at e;have hpq:L[p]=L[q]:=Prod.ext (by omega) (by rw[a1,b1]);have hne:=adk.1 f4;rcases acT p q with hlt|hlt|hlt
  ·exact absurd hpq (hne p q hp' hq' hlt)
  ·exact hlt
  ·exact absurd hpq.symm (hne q p hq' hp' hlt)
 ·show(L.getD ((0:Int).toNat) (0,[])).1.toNat=m.start.toNat
  rw[f1];rfl
 ·obtain⟨s,s1,s2,-⟩:=hs p hp
  show(xs.getD p ⟨[],[]⟩).fin=_;rw[aaf,s1];exact s2
 ·obtain⟨s,s1,-,s3⟩:=hs p hp
  have e:OX ⟨m.kind,0,m.lead,xs⟩ p=s.arcs:=by
   show(xs.getD p ⟨[],[]⟩).arcs=_;rw[aaf,s1];rfl
  rw[e];exact aDZ s3
def aED{m:aQ}{t:List Bs}{xs:List bI}(hm:bM m=true)(hno:∀f∈t,bR f=none)(h:lC m t (fG t m.states []) 3001 0 [(m.start,dE (fG t m.states []) [])] [] 0=some xs){x y:List Int}{a b:Bs}
  (ha:aC9 m x y=.ok a) (hb:aC9 ⟨m.kind,0,m.lead,xs⟩ x y=.ok b):a=b:=by
 have hno':∀s,dD t s=none:=fun s=>by
  unfold dD
  split
  ·rename_i hs
   rw[aaf,aak (by omega)];exact hno _ (aag _)
  ·rfl
 obtain⟨ρ,R⟩:=aEM hm hno' h;exact aFg R ha hb
open Go Go.RowKit Go.Maps
def aC3(t:List Bs)(q:Nat):Bool:=(t.take q).any fun s=>(bR s).isSome
def aEF{t:List Bs}{q:Nat}(h:q<t.length):aC3 t (q+1)=(aC3 t q||(bR t[q]).isSome):=by
 unfold aC3;rw[aau h,aeR];simp
def aEE{t:List Bs}(h:aC3 t t.length=false):∀f∈t,bR f=none:=fun f hf=>by
 unfold aC3 at h;rw[aaJ,List.any_eq_false]at h;have:=h f hf
 cases hp:bR f with
 |none=>rfl
 |some g=>rw[hp]at this;exact absurd rfl this
def aEC(m:aQ)(A:Option Addr)(c:Nat)(At:Option Addr)(ct:Nat)(t:List Bs)(Ax:Option Addr)(cx:Nat)(x:List Int)(Ay:Option Addr)(cy:Nat)(y:List Int)(w:World)(hT:fD w)(hS:dY w A m.states)(hl:m.states.length<=140737488355328)(Uu:m.lead.length<=140737488355328)(hh:PQ m.states)(hV:ay w At (t.map S))(hX:ay w Ax (x.map IV))(hN:∀s∈x,-9223372036854775808<=s/\s<=9223372036854775807)(hY:ay w Ay (y.map IV))(hM:∀s∈y,-9223372036854775808<=s/\s<=9223372036854775807) :
  Calls Tryz.prog 10 #[di m A c,.slice At t.length ct,.slice Ax x.length cx,.slice Ay y.length cy] w fun e w'=>e=.returned (.bool true)/\Below w w w':=by
 have pK:∀W,Below w w W->Calls Tryz.prog 17 #[] W fun e w'=>e=.returned (.bool true)/\Below W W w':=fun W hB=>tq W (hT.below hB)
 have pL:∀W,Below w w W->Calls Tryz.prog 26 #[di m A c,.slice At t.length ct] W fun e w'=>e=.returned (.bool (O3 m t))/\Below W W w':=fun W hB=>Sr m A At c ct t W (hS.below hB) fun s hs=>(hh s hs).2.1
 have pW:∀W,Below w w W->Calls Tryz.prog 27 #[.slice Ax x.length cx] W fun e w'=>e=.returned (.bool (iY x))/\W=w':=fun W hB=>DT Ax cx x W (hX.below hB)
 have pU:∀W,Below w w W->Calls Tryz.prog 27 #[.slice Ay y.length cy] W fun e w'=>e=.returned (.bool (iY y))/\W=w':=fun W hB=>DT Ay cy y W (hY.below hB)
 have hLen:x.length<=6\/6<x.length:=by omega
 have aFu:y.length<=6\/6<y.length:=by omega
 by_cases WO:O3 m t=false/\x.length<=6/\y.length<=6/\iY x=true/\iY y=true
 ·obtain⟨gL,gX,gY,gW,gU⟩:=WO
  obtain⟨l5,l20,l30⟩:=Rc gL;have hsw:=Q6 hh l20;rw[gL]at pL;rw[gW]at pW;rw[gU]at pU;have d10:decide ((6:Int)<(x.length:Int))=false:=aai (by omega);have d11:decide ((6:Int)<(y.length:Int))=false:=aai (by omega);have pE:∀W,Below w w W->Calls Tryz.prog 13 #[di m A c,.slice At t.length ct] W (aC7 W (jd m t)):=fun W hB=>G6 m A At c ct t W (hT.below hB) (hS.below hB) (hV.below hB) hl (by omega) hsw.1
  have pR:∀z:Int,PG m t z=true->∀W,Below w w W->Calls Tryz.prog 30 #[di m A c,.slice At t.length ct,.int .i64 z] W fun e w'=>e=.returned (.bool true)/\Below W W w':=fun z aCE W hB=>by
   have:=SQ m A At c ct t z W (hS.below hB) (hV.below hB) l5 (by omega) hsw.1 hsw.2 l20 l30;rwa[aCE]at this
  obtain⟨u,i,hU,hU0⟩:=aEw (aC9 m x y);have pM:∀W,Below w w W->Calls Tryz.prog 32 #[di m A c,.slice Ax x.length cx,.slice Ay y.length cy] W fun e w'=>e=.returned (.tuple #[S u,.int .i64 (i:Int)])/\Below W W w':=fun W hB=>(aEp m A Ax Ay c cx cy x y W (hS.below hB) hl (by omega) hsw.1 (hX.below hB) (hY.below hB)).mono fun e w' h=>hU W e w' h
  obtain⟨mN,zN,hEl⟩:∃mN zN,jd m t=(mN,zN):=⟨_,_,rfl⟩;obtain⟨v,f,hNv,hNf⟩:=aEw (aC9 mN x y);have HC:Hid ((zN=0/\bM mN=true/\jd mN t=(mN,0)/\((aC3 t t.length=true\/f≠0\/i≠0)\/u=v))\/(zN≠0/\PG m t (zN:Int)=true)):=by
   rcases aEL (m:=m) (t:=t) with⟨hm,ht,xs,hgo,hel,hn⟩|⟨z,hel,hz,aCE⟩
   ·rw[hEl]at hel
    injection hel with h1 h2
    subst h1 h2;refine aam ⟨rfl,hn,aEK hm ht hgo,?_⟩;by_cases h1:aC3 t t.length=true
    ·exact aam (aam h1)
    by_cases h2:f=0
    ·by_cases h3:i=0
     ·exact aad (aED hm (aEE (by simpa using h1)) hgo (hU0 h3) (hNf h2))
     ·exact aam (aad (aad h3))
    ·exact aam (aad (aam h2))
   ·rw[hEl]at hel
    injection hel with h1 h2
    subst h1 h2;exact aad ⟨hz,aCE⟩
  have pN:bM mN=true->∀(An:Option Addr) cn W,Below w w W->dY W An mN.states->(Calls Tryz.prog 32 #[di mN An cn,.slice Ax x.length cx,.slice Ay y.length cy] W fun e w'=>e=.returned (.tuple #[S v,.int .i64 (f:Int)])/\Below W W w')/\(jd mN t=(mN,0)->Calls Tryz.prog 13 #[di mN An cn,.slice At t.length ct] W (aC7 W (mN,0))):=fun hn An cn W hB h1=>by
   obtain⟨-,k2,k3,-,-⟩:=kV.1 hn;have e1:mN.states.length<=140737488355328:=by have:=k2.2.1;omega
   have e2:mN.lead.length<=9223372036854775807:=by have:=Mr (Pv k3).1;omega
   refine⟨(aEp mN An Ax Ay cn cx cy x y W h1 e1 e2 (Sy hn) (hX.below hB) (hY.below hB)).mono fun e w' h=>hNv W e w' h,fun he=>?_⟩;have:=G6 mN An At cn ct t W (hT.below hB) h1 (hV.below hB) e1 e2 (Sy hn);rwa[he]at this
  have HF:Hid (∀q,(h:q<t.length)->aC3 t (q+1)=(aC3 t q||(bR t[q]).isSome)):=fun q h=>aEF h
  have HV:=Pd hV;rw[hEl]at pE;clear hLen aFu hS hl Uu hh hV hX hN hY hM gL gX gY gW gU l5 l20 hsw hU hU0 hNv hNf hEl;have HN:=Pd pN;have HR:=Pd pR;have HM:=Pd pM;clear pN pR pM;unfold aC7 at pE HN;simp only at pE HN;unfold di at*;obtain⟨kd,st,ld,ss⟩:=m;obtain⟨kn,sn,ln,xs⟩:=mN;simp only at*;have TJ:∃L:ByteArray,S ld=.string L:=⟨_,rfl⟩;have hLn:∃L:ByteArray,S ln=.string L:=⟨_,rfl⟩;generalize S ld=X1 at*;generalize S ln=X2 at*;obtain⟨Ld,rfl⟩:=TJ;obtain⟨Ln,rfl⟩:=hLn;obtain⟨o,ho⟩:∃o:Obj,o=.cells #[.int .i64 kd,.int .i64 st,.string Ld,.slice A ss.length c] 30:=⟨_,rfl⟩;have g0:=aaq w o;have hb0:=(aac w.heap.size w).alloc (Pe _) o;obtain⟨W1,hW1⟩:∃W1,W1=w.alloc o:=⟨_,rfl⟩;rw[<-hW1]at g0 hb0;rw[ho]at g0 hW1;clear ho;obtain⟨q0,q1,q2,q3⟩:=OO g0;go_enter afh,Tryz.ntmps10;go_upto_region 1 with(fail)
  rw[<-hW1];clear hW1;have pL1:=pL W1 hb0;clear pL;go_wp2_with (first|(go_at_call 26;refine pL1.mono ?_;rintro e w3 ⟨rfl,hb3⟩;have hB3:=ae hb0 hb3)|(go_at_call_of 27 (Value.slice Ax x.length cx);refine(pW _ hB3).mono ?_;rintro e w5 ⟨rfl,rfl⟩)|(go_at_call 27;refine(pU _ hB3).mono ?_;rintro e w6 ⟨rfl,rfl⟩));have g3:=(hb3.block _ (aga g0)).trans g0;clear pL1 pW pU q0 q1 q2 q3 g0 hb0 hb3
  go_loopw [9,10] (fun a i wr=>∃(q:Nat),i=.int .i64 q/\q<=t.length/\a=.bool (aC3 t q)/\Below w3 w3 wr) (fun _ i _=>t.length-(intOf i).toNat)
  case atStart=>exact⟨0,rfl,by omega,rfl,aac _ _⟩
  case round=>
   obtain⟨q,rfl,hq,rfl,hB⟩:=hrel;have hBw:=ae hB3 hB;have gr:=(hB.block _ (aga g3)).trans g3;by_cases hlt:q<t.length
   ·obtain⟨b,o,rfl,hbl,hc⟩:=row_of HV.out hlt
    have HE:=Pd (HF.out q hlt);generalize aC3 t q=a at*;generalize t[q]=z at*;obtain⟨Z,hZ⟩:∃Z:ByteArray,(⟨z.toArray⟩:ByteArray)=Z:=⟨_,rfl⟩;have Un:z=Z.data.toList:=by rw[<-hZ]
    have k0:=(hBw.cell (p:=⟨b,o+q,none⟩) hbl).trans (hc.trans (by rw[S,hZ]));subst Un;have pP:=lM Z wr (hT.below hBw);unfold ma kR S at pP;generalize (bR Z.data.toList).isSome=pb at*;generalize (bR Z.data.toList).getD dX=ff at*;have i0:(0:Int)<=(q:Int):=by omega
    have il:(q:Int)<(t.length:Int):=(by omega);clear hc hZ pE hT d10 d11 gr hbl HC HN HR HM HF HV pK g3
    cases a
    all_goals
     go_wp2_with (first|(go_at_call 11;refine Calls.mono pP ?_;rintro e w1 ⟨rfl,hb1⟩));go_roundw
     case rel=>exact⟨q+1,by go_num,by omega,by rw[HE.out];(try rfl),hB.trans ((hb1.alloc hb1.size _).mono hB.size)⟩
     case measure=>simp[intOf];omega
   ·obtain rfl:q=t.length:=by omega
    obtain⟨r0,r1,r2,r3⟩:=OO gr;have pEr:=pE wr hBw;clear HF HV hT d10 d11 pE hlt hq;generalize aC3 t t.length=a at*;go_upto_region 10 with(first|(go_at_call 13;refine pEr.mono ?_;rintro e w7 ⟨An,cn,rfl,hS7,Vn⟩))
    obtain⟨o,ho⟩:∃o:Obj,o=.cells #[.int .i64 kn,.int .i64 sn,.string Ln,.slice An xs.length cn] 30:=⟨_,rfl⟩;have Vl:=(ae hBw Vn).alloc (ae hBw Vn).size o;have g7:=((Vn.alloc Vn.size o).block _ (aga gr)).trans gr;have k7:=aaq w7 o;have hS7:=hS7.below ((aac w7.heap.size w7).alloc (Pe _) o);obtain⟨b7,YD⟩:∃b7,b7=w7.heap.size:=⟨_,rfl⟩;obtain⟨W7,hW7⟩:∃W7,W7=w7.alloc o:=⟨_,rfl⟩;rw[<-hW7]at Vl g7 k7 hS7;rw[<-YD]at k7;rw[ho]at hW7 k7;rw[<-hW7,<-YD];clear ho;obtain⟨q70,q71,q72,q73⟩:=OO g7;obtain⟨k70,k71,k72,k73⟩:=OO k7;clear hW7 YD Vn pEr r0 r1 r2 r3 gr g3 hB;have nz:∀(a:Nat),a≠0->((a:Int) != 0)=true/\((a:Int)==0)=false:=fun a h=>by constructor<;>simp<;>omega
    have ze:∀(a:Nat),a=0->((a:Int) != 0)=false/\((a:Int)==0)=true:=fun a h=>by subst h;constructor<;>rfl
    rcases HC.out with⟨z0,hn,hel,aFs⟩|⟨z1,aCE⟩
    rotate_left
    ·obtain⟨na,nb⟩:=nz zN z1
     have pR7:=HR.out _ aCE W7 Vl;clear HC HN HR HM nz ze aCE z1;go_wp2_with (first|(go_at_call 30;refine pR7.mono ?_;rintro e w8 ⟨rfl,Zv⟩;have hB8:=ae Vl Zv)|(go_at_call 17;refine(pK _ hB8).mono ?_;rintro e w9 ⟨rfl,Xv⟩));go_returns;exact⟨rfl,ae hB8 Xv⟩
    subst z0;by_cases XQ:60<xs.length
    ·have d60:decide ((60:Int)<(xs.length:Int))=true:=aaA (by omega)
     clear XQ HC HN HR HM nz ze aFs;go_wp2_with (first|(go_at_call 17;refine(pK _ Vl).mono ?_;rintro e w9 ⟨rfl,Xv⟩));go_returns;exact⟨rfl,ae Vl Xv⟩
    have d60:decide ((60:Int)<(xs.length:Int))=false:=aai (by omega);have pE7:=(HN.out hn An cn W7 Vl hS7).2 hel;clear XQ;go_upto_region 13 with(first|(go_at_call 13;refine pE7.mono ?_;rintro e w8 ⟨Ak,ck,rfl,hS8,Zv⟩))
    obtain⟨o,ho⟩:∃o:Obj,o=.cells #[.int .i64 kn,.int .i64 sn,.string Ln,.slice Ak xs.length ck] 30:=⟨_,rfl⟩;have aB9:=Zv.alloc Zv.size o;have hB8:=ae Vl aB9;have g8:=(aB9.block _ (aga g7)).trans g7;have k8:=(aB9.block _ (aga k7)).trans k7;have j8:=aaq w8 o;have hS8:=hS8.below ((aac w8.heap.size w8).alloc (Pe _) o);obtain⟨b8,aFF⟩:∃b8,b8=w8.heap.size:=⟨_,rfl⟩;obtain⟨W8,hW8⟩:∃W8,W8=w8.alloc o:=⟨_,rfl⟩;rw[<-hW8]at hB8 g8 k8 j8 hS8 aB9;rw[<-aFF]at j8;rw[ho]at hW8 j8;rw[<-hW8,<-aFF];clear ho;have aF1:=hS7.below aB9;obtain⟨q80,q81,q82,q83⟩:=OO g8;obtain⟨k80,k81,k82,k83⟩:=OO k8;obtain⟨j80,j81,j82,j83⟩:=OO j8;have pN8:=(HN.out hn An cn W8 hB8 aF1).1;clear hW8 aFF Zv pE7 q70 q71 q72 q73 k70 k71 k72 k73 hel d60 hS7 aB9 aF1;go_upto_region 16 with(first|(go_at_call 32;refine pN8.mono ?_;rintro e w9 ⟨rfl,Xv⟩))
    have V8:=ae hB8 Xv;have g9:=(Xv.block _ (aga g8)).trans g8;have j9:=(Xv.block _ (aga j8)).trans j8;obtain⟨q90,q91,q92,q93⟩:=OO g9;obtain⟨j90,j91,j92,j93⟩:=OO j9;have pN9:=(HN.out hn Ak ck w9 V8 (hS8.below Xv)).1;clear pN8 q80 q81 q82 q83 k80 k81 k82 k83 j80 j81 j82 j83 hS8;go_upto_region 17 with(first|(go_at_call 32;refine pN9.mono ?_;rintro e w10 ⟨rfl,WG⟩))
    have U8:=ae V8 WG;have g10:=(WG.block _ (aga g9)).trans g9;obtain⟨q100,q101,q102,q103⟩:=OO g10;have pM10:=HM.out w10 U8;clear pN9 q90 q91 q92 q93 j90 j91 j92 j93 HN HR HM HC hn;have vv:=@Qz v v rfl;have uv:=@Qz u v;unfold S at*;have hfc:(f=0/\((f:Int) != 0)=false/\((f:Int)==0)=true)\/(f≠0/\((f:Int) != 0)=true/\((f:Int)==0)=false):=by
     by_cases f0:f=0
     ·exact aam ⟨f0,ze f f0⟩
     ·exact aad ⟨f0,nz f f0⟩
    rcases hfc with⟨f0,fa,fb⟩|⟨f0,fa,fb⟩
    ·go_upto_region 20 with(first|(go_at_call 32;refine pM10.mono ?_;rintro e w11 ⟨rfl,VA⟩))
     have Uh:=ae U8 VA
     cases a with
     |true=>
      clear aFs nz ze uv f0;go_wp2_with (first|(go_at_call 17;refine(pK _ Uh).mono ?_;rintro e w12 ⟨rfl,UC⟩));go_returns;exact⟨rfl,ae Uh UC⟩
     |false=>
      by_cases i0:i=0
      ·have huv:=uv (by
        rcases aFs with(h|h|h)|h
        ·cases h
        ·exact absurd f0 h
        ·exact absurd i0 h
        ·exact h)
       obtain⟨ia,ib⟩:=ze i i0;clear aFs nz ze uv f0 i0;go_wp2_with (first|(go_at_call 17;refine(pK _ Uh).mono ?_;rintro e w12 ⟨rfl,UC⟩));go_returns;exact⟨rfl,ae Uh UC⟩
      ·obtain⟨ia,ib⟩:=nz i i0
       clear aFs nz ze uv f0 i0;go_wp2_with (first|(go_at_call 17;refine(pK _ Uh).mono ?_;rintro e w12 ⟨rfl,UC⟩));go_returns;exact⟨rfl,ae Uh UC⟩
    ·go_upto_region 20 with(first|(go_at_call 32;refine pM10.mono ?_;rintro e w11 ⟨rfl,VA⟩))
     have Uh:=ae U8 VA;clear aFs nz ze uv f0
     cases a
     all_goals
      go_wp2_with (first|(go_at_call 17;refine(pK _ Uh).mono ?_;rintro e w12 ⟨rfl,UC⟩));go_returns;exact⟨rfl,ae Uh UC⟩
 ·have hg:O3 m t=true\/(O3 m t=false/\6<x.length)\/(O3 m t=false/\x.length<=6/\6<y.length)\/(O3 m t=false/\x.length<=6/\y.length<=6/\iY x=false)\/(O3 m t=false/\x.length<=6/\y.length<=6/\iY x=true/\iY y=false):=by
   cases h1:O3 m t with
   |true=>exact aam rfl
   |false=>
    rcases hLen with h2|h2
    ·rcases aFu with h3|h3
     ·cases h4:iY x with
      |false=>exact aad (aad (aad (aam ⟨rfl,h2,h3,rfl⟩)))
      |true=>
       cases h5:iY y with
       |false=>exact aad (aad (aad (aad ⟨rfl,h2,h3,rfl,rfl⟩)))
       |true=>exact absurd ⟨h1,h2,h3,h4,h5⟩ WO
     ·exact aad (aad (aam ⟨rfl,h2,h3⟩))
    ·exact aad (aam ⟨rfl,h2⟩)
  clear WO hLen aFu hS hl Uu hh hV hX hN hY hM hT;generalize O3 m t=L at*;generalize iY x=Wd at*;generalize iY y=We at*;unfold di S at*;obtain⟨kd,st,ld,ss⟩:=m;simp only at*;generalize (⟨ld.toArray⟩:ByteArray)=Ld at*;obtain⟨o,ho⟩:∃o:Obj,o=.cells #[.int .i64 kd,.int .i64 st,.string Ld,.slice A ss.length c] 30:=⟨_,rfl⟩;have g0:=aaq w o;have hb0:=(aac w.heap.size w).alloc (Pe _) o;obtain⟨W1,hW1⟩:∃W1,W1=w.alloc o:=⟨_,rfl⟩;rw[<-hW1]at g0 hb0;rw[ho]at g0 hW1;clear ho;obtain⟨q0,q1,q2,q3⟩:=OO g0;go_enter afh,Tryz.ntmps10;go_upto_region 1 with(fail)
  rw[<-hW1];clear hW1;have pL1:=pL W1 hb0;clear pL;have hx1:∀(n:Nat),n<=6->decide ((6:Int)<(n:Int))=false:=fun n h=>aai (by omega)
  have hx2:∀(n:Nat),6<n->decide ((6:Int)<(n:Int))=true:=fun n h=>aaA (by omega)
  rcases hg with rfl|⟨rfl,h2⟩|⟨rfl,h2,h3⟩|⟨rfl,h2,h3,rfl⟩|⟨rfl,h2,h3,rfl,rfl⟩
  all_goals
   try (first|have d10:=hx1 _ h2|have d10:=hx2 _ h2)
   try (first|have d11:=hx1 _ h3|have d11:=hx2 _ h3)
   clear hx1 hx2
   try clear h2
   try clear h3
   go_wp2_with (first|(go_at_call 26;refine pL1.mono ?_;rintro e w3 ⟨rfl,hb3⟩;have hB3:=ae hb0 hb3)|(go_at_call_of 27 (Value.slice Ax x.length cx);refine(pW _ hB3).mono ?_;rintro e w5 ⟨rfl,rfl⟩)|(go_at_call 27;refine(pU _ hB3).mono ?_;rintro e w6 ⟨rfl,rfl⟩)|(go_at_call 17;refine(pK _ hB3).mono ?_;rintro e w4 ⟨rfl,hb4⟩));go_returns;exact⟨rfl,ae hB3 hb4⟩
end Go.Proofs.YtppnecgeboonbaaGreatDoor
