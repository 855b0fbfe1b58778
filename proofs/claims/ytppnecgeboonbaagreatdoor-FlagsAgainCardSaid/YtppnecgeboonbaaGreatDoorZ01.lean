/- Walks. -/
import Derived.Test.YtppnecgeboonbaaGreatDoorZ00
import Derived.ProofKit
namespace Go.Proofs.YtppnecgeboonbaaGreatDoor.Rat3
set_option maxRecDepth 100000
set_option linter.all false
abbrev Bs:=List UInt8
def aa(b:Nat):List Nat->Nat
 |[]=>0
 |x::r=>x+b*aa b r
def qE(b:Nat)(l m:List Nat):aa b (l++m)=aa b l+b ^ l.length*aa b m:=by
 induction l with
 |nil=>simp[aa]
 |cons x r ih=>
  rw[abZ];simp only[aa,aaF];rw[ih,aaL,abl,<-aa6,aaR b (b ^ r.length),acV]
def nD(b:Nat)(l:List Nat)(x:Nat):aa b (l++[x])=aa b l+b ^ l.length*x:=by
 rw[qE];simp[aa]
def jN{b:Nat}{l:List Nat}(h:∀x∈l,x<b):aa b l<b ^ l.length:=by
 induction l with
 |nil=>simp[aa]
 |cons x r ih=>
  have hx:=h x aal;have hr:=ih fun y hy=>h y (aaj _ hy)
  simp only[aa,aaF,abl];have:b*aa b r+b<=b*b ^ r.length:=by
   rw[<-Nat.mul_succ];exact abn b hr
  rw[aaR (b ^ r.length) b];omega
def Canon(l:List Nat):Prop:=∀x,l.getLast? = some x->x≠0
def Canon.nil:Canon []:=fun x h=>by simp at h
def Canon.tail{x:Nat}{r:List Nat}(h:Canon (x::r)):Canon r:=by
 intro y hy
 cases r with
 |nil=>simp at hy
 |cons a r=>exact h y (by rw[ael];exact hy)
def za{b:Nat}(hb:0<b){l:List Nat}(hc:Canon l)(hne:l≠[]):0<aa b l:=by
 induction l with
 |nil=>exact absurd rfl hne
 |cons x r ih=>
  simp only[aa]
  cases r with
  |nil=>
   have:=hc x (by simp);omega
  |cons a r=>
   have:=ih hc.tail (by simp);have:0<b*aa b (a::r):=Nat.mul_pos hb this;omega
def qb(b:Nat):Nat->Nat->List Nat
 |0,_=>[]
 |k+1,n=>if n=0 then [] else n%b::qb b k (n/b)
def ek(b n:Nat):List Nat:=qb b n n
theorem xE{b:Nat}(hb:2<=b):∀(k n:Nat),n<=k->qb b k n=qb b n n
 |0,n,h=>by obtain rfl:n=0:=by omega
            rfl
 |k+1,0,h=>rfl
 |k+1,n+1,h=>by
  have hd:(n+1)/b<=n:=by
   have:=afZ (n:=n+1) (k:=b) (by omega) (by omega);omega
  show(if n+1=0 then [] else (n+1)%b::qb b k ((n+1)/b))=(if n+1=0 then [] else (n+1)%b::qb b n ((n+1)/b));rw[xE hb k _ (by omega),xE hb n _ hd]
def Gm(b:Nat):ek b 0=[]:=rfl
def mE{b n:Nat}(hb:2<=b)(hn:n≠0):ek b n=n%b::ek b (n/b):=by
 obtain⟨m,rfl⟩:∃m,n=m+1:=⟨n-1,by omega⟩;have hd:(m+1)/b<=m:=by
  have:=afZ (n:=m+1) (k:=b) (by omega) (by omega);omega
 show(if m+1=0 then [] else (m+1)%b::qb b m ((m+1)/b))=_;rw[aab hn,xE hb m _ hd];rfl
def xH{P:Nat->Prop}{b:Nat}(hb:2<=b)(h0:P 0)(h1:∀n,n≠0->P (n/b)->P n)(n:Nat):P n:=by
 induction n using Nat.strongRecOn with
 |ind n ih=>
  by_cases hn:n=0
  ·rw[hn];exact h0
  ·exact h1 n hn (ih _ (afZ (by omega) (by omega)))
def wQ{b:Nat}(hb:2<=b)(n:Nat):aa b (ek b n)=n:=by
 induction n using xH hb with
 |h0=>rfl
 |h1 n hn ih=>rw[mE hb hn];simp only[aa];rw[ih];exact abt n b
def tX{b:Nat}(hb:2<=b)(n:Nat):∀x∈ek b n,x<b:=by
 induction n using xH hb with
 |h0=>intro x hx;cases hx
 |h1 n hn ih=>
  intro x hx;rw[mE hb hn]at hx;rcases aay.1 hx with rfl|hx
  ·exact abR _ (by omega)
  ·exact ih x hx
def xI{b:Nat}(hb:2<=b){l:List Nat}(h:∀x∈l,x<b)(hc:Canon l):ek b (aa b l)=l:=by
 induction l with
 |nil=>rfl
 |cons x r ih=>
  have hx:=h x aal;have hp:=za (b:=b) (by omega) hc (by simp);rw[mE hb (by omega)];simp only[aa];rw[Nat.add_mul_mod_self_left,adn hx,Nat.add_mul_div_left _ _ (by omega),acF hx,aaP,ih (fun y hy=>h y (aaj _ hy)) hc.tail]
def xG{b:Nat}(hb:2<=b)(n:Nat):Canon (ek b n):=by
 induction n using xH hb with
 |h0=>exact Canon.nil
 |h1 n hn ih=>
  rw[mE hb hn];intro y hy;by_cases hq:n/b=0
  ·rw[hq,Gm]at hy
   simp at hy;have:=abt n b;rw[hq]at this;omega
  ·rw[mE hb hq,ael,<-mE hb hq]at hy
   exact ih y hy
def aV:List Nat->List Nat
 |[]=>[]
 |x::r=>if aV r=[]/\x=0 then [] else x::aV r
theorem yU(b:Nat):∀l:List Nat,aa b (aV l)=aa b l
 |[]=>rfl
 |x::r=>by
  have ih:=yU b r;unfold aV;by_cases h:aV r=[]/\x=0
  ·rw[aaa h]
   rw[h.1]at ih;simp only[aa]at ih ⊢;rw[<-ih,h.2];simp
  ·rw[aab h];simp only[aa];rw[ih]
def Et{l:List Nat}{P:Nat->Prop}(h:∀x∈l,P x):∀x∈aV l,P x:=by
 induction l with
 |nil=>exact h
 |cons a r ih=>
  intro x hx;unfold aV at hx
  split at hx
  ·cases hx
  ·rcases aay.1 hx with rfl|hx
   ·exact h _ aal
   ·exact ih (fun y hy=>h y (aaj _ hy)) x hx
theorem Es:∀l:List Nat,Canon (aV l)
 |[]=>Canon.nil
 |x::r=>by
  have ih:=Es r;unfold aV;by_cases h:aV r=[]/\x=0
  ·rw[aaa h];exact Canon.nil
  ·rw[aab h]
   intro y hy
   cases ht:aV r with
   |nil=>
    rw[ht]at hy h;simp at hy;subst hy;exact fun e=>h ⟨rfl,e⟩
   |cons a m=>
    rw[ht,ael]at hy;exact ih y (by rw[ht];exact hy)
def qC{b:Nat}(hb:2<=b){l:List Nat}(h:∀x∈l,x<b):aV l=ek b (aa b l):=by
 rw[<-yU b l,xI hb (Et h) (Es l)]
theorem Eu:∀l:List Nat,aV (l++[0])=aV l
 |[]=>by simp[aV]
 |x::r=>by
  rw[abZ];unfold aV;rw[Eu r]
def NW{l:List Nat}{x:Nat}(h:x≠0):aV (l++[x])=l++[x]:=by
 induction l with
 |nil=>simp[aV,h]
 |cons a r ih=>
  rw[abZ];unfold aV;rw[ih,aab (by simp)]
def Od{b:Nat}{l m:List Nat}(hlen:l.length=m.length)(hl:∀x∈l,x<b){j:Nat}(hj:j<l.length)(hd:l.drop (j+1)=m.drop (j+1))(hlt:l[j]<m[j]'(by omega)):aa b l<aa b m:=by
 have e1:l=l.take j++l[j]::l.drop (j+1):=by rw[<-aat hj,aaY]
 have e2:m=m.take j++m[j]'(by omega)::m.drop (j+1):=by rw[<-aat (by omega),aaY]
 rw[e1,e2,qE,qE];simp only[aa];have h1:(l.take j).length=j:=by rw[aaI];omega
 have h2:(m.take j).length=j:=by rw[aaI];omega
 have h3:=jN (b:=b) (l:=l.take j) fun x hx=>hl x (ach hx)
 rw[h1]at h3;rw[h1,h2,<-hd];generalize aa b (l.drop (j+1))=D;have:b ^ j*(l[j]+b*D)+b ^ j<=b ^ j*(m[j]'(by omega)+b*D):=by
  rw[<-Nat.mul_succ];exact abn _ (by omega)
 omega
def Oc{b:Nat}(hb:2<=b){l m:List Nat}(hl:∀x∈l,x<b)(hm:Canon m)(hlen:l.length<m.length):aa b l<aa b m:=by
 have h1:=jN hl;have hne:m≠[]:=by intro e;rw[e]at hlen;simp at hlen
 have e:m=m.dropLast++[m.getLast hne]:=(afb hne).symm;have hz:m.getLast hne≠0:=hm _ (ae7 hne);rw[e,nD];have h2:m.dropLast.length=m.length-1:=by simp
 rw[h2];have h3:b ^ l.length<=b ^ (m.length-1):=acj (by omega) (by omega);have h4:b ^ (m.length-1)*1<=b ^ (m.length-1)*m.getLast hne:=abn _ (by omega);omega
def iD{b:Nat}(hb:2<=b)(n k:Nat):(ek b n).length<=k↔n<b ^ k:=by
 constructor
 ·intro h
  have h1:=jN (tX hb n);rw[wQ hb]at h1;exact aah h1 (acj (by omega) h)
 ·intro h
  rcases aaz k (ek b n).length with hk|hk
  ·exfalso
   have hne:ek b n≠[]:=by intro e;rw[e]at hk;simp at hk
   have e:ek b n=(ek b n).dropLast++[(ek b n).getLast hne]:=(afb hne).symm;have hz:(ek b n).getLast hne≠0:=xG hb n _ (ae7 hne);have hv:=wQ hb n;rw[e,nD]at hv;have h2:(ek b n).dropLast.length=(ek b n).length-1:=by simp
   rw[h2]at hv;have h3:b ^ k<=b ^ ((ek b n).length-1):=acj (by omega) (by omega);have h4:b ^ ((ek b n).length-1)*1<=b ^ ((ek b n).length-1)*(ek b n).getLast hne:=abn _ (by omega);omega
  ·exact hk
def cz(c:UInt8):Bool:=decide (48<=c.toNat)&&decide (c.toNat<=57)
def lJ(c:UInt8):cz c=true↔48<=c.toNat/\c.toNat<=57:=by simp[cz]
def dv(c:UInt8):Nat:=c.toNat-48
def dc(d:Nat):UInt8:=UInt8.ofNat (48+d)
def oJ{d:Nat}(h:d<10):(dc d).toNat=48+d:=by
 unfold dc;rw[UInt8.toNat_ofNat'];omega
def xK{d:Nat}(h:d<10):dv (dc d)=d:=by unfold dv;rw[oJ h];omega
def tK{c:UInt8}(h:cz c=true):dc (dv c)=c:=by
 rw[lJ]at h;apply abz.1;rw[oJ (by unfold dv;omega)];unfold dv;omega
def xV{d:Nat}(h:d<10):cz (dc d)=true:=by rw[lJ,oJ h];omega
def qc{c:UInt8}(h:cz c=true):dv c<10:=by rw[lJ]at h;unfold dv;omega
def ag(l:Bs):Nat:=aa 10 (l.map dv).reverse
def tT:ag []=0:=rfl
def mD(a b:Bs):ag (a++b)=ag b+10 ^ b.length*ag a:=by
 unfold ag;rw[aa3,List.reverse_append,qE];simp
def tV(a:Bs)(c:UInt8):ag (a++[c])=10*ag a+dv c:=by
 rw[mD];simp[ag,aa];omega
def tQ{l:Bs}(h:∀c∈l,cz c=true):ag l<10 ^ l.length:=by
 have:=jN (b:=10) (l:=(l.map dv).reverse) (by
  intro x hx;rw[aeH]at hx;obtain⟨c,hc,rfl⟩:=abk.1 hx;exact qc (h c hc))
 simpa[ag]using this
def iH(l:Bs):Prop:=l≠[]/\(∀c∈l,cz c=true)/\(1<l.length->l.head? ≠ some 48)
def af(n:Nat):Bs:=if n=0 then [48] else ((ek 10 n).reverse).map dc
def tO:af 0=[48]:=rfl
def nN{n:Nat}(h:n≠0):af n=((ek 10 n).reverse).map dc:=by unfold af;rw[aab h]
def tL(n:Nat):∀c∈af n,cz c=true:=by
 intro c hc;unfold af at hc
 split at hc
 ·rw[aar.1 hc];decide
 ·obtain⟨d,hd,rfl⟩:=abk.1 hc
  exact xV (tX (by omega) n d (aeH.1 hd))
def fq(n:Nat):ag (af n)=n:=by
 by_cases h:n=0
 ·subst h;rfl
 ·rw[nN h]
  unfold ag;rw[List.map_map,<-List.map_reverse,List.reverse_reverse];have:(ek 10 n).map (dv ∘ dc)=ek 10 n:=by
   conv=>rhs;rw[<-List.map_id (ek 10 n)]
   apply List.map_congr_left;intro d hd;exact xK (tX (by omega) n d hd)
  rw[this,wQ (by omega)]
def lw(n:Nat):af n≠[]:=by
 by_cases h:n=0
 ·subst h;simp[tO]
 ·rw[nN h,mE (by omega) h];simp
def oW(n:Nat):iH (af n):=by
 refine⟨lw n,tL n,fun hl=>?_⟩;by_cases h:n=0
 ·subst h;simp[tO]at hl
 ·rw[nN h,List.head?_map,List.head?_reverse]
  intro e
  cases hx:(ek 10 n).getLast? with
  |none=>rw[hx]at e;cases e
  |some d=>
   rw[hx]at e;simp only[aba,aao]at e;have hlt:=tX (b:=10) (by omega) n d (List.mem_of_getLast? hx);have hz:=xG (b:=10) (by omega) n d hx;have:=aaw UInt8.toNat e;rw[oJ hlt]at this;have:(48:UInt8).toNat=48:=rfl;omega
def jo{l:Bs}(h:iH l):af (ag l)=l:=by
 obtain⟨hne,hd,hh⟩:=h;by_cases h0:ag l=0
 ·rw[h0,tO]
  rcases l with _|⟨c,r⟩
  ·exact absurd rfl hne
  ·rw[show c::r=[c]++r from rfl,mD]at h0
   have hc:=hd c aal;have hdc:dv c=0:=by
    have:10 ^ r.length*ag [c]=0:=by omega
    rcases Nat.mul_eq_zero.1 this with h|h
    ·have:=Nat.pow_pos (n:=r.length) (show 0<10 by omega);omega
    ·simpa[ag,aa]using h
   have hcc:c=48:=by
    rw[<-tK hc,hdc];rfl
   subst hcc
   cases r with
   |nil=>rfl
   |cons a r=>exact absurd rfl (hh (by simp))
 ·rw[nN h0]
  have hall:∀x∈(l.map dv).reverse,x<10:=by
   intro x hx;rw[aeH]at hx;obtain⟨c,hc,rfl⟩:=abk.1 hx;exact qc (hd c hc)
  have hcan:Canon (l.map dv).reverse:=by
   intro x hx;rw[List.getLast?_reverse,List.head?_map]at hx;rcases l with _|⟨c,r⟩
   ·exact absurd rfl hne
   ·simp only[adZ,aba,aao]at hx
    subst hx;have hc:=hd c aal;intro e;have hcc:c=48:=by rw[<-tK hc,e];rfl
    subst hcc
    cases r with
    |nil=>exact h0 rfl
    |cons a r=>exact hh (by simp) rfl
  unfold ag;rw[xI (by omega) hall hcan,List.reverse_reverse,List.map_map]
  conv=>rhs;rw[<-List.map_id l]
  apply List.map_congr_left;intro c hc;exact tK (hd c hc)
def kg(n k:Nat)(hk:1<=k):(af n).length<=k↔n<10 ^ k:=by
 by_cases h:n=0
 ·subst h
  have:=Nat.pow_pos (n:=k) (show 0<10 by omega);simp[tO];omega
 ·rw[nN h,aaC,List.length_reverse]
  exact iD (by omega) n k
def Aq{V x k:Nat}(hV:0<V)(hx:x<10 ^ k)(hk:1<=k):af (V*10 ^ k+x)=af V++(List.replicate (k-(af x).length) 48++af x):=by
 have hlen:=(kg x k hk).2 hx;have hz:∀n,ag (List.replicate n (48:UInt8))=0:=by
  intro n
  induction n with
  |zero=>rfl
  |succ n ih=>rw[List.replicate_succ',tV,ih];rfl
 have hv:ag (af V++(List.replicate (k-(af x).length) 48++af x))=V*10 ^ k+x:=by
  rw[mD,mD,fq,fq,hz,aas,ac7];have:k-(af x).length+(af x).length=k:=by omega
  rw[this,ado,abw,aaR,afM]
 rw[<-hv];apply jo;refine⟨by simp[lw],?_,fun hl=>?_⟩
 ·intro c hc
  rcases aaG.1 hc with hc|hc
  ·exact tL V c hc
  ·rcases aaG.1 hc with hc|hc
   ·rw[ab5 hc];decide
   ·exact tL x c hc
 ·rw[List.head?_append]
  have hne:=lw V;obtain⟨c,r,hcr⟩:∃c r,af V=c::r:=by
   cases hd:af V with
   |nil=>exact absurd hd hne
   |cons c r=>exact⟨c,r,rfl⟩
  rw[hcr];simp only[adZ,Option.some_or];intro e;injection e with e
  subst e;by_cases hr:r=[]
  ·subst hr
   have:=fq V;rw[hcr]at this;have e2:ag [48]=0:=rfl;omega
  ·have:=(oW V).2.2 (by rw[hcr];simp;exact aaM.2 hr)
   rw[hcr]at this;exact this rfl
def ah(F:Nat->Nat->Nat->Nat×Nat)(x y:List Nat):Nat->List Nat×Nat
 |0=>([],0)
 |i+1=>((ah F x y i).1++[(F (x.getD i 0) (y.getD i 0) (ah F x y i).2).1],(F (x.getD i 0) (y.getD i 0) (ah F x y i).2).2)
theorem jb(F:Nat->Nat->Nat->Nat×Nat)(x y:List Nat):∀i,(ah F x y i).1.length=i
 |0=>rfl
 |i+1=>by simp only[ah];rw[aas,jb F x y i];rfl
def cK(b:Nat)(x:List Nat)(i:Nat):aa b (x.take (i+1))=aa b (x.take i)+b ^ i*x.getD i 0:=by
 rcases aaz i x.length with h|h
 ·rw[aau h,nD]
  have e1:(x.take i).length=i:=by rw[aaI];omega
  have e2:x.getD i 0=x[i]:=by rw[aaf,aak h];rfl
  rw[e1,e2]
 ·have e2:x.getD i 0=0:=by rw[aaf,aa4 h];rfl
  rw[e2,aav h,aav (by omega)];rfl
def getD_lt{B:Nat}(hB:0<B){x:List Nat}(h:∀d∈x,d<B)(i:Nat):x.getD i 0<B:=by
 rw[aaf]
 cases hx:x[i]? with
 |none=>exact hB
 |some d=>exact h d (abC hx)
def eB{x:List Nat}{i:Nat}(h:x.length<=i):x.getD i 0=0:=by
 rw[aaf,aa4 h];rfl
def BB:Nat:=1000000000
def dN:2<=BB:=by decide
def aC:0<BB:=by decide
def dB(a b c:Nat):Nat×Nat:=((a+b+c)%BB,(a+b+c)/BB)
def dm(a b c:Nat):Nat×Nat:=((a+BB-b-c)%BB,1-(a+BB-b-c)/BB)
def dx(k a b c:Nat):Nat×Nat:=((a*k+c)%BB,(a*k+c)/BB)
theorem vY{x y:List Nat}(hx:∀d∈x,d<BB)(hy:∀d∈y,d<BB):∀i,
  aa BB (ah dB x y i).1+BB ^ i*(ah dB x y i).2=aa BB (x.take i)+aa BB (y.take i)/\(∀d∈(ah dB x y i).1,d<BB)/\(ah dB x y i).2<=1
 |0=>⟨rfl,(fun d hd=>by cases hd),aaS _⟩
 |i+1=>by
  obtain⟨h1,h2,h3⟩:=vY hx hy i;have ha:=getD_lt aC hx i;have hb:=getD_lt aC hy i;have hlen:=jb dB x y i;simp only[ah];rw[nD,hlen,cK,cK];generalize (ah dB x y i).2=c at*;generalize (ah dB x y i).1=s at*;generalize x.getD i 0=a at*;generalize y.getD i 0=b at*;refine⟨?_,?_,?_⟩
  ·unfold dB
   simp only[];have e:=abt (a+b+c) BB;have e2:BB ^ i*((a+b+c)%BB)+BB ^ (i+1)*((a+b+c)/BB)=BB ^ i*(a+b+c):=by
    rw[abl,aa6,<-aaL,e]
   rw[aaL,aaL]at e2;omega
  ·intro d hd
   rcases aaG.1 hd with hd|hd
   ·exact h2 d hd
   ·rw[aar.1 hd];exact abR _ aC
  ·unfold dB
   simp only[];have:a+b+c<2*BB:=by omega
   have:=(abS aC).2 this;omega
def Ko{x y:List Nat}(hx:∀d∈x,d<BB)(hy:∀d∈y,d<BB){n:Nat}(h1:x.length<=n)(h2:y.length<=n) :
  aa BB (ah dB x y (n+1)).1=aa BB x+aa BB y/\∀d∈(ah dB x y (n+1)).1,d<BB:=by
 obtain⟨i1,i2,i3⟩:=vY hx hy (n+1);obtain⟨_,_,j3⟩:=vY hx hy n;rw[aav (by omega),aav (by omega)]at i1;have hz:(ah dB x y (n+1)).2=0:=by
  simp only[ah];rw[eB h1,eB h2];generalize (ah dB x y n).2=c at j3 ⊢;unfold dB;simp only[];apply acF;have:=dN;omega
 rw[hz,ado,abw]at i1;exact⟨i1,i2⟩
theorem yf{x y:List Nat}(hx:∀d∈x,d<BB)(hy:∀d∈y,d<BB):∀i,
  aa BB (ah dm x y i).1+aa BB (y.take i)=aa BB (x.take i)+BB ^ i*(ah dm x y i).2/\(∀d∈(ah dm x y i).1,d<BB)/\(ah dm x y i).2<=1
 |0=>⟨rfl,(fun d hd=>by cases hd),aaS _⟩
 |i+1=>by
  obtain⟨h1,h2,h3⟩:=yf hx hy i;have ha:=getD_lt aC hx i;have hb:=getD_lt aC hy i;have hlen:=jb dm x y i;simp only[ah];rw[nD,hlen,cK,cK];generalize (ah dm x y i).2=c at*;generalize (ah dm x y i).1=s at*;generalize x.getD i 0=a at*;generalize y.getD i 0=b at*;have hd2:(a+BB-b-c)/BB<=1:=by
   have:a+BB-b-c<2*BB:=by omega
   have:=(abS aC).2 this;omega
  refine⟨?_,?_,?_⟩
  ·unfold dm
   simp only[];have e:=abt (a+BB-b-c) BB;generalize (a+BB-b-c) / BB=q at*;generalize (a+BB-b-c) % BB=r at*;have e3:r+b+c=a+BB*(1-q):=by
    rcases(show q=0\/q=1 by omega)with rfl|rfl
    ·simp;omega
    ·simp;omega
   have e4:BB ^ i*r+BB ^ i*b+BB ^ i*c=BB ^ i*a+BB ^ (i+1)*(1-q):=by
    rw[abl,aa6,<-aaL,<-aaL,<-aaL,e3]
   omega
  ·intro d hd
   rcases aaG.1 hd with hd|hd
   ·exact h2 d hd
   ·rw[aar.1 hd];exact abR _ aC
  ·unfold dm
   exact Nat.sub_le _ _
def Jf{x y:List Nat}(hx:∀d∈x,d<BB)(hy:∀d∈y,d<BB){n:Nat}(h1:x.length<=n)(h2:y.length<=n)(hle:aa BB y<=aa BB x) :
  aa BB (ah dm x y n).1=aa BB x-aa BB y/\(ah dm x y n).2=0/\∀d∈(ah dm x y n).1,d<BB:=by
 obtain⟨i1,i2,i3⟩:=yf hx hy n;rw[aav h1,aav h2]at i1;have hlt:=jN i2;rw[jb]at hlt;have hz:(ah dm x y n).2=0:=by
  rcases(show(ah dm x y n).2=0\/(ah dm x y n).2=1 by omega)with h|h
  ·exact h
  ·rw[h]at i1;omega
 rw[hz,ado,abw]at i1;exact⟨by omega,hz,i2⟩
theorem wD{x:List Nat}{k:Nat}(hx:∀d∈x,d<BB)(hk:k<=BB):∀i,
  aa BB (ah (dx k) x [] i).1+BB ^ i*(ah (dx k) x [] i).2=k*aa BB (x.take i)/\(∀d∈(ah (dx k) x [] i).1,d<BB)/\(ah (dx k) x [] i).2<BB
 |0=>⟨rfl,(fun d hd=>by cases hd),aC⟩
 |i+1=>by
  obtain⟨h1,h2,h3⟩:=wD hx hk i;have ha:=getD_lt aC hx i;have hlen:=jb (dx k) x [] i;simp only[ah];rw[nD,hlen,cK];generalize (ah (dx k) x [] i).2=c at*;generalize (ah (dx k) x [] i).1=s at*;generalize x.getD i 0=a at*;refine⟨?_,?_,?_⟩
  ·unfold dx
   simp only[];have e:=abt (a*k+c) BB;have e2:BB ^ i*((a*k+c)%BB)+BB ^ (i+1)*((a*k+c)/BB)=BB ^ i*(a*k)+BB ^ i*c:=by
    rw[abl,aa6,<-aaL,e,aaL]
   have e3:k*(BB ^ i*a)=BB ^ i*(a*k):=(by rw[adf,aaR k a]);rw[aaL,e3];omega
  ·intro d hd
   rcases aaG.1 hd with hd|hd
   ·exact h2 d hd
   ·rw[aar.1 hd];exact abR _ aC
  ·unfold dx
   simp only[];apply (abS aC).2;have:a*k<=(BB-1)*BB:=ab8 (by omega) hk;have e:(BB-1)*BB+BB=BB*BB:=by
    rw[<-Nat.succ_mul,Nat.succ_eq_add_one,Nat.sub_add_cancel (by have:=aC;omega)]
   omega
def MB{x:List Nat}{k:Nat}(hx:∀d∈x,d<BB)(hk:k<=BB){n:Nat}(h1:x.length<=n) :
  aa BB (ah (dx k) x [] (n+1)).1=k*aa BB x/\∀d∈(ah (dx k) x [] (n+1)).1,d<BB:=by
 obtain⟨i1,i2,i3⟩:=wD hx hk (n+1);obtain⟨_,_,j3⟩:=wD hx hk n;rw[aav (by omega)]at i1;have hz:(ah (dx k) x [] (n+1)).2=0:=by
  simp only[ah];rw[eB h1];generalize (ah (dx k) x [] n).2=c at j3 ⊢;unfold dx;simp only[];apply acF;omega
 rw[hz,ado,abw]at i1;exact⟨i1,i2⟩
theorem Ez{b:Nat}:∀(l:List Nat) (j v:Nat) (h:j<l.length),aa b (l.set j v)+b ^ j*l[j]=aa b l+b ^ j*v
 |[],j,v,h=>by simp at h
 |x::r,0,v,h=>by simp[aa];omega
 |x::r,j+1,v,h=>by
  have ih:=Ez (b:=b) r j v (by simpa using h);simp only[List.set_cons_succ,aa,abP,abl];have e1:b*(aa b (r.set j v)+b ^ j*r[j]'(by simpa using h))=b*(aa b r+b ^ j*v):=by rw[ih]
  rw[aaL,aaL]at e1;have e2:b ^ j*b*r[j]'(by simpa using h)=b*(b ^ j*r[j]'(by simpa using h)):=by rw[aaR (b ^ j) b,aa6]
  have e3:b ^ j*b*v=b*(b ^ j*v):=by rw[aaR (b ^ j) b,aa6]
  rw[e2,e3];omega
def AJ{Q V U v1 top P Vr:Nat}(hQ:Q*V<=U)(hV:V=v1*P+Vr)(hU:U<(top+1)*P):Q*v1<=top:=by
 have h1:Q*(v1*P)<=Q*V:=abn _ (by omega);rw[<-aa6]at h1;have h2:Q*v1*P<(top+1)*P:=by omega
 have:=afr h2;omega
def G8{Q q rest top v1 v2 u2 B:Nat}(h1:rest+q*v1=top)(h3:Q*(v1*B+v2)<=top*B+u2)(hlt:rest*B+u2<q*v2):Q<q:=by
 rcases aaz Q q with h|h
 ·exact h
 ·exfalso
  have h4:q*(v1*B+v2)<=Q*(v1*B+v2):=abu _ h;rw[aaL,<-aa6]at h4;rw[<-h1,abJ]at h3;omega
def G9{q V U v1 top P Vr rest B:Nat}(h1:rest+q*v1=top)(hV:V=v1*P+Vr)(hVr:Vr<P)(hU:top*P<=U)(hr:B<=rest)(hq:q<B):q*V<=U:=by
 have e1:q*V=q*v1*P+q*Vr:=by rw[hV,aaL,aa6]
 have e2:q*Vr<=B*P:=ab8 (by omega) (by omega);have e3:B*P<=rest*P:=abu _ hr;rw[<-h1,abJ]at hU;omega
def Ha{q V U v1 v2 u2 top P Vr rest B:Nat}(h1:rest+q*v1=top)(hV:V=(v1*B+v2)*P+Vr)(hVr:Vr<P)(hU:(top*B+u2)*P<=U)(hq:q<B)(hv:1<=v1)(ht:q*v2<=rest*B+u2):q*V<=U+V:=by
 have e1:q*V=(q*(v1*B+v2))*P+q*Vr:=by rw[hV,aaL,aa6]
 have e2:q*Vr<=B*P:=ab8 (by omega) (by omega);have e3:q*(v1*B+v2)<=top*B+u2:=by
  rw[aaL,<-aa6,<-h1,abJ];omega
 have e4:(q*(v1*B+v2))*P<=(top*B+u2)*P:=abu _ e3;have e5:B*P<=V:=by
  rw[hV];have:B<=v1*B+v2:=by
   have:=abu B hv;omega
  have:=abu P this;omega
 omega
def yh(l:Bs):Bool:=!l.isEmpty&&l.all cz&&(decide (l.length<=1)||l.head? != some 48)
def JV(l:Bs):yh l=true↔iH l:=by
 unfold yh iH
 cases l with
 |nil=>simp
 |cons c r=>
  simp only[List.isEmpty_cons,Bool.not_false,aeD,aaE,aaT,aca,aax,bne_iff_ne,ne_eq,aaF];constructor
  ·rintro⟨h1,h2⟩
   refine⟨by simp,h1,fun hl=>?_⟩;rcases h2 with h2|h2
   ·omega
   ·exact h2
  ·rintro⟨_,h1,h2⟩
   refine⟨h1,?_⟩;by_cases hl:r.length+1<=1
   ·exact aam hl
   ·exact aad (h2 (by omega))
def aj(l:Bs):Bool:=yh l&&decide (l.length<=1000)
def iG(l:Bs):aj l=true↔iH l/\l.length<=1000:=by unfold aj;rw[aaE,JV,aax]
def blk(n:Nat):List Nat:=ek BB n
def aCp(n:Nat):∀d∈blk n,d<BB:=tX dN n
def gM(n:Nat):aa BB (blk n)=n:=wQ dN n
def xw(n:Nat):Canon (blk n):=xG dN n
def zM:blk 0=[]:=rfl
def nK{n:Nat}(h:n≠0):blk n≠[]:=by unfold blk;rw[mE dN h];simp
def bZ(m n:Nat):Int:=if m<n then -1 else if m=n then 0 else 1
def zo(k:Nat):BB ^ k=10 ^ (9*k):=by
 show(1000000000:Nat) ^ k=_;rw[show(1000000000:Nat)=10 ^ 9 from rfl,<-Nat.pow_mul]
def FL{n k:Nat}(hk:1<=k)(h:(af n).length<=9*k):(blk n).length<=k:=
 (iD dN n k).2 (by rw[zo];exact(kg n (9*k) (by omega)).1 h)
def mR{l:Bs}(h:aj l=true):(blk (ag l)).length<=112:=by
 obtain⟨h1,h2⟩:=(iG l).1 h;apply FL (by omega);rw[jo h1];omega
def xC(a b:Nat):(af (a*b)).length<=(af a).length+(af b).length:=by
 have ha:=(kg a _ (aaM.2 (lw a))).1 (Pe _);have hb:=(kg b _ (aaM.2 (lw b))).1 (Pe _);apply (kg _ _ (by have:=aaM.2 (lw a);omega)).2;rw[afg];exact afQ ha hb
def F7(a b k:Nat)(hk:1<=k)(ha:(af a).length<=k)(hb:(af b).length<=k):(af (a+b)).length<=k+1:=by
 have ha:=(kg a k hk).1 ha;have hb:=(kg b k hk).1 hb;apply (kg _ _ (by omega)).2;rw[abl];omega
def tN{a b:Nat}(h:a<=b):(af a).length<=(af b).length:=by
 have hb:=(kg b _ (aaM.2 (lw b))).1 (Pe _);exact(kg a _ (aaM.2 (lw b))).2 (by omega)
def jv(n:Nat):Bs×Nat:=if 1000<(af n).length then ([],2) else (af n,0)
def mK(a b:Bs):Bs×Nat:=if aj a=true/\aj b=true then jv (ag a+ag b) else ([],1)
def jT(a b:Bs):Bs×Nat:=if aj a=true/\aj b=true then (if ag a<ag b then ([],4) else (af (ag a-ag b),0)) else ([],1)
def mO(a b:Bs):Bs×Nat:=if aj a=true/\aj b=true then jv (ag a*ag b) else ([],1)
def oV(a b:Bs):Bs×Bs×Nat:=if aj a=true/\aj b=true then (if ag b=0 then ([],[],4) else (af (ag a/ag b),af (ag a%ag b),0)) else ([],[],1)
def z8(a b:Bs):Bs×Nat:=if aj a=true/\aj b=true then (af (Nat.gcd (ag a) (ag b)),0) else ([],1)
def mM(a b:Bs):Int:=if aj a=true/\aj b=true then bZ (ag a) (ag b) else 0
def Gc{l:Bs}{k:Nat}(h:∀c∈l,cz c=true)(hk:k<=l.length):ag l=ag (l.drop k)+10 ^ (l.length-k)*ag (l.take k):=by
 conv=>lhs;rw[<-aaY k l,mD,aaH]
def aEH{V:Nat}{a:Bs}{L:List Nat}(hd:∀c∈a,cz c=true)(hV:V=aa BB L+BB ^ L.length*ag a)(hL:∀d∈L,d<BB)(hne:a≠[]) :
  V=aa BB (L++[ag (a.drop (a.length-9))])+BB ^ (L++[ag (a.drop (a.length-9))]).length*ag (a.take (a.length-9))/\(∀d∈L++[ag (a.drop (a.length-9))],d<BB)/\(∀c∈a.take (a.length-9),cz c=true):=by
 have hdd:∀c∈a.drop (a.length-9),cz c=true:=fun c hc=>hd c (abV hc)
 have hlt:=tQ hdd;rw[aaH]at hlt;have hle:10 ^ (a.length-(a.length-9))<=10 ^ 9:=acj (by omega) (by omega);refine⟨?_,?_,fun c hc=>hd c (ach hc)⟩
 ·rw[hV,nD,aas,aeL,abl,acV,aa6,<-aaL]
  congr 2;rcases aaz a.length 9 with h9|h9
  ·have e:a.length-9=0:=by omega
   rw[e,abj,ab7,tT];omega
  ·have:=Gc hd (k:=a.length-9) (by omega)
   have e:a.length-(a.length-9)=9:=(by omega);rw[e]at this;exact this
 ·intro d hd'
  rcases aaG.1 hd' with hd'|hd'
  ·exact hL d hd'
  ·rw[aar.1 hd']
   exact aah hlt hle
def NR{l:List Nat}(hl:∀d∈l,d<BB)(hc:Canon l){j:Nat}(hj:j+1<l.length) :
  af (aa BB (l.drop j))=af (aa BB (l.drop (j+1)))++(List.replicate (9-(af (l[j]'(by omega))).length) 48++af (l[j]'(by omega))):=by
 have hpos:0<aa BB (l.drop (j+1)):=by
  apply za aC
  ·intro x hx
   rw[List.getLast?_drop,aab (by omega)]at hx;exact hc x hx
  ·intro e
   have:=aaw List.length e;rw[aaH,abG]at this;omega
 rw[aat (show j<l.length by omega)];have e:aa BB (l[j]::l.drop (j+1))=aa BB (l.drop (j+1))*10 ^ 9+l[j]:=by
  show l[j]+BB*aa BB (l.drop (j+1))=_;rw[aaR BB,afM];rfl
 rw[e];exact Aq hpos (hl _ (aag _)) (by omega)
def zX{m n:Nat}(h:(blk m).length<(blk n).length):m<n:=by
 have:=Oc dN (aCp m) (xw n) h;rwa[gM,gM]at this
def zZ{m n:Nat}(hlen:(blk m).length=(blk n).length){j:Nat}(hj:j<(blk m).length)(hd:(blk m).drop (j+1)=(blk n).drop (j+1))(hlt:(blk m)[j]<(blk n)[j]'(by omega)):m<n:=by
 have:=Od hlen (aCp m) hj hd hlt;rwa[gM,gM]at this
def lu{m n:Nat}(h:m<n):bZ m n=-1:=by unfold bZ;rw[aaa h]
def qV{m n:Nat}(h:n<m):bZ m n=1:=by unfold bZ;rw[aab (by omega),aab (by omega)]
def vg{m n:Nat}(h:m=n):bZ m n=0:=by unfold bZ;rw[aab (by omega),aaa h]
def nL(m n:Nat):bZ m n<0↔m<n:=by
 unfold bZ
 split
 ·simp_all
 ·split<;>simp_all
def Jr{b:Nat}(hb:0<b){L:List Nat}{i k q xi yk V0 Y Y':Nat}(hlt:i+k<L.length)(h:aa b L+b ^ (i+k)*q=V0+b ^ i*(xi*Y))(hY:Y'=Y+b ^ k*yk) :
  aa b (L.set (i+k) ((L[i+k]+q+xi*yk)%b))+b ^ (i+k+1)*((L[i+k]+q+xi*yk)/b)=V0+b ^ i*(xi*Y'):=by
 have e:=Ez (b:=b) L (i+k) ((L[i+k]+q+xi*yk)%b) hlt;have e1:=abt (L[i+k]+q+xi*yk) b;have e2:b ^ (i+k)*((L[i+k]+q+xi*yk)%b)+b ^ (i+k+1)*((L[i+k]+q+xi*yk)/b)=b ^ (i+k)*L[i+k]+b ^ (i+k)*q+b ^ (i+k)*(xi*yk):=by
  rw[abl,aa6,<-aaL,e1,aaL,aaL]
 have e3:b ^ i*(xi*Y')=b ^ i*(xi*Y)+b ^ (i+k)*(xi*yk):=by
  rw[hY,aaL,aaL];congr 1;rw[afg,adf xi,aa6]
 rw[e3];generalize aa b (L.set (i+k) ((L[i+k]+q+xi * yk) % b))=S at*;omega
def BZ{b:Nat}(hb:0<b){L:List Nat}{i k j q xi yk V0 Y Y':Nat}(hj:i+k=j)(hlt:j<L.length)(h:aa b L+b ^ (i+k)*q=V0+b ^ i*(xi*Y))(hY:Y'=Y+b ^ k*yk) :
  aa b (L.set j ((L[j]+q+xi*yk)%b))+b ^ (i+(k+1))*((L[j]+q+xi*yk)/b)=V0+b ^ i*(xi*Y'):=by
 subst hj;rw[<-acV];exact Jr hb hlt h hY
def jY{L:List Nat}{b j v:Nat}(h:∀d∈L,d<b)(hv:v<b):∀d∈L.set j v,d<b:=by
 intro d hd;rcases ab0 hd with hd|hd
 ·exact h d hd
 ·rw[hd];exact hv
def BX{b:Nat}(hb:0<b){x y:List Nat}(hx:∀d∈x,d<b)(hy:∀d∈y,d<b){i q S:Nat}(hi:i<x.length)(h:S+b ^ (i+(y.length+1))*q=aa b (x.take i)*aa b y+b ^ i*(x[i]*aa b y)) :
  q=0/\S=aa b (x.take (i+1))*aa b y:=by
 have e:aa b (x.take (i+1))*aa b y=aa b (x.take i)*aa b y+b ^ i*(x[i]*aa b y):=by
  rw[cK,abJ,aa6];congr 3;rw[aaf,aak hi];rfl
 rw[<-e]at h;have h1:=jN (b:=b) (l:=x.take (i+1)) fun d hd=>hx d (ach hd)
 have h2:=jN hy;rw[aaI,show min (i+1) x.length=i+1 by omega]at h1;have h3:aa b (x.take (i+1))*aa b y<b ^ (i+(y.length+1)):=by
  rw[show i+(y.length+1)=(i+1)+y.length by omega,afg];exact afQ h1 h2
 have hq:q=0:=by
  rcases abE q with hq|hq
  ·exact hq
  ·have:=abn (b ^ (i+(y.length+1))) hq
   omega
 subst hq;exact⟨rfl,by omega⟩
def EB(b n:Nat):aa b (List.replicate n 0)=0:=by
 induction n with
 |zero=>rfl
 |succ n ih=>rw[adX];simp only[aa];rw[ih];rfl
def EM{a q x y:Nat}(ha:a<BB)(hq:q<BB)(hx:x<BB)(hy:y<BB):x*y<=999999999*999999999/\(a+q+x*y)/BB<BB:=by
 have h:x*y<=999999999*999999999:=ab8 (by unfold BB at hx;omega) (by unfold BB at hy;omega);refine⟨h,(abS aC).2 ?_⟩;unfold BB at*;omega
def NM{T:List Nat}{i v:Nat}:(T.set i v).take i=T.take i:=by
 apply adm
 ·simp
 ·intro j h1 h2
  simp only[aaI,abh]at h1;rw[acS,acS,aco (by omega)]
def nE{b:Nat}{T:List Nat}{i v:Nat}(h:i<T.length):aa b ((T.set i v).take (i+1))=aa b (T.take i)+b ^ i*v:=by
 rw[cK,NM];congr 2;rw[aaf,af5 h];rfl
def ig{L:List Nat}{o i v:Nat}:(L.set (o+i) v).drop o=(L.drop o).set i v:=by
 apply adm
 ·simp
 ·intro j h1 h2
  rw[ade,List.getElem_set,List.getElem_set];by_cases h:i=j
  ·subst h;simp
  ·rw[aab (by omega),aab h,ade]
def ny{L:List Nat}{o i v:Nat}:(L.set (o+i) v).take o=L.take o:=by
 apply adm
 ·simp
 ·intro j h1 h2
  simp only[aaI,abh]at h1;rw[acS,acS,aco (by omega)]
def mF{T:List Nat}{i v k:Nat}(h:i<k):(T.set i v).drop k=T.drop k:=by
 apply adm
 ·simp
 ·intro j h1 h2
  rw[ade,ade,aco (by omega)]
def uN{b i q X Vi Ui bo ca u v r p bo':Nat}(h:X+q*Vi=Ui+b ^ i*(bo+ca))(hp:p=ca+q*v)(hr:r+p%b+bo=u+b*bo') :
  (X+b ^ i*r)+q*(Vi+b ^ i*v)=(Ui+b ^ i*u)+b ^ (i+1)*(bo'+p/b):=by
 have e:=abt p b;have e1:b ^ i*r+b ^ i*(p%b)+b ^ i*bo=b ^ i*u+b ^ (i+1)*bo':=by
  rw[abl,aa6,<-aaL,<-aaL,<-aaL,hr]
 have e2:b ^ i*(p%b)+b ^ (i+1)*(p/b)=b ^ i*ca+b ^ i*(q*v):=by
  rw[abl,aa6,<-aaL,e,hp,aaL]
 rw[aaL]at h;rw[aaL q,aaL (b ^ (i+1)),adf q];omega
def sU{b i X Vi Ui ca u v s:Nat}(h:X+b ^ i*ca=Ui+Vi)(hs:s=u+ca+v) :
  (X+b ^ i*(s%b))+b ^ (i+1)*(s/b)=(Ui+b ^ i*u)+(Vi+b ^ i*v):=by
 have e:=abt s b;have e1:b ^ i*(s%b)+b ^ (i+1)*(s/b)=b ^ i*u+b ^ i*ca+b ^ i*v:=by
  rw[abl,aa6,<-aaL,e,hs,aaL,aaL]
 omega
def Ot{b:Nat}(hb:0<b){T:List Nat}{k:Nat}(h:aa b T<b ^ k):aa b (T.take k)=aa b T/\aa b (T.drop k)=0:=by
 rcases aaz T.length k with hk|hk
 ·rw[aav (by omega),abo (by omega)];exact⟨rfl,rfl⟩
 ·have e:aa b T=aa b (T.take k)+b ^ k*aa b (T.drop k):=by
   conv=>lhs;rw[<-aaY k T,qE,aaI,ad1 hk]
  have hz:aa b (T.drop k)=0:=by
   rcases abE (aa b (T.drop k))with hz|hz
   ·exact hz
   ·have:=abn (b ^ k) hz
    omega
  rw[hz]at e;exact⟨by omega,hz⟩
def jO{b:Nat}{T:List Nat}{k:Nat}(hk:k<=T.length):aa b T=aa b (T.take k)+b ^ k*aa b (T.drop k):=by
 conv=>lhs;rw[<-aaY k T,qE,aaI,ad1 hk]
def tZ{q Q X U V:Nat}(hV:0<V)(hQ:Q=U/V)(hge:Q<=q)(h:X+q*V=U):q=Q/\X=U%V:=by
 have h1:q*V<=U:=by omega
 have h2:q<=U/V:=(Nat.le_div_iff_mul_le hV).2 h1;have hq:q=Q:=by omega
 refine⟨hq,?_⟩;have:=abt U V;rw[hq,hQ,aaR]at h;omega
def uf{q Q X U V E X' c:Nat}(hV:0<V)(hQ:Q=U/V)(h:X+q*V=U+E)(hX:X<E)(htop:q*V<=U+V)(h2:X'+E*c=X+V)(hX':X'<E)(hVE:V<=E):q=Q+1/\X'=U%V:=by
 have h0:=abt U V;have hm:=abR U hV;rw[<-hQ]at h0;have h1:U<q*V:=by omega
 have hgt:Q<q:=by
  rcases aaz Q q with hh|hh
  ·exact hh
  ·have:=abu V hh
   rw[aaR Q V]at this;omega
 have hle:q<=Q+1:=by
  rcases aaz (Q+1) q with hh|hh
  ·have h3:(Q+2)*V<=q*V:=abu V hh
   have e3:(Q+2)*V=V*Q+2*V:=by rw[abJ,aaR Q V]
   omega
  ·exact hh
 have hq:q=Q+1:=by omega
 refine⟨hq,?_⟩;have e4:q*V=V*Q+V:=by rw[hq,abJ,aaR Q V,acA]
 have h5:X'+E*c=E+U%V:=by omega
 have hc:c=1:=by
  rcases aaz c 1 with hc|hc
  ·obtain rfl:c=0:=by omega
   omega
  ·rcases aaz 1 c with hc2|hc2
   ·have:=abn E hc2
    omega
   ·omega
 rw[hc]at h5;omega
def EF{b:Nat}(T:List Nat){n:Nat}(hn:1<=n):aa b (T.take (n+1))=aa b (T.take (n-1))+b ^ (n-1)*(T.getD n 0*b+T.getD (n-1) 0):=by
 obtain⟨k,rfl⟩:∃k,n=k+1:=⟨n-1,by omega⟩;rw[cK,acK,cK,abl,aaL];have:b ^ k*b*T.getD (k+1) 0=b ^ k*(T.getD (k+1) 0*b):=by rw[aa6,aaR b]
 rw[this];omega
def EG{b:Nat}(T:List Nat){n:Nat}(hn:2<=n):aa b (T.take (n+1))=aa b (T.take (n-2))+b ^ (n-2)*((T.getD n 0*b+T.getD (n-1) 0)*b+T.getD (n-2) 0):=by
 obtain⟨k,rfl⟩:∃k,n=k+2:=⟨n-2,by omega⟩;rw[EF T (by omega)];simp only[acK,show k+2-1=k+1 from rfl];rw[cK,abl,aaL (b ^ k)];have:b ^ k*b*(T.getD (k+2) 0*b+T.getD (k+1) 0)=b ^ k*((T.getD (k+2) 0*b+T.getD (k+1) 0)*b):=by rw[aa6,aaR b]
 rw[this];omega
def zf{b:Nat}{V:List Nat}{n:Nat}(hV:V.length=n)(hn:1<=n):aa b V=V.getD (n-1) 0*b ^ (n-1)+aa b (V.take (n-1)):=by
 obtain⟨k,rfl⟩:∃k,n=k+1:=⟨n-1,by omega⟩;have:=cK b V k;rw[aav (by omega)]at this;rw[this,acK,aaR (b ^ k)];omega
def EC{b:Nat}{V:List Nat}{n:Nat}(hV:V.length=n)(hn:2<=n):aa b V=(V.getD (n-1) 0*b+V.getD (n-2) 0)*b ^ (n-2)+aa b (V.take (n-2)):=by
 obtain⟨k,rfl⟩:∃k,n=k+2:=⟨n-2,by omega⟩;rw[zf hV (by omega)];simp only[acK,show k+2-1=k+1 from rfl];rw[cK,abl,abJ,aaR (b ^ k) b,aaR (b ^ k) (V.getD k 0),aa6];omega
def jM{b:Nat}(hb:0<b){T:List Nat}(h:∀d∈T,d<b)(k:Nat):aa b (T.take k)<b ^ k:=by
 have h1:=jN (b:=b) (l:=T.take k) fun d hd=>h d (ach hd)
 exact aah h1 (acj hb (by rw[aaI];omega))
def NU{V:List Nat}{n:Nat}(hV:V.length=n)(hn:1<=n)(hc:Canon V):1<=V.getD (n-1) 0:=by
 have hl:V.getLast? = V[n-1]?:=by rw[afF,hV]
 have hlt:n-1<V.length:=by omega
 have:=hc V[n-1] (by rw[hl,aak hlt]);rw[aaf,aak hlt];show 1<=V[n-1];omega
structure EU (T V:List Nat) (n top v1 Q:Nat):Prop where
 q0:Q<=top/v1
 hv:1<=v1
 vpos:0<aa BB V
 qlt:Q<BB
 one:n=1->∀q rest,rest+q*v1=top->q*aa BB V<=aa BB (T.take (n+1))+aa BB V
 far:∀q rest,rest+q*v1=top->BB<=rest->q<BB->q*aa BB V<=aa BB (T.take (n+1))+aa BB V
 near:2<=n->∀q rest,rest+q*v1=top->q<BB->q*V.getD (n-2) 0<=rest*BB+T.getD (n-2) 0->q*aa BB V<=aa BB (T.take (n+1))+aa BB V
 down:2<=n->∀q rest,rest+q*v1=top->Q<=q->rest*BB+T.getD (n-2) 0<q*V.getD (n-2) 0->Q<q
def Oq{T V:List Nat}{n:Nat}(hV:V.length=n)(hn:1<=n)(hVl:∀d∈V,d<BB)(hT:∀d∈T,d<BB)(hc:Canon V)(hlt:aa BB (T.take (n+1))<BB*aa BB V) :
  EU T V n (T.getD n 0*BB+T.getD (n-1) 0) (V.getD (n-1) 0) (aa BB (T.take (n+1))/aa BB V):=by
 have hv1:=NU hV hn hc;have hvp:0<aa BB V:=za aC hc (by intro e;rw[e]at hV;simp at hV;omega);have e1:=EF (b:=BB) T hn;have f1:=zf (b:=BB) hV hn;have l1:=jM aC hT (n-1);have m1:=jM aC hVl (n-1);have hQ:aa BB (T.take (n+1))/aa BB V*aa BB V<=aa BB (T.take (n+1)):=Nat.div_mul_le_self _ _;have UZ:aa BB (T.take (n+1))/aa BB V<BB:=(abS hvp).2 hlt;have hU1:aa BB (T.take (n+1))<(T.getD n 0*BB+T.getD (n-1) 0+1)*BB ^ (n-1):=by
  rw[e1,abJ _ 1,acA,aaR (BB ^ (n-1))];omega
 have hU2:(T.getD n 0*BB+T.getD (n-1) 0)*BB ^ (n-1)<=aa BB (T.take (n+1)):=by
  rw[e1,aaR (BB ^ (n-1))];omega
 generalize hUe:aa BB (T.take (n+1))=Uv at*;generalize Zu:aa BB V=Vv at*;have hge:Uv/Vv*V.getD (n-1) 0<=T.getD n 0*BB+T.getD (n-1) 0:=AJ hQ f1 hU1;refine⟨(Nat.le_div_iff_mul_le hv1).2 hge,hv1,by rw[Zu];exact hvp,UZ,?_,?_,?_,?_⟩
 ·intro h1 q rest h
  subst h1;simp only[abx,Nat.pow_zero,acN,ab7]at f1 hU2;have hz:aa BB []=0:=rfl;rw[hz,abw]at f1;simp only[abx]at h;rw[hUe,Zu,f1];rw[<-h]at hU2;omega
 ·intro q rest h hr hq
  have:=G9 h f1 m1 hU2 hr hq;rw[hUe,Zu];omega
 ·intro h2 q rest h hq ht
  have e2:=EG (b:=BB) T h2;have f2:=EC (b:=BB) hV h2;have m2:=jM aC hVl (n-2);rw[hUe]at e2;rw[Zu]at f2;have hU3:((T.getD n 0*BB+T.getD (n-1) 0)*BB+T.getD (n-2) 0)*BB ^ (n-2)<=Uv:=by
   rw[e2,aaR (BB ^ (n-2))];omega
  rw[hUe,Zu];exact Ha h f2 m2 hU3 hq hv1 ht
 ·intro h2 q rest h hge2 ht
  have e2:=EG (b:=BB) T h2;have f2:=EC (b:=BB) hV h2;have l2:=jM aC hT (n-2);rw[hUe]at e2;rw[Zu]at f2;have hU4:Uv<((T.getD n 0*BB+T.getD (n-1) 0)*BB+T.getD (n-2) 0+1)*BB ^ (n-2):=by
   rw[e2,abJ _ 1,acA,aaR (BB ^ (n-2))];omega
  have h3:=AJ hQ f2 hU4;exact G8 h h3 ht
def mI{X Y:List Nat}{k:Nat}(h:X.drop k=Y.drop k):X.getD k 0=Y.getD k 0:=by
 have e:∀Z:List Nat,Z.getD k 0=(Z.drop k).headD 0:=fun Z=>by rw[aaf,List.headD_eq_head?_getD,afW]
 rw[e,e,h]
def mH{L:List Nat}{o k:Nat}(h:o+k<L.length):L[o+k]=(L.drop o).getD k 0:=by
 rw[aaf,adx,aak h];rfl
def uM{u p b1:Nat}(hu:u<BB)(hb:b1<=1):(u+BB-p%BB-b1)%BB+p%BB+b1=u+BB*(1-(u+BB-p%BB-b1)/BB)/\1-(u+BB-p%BB-b1)/BB<=1:=by
 have h1:=abR p aC;generalize p % BB=r at*;have e:=abt (u+BB-r-b1) BB;have hd:(u+BB-r-b1)/BB<=1:=by
  have:u+BB-r-b1<2*BB:=by omega
  have:=(abS aC).2 this;omega
 refine⟨?_,Nat.sub_le _ _⟩;generalize (u+BB-r-b1) / BB=s at*;generalize (u+BB-r-b1) % BB=x at*;rcases(show s=0\/s=1 by omega)with rfl|rfl
 ·simp;omega
 ·simp;omega
def tH{c1 qv:Nat}(hc:c1<BB)(hq:qv<=999999999*999999999):(c1+qv)/BB<BB:=by
 apply (abS aC).2;unfold BB at*;omega
def MM{b k O X left r:Nat}(hk:0<k)(h:O=k*X+left) :
  r+b*O=k*((left*b+r)/k+b*X)+(left*b+r)%k:=by
 have e:=abt (left*b+r) k;rw[h,aaL k,aaL b];have e2:b*(k*X)=k*(b*X):=adf b k X;have e3:b*left=left*b:=aaR b left;omega
def MK{b k left r:Nat}(hk:0<k)(hl:left<k)(hr:r<b):(left*b+r)/k<b:=by
 apply (abS hk).2;have:=abu b hl;rw[Nat.succ_mul]at this;rw[aaR b k];omega
def Mx{V:List Nat}{n:Nat}(hn:V.length=n)(h1:1<=n)(hl:∀d∈V,d<BB):BB/(V.getD (n-1) 0+1)*aa BB V<BB ^ n:=by
 have f1:=zf (b:=BB) hn h1;have m1:=jM aC hl (n-1);have hlt:aa BB V<(V.getD (n-1) 0+1)*BB ^ (n-1):=by rw[f1,abJ,acA];omega
 obtain⟨k,rfl⟩:∃k,n=k+1:=⟨n-1,by omega⟩;rw[acK]at *;have hpos:0<BB/(V.getD k 0+1):=by
  apply Nat.div_pos _ (by omega);have:=getD_lt aC hl k;omega
 have h3:BB/(V.getD k 0+1)*aa BB V<BB/(V.getD k 0+1)*((V.getD k 0+1)*BB ^ k):=adR hlt hpos;have h4:BB/(V.getD k 0+1)*((V.getD k 0+1)*BB ^ k)<=BB*BB ^ k:=by
  rw[<-aa6];exact abu _ (Nat.div_mul_le_self _ _)
 rw[abl,aaR (BB ^ k)];omega
def IR{b t U0 V Qs u u' Q:Nat}(h:U0=b ^ (t+1)*Qs*V+u)(hu:u'+b ^ t*(Q*V)=u):U0=b ^ t*(Q+b*Qs)*V+u':=by
 rw[h,<-hu,aaL (b ^ t),abJ,abl];have e1:b ^ t*(b*Qs)*V=b ^ t*b*Qs*V:=by rw[aa6 (b ^ t) b Qs]
 have e2:b ^ t*Q*V=b ^ t*(Q*V):=aa6 _ _ _;rw[e1,e2];omega
def yZ(b:Nat){L:List Nat}{t:Nat}(h:t<=L.length):aa b L=aa b (L.take t)+b ^ t*aa b (L.drop t):=by
 have e:=qE b (L.take t) (L.drop t);rw[aaY,aaI,ad1 h]at e;exact e
def Ey(b:Nat){L:List Nat}{t:Nat}(h:t<L.length):aa b (L.drop t)=L[t]+b*aa b (L.drop (t+1)):=by
 rw[aat h];rfl
def GM{L:List Nat}{t:Nat}(h:t<L.length)(x:Nat):(L.set t x).drop t=x::L.drop (t+1):=by
 have h':t<(L.set t x).length:=by rw[abh];exact h
 rw[aat h',acJ,List.drop_set_of_lt (by omega)]
def EA(b:Nat){L:List Nat}{t:Nat}(h:t<L.length)(x:Nat):aa b ((L.set t x).drop t)=x+b*aa b (L.drop (t+1)):=by
 rw[GM h];rfl
def jX(n:Nat):Nat:=BB/((blk n).getD ((blk n).length-1) 0+1)
def wE(n:Nat):1<=jX n:=by
 unfold jX;have:=getD_lt aC (aCp n) ((blk n).length-1);exact Nat.div_pos (by omega) (by omega)
def DZ(n:Nat):jX n<=BB:=Nat.div_le_self _ _
def FK{n:Nat}(h:n≠0):BB ^ ((blk n).length-1)<=n:=by
 have hne:=nK h;have hp:=aaM.2 hne;have:=(iD dN n ((blk n).length-1));unfold blk at*;rcases aaz n (BB ^ ((ek BB n).length-1))with h1|h1
 ·have:=this.2 h1;omega
 ·exact h1
def qU(n:Nat):n<BB ^ (blk n).length:=(iD dN n _).1 (Pe _)
def MC{n:Nat}(h:n≠0):(blk (jX n*n)).length=(blk n).length:=by
 have hp:=aaM.2 (nK h);have h1:(blk (jX n*n)).length<=(blk n).length:=by
  apply (iD dN _ _).2;have:=Mx (V:=blk n) rfl hp (aCp n);rwa[gM]at this
 have h2:(blk n).length<=(blk (jX n*n)).length:=by
  apply (iD dN _ _).2;have:=qU (jX n*n);have h3:=abu n (wE n);omega
 omega
def ME(m n:Nat):(blk m).length<=(blk (jX n*m)).length/\(blk (jX n*m)).length<=(blk m).length+1:=by
 constructor
 ·apply (iD dN _ _).2
  have:=qU (jX n*m);have h3:=abu m (wE n);omega
 ·apply (iD dN _ _).2
  rw[abl,aaR (BB ^ _)];have h1:=qU m;have h2:=abu m (DZ n);have h3:BB*m<BB*BB ^ (blk m).length:=adR h1 aC;omega
def Gr{m n:Nat}{L:List Nat}(hn:n≠0)(VF:n<=m)(hL:L.length=(blk m).length+1)(hv:aa BB L=jX n*m) :
  aa BB (L.drop (L.length-(blk n).length))<jX n*n:=by
 have hp:=aaM.2 (nK hn);have hle:(blk n).length<=(blk m).length:=by
  apply (iD dN _ _).2;have:=qU m;omega
 have hcut:=yZ BB (L:=L) (t:=L.length-(blk n).length) (by omega);rw[hv]at hcut;have h1:=qU m;have h2:=FK hn;obtain⟨a,ha⟩:∃a,L.length-(blk n).length=a:=⟨_,rfl⟩;have hsplit:(blk m).length=a+((blk n).length-1):=by omega
 rw[hsplit,afg]at h1;rw[ha]at hcut ⊢;have hk:=wE n;generalize jX n=k at*;have h3:k*m<k*(BB ^ a*BB ^ ((blk n).length-1)):=adR h1 hk;have h4:k*(BB ^ a*BB ^ ((blk n).length-1))<=BB ^ a*(k*n):=by
  rw[adf];exact abn _ (abn _ h2)
 have h5:BB ^ a*aa BB (L.drop a)<BB ^ a*(k*n):=by omega
 exact Nat.lt_of_mul_lt_mul_left h5
def Gt{L:List Nat}{V o:Nat}(ho:o<L.length)(hL:∀d∈L,d<BB)(h:aa BB (L.drop (o+1))<V):aa BB (L.drop o)<BB*V:=by
 rw[Ey BB ho];have h1:=hL _ (aag ho);have h2:BB*(aa BB (L.drop (o+1))+1)<=BB*V:=abn _ h;rw[aaL,acN]at h2;omega
def Gs{U0 V o:Nat}{L L' Q:List Nat}(hV:0<V)(hQ:o<Q.length)(ho:o<=L.length)(hl:L'.length=L.length)(h:U0=BB ^ (o+1)*aa BB (Q.drop (o+1))*V+aa BB L)
  (ht:L'.take o=L.take o) (hd:aa BB (L'.drop o)=aa BB (L.drop o)%V) :
  U0=BB ^ o*aa BB ((Q.set o (aa BB (L.drop o)/V)).drop o)*V+aa BB L'/\aa BB (L'.drop o)<V:=by
 refine⟨?_,by rw[hd];exact abR _ hV⟩;rw[EA BB hQ];refine IR h ?_;rw[yZ BB (L:=L') (t:=o) (by omega),yZ BB (L:=L) ho,ht,hd,acV,<-aaL];congr 2;rw[aaR (aa BB (L.drop o)/V)];exact abt _ _
def Gp{L:List Nat}{V o:Nat}(h:aa BB (L.drop o)<BB*V):aa BB (L.drop o)/V<BB:=by
 apply Nat.div_lt_of_lt_mul;rw[aaR];exact h
def Gq{k m n a u:Nat}(hk:1<=k)(h:k*m=a*(k*n)+u)(hu:u<k*n):a=m/n/\u=k*(m%n):=by
 have h0:0<k*n:=by omega
 have e1:a=k*m/(k*n):=by
  rw[h,aaR a,af1 h0,acF hu];omega
 have e2:u=k*m%(k*n):=by
  rw[h,aaR a,Nat.mul_add_mod,adn hu]
 exact⟨by rw[e1,Nat.mul_div_mul_left _ _ hk],by rw[e2,Nat.mul_mod_mul_left]⟩
def ML{k left o:Nat}{R0 L:List Nat}(hk:0<k)(hR:∀d∈R0,d<BB)(hl:L.length=R0.length)(ho:o<R0.length)(ht:L.take (o+1)=R0.take (o+1))(hleft:left<k)
  (h:aa BB (R0.drop (o+1))=k*aa BB (L.drop (o+1))+left) :
  ((left*BB+L[o]'(by omega))/k<BB)/\(left*BB+L[o]'(by omega))%k<k/\(L.set o ((left*BB+L[o]'(by omega))/k)).take o=R0.take o ∧
    aa BB (R0.drop o)=k*aa BB ((L.set o ((left*BB+L[o]'(by omega))/k)).drop o)+(left*BB+L[o]'(by omega))%k:=by
 have e:L[o]'(by omega)=R0[o]:=by
  have h1:(L.take (o+1))[o]'(by rw[aaI];omega)=(R0.take (o+1))[o]'(by rw[aaI];omega):=by
   congr 1
  rwa[acS,acS]at h1
 rw[e];have hr:=hR _ (aag ho);refine⟨MK hk hleft hr,abR _ hk,?_,?_⟩
 ·rw[List.take_set_of_le (by omega)]
  have:=aaw (List.take o) ht;rwa[af7,af7,ad1 (by omega)]at this
 ·rw[EA BB (by omega),Ey BB ho]
  exact MM hk h
def MJ{k r left:Nat}{L:List Nat}(hk:0<k)(h:k*r=k*aa BB L+left)(hl:left<k):aa BB L=r:=by
 have e:r=k*r/k:=by rw[Nat.mul_div_cancel_left _ hk]
 rw[e,h,af1 hk,acF hl];omega
def Jh(z:Int){d:Nat}(hd:d≠0):(mkRat z d).den=d/Nat.gcd z.natAbs d:=by
 rw[Rat.mkRat_def,aek hd,Rat.normalize_eq]
def BR(z:Int){d:Nat}(hd:d≠0):(mkRat z d).num=z/((Nat.gcd z.natAbs d:Nat):Int):=by
 rw[Rat.mkRat_def,aek hd,Rat.normalize_eq]
def Jg(z:Int){d:Nat}(hd:d≠0):(mkRat z d).num.natAbs=z.natAbs/Nat.gcd z.natAbs d:=by
 rw[BR z hd,Int.natAbs_ediv_of_dvd]
 ·rfl
 ·exact Int.ofNat_dvd_left.2 (Nat.gcd_dvd_left _ _)
def Ji(z:Int){d:Nat}(hd:d≠0):(mkRat z d).num<0↔z<0:=by
 rw[BR z hd];have hg:0<Nat.gcd z.natAbs d:=afO _ (by omega);have hg':(0:Int)<((Nat.gcd z.natAbs d:Nat):Int):=by omega
 constructor
 ·intro h
  apply Int.not_le.1;intro h0;have:=Int.ediv_nonneg h0 (Int.le_of_lt hg');omega
 ·intro h
  exact Int.ediv_neg_of_neg_of_pos h hg'
def bn(neg:Bool)(n:Nat):Int:=if neg then -(n:Int) else n
def wI(neg:Bool)(n:Nat):(bn neg n).natAbs=n:=by unfold bn;split<;>omega
def D7(neg:Bool)(n:Nat):bn neg n<0↔neg=true/\n≠0:=by unfold bn;cases neg<;>simp<;>omega
def MI(p q:Bool)(m n:Nat):bn p m*bn q n=bn (p != q) (m*n):=by
 unfold bn;cases p<;>cases q<;>simp[af4,Int.mul_neg]
def wJ(z:Int):bn (decide (z<0)) z.natAbs=z:=by unfold bn;by_cases h:z<0<;>simp[h]<;>omega
def yF(p q:Bool)(m n d e:Nat):mkRat (bn p m) d*mkRat (bn q n) e=mkRat (bn (p != q) (m*n)) (d*e):=by
 rw[Rat.mkRat_mul_mkRat,MI]
def K3(p:Bool)(m d:Nat)(hd:d≠0)(hm:m≠0):(mkRat (bn p m) d)⁻¹=mkRat (bn p d) m:=by
 have h:mkRat (bn p m) d≠0:=by
  rw[Ne,Rat.mkRat_eq_zero hd];unfold bn;split<;>omega
 have e:mkRat (bn p m) d*mkRat (bn p d) m=1:=by
  rw[yF,<-adl 1];refine(Rat.mkRat_eq_iff (adz hd hm) (by simp)).2 ?_;simp[bn,aaR]
 have:=aaw (fun x=>(mkRat (bn p m) d)⁻¹*x) e;simp only[<-Rat.mul_assoc,Rat.mul_one,Rat.inv_mul_cancel _ h,Rat.one_mul]at this;exact this.symm
def dQ(s:Bool)(a:Nat)(t:Bool)(b:Nat):Bool×Nat:=if s=t then (s,a+b) else if a<b then (t,b-a) else (s,a-b)
def xc(s t:Bool)(a b:Nat):bn (dQ s a t b).1 (dQ s a t b).2=bn s a+bn t b:=by
 unfold dQ bn
 cases s<;>cases t<;>simp
 ·split<;>simp<;>omega
 ·split<;>simp<;>omega
 ·omega
def KY(p q:Bool)(m n d e:Nat)(hd:d≠0)(he:e≠0) :
  mkRat (bn p m) d+mkRat (bn q n) e=mkRat (bn (dQ p (m*e) q (n*d)).1 (dQ p (m*e) q (n*d)).2) (d*e):=by
 rw[Rat.mkRat_add_mkRat _ _ hd he,xc];congr 1;unfold bn
 cases p<;>cases q<;>simp[af4]
def iU(q:Rat):Bs:=(if q.num<0 then [45] else [])++(af q.num.natAbs++(if q.den=1 then [] else 47::af q.den))
def ik(q:Rat):Bs×Nat:=if 400<(af q.num.natAbs).length\/400<(af q.den).length then ([],2) else (iU q,0)
def fM(c:UInt8):Bs->Option (Bs×Bs)
 |[]=>none
 |x::r=>if x=c then some ([],r) else (fM c r).map fun p=>(x::p.1,p.2)
theorem xz{c:UInt8}:∀ {l:Bs},fM c l=none↔c∉l
 |[]=>by simp[fM]
 |x::r=>by
  unfold fM;by_cases h:x=c
  ·simp[h]
  ·have ih:=xz (c:=c) (l:=r)
   simp[h,ih,acx h]
theorem nM{c:UInt8}:∀ {l a b:Bs},fM c l=some (a,b)↔l=a++c::b/\c∉a
 |[],a,b=>by simp[fM]
 |x::r,a,b=>by
  unfold fM;by_cases h:x=c
  ·subst h
   simp only[acf,aao,adw];constructor
   ·rintro⟨rfl,rfl⟩;simp
   ·rintro⟨h1,h2⟩
    cases a with
    |nil=>simp at h1;exact⟨rfl,h1⟩
    |cons y s=>simp at h1;exact absurd h1.1 (by simp at h2;exact h2.1)
  ·rw[aab h]
   simp only[aew,Prod.exists,adw];constructor
   ·rintro⟨a',b',h1,rfl,rfl⟩
    obtain⟨h2,h3⟩:=nM.1 h1;rw[h2];simp[h3,acx h]
   ·rintro⟨h1,h2⟩
    cases a with
    |nil=>simp at h1;exact absurd h1.1 h
    |cons y s=>
     simp at h1 h2;exact⟨s,b,nM.2 ⟨h1.2,h2.2⟩,by rw[h1.1],rfl⟩
def bY(l:Bs):Bool×Bs:=if l.head? = some 45 then (true,l.tail) else (false,l)
def cB(r:Bs):Bool×Bs×Bs:=match fM 47 r with
 |some p=>(true,p.1,p.2)
 |none=>(false,r,[49])
def mW(neg frac:Bool)(n d:Bs):Bool:=
 aj n&&aj d&&decide (n.length<=400)&&decide (d.length<=400) && !(neg&&n==[48]) && !(frac&&(d==[48]||d==[49]))&&decide (Nat.gcd (ag n) (ag d)=1)
def aI(l:Bs):Option (Bool×Bs×Bs):=
 if mW (bY l).1 (cB (bY l).2).1 (cB (bY l).2).2.1 (cB (bY l).2).2.2=true then some ((bY l).1,(cB (bY l).2).2.1,(cB (bY l).2).2.2) else none
def Dl(neg frac:Bool)(n d:Bs):mW neg frac n d=true↔iH n/\iH d/\n.length<=400/\d.length<=400/\(neg=true->n≠[48])/\(frac=true->d≠[48]/\d≠[49])/\Nat.gcd (ag n) (ag d)=1:=by
 unfold mW;simp only[aaE,afz,aax,Bool.and_eq_false_iff,Bool.or_eq_false_iff,iG];constructor
 ·rintro⟨⟨⟨⟨⟨⟨⟨h1,_⟩,h2,_⟩,h3⟩,h4⟩,h5⟩,h6⟩,h7⟩
  refine⟨h1,h2,h3,h4,?_,?_,h7⟩
  ·rintro rfl;simp at h5;exact h5
  ·rintro rfl;simp at h6;exact h6
 ·rintro⟨h1,h2,h3,h4,h5,h6,h7⟩
  refine⟨⟨⟨⟨⟨⟨⟨h1,by omega⟩,h2,by omega⟩,h3⟩,h4⟩,?_⟩,?_⟩,h7⟩
  ·cases neg with
   |false=>exact aam rfl
   |true=>right;simpa using h5 rfl
  ·cases frac with
   |false=>exact aam rfl
   |true=>right;simpa using h6 rfl
def vU{l:Bs}(h:iH l):ag l=0↔l=[48]:=by
 constructor
 ·intro e;rw[<-jo h,e];rfl
 ·rintro rfl;rfl
def yg{l:Bs}(h:iH l):ag l=1↔l=[49]:=by
 constructor
 ·intro e;rw[<-jo h,e];rfl
 ·rintro rfl;rfl
def Ao:af 1=[49]:=rfl
def Gh{n:Nat}{c:UInt8}(hc:cz c=false):c∉af n:=fun h=>by rw[tL n c h]at hc;cases hc
def Dp(l:Bs):l=(if (bY l).1=true then [45] else [])++(bY l).2:=by
 unfold bY
 split
 ·rename_i h
  cases l with
  |nil=>simp at h
  |cons x r=>simp at h;simp[h]
 ·simp
def yE(r:Bs):r=(cB r).2.1++(if (cB r).1=true then 47::(cB r).2.2 else [])/\((cB r).1=false->(cB r).2.2=[49]):=by
 unfold cB
 cases h:fM 47 r with
 |none=>simp
 |some p=>
  obtain⟨h1,h2⟩:=nM.1 (show fM 47 r=some (p.1,p.2) by rw[h]);simp[<-h1]
def KU{l:Bs}{p:Bool}{n d:Bs}(h:aI l=some (p,n,d)):∃q:Rat,l=iU q/\p=decide (q.num<0)/\n=af q.num.natAbs/\d=af q.den/\n.length<=400/\d.length<=400/\q=mkRat (bn p (ag n)) (ag d):=by
 unfold aI at h
 split at h
 ·rename_i hok
  have e1:=Dp l;obtain⟨e2,e3⟩:=yE (bY l).2;simp only[aao,adw]at h;obtain⟨hp,hn,hd⟩:=h;rw[hp,hn,hd]at hok;rw[hp]at e1;rw[hn,hd]at e2;rw[hd]at e3;generalize (cB (bY l).2).1=fr at*;obtain⟨h1,h2,h3,h4,h5,h6,h7⟩:=(Dl _ _ _ _).1 hok;have hd0:ag d≠0:=by
   intro e0;have:=(vU h2).1 e0
   cases fr with
   |true=>exact(h6 rfl).1 this
   |false=>rw[e3 rfl]at this;simp at this
  have hd1:ag d=1↔fr=false:=by
   rw[yg h2]
   cases fr with
   |true=>simp;exact(h6 rfl).2
   |false=>simp;exact e3 rfl
  have aCD:(bn p (ag n)).natAbs.Coprime (ag d):=by rw[wI];exact h7
  have hneg:bn p (ag n)<0↔p=true:=by
   rw[D7];constructor
   ·exact fun h=>h.1
   ·exact fun h=>⟨h,fun e0=>h5 h ((vU h1).1 e0)⟩
  refine⟨⟨bn p (ag n),ag d,hd0,aCD⟩,?_,?_,?_,?_,h3,h4,?_⟩
  ·unfold iU
   simp only[wI,jo h1,jo h2,hneg,hd1];rw[e1,e2]
   cases fr<;>simp
  ·simp only[hneg];simp
  ·simp only[wI];exact(jo h1).symm
  ·exact(jo h2).symm
  ·exact(adl (⟨bn p (ag n),ag d,hd0,aCD⟩:Rat)).symm
 ·cases h
def KV(q:Rat):bY (iU q)=(decide (q.num<0),af q.num.natAbs++(if q.den=1 then [] else 47::af q.den)):=by
 unfold iU;by_cases h:q.num<0
 ·simp[h,bY]
 ·rw[aab h,abH]
  unfold bY;have hh:(af q.num.natAbs++(if q.den=1 then [] else 47::af q.den)).head? ≠ some 45:=by
   intro e;have hne:=lw q.num.natAbs
   cases hd:af q.num.natAbs with
   |nil=>exact hne hd
   |cons x r=>
    rw[hd]at e;simp at e;have:=tL q.num.natAbs x (by rw[hd];simp);rw[e]at this;exact absurd this (by decide)
  rw[aab hh];simp[h]
def KP(q:Rat):cB (af q.num.natAbs++(if q.den=1 then [] else 47::af q.den))=(decide (q.den≠1),af q.num.natAbs,af q.den):=by
 have hno:(47:UInt8)∉af q.num.natAbs:=Gh (by decide);unfold cB;by_cases h:q.den=1
 ·rw[aaa h,acb,xz.2 hno];simp[h,Ao]
 ·rw[aab h,nM.2 ⟨rfl,hno⟩];simp[h]
def KT{q:Rat}(h1:(af q.num.natAbs).length<=400)(h2:(af q.den).length<=400):aI (iU q)=some (decide (q.num<0),af q.num.natAbs,af q.den):=by
 unfold aI;rw[KV];simp only[KP];rw[aaa];refine(Dl _ _ _ _).2 ⟨oW _,oW _,h1,h2,?_,?_,?_⟩
 ·intro hn e
  have:=(vU (oW _)).2 e;rw[fq]at this;simp at hn;omega
 ·intro hf
  simp at hf;constructor
  ·intro e
   have:=(vU (oW _)).2 e;rw[fq]at this;exact q.den_nz this
  ·intro e
   have:=(yg (oW _)).2 e;rw[fq]at this;exact hf this
 ·rw[fq,fq];exact q.reduced
def aK(l:Bs):Option Rat:=(aI l).map fun x=>mkRat (bn x.1 (ag x.2.1)) (ag x.2.2)
def uz{l:Bs}{q:Rat}(h:aK l=some q):l=iU q/\(af q.num.natAbs).length<=400/\(af q.den).length<=400/\aI l=some (decide (q.num<0),af q.num.natAbs,af q.den):=by
 unfold aK at h;rw[aew]at h;obtain⟨⟨p,n,d⟩,h1,h2⟩:=h;obtain⟨q',e1,e2,e3,e4,e5,e6,e7⟩:=KU h1;rw[<-e7]at h2;subst h2;exact⟨e1,by rw[<-e3];exact e5,by rw[<-e4];exact e6,by rw[h1,e2,e3,e4]⟩
def Dr{q:Rat}(h1:(af q.num.natAbs).length<=400)(h2:(af q.den).length<=400):aK (iU q)=some q:=by
 unfold aK;rw[KT h1 h2];simp only[aba,fq,wJ,adl]
def KX{l:Bs}:aK l=none↔aI l=none:=by unfold aK;rw[Option.map_eq_none_iff]
def iq(neg:Bool)(n d:Nat):Bs×Nat:=ik (mkRat (bn neg n) d)
def BS(neg:Bool)(n:Nat){d:Nat}(hd:d≠0) :
  iq neg n d=if 400<(af (n/Nat.gcd n d)).length\/400<(af (d/Nat.gcd n d)).length then ([],2) else
   ((if neg=true/\n≠0 then [45] else [])++(af (n/Nat.gcd n d)++(if d/Nat.gcd n d=1 then [] else 47::af (d/Nat.gcd n d))),0):=by
 unfold iq ik iU;rw[Jg _ hd,Jh _ hd,wI];simp only[Ji _ hd,D7]
def fZ(f:Rat->Rat->Bs×Nat)(a b:Bs):Bs×Nat:=match aK a,aK b with
 |some p,some q=>f p q
 |_,_=>([],1)
def jW:Bs->Bs->Bs×Nat:=fZ fun p q=>ik (p+q)
def gV:Bs->Bs->Bs×Nat:=fZ fun p q=>ik (p-q)
def mV:Bs->Bs->Bs×Nat:=fZ fun p q=>ik (p*q)
def lS:Bs->Bs->Bs×Nat:=fZ fun p q=>if q=0 then ([],4) else ik (p/q)
def aDc(a:Bs):Bs×Nat:=gV [48] a
def fB(a b:Bs):Int:=match aK a,aK b with
 |some p,some q=>if p=q then 0 else if p<q then -1 else 1
 |_,_=>0
def Aj{x:Nat}(h:x<10):af x=[dc x]:=by
 rcases(show x=0\/x=1\/x=2\/x=3\/x=4\/x=5\/x=6\/x=7\/x=8\/x=9 by omega)with rfl|rfl|rfl|rfl|rfl|rfl|rfl|rfl|rfl|rfl<;>rfl
def F9{V x:Nat}(hV:0<V)(hx:x<10):af (10*V+x)=af V++[dc x]:=by
 have h:=Aq (V:=V) (x:=x) (k:=1) hV (by omega) (Pe _);rw[Aj hx]at h;rw[aaR];exact h
def Le{V:Nat}{c:UInt8}(hc:cz c=true):(if V=0 then [c] else af V++[c])=af (10*V+dv c):=by
 by_cases h:V=0
 ·subst h
  rw[aaa rfl,ado,aaP,Aj (qc hc),tK hc]
 ·rw[aab h,F9 (by omega) (qc hc),tK hc]
def KG{P n x k R:Nat}(hn:0<n)(h:k*n+R=10*(P%n)+x)(hR:R<n):(10*P+x)/n=10*(P/n)+k/\(10*P+x)%n=R:=by
 have e:=abt P n;have h1:10*P+x=n*(10*(P/n)+k)+R:=by
  have h2:n*(10*(P/n)+k)=10*(n*(P/n))+k*n:=by
   rw[aaL,adf,aaR n k]
  omega
 rw[h1];constructor
 ·rw[af1 hn,acF hR];omega
 ·rw[Nat.mul_add_mod,adn hR]
def KF{P n x k R:Nat}(hn:0<n)(hx:x<10)(h:k*n+R=10*(P%n)+x)(hR:n<=R):k+1<=9:=by
 have h1:=abR P hn;have h2:(k+1)*n<10*n:=by
  rw[abJ,acA];have:10*(P%n)+x<10*n:=by omega
  omega
 have:=afr h2;omega
def Gd{l:Bs}(h:l.head? = some 48):ag l=ag l.tail:=by
 cases l with
 |nil=>simp at h
 |cons c r=>
  simp at h;subst h;show ag ([48]++r)=ag r;rw[mD];simp[ag,aa,dv]
def NF{q:Bs}{k:Nat}(hk:k<q.length)(h:q[k]=48):ag (q.drop (k+1))=ag (q.drop k):=by
 rw[aat hk,Gd (l:=q[k]::q.drop (k+1)) (by simp[h])]
 rfl
def NE{q:Bs}{k:Nat}(hd:∀c∈q,cz c=true)(hk:k<q.length)(h:k+1=q.length\/q[k]≠48):q.drop k=af (ag (q.drop k)):=by
 refine(jo ⟨?_,fun c hc=>hd c (abV hc),fun hl=>?_⟩).symm
 ·intro e
  have:=aaw List.length e;rw[aaH]at this;simp at this;omega
 ·rw[aaH]at hl
  rw[afW,aak hk];rcases h with h|h
  ·omega
  ·simpa using h
def NL{l:Bs}{k:Nat}(hk:k<l.length):ag (l.take (k+1))=10*ag (l.take k)+dv l[k]:=by
 rw[aau hk,tV]
def F8{n k:Nat}(hn:n<10 ^ k)(hk:1<=k):(af n).length<=k:=(kg n k hk).2 hn
end Go.Proofs.YtppnecgeboonbaaGreatDoor.Rat3
