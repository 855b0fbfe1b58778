/- Walks. -/
import Derived.Test.YtppnecgeboonbaaGreatDoorZ01
import Derived.Shelf.Unicode.DecodeAny
import Derived.Test.YtppnecgeboonbaaGreatDoorChecked
import Derived.Maps.Keyed
import Derived.WalkKit
namespace Go.Proofs.YtppnecgeboonbaaGreatDoor
set_option maxRecDepth 100000
set_option linter.all false
set_option maxHeartbeats 4000000
def aae:=@Go.Lib.size_eq
def aan:=@Go.Lib.toList_data
def aa9:=@Go.IntKind.wrap_u64
def abf:=@Go.Proofs.Tryz.underlying229
def abm:=@Go.info_parts
def ab1:=@Go.Calls.quiet_of_same
def ab3:=@Go.Proofs.Tryz.underlying38
def acm:=@Go.Proofs.Tryz.results18
def acn:=@Go.IntWalk.wrap64_in
def acE:=@Go.Proofs.Tryz.ntmps110
def acM:=@Go.Proofs.Tryz.results11
def acQ:=@Go.Proofs.Tryz.func110
def ac1:=@Go.run_convert_bytes_back
def ac9:=@Go.Proofs.Tryz.ntmps124
def ada:=@Go.Proofs.Tryz.ntmps161
def adq:=@Go.Proofs.Tryz.func124
def adr:=@Go.Proofs.Tryz.func161
def adI:=@Go.Proofs.Tryz.ntmps86
def adJ:=@Go.Proofs.Tryz.results97
def adL:=@Go.callsIn_wide
def adN:=@Go.Lib.extract_data
def adT:=@Go.Proofs.Tryz.ntmps123
def adV:=@Go.Proofs.Tryz.func86
def ad2:=@Go.Proofs.Tryz.results100
def ad7:=@Go.Proofs.Tryz.func123
def ad8:=@Go.Proofs.Tryz.ntmps18
def ad9:=@Go.Proofs.Tryz.ntmps55
def aea:=@Go.Proofs.Tryz.ntmps84
def aeb:=@Go.Proofs.Tryz.ntmps97
def aec:=@Go.Proofs.Tryz.underlying108
def aee:=@Go.mem_ready
def aef:=@Go.run_string_add_sum
def aei:=@Go.Proofs.Tryz.results95
def aej:=@Go.Proofs.Tryz.results96
def aeq:=@Go.Proofs.Tryz.underlying82
def aes:=@Go.Lib.index_one
def aex:=@Go.Proofs.Tryz.func18
def aey:=@Go.Proofs.Tryz.func55
def aez:=@Go.Proofs.Tryz.func84
def aeA:=@Go.Proofs.Tryz.func97
def aeE:=@Go.Proofs.Tryz.ntmps100
def aeW:=@Go.Proofs.Tryz.func100
def ae1:=@Go.Proofs.Tryz.ntmps95
def ae2:=@Go.Proofs.Tryz.ntmps96
def ae4:=@Go.ready_mono
def afh:=@Go.Proofs.Tryz.func10
def afi:=@Go.Proofs.Tryz.func95
def afj:=@Go.Proofs.Tryz.func96
def afk:=@Go.getD_set_ne
def afs:=@Go.Proofs.Tryz.ntmps106
def aft:=@Go.Proofs.Tryz.ntmps155
def afu:=@Go.Proofs.Tryz.ntmps159
def afv:=@Go.Proofs.Tryz.ntmps160
def afw:=@Go.Proofs.Tryz.ntmps186
def afx:=@Go.Proofs.Tryz.ntmps192
def afS:=@Go.wpList_make_full
def af3:=@Go.World.iter_heap
open Rat3
def bD:Bs:=[105,110,102]
def dC:Bs:=[45,105,110,102]
def kindOk(k:Int):Bool:=decide (1<=k)&&decide (k<=3)
def aT(k:Int)(a:Bs):Bool:=kindOk k&&(if a=bD\/a=dC then decide (a=bD\/k=1) else (aK a).isSome&&decide (k=1\/0<=fB a [48]))
def bg(k:Int)(a:Bs):Bool:=aT k a&&decide (a≠bD/\a≠dC/\(k=1\/a≠[48]))
def aF(k:Int):Bs:=if kindOk k=true then (if k=1 then bD else [48]) else []
def fQ(k:Int):Bs:=if kindOk k=true then (if k=1 then [48] else [49]) else []
def gJ(a b:Bs):Int:=if a=b then 0 else if a=dC\/b=bD then -1 else if a=bD\/b=dC then 1 else fB a b
def og(k:Int)(a b:Bs):Int:=if aT k a=true/\aT k b=true then (if k=1 then gJ a b else gJ b a) else 0
def fI(k:Int)(a b:Bs):Bs×Nat:=
 if aT k a=true/\aT k b=true then
  (if k≠2 then (if og k b a<0 then (b,0) else (a,0)) else if a=bD\/b=bD then (bD,0) else jW a b)
 else ([],1)
def iV(k:Int)(a b:Bs):Bs×Nat:=
 if aT k a=true/\aT k b=true then
  (if a=aF k\/b=aF k then (aF k,0) else if a=bD\/b=bD then (bD,0) else if a=dC\/b=dC then (dC,0) else if k=1 then jW a b else mV a b)
 else ([],1)
def oh(k:Int)(a:Bs):Bs×Nat:=
 if aT k a=true then
  (if k=1 then (if 0<=gJ a [48] then (fQ k,0) else (dC,0))
   else if k=3 then (if gJ a [49]<=0 then (fQ k,0) else (bD,0))
   else if 0<=gJ a [49] then (bD,0)
   else if (gV [49] a).2≠0 then ([],(gV [49] a).2) else lS [49] (gV [49] a).1)
 else ([],1)
structure aO where
 inn:Int
 out:Int
 w:Bs
 to:Int
deriving DecidableEq
structure bI where
 fin:Bs
 arcs:List aO
deriving DecidableEq
structure aQ where
 kind:Int
 start:Int
 lead:Bs
 states:List bI
deriving DecidableEq
def aBU(s:Int):Bool:=decide (0<=s)&&decide (s<=500)
def dZ(k:Int)(n:Nat)(a:aO):Bool:=aBU a.inn&&aBU a.out&&decide (0<=a.to/\a.to<n)&&bg k a.w
def aBP(k:Int)(n:Nat)(s:bI):Bool:=(decide (s.fin=[])||bg k s.fin)&&s.arcs.all (dZ k n)
def dh(l:List bI):Nat:=(l.map fun s=>s.arcs.length).sum
def bM(m:aQ):Bool:=kindOk m.kind&&decide (1<=m.states.length/\m.states.length<=3000/\0<=m.start/\m.start<m.states.length)&&bg m.kind m.lead&&m.states.all (aBP m.kind m.states.length)&&decide (dh m.states<=30000)
def iY(x:List Int):Bool:=decide (x.length<=200)&&x.all fun s=>decide (1<=s/\s<=500)
def qQ(m:aQ):Bool:=bM m&&m.states.all fun s=>s.arcs.all fun a=>decide (a.inn=a.out)
abbrev Vec:=List Bs
def eT(m:aQ):Vec:=List.replicate m.states.length (aF m.kind)
def fK(k:Int)(l:Vec)(i:Nat)(a b:Bs):Except Nat Vec:=
 if (iV k a b).2≠0 then .error (iV k a b).2
 else if (fI k (l.getD i []) (iV k a b).1).2≠0 then .error (fI k (l.getD i []) (iV k a b).1).2
 else .ok (l.set i (fI k (l.getD i []) (iV k a b).1).1)
def bi{α β:Type}(x:Except Nat α)(f:α->Except Nat β):Except Nat β:=match x with | .ok a=>f a | .error e=>.error e
def lZ(k inn out:Int)(loose:Bool)(x:Bs):List aO->Vec->Except Nat Vec
 |[],l=>.ok l
 |a::r,l=>if a.inn≠inn\/(a.out≠out/\loose=false) then lZ k inn out loose x r l else bi (fK k l a.to.toNat x a.w) (lZ k inn out loose x r)
def nu(k inn out:Int)(loose:Bool):List bI->Vec->Vec->Except Nat Vec
 |[],_,l=>.ok l
 |s::r,v,l=>if v.headD []=aF k then nu k inn out loose r v.tail l else bi (lZ k inn out loose (v.headD []) s.arcs l) (nu k inn out loose r v.tail)
def rU(m:aQ)(v:Vec)(inn out:Int)(loose:Bool):Except Nat Vec:=nu m.kind inn out loose m.states v (eT m)
def aCs(k:Int):Vec->Vec->Except Nat Vec
 |[],_=>.ok []
 |a::r,b=>if (fI k a (b.headD [])).2≠0 then .error (fI k a (b.headD [])).2 else bi (aCs k r b.tail) fun l=>.ok ((fI k a (b.headD [])).1::l)
def lH(k:Int):List bI->Vec->Bs->Except Nat Bs
 |[],_,x=>.ok x
 |s::r,v,x=>if s.fin=[] then lH k r v.tail x else bi (fK k [x] 0 (v.headD []) s.fin) fun l=>lH k r v.tail (l.headD [])
abbrev ak:=List Vec
def jG(k:Int)(b:Bool)(x y:Bs):Bool×Bs:=if (b||decide ((fI k x y).2≠0))=true then (true,aF k) else (false,(fI k x y).1)
def q9(k:Int)(b:Bool)(x y:Bs):Bool×Bs:=if (b||decide ((iV k x y).2≠0))=true then (true,aF k) else (false,(iV k x y).1)
def oQ(k:Int)(b:Bool)(x:Bs):Bool×Bs:=if (b||decide ((oh k x).2≠0))=true then (true,aF k) else (false,(oh k x).1)
def aX(a:ak)(i j:Nat):Bs:=(a.getD i []).getD j []
def ug(k:Int)(a:ak)(loop:Bs)(p i j:Nat)(b:Bool):Bool×Bs:=
 if aX a i p≠aF k/\aX a p j≠aF k then
  jG k (q9 k (q9 k b (aX a i p) loop).1 (q9 k b (aX a i p) loop).2 (aX a p j)).1 (aX a i j) (q9 k (q9 k b (aX a i p) loop).1 (q9 k b (aX a i p) loop).2 (aX a p j)).2
 else (b,aX a i j)
def qx(k:Int)(a:ak)(loop:Bs)(p i:Nat):Nat->Nat->Bool->Bool×Vec
 |0,_,b=>(b,[])
 |n+1,j,b=>((qx k a loop p i n (j+1) (ug k a loop p i j b).1).1,(ug k a loop p i j b).2::(qx k a loop p i n (j+1) (ug k a loop p i j b).1).2)
def rQ(k:Int)(a:ak)(loop:Bs)(p N:Nat):Nat->Nat->Bool->Bool×ak
 |0,_,b=>(b,[])
 |n+1,i,b=>((rQ k a loop p N n (i+1) (qx k a loop p i N 0 b).1).1,(qx k a loop p i N 0 b).2::(rQ k a loop p N n (i+1) (qx k a loop p i N 0 b).1).2)
def yM(k:Int)(p N:Nat)(b:Bool)(a:ak):Bool×ak:=rQ k a (oQ k b (aX a p p)).2 p N N 0 (oQ k b (aX a p p)).1
def uH(k:Int)(N:Nat):Nat->Nat->Bool->ak->Bool×ak
 |0,_,b,a=>(b,a)
 |n+1,p,b,a=>uH k N n (p+1) (yM k p N b a).1 (yM k p N b a).2
def setAt(a:ak)(i j:Nat)(x:Bs):ak:=a.set i ((a.getD i []).set j x)
def jq(k:Int):Nat->Nat->Bool->ak->Bool×ak
 |0,_,b,a=>(b,a)
 |n+1,i,b,a=>jq k n (i+1) (jG k b (fQ k) (aX a i i)).1 (setAt a i i (jG k b (fQ k) (aX a i i)).2)
def rT(k:Int)(a:ak):Bool×ak:=jq k a.length 0 (uH k a.length a.length 0 false a).1 (uH k a.length a.length 0 false a).2
def nP(k:Int)(a:ak):Bool:=kindOk k&&a.all fun r=>decide (r.length=a.length)&&r.all (aT k)
def qz(k:Int)(a:ak):Except Nat ak:=if nP k a=true then (if 60<a.length then .error 2 else if (rT k a).1=true then .error 2 else .ok (rT k a).2) else .error 1
def kX(k:Int)(loose:Bool):List aO->Bool×Vec->Except Nat (Bool×Vec)
 |[],l=>.ok l
 |a::r,l=>if a.inn≠0\/(a.out≠0/\loose=false) then kX k loose r l
  else if (fI k (l.2.getD a.to.toNat []) a.w).2≠0 then .error (fI k (l.2.getD a.to.toNat []) a.w).2 else kX k loose r (true,l.2.set a.to.toNat (fI k (l.2.getD a.to.toNat []) a.w).1)
def kG(m:aQ)(loose:Bool):List bI->Bool×ak->Except Nat (Bool×ak)
 |[],l=>.ok l
 |s::r,l=>bi (kX m.kind loose s.arcs (l.1,eT m)) fun x=>kG m loose r (x.1,l.2++[x.2])
def qy(m:aQ)(loose:Bool):Except Nat (Option ak):=
 bi (kG m loose m.states (false,[])) fun x=>if x.1=false then .ok none else if 60<x.2.length then .error 2 else bi (qz m.kind x.2) fun a=>.ok (some a)
def lT(k:Int)(v:Bs):Vec->Nat->Vec->Except Nat Vec
 |[],_,l=>.ok l
 |s::r,p,l=>if v=aF k\/s=aF k then lT k v r (p+1) l else bi (fK k l p v s) (lT k v r (p+1))
def lU(k:Int):Vec->ak->Vec->Except Nat Vec
 |[],_,l=>.ok l
 |v::r,a,l=>bi (lT k v (a.headD []) 0 l) (lU k r a.tail)
def uB(m:aQ)(v:Vec)(star:Option ak):Except Nat Vec:=match star with|none=>.ok v|some a=>lU m.kind v a (eT m)
def mg(m:aQ)(star:Option ak):List Int->Vec->Except Nat Bs
 |[],v=>bi (uB m v star) fun v=>lH m.kind m.states v (aF m.kind)
 |x::r,v=>bi (uB m v star) fun v=>bi (rU m v x 0 true) (mg m star r)
def qX(m:aQ)(x:List Int):Except Nat Bs:=
 if bM m=true/\iY x=true then bi (qy m true) fun star=>mg m star x ((eT m).set m.start.toNat m.lead) else .error 1
def uV(m:aQ)(x:List Int):Except Nat Bs:=
 if bM m=true/\iY x=true then (if qQ m=true then qX m x else .error 6) else .error 1
abbrev Bs:=List UInt8
def aM(l:Bs)(i:Nat):Nat:=(l[i]?.getD 0).toNat
def kM(l:Bs)(i:Nat):aM l i<256:=by unfold aM;exact UInt8.toNat_lt _
def cont(l:Bs)(i:Nat):Bool:=decide (128<=aM l i/\aM l i<192)
def jR(l:Bs)(i:Nat):cont l i=true↔128<=aM l i/\aM l i<192:=by simp[cont]
def F3(l:Bs)(i:Nat):cont l i=false ↔ ¬ (128<=aM l i/\aM l i<192):=by simp[cont]
def vw{l:Bs}{i:Nat}(h:cont l i=true):i<l.length:=by
 rw[jR]at h;rcases aaz i l.length with hh|hh
 ·exact hh
 ·unfold aM at h;rw[aa4 hh]at h;simp at h
def oD(l:Bs)(i:Nat):Nat:=(aM l i-192)*64+(aM l (i+1)-128)
def kZ(l:Bs)(i:Nat):Nat:=(aM l i-224)*4096+(aM l (i+1)-128)*64+(aM l (i+2)-128)
def nC(l:Bs)(i:Nat):Nat:=(aM l i-240)*262144+(aM l (i+1)-128)*4096+(aM l (i+2)-128)*64+(aM l (i+3)-128)
def point(l:Bs)(i:Nat):Nat×Nat:=
 if l.length<=i then (0,0)
 else if aM l i<128 then (aM l i,1)
 else if 192<=aM l i/\aM l i<224/\cont l (i+1)=true/\128<=oD l i then (oD l i,2)
 else if 224<=aM l i/\aM l i<240/\cont l (i+1)=true/\cont l (i+2)=true/\2048<=kZ l i/\(kZ l i<55296\/57343<kZ l i) then (kZ l i,3)
 else if 240<=aM l i/\aM l i<248/\cont l (i+1)=true/\cont l (i+2)=true/\cont l (i+3)=true/\65536<=nC l i/\nC l i<=1114111 then (nC l i,4)
 else (0,0)
def dL(l:Bs):Bool:=decide (0<(point l 0).2)
def eF(l:Bs):Nat:=max (point l 0).2 1
def dF(l:Bs):Bool:=dL l&&decide ((point l 0).2=l.length)
def o5:Nat->Bs->List Bs
 |0,_=>[]
 |k+1,l=>if l=[] then [] else l.take (eF l)::o5 k (l.drop (eF l))
def pieces(l:Bs):List Bs:=o5 l.length l
def nJ(l:Bs)(i k:Nat):aM (l.drop i) k=aM l (i+k):=by unfold aM;rw[adx]
def xy(l:Bs)(i k:Nat):cont (l.drop i) k=cont l (i+k):=by unfold cont;rw[nJ]
def Ku(l:Bs)(i:Nat):point l i=point (l.drop i) 0:=by
 have e1:oD (l.drop i) 0=oD l i:=by unfold oD;simp only[nJ,aaP,abw]
 have e2:kZ (l.drop i) 0=kZ l i:=by unfold kZ;simp only[nJ,aaP,abw]
 have e3:nC (l.drop i) 0=nC l i:=by unfold nC;simp only[nJ,aaP,abw]
 have e4:((l.drop i).length<=0)=(l.length<=i):=propext ⟨fun h=>by simp at h;omega,fun h=>by simp;omega⟩;unfold point;rw[e1,e2,e3,nJ,xy,xy,xy,aaP,aaP,aaP,abw];simp only[e4,abw]
def uw(l:Bs):(point l 0).2<=l.length/\(point l 0).2<=4:=by
 unfold point
 split
 ·simp
 ·split
  ·simp;omega
  ·split
   ·rename_i h;have:=vw h.2.2.1;simp;omega
   ·split
    ·rename_i h;have:=vw h.2.2.2.1;simp;omega
    ·split
     ·rename_i h;have:=vw h.2.2.2.2.1;simp;omega
     ·simp
def get_at(s:ByteArray)(k:Nat):(s.get! k).toNat=aM s.data.toList k:=by
 unfold aM;rcases aaz k s.size with h|h
 ·rw[Utf8W.get!_of_lt s k h]
  have:s[k]'h=s.data.toList[k]'(by rw[<-aae];exact h):=rfl;rw[this,aak (by rw[<-aae];exact h)];rfl
 ·rw[aa4 (by rw[<-aae];exact h)]
  cases s with
  |mk d=>
   have:(ByteArray.mk d).get! k=default:=by
    show d[k]! = _;exact getElem!_neg d k (by have:(ByteArray.mk d).size=d.size:=rfl;omega)
   rw[this];rfl
def Kt(l:Bs):(point l 0).1<=1114111:=by
 have h0:=kM l 0;have h1:=kM l (0+1);have h2:=kM l (0+2);unfold point
 split
 ·simp
 ·split
  ·simp;omega
  ·split
   ·rename_i h;have:=(jR _ _).1 h.2.2.1;simp;unfold oD;omega
   ·split
    ·rename_i h;have:=(jR _ _).1 h.2.2.1;have:=(jR _ _).1 h.2.2.2.1;simp;unfold kZ;omega
    ·split
     ·rename_i h;exact h.2.2.2.2.2.2
     ·simp
def xx(l:Bs)(n k:Nat)(hn:l.length=n):cont l k=true↔(k<n/\aM l k/64=2):=by
 rw[jR];constructor
 ·intro h;exact⟨by rw[<-hn];exact vw ((jR _ _).2 h),by omega⟩
 ·intro h;omega
def v2(b0 b1:Nat):Nat:=(b0-192)*64+(b1-128)
def v3(b0 b1 b2:Nat):Nat:=(b0-224)*4096+(b1-128)*64+(b2-128)
def v4(b0 b1 b2 b3:Nat):Nat:=(b0-240)*262144+(b1-128)*4096+(b2-128)*64+(b3-128)
def nR(l:Bs)(n b0 b1 b2 b3:Nat)(hn:l.length=n)(hp:0<n)(h0:aM l 0=b0)(h1:aM l 1=b1)(h2:aM l 2=b2)(h3:aM l 3=b3) :
  (b0<128/\point l 0=(b0,1)) ∨
  (192<=b0/\b0<224/\(1<n/\b1/64=2)/\128<=v2 b0 b1/\point l 0=(v2 b0 b1,2)) ∨
  (224<=b0/\b0<240/\(1<n/\b1/64=2)/\(2<n/\b2/64=2)/\2048<=v3 b0 b1 b2/\(v3 b0 b1 b2<55296\/57343<v3 b0 b1 b2)/\point l 0=(v3 b0 b1 b2,3)) ∨
  (240<=b0/\b0<248/\(1<n/\b1/64=2)/\(2<n/\b2/64=2)/\(3<n/\b3/64=2)/\65536<=v4 b0 b1 b2 b3/\v4 b0 b1 b2 b3<=1114111/\point l 0=(v4 b0 b1 b2 b3,4)) ∨
  (¬ b0<128/\¬ (192<=b0/\b0<224/\(1<n/\b1/64=2)/\128<=v2 b0 b1) ∧
   ¬ (224<=b0/\b0<240/\(1<n/\b1/64=2)/\(2<n/\b2/64=2)/\2048<=v3 b0 b1 b2/\(v3 b0 b1 b2<55296\/57343<v3 b0 b1 b2)) ∧
   ¬ (240<=b0/\b0<248/\(1<n/\b1/64=2)/\(2<n/\b2/64=2)/\(3<n/\b3/64=2)/\65536<=v4 b0 b1 b2 b3/\v4 b0 b1 b2 b3<=1114111)/\point l 0=(0,0)):=by
 have k1:=xx l n 1 hn;have k2:=xx l n 2 hn;have k3:=xx l n 3 hn;rw[h1]at k1;rw[h2]at k2;rw[h3]at k3;have e1:oD l 0=v2 b0 b1:=by unfold oD v2;rw[h0,h1]
 have e2:kZ l 0=v3 b0 b1 b2:=by unfold kZ v3;rw[h0,h1,h2]
 have e3:nC l 0=v4 b0 b1 b2 b3:=by unfold nC v4;rw[h0,h1,h2,h3]
 have hP:point l 0=point l 0:=rfl
 conv at hP=>rhs;unfold point
 rw[e1,e2,e3,h0,hn,aab (show ¬ n<=0 by omega)]at hP;simp only[aaP]at hP;generalize v2 b0 b1=V2 at*;generalize v3 b0 b1 b2=V3 at*;generalize v4 b0 b1 b2 b3=V4 at*
 split at hP
 ·exact aam ⟨‹_›,hP⟩
 ·split at hP
  ·rename_i h;rw[k1]at h;exact aad (aam ⟨h.1,h.2.1,h.2.2.1,h.2.2.2,hP⟩)
  ·split at hP
   ·rename_i h;rw[k1,k2]at h;exact aad (aad (aam ⟨h.1,h.2.1,h.2.2.1,h.2.2.2.1,h.2.2.2.2.1,h.2.2.2.2.2,hP⟩))
   ·split at hP
    ·rename_i h;rw[k1,k2,k3]at h;exact aad (aad (aad (aam ⟨h.1,h.2.1,h.2.2.1,h.2.2.2.1,h.2.2.2.2.1,h.2.2.2.2.2.1,h.2.2.2.2.2.2,hP⟩)))
    ·rename_i x1 x2 x3 x4
     rw[k1]at x2;rw[k1,k2]at x3;rw[k1,k2,k3]at x4;exact aad (aad (aad (aad ⟨x1,x2,x3,x4,hP⟩)))
def Ai(l:Bs)(n:Nat)(hn:l.length=n)(hp:0<n):Lib.decodeN n (aM l 0) (aM l 1) (aM l 2) (aM l 3)=if 0<(point l 0).2 then point l 0 else (65533,1):=by
 have h0:=kM l 0;have h1:=kM l 1;have h2:=kM l 2;have h3:=kM l 3;have hc:=nR l n _ _ _ _ hn hp rfl rfl rfl rfl;unfold v2 v3 v4 at hc;generalize aM l 0=b0 at*;generalize aM l 1=b1 at*;generalize aM l 2=b2 at*;generalize aM l 3=b3 at*;rcases hc with⟨c1,hP⟩|⟨c1,c2,c3,c4,hP⟩|⟨c1,c2,c3,c4,c5,c6,hP⟩|⟨c1,c2,c3,c4,c5,c6,c7,hP⟩|⟨c1,c2,c3,c4,hP⟩
 ·rw[hP];unfold Lib.decodeN;rw[aaa c1];rfl
 ·rw[hP];unfold Lib.decodeN
  rw[aab (by omega),aaa ⟨by omega,c3⟩,aaa (by omega),aaa (by simp)];exact Prod.ext (by simp;omega) rfl
 ·rw[hP];unfold Lib.decodeN
  rw[aab (by omega),aab (by omega),aaa ⟨by omega,c3,c4⟩,aaa (by omega),aaa (by simp)];exact Prod.ext (by simp;omega) rfl
 ·rw[hP];unfold Lib.decodeN
  rw[aab (by omega),aab (by omega),aab (by omega),aaa ⟨by omega,c3,c4,c5⟩,aaa (by omega),aaa (by simp)];exact Prod.ext (by simp;omega) rfl
 ·rw[hP,aab (by simp)];unfold Lib.decodeN
  rw[aab c1]
  split
  ·rw[aab (by omega)]
  ·split
   ·rw[aab (by omega)]
   ·split
    ·rw[aab (by omega)]
    ·rfl
def Kw(m l:Bs)(hk:∀k,k<(point l 0).2->aM m k=aM l k)(hm:(point l 0).2<=m.length)(h2:0<(point l 0).2)(hl:(point l 0).2<=l.length):point m 0=point l 0:=by
 rcases nR l _ _ _ _ _ rfl (by omega) rfl rfl rfl rfl with⟨c1,hP⟩|⟨c1,c2,c3,c4,hP⟩|⟨c1,c2,c3,c4,c5,c6,hP⟩|⟨c1,c2,c3,c4,c5,c6,c7,hP⟩|⟨c1,c2,c3,c4,hP⟩
 ·rw[hP]at hk hm ⊢;simp only at hk hm
  rw[<-hk 0 (by omega)]at c1 ⊢;rcases nR m _ _ _ _ _ rfl (by omega) rfl rfl rfl rfl with⟨d1,hQ⟩|⟨d1,d2,d3,d4,hQ⟩|⟨d1,d2,d3,d4,d5,d6,hQ⟩|⟨d1,d2,d3,d4,d5,d6,d7,hQ⟩|⟨d1,d2,d3,d4,hQ⟩
  ·exact hQ
  all_goals (exfalso;omega)
 ·rw[hP]at hk hm ⊢;simp only at hk hm
  have e0:=hk 0 (by omega);have e1:=hk 1 (by omega);rw[<-e0,<-e1]at c4 ⊢;rw[<-e0]at c1 c2;rw[<-e1]at c3;rcases nR m _ _ _ _ _ rfl (by omega) rfl rfl rfl rfl with⟨d1,hQ⟩|⟨d1,d2,d3,d4,hQ⟩|⟨d1,d2,d3,d4,d5,d6,hQ⟩|⟨d1,d2,d3,d4,d5,d6,d7,hQ⟩|⟨d1,d2,d3,d4,hQ⟩
  ·exfalso;omega
  ·exact hQ
  all_goals (exfalso;omega)
 ·rw[hP]at hk hm ⊢;simp only at hk hm
  have e0:=hk 0 (by omega);have e1:=hk 1 (by omega);have e2:=hk 2 (by omega);rw[<-e0,<-e1,<-e2]at c5 c6 ⊢;rw[<-e0]at c1 c2;rw[<-e1]at c3;rw[<-e2]at c4;rcases nR m _ _ _ _ _ rfl (by omega) rfl rfl rfl rfl with⟨d1,hQ⟩|⟨d1,d2,d3,d4,hQ⟩|⟨d1,d2,d3,d4,d5,d6,hQ⟩|⟨d1,d2,d3,d4,d5,d6,d7,hQ⟩|⟨d1,d2,d3,d4,hQ⟩
  ·exfalso;omega
  ·exfalso;omega
  ·exact hQ
  all_goals (exfalso;omega)
 ·rw[hP]at hk hm ⊢;simp only at hk hm
  have e0:=hk 0 (by omega);have e1:=hk 1 (by omega);have e2:=hk 2 (by omega);have e3:=hk 3 (by omega);rw[<-e0,<-e1,<-e2,<-e3]at c6 c7 ⊢;rw[<-e0]at c1 c2;rw[<-e1]at c3;rw[<-e2]at c4;rw[<-e3]at c5;rcases nR m _ _ _ _ _ rfl (by omega) rfl rfl rfl rfl with⟨d1,hQ⟩|⟨d1,d2,d3,d4,hQ⟩|⟨d1,d2,d3,d4,d5,d6,hQ⟩|⟨d1,d2,d3,d4,d5,d6,d7,hQ⟩|⟨d1,d2,d3,d4,hQ⟩
  ·exfalso;omega
  ·exfalso;omega
  ·exfalso;omega
  ·exact hQ
  ·exfalso;omega
 ·rw[hP]at h2;simp at h2
def oK(s:ByteArray):Lib.decodeGo s=if s.size=0 then (65533,0) else if dL s.data.toList=true then point s.data.toList 0 else (65533,1):=by
 unfold Lib.decodeGo;by_cases h:s.size=0
 ·rw[aaa h,aaa h]
 ·rw[aab h,aab h,Lib.decode_at,get_at,get_at,get_at,get_at]
  have:=Ai s.data.toList (s.size-0) (by rw[<-aae];rfl) (by omega);simp only[aaP];rw[this];simp only[dL,aax]
def Kv{l:Bs}(h:(point l 0).2=1):(point l 0).1<128:=by
 rcases abE l.length with h0|h0
 ·have:=(uw l).1;omega
 ·rcases nR l _ _ _ _ _ rfl h0 rfl rfl rfl rfl with⟨c1,hP⟩|⟨c1,c2,c3,c4,hP⟩|⟨c1,c2,c3,c4,c5,c6,hP⟩|⟨c1,c2,c3,c4,c5,c6,c7,hP⟩|⟨c1,c2,c3,c4,hP⟩<;>rw[hP]at h ⊢<;>simp at h ⊢
  exact c1
def nil_of_size{s:ByteArray}(h:s.size=0):s.data.toList=[]:=aaQ (by rw[<-aae];exact h)
def JU(s:ByteArray):dL s.data.toList=(decide ((Lib.decodeGo s).1≠65533)||decide (1<(Lib.decodeGo s).2)):=by
 rw[oK];by_cases h:s.size=0
 ·rw[aaa h,nil_of_size h];rfl
 ·rw[aab h]
  by_cases hk:dL s.data.toList=true
  ·rw[aaa hk,hk]
   have h2:0<(point s.data.toList 0).2:=(by simpa[dL]using hk);rcases aaz 1 (point s.data.toList 0).2 with h3|h3
   ·simp[h3]
   ·have:=Kv (l:=s.data.toList) (by omega)
    have:(point s.data.toList 0).1≠65533:=by omega
    simp[this]
  ·rw[aab hk];simpa using hk
def Gj{s:ByteArray}(h:dF s.data.toList=true):Lib.decodeGo s=point s.data.toList 0:=by
 have hk:dL s.data.toList=true:=by unfold dF at h;simp at h;exact h.1
 rw[oK,aab,aaa hk];intro h0;rw[nil_of_size h0]at hk;cases hk
def qp(l:Bs)(h:l≠[]):1<=eF l/\eF l<=l.length:=by
 have h1:=(uw l).1;have h2:=aaM.2 h;unfold eF;omega
def Dh(s:ByteArray)(h:¬ s.size=0):(Lib.decodeGo s).2=eF s.data.toList:=by
 rw[oK,aab h];unfold eF;by_cases hk:dL s.data.toList=true
 ·have h2:0<(point s.data.toList 0).2:=by simpa[dL]using hk
  rw[aaa hk];omega
 ·have h2:¬ 0<(point s.data.toList 0).2:=by simpa[dL]using hk
  rw[aab hk];simp only[];omega
def Ar(s:ByteArray)(h:¬ s.size=0):1<=(Lib.decodeGo s).2/\(Lib.decodeGo s).2<=s.size:=by
 rw[Dh s h,aae];exact qp _ (fun e=>h (by rw[aae,e];rfl))
def Gf(s:ByteArray)(h:dL s.data.toList=false):(Lib.decodeGo s).1=65533:=by
 rw[oK,h];by_cases h0:s.size=0
 ·rw[aaa h0]
 ·rw[aab h0];rfl
def Gi(s:ByteArray):(Lib.decodeGo s).1<=1114111:=by
 rw[oK]
 split
 ·simp
 ·split
  ·exact Kt _
  ·simp
def xD(s:ByteArray)(i:Nat)(h:i<s.size):Utf8.decode s i=Lib.decodeGo (s.extract i s.size):=by
 have e:(s.extract i s.size).data.toList=s.data.toList.drop i:=by
  rw[adN,aav];rw[aaH,<-aae];exact Pe _
 have hs:(s.extract i s.size).size=s.size-i:=by rw[aae,e,aaH,<-aae]
 rw[oK,aab (by omega),e];rw[Lib.decode_at,get_at,get_at,get_at,get_at];have:=Ai (s.data.toList.drop i) (s.size-i) (by rw[aaH,<-aae]) (by omega);rw[nJ,nJ,nJ,nJ,abw]at this;rw[this];simp only[dL,aax]
theorem yC:∀(k:Nat) (l:Bs),l.length<=k->o5 k l=o5 l.length l
 |0,l,h=>by have:l=[]:=aaQ (by omega);subst this;rfl
 |k+1,[],h=>rfl
 |k+1,x::r,h=>by
  have hb:=qp (x::r) (by simp);simp only[aaF]at h hb;show(if x::r=[] then [] else (x::r).take (eF (x::r))::o5 k ((x::r).drop (eF (x::r))))=(if x::r=[] then [] else (x::r).take (eF (x::r))::o5 r.length ((x::r).drop (eF (x::r))));rw[aab (by simp),aab (by simp),yC k _ (by simp;omega),yC r.length _ (by simp;omega)]
def C8:pieces []=[]:=rfl
def rE(l:Bs)(h:l≠[]):pieces l=l.take (eF l)::pieces (l.drop (eF l)):=by
 have hb:=qp l h;have hl:=aaM.2 h;unfold pieces;obtain⟨k,hk⟩:∃k,l.length=k+1:=⟨l.length-1,by omega⟩;rw[hk];show(if l=[] then [] else l.take (eF l)::o5 k (l.drop (eF l)))=_;rw[aab h,yC k _ (by simp;omega)]
def CY{P:Bs->Prop}(h0:P [])(h1:∀l,l≠[]->P (l.drop (eF l))->P l):∀l,P l:=by
 have key:∀(k:Nat) (l:Bs),l.length<=k->P l:=by
  intro k
  induction k with
  |zero=>intro l hl;rw[aaQ (Nat.le_zero.1 hl)];exact h0
  |succ k ih=>
   intro l hl;by_cases he:l=[]
   ·rw[he];exact h0
   ·exact h1 l he (ih _ (by have:=qp l he;simp;omega))
 exact fun l=>key _ l (Pe _)
def CX(l:Bs):(pieces l).flatten=l:=by
 induction l using CY with
 |h0=>rfl
 |h1 l h ih=>rw[rE l h,adc,ih,aaY]
def CZ(l:Bs):(pieces l).length<=l.length:=by
 induction l using CY with
 |h0=>simp[C8]
 |h1 l h ih=>rw[rE l h,aaF];have:=qp l h;rw[aaH]at ih;omega
def Ky(l:Bs)(h:dL l=true):point (l.take (eF l)) 0=point l 0/\eF l=(point l 0).2:=by
 have h2:0<(point l 0).2:=by simpa[dL]using h
 have hps:eF l=(point l 0).2:=by unfold eF;omega
 refine⟨?_,hps⟩;rw[hps];exact Kw (l.take (point l 0).2) l (fun k hk=>by unfold aM;rw[afJ hk]) (by have:=(uw l).1;simp;omega) h2 (uw l).1
def CW(l:Bs)(h:l≠[]):dF (l.take (eF l))=dL l/\(dL l=true->point (l.take (eF l)) 0=point l 0):=by
 by_cases hk:dL l=true
 ·obtain⟨h1,h2⟩:=Ky l hk
  have hb:=qp l h;refine⟨?_,fun _=>h1⟩;unfold dF dL;rw[h1,aaI,<-h2];have e:min (eF l) l.length=eF l:=by omega
  rw[e];simp
 ·have hz:(point l 0).2=0:=by
   have:¬ 0<(point l 0).2:=by simpa[dL]using hk
   omega
  have hp:eF l=1:=by unfold eF;omega
  refine⟨?_,fun h=>absurd h hk⟩;have hf:dL l=false:=by simpa using hk
  rw[hf,hp];obtain⟨x,r,rfl⟩:∃x r,l=x::r:=by
   cases l with
   |nil=>exact absurd rfl h
   |cons x r=>exact⟨x,r,rfl⟩
  unfold dF;have hx:dL [x]=false:=by
   have hb:¬ aM (x::r) 0<128:=by
    intro hlt;rcases nR (x::r) _ _ _ _ _ rfl (by simp) rfl rfl rfl rfl with⟨c1,hP⟩|⟨c1,c2,c3,c4,hP⟩|⟨c1,c2,c3,c4,c5,c6,hP⟩|⟨c1,c2,c3,c4,c5,c6,c7,hP⟩|⟨c1,c2,c3,c4,hP⟩
    ·rw[hP]at hz;simp at hz
    ·omega
    ·omega
    ·omega
    ·exact c1 hlt
   have he:aM (x::r) 0=aM [x] 0:=rfl;rw[he]at hb;rcases nR [x] 1 _ _ _ _ rfl (by simp) rfl rfl rfl rfl with⟨c1,hP⟩|⟨c1,c2,c3,c4,hP⟩|⟨c1,c2,c3,c4,c5,c6,hP⟩|⟨c1,c2,c3,c4,c5,c6,c7,hP⟩|⟨c1,c2,c3,c4,hP⟩
   ·exact absurd c1 hb
   ·omega
   ·omega
   ·omega
   ·unfold dL;rw[hP];rfl
  show(dL [x]&&_)=false;rw[hx];rfl
def Bv(_:Int):Prop:=True
def Ev(r:Int):Prop:=r≠181/\r≠223/\r≠255
instance (r:Int):Decidable (Bv r):=by unfold Bv;infer_instance
instance (r:Int):Decidable (Ev r):=by unfold Ev;infer_instance
def iX:List Bs->Nat->Option Nat
 |[],_=>none
 |p::r,i=>if dF p=true then iX r (i+p.length) else some i
def iC(l:Bs):List Bs×Nat×Nat:=
 if 16384<l.length then ([],0,2)
 else match iX (pieces l) 0 with
  |some i=>([],i,3)
  |none=>(pieces l,0,0)
def H6(l:Bs):List Bs:=(iC l).1
def kY(l:Bs):Nat:=(iC l).2.1
def eQ(l:Bs):Nat:=(iC l).2.2
def MV{l:Bs}{pos n:Nat}{done:List Bs}(hp:n=eF (l.drop pos))(hk:dL (l.drop pos)=true)(hlt:pos<l.length)(hn:pos+n<=l.length)
  (h:pieces l=done++pieces (l.drop pos)/\(∀p∈done,dF p=true)/\done.flatten.length=pos) :
  pieces l=(done++[(l.drop pos).take n])++pieces (l.drop (pos+n))/\(∀p∈done++[(l.drop pos).take n],dF p=true)/\(done++[(l.drop pos).take n]).flatten.length=pos+n:=by
 have hne:l.drop pos≠[]:=by intro e;have:=aaw List.length e;simp at this;omega
 obtain⟨h1,h2,h3⟩:=h;refine⟨?_,?_,?_⟩
 ·rw[h1,rE _ hne,<-hp,aeh];simp
 ·intro p hm
  rcases aaG.1 hm with hm|hm
  ·exact h2 p hm
  ·rw[aar.1 hm,hp,(CW _ hne).1,hk]
 ·rw[afa,aas,h3];simp;omega
def En(d r:List Bs):∀i,(∀p∈d,dF p=true)->iX (d++r) i=iX r (i+d.flatten.length):=by
 induction d with
 |nil=>intro i _;simp
 |cons p d ih=>
  intro i h;simp only[abZ,iX];rw[aaa (h p (by simp)),ih _ fun q hq=>h q (by simp[hq])];simp[acV]
def MW{l:Bs}{pos:Nat}{done:List Bs}(hl:l.length<=16384)(hk:dL (l.drop pos)=false)
  (h:pieces l=done++pieces (l.drop pos)/\(∀p∈done,dF p=true)/\done.flatten.length=pos) (hlt:pos<l.length):H6 l=[]/\kY l=pos/\eQ l=3:=by
 have hne:l.drop pos≠[]:=by intro e;have:=aaw List.length e;simp at this;omega
 obtain⟨h1,h2,h3⟩:=h;have e:iC l=([],pos,3):=by
  unfold iC;rw[aab (by omega),h1,En _ _ _ h2,rE _ hne];simp only[iX];rw[aab (by rw[(CW _ hne).1,hk];simp),h3];simp
 unfold H6 kY eQ;rw[e];exact⟨rfl,rfl,rfl⟩
def MR{l:Bs}{pos:Nat}{done:List Bs}(hl:l.length<=16384)
  (h:pieces l=done++pieces (l.drop pos)/\(∀p∈done,dF p=true)/\done.flatten.length=pos) (hlt:l.length<=pos):H6 l=done/\kY l=0/\eQ l=0:=by
 obtain⟨h1,h2,h3⟩:=h;rw[abo hlt,C8,acb]at h1;have e:iC l=(done,0,0):=by
  unfold iC;have:=En done [] 0 h2;rw[acb]at this;rw[aab (by omega),h1,this]
  rfl
 unfold H6 kY eQ;rw[e];exact⟨rfl,rfl,rfl⟩
def mQ(l:List Bs)(k:Nat):Nat:=(l.take k).flatten.length
def JR(l:List Bs)(k:Nat):mQ l k<=l.flatten.length:=by
 unfold mQ
 conv=>rhs;rw[<-aaY k l,afa,aas]
 omega
def JS(l:List Bs)(k:Nat)(h:k<l.length):mQ l (k+1)=mQ l k+l[k].length:=by
 unfold mQ;rw[aau h,afa,aas];simp
def NB(l:List Bs):∀(i:Nat),(∀p∈l,dF p=true)->iX l i=none:=by
 induction l with
 |nil=>intro i _;rfl
 |cons p r ih=>intro i h;simp only[iX];rw[aaa (h p (by simp))];exact ih _ fun q hq=>h q (by simp[hq])
def NA(l:List Bs):∀(i k:Nat) (hk:k<l.length),(∀p∈l.take k,dF p=true)->dF l[k]=false->iX l i=some (i+(l.take k).flatten.length):=by
 induction l with
 |nil=>intro i k hk;simp at hk
 |cons p r ih=>
  intro i k hk h hf
  cases k with
  |zero=>simp only[acy]at hf;simp[iX,hf]
  |succ k=>
   simp only[iX];rw[aaa (h p (by simp)),ih (i+p.length) k (by simpa using hk) (fun q hq=>h q (by simp[hq])) (by simpa using hf)];simp;omega
def NC(l:List Bs)(k:Nat)(hk:k<l.length)(h:∀p∈l.take k,dF p=true)(hf:dF l[k]=false):iX l 0=some (mQ l k):=by
 rw[NA l 0 k hk h hf];simp[mQ]
def QH{t:Bs}(h:dF t=true):dL t=true/\(point t 0).2=t.length:=by
 unfold dF at h;simpa using h
def dM(s:Bs):Bool:=decide (eQ s=0) && !s.isEmpty&&s.all fun c=>decide (c≠46/\c≠64)
structure aH where
 op:UInt8
 feat:Bs
 val:Bs
deriving DecidableEq
def fA(c:UInt8):Bool:=decide (c=80\/c=78\/c=85)
def fw(c:UInt8):Bool:=decide (c=80\/c=78\/c=85\/c=82\/c=68)
def eD(c:UInt8):Bool:=decide (c=80\/c=78\/c=85\/c=82\/c=68\/c=67)
def jE(f:aH):Bool:=eD f.op&&dM f.feat&&(if f.val=[] then !fA f.op else fw f.op&&dM f.val)
def gZ(v:Bs):Bs:=if v=[] then [] else 46::v
def bU(f:aH):Bs:=64::f.op::46::(f.feat++gZ f.val++[64])
def aN(f:aH):Bool:=jE f&&decide ((bU f).length<=40)
def iP(f:aH):Bs:=if jE f=true then bU f else []
def dX:aH:=⟨0,[],[]⟩
def ja(cur:Bs):Bs->List Bs
 |[]=>[cur]
 |c::r=>if c=46 then cur::ja [] r else ja (cur++[c]) r
def dots(s:Bs):List Bs:=ja [] s
def uj(l:List Bs):aH:=⟨(l.getD 0 []).headD 0,l.getD 1 [],l.getD 2 []⟩
def inner(s:Bs):Bs:=(s.drop 1).take (s.length-2)
def bR(s:Bs):Option aH:=
 if 40<s.length\/s.length<2 then none
 else if (dots (inner s)).length<2\/3<(dots (inner s)).length\/((dots (inner s)).getD 0 []).length≠1 then none
 else if iP (uj (dots (inner s)))≠s then none else some (uj (dots (inner s)))
def jS:Bs->Bs×Bs
 |[]=>([],[])
 |c::r=>if c=46 then ([],r) else (c::(jS r).1,(jS r).2)
def rH(s:Bs):Bs:=(s.drop 3).take (s.length-4)
def kS(s:Bs):aH:=⟨s.getD 1 0,(jS (rH s)).1,(jS (rH s)).2⟩
def aCf(s:Bs):Option aH:=
 if s.length<5\/40<s.length\/s.getD 0 0≠64\/s.getD 2 0≠46\/s.getD (s.length-1) 0≠64 then none
 else if aN (kS s)=true/\bU (kS s)=s then some (kS s) else none
theorem vB:∀(s cur:Bs),(∀c∈s,c≠46)->ja cur s=[cur++s]
 |[],cur,_=>by simp[ja]
 |c::r,cur,h=>by
  have h1:=h c aal;rw[ja,aab h1,vB r _ (fun d hd=>h d (aaj _ hd))];simp
theorem vz:∀(s cur r:Bs),(∀c∈s,c≠46)->ja cur (s++46::r)=(cur++s)::ja [] r
 |[],cur,r,_=>by simp[ja]
 |c::s,cur,r,h=>by
  have h1:=h c aal;rw[abZ,ja,aab h1,vz s _ r (fun d hd=>h d (aaj _ hd))];simp
theorem Ad:∀(s:Bs),(∀c∈s,c≠46)->jS s=(s,[])
 |[],_=>rfl
 |c::r,h=>by
  rw[jS,aab (h c aal),Ad r (fun d hd=>h d (aaj _ hd))]
theorem QP:∀(s r:Bs),(∀c∈s,c≠46)->jS (s++46::r)=(s,r)
 |[],r,_=>by simp[jS]
 |c::s,r,h=>by
  rw[abZ,jS,aab (h c aal),QP s r (fun d hd=>h d (aaj _ hd))]
def qo{s:Bs}(h:dM s=true):s≠[]/\eQ s=0/\(∀c∈s,c≠46)/\∀c∈s,c≠64:=by
 unfold dM at h;simp only[aaE,aax,aaT,afz,List.isEmpty_eq_false_iff]at h;exact⟨h.1.2,h.1.1,fun c hc=>(h.2 c hc).1,fun c hc=>(h.2 c hc).2⟩
def II{c:UInt8}(h:eD c=true):c≠46:=by
 unfold eD at h;simp only[aax]at h;rintro rfl
 revert h;decide
def qd{f:aH}(h:jE f=true):eD f.op=true/\dM f.feat=true/\(f.val≠[]->dM f.val=true):=by
 unfold jE at h;simp only[aaE]at h;refine⟨h.1.1,h.1.2,fun hv=>?_⟩;have:=h.2;rw[aab hv]at this;simp only[aaE]at this;exact this.2
def qf(f:aH):(bU f).length=4+f.feat.length+(gZ f.val).length:=by
 unfold bU;simp;omega
def Iq(f:aH):inner (bU f)=f.op::46::(f.feat++gZ f.val):=by
 unfold inner;rw[qf];show(List.take _ (f.op::46::(f.feat++gZ f.val++[64])))=_;have:4+f.feat.length+(gZ f.val).length-2=(f.op::46::(f.feat++gZ f.val)).length:=by simp;omega
 rw[this];show List.take _ ((f.op::46::(f.feat++gZ f.val))++[64])=_;rw[List.take_left']
 rfl
def AB{f:aH}(h:jE f=true):dots (inner (bU f))=[f.op]::f.feat::(if f.val=[] then [] else [f.val]):=by
 obtain⟨h1,h2,h3⟩:=qd h;obtain⟨_,_,p2,_⟩:=qo h2;rw[Iq,dots,ja,aab (II h1),abH];show ja [f.op] (46::(f.feat++gZ f.val))=_;rw[ja,aaa rfl];unfold gZ;by_cases hv:f.val=[]
 ·rw[aaa hv,aaa hv,acb,vB _ _ p2];rfl
 ·rw[aab hv,aab hv,vz _ _ _ p2,vB _ _ (qo (h3 hv)).2.2.1];rfl
def Hw{f:aH}(h:jE f=true):uj (dots (inner (bU f)))=f:=by
 rw[AB h];obtain⟨o,t,v⟩:=f;by_cases hv:v=[]
 ·subst hv;rfl
 ·simp only[aab hv];rfl
def Lg(f:aH):rH (bU f)=f.feat++gZ f.val:=by
 unfold rH;rw[qf];show List.take _ (f.feat++gZ f.val++[64])=_;rw[List.take_left'];simp;omega
def Hu{f:aH}(h:jE f=true):kS (bU f)=f:=by
 obtain⟨h1,h2,h3⟩:=qd h;obtain⟨_,_,p2,_⟩:=qo h2;unfold kS;rw[Lg];obtain⟨o,t,v⟩:=f;unfold gZ;by_cases hv:v=[]
 ·subst hv
  simp only[acf,acb];rw[Ad _ p2];rfl
 ·simp only[aab hv]
  rw[QP _ _ p2];rfl
def Hy{f:aH}:(bU f).getD 0 0=64/\(bU f).getD 2 0=46/\(bU f).getD ((bU f).length-1) 0=64:=by
 refine⟨rfl,rfl,?_⟩;rw[qf];unfold bU;have:4+f.feat.length+(gZ f.val).length-1=(f.feat++gZ f.val).length+3:=by simp;omega
 rw[this];show(f.feat++gZ f.val++[64]).getD (f.feat++gZ f.val).length 0=64;rw[aaf,aaU (Pe _)];simp
def uu(s:Bs)(f:aH):bR s=some f↔aN f=true/\bU f=s:=by
 unfold aN;rw[aaE,aax];constructor
 ·intro h
  unfold bR at h
  split at h
  ·cases h
  ·rename_i h1
   split at h
   ·cases h
   ·split at h
    ·cases h
    ·rename_i h3
     simp only[aao]at h;rw[h]at h3;simp only[abb]at h3;unfold iP at h3;by_cases hk:jE f=true
     ·rw[aaa hk]at h3
      exact⟨⟨hk,by rw[h3];omega⟩,h3⟩
     ·rw[aab hk]at h3
      subst h3;simp at h1
 ·rintro⟨⟨hk,hl⟩,rfl⟩
  have h5:=qf f;have hd:=AB hk;unfold bR;rw[aab (by omega),Hw hk,aab,aab]
  ·unfold iP;rw[aaa hk];simp
  ·rw[hd]
   by_cases hv:f.val=[]
   ·rw[aaa hv];simp
   ·rw[aab hv];simp
def CK(s:Bs)(f:aH):aCf s=some f↔aN f=true/\bU f=s:=by
 constructor
 ·intro h
  unfold aCf at h
  split at h
  ·cases h
  ·split at h
   ·rename_i h2
    simp only[aao]at h;rw[h]at h2;exact h2
   ·cases h
 ·rintro⟨hk,rfl⟩
  have hk0:=hk;unfold aN at hk;rw[aaE,aax]at hk;have h5:=qf f;have hp:=qo (qd hk.1).2.1;have:0<f.feat.length:=aaM.2 hp.1;obtain⟨e1,e2,e3⟩:=Hy (f:=f);unfold aCf;rw[aab,Hu hk.1,aaa ⟨hk0,rfl⟩];rintro(h|h|h|h|h)
  ·omega
  ·omega
  ·exact h e1
  ·exact h e2
  ·exact h e3
def J8(s:Bs):aCf s=bR s:=by
 cases h:aCf s with
 |some f=>exact((uu s f).2 ((CK s f).1 h)).symm
 |none=>
  cases k:bR s with
  |none=>rfl
  |some f=>rw[(CK s f).2 ((uu s f).1 k)]at h;cases h
structure eU where
 kind:Nat
 of:Bs
deriving DecidableEq
def iF:eU:=⟨0,[]⟩
def jZ(m:eU)(op:UInt8)(v:Bs):Option eU:=
 if op=80 then some ⟨1,v⟩
 else if op=78 then some ⟨2,v⟩
 else if op=67 then some iF
 else if op=82 then (if v=[] then (if m.kind≠0 then some m else none) else if m=⟨1,v⟩ then some m else none)
 else if op=68 then (if v=[] then (if m.kind=0 then some m else none) else if m≠⟨1,v⟩ then some m else none)
 else (if m.kind=0\/(m.kind=1/\m.of=v)\/(m.kind=2/\m.of≠v) then some ⟨1,v⟩ else none)
abbrev aBK:=List (Bs×eU)
def aP:aBK->Bs->eU
 |[],_=>iF
 |(k,v)::r,f=>if k=f then v else aP r f
def iW:aBK->Bs->eU->aBK
 |[],f,x=>[(f,x)]
 |(k,v)::r,f,x=>if k=f then (k,x)::r else (k,v)::iW r f x
def fT(m:aBK)(f:aH):Option aBK:=(jZ (aP m f.feat) f.op f.val).map (iW m f.feat)
def jL:aBK->List aH->Option aBK
 |m,[]=>some m
 |m,f::r=>match fT m f with|some m'=>jL m' r|none=>none
def jH(l:List aH):Bool:=l.all aN&&(jL [] l).isSome
theorem vK:∀(m:aBK) (f g:Bs) (x:eU),aP (iW m f x) g=if f=g then x else aP m g
 |[],f,g,x=>by
  show(if f=g then x else iF)=_
  rfl
 |(k,v)::r,f,g,x=>by
  unfold iW;by_cases h:k=f
  ·rw[aaa h]
   subst h;by_cases h2:k=g
   ·rw[aP,aaa h2,aaa h2]
   ·rw[aP,aab h2,aab h2,aP,aab h2]
  ·rw[aab h,aP,vK r f g x,aP]
   by_cases h2:k=g
   ·rw[aaa h2,aaa h2,aab (fun e=>h (h2.trans e.symm))]
   ·rw[aab h2,aab h2]
structure OH where
 feat:Bs
 val:Bs
 no:Bool
deriving DecidableEq
def yc(m:eU):Prop:=(m.kind=0/\m.of=[])\/((m.kind=1\/m.kind=2)/\m.of≠[])
def H9{f:aH}(h:aN f=true):(f.op=80/\f.val≠[])\/(f.op=78/\f.val≠[])\/(f.op=85/\f.val≠[])\/(f.op=67/\f.val=[])\/f.op=82\/f.op=68:=by
 unfold aN jE at h;simp only[aaE,aax]at h;have hk:=h.1.1.1;have hv:=h.1.2;unfold eD at hk;simp only[aax]at hk;by_cases e:f.val=[]
 ·rw[aaa e]at hv
  unfold fA at hv;simp only[afz,aeo,acw]at hv;rcases hk with k|k|k|k|k|k
  ·exact absurd k hv.1
  ·exact absurd k hv.2.1
  ·exact absurd k hv.2.2
  ·exact aad (aad (aad (aad (aam k))))
  ·exact aad (aad (aad (aad (aad k))))
  ·exact aad (aad (aad (aam ⟨k,e⟩)))
 ·rw[aab e]at hv
  simp only[aaE]at hv;have hm:=hv.1;unfold fw at hm;simp only[aax]at hm;rcases hm with k|k|k|k|k
  ·exact aam ⟨k,e⟩
  ·exact aad (aam ⟨k,e⟩)
  ·exact aad (aad (aam ⟨k,e⟩))
  ·exact aad (aad (aad (aad (aam k))))
  ·exact aad (aad (aad (aad (aad k))))
def Nn{m x:eU}{f:aH}(hm:yc m)(hf:aN f=true)(h:jZ m f.op f.val=some x):yc x:=by
 rcases H9 hf with⟨e,v⟩|⟨e,v⟩|⟨e,v⟩|⟨e,v⟩|e|e
 all_goals (unfold jZ at h;rw[e]at h)
 ·simp only[acf,aao]at h;subst h;exact aad ⟨aam rfl,v⟩
 ·simp (decide:=true) only[ac0,acf,aao]at h;subst h;exact aad ⟨aad rfl,v⟩
 ·simp (decide:=true) only[ac0]at h
  split at h
  ·simp only[aao]at h;subst h;exact aad ⟨aam rfl,v⟩
  ·cases h
 ·simp (decide:=true) only[ac0,acf,aao]at h;subst h;exact aam ⟨rfl,rfl⟩
 ·simp (decide:=true) only[ac0,acf]at h
  split at h
  ·split at h
   ·simp only[aao]at h;subst h;exact hm
   ·cases h
  ·split at h
   ·simp only[aao]at h;subst h;exact hm
   ·cases h
 ·simp (decide:=true) only[ac0,acf]at h
  split at h
  ·split at h
   ·simp only[aao]at h;subst h;exact hm
   ·cases h
  ·split at h
   ·simp only[aao]at h;subst h;exact hm
   ·cases h
def dD(t:List Bs)(s:Int):Option aH:=if 1<=s/\s<=t.length then bR (t.getD (s-1).toNat []) else none
def eO(t:List Bs)(a:aO):Option aH:=match dD t a.inn with|some f=>some f|none=>dD t a.out
def fE(t:List Bs)(s:Int):Int:=if (dD t s).isSome=true then 0 else s
def dR(t:List Bs):List aO->List Bs->List Bs
 |[],l=>l
 |a::r,l=>match eO t a with
  |some f=>if f.feat∈l then dR t r l else dR t r (l++[f.feat])
  |none=>dR t r l
def fG(t:List Bs):List bI->List Bs->List Bs
 |[],l=>l
 |s::r,l=>fG t r (dR t s.arcs l)
def lY(k:Nat):Bs:=if k=0 then [] else if k=1 then [61] else [94]
def memT(m:eU):Bs:=lY m.kind++m.of++[46]
def dE(fs:List Bs)(m:aBK):Bs:=fs.flatMap fun f=>memT (aP m f)
def mY(p:Bs):eU:=if p.headD 0=61 then ⟨1,p.tail⟩ else ⟨2,p.tail⟩
def iJ:List Bs->List Bs->aBK->aBK
 |[],_,m=>m
 |f::r,ps,m=>if ps.headD []=[] then iJ r ps.tail m else iJ r ps.tail (iW m f (mY (ps.headD [])))
def jg(fs:List Bs)(text:Bs):aBK:=iJ fs (dots text) []
abbrev aR:=Int×Bs
def jr{γ:Type}[DecidableEq γ](l:List γ)(p:γ):Option Nat:=match l with|[]=>none|q::r=>if q=p then some 0 else (jr r p).map (· + 1)
def dG{γ:Type}[DecidableEq γ](l:List γ)(p:γ):Nat×List γ:=match jr l p with|some n=>(n,l)|none=>(l.length,l++[p])
def jy(t fs:List Bs)(mem:Bs)(a:aO):Option Bs:=match eO t a with
 |none=>some mem
 |some f=>(fT (jg fs mem) f).map (dE fs)
def iO(t fs:List Bs)(mem:Bs):List aO->List aR->List aO->List aO×List aR
 |[],l,out=>(out,l)
 |a::r,l,out=>match jy t fs mem a with
  |none=>iO t fs mem r l out
  |some to=>iO t fs mem r (dG l (a.to,to)).2 (out++[⟨fE t a.inn,fE t a.out,a.w,(dG l (a.to,to)).1⟩])
def wL(m:aQ)(q:Int):bI:=m.states.getD q.toNat ⟨[],[]⟩
def lC(m:aQ)(t fs:List Bs):Nat->Nat->List aR->List bI->Nat->Option (List bI)
 |0,_,_,_,_=>none
 |n+1,i,l,out,c=>if h:i<l.length then
   let r:=iO t fs l[i].2 (wL m l[i].1).arcs l []
   if 3000<r.2.length\/30000<c+r.1.length then none
   else lC m t fs n (i+1) r.2 (out++[⟨(wL m l[i].1).fin,r.1⟩]) (c+r.1.length)
  else some out
def gT(s:Bs):Bool:=!s.isEmpty&&decide (s.length<=40)&&decide (eQ s=0)
def l7(t:List Bs):Bool:=decide (t.length<=500)&&t.all gT&&decide t.Nodup
def rz:aQ:=⟨0,0,[],[]⟩
def jd(m:aQ)(t:List Bs):aQ×Nat:=
 if bM m=true/\l7 t=true then
  match lC m t (fG t m.states []) 3001 0 [(m.start,dE (fG t m.states []) [])] [] 0 with
  |some l=>(⟨m.kind,0,m.lead,l⟩,0)
  |none=>(rz,2)
 else (rz,1)
def stripL(x:List Int)(t:List Bs):List Int×Bool:=
 if x.length<=200/\l7 t=true/\x.all (fun s=>decide (1<=s/\s<=500))=true then (x.filter fun s=>(dD t s).isNone,jH (x.filterMap (dD t))) else ([],false)
def lG:List Bs:=[[64,80,46,97,46,120,64],[98],[64,68,46,97,46,120,64]]
def mG:aQ:=⟨1,0,[48],[⟨[],[⟨1,1,[48],1⟩]⟩,⟨[],[⟨2,2,[51],2⟩]⟩,⟨[52],[⟨3,3,[48],3⟩]⟩,⟨[49],[]⟩]⟩
def kr:aQ:=⟨1,0,[48],[⟨[],[⟨0,0,[48],1⟩]⟩,⟨[],[⟨2,2,[51],2⟩]⟩,⟨[52],[]⟩]⟩
def Hg:jd mG lG=(kr,0):=by decide +kernel
def JW{α:Type}{x:Except Nat α}{a:α}(h:x.toOption=some a):x=.ok a:=by
 cases x with
 |error e=>cases h
 |ok b=>simp only[Except.toOption,aao]at h;rw[h]
def Hf:uV kr [2]=.ok [55]:=JW (by decide +kernel)
open Go Go.Maps Go.RowKit
section
variable {α β:Type} {P:Program}
def bO[DecidableEq α]:List (α×β)->α->Option β
 |[],_=>none
 |(k,v)::r,a=>if k=a then some v else bO r a
def bQ[DecidableEq α]:List (α×β)->α->β->List (α×β)
 |[],a,x=>[(a,x)]
 |(k,v)::r,a,x=>if k=a then (k,x)::r else (k,v)::bQ r a x
theorem yz[DecidableEq α]:∀ {l:List (α×β)} {a:α},bO l a=none ↔ ∀p∈l,p.1≠a
 |[],a=>by simp[bO]
 |(k,v)::r,a=>by
  unfold bO;by_cases h:k=a
  ·rw[aaa h]
   exact⟨(fun e=>by cases e),(fun e=>absurd h (e (k,v) aal))⟩
  ·rw[aab h,yz]
   constructor
   ·intro e p hp
    rcases aay.1 hp with rfl|hp
    ·exact h
    ·exact e p hp
   ·exact fun e p hp=>e p (aaj _ hp)
theorem CB[DecidableEq α]:∀ {l:List (α×β)} {a:α} {i:Nat} {p:α×β},(l.map Prod.fst).Nodup->l[i]? = some p->p.1=a->bO l a=some p.2
 |(k,v)::r,a,0,p,_,h,e=>by
  simp only[afV,aao]at h;subst h;unfold bO;rw[aaa e]
 |(k,v)::r,a,i+1,p,hn,h,e=>by
  simp only[afU]at h;rw[aa5,aa8]at hn;have hm:p∈r:=abC h;unfold bO;rw[aab]
  ·exact CB hn.2 h e
  ·rintro rfl
   exact hn.1 (abk.2 ⟨p,hm,e⟩)
theorem vX[DecidableEq α]:∀ {l:List (α×β)} {a:α} {x:β},(∀p∈l,p.1≠a)->bQ l a x=l++[(a,x)]
 |[],a,x,_=>rfl
 |(k,v)::r,a,x,h=>by
  unfold bQ;rw[aab (h (k,v) aal),vX (fun p hp=>h p (aaj _ hp))]
  rfl
theorem CE[DecidableEq α]:∀ {l:List (α×β)} {a:α} {x:β} {i:Nat} {p:α×β},(l.map Prod.fst).Nodup->l[i]? = some p->p.1=a->bQ l a x=l.set i (a,x)
 |(k,v)::r,a,x,0,p,_,h,e=>by
  simp only[afV,aao]at h;subst h;unfold bQ;rw[aaa e,<-e];rfl
 |(k,v)::r,a,x,i+1,p,hn,h,e=>by
  simp only[afU]at h;rw[aa5,aa8]at hn;have hm:p∈r:=abC h;unfold bQ;rw[aab,CE hn.2 h e]
  ·rfl
  ·rintro rfl
   exact hn.1 (abk.2 ⟨p,hm,e⟩)
theorem yA[DecidableEq α]:∀ {l:List (α×β)} {a:α} {x:β},(l.map Prod.fst).Nodup->((bQ l a x).map Prod.fst).Nodup
 |[],a,x,_=>by simp[bQ]
 |(k,v)::r,a,x,h=>by
  rw[aa5,aa8]at h;unfold bQ;by_cases e:k=a
  ·rw[aaa e,aa5,aa8];exact h
  ·rw[aab e,aa5,aa8]
   refine⟨fun hm=>?_,yA h.2⟩;obtain⟨p,hp,hk⟩:=abk.1 hm;have key:∀ {l:List (α×β)} {p:α×β},p∈bQ l a x->p∈l\/p.1=a:=by
    intro l
    induction l with
    |nil=>
     intro p hp;simp only[bQ,aar]at hp;right;rw[hp]
    |cons q r ih=>
     obtain⟨k',v'⟩:=q;intro p hp;unfold bQ at hp;by_cases e':k'=a
     ·rw[aaa e']at hp
      rcases aay.1 hp with rfl|hp
      ·right;exact e'
      ·left;exact aaj _ hp
     ·rw[aab e']at hp
      rcases aay.1 hp with rfl|hp
      ·left;exact aal
      ·rcases ih hp with h|h
       ·left;exact aaj _ h
       ·right;exact h
   rcases key hp with h1|h1
   ·exact h.1 (abk.2 ⟨p,h1,hk⟩)
   ·exact e (hk.symm.trans h1)
theorem vW[DecidableEq α]:∀ {l:List (α×β)} {a b:α} {x:β},bO (bQ l a x) b=if a=b then some x else bO l b
 |[],a,b,x=>by
  unfold bQ bO
  rfl
 |(k,v)::r,a,b,x=>by
  unfold bQ;by_cases e:k=a
  ·rw[aaa e,bO,bO,e]
   by_cases h:a=b
   ·rw[aaa h,aaa h]
   ·rw[aab h,aab h,aab h]
  ·rw[aab e,bO,bO,vW]
   by_cases h:k=b
   ·rw[aaa h,aaa h,aab (fun h'=>e (h.trans h'.symm))]
   ·rw[aab h,aab h]
def bN(P:Program)(k:TypeId)(eK:α->Value)(eV:β->Value)(w:World)(b:Nat)(l:List (α×β)):Prop:=
 ∃es clock,w.heap[b]? = some (.map es clock)/\es.toList.map (fun e=>(e.key,e.val))=l.map (fun p=>(eK p.1,eV p.2))/\(l.map Prod.fst).Nodup
structure Enc (P:Program) (k:TypeId) (eK:α->Value) (ok:α->Prop):Prop where
 inj:∀ {a b},eK a=eK b->a=b
 key:∀a,ok a->∃kl,keyOf P k (eK a)=some kl
def bN.lt{k:TypeId}{eK:α->Value}{eV:β->Value}{w:World}{b:Nat}{l:List (α×β)}(h:bN P k eK eV w b l):b<w.heap.size:=by
 obtain⟨es,clock,h1,_⟩:=h;exact(abg.1 h1).1
def bN.same{k:TypeId}{eK:α->Value}{eV:β->Value}{w w':World}{b:Nat}{l:List (α×β)}(h:bN P k eK eV w b l)(hb:w'.heap[b]? = w.heap[b]?):bN P k eK eV w' b l:=by
 obtain⟨es,clock,h1,h2⟩:=h;exact⟨es,clock,hb.trans h1,h2⟩
def bN.below{k:TypeId}{eK:α->Value}{eV:β->Value}{w w':World}{b:Nat}{l:List (α×β)}(h:bN P k eK eV w b l)(hb:Below w w w'):bN P k eK eV w' b l:=h.same (hb.block b h.lt)
def bN.new{k:TypeId}{eK:α->Value}{eV:β->Value}(w:World):bN P k eK eV (w.alloc (.map #[] 0)) w.heap.size ([]:List (α×β)):=
 ⟨#[],0,aaq w _,rfl,abq⟩
def x9{k:TypeId}{eK:α->Value}{eV:β->Value}{es:Array MapEntry}{l:List (α×β)}(h2:es.toList.map (fun e=>(e.key,e.val))=l.map (fun p=>(eK p.1,eV p.2))){i:Nat}{e:MapEntry}(he:es.toList[i]? = some e):∃p,l[i]? = some p/\e.key=eK p.1/\e.val=eV p.2:=by
 have:=aaw (fun x=>x[i]?) h2;simp only[abA,he,aba]at this
 cases hl:l[i]? with
 |none=>rw[hl]at this;cases this
 |some p=>
  rw[hl]at this;simp only[aba,aao,adw]at this;exact⟨p,rfl,this.1,this.2⟩
def BJ{k:TypeId}{eK:α->Value}{eV:β->Value}{ok:α->Prop}(E:Enc P k eK ok){es:Array MapEntry}{l:List (α×β)}(hl:∀p∈l,ok p.1)(h2:es.toList.map (fun e=>(e.key,e.val))=l.map (fun p=>(eK p.1,eV p.2))):∀e∈es.toList,∃kl,keyOf P k e.key=some kl:=by
 intro e he;obtain⟨i,hi⟩:=adj he;obtain⟨p,hp,hk,_⟩:=x9 (k:=k) h2 hi;rw[hk];exact E.key p.1 (hl p (abC hp))
def bN.look[DecidableEq α]{k t e:TypeId}{eK:α->Value}{eV:β->Value}{w:World}{b:Nat}{l:List (α×β)}{z:Value}{ok:α->Prop}(K:Keyed P k)(E:Enc P k eK ok)(ht:P.underlying t=some (.map k e))(hz:(zeroValue e).run P w=.ok z w)
  (h:bN P k eK eV w b l) (hl:∀p∈l,ok p.1) (a:α) (ha:ok a) (c:Bool) :
  (Instr.lookup t (.map (some b)) (eK a) c).run P w=.ok (if c then .tuple #[((bO l a).map eV).getD z,.bool (bO l a).isSome] else ((bO l a).map eV).getD z) w:=by
 obtain⟨es,clock,h1,h2,h3⟩:=h;obtain⟨kl,hkl⟩:=E.key a ha;rcases K.find w hkl es.toList (BJ E hl h2) with⟨f1,f2⟩|⟨j,e0,f1,f2,f3⟩
 ·have hn:bO l a=none:=yz.2 fun p hp e1=>by
   obtain⟨i,hi⟩:=adj hp;have:=aaw (fun x=>x[i]?) h2;simp only[abA,hi,aba]at this
   cases hl:es.toList[i]? with
   |none=>rw[hl]at this;cases this
   |some e0=>
    rw[hl]at this;simp only[aba,aao,adw]at this;exact f2 e0 (abC hl) (by rw[this.1,e1])
  simp[Instr.lookup,acv ht,acz h1,K.check w _ hkl,f1,hz,Result.andThen,hn]
 ·obtain⟨p,hp,hk,hv⟩:=x9 (k:=k) h2 f2
  have hs:bO l a=some p.2:=CB h3 hp (E.inj (hk.symm.trans f3));simp[Instr.lookup,acv ht,acz h1,K.check w _ hkl,f1,Result.andThen,hs,hv]
def aU(w:World)(b:Nat)(o:Obj):World:={ w with heap:=w.heap.setIfInBounds b o }
def wH(w:World)(b:Nat)(o:Obj)(j:Nat)(h:j≠b):(aU w b o).heap[j]? = w.heap[j]?:=by
 show(w.heap.setIfInBounds b o)[j]? = _;rw[Array.getElem?_setIfInBounds_ne (fun e=>h e.symm)]
def yQ{B:Nat}(w:World)(b:Nat)(o:Obj)(h:B<=b):Below B w (aU w b o):=
 ⟨rfl,rfl,rfl,by show w.heap.size<=(w.heap.setIfInBounds b o).size;simp,fun j hj=>wH w b o j (by omega)⟩
def bN.put[DecidableEq α]{k t e:TypeId}{eK:α->Value}{eV:β->Value}{w:World}{b:Nat}{l:List (α×β)}{ok:α->Prop}(K:Keyed P k)(E:Enc P k eK ok)(ht:P.underlying t=some (.map k e))(h:bN P k eK eV w b l)(hl:∀p∈l,ok p.1)(a:α)(ha:ok a)(x:β) :
  ∃o,(Instr.mapUpdate t (.map (some b)) (eK a) (eV x)).run P w=.ok () (aU w b o)/\bN P k eK eV (aU w b o) b (bQ l a x):=by
 have hlt:=h.lt;obtain⟨es,clock,h1,h2,h3⟩:=h;obtain⟨kl,hkl⟩:=E.key a ha;have hnew:∀o,(aU w b o).heap[b]? = some o:=fun o=>by
  show(w.heap.setIfInBounds b o)[b]? = _;rw[Array.getElem?_setIfInBounds_self_of_lt hlt]
 rcases K.find w hkl es.toList (BJ E hl h2) with⟨f1,f2⟩|⟨j,e0,f1,f2,f3⟩
 ·have hn:∀p∈l,p.1≠a:=fun p hp e1=>by
   obtain⟨i,hi⟩:=adj hp;have:=aaw (fun x=>x[i]?) h2;simp only[abA,hi,aba]at this
   cases hl:es.toList[i]? with
   |none=>rw[hl]at this;cases this
   |some e0=>
    rw[hl]at this;simp only[aba,aao,adw]at this;exact f2 e0 (abC hl) (by rw[this.1,e1])
  refine⟨.map (es.push ⟨eK a,eV x,clock⟩) (clock+1),?_,es.push ⟨eK a,eV x,clock⟩,clock+1,hnew _,?_,?_⟩
  ·simp[Instr.mapUpdate,acv ht,acz h1,K.check w false hkl,f1,aev _ h1,Result.andThen,aU]
  ·rw[vX hn,Array.toList_push,aa3,aa3,h2];rfl
  ·exact yA h3
 ·obtain⟨p,hp,hk,hv⟩:=x9 (k:=k) h2 f2
  have hj:es[j]? = some e0:=by simpa using f2
  refine⟨.map (es.modify j fun e'=>{ e' with key:=eK a,val:=eV x }) clock,?_,_,clock,hnew _,?_,?_⟩
  ·simp[Instr.mapUpdate,acv ht,acz h1,K.check w false hkl,f1,hj,f3,K.stays w hkl,aev _ h1,Result.andThen,aU]
  ·rw[CE h3 hp (E.inj (hk.symm.trans f3)),Array.toList_modify,ChangeMaps.modify_eq_set _ _ _ _ f2,ac3,ac3,h2]
  ·exact yA h3
theorem rC[DecidableEq α]{ok:α->Prop}{a:α}{x:β}(ha:ok a):∀ {l:List (α×β)},(∀p∈l,ok p.1)->∀p∈bQ l a x,ok p.1
 |[],_,p,hp=>by
  simp only[bQ,aar]at hp;rw[hp];exact ha
 |(k,v)::r,h,p,hp=>by
  unfold bQ at hp;by_cases e:k=a
  ·rw[aaa e]at hp
   rcases aay.1 hp with rfl|hp
   ·exact h (k,v) aal
   ·exact h p (aaj _ hp)
  ·rw[aab e]at hp
   rcases aay.1 hp with rfl|hp
   ·exact h (k,v) aal
   ·exact rC ha (fun q hq=>h q (aaj _ hq)) p hp
def bN.size{k:TypeId}{eK:α->Value}{eV:β->Value}{w:World}{b:Nat}{l:List (α×β)}(h:bN P k eK eV w b l):∃es clock,w.heap[b]? = some (.map es clock)/\es.size=l.length:=by
 obtain⟨es,clock,h1,h2,h3⟩:=h;refine⟨es,clock,h1,?_⟩;have:=aaw List.length h2
 simpa using this
end
end Go.Proofs.YtppnecgeboonbaaGreatDoor
