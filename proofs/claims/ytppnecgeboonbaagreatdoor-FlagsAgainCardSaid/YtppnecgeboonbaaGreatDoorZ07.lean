/- Walks. -/
import Derived.Test.YtppnecgeboonbaaGreatDoorZ06
import Derived.Lib.SplitLaws
import Derived.Lib.IndexLaws
import Derived.Lib.IndexBytes
import Derived.Deep.RegionHeld3
import Derived.Lib.AppendIntMem
namespace Go.Proofs.YtppnecgeboonbaaGreatDoor
set_option maxRecDepth 100000
set_option linter.all false
set_option maxHeartbeats 2000000
open Go.RowKit Go.Maps
abbrev aD(op:UInt8)(t v:ByteArray):aH:=⟨op,t.data.toList,v.data.toList⟩
def fH(f:aH):Bs×Bool:=if aN f=true then (bU f,true) else ([],false)
def Ia(f:aH):(iP f=[]/\aN f=false)\/(jE f=true/\iP f=bU f/\5<=(bU f).length):=by
 unfold iP aN
 cases h:jE f with
 |false=>left;exact⟨by rw[aab (by simp)],rfl⟩
 |true=>
  right;refine⟨rfl,by rw[aaa rfl],?_⟩;have:=qf f;have hp:=qo (qd h).2.1;have:0<f.feat.length:=aaM.2 hp.1;omega
def vQ(op:UInt8)(t v:ByteArray)(w:World)(hT:bK w):Calls Tryz.prog 19 #[.agg #[.int .u8 op.toNat,.string t,.string v]] w fun e w'=>e=.returned (.tuple #[.string ⟨(fH (aD op t v)).1.toArray⟩,.bool (fH (aD op t v)).2])/\Below w w w':=by
 have hb0:Below w w (w.alloc (.cells #[.int .u8 op.toNat,.string t,.string v] 24)):=(aac _ _).alloc (Pe _) _;have c1:=fun W hW=>zl op t v W hW
 obtain⟨U,hU⟩:∃U:ByteArray,(⟨(iP (aD op t v)).toArray⟩:ByteArray)=U:=⟨_,rfl⟩;have UU:iP (aD op t v)=U.data.toList:=by rw[<-hU]
 rw[hU]at c1;rcases Ia (aD op t v) with⟨e1,e2⟩|⟨e0,e1,e2⟩
 ·have hem:U.toList.isEmpty=true:=jF (by rw[aae,<-UU,e1];rfl)
  have HX:Hid (fH (aD op t v)=([],false)):=by unfold Hid fH;rw[e2];rfl
  clear hU UU e1 e2;go_enter Tryz.func19,Tryz.ntmps19;go_wp2_with fail;refine(c1 _ (hT.below hb0)).mono ?_;rintro e w1 ⟨rfl,b1⟩;go_wp2_with fail;go_returns;exact⟨by rw[HX.out];rfl,ae hb0 b1⟩
 ·have hsz:U.size=(bU (aD op t v)).length:=by rw[aae,<-UU,e1]
  have hem:U.toList.isEmpty=false:=jI (by omega);by_cases V7:U.size<=40
  ·have d1:(U.size:Int)<=40:=by omega
   have HX:Hid (fH (aD op t v)=(U.data.toList,true)):=by unfold Hid fH aN;rw[e0,aaA (by omega),<-UU,e1];rfl
   clear hU UU e0 e1 e2 hsz V7;go_enter Tryz.func19,Tryz.ntmps19;go_wp2_with fail;refine(c1 _ (hT.below hb0)).mono ?_;rintro e w1 ⟨rfl,b1⟩;go_wp2_with fail;go_returns;exact⟨by rw[HX.out];rfl,ae hb0 b1⟩
  ·have d1:(40:Int)<(U.size:Int):=by omega
   have HX:Hid (fH (aD op t v)=([],false)):=by unfold Hid fH aN;rw[e0,aai (by omega)];rfl
   clear hU UU e0 e1 e2 hsz V7;go_enter Tryz.func19,Tryz.ntmps19;go_wp2_with fail;refine(c1 _ (hT.below hb0)).mono ?_;rintro e w1 ⟨rfl,b1⟩;go_wp2_with fail;go_returns;exact⟨by rw[HX.out];rfl,ae hb0 b1⟩
open Go.Lib (splitK index indexByte count index_one indexByte_none indexByte_some indexByte_ge count_miss count_hit)
theorem Ec:∀(n:Nat) (s:Bs),s.length<=n->splitK [46] 0 (count s [46]) s=dots s
 |n,s,hn=>by
  by_cases h:index s [46]=-1
  ·have h':indexByte s 46=-1:=by rw[<-aes];exact h
   have hno:∀c∈s,c≠46:=by
    rintro c hc rfl;obtain⟨k,hk⟩:=adj hc;exact indexByte_none h' k hk
   rw[count_miss h];unfold dots;rw[vB s [] hno]
   rfl
  ·have hge:=indexByte_ge s 46
   rw[<-aes]at hge;obtain⟨i,hi⟩:∃i:Nat,index s [46]=i:=⟨(index s [46]).toNat,by omega⟩;have hi':indexByte s 46=i:=by rw[<-aes];exact hi
   obtain⟨h1,h2⟩:=indexByte_some hi';have hlt:i<s.length:=(aby.1 h1).1;have hs:s=s.take i++46::s.drop (i+1):=by
    conv=>lhs;rw[<-aaY i s,aat hlt]
    rw[show s[i]=46 from by rw[aak hlt]at h1;exact acp h1]
   have hno:∀c∈s.take i,c≠46:=by
    rintro c hc rfl;obtain⟨k,hk⟩:=adj hc;rw[ac2]at hk
    split at hk
    ·rename_i hk';exact h2 k hk' hk
    ·cases hk
   rw[count_hit (by simp) hi,afM];show(if (index s [46] == -1)=true then [s] else s.take ((index s [46]).toNat+0)::splitK [46] 0 _ (s.drop ((index s [46]).toNat+1)))=_;rw[aab (by simpa using h),hi,abT,abw];show s.take i::splitK [46] 0 (count (s.drop (i+1)) [46]) (s.drop (i+1))=_
   match n,hn with
   |0,hn=>omega
   |n+1,hn=>
    rw[Ec n (s.drop (i+1)) (by rw[aaH];omega)]
    conv=>rhs;rw[hs]
    unfold dots;rw[vz _ _ _ hno]
    rfl
def Eb(s:ByteArray):(Lib.splitB ⟨#[46]⟩ 0 (Lib.countB s ⟨#[46]⟩) s).map (·.data.toList)=dots s.data.toList:=by
 rw[Lib.splitB_data];exact Ec _ _ (Pe _)
end Go.Proofs.YtppnecgeboonbaaGreatDoor
namespace Go.Proofs.YtppnecgeboonbaaGreatDoor.Rat3
set_option maxRecDepth 100000
set_option linter.all false
set_option maxHeartbeats 2000000
open Go.RowKit
def kF{k:IntKind}{a b:Int}(h:a=b):Ending.returned (.int k a)=.returned (.int k b):=by rw[h]
def uC{k k':IntKind}{a b c d:Int}(h:a=b)(h':c=d):Ending.returned (.tuple #[.int k a,.int k' c])=.returned (.tuple #[.int k b,.int k' d]):=by rw[h,h']
def uD{a b:ByteArray}(h:a.data.toList=b.data.toList):Ending.returned (.string a)=.returned (.string b):=by
 have:a=b:=by
  cases a;cases b;simp at h;rw[h]
 rw[this]
def ax{w:World}{a:Addr}{v:Value}(h:w.cell? a=some v):a.block<w.heap.size:=by
 rcases aaz a.block w.heap.size with hh|hh
 ·exact hh
 ·unfold World.cell? at h;rw[abY hh]at h;cases h
def Row(w:World)(v:Value)(cs:List Value):Prop:=
 ∃A c,v=.slice A cs.length c/\cs.length<=c/\(cs≠[]->∃b o,A=some ⟨b,o,none⟩/\b<w.heap.size/\∀(j:Nat) u,cs[j]? = some u->w.cell? ⟨b,o+j,none⟩=some u)
def Row.below{w w':World}{v:Value}{cs:List Value}(h:Row w v cs)(hb:Below w w w'):Row w' v cs:=by
 obtain⟨A,c,rfl,hc,hr⟩:=h;refine⟨A,c,rfl,hc,fun hne=>?_⟩;obtain⟨b,o,rfl,hlt,hcell⟩:=hr hne;exact⟨b,o,rfl,aah hlt hb.size,fun j u hu=>(hb.cell (p:=⟨b,o+j,none⟩) hlt).trans (hcell j u hu)⟩
def ay(w:World)(A:Option Addr)(cs:List Value):Prop:=
 cs≠[]->∃b o,A=some ⟨b,o,none⟩/\b<w.heap.size/\∀(j:Nat) u,cs[j]? = some u->w.cell? ⟨b,o+j,none⟩=some u
def ay.below{w w':World}{A:Option Addr}{cs:List Value}(h:ay w A cs)(hb:Below w w w'):ay w' A cs:=fun hne=>by
 obtain⟨b,o,rfl,hlt,hcell⟩:=h hne;exact⟨b,o,rfl,aah hlt hb.size,fun j u hu=>(hb.cell (p:=⟨b,o+j,none⟩) hlt).trans (hcell j u hu)⟩
def ay.nil(w:World)(A:Option Addr):ay w A []:=fun h=>absurd rfl h
def Row.to{w:World}{v:Value}{cs:List Value}{n:Nat}(h:Row w v cs)(hn:cs.length=n):∃A c,v=.slice A n c/\n<=c/\ay w A cs:=by
 obtain⟨A,c,rfl,hc,hr⟩:=h;subst hn;exact⟨A,c,rfl,hc,hr⟩
def Row.nil(w:World):Row w (.slice none 0 0) []:=⟨none,0,rfl,Pe _,fun h=>absurd rfl h⟩
def oL{w w':World}(h:Below w w w')(row:Option Nat):w.grownBy w' row:=⟨h.os,h.tape,h.output,h.size,fun k hk _=>h.block k hk⟩
def fC(B b:Nat)(l:Bs)(w:World):Prop:=Lib.IsBuilderF 134 5 B b (Lib.byteCells l) w
def fC.lt{B b:Nat}{l:Bs}{w:World}(h:fC B b l w):B<=b/\b<w.heap.size:=by
 rcases h with h|h
 ·exact⟨h.1,h.lt⟩
 ·exact⟨h.1,h.lt⟩
def sI{T e B b:Nat}{p:Value}{bs:List Value}{w w':World}(h:Lib.BuilderAtF T e B b p bs w)(hg:w.grownBy w' none):Lib.BuilderAtF T e B b p bs w':=by
 have hlt:=h.lt;obtain⟨hB,v,hb,hown,hne⟩:=h;exact⟨hB,v,(hg.block b hlt (by simp)).trans hb,hown.kept hg (by cases hv:v.ownBlock<;>simp),hne⟩
def fC.below{B b:Nat}{l:Bs}{w w':World}(h:fC B b l w)(hb:Below w w w'):fC B b l w':=by
 rcases h with h|h
 ·exact aam (sI h (oL hb none))
 ·exact aad (sI h (oL hb none))
def ae{w w1 w2:World}(h:Below w w w1)(hb:Below w1 w1 w2):Below w w w2:=h.trans (hb.mono h.size)
def eH(s:ByteArray)(a b:Nat):(s.extract a b).data.toList=(s.data.toList.drop a).take (b-a):=adN s a b
def yS:Value->Nat | .string s=>s.size|_=>0
def fF{s:ByteArray}(h:s.size=0):s.data.toList=[]:=aaQ (by rw[<-aae];exact h)
def gB{s:ByteArray}(h:¬ s.size=0):¬ s.data.toList=[]:=fun e=>h (by rw[aae,e];rfl)
def jF{s:ByteArray}(h:s.size=0):s.toList.isEmpty=true:=by rw[aan,fF h];rfl
def jI{s:ByteArray}(h:¬ s.size=0):s.toList.isEmpty=false:=by
 rw[aan]
 cases hl:s.data.toList with
 |nil=>exact absurd hl (gB h)
 |cons _ _=>rfl
def fC.new(w:World):fC w.heap.size w.heap.size [] (w.alloc (.cells #[.pointer none,.slice none 0 0] 134)):=
 aam ⟨Pe _,.slice none 0 0,aaq w _,World.ownsRowF_nil _ _ _ _,by simp[Value.ownBlock]⟩
def tC(t:ByteArray)(ht:0<t.size):t[0]=t.data.toList.headD 0:=by
 cases t with
 |mk d=>
  cases d with
  |mk l=>
   cases l with
   |nil=>exact absurd ht (by decide)
   |cons x r=>rfl
def Own(B:Nat)(e:TypeId)(v:Value)(cs:List Value)(w:World):Prop:=w.ownsRow B e 1 v cs.length cs
def Own.nil(B:Nat)(e:TypeId)(w:World):Own B e (.slice none 0 0) [] w:=abN w B e 1
def Own.grown{B:Nat}{e:TypeId}{v:Value}{cs:List Value}{w w':World}(h:Own B e v cs w){row:Option Nat}(hg:w.grownBy w' row)(hne:v.ownBlock=none\/v.ownBlock≠row):Own B e v cs w':=acu h hg hne
def Own.below{B:Nat}{e:TypeId}{v:Value}{cs:List Value}{w w':World}(h:Own B e v cs w)(hb:Below w w w'):Own B e v cs w':=
 acu h (oL hb none) (by cases v.ownBlock<;>simp)
def Own.alloc{B:Nat}{e:TypeId}{v:Value}{cs:List Value}{w:World}(h:Own B e v cs w)(o:Obj):Own B e v cs (w.alloc o):=World.ownsRow.alloc h o
def Own.lt{B:Nat}{e:TypeId}{v:Value}{cs:List Value}{w:World}(h:Own B e v cs w):∀k,v.ownBlock=some k->B<=k/\k<w.heap.size:=World.ownsRow.lt h
def Own.row{B:Nat}{e:TypeId}{v:Value}{cs:List Value}{w:World}(h:Own B e v cs w):Row w v cs:=by
 rcases h.2 with⟨rfl,h0⟩|⟨g,cap,cur,rfl,hB,hg,hn,hm,hc,ht⟩
 ·obtain rfl:cs=[]:=aaQ h0
  exact Row.nil w
 ·refine⟨_,_,rfl,hn,fun _=>⟨g,0,rfl,?_,fun j u hu=>?_⟩⟩
  ·exact(abg.1 hg).1
  ·have:=World.ownsRow.cells h (g:=g) rfl j u hu
   rw[aaP];have e:(⟨g,0,none⟩:Addr).add j=⟨g,j,none⟩:=by unfold Addr.add;split<;>simp_all
   rwa[e]at this
section
variable {P:Program}
def fJ{ops:Array Oper}{rest:List Oper}{o:Oper}{a:Act}{Q:Exit->Act->World->Prop}{w:World}{e:TypeId}{u:Value}(hgd:o.guard=none)(s x:Operand)(t:TypeId)
  (ho:o.op=.call { callee:=.builtin .append,args:=#[s,x],argTypes:=#[t,t] })
  (B:Nat) (i:TypeInfo) (z:Value) (bytes:Nat) (ht:P.underlying t=some (.slice e)) (hi:P.info? e=some i) (hz:i.zero=some z)
  (hsize:i.size=1) (hby:i.bytes=bytes) (hzs:z.cells.size=1)
  (v:Value) (cs:List Value) (hs:a.eval s=v) (hown:Own B e v cs w) (c:Nat) (hx:a.eval x=.slice (some ⟨w.heap.size,0,none⟩) 1 c) (h1:u.oneCell'=true)
  (hb1:cs.length+1<=maxLen) (hbytes:(cs.length+1)*bytes<=140737488355328) (hB:B<=w.heap.size)
  (h:∀v' w',Own B e v' (cs++[u]) w'->w.grownBy w' v.ownBlock->Below B w w'->wpList P ops Q rest (a.put o.dst v') w'):wpList P ops Q (o::rest) a (w.alloc (.cells #[u] e)):=by
 refine wpList_append_own _ hgd s x t ho B e i z 1 bytes ht hi hz hsize hby hzs (by decide) v cs.length cs hs (hown.alloc _) ⟨w.heap.size,0,none⟩ 1 c [u] hx rfl ?_ ?_ hb1 hbytes (by simp;omega) ?_
 ·intro j y hy
  match j,hy with
  |0,hy=>simp at hy;subst hy;simp[Addr.add]
 ·intro y hy;simp at hy;subst hy;exact h1
 ·intro v' w' h2 h3 h4
  have hg:w.grownBy w' v.ownBlock:=⟨h3.os,h3.tape,h3.output,aaB (by simp) h3.size,fun k hk hne=>(h3.block k (by simp;omega) hne).trans (aeF w _ k hk)⟩;refine h v' w' (by unfold Own;rw[aas];exact h2) hg ?_;exact(aac B w).grown hg hB (fun k hk=>(hown.lt k hk).1)
def yx{src dst e:TypeId}{B:Nat}{v:Value}{l:Bs}{w:World}(hs:P.underlying src=some (.slice e))(he:P.underlying e=some (.int .u8))(hd:P.underlying dst=some .string)(h:Own B e v (Lib.byteCells l) w) :
  (convert src dst v).run P w=.ok (.string ⟨l.toArray⟩) w:=by
 have h':w.ownsRow B e 1 v l.length (Lib.byteCells l):=by have:=h;unfold Own at this;rwa[abe]at this
 rcases h'.2 with⟨rfl,h0⟩|⟨g,cap,cur,rfl,_,hg,_,_,_,ht⟩
 ·obtain rfl:l=[]:=aaQ h0
  exact afE w src dst e 0 hs he hd
 ·exact ac1 w src dst e ⟨g,0,none⟩ cap l hs he hd (afI hg (by rw[<-ht,acN]))
def tF(l:Bs)(c:UInt8):Lib.byteCells l++[.int .u8 c.toNat]=Lib.byteCells (l++[c]):=by rw[aeP];rfl
end
section
variable {P:Program}
end
def drop_byte(a:ByteArray)(k:Nat)(h:k<a.size):a.data.toList.drop k=a[k]::a.data.toList.drop (k+1):=by
 rw[aat (by rw[<-aae];exact h)];rfl
def S(l:Bs):Value:=.string ⟨l.toArray⟩
def eX(s:ByteArray):S s.data.toList=.string s:=rfl
def rW:(Tryz.prog.info? 9).map (fun i=>(i.zero,i.size,i.bytes))=some (some (.string ⟨#[]⟩),1,16):=by kernel_rfl
def aD1:(Tryz.prog.info? 5).map (fun i=>(i.zero,i.size,i.bytes))=some (some (.int .u8 0),1,1):=by kernel_rfl
def oF(x:Int):IntKind.i64.wrap x=wrap64 x:=by rw[acY];unfold wrap64;rfl
def U(n:Nat):Value:=.int .u64 n
def gP{l:List Nat}{k:Nat}(h:k<l.length):(l.map U)[k]? = some (U l[k]):=by simp[h]
def ay.take{w:World}{A:Option Addr}{cs:List Value}(h:ay w A cs)(k:Nat):ay w A (cs.take k):=fun hne=>by
 obtain⟨b,o,rfl,hlt,hcell⟩:=h (fun e=>hne (by rw[e];simp));refine⟨b,o,rfl,hlt,fun j u hu=>hcell j u ?_⟩;rw[ac2]at hu
 split at hu
 ·exact hu
 ·cases hu
def sliceLen:Value->Nat | .slice _ n _=>n|_=>0
def sw(w:World)(l:List Nat)(e:Ending)(w':World):Prop:=
 ∃A c,e=.returned (.slice A l.length c)/\l.length<=c/\ay w' A (l.map U)/\Below w w w'
theorem oz:∀l:List Nat,aV l=l.take (aV l).length
 |[]=>rfl
 |x::r=>by
  have ih:=oz r;unfold aV
  split
  ·rfl
  ·rw[aaF,aa1,<-ih]
def nA(l:List Nat):(aV l).length<=l.length:=by
 have:=aaw List.length (oz l);rw[aaI]at this;omega
def NV{l:List Nat}{k:Nat}(hk:k<l.length)(h:l[k]=0):aV (l.take (k+1))=aV (l.take k):=by
 rw[aau hk,h,Eu]
def NY{l:List Nat}{k:Nat}(hk:k<l.length)(h:l[k]≠0):(aV (l.take (k+1))).length=k+1:=by
 rw[aau hk,NW h,aas,aaI];simp;omega
def pu(A:Option Addr)(c:Nat)(l:List Nat)(w:World)(hrow:ay w A (l.map U))(hl:l.length<=100000)(hc:l.length<=c) :
  Calls Tryz.prog 195 #[.slice A l.length c] w fun e w'=>e=.returned (.slice A (aV l).length c)/\w=w':=by
 go_enter Tryz.func195,Tryz.ntmps195;go_wp2_with fail
 go_loopw [0] (fun v wr=>∃(k:Nat),v=.slice A k c/\k<=l.length/\wr=w/\Hid (aV (l.take k)=aV l)) (fun v _=>sliceLen v)
 case atStart=>exact⟨l.length,rfl,by omega,rfl,by rw[Hid,aaJ]⟩
 case round=>
  obtain⟨k,rfl,hk,rfl,H⟩:=hrel;rcases abE k with rfl|hpos
  ·have HZ:Hid (aV l=[]):=by rw[Hid,<-H.out];rfl
   clear H hrow;go_wp2_with fail;go_returns;exact⟨by rw[HZ.out];rfl,rfl⟩
  ·obtain⟨j,rfl⟩:∃j,k=j+1:=⟨k-1,by omega⟩
   have hj:j<l.length:=(by omega);obtain⟨b,o,rfl,hbl,hcell⟩:=hrow (by intro e;rw[aaO]at e;rw[e]at hj;simp at hj);have hc1:wr.cell? ⟨b,o+j,none⟩=some (.int .u64 l[j]):=hcell j _ (gP hj);clear hcell;by_cases hz:l[j]=0
   ·have HN:Hid (aV (l.take j)=aV l):=by rw[Hid,<-NV hj hz];exact H.out
    rw[hz]at hc1;clear hz;go_wp2_with fail;go_roundw
    case rel=>exact⟨j,rfl,by omega,trivial,HN⟩
    case measure=>simp[sliceLen]
   ·have HN:Hid ((aV l).length=j+1):=by rw[Hid,<-H.out];exact NY hj hz
    have f0:(((l[j]:Nat):Int)==0)=false:=by simp;omega
    clear hz;go_wp2_with fail;go_returns;exact⟨by rw[HN.out];rfl,rfl⟩
def FY(a b:Nat)(w:World) :
  Calls Tryz.prog 216 #[.int .u64 a,.int .u64 b] w fun e w'=>e=.returned (.int .i64 (bZ a b))/\w=w':=by
 have n1:∀(a:Nat) W,Calls Tryz.prog 224 #[.int .u64 a] W fun e w'=>e=.returned (.bool false)/\W=w':=fun a W=>by
  go_enter Tryz.func224,Tryz.ntmps224;go_wp2;go_returns;exact⟨rfl,rfl⟩
 rcases acT a b with h|h|h
 ·have HK:=Pd (lu h)
  go_enter Tryz.func216,Tryz.ntmps216;go_wp2_with (go_at_call 224;refine(n1 _ _).mono ?_;rintro e wx ⟨rfl,rfl⟩);go_returns;exact⟨by rw[HK.out];rfl,rfl⟩
 ·have HK:=Pd (vg h)
  subst h;go_enter Tryz.func216,Tryz.ntmps216;go_wp2_with (go_at_call 224;refine(n1 _ _).mono ?_;rintro e wx ⟨rfl,rfl⟩);go_returns;exact⟨by rw[HK.out];rfl,rfl⟩
 ·have HK:=Pd (qV h)
  go_enter Tryz.func216,Tryz.ntmps216;go_wp2_with (go_at_call 224;refine(n1 _ _).mono ?_;rintro e wx ⟨rfl,rfl⟩);go_returns;exact⟨by rw[HK.out];rfl,rfl⟩
def vo(A B:Option Addr)(c d:Nat)(m n:Nat)(w:World)(hA:ay w A ((blk m).map U))(hB:ay w B ((blk n).map U))(hm:(blk m).length<=100000)(hn:(blk n).length<=100000) :
  Calls Tryz.prog 206 #[.slice A (blk m).length c,.slice B (blk n).length d] w fun e w'=>e=.returned (.int .i64 (bZ m n))/\Below w w w':=by
 have ci:∀(x y:Int) W,Calls Tryz.prog 215 #[.int .i64 x,.int .i64 y] W fun e w'=>e=.returned (.int .i64 (Lib.compareInt x y))/\w'=W:=fun x y W=>Tryz.cmp_Compare_int x y W
 by_cases hlen:(blk m).length=(blk n).length
 ·obtain⟨N,hN⟩:∃N,(blk n).length=N:=⟨_,rfl⟩
  have hM:(blk m).length=N:=by omega
  have Zl:Hid ((blk m)=(blk n)->bZ m n=0):=fun e=>vg (by rw[<-gM m,e,gM])
  have HTOP:Hid (∀j,(h1:j<(blk m).length)->(h2:j<(blk n).length)->(blk m).drop (j+1)=(blk n).drop (j+1)->((blk m)[j]<(blk n)[j]->bZ m n=-1)/\((blk n)[j]<(blk m)[j]->bZ m n=1)):=fun j h1 h2 hd=>
   ⟨fun h=>lu (zZ hlen h1 hd h),fun h=>qV (zZ hlen.symm h2 hd.symm h)⟩
  generalize blk m=x at*;generalize blk n=y at*;rw[hM,hN];clear hlen hm;rw[hN]at hn;go_enter Tryz.func206,Tryz.ntmps206;go_wp2_with fail
  go_loopw [4,19] (fun _ i wr=>∃(k:Nat),i=.int .i64 k/\k<=N/\Below w w wr/\Hid (x.drop (N-k)=y.drop (N-k))) (fun _ i _=>N-(intOf i).toNat)
  case atStart=>exact⟨0,rfl,by omega,aac _ _,by rw[Hid,aeT,abo (by omega),abo (by omega)]⟩
  case round=>
   obtain⟨k,rfl,hk,hb,H⟩:=hrel;by_cases hlt:k<N
   ·obtain⟨j,hj⟩:∃j,N-1-k=j:=⟨_,rfl⟩
    have hjx:j<x.length:=(by omega);have hjy:j<y.length:=by omega
    obtain⟨b1,o1,rfl,Xw,hcell1⟩:=(hA.below hb) (by intro e;rw[aaO]at e;rw[e]at hjx;simp at hjx);obtain⟨b2,o2,rfl,U1,hcell2⟩:=(hB.below hb) (by intro e;rw[aaO]at e;rw[e]at hjy;simp at hjy);have hc1:wr.cell? ⟨b1,o1+j,none⟩=some (.int .u64 x[j]):=hcell1 j _ (gP hjx);have hc2:wr.cell? ⟨b2,o2+j,none⟩=some (.int .u64 y[j]):=hcell2 j _ (gP hjy);have hd:x.drop (j+1)=y.drop (j+1):=by
     have:=H.out;rwa[show N-k=j+1 by omega]at this
    have HT:=HTOP.out j hjx hjy hd;have hdx:=aat hjx;have hdy:=aat hjy;have cu:∀W,Calls Tryz.prog 216 #[.int .u64 x[j],.int .u64 y[j]] W fun e w'=>e=.returned (.int .i64 (bZ x[j] y[j]))/\W=w':=fun W=>FY _ _ W
    clear hcell1 hcell2;generalize x[j]=a at hc1 HT hdx cu;generalize y[j]=b at hc2 HT hdy cu;have w1:IntKind.i64.wrap ((N:Int)-1)=(N:Int)-1:=by rw[oF,acn _ ⟨by omega,by omega⟩]
    have w2:IntKind.i64.wrap ((N:Int)-1-(k:Int))=((j:Nat):Int):=by rw[oF,acn _ ⟨by omega,by omega⟩];omega
    have HJ:=Pd hj;have jb0:(0:Int)<=(j:Int):=by omega
    have jb1:(j:Int)<(N:Int):=(by omega);rcases acT a b with h|h|h
    ·rw[lu h]at cu
     have HK:=Pd (HT.1 h);clear HT hdx hdy h hd H hj;go_wp2_with fail
     go_region_held3 (fun w'=>w'.cell? ⟨b1,o1+j,none⟩=some (.int .u64 a)/\w'.cell? ⟨b2,o2+j,none⟩=some (.int .u64 b)/\Below wr wr w') (first|assumption|exact⟨hc1,hc2,(aac _ _).drew⟩)
      (first|(go_at_call 216;refine(cu _).mono ?_;rintro e wx ⟨rfl,rfl⟩))
     all_goals go_wp2_with fail
     all_goals go_returns
     all_goals exact⟨by rw[HK.out];rfl,ae hb (by first|assumption|exact(aac _ _).drew)⟩
    ·subst h
     rw[vg rfl]at cu;have HN:Hid (x.drop (N-(k+1))=y.drop (N-(k+1))):=by rw[Hid,show N-(k+1)=j by omega,hdx,hdy,hd]
     clear HT hdx hdy hd H hj;go_wp2_with fail
     go_region_held3 (fun w'=>w'.cell? ⟨b1,o1+j,none⟩=some (.int .u64 a)/\w'.cell? ⟨b2,o2+j,none⟩=some (.int .u64 a)/\Below wr wr w') (first|assumption|exact⟨hc1,hc2,(aac _ _).drew⟩)
      (first|(go_at_call 216;refine(cu _).mono ?_;rintro e wx ⟨rfl,rfl⟩))
     all_goals go_wp2_with fail
     all_goals go_roundw
     all_goals first
      |(case rel=>exact⟨k+1,by go_num,by omega,ae hb (by first|assumption|exact(aac _ _).drew),HN⟩)
      |(case measure=>simp[intOf];omega)
    ·rw[qV h]at cu
     have HK:=Pd (HT.2 h);clear HT hdx hdy h hd H hj;go_wp2_with fail
     go_region_held3 (fun w'=>w'.cell? ⟨b1,o1+j,none⟩=some (.int .u64 a)/\w'.cell? ⟨b2,o2+j,none⟩=some (.int .u64 b)/\Below wr wr w') (first|assumption|exact⟨hc1,hc2,(aac _ _).drew⟩)
      (first|(go_at_call 216;refine(cu _).mono ?_;rintro e wx ⟨rfl,rfl⟩))
     all_goals go_wp2_with fail
     all_goals go_returns
     all_goals exact⟨by rw[HK.out];rfl,ae hb (by first|assumption|exact(aac _ _).drew)⟩
   ·obtain rfl:k=N:=by omega
    have HK:Hid (bZ m n=0):=Zl.out (by
     have:=H.out;rwa[abx,abj,abj]at this)
    clear hA hB;go_wp2_with fail;go_returns;exact⟨by rw[HK.out];rfl,hb⟩
 ·have hd:((((blk m).length:Nat):Int) != (((blk n).length:Nat):Int))=true:=by simp;omega
  have HK:Hid (Lib.compareInt (blk m).length (blk n).length=bZ m n):=by
   rcases aaz (blk m).length (blk n).length with h|h
   ·rw[Hid,lu (zX h)];unfold Lib.compareInt;rw[aaa (by omega)]
   ·rw[Hid,qV (zX (show(blk n).length<(blk m).length by omega))];unfold Lib.compareInt;rw[aab (by omega),aaa (by omega)]
  clear hA hB;go_enter Tryz.func206,Tryz.ntmps206;go_wp2_with (go_at_call 215;refine(ci _ _ _).mono ?_;rintro e wx ⟨rfl,rfl⟩);go_returns;exact⟨by rw[<-HK.out];rfl,aac _ _⟩
def rZ:(Tryz.prog.info? 231).map (fun i=>(i.zero,i.size,i.bytes))=some (some (.int .u64 0),1,8):=by kernel_rfl
def jQ(L:List Nat)(n:Nat):L.map U++[.int .u64 n]=(L++[n]).map U:=by rw[aa3];rfl
def tY{t:ByteArray}(h:∀c∈t.data.toList,cz c=true){k:Nat}(hk:k<t.size):cz t[k]=true:=
 h _ (by
  have:=drop_byte t k hk;exact abV (i:=k) (by rw[this];exact aal))
def Ga{t:ByteArray}{cut k:Nat}(h1:cut<=k)(h2:k<t.size):ag ((t.data.toList.drop cut).take (k+1-cut))=10*ag ((t.data.toList.drop cut).take (k-cut))+dv t[k]:=by
 have hlen:k-cut<(t.data.toList.drop cut).length:=by rw[aaH,<-aae];omega
 have e:k+1-cut=(k-cut)+1:=by omega
 rw[e,aau hlen,tV];congr 2;rw[ade];have:=drop_byte t k h2;have h3:k<t.data.toList.length:=by rw[<-aae];exact h2
 rw[aat h3]at this;injection this with h4 _
 rw[<-h4];congr 1;omega
def Gb{t:ByteArray}{cut k:Nat}(h:∀c∈t.data.toList,cz c=true)(h9:k-cut<=9):ag ((t.data.toList.drop cut).take (k-cut))<1000000000:=by
 have:=tQ (l:=(t.data.toList.drop cut).take (k-cut)) fun c hc=>h c (abV (ach hc))
 have h2:10 ^ ((t.data.toList.drop cut).take (k-cut)).length<=10 ^ 9:=acj (by omega) (by rw[aaI];omega);have:(10:Nat) ^ 9=1000000000:=rfl;omega
def FM(s:ByteArray)(w:World)(hd:∀c∈s.data.toList,cz c=true)(hs:s.size<=10000) :
  Calls Tryz.prog 193 #[.string s] w (sw w (blk (ag s.data.toList))):=by
 obtain⟨i0,hi,hz0,hz1,hz2⟩:=abm rZ;go_enter Tryz.func193,Tryz.ntmps193;go_wp2_with fail
 go_loopw [0,3] (fun v u wr=>∃(t:ByteArray) (L:List Nat),v=.string t/\Own w.heap.size 231 u (L.map U) wr/\L.length+t.size<=s.size/\Below w w wr/\Hid (∀c∈t.data.toList,cz c=true)/\Hid (ag s.data.toList=aa BB L+BB ^ L.length*ag t.data.toList)/\Hid (∀d∈L,d<BB)) (fun v _ _=>yS v)
 case atStart=>exact⟨s,[],rfl,Own.nil _ _ _,by simp,aac _ _,hd,by simp[Hid,aa],by simp[Hid]⟩
 case round=>
  obtain⟨t,L,rfl,hown,hl,hb,HT,HV,HL⟩:=hrel;by_cases h0:t.size=0
  ·obtain⟨A,c,rfl,hc,hr⟩:=hown.row.to (n:=L.length) (by simp)
   have HK:Hid (aV L=blk (ag s.data.toList)):=by
    rw[Hid,qC dN HL.out,HV.out,fF h0,tT];rfl
   have ht:=pu A c L wr hr (by omega) hc;have hle:=nA L;have HR:=Pd (hr.take (aV L).length);have Um:=Pd (oz L);rw[HK.out]at ht hle;clear hr hown;go_wp2_with (go_at_call 195;refine ht.mono ?_;rintro e wx ⟨rfl,rfl⟩);go_returns;refine⟨A,c,rfl,by omega,?_,hb⟩;have h1:=HR.out;rw[<-adv,<-Um.out,HK.out]at h1;exact h1
  ·obtain⟨cut,hcut⟩:∃cut,t.size-9=cut:=⟨_,rfl⟩
   have hmx:max (0:Int) ((t.size:Int)-9)=(cut:Int):=(by omega);have hpos:0<t.size:=(by omega);go_wp2_with fail
   go_loopw [5,6] (fun n i wr'=>∃(k:Nat),i=.int .i64 k/\cut<=k/\k<=t.size/\n=.int .u64 (ag ((t.data.toList.drop cut).take (k-cut)))/\wr'=wr) (fun _ i _=>t.size-(intOf i).toNat)
   case atStart=>exact⟨cut,rfl,by omega,by omega,by simp[tT],rfl⟩
   case round=>
    obtain⟨k,rfl,hk1,hk2,rfl,rfl⟩:=hrel;by_cases hlt:k<t.size
    ·have hdg:=tY HT.out hlt
     rw[lJ]at hdg;have HM:=Pd (Ga hk1 hlt);have hsm:=Gb HT.out (cut:=cut) (k:=k) (by omega);obtain⟨n,hn⟩:∃n,ag ((t.data.toList.drop cut).take (k-cut))=n:=⟨_,rfl⟩;obtain⟨x,hx⟩:∃x,t[k].toNat=x:=⟨_,rfl⟩;have Vs:Hid (ag ((t.data.toList.drop cut).take (k+1-cut))=10*n+(x-48)):=by rw[Hid,HM.out,hn];unfold dv;rw[hx]
     rw[hn]at hsm ⊢;rw[hx]at hdg;obtain⟨hd1,hd2⟩:=hdg;clear hn;go_wp2_with fail;go_roundw
     case rel=>exact⟨k+1,by go_num,by omega,by omega,by rw[Vs.out];go_num,trivial⟩
     case measure=>simp[intOf];omega
    ·obtain rfl:k=t.size:=by omega
     have hlen:t.data.toList.length=t.size:=(aae t).symm;have hne:t.data.toList≠[]:=gB h0;have HB:=Pd (aEH HT.out HV.out HL.out hne);rw[hlen,hcut]at HB;have hfull:(t.data.toList.drop cut).take (t.size-cut)=t.data.toList.drop cut:=aav (by rw[aaH,hlen];exact Pe _);rw[hfull];have TY:(L.map U).length+1<=maxLen:=by rw[aaC];unfold maxLen;omega
     have hmb:((L.map U).length+1)*8<=140737488355328:=by rw[aaC];omega
     have hxs:(t.extract 0 cut).size=cut:=by rw[aae,eH];simp;omega
     have hxd:(t.extract 0 cut).data.toList=t.data.toList.take cut:=(by rw[eH,abj,aeT]);have HXS:=Pd hxs;have HXD:=Pd hxd;obtain⟨n,hn⟩:∃n,ag (t.data.toList.drop cut)=n:=⟨_,rfl⟩;rw[hn]at HB ⊢;have hc1:(cut:Int)<=(t.size:Int):=by omega
     clear hxs hxd hfull hlen hne hn;go_wp2_with (at_builtin;refine fJ rfl (.tmp 29) (.tmp 31) 229 rfl w.heap.size i0 _ 8 abf hi hz0 hz1 hz2 rfl _ (L.map U) rfl hown 1 rfl rfl TY hmb hb.size ?_;intro v' w3 TE _ hb4);go_roundw
     case rel=>exact⟨t.extract 0 cut,L++[n],rfl,by rw[<-jQ];exact TE,by rw[HXS.out,aas,aeL];omega,hb.trans hb4,by rw[HXD.out];exact HB.out.2.2,by rw[HXD.out];exact HB.out.1,HB.out.2.1⟩
     case measure=>simp only[yS];rw[HXS.out];omega
def Own.upto{B:Nat}{e:TypeId}{A:Option Addr}{n c:Nat}{cs:List Value}{w:World}(h:Own B e (.slice A n c) cs w){k:Nat}(hk:k<=cs.length):Own B e (.slice A k c) (cs.take k) w:=by
 unfold Own at h ⊢;have hl:(cs.take k).length=k:=by rw[aaI];omega
 rw[hl];refine⟨by rw[hl];simp,?_⟩;rcases h.2 with⟨h',h0⟩|⟨g,cap,cur,h',hb,hg,hnc,hcm,hcs,htake⟩
 ·left
  simp only[acU]at h';obtain⟨rfl,rfl,rfl⟩:=h';obtain rfl:k=0:=by omega
  exact⟨rfl,rfl⟩
 ·right
  simp only[acU]at h';obtain⟨rfl,hn,rfl⟩:=h';refine⟨g,c,cur,rfl,hb,hg,by omega,hcm,hcs,?_⟩;rw[<-htake,af7];congr 1;omega
def Own.lower{B B':Nat}{e:TypeId}{v:Value}{cs:List Value}{w:World}(h:Own B e v cs w)(hB:B'<=B):Own B' e v cs w:=by
 unfold Own at h ⊢;refine⟨h.1,?_⟩;rcases h.2 with h'|⟨g,cap,cur,h',hb,hrest⟩
 ·exact aam h'
 ·exact aad ⟨g,cap,cur,h',aaB hB hb,hrest⟩
def FU(a b c:Nat)(w:World)(ha:a<1000000000)(hb:b<1000000000)(hc:c<=1) :
  Calls Tryz.prog 214 #[.int .u64 a,.int .u64 b,.int .u64 c] w fun e w'=>e=.returned (.tuple #[.int .u64 (dB a b c).1,.int .u64 (dB a b c).2])/\w=w':=by
 go_enter Tryz.func214,Tryz.ntmps214;go_wp2_with fail;go_returns;exact⟨uC (by unfold dB BB;simp only[];omega) (by unfold dB BB;simp only[];omega),rfl⟩
def FT(a b c:Nat)(w:World)(ha:a<1000000000)(hb:b<1000000000)(hc:c<=1) :
  Calls Tryz.prog 219 #[.int .u64 a,.int .u64 b,.int .u64 c] w fun e w'=>e=.returned (.tuple #[.int .u64 (dm a b c).1,.int .u64 (dm a b c).2])/\w=w':=by
 go_enter Tryz.func219,Tryz.ntmps219;go_wp2_with fail;go_returns;exact⟨uC (by unfold dm BB;simp only[];omega) (by unfold dm BB;simp only[];omega),rfl⟩
def FW(k a b c K:Nat)(w:World)(hK:w.cell? ⟨K,0,none⟩=some (.int .u64 k))(ha:a<1000000000)(hk:k<=1000000000)(hc:c<1000000000) :
  Calls Tryz.prog 230 #[.int .u64 a,.int .u64 b,.int .u64 c,.pointer (some ⟨K,0,none⟩)] w fun e w'=>e=.returned (.tuple #[.int .u64 (dx k a b c).1,.int .u64 (dx k a b c).2])/\w=w':=by
 have hp:a*k<=1000000000*1000000000:=ab8 (by omega) hk;obtain⟨p,Vf⟩:∃p,a*k=p:=⟨_,rfl⟩;have hpi:(a:Int)*(k:Int)=(p:Int):=by rw[<-Vf];exact(adY a k).symm
 rw[Vf]at hp;have HP:=Pd Vf;clear Vf;go_enter Tryz.func230,Tryz.ntmps230;go_wp2_with fail;go_returns;exact⟨uC (by unfold dx BB;rw[HP.out];simp only[];omega) (by unfold dx BB;rw[HP.out];simp only[];omega),rfl⟩
def nG(w:World)(l:List Nat)(e:Ending)(w':World):Prop:=
 ∃v,e=.returned v/\Own w.heap.size 231 v (l.map U) w'/\Below w w w'
def nG.blk{w w':World}{l:List Nat}{e:Ending}(h:nG w l e w'):sw w l e w':=by
 obtain⟨v,rfl,ho,hb⟩:=h;obtain⟨A,c,rfl,hc,hr⟩:=ho.row.to (n:=l.length) (by simp);exact⟨A,c,rfl,hc,hr,hb⟩
def kv{x:List Nat}{i:Nat}(h:i<x.length):x.getD i 0=x[i]:=by
 rw[aaf,aak h];rfl
def Mw{x:List Nat}{k:Nat}(hx:∀d∈x,d<BB)(hk:k<=BB)(i:Nat):(ah (dx k) x [] i).2<1000000000:=(wD hx hk i).2.2
def GR(A B:Option Addr)(c d:Nat)(w:World)(x:List Nat)(hx:∀d∈x,d<BB)(y:List Nat)(hy:∀d∈y,d<BB)(hA:ay w A (x.map U))(hB:ay w B ((y:List Nat).map U))(hlx:x.length<=10000)(hly:(y:List Nat).length<=10000) :
  Calls Tryz.prog 213 #[.slice A x.length c,.slice B (y:List Nat).length d,.func (.func 214) #[] #[]] w (nG w (aV (ah dB x y (max x.length (y:List Nat).length+1)).1)):=by
 obtain⟨i0,hi,hz0,hz1,hz2⟩:=abm rZ;have hxd:=fun i=>getD_lt aC hx i
 have HX:Hid (∀i,x.getD i 0<1000000000):=hxd;have HY:Hid (∀i,(y:List Nat).getD i 0<1000000000):=fun i=>by first|exact getD_lt aC hy i|(rw[eB (by simp)];omega)
 have HI:Hid (∀i,(ah dB x y i).2<=1):=fun i=>(vY hx hy i).2.2
 have HL:Hid (∀i,(ah dB x y i).1.length=i):=fun i=>jb _ _ _ i
 obtain⟨N,hN⟩:∃N,max x.length (y:List Nat).length=N:=⟨_,rfl⟩;have hmx:max ((x.length:Nat):Int) (((y:List Nat).length:Nat):Int)=(N:Int):=by omega
 have hN1:N<=10000:=by omega
 have hN2:N<=x.length+y.length:=by first|omega|(simp at hN;omega)
 have HN1:=Pd hN;rw[hN];clear hN hxd;go_enter Tryz.func213,Tryz.ntmps213;go_wp2_with fail
 go_loopw [7,8,19] (fun l cy i wr=>∃(j0:Nat),i=.int .i64 j0/\j0<=N+1/\cy=.int .u64 (ah dB x y j0).2/\Below w w wr/\Own w.heap.size 231 l ((ah dB x y j0).1.map U) wr) (fun _ _ i _=>N+1-(intOf i).toNat)
 case atStart=>exact⟨0,rfl,by omega,rfl,aac _ _,Own.nil _ _ _⟩
 case round=>
  obtain⟨k0,rfl,hk0,rfl,hb,hown⟩:=hrel;by_cases hlt:k0<N+1
  ·obtain⟨a,ha⟩:∃a,x.getD k0 0=a:=⟨_,rfl⟩
   obtain⟨b,hb'⟩:∃b,(y:List Nat).getD k0 0=b:=⟨_,rfl⟩;obtain⟨q,hq⟩:∃q,(ah dB x y k0).2=q:=⟨_,rfl⟩;have ha1:=HX.out k0;have hb1:=HY.out k0;have hq1:=HI.out k0;have hlen:=HL.out k0;rw[ha]at ha1;rw[hb']at hb1;rw[hq]at hq1;have hcl:∀W,Below w w W->Calls Tryz.prog 214 #[.int .u64 a,.int .u64 b,.int .u64 q] W fun e w'=>e=.returned (.tuple #[.int .u64 (dB a b q).1,.int .u64 (dB a b q).2])/\W=w':=fun W hW=>FU a b q W ha1 hb1 hq1
   have hS1:(ah dB x y (k0+1)).1=(ah dB x y k0).1++[(dB a b q).1]:=by rw[<-ha,<-hb',<-hq];rfl
   have hS2:(ah dB x y (k0+1)).2=(dB a b q).2:=by rw[<-ha,<-hb',<-hq];rfl
   have Uf:=Pd hS1;have HS2:=Pd hS2;obtain⟨r1,hr1⟩:∃r,(dB a b q).1=r:=⟨_,rfl⟩;obtain⟨r2,hr2⟩:∃r,(dB a b q).2=r:=⟨_,rfl⟩;rw[hr1]at Uf;rw[hr2]at HS2;rw[hr1,hr2]at hcl;rw[hq];generalize (ah dB x y k0).1=L at hown hlen Uf;have TY:(L.map U).length+1<=maxLen:=by rw[aaC];unfold maxLen;omega
   have hmb:((L.map U).length+1)*8<=140737488355328:=by rw[aaC];omega
   clear hr1 hr2 hq hS1 hS2;by_cases h1:k0<x.length
   ·obtain⟨b1,o1,rfl,Xw,hcell1⟩:=(hA.below hb) (by intro e;rw[aaO]at e;rw[e]at h1;simp at h1)
    have hc1:wr.cell? ⟨b1,o1+k0,none⟩=some (.int .u64 a):=by rw[<-ha,kv h1];exact hcell1 k0 _ (gP h1)
    clear hcell1 ha;by_cases h2:k0<(y:List Nat).length
    ·try (exact absurd h2 (abW _))
     all_goals
      obtain⟨b2,o2,rfl,U1,hcell2⟩:=(hB.below hb) (by intro e;rw[aaO]at e;rw[e]at h2;simp at h2);have hc2:wr.cell? ⟨b2,o2+k0,none⟩=some (.int .u64 b):=by rw[<-hb',kv h2];exact hcell2 k0 _ (gP h2)
      clear hcell2 hb';go_wp2_with (first|(go_at_call 214;refine(hcl _ hb).mono ?_;rintro e wx ⟨rfl,rfl⟩)|(at_builtin;refine fJ rfl (.tmp 46) (.tmp 48) 229 rfl w.heap.size i0 _ 8 abf hi hz0 hz1 hz2 rfl _ (L.map U) rfl hown 1 rfl rfl TY hmb hb.size ?_;intro v' w3 TE _ hb4));go_roundw
      case rel=>exact⟨k0+1,by go_num,by omega,by rw[HS2.out],hb.trans hb4,by rw[Uf.out,<-jQ];exact TE⟩
      case measure=>simp[intOf];omega
    ·obtain rfl:b=0:=by rw[<-hb',eB (by omega)]
     clear hb';go_wp2_with (first|(go_at_call 214;refine(hcl _ hb).mono ?_;rintro e wx ⟨rfl,rfl⟩)|(at_builtin;refine fJ rfl (.tmp 46) (.tmp 48) 229 rfl w.heap.size i0 _ 8 abf hi hz0 hz1 hz2 rfl _ (L.map U) rfl hown 1 rfl rfl TY hmb hb.size ?_;intro v' w3 TE _ hb4));go_roundw
     case rel=>exact⟨k0+1,by go_num,by omega,by rw[HS2.out],hb.trans hb4,by rw[Uf.out,<-jQ];exact TE⟩
     case measure=>simp[intOf];omega
   ·obtain rfl:a=0:=by rw[<-ha,eB (by omega)]
    clear ha;by_cases h2:k0<(y:List Nat).length
    ·try (exact absurd h2 (abW _))
     all_goals
      obtain⟨b2,o2,rfl,U1,hcell2⟩:=(hB.below hb) (by intro e;rw[aaO]at e;rw[e]at h2;simp at h2);have hc2:wr.cell? ⟨b2,o2+k0,none⟩=some (.int .u64 b):=by rw[<-hb',kv h2];exact hcell2 k0 _ (gP h2)
      clear hcell2 hb';go_wp2_with (first|(go_at_call 214;refine(hcl _ hb).mono ?_;rintro e wx ⟨rfl,rfl⟩)|(at_builtin;refine fJ rfl (.tmp 46) (.tmp 48) 229 rfl w.heap.size i0 _ 8 abf hi hz0 hz1 hz2 rfl _ (L.map U) rfl hown 1 rfl rfl TY hmb hb.size ?_;intro v' w3 TE _ hb4));go_roundw
      case rel=>exact⟨k0+1,by go_num,by omega,by rw[HS2.out],hb.trans hb4,by rw[Uf.out,<-jQ];exact TE⟩
      case measure=>simp[intOf];omega
    ·obtain rfl:b=0:=by rw[<-hb',eB (by omega)]
     clear hb';go_wp2_with (first|(go_at_call 214;refine(hcl _ hb).mono ?_;rintro e wx ⟨rfl,rfl⟩)|(at_builtin;refine fJ rfl (.tmp 46) (.tmp 48) 229 rfl w.heap.size i0 _ 8 abf hi hz0 hz1 hz2 rfl _ (L.map U) rfl hown 1 rfl rfl TY hmb hb.size ?_;intro v' w3 TE _ hb4));go_roundw
     case rel=>exact⟨k0+1,by go_num,by omega,by rw[HS2.out],hb.trans hb4,by rw[Uf.out,<-jQ];exact TE⟩
     case measure=>simp[intOf];omega
  ·obtain rfl:k0=N+1:=by omega
   have hlen:=HL.out (N+1);have HD:=HI;clear HX HY HI HL hA hB;obtain⟨L,hL0⟩:∃L,(ah dB x y (N+1)).1=L:=⟨_,rfl⟩;rw[hL0]at hown hlen;have Xd:=Pd hL0;clear hL0;obtain⟨A',c',rfl,hc',hr⟩:=hown.row.to (n:=L.length) (by simp);have ht:=pu A' c' L wr hr (by omega) hc';have hle:=nA L;have HO:=Pd (hown.upto (k:=(aV L).length) (by rw[aaC];exact nA L));have Um:=Pd (oz L);obtain⟨L2,hL2⟩:∃L2,aV L=L2:=⟨_,rfl⟩;rw[hL2]at ht hle HO Um;have HL2:=Pd hL2;clear hL2;clear hr hown hlen;go_wp2_with (go_at_call 195;refine ht.mono ?_;rintro e wx ⟨rfl,rfl⟩);go_returns;unfold nG;rw[Xd.out,HL2.out];refine⟨_,rfl,?_,hb⟩;have h1:=HO.out;rw[<-adv,<-Um.out]at h1;exact h1
def GQ(A B:Option Addr)(c d:Nat)(w:World)(x:List Nat)(hx:∀d∈x,d<BB)(y:List Nat)(hy:∀d∈y,d<BB)(hA:ay w A (x.map U))(hB:ay w B ((y:List Nat).map U))(hlx:x.length<=10000)(hly:(y:List Nat).length<=10000) :
  Calls Tryz.prog 213 #[.slice A x.length c,.slice B (y:List Nat).length d,.func (.func 219) #[] #[]] w (nG w (aV (ah dm x y (max x.length (y:List Nat).length+1)).1)):=by
 obtain⟨i0,hi,hz0,hz1,hz2⟩:=abm rZ;have hxd:=fun i=>getD_lt aC hx i
 have HX:Hid (∀i,x.getD i 0<1000000000):=hxd;have HY:Hid (∀i,(y:List Nat).getD i 0<1000000000):=fun i=>by first|exact getD_lt aC hy i|(rw[eB (by simp)];omega)
 have HI:Hid (∀i,(ah dm x y i).2<=1):=fun i=>(yf hx hy i).2.2
 have HL:Hid (∀i,(ah dm x y i).1.length=i):=fun i=>jb _ _ _ i
 obtain⟨N,hN⟩:∃N,max x.length (y:List Nat).length=N:=⟨_,rfl⟩;have hmx:max ((x.length:Nat):Int) (((y:List Nat).length:Nat):Int)=(N:Int):=by omega
 have hN1:N<=10000:=by omega
 have hN2:N<=x.length+y.length:=by first|omega|(simp at hN;omega)
 have HN1:=Pd hN;rw[hN];clear hN hxd;go_enter Tryz.func213,Tryz.ntmps213;go_wp2_with fail
 go_loopw [7,8,19] (fun l cy i wr=>∃(j0:Nat),i=.int .i64 j0/\j0<=N+1/\cy=.int .u64 (ah dm x y j0).2/\Below w w wr/\Own w.heap.size 231 l ((ah dm x y j0).1.map U) wr) (fun _ _ i _=>N+1-(intOf i).toNat)
 case atStart=>exact⟨0,rfl,by omega,rfl,aac _ _,Own.nil _ _ _⟩
 case round=>
  obtain⟨k0,rfl,hk0,rfl,hb,hown⟩:=hrel;by_cases hlt:k0<N+1
  ·obtain⟨a,ha⟩:∃a,x.getD k0 0=a:=⟨_,rfl⟩
   obtain⟨b,hb'⟩:∃b,(y:List Nat).getD k0 0=b:=⟨_,rfl⟩;obtain⟨q,hq⟩:∃q,(ah dm x y k0).2=q:=⟨_,rfl⟩;have ha1:=HX.out k0;have hb1:=HY.out k0;have hq1:=HI.out k0;have hlen:=HL.out k0;rw[ha]at ha1;rw[hb']at hb1;rw[hq]at hq1;have hcl:∀W,Below w w W->Calls Tryz.prog 219 #[.int .u64 a,.int .u64 b,.int .u64 q] W fun e w'=>e=.returned (.tuple #[.int .u64 (dm a b q).1,.int .u64 (dm a b q).2])/\W=w':=fun W hW=>FT a b q W ha1 hb1 hq1
   have hS1:(ah dm x y (k0+1)).1=(ah dm x y k0).1++[(dm a b q).1]:=by rw[<-ha,<-hb',<-hq];rfl
   have hS2:(ah dm x y (k0+1)).2=(dm a b q).2:=by rw[<-ha,<-hb',<-hq];rfl
   have Uf:=Pd hS1;have HS2:=Pd hS2;obtain⟨r1,hr1⟩:∃r,(dm a b q).1=r:=⟨_,rfl⟩;obtain⟨r2,hr2⟩:∃r,(dm a b q).2=r:=⟨_,rfl⟩;rw[hr1]at Uf;rw[hr2]at HS2;rw[hr1,hr2]at hcl;rw[hq];generalize (ah dm x y k0).1=L at hown hlen Uf;have TY:(L.map U).length+1<=maxLen:=by rw[aaC];unfold maxLen;omega
   have hmb:((L.map U).length+1)*8<=140737488355328:=by rw[aaC];omega
   clear hr1 hr2 hq hS1 hS2;by_cases h1:k0<x.length
   ·obtain⟨b1,o1,rfl,Xw,hcell1⟩:=(hA.below hb) (by intro e;rw[aaO]at e;rw[e]at h1;simp at h1)
    have hc1:wr.cell? ⟨b1,o1+k0,none⟩=some (.int .u64 a):=by rw[<-ha,kv h1];exact hcell1 k0 _ (gP h1)
    clear hcell1 ha;by_cases h2:k0<(y:List Nat).length
    ·try (exact absurd h2 (abW _))
     all_goals
      obtain⟨b2,o2,rfl,U1,hcell2⟩:=(hB.below hb) (by intro e;rw[aaO]at e;rw[e]at h2;simp at h2);have hc2:wr.cell? ⟨b2,o2+k0,none⟩=some (.int .u64 b):=by rw[<-hb',kv h2];exact hcell2 k0 _ (gP h2)
      clear hcell2 hb';go_wp2_with (first|(go_at_call 219;refine(hcl _ hb).mono ?_;rintro e wx ⟨rfl,rfl⟩)|(at_builtin;refine fJ rfl (.tmp 46) (.tmp 48) 229 rfl w.heap.size i0 _ 8 abf hi hz0 hz1 hz2 rfl _ (L.map U) rfl hown 1 rfl rfl TY hmb hb.size ?_;intro v' w3 TE _ hb4));go_roundw
      case rel=>exact⟨k0+1,by go_num,by omega,by rw[HS2.out],hb.trans hb4,by rw[Uf.out,<-jQ];exact TE⟩
      case measure=>simp[intOf];omega
    ·obtain rfl:b=0:=by rw[<-hb',eB (by omega)]
     clear hb';go_wp2_with (first|(go_at_call 219;refine(hcl _ hb).mono ?_;rintro e wx ⟨rfl,rfl⟩)|(at_builtin;refine fJ rfl (.tmp 46) (.tmp 48) 229 rfl w.heap.size i0 _ 8 abf hi hz0 hz1 hz2 rfl _ (L.map U) rfl hown 1 rfl rfl TY hmb hb.size ?_;intro v' w3 TE _ hb4));go_roundw
     case rel=>exact⟨k0+1,by go_num,by omega,by rw[HS2.out],hb.trans hb4,by rw[Uf.out,<-jQ];exact TE⟩
     case measure=>simp[intOf];omega
   ·obtain rfl:a=0:=by rw[<-ha,eB (by omega)]
    clear ha;by_cases h2:k0<(y:List Nat).length
    ·try (exact absurd h2 (abW _))
     all_goals
      obtain⟨b2,o2,rfl,U1,hcell2⟩:=(hB.below hb) (by intro e;rw[aaO]at e;rw[e]at h2;simp at h2);have hc2:wr.cell? ⟨b2,o2+k0,none⟩=some (.int .u64 b):=by rw[<-hb',kv h2];exact hcell2 k0 _ (gP h2)
      clear hcell2 hb';go_wp2_with (first|(go_at_call 219;refine(hcl _ hb).mono ?_;rintro e wx ⟨rfl,rfl⟩)|(at_builtin;refine fJ rfl (.tmp 46) (.tmp 48) 229 rfl w.heap.size i0 _ 8 abf hi hz0 hz1 hz2 rfl _ (L.map U) rfl hown 1 rfl rfl TY hmb hb.size ?_;intro v' w3 TE _ hb4));go_roundw
      case rel=>exact⟨k0+1,by go_num,by omega,by rw[HS2.out],hb.trans hb4,by rw[Uf.out,<-jQ];exact TE⟩
      case measure=>simp[intOf];omega
    ·obtain rfl:b=0:=by rw[<-hb',eB (by omega)]
     clear hb';go_wp2_with (first|(go_at_call 219;refine(hcl _ hb).mono ?_;rintro e wx ⟨rfl,rfl⟩)|(at_builtin;refine fJ rfl (.tmp 46) (.tmp 48) 229 rfl w.heap.size i0 _ 8 abf hi hz0 hz1 hz2 rfl _ (L.map U) rfl hown 1 rfl rfl TY hmb hb.size ?_;intro v' w3 TE _ hb4));go_roundw
     case rel=>exact⟨k0+1,by go_num,by omega,by rw[HS2.out],hb.trans hb4,by rw[Uf.out,<-jQ];exact TE⟩
     case measure=>simp[intOf];omega
  ·obtain rfl:k0=N+1:=by omega
   have hlen:=HL.out (N+1);have HD:=HI;clear HX HY HI HL hA hB;obtain⟨L,hL0⟩:∃L,(ah dm x y (N+1)).1=L:=⟨_,rfl⟩;rw[hL0]at hown hlen;have Xd:=Pd hL0;clear hL0;obtain⟨A',c',rfl,hc',hr⟩:=hown.row.to (n:=L.length) (by simp);have ht:=pu A' c' L wr hr (by omega) hc';have hle:=nA L;have HO:=Pd (hown.upto (k:=(aV L).length) (by rw[aaC];exact nA L));have Um:=Pd (oz L);obtain⟨L2,hL2⟩:∃L2,aV L=L2:=⟨_,rfl⟩;rw[hL2]at ht hle HO Um;have HL2:=Pd hL2;clear hL2;clear hr hown hlen;go_wp2_with (go_at_call 195;refine ht.mono ?_;rintro e wx ⟨rfl,rfl⟩);go_returns;unfold nG;rw[Xd.out,HL2.out];refine⟨_,rfl,?_,hb⟩;have h1:=HO.out;rw[<-adv,<-Um.out]at h1;exact h1
def GU(A B:Option Addr)(c d:Nat)(w:World)(x:List Nat)(hx:∀d∈x,d<BB)(k K:Nat)(hk:k<=BB)(hK:w.cell? ⟨K,0,none⟩=some (.int .u64 k))(hA:ay w A (x.map U))(hB:ay w B (([]:List Nat).map U))(hlx:x.length<=10000)(hly:([]:List Nat).length<=10000) :
  Calls Tryz.prog 213 #[.slice A x.length c,.slice B ([]:List Nat).length d,.func (.func 230) #[] #[.pointer (some ⟨K,0,none⟩)]] w (nG w (aV (ah (dx k) x [] (max x.length ([]:List Nat).length+1)).1)):=by
 obtain⟨i0,hi,hz0,hz1,hz2⟩:=abm rZ;have hxd:=fun i=>getD_lt aC hx i
 have HX:Hid (∀i,x.getD i 0<1000000000):=hxd;have HY:Hid (∀i,([]:List Nat).getD i 0<1000000000):=fun i=>by first|exact getD_lt aC hy i|(rw[eB (by simp)];omega)
 have HI:Hid (∀i,(ah (dx k) x [] i).2<1000000000):=fun i=>Mw hx hk i
 have HL:Hid (∀i,(ah (dx k) x [] i).1.length=i):=fun i=>jb _ _ _ i
 obtain⟨N,hN⟩:∃N,max x.length ([]:List Nat).length=N:=⟨_,rfl⟩;have hmx:max ((x.length:Nat):Int) ((([]:List Nat).length:Nat):Int)=(N:Int):=by omega
 have hN1:N<=10000:=by omega
 have hN2:N<=x.length+0:=by first|omega|(simp at hN;omega)
 have HN1:=Pd hN;rw[hN];clear hN hxd;go_enter Tryz.func213,Tryz.ntmps213;go_wp2_with fail
 go_loopw [7,8,19] (fun l cy i wr=>∃(j0:Nat),i=.int .i64 j0/\j0<=N+1/\cy=.int .u64 (ah (dx k) x [] j0).2/\Below w w wr/\Own w.heap.size 231 l ((ah (dx k) x [] j0).1.map U) wr) (fun _ _ i _=>N+1-(intOf i).toNat)
 case atStart=>exact⟨0,rfl,by omega,rfl,aac _ _,Own.nil _ _ _⟩
 case round=>
  obtain⟨k0,rfl,hk0,rfl,hb,hown⟩:=hrel;by_cases hlt:k0<N+1
  ·obtain⟨a,ha⟩:∃a,x.getD k0 0=a:=⟨_,rfl⟩
   obtain⟨b,hb'⟩:∃b,([]:List Nat).getD k0 0=b:=⟨_,rfl⟩;obtain⟨q,hq⟩:∃q,(ah (dx k) x [] k0).2=q:=⟨_,rfl⟩;have ha1:=HX.out k0;have hb1:=HY.out k0;have hq1:=HI.out k0;have hlen:=HL.out k0;rw[ha]at ha1;rw[hb']at hb1;rw[hq]at hq1;have hcl:∀W,Below w w W->Calls Tryz.prog 230 #[.int .u64 a,.int .u64 b,.int .u64 q,.pointer (some ⟨K,0,none⟩)] W fun e w'=>e=.returned (.tuple #[.int .u64 ((dx k) a b q).1,.int .u64 ((dx k) a b q).2])/\W=w':=fun W hW=>FW k a b q K W ((hW.cell (ax hK)).trans hK) ha1 hk hq1
   have hS1:(ah (dx k) x [] (k0+1)).1=(ah (dx k) x [] k0).1++[((dx k) a b q).1]:=by rw[<-ha,<-hb',<-hq];rfl
   have hS2:(ah (dx k) x [] (k0+1)).2=((dx k) a b q).2:=by rw[<-ha,<-hb',<-hq];rfl
   have Uf:=Pd hS1;have HS2:=Pd hS2;obtain⟨r1,hr1⟩:∃r,((dx k) a b q).1=r:=⟨_,rfl⟩;obtain⟨r2,hr2⟩:∃r,((dx k) a b q).2=r:=⟨_,rfl⟩;rw[hr1]at Uf;rw[hr2]at HS2;rw[hr1,hr2]at hcl;rw[hq];generalize (ah (dx k) x [] k0).1=L at hown hlen Uf;have TY:(L.map U).length+1<=maxLen:=by rw[aaC];unfold maxLen;omega
   have hmb:((L.map U).length+1)*8<=140737488355328:=by rw[aaC];omega
   clear hr1 hr2 hq hS1 hS2;by_cases h1:k0<x.length
   ·obtain⟨b1,o1,rfl,Xw,hcell1⟩:=(hA.below hb) (by intro e;rw[aaO]at e;rw[e]at h1;simp at h1)
    have hc1:wr.cell? ⟨b1,o1+k0,none⟩=some (.int .u64 a):=by rw[<-ha,kv h1];exact hcell1 k0 _ (gP h1)
    clear hcell1 ha;by_cases h2:k0<([]:List Nat).length
    ·try (exact absurd h2 (abW _))
     all_goals
      obtain⟨b2,o2,rfl,U1,hcell2⟩:=(hB.below hb) (by intro e;rw[aaO]at e;rw[e]at h2;simp at h2);have hc2:wr.cell? ⟨b2,o2+k0,none⟩=some (.int .u64 b):=by rw[<-hb',kv h2];exact hcell2 k0 _ (gP h2)
      clear hcell2 hb';go_wp2_with (first|(go_at_call 230;refine(hcl _ hb).mono ?_;rintro e wx ⟨rfl,rfl⟩)|(at_builtin;refine fJ rfl (.tmp 46) (.tmp 48) 229 rfl w.heap.size i0 _ 8 abf hi hz0 hz1 hz2 rfl _ (L.map U) rfl hown 1 rfl rfl TY hmb hb.size ?_;intro v' w3 TE _ hb4));go_roundw
      case rel=>exact⟨k0+1,by go_num,by omega,by rw[HS2.out],hb.trans hb4,by rw[Uf.out,<-jQ];exact TE⟩
      case measure=>simp[intOf];omega
    ·obtain rfl:b=0:=by rw[<-hb',eB (by omega)]
     clear hb';go_wp2_with (first|(go_at_call 230;refine(hcl _ hb).mono ?_;rintro e wx ⟨rfl,rfl⟩)|(at_builtin;refine fJ rfl (.tmp 46) (.tmp 48) 229 rfl w.heap.size i0 _ 8 abf hi hz0 hz1 hz2 rfl _ (L.map U) rfl hown 1 rfl rfl TY hmb hb.size ?_;intro v' w3 TE _ hb4));go_roundw
     case rel=>exact⟨k0+1,by go_num,by omega,by rw[HS2.out],hb.trans hb4,by rw[Uf.out,<-jQ];exact TE⟩
     case measure=>simp[intOf];omega
   ·obtain rfl:a=0:=by rw[<-ha,eB (by omega)]
    clear ha;by_cases h2:k0<([]:List Nat).length
    ·try (exact absurd h2 (abW _))
     all_goals
      obtain⟨b2,o2,rfl,U1,hcell2⟩:=(hB.below hb) (by intro e;rw[aaO]at e;rw[e]at h2;simp at h2);have hc2:wr.cell? ⟨b2,o2+k0,none⟩=some (.int .u64 b):=by rw[<-hb',kv h2];exact hcell2 k0 _ (gP h2)
      clear hcell2 hb';go_wp2_with (first|(go_at_call 230;refine(hcl _ hb).mono ?_;rintro e wx ⟨rfl,rfl⟩)|(at_builtin;refine fJ rfl (.tmp 46) (.tmp 48) 229 rfl w.heap.size i0 _ 8 abf hi hz0 hz1 hz2 rfl _ (L.map U) rfl hown 1 rfl rfl TY hmb hb.size ?_;intro v' w3 TE _ hb4));go_roundw
      case rel=>exact⟨k0+1,by go_num,by omega,by rw[HS2.out],hb.trans hb4,by rw[Uf.out,<-jQ];exact TE⟩
      case measure=>simp[intOf];omega
    ·obtain rfl:b=0:=by rw[<-hb',eB (by omega)]
     clear hb';go_wp2_with (first|(go_at_call 230;refine(hcl _ hb).mono ?_;rintro e wx ⟨rfl,rfl⟩)|(at_builtin;refine fJ rfl (.tmp 46) (.tmp 48) 229 rfl w.heap.size i0 _ 8 abf hi hz0 hz1 hz2 rfl _ (L.map U) rfl hown 1 rfl rfl TY hmb hb.size ?_;intro v' w3 TE _ hb4));go_roundw
     case rel=>exact⟨k0+1,by go_num,by omega,by rw[HS2.out],hb.trans hb4,by rw[Uf.out,<-jQ];exact TE⟩
     case measure=>simp[intOf];omega
  ·obtain rfl:k0=N+1:=by omega
   have hlen:=HL.out (N+1);have HD:=HI;clear HX HY HI HL hA hB;obtain⟨L,hL0⟩:∃L,(ah (dx k) x [] (N+1)).1=L:=⟨_,rfl⟩;rw[hL0]at hown hlen;have Xd:=Pd hL0;clear hL0;obtain⟨A',c',rfl,hc',hr⟩:=hown.row.to (n:=L.length) (by simp);have ht:=pu A' c' L wr hr (by omega) hc';have hle:=nA L;have HO:=Pd (hown.upto (k:=(aV L).length) (by rw[aaC];exact nA L));have Um:=Pd (oz L);obtain⟨L2,hL2⟩:∃L2,aV L=L2:=⟨_,rfl⟩;rw[hL2]at ht hle HO Um;have HL2:=Pd hL2;clear hL2;clear hr hown hlen;go_wp2_with (go_at_call 195;refine ht.mono ?_;rintro e wx ⟨rfl,rfl⟩);go_returns;unfold nG;rw[Xd.out,HL2.out];refine⟨_,rfl,?_,hb⟩;have h1:=HO.out;rw[<-adv,<-Um.out]at h1;exact h1
def Kn(m n:Nat):aV (ah dB (blk m) (blk n) (max (blk m).length (blk n).length+1)).1=blk (m+n):=by
 obtain⟨h1,h2⟩:=Ko (aCp m) (aCp n) (n:=max (blk m).length (blk n).length) (af0 _ _) (Nat.le_max_right _ _);rw[qC dN h2,h1,gM,gM];rfl
def Je{m n:Nat}(h:n<=m):aV (ah dm (blk m) (blk n) (max (blk m).length (blk n).length+1)).1=blk (m-n):=by
 obtain⟨h1,_,h2⟩:=Jf (aCp m) (aCp n) (n:=max (blk m).length (blk n).length+1) (by omega) (by omega) (by rw[gM,gM];exact h);rw[qC dN h2,h1,gM,gM];rfl
def Mv{k:Nat}(hk:k<=BB)(m:Nat):aV (ah (dx k) (blk m) [] (max (blk m).length ([]:List Nat).length+1)).1=blk (k*m):=by
 obtain⟨h1,h2⟩:=MB (k:=k) (aCp m) hk (n:=max (blk m).length ([]:List Nat).length) (af0 _ _);rw[qC dN h2,h1,gM];rfl
def Km(A B:Option Addr)(c d m n:Nat)(w:World)  (hA:ay w A ((blk m).map U)) (hB:ay w B ((blk n).map U)) (hm:(blk m).length<=10000) (hn:(blk n).length<=10000) :
  Calls Tryz.prog 205 #[.slice A (blk m).length c,.slice B (blk n).length d] w (sw w (blk (m+n))):=by
 have he:=GR A B c d w (blk m) (aCp m) (blk n) (aCp n) hA hB hm hn;rw[Kn m n]at he;generalize (blk m).length=M at*;generalize (blk n).length=N at*;go_enter Tryz.func205,Tryz.ntmps205;go_wp2_with fail;refine he.mono ?_;rintro e w' ho;obtain⟨A',c',rfl,h1,h2,h3⟩:=ho.blk;go_wp2_with fail;go_returns;exact⟨A',c',rfl,h1,h2,h3⟩
def Jd(A B:Option Addr)(c d m n:Nat)(w:World)(hle:n<=m)(hA:ay w A ((blk m).map U))(hB:ay w B ((blk n).map U))(hm:(blk m).length<=10000)(hn:(blk n).length<=10000) :
  Calls Tryz.prog 208 #[.slice A (blk m).length c,.slice B (blk n).length d] w (sw w (blk (m-n))):=by
 have he:=GQ A B c d w (blk m) (aCp m) (blk n) (aCp n) hA hB hm hn;rw[Je hle]at he;generalize (blk m).length=M at*;generalize (blk n).length=N at*;go_enter Tryz.func208,Tryz.ntmps208;go_wp2_with fail;refine he.mono ?_;rintro e w' ho;obtain⟨A',c',rfl,h1,h2,h3⟩:=ho.blk;go_wp2_with fail;go_returns;exact⟨A',c',rfl,h1,h2,h3⟩
def DY(A:Option Addr)(c m k:Nat)(w:World)(hk:k<=BB)(hA:ay w A ((blk m).map U))(hm:(blk m).length<=10000) :
  Calls Tryz.prog 220 #[.slice A (blk m).length c,.int .u64 k] w (nG w (blk (k*m))):=by
 have hb0:Below w w (w.alloc (.cells #[.int .u64 k] 231)):=(aac _ w).alloc (Pe _) _;have he:=GU A none c 0 (w.alloc (.cells #[.int .u64 k] 231)) (blk m) (aCp m) k w.heap.size hk (by simp) (hA.below hb0) (ay.nil _ _) hm (by simp);rw[Mv hk]at he;generalize (blk m).length=M at*;go_enter Tryz.func220,Tryz.ntmps220;go_wp2_with fail;refine he.mono ?_;rintro e w' ⟨v,rfl,ho,h3⟩;go_wp2_with fail;go_returns;exact⟨v,rfl,ho.lower (by simp),ae hb0 h3⟩
open Go.RowKit Go.Sort Go.Lib
def xB(u:Nat):Lib.decDigits u=af u:=by
 induction u using Nat.strongRecOn with
 |ind u ih=>
  rw[Lib.decDigits];by_cases h:u<10
  ·rw[afd h]
   by_cases h0:u=0
   ·subst h0;rfl
   ·rw[nN h0,mE (by omega) h0,adn h,acF h];rfl
  ·rw[aek h,ih (u/10) (by omega),nN (show u≠0 by omega),nN (show u/10≠0 by omega),mE (n:=u) (by omega) (by omega),List.reverse_cons,aa3];rfl
def Io(u:Nat)(hu:u<1000000000)(w:World)(htab:Lib.TabIs Tryz.prog w "internal/strconv.uint64pow10" .u64 Lib.pow10Tab) :
  Calls Tryz.prog 225 #[.int .u64 u,.int .i64 10] w fun e w'=>e=.returned (.string ⟨(af u).toArray⟩)/\Below w w w':=by
 by_cases hs:u<100
 ·have hsm:=fun W=>Tryz.internal_strconv_small u hs W
  rw[xB]at hsm;go_enter Tryz.func225,Tryz.ntmps225;go_wp2_with (go_at_call 231;refine(hsm _).mono ?_;rintro e wx ⟨rfl,rfl⟩);go_returns;exact⟨rfl,aac _ _⟩
 ·have hu1:1<=u:=by omega
  have hu64:u<18446744073709551616:=by omega
  have hnd20:Lib.nDigits u<=20:=by have:=Lib.numDigits_eq u hu1 hu64;split at this<;>omega
  have hal:Tryz.prog.arrayLen 257=24:=by simp[Program.arrayLen,Tryz.underlying257]
  have aCz:=fun W h=>Tryz.internal_strconv_numDigits u hu1 hu64 W h
  have hH0:=Lib.holds_zero0 w 257 (Lib.nDigits u) (by omega);have hfmt:=Tryz.internal_strconv_formatBase10 w.heap.size 0 24 u (Array.replicate (Lib.nDigits u) 0) (w.alloc (.cells Lib.zeros24 257)) hH0 (by rw[adM];exact Lib.lt_pow_nDigits u) hu64 (by rw[adM];omega);rw[adM]at hfmt;have HH0:=Pd hH0;have hdl:=Lib.decDigits_length u;have hnd1:1<=Lib.nDigits u:=by rw[<-hdl,xB];exact aaM.2 (lw u)
  have aCK:=Lib.tabIs_alloc htab (.cells Lib.zeros24 257);generalize hnd:Lib.nDigits u=nd at hnd20 aCz hfmt hdl hnd1;have hsl:∀W,(Instr.sliceAt 257 (.pointer (some ⟨w.heap.size,0,none⟩)) none (some (.int .i64 (nd:Int))) none).run Tryz.prog W=.ok (.slice (some ⟨w.heap.size,0,none⟩) nd 24) W:=fun W=>by
   rw[run_sliceAt_array_h W 257 ⟨w.heap.size,0,none⟩ (by simp[Program.arrayLen,Program.elem,Tryz.underlying257]) .i64 (nd:Int) (by omega) (by rw[hal];omega)]
   go_simp
  have HND:=Pd hnd;clear hH0 hal hnd;go_enter Tryz.func225,Tryz.ntmps225
  go_wp2_with (first
   |(go_at_call 232;refine(aCz _ aCK).mono ?_;rintro e w' ⟨rfl,rfl⟩))
  refine hfmt.mono ?_;rintro e w' ⟨rfl,k,v',dk,rfl,hF⟩;have hcv:(convert 127 9 (.slice (some ⟨w.heap.size,0,none⟩) nd 24)).run Tryz.prog ((putRow (fun(b:UInt8)=>Value.int .u8 (b.toNat:Int)) (w.alloc (.cells Lib.zeros24 257)) w.heap.size 0 dk).drewN k)=.ok (.string ⟨(af u).toArray⟩) ((putRow (fun(b:UInt8)=>Value.int .u8 (b.toNat:Int)) (w.alloc (.cells Lib.zeros24 257)) w.heap.size 0 dk).drewN k):=by
   have hF':=hF;rw[<-HND.out]at hF';have h:=ac1 (P:=Tryz.prog) ((putRow (fun(b:UInt8)=>Value.int .u8 (b.toNat:Int)) (w.alloc (.cells Lib.zeros24 257)) w.heap.size 0 dk).drewN k) 127 9 5 ⟨w.heap.size,0,none⟩ 24 (Lib.decDigits u) abF abd aaV (fun j hj=>by
    rw[Lib.row_is_numeral hF' j hj,Lib.add_plain,World.cell?_drewN];exact cell?_putRow (fun(b:UInt8)=>Value.int .u8 (b.toNat:Int)) _ w.heap.size 0 _ dk HH0.out (by rw[hF'.size,adM]) j (by rw[hF'.size];rw[Lib.decDigits_length]at hj;exact hj))
   rw[hdl,xB]at h;exact h
  obtain⟨os,eo⟩:=Lib.fin_at w (.cells Lib.zeros24 257) dk k 0;have hbl:Below w w ((putRow (fun(b:UInt8)=>Value.int .u8 (b.toNat:Int)) (w.alloc (.cells Lib.zeros24 257)) w.heap.size 0 dk).drewN k):=by
   rw[eo];exact Lib.below_grow _ _ (Pe _) _ _
  clear hF eo;generalize (putRow (fun(b:UInt8)=>Value.int .u8 (b.toNat:Int)) (w.alloc (.cells Lib.zeros24 257)) w.heap.size 0 dk).drewN k=w2 at hcv hbl ⊢;go_wp2_with fail;go_returns;exact⟨rfl,hbl⟩
def Ih(u:Nat)(hu:u<1000000000)(w:World)(htab:Lib.TabIs Tryz.prog w "internal/strconv.uint64pow10" .u64 Lib.pow10Tab) :
  Calls Tryz.prog 217 #[.int .u64 u,.int .i64 10] w fun e w'=>e=.returned (.string ⟨(af u).toArray⟩)/\Below w w w':=by
 have hi:=Io u hu w htab;go_enter Tryz.func217,Tryz.ntmps217;go_wp2_with (first|(go_at_call 225;refine hi.mono ?_;rintro e w' ⟨rfl,hb⟩));go_returns;exact⟨rfl,hb⟩
end Go.Proofs.YtppnecgeboonbaaGreatDoor.Rat3
