/- Walks. -/
import Derived.Handy
import Derived.IntWalk
import Derived.Lib.Hide
import Derived.Lib.Strings
import Derived.Test.YtppnecgeboonbaaGreatDoorZ04
import Derived.Test.YtppnecgeboonbaaGreatDoorZ02
import Derived.Laws.Rows
import Derived.WalkSmall
import Derived.Lib.SmallJoins
import Derived.Lib.FrozenHead2
import Derived.Lib.OthersKept
import Derived.Lib.UnsafeStr
import Derived.WalkSpells
import Derived.WalkLawsBesides
import Derived.Deep.Light
import Derived.BigQuiet
import Derived.Deep.QuietTactic
import Derived.Maps.AppendAt
import Derived.Lib.AppendStr
import Derived.Lib.BufferRead
import Derived.Laws.IdiomStrings
import Derived.Deep.RegionWith
import Derived.Deep.DeepCutAuto
import Derived.Laws.EntriesVeiled
namespace Go.Proofs.YtppnecgeboonbaaGreatDoor
set_option maxRecDepth 100000
set_option linter.all false
set_option maxHeartbeats 4000000
def ae6:=@Go.trodAll_cons_mk
def afE:=@Go.Lib.run_convert_nil_bytes
def afI:=@Go.Lib.bytes_of_row
open Go.RowKit
def kF{k:IntKind}{a b:Int}(h:a=b):Ending.returned (.int k a)=.returned (.int k b):=by rw[h]
def Dw{a b:Bool}(h:a=b):Ending.returned (.bool a)=.returned (.bool b):=by rw[h]
def uC{k k':IntKind}{a b c d:Int}(h:a=b)(h':c=d):Ending.returned (.tuple #[.int k a,.int k' c])=.returned (.tuple #[.int k b,.int k' d]):=by rw[h,h']
def uD{a b:ByteArray}(h:a.data.toList=b.data.toList):Ending.returned (.string a)=.returned (.string b):=by
 have:a=b:=by
  cases a;cases b;simp at h;rw[h]
 rw[this]
structure bK (w:World):Prop where
 u8:Lib.Utf8Tabs 1 2 w
 lt:6<=w.heap.size
def ax{w:World}{a:Addr}{v:Value}(h:w.cell? a=some v):a.block<w.heap.size:=by
 rcases aaz a.block w.heap.size with hh|hh
 ·exact hh
 ·unfold World.cell? at h;rw[abY hh]at h;cases h
def bK.below{w w':World}(h:bK w)(hb:Below w w w'):bK w':=by
 obtain⟨⟨h1,h2⟩,h5⟩:=h;have key:∀ {a:Addr} {v:Value},w.cell? a=some v->w'.cell? a=some v:=fun {a v} hc=>(hb.cell (ax hc)).trans hc
 exact⟨⟨fun c hc=>key (h1 c hc),fun i hi=>⟨key (h2 i hi).1,key (h2 i hi).2⟩⟩,aaB h5 hb.size⟩
def Row(w:World)(v:Value)(cs:List Value):Prop:=
 ∃A c,v=.slice A cs.length c/\cs.length<=c/\(cs≠[]->∃b o,A=some ⟨b,o,none⟩/\b<w.heap.size/\∀(j:Nat) u,cs[j]? = some u->w.cell? ⟨b,o+j,none⟩=some u)
def Row.below{w w':World}{v:Value}{cs:List Value}(h:Row w v cs)(hb:Below w w w'):Row w' v cs:=by
 obtain⟨A,c,rfl,hc,hr⟩:=h;refine⟨A,c,rfl,hc,fun hne=>?_⟩;obtain⟨b,o,rfl,hlt,hcell⟩:=hr hne;exact⟨b,o,rfl,aah hlt hb.size,fun j u hu=>(hb.cell (p:=⟨b,o+j,none⟩) hlt).trans (hcell j u hu)⟩
def ay(w:World)(A:Option Addr)(cs:List Value):Prop:=
 cs≠[]->∃b o,A=some ⟨b,o,none⟩/\b<w.heap.size/\∀(j:Nat) u,cs[j]? = some u->w.cell? ⟨b,o+j,none⟩=some u
def ay.below{w w':World}{A:Option Addr}{cs:List Value}(h:ay w A cs)(hb:Below w w w'):ay w' A cs:=fun hne=>by
 obtain⟨b,o,rfl,hlt,hcell⟩:=h hne;exact⟨b,o,rfl,aah hlt hb.size,fun j u hu=>(hb.cell (p:=⟨b,o+j,none⟩) hlt).trans (hcell j u hu)⟩
def ay.nil(w:World)(A:Option Addr):ay w A []:=fun h=>absurd rfl h
def Row.to{w:World}{v:Value}{cs:List Value}{n:Nat}(h:Row w v cs)(hn:cs.length=n):∃A c,v=.slice A n c/\n<=c/\ay w A cs:=by
 obtain⟨A,c,rfl,hc,hr⟩:=h;subst hn;exact⟨A,c,rfl,hc,hr⟩
def Row.nil(w:World):Row w (.slice none 0 0) []:=⟨none,0,rfl,Pe _,fun h=>absurd rfl h⟩
def oL{w w':World}(h:Below w w w')(row:Option Nat):w.grownBy w' row:=⟨h.os,h.tape,h.output,h.size,fun k hk _=>h.block k hk⟩
def fC(B b:Nat)(l:Bs)(w:World):Prop:=Lib.IsBuilderF 134 5 B b (Lib.byteCells l) w
def fC.lt{B b:Nat}{l:Bs}{w:World}(h:fC B b l w):B<=b/\b<w.heap.size:=by
 rcases h with h|h
 ·exact⟨h.1,h.lt⟩
 ·exact⟨h.1,h.lt⟩
def sI{T e B b:Nat}{p:Value}{bs:List Value}{w w':World}(h:Lib.BuilderAtF T e B b p bs w)(hg:w.grownBy w' none):Lib.BuilderAtF T e B b p bs w':=by
 have hlt:=h.lt;obtain⟨hB,v,hb,hown,hne⟩:=h;exact⟨hB,v,(hg.block b hlt (by simp)).trans hb,hown.kept hg (by cases hv:v.ownBlock<;>simp),hne⟩
def fC.below{B b:Nat}{l:Bs}{w w':World}(h:fC B b l w)(hb:Below w w w'):fC B b l w':=by
 rcases h with h|h
 ·exact aam (sI h (oL hb none))
 ·exact aad (sI h (oL hb none))
def ae{w w1 w2:World}(h:Below w w w1)(hb:Below w1 w1 w2):Below w w w2:=h.trans (hb.mono h.size)
def eH(s:ByteArray)(a b:Nat):(s.extract a b).data.toList=(s.data.toList.drop a).take (b-a):=adN s a b
def yS:Value->Nat | .string s=>s.size|_=>0
def fF{s:ByteArray}(h:s.size=0):s.data.toList=[]:=aaQ (by rw[<-aae];exact h)
def gB{s:ByteArray}(h:¬ s.size=0):¬ s.data.toList=[]:=fun e=>h (by rw[aae,e];rfl)
def jF{s:ByteArray}(h:s.size=0):s.toList.isEmpty=true:=by rw[aan,fF h];rfl
def jI{s:ByteArray}(h:¬ s.size=0):s.toList.isEmpty=false:=by
 rw[aan]
 cases hl:s.data.toList with
 |nil=>exact absurd hl (gB h)
 |cons _ _=>rfl
def fC.new(w:World):fC w.heap.size w.heap.size [] (w.alloc (.cells #[.pointer none,.slice none 0 0] 134)):=
 aam ⟨Pe _,.slice none 0 0,aaq w _,World.ownsRowF_nil _ _ _ _,by simp[Value.ownBlock]⟩
def tC(t:ByteArray)(ht:0<t.size):t[0]=t.data.toList.headD 0:=by
 cases t with
 |mk d=>
  cases d with
  |mk l=>
   cases l with
   |nil=>exact absurd ht (by decide)
   |cons x r=>rfl
def Ke(s:ByteArray)(w:World)(hT:bK w) :
  Calls Tryz.prog 115 #[.string s] w fun e w'=>e=.returned (.tuple #[.int .i32 (Lib.decodeGo s).1,.int .i64 (Lib.decodeGo s).2,.bool (dL s.data.toList)])/\Below w w w':=by
 have h1:=oK s;obtain⟨r,hr⟩:∃r,(Lib.decodeGo s).1=r:=⟨_,rfl⟩;obtain⟨n,hn⟩:∃n,(Lib.decodeGo s).2=n:=⟨_,rfl⟩;have hd:=Tryz.utf8_DecodeRuneInString s w hT.u8;have hok:dL s.data.toList=(decide (r≠65533)||decide (1<n)):=by rw[<-hr,<-hn];exact JU s
 rw[hr,hn]at hd ⊢;have HK:=Pd hok;clear h1 hr hn hok;go_enter Tryz.func115,Tryz.ntmps115;go_wp2_with (go_at_call 112;refine hd.mono ?_;rintro e w1 ⟨rfl,hb⟩)
 all_goals go_returns
 all_goals refine⟨?_,hb⟩
 all_goals rw[HK.out]
 all_goals go_light
 ·have hr:r=65533:=by omega
  simp[hr];omega
 ·have hr:r≠65533:=by omega
  simp[hr]
def Own(B:Nat)(e:TypeId)(v:Value)(cs:List Value)(w:World):Prop:=w.ownsRow B e 1 v cs.length cs
def Own.nil(B:Nat)(e:TypeId)(w:World):Own B e (.slice none 0 0) [] w:=abN w B e 1
def Own.grown{B:Nat}{e:TypeId}{v:Value}{cs:List Value}{w w':World}(h:Own B e v cs w){row:Option Nat}(hg:w.grownBy w' row)(hne:v.ownBlock=none\/v.ownBlock≠row):Own B e v cs w':=acu h hg hne
def Own.below{B:Nat}{e:TypeId}{v:Value}{cs:List Value}{w w':World}(h:Own B e v cs w)(hb:Below w w w'):Own B e v cs w':=
 acu h (oL hb none) (by cases v.ownBlock<;>simp)
def Own.alloc{B:Nat}{e:TypeId}{v:Value}{cs:List Value}{w:World}(h:Own B e v cs w)(o:Obj):Own B e v cs (w.alloc o):=World.ownsRow.alloc h o
def Own.lt{B:Nat}{e:TypeId}{v:Value}{cs:List Value}{w:World}(h:Own B e v cs w):∀k,v.ownBlock=some k->B<=k/\k<w.heap.size:=World.ownsRow.lt h
def Own.iter{B:Nat}{e:TypeId}{v:Value}{cs:List Value}{w:World}(h:Own B e v cs w){k:Nat}{s:ByteArray}{p:Nat}(hk:w.heap[k]? = some (.stringIter s p)):some k≠v.ownBlock:=by
 rcases h.2 with⟨rfl,_⟩|⟨g,cap,cur,rfl,_,hg,_⟩
 ·simp[Value.ownBlock]
 ·intro e
  simp only[Value.ownBlock,aao]at e;subst e;rw[hg]at hk;cases hk
def Own.iterAt{B:Nat}{e:TypeId}{v:Value}{cs:List Value}{w:World}(h:Own B e v cs w){k:Nat}{s:ByteArray}{p:Nat}(hk:w.heap[k]? = some (.stringIter s p))(p':Nat):Own B e v cs (w.iterAt k s p'):=by
 refine acu h (row:=some k) ⟨rfl,rfl,rfl,by rw[Lib.iterAt_size];exact Pe _,fun j _ hj=>Lib.iterAt_other w k j s p' (fun e=>hj (by rw[e]))⟩ ?_;exact aad (fun e=>h.iter hk e.symm)
def Own.iterGrown{B:Nat}{e:TypeId}{v:Value}{cs:List Value}{w w':World}(h:Own B e v cs w){k:Nat}{s:ByteArray}{p:Nat}(hk:w.heap[k]? = some (.stringIter s p))(hg:w.grownBy w' v.ownBlock):w'.heap[k]? = some (.stringIter s p):=
 (hg.block _ (abg.1 hk).1 (h.iter hk)).trans hk
def Own.row{B:Nat}{e:TypeId}{v:Value}{cs:List Value}{w:World}(h:Own B e v cs w):Row w v cs:=by
 rcases h.2 with⟨rfl,h0⟩|⟨g,cap,cur,rfl,hB,hg,hn,hm,hc,ht⟩
 ·obtain rfl:cs=[]:=aaQ h0
  exact Row.nil w
 ·refine⟨_,_,rfl,hn,fun _=>⟨g,0,rfl,?_,fun j u hu=>?_⟩⟩
  ·exact(abg.1 hg).1
  ·have:=World.ownsRow.cells h (g:=g) rfl j u hu
   rw[aaP];have e:(⟨g,0,none⟩:Addr).add j=⟨g,j,none⟩:=by unfold Addr.add;split<;>simp_all
   rwa[e]at this
section
variable {P:Program}
def fJ{ops:Array Oper}{rest:List Oper}{o:Oper}{a:Act}{Q:Exit->Act->World->Prop}{w:World}{e:TypeId}{u:Value}(hgd:o.guard=none)(s x:Operand)(t:TypeId)
  (ho:o.op=.call { callee:=.builtin .append,args:=#[s,x],argTypes:=#[t,t] })
  (B:Nat) (i:TypeInfo) (z:Value) (bytes:Nat) (ht:P.underlying t=some (.slice e)) (hi:P.info? e=some i) (hz:i.zero=some z)
  (hsize:i.size=1) (hby:i.bytes=bytes) (hzs:z.cells.size=1)
  (v:Value) (cs:List Value) (hs:a.eval s=v) (hown:Own B e v cs w) (c:Nat) (hx:a.eval x=.slice (some ⟨w.heap.size,0,none⟩) 1 c) (h1:u.oneCell'=true)
  (hb1:cs.length+1<=maxLen) (hbytes:(cs.length+1)*bytes<=140737488355328) (hB:B<=w.heap.size)
  (h:∀v' w',Own B e v' (cs++[u]) w'->w.grownBy w' v.ownBlock->Below B w w'->wpList P ops Q rest (a.put o.dst v') w'):wpList P ops Q (o::rest) a (w.alloc (.cells #[u] e)):=by
 refine wpList_append_own _ hgd s x t ho B e i z 1 bytes ht hi hz hsize hby hzs (by decide) v cs.length cs hs (hown.alloc _) ⟨w.heap.size,0,none⟩ 1 c [u] hx rfl ?_ ?_ hb1 hbytes (by simp;omega) ?_
 ·intro j y hy
  match j,hy with
  |0,hy=>simp at hy;subst hy;simp[Addr.add]
 ·intro y hy;simp at hy;subst hy;exact h1
 ·intro v' w' h2 h3 h4
  have hg:w.grownBy w' v.ownBlock:=⟨h3.os,h3.tape,h3.output,aaB (by simp) h3.size,fun k hk hne=>(h3.block k (by simp;omega) hne).trans (aeF w _ k hk)⟩;refine h v' w' (by unfold Own;rw[aas];exact h2) hg ?_;exact(aac B w).grown hg hB (fun k hk=>(hown.lt k hk).1)
def yx{src dst e:TypeId}{B:Nat}{v:Value}{l:Bs}{w:World}(hs:P.underlying src=some (.slice e))(he:P.underlying e=some (.int .u8))(hd:P.underlying dst=some .string)(h:Own B e v (Lib.byteCells l) w) :
  (convert src dst v).run P w=.ok (.string ⟨l.toArray⟩) w:=by
 have h':w.ownsRow B e 1 v l.length (Lib.byteCells l):=by have:=h;unfold Own at this;rwa[abe]at this
 rcases h'.2 with⟨rfl,h0⟩|⟨g,cap,cur,rfl,_,hg,_,_,_,ht⟩
 ·obtain rfl:l=[]:=aaQ h0
  exact afE w src dst e 0 hs he hd
 ·exact ac1 w src dst e ⟨g,0,none⟩ cap l hs he hd (afI hg (by rw[<-ht,acN]))
def tF(l:Bs)(c:UInt8):Lib.byteCells l++[.int .u8 c.toNat]=Lib.byteCells (l++[c]):=by rw[aeP];rfl
end
def S(l:Bs):Value:=.string ⟨l.toArray⟩
def eX(s:ByteArray):S s.data.toList=.string s:=rfl
def rW:(Tryz.prog.info? 9).map (fun i=>(i.zero,i.size,i.bytes))=some (some (.string ⟨#[]⟩),1,16):=by kernel_rfl
def qL(w:World)(l:List Bs)(at' e':Nat)(e:Ending)(w':World):Prop:=
 ∃A c,e=.returned (.tuple #[.slice A l.length c,.int .i64 at',.int .i64 e'])/\l.length<=c/\ay w' A (l.map S)/\Below w w w'
def Ee(s:ByteArray)(w:World)(hT:bK w)(hs:s.size<=16384) :
  Calls Tryz.prog 98 #[.string s] w (qL w (H6 s.data.toList) (kY s.data.toList) (eQ s.data.toList)):=by
 obtain⟨i0,hi,hz0,hz1,hz2⟩:=abm rW;have hs':s.data.toList.length<=16384:=by rw[<-aae];exact hs
 go_enter Tryz.func98,Tryz.ntmps98;go_wp2_with fail
 go_loopw [2] (fun v wr=>∃(pos:Nat) (done:List Bs),Own w.heap.size 9 v (done.map S) wr/\wr.heap[w.heap.size]? = some (.stringIter s pos)/\Below w w wr/\pos<=s.size/\done.length<=pos/\Hid (pieces s.data.toList=done++pieces (s.data.toList.drop pos)/\(∀p∈done,dF p=true)/\done.flatten.length=pos)) (fun _ wr=>s.size-wr.iterPos w.heap.size)
 case atStart=>
  exact⟨0,[],Own.nil _ _ _,by simpa using af3 w s 0,(aac _ w).alloc (Pe _) _,by omega,by simp,by simp[Hid]⟩
 case round=>
  obtain⟨pos,done,hown,hit,hb,hp,hd,H⟩:=hrel;have hsz:w.heap.size<wr.heap.size:=(abg.1 hit).1;by_cases hlt:pos<s.size
  ·have hnx:∀ty,(Instr.next (.pointer (some ⟨w.heap.size,0,none⟩)) true ty).run Tryz.prog wr=_:=fun ty=>adW wr w.heap.size s pos ty hit hlt
   rw[xD s pos hlt]at hnx;have hre:¬ (s.extract pos s.size).size=0:=by rw[aae,eH];simp;omega
   have hpc:=fun W h=>Ke (s.extract pos s.size) W h
   have hn1:=Ar (s.extract pos s.size) hre;have hsE:(s.extract pos s.size).size=s.size-pos:=by rw[aae,eH];simp
   have hps:=Dh (s.extract pos s.size) hre;have hrf:=Gf (s.extract pos s.size);rw[eH]at hpc hps hrf;have hdt:(s.data.toList.drop pos).take (s.size-pos)=s.data.toList.drop pos:=aav (by simp);rw[hdt]at hpc hps hrf;obtain⟨r,hr⟩:∃r,(Lib.decodeGo (s.extract pos s.size)).1=r:=⟨_,rfl⟩;obtain⟨n,hn⟩:∃n,(Lib.decodeGo (s.extract pos s.size)).2=n:=⟨_,rfl⟩;obtain⟨k,hk⟩:∃k,dL (s.data.toList.drop pos)=k:=⟨_,rfl⟩;rw[hr,hn,hk]at hpc;rw[hr,hn]at hnx;rw[hn]at hn1 hps;rw[hr,hk]at hrf;have WK:=aeG hb (k:=w.heap.size) (Pe _) s (pos+n);have hit2:=aeQ wr w.heap.size s pos (pos+n) hit;have hown2:=hown.iterAt hit (pos+n);have HK:=Pd hk;have HP:=Pd hps;clear hr hn hk hps hdt hre;have hn2:1<=n/\pos+n<=s.size:=by omega
   clear hn1 hsE;obtain⟨hn2,X9⟩:=hn2
   cases k
   ·obtain rfl:=hrf rfl
    go_wp2_with (first|(go_at_call 115;refine(hpc _ (hT.below WK)).mono ?_;rintro e w1 ⟨rfl,hb1⟩));go_returns;obtain⟨e1,e2,e3⟩:=MW hs' HK.out H.out hlt;exact⟨none,0,by rw[e1,e2,e3];rfl,by rw[e1];exact Pe _,by rw[e1];exact ay.nil _ _,ae WK hb1⟩
   ·have hlen:(done.map S).length=done.length:=by simp
    clear hrf;have ml:(done.map S).length+1<=maxLen:=by rw[hlen];unfold maxLen;omega
    have mb:((done.map S).length+1)*16<=140737488355328:=by rw[hlen];omega
    clear hlen;have HS:Hid (Value.string (s.extract pos (pos+n))=S ((s.data.toList.drop pos).take n)):=by unfold Hid;rw[<-eX,eH,aem]
    have hzz:w.heap.size<=(wr.iterAt w.heap.size s (pos+n)).heap.size:=WK.size;rcases(show r=65533\/¬ r=65533 from by omega)with rfl|hr3
    all_goals
     go_wp2_with (first|(go_at_call 115;refine(hpc _ (hT.below WK)).mono ?_;rintro e w1 ⟨rfl,hb1⟩;have hit3:=(hb1.block _ (by rw[Lib.iterAt_size];exact hsz)).trans hit2;have TI:=ae WK hb1;have hown3:=hown2.below hb1)|(at_builtin;refine fJ rfl (.tmp 34) (.tmp 41) 22 rfl w.heap.size i0 _ 16 abU hi hz0 hz1 hz2 rfl _ (done.map S) rfl hown3 1 rfl rfl ml mb TI.size ?_;intro v' w2 TE hg hb2;have aCo:=hown3.iterGrown hit3 hg));go_roundw
     case rel=>exact⟨pos+n,done++[(s.data.toList.drop pos).take n],by rw[aa3];rw[HS.out]at TE;exact TE,aCo,TI.trans hb2,by omega,by simp;omega,MV HP.out HK.out hlt X9 H.out⟩
     case measure=>simp only[World.iterPos,aCo,hit];omega
  ·have hnx:∀ty,(Instr.next (.pointer (some ⟨w.heap.size,0,none⟩)) true ty).run Tryz.prog wr=_:=fun ty=>ae8 wr w.heap.size s pos ty hit hlt
   go_wp2_with fail;go_returns;obtain⟨e1,e2,e3⟩:=MR hs' H.out (by rw[<-aae];omega);obtain⟨A,c,hv,hc,hr⟩:=hown.row.to (n:=done.length) (by simp);exact⟨A,c,by rw[e1,e2,e3,<-hv];rfl,by rw[e1];exact hc,by rw[e1];exact hr,hb⟩
def MU(s:ByteArray)(w:World)(hs:16384<s.size) :
  Calls Tryz.prog 98 #[.string s] w (qL w (H6 s.data.toList) (kY s.data.toList) (eQ s.data.toList)):=by
 have hl:16384<s.data.toList.length:=by rw[<-aae];exact hs
 have e:iC s.data.toList=([],0,2):=by unfold iC;rw[aaa hl]
 have HE:=Pd e;clear e hl;go_enter Tryz.func98,Tryz.ntmps98;go_wp2_with fail;go_returns;exact⟨none,0,by rw[kY,eQ,H6,HE.out];rfl,by rw[H6,HE.out];exact Pe _,by rw[H6,HE.out];exact ay.nil _ _,aac _ _⟩
def MS(s:ByteArray)(w:World)(hT:bK w) :
  Calls Tryz.prog 98 #[.string s] w (qL w (H6 s.data.toList) (kY s.data.toList) (eQ s.data.toList)):=by
 rcases aaz 16384 s.size with h|h
 ·exact MU s w h
 ·exact Ee s w hT h
def zG(s:ByteArray)(i:Nat)(w:World) :
  Calls Tryz.prog 157 #[.string s,.int .i64 i] w fun e w'=>e=.returned (.int .i64 (aM s.data.toList i))/\w=w':=by
 by_cases h:i<s.size
 ·have hb:=s[i].toNat_lt
  go_enter Tryz.func157,Tryz.ntmps157;go_wp2;go_ret;exact⟨kF (by simp[aM,h];rfl),rfl⟩
 ·go_enter Tryz.func157,Tryz.ntmps157
  go_wp2;go_ret;exact⟨kF (by simp[aM,h]),rfl⟩
def Jq(s:ByteArray)(i:Nat)(w:World) :
  Calls Tryz.prog 158 #[.string s,.int .i64 i] w fun e w'=>e=.returned (.bool (cont s.data.toList i))/\w=w':=by
 have hb:=kM s.data.toList i;go_enter Tryz.func158,Tryz.ntmps158;go_wp2_with (go_at_call 157;refine(zG _ _ _).mono ?_;rintro e w' ⟨rfl,rfl⟩)
 all_goals go_ret
 all_goals exact⟨Dw (by rw[aeN];simp[cont];omega),rfl⟩
def Df(s:ByteArray)(i:Nat)(w:World)(hs:s.size<=9223372036854775807)(hi:i<=9223372036854775800) :
  Calls Tryz.prog 122 #[.string s,.int .i64 i] w fun e w'=>e=.returned (.tuple #[.int .i64 (point s.data.toList i).1,.int .i64 (point s.data.toList i).2])/\w=w':=by
 have hb:=kM s.data.toList i;have hb1:=kM s.data.toList (i+1);have hb2:=kM s.data.toList (i+2);have hb3:=kM s.data.toList (i+3);go_enter Tryz.func122,Tryz.ntmps122;go_wp2_with (first|(go_at_call 157;refine(zG _ _ _).mono ?_;rintro e w' ⟨rfl,rfl⟩)|(go_at_call 158;refine(Jq _ _ _).mono ?_;rintro e w' ⟨rfl,rfl⟩))
 all_goals go_ret2
 all_goals refine⟨uC ?_ ?_,rfl⟩
 all_goals go_light
 all_goals have hl:=aae s
 all_goals try simp only[jR,F3]at *
 all_goals unfold point oD kZ nC
 all_goals try simp only[jR]
 all_goals (repeat' split)<;>omega
def EQ(w:World)(l:List Bs)(e:Ending)(w':World):Prop:=∃A c,e=.returned (.slice A l.length c)/\l.length<=c/\ay w' A (l.map S)/\Below w w w'
def Kg(s:ByteArray)(w:World)(hs:s.size<=1000000000) :
  Calls Tryz.prog 104 #[.string s] w (EQ w (pieces s.data.toList)):=by
 obtain⟨i0,hi,hz0,hz1,hz2⟩:=abm rW;go_enter Tryz.func104,Tryz.ntmps104;go_wp2_with fail
 go_loopw [3,4] (fun v i wr=>∃(pos:Nat) (done:List Bs),i=.int .i64 pos/\Own w.heap.size 9 v (done.map S) wr/\Below w w wr/\pos<=s.size/\done.length<=pos/\Hid (pieces s.data.toList=done++pieces (s.data.toList.drop pos))) (fun _ i _=>s.size-(intOf i).toNat)
 case atStart=>
  exact⟨0,[],rfl,Own.nil _ _ _,aac _ _,by omega,by simp,by simp[Hid]⟩
 case round=>
  obtain⟨pos,done,rfl,hown,hb,hp,hd,H⟩:=hrel;by_cases hlt:pos<s.size
  ·have hpt:=Ku s.data.toList pos
   have hpn:=qp (s.data.toList.drop pos) (by simp;omega);have hst:=rE (s.data.toList.drop pos) (by simp;omega);have hc:=fun W=>Df s pos W (by omega) (by omega)
   rw[hpt]at hc;have hmx:eF (s.data.toList.drop pos)=max (point (s.data.toList.drop pos) 0).2 1:=rfl;simp only[aaH,<-aae]at hpn;obtain⟨n,hn⟩:∃n,eF (s.data.toList.drop pos)=n:=⟨_,rfl⟩;rw[hn]at hmx hpn hst;obtain⟨c,hcc⟩:∃c,(point (s.data.toList.drop pos) 0).1=c:=⟨_,rfl⟩;obtain⟨m,hm⟩:∃m,(point (s.data.toList.drop pos) 0).2=m:=⟨_,rfl⟩;rw[hcc,hm]at hc;rw[hm]at hmx;have hlen:(done.map S).length=done.length:=by simp
   have ml:(done.map S).length+1<=maxLen:=by rw[hlen];unfold maxLen;omega
   have mb:((done.map S).length+1)*16<=140737488355328:=by rw[hlen];omega
   have HS:Hid (Value.string (s.extract pos (pos+n))=S ((s.data.toList.drop pos).take n)):=by unfold Hid;rw[<-eX,eH,aem]
   have HST:=Pd hst;have hmax:max (m:Int) 1=(n:Int):=by omega
   clear hlen hn hpt hcc hm hst hmx;go_wp2_with (first|(go_at_call 122;refine(hc _).mono ?_;rintro e w1 ⟨rfl,rfl⟩)|(at_builtin;refine fJ rfl (.tmp 19) (.tmp 26) 22 rfl w.heap.size i0 _ 16 abU hi hz0 hz1 hz2 rfl _ (done.map S) rfl hown 1 rfl rfl ml mb hb.size ?_;intro v' w2 TE hg hb2));clear hmax;go_roundw
   case rel=>exact⟨pos+n,done++[(s.data.toList.drop pos).take n],by go_num,by rw[aa3];rw[HS.out]at TE;exact TE,hb.trans hb2,by omega,by simp;omega,by unfold Hid;rw[H.out,HST.out];simp⟩
   case measure=>simp[intOf];omega
  ·go_wp2_with fail
   go_returns;have hz:s.data.toList.drop pos=[]:=abo (by rw[<-aae];omega);have hpz:pieces s.data.toList=done:=by rw[H.out,hz];simp[pieces,o5]
   obtain⟨A,c,hv,hc,hr⟩:=hown.row.to (n:=done.length) (by simp);exact⟨A,c,by rw[hpz,<-hv];rfl,by rw[hpz];exact hc,by rw[hpz];exact hr,hb⟩
def eG(s:ByteArray)(w:World)(hs:s.size<=1000000000000) :
  Calls Tryz.prog 105 #[.string s] w fun e w'=>e=.returned (.bool (dF s.data.toList))/\w=w':=by
 have hc:=Df s 0 w (by omega) (by omega);have HV:Hid (dF s.data.toList=(decide (0<(point s.data.toList 0).2)&&decide ((point s.data.toList 0).2=s.size))):=by unfold Hid dF dL;rw[<-aae]
 obtain⟨c,hcc⟩:∃c,(point s.data.toList 0).1=c:=⟨_,rfl⟩;obtain⟨m,hm⟩:∃m,(point s.data.toList 0).2=m:=⟨_,rfl⟩;rw[hcc,hm]at hc;rw[hm]at HV;clear hcc hm;go_enter Tryz.func105,Tryz.ntmps105;go_wp2_with (first|(go_at_call 122;refine hc.mono ?_;rintro e w1 ⟨rfl,rfl⟩))
 all_goals go_returns
 all_goals refine⟨Dw ?_,rfl⟩
 all_goals rw[HV.out]
 all_goals go_light
 all_goals rw[aeN]
 all_goals simp[*]
 all_goals omega
def Ik{l:List Bs}{k:Nat}(h:k<l.length):(l.map S)[k]? = some (S l[k]):=by simp[h]
def L9(s:ByteArray)(w:World)(hs:s.size<=16384) :
  Calls Tryz.prog 85 #[.string s] w (qL w (H6 s.data.toList) (kY s.data.toList) (eQ s.data.toList)):=by
 have hs':s.data.toList.length<=16384:=by rw[<-aae];exact hs
 have hpc:=Kg s w (by omega);have hfl:=Pd (CX s.data.toList);have hpl:=CZ s.data.toList;have HS:Hid (iC s.data.toList=match iX (pieces s.data.toList) 0 with|some i=>([],i,3)|none=>(pieces s.data.toList,0,0)):=by unfold Hid iC;rw[aab (by omega)];rfl
 have HD:Hid (H6 s.data.toList=(iC s.data.toList).1/\kY s.data.toList=(iC s.data.toList).2.1/\eQ s.data.toList=(iC s.data.toList).2.2):=⟨rfl,rfl,rfl⟩;generalize hgl:pieces s.data.toList=l at hpc hfl HS hpl;have hfl2:l.flatten.length<=16384:=by rw[hfl.out];exact hs'
 have HG:=Pd hgl;clear hgl;go_enter Tryz.func85,Tryz.ntmps85;go_wp2_with (first|(go_at_call 104;refine hpc.mono ?_;rintro e w1 ⟨A,cap,rfl,hcap,hrow,hb1⟩))
 go_loopw [6,7] (fun f i wr=>∃(k:Nat),i=.int .i64 k/\k<=l.length/\w1=wr/\Hid ((∀p∈l.take k,dF p=true))/\f=.int .i64 (mQ l k)) (fun _ i _=>l.length-(intOf i).toNat)
 case atStart=>exact⟨0,rfl,by omega,rfl,by simp[Hid],rfl⟩
 case round=>
  obtain⟨k,rfl,hk,rfl,H,rfl⟩:=hrel;by_cases hlt:k<l.length
  ·obtain⟨b,o,rfl,hbl,hcell⟩:=hrow (by intro e;rw[aaO]at e;rw[e]at hlt;simp at hlt)
   have hc:w1.cell? ⟨b,o+k,none⟩=some (.string ⟨l[k].toArray⟩):=hcell k _ (Ik hlt);have Hcell:=Pd hcell;clear hcell;have YN:=JR l (k+1);have aCh:=JS l k hlt;have hlk:(⟨l[k].toArray⟩:ByteArray).size=l[k].length:=by rw[aae]
   have hv:=eG ⟨l[k].toArray⟩ w1 (by rw[hlk];omega);have hlk2:l[k].length<=16384:=by omega
   have hfk2:mQ l k+l[k].length<=16384:=by omega
   have HF:=Pd aCh;have HK:=Pd hlk;clear aCh YN hlk;have hnew:dF l[k]=true->Hid (∀p∈l.take (k+1),dF p=true):=fun hh p hp=>by
    rw[aau hlt]at hp;rcases aaG.1 hp with hp|hp
    ·exact H.out p hp
    ·rw[aar.1 hp];exact hh
   have hstr:dF l[k]=false->iX l 0=some (mQ l k):=fun hh=>NC l k hlt H.out hh
   obtain⟨vv,hvv⟩:∃vv,dF l[k]=vv:=⟨_,rfl⟩;have hv':Calls Tryz.prog 105 #[.string ⟨l[k].toArray⟩] w1 fun e w'=>e=.returned (.bool vv)/\w1=w':=by rw[<-hvv];exact hv
   cases vv
   ·have HX:=Pd (hstr hvv)
    clear hv hnew hstr hvv;go_wp2_with (first|(go_at_call 105;refine hv'.mono ?_;rintro e w2 ⟨rfl,rfl⟩));go_returns;have e:=HS.out;rw[HX.out]at e;obtain⟨d1,d2,d3⟩:=HD.out;exact⟨none,0,by rw[d1,d2,d3,e];rfl,by rw[d1,e];exact Pe _,by rw[d1,e];exact ay.nil _ _,hb1⟩
   ·have HX:=Pd (hnew hvv)
    clear hv hnew hstr hvv;go_wp2_with (first|(go_at_call 105;refine hv'.mono ?_;rintro e w2 ⟨rfl,rfl⟩));go_round
    case rel=>exact⟨k+1,by go_num,by omega,trivial,HX.out,by rw[HF.out];go_num⟩
    case measure=>simp[intOf];omega
  ·obtain rfl:k=l.length:=by omega
   go_wp2_with fail;go_returns;have e:=HS.out;have hal:∀p∈l,dF p=true:=by simpa using H.out
   rw[NB l 0 hal]at e;obtain⟨d1,d2,d3⟩:=HD.out;exact⟨A,cap,by rw[d1,d2,d3,e];rfl,by rw[d1,e];exact hcap,by rw[d1,e];exact hrow,hb1⟩
def Gg{l:Bs}(hl:l≠[]):(aM l 0<128->point l 0=(aM l 0,1))/\(128<=aM l 0->(0<(point l 0).2->128<=(point l 0).1)/\∀k,k<(point l 0).2->128<=aM l k):=by
 have h0:¬ l.length<=0:=by have:=aaM.2 hl;omega
 refine⟨fun h=>by unfold point;rw[aab h0,aaa h],fun h=>?_⟩;unfold point;rw[aab h0,aab (by omega)]
 split
 ·rename_i h2
  refine⟨fun _=>h2.2.2.2,fun k hk=>?_⟩;have:=(jR l 1).1 h2.2.2.1;rcases(show k=0\/k=1 by have:k<2:=hk;omega)with rfl|rfl
  ·exact h
  ·exact this.1
 ·split
  ·rename_i h2
   refine⟨fun _=>by show 128<=kZ l 0;omega,fun k hk=>?_⟩;have a1:=(jR l 1).1 h2.2.2.1;have a2:=(jR l 2).1 h2.2.2.2.1;rcases(show k=0\/k=1\/k=2 by have:k<3:=hk;omega)with rfl|rfl|rfl
   ·exact h
   ·exact a1.1
   ·exact a2.1
  ·split
   ·rename_i h2
    refine⟨fun _=>by show 128<=nC l 0;omega,fun k hk=>?_⟩;have a1:=(jR l 1).1 h2.2.2.1;have a2:=(jR l 2).1 h2.2.2.2.1;have a3:=(jR l 3).1 h2.2.2.2.2.1;rcases(show k=0\/k=1\/k=2\/k=3 by have:k<4:=hk;omega)with rfl|rfl|rfl|rfl
    ·exact h
    ·exact a1.1
    ·exact a2.1
    ·exact a3.1
   ·exact⟨fun h=>absurd h (by decide),fun k hk=>absurd hk (by simp)⟩
def ed(l:Bs):Bool:=l.any fun c=>decide (c=46\/c=64)
def zH(l:Bs):(l.all fun c=>decide (c≠46/\c≠64))=!ed l:=by
 unfold ed
 induction l with
 |nil=>rfl
 |cons c r ih=>
  rw[List.all_cons,adu,ih];by_cases h1:c=46
  ·simp[h1]
  ·by_cases h2:c=64
   ·simp[h2]
   ·simp[h1,h2]
def Fq(c:UInt8)(r:Bs)(k:Nat):aM (c::r) 0=c.toNat/\aM (c::r) (k+1)=aM r k:=⟨rfl,rfl⟩
theorem xn:∀(n:Nat) (l:Bs),n<=l.length->(∀k,k<n->128<=aM l k)->ed (l.take n)=false
 |0,l,_,_=>by simp[ed]
 |n+1,[],h,_=>by simp at h
 |n+1,c::r,h,hk=>by
  have h0:=hk 0 (by omega);rw[(Fq c r 0).1]at h0;have ih:=xn n r (by simpa using h) (fun k hk'=>hk (k+1) (by omega));unfold ed at ih ⊢;rw[aa1,adu,ih];simp only[Bool.or_false,aeo];rintro(e|e)
  ·rw[e]at h0;exact absurd h0 (by decide)
  ·rw[e]at h0;exact absurd h0 (by decide)
def FC(l:Bs)(i n:Nat):ed (l.take (i+n))=(ed (l.take i)||ed ((l.drop i).take n)):=by
 unfold ed;rw[List.take_add,aeR]
def Iz(c:UInt8):(0<=Lib.indexByte [46,64] c)↔(c=46\/c=64):=by
 by_cases h1:c=46
 ·subst h1;decide
 ·by_cases h2:c=64
  ·subst h2;decide
  ·have e:Lib.indexByte [46,64] c=-1:=by
    simp[Lib.indexByte,acx h1,acx h2]
   rw[e];constructor
   ·intro h;omega
   ·rintro(h|h)
    ·exact absurd h h1
    ·exact absurd h h2
def FE{h:Nat}{w w':World}(hB:Below h w w')(k:Nat):Below h w (w'.drewN k):=⟨hB.os,hB.tape,hB.output,hB.size,hB.block⟩
def wU(r:Int)(w:World)(e:Ending)(w':World):Prop:=∃z:Int,e=.returned (.int .i64 z)/\(0<=z↔r=46\/r=64)/\Below w w w'
def Mk(r:Int)(w:World)(h0:0<=r)(h1:r<128):Calls Tryz.prog 136 #[.string ⟨#[46,64]⟩,.int .i32 r] w (wU r w):=by
 refine(Tryz.strings_IndexRune_ascii ⟨#[46,64]⟩ r w h0 h1).mono ?_;rintro e w' ⟨rfl,rfl⟩;refine⟨_,rfl,?_,aac _ _⟩;show 0<=Lib.indexByte [46,64] r.toNat.toUInt8↔_;rw[Iz];obtain⟨n,rfl⟩:∃n:Nat,r=n:=⟨r.toNat,by omega⟩;rw[abT];have e1:∀c:UInt8,n.toUInt8=c↔n=c.toNat:=fun c=>by
  rw[<-abz];show n%256=_↔_;rw[adn (by omega)]
 rw[e1,e1];show n=46\/n=64↔_;omega
def G7{r:Int}(h:128<=r):∃n,(Utf8.encode r).size=n/\2<=n/\n<=4/\(n=2->∀(h:1<(Utf8.encode r).size),¬ (Utf8.encode r)[1]=64):=by
 obtain⟨c,hc⟩:∃c:Nat,(if Utf8.valid r=true then r.toNat else Utf8.runeError)=c:=⟨_,rfl⟩;have hc0:128<=c:=by
  rw[<-hc]
  split
  ·omega
  ·decide
 have e:Utf8.encode r=if c<2048 then ⟨#[UInt8.ofNat (192+c/64),UInt8.ofNat (128+c%64)]⟩ else if c<65536 then ⟨#[UInt8.ofNat (224+c/4096),UInt8.ofNat (128+c/64%64),UInt8.ofNat (128+c%64)]⟩ else ⟨#[UInt8.ofNat (240+c/262144),UInt8.ofNat (128+c/4096%64),UInt8.ofNat (128+c/64%64),UInt8.ofNat (128+c%64)]⟩:=by
  unfold Utf8.encode;simp only[hc];rw[aab (by omega)]
 rw[e];by_cases h1:c<2048
 ·rw[aaa h1]
  refine⟨2,rfl,by omega,by omega,fun _ _ hb=>?_⟩;have hb':UInt8.ofNat (128+c%64)=64:=hb;have h2:=aaw UInt8.toNat hb';rw[UInt8.toNat_ofNat']at h2;have h3:(128+c%64)%256=64:=h2;omega
 ·rw[aab h1]
  by_cases h2:c<65536
  ·rw[aaa h2];exact⟨3,rfl,by omega,by omega,fun h=>by omega⟩
  ·rw[aab h2];exact⟨4,rfl,by omega,by omega,fun h=>by omega⟩
def Oo(r:Int)(w:World)(h0:0<=r)(h1:r<=1114111):∃v,Calls Tryz.prog 166 #[.int .i32 r] w fun e w'=>e=.returned (.bool v)/\w'=w:=by
 by_cases a:r<55296
 ·refine⟨true,?_⟩
  go_enter ae0,Tryz.ntmps166;go_wp2_with fail;go_returns;exact⟨rfl,rfl⟩
 ·by_cases b:57343<r
  ·refine⟨true,?_⟩
   go_enter ae0,Tryz.ntmps166;go_wp2_with fail;go_returns;exact⟨rfl,rfl⟩
  ·refine⟨false,?_⟩
   go_enter ae0,Tryz.ntmps166;go_wp2_with fail;go_returns;exact⟨rfl,rfl⟩
def Mj(r:Int)(w:World)(h0:128<=r)(h1:r<=1114111):Calls Tryz.prog 136 #[.string ⟨#[46,64]⟩,.int .i32 r] w (wU r w):=by
 have g1:(0:Int)<=r:=by omega
 have g2:¬ r<128:=by omega
 have hneg:(0<=(-1:Int)↔r=46\/r=64):=by omega
 by_cases hr:r=65533
 ·subst hr
  go_enter aeY,Tryz.ntmps136;go_wp2_with fail
  go_loopw [5,6] (fun _ _ wr=>∃pos:Nat,pos<=2/\wr.heap[w.heap.size]? = some (.stringIter ⟨#[46,64]⟩ pos)/\Below w w wr) (fun _ _ wr=>2-wr.iterPos w.heap.size)
  case atStart=>exact⟨0,by omega,by simpa using af3 w ⟨#[46,64]⟩ 0,(aac _ w).alloc (Pe _) _⟩
  case round=>
   obtain⟨pos,hp,hit,hb⟩:=hrel;rcases(show pos=0\/pos=1\/pos=2 by omega)with rfl|rfl|rfl
   ·have hnx:∀ty,(Instr.next (.pointer (some ⟨w.heap.size,0,none⟩)) true ty).run Tryz.prog wr=_:=fun ty=>adW wr w.heap.size ⟨#[46,64]⟩ 0 ty hit (by decide)
    have e:Utf8.decode ⟨#[46,64]⟩ 0=(46,1):=(by decide +kernel);rw[e]at hnx;have hit2:=aeQ wr w.heap.size ⟨#[46,64]⟩ 0 1 hit;have WK:=aeG hb (k:=w.heap.size) (Pe _) ⟨#[46,64]⟩ 1;go_wp2_with fail;go_roundw
    case rel=>exact⟨1,by omega,hit2,WK⟩
    case measure=>simp only[World.iterPos,hit2,hit];omega
   ·have hnx:∀ty,(Instr.next (.pointer (some ⟨w.heap.size,0,none⟩)) true ty).run Tryz.prog wr=_:=fun ty=>adW wr w.heap.size ⟨#[46,64]⟩ 1 ty hit (by decide)
    have e:Utf8.decode ⟨#[46,64]⟩ 1=(64,1):=(by decide +kernel);rw[e]at hnx;have hit2:=aeQ wr w.heap.size ⟨#[46,64]⟩ 1 2 hit;have WK:=aeG hb (k:=w.heap.size) (Pe _) ⟨#[46,64]⟩ 2;go_wp2_with fail;go_roundw
    case rel=>exact⟨2,by omega,hit2,WK⟩
    case measure=>simp only[World.iterPos,hit2,hit];omega
   ·have hnx:∀ty,(Instr.next (.pointer (some ⟨w.heap.size,0,none⟩)) true ty).run Tryz.prog wr=_:=fun ty=>ae8 wr w.heap.size ⟨#[46,64]⟩ 2 ty hit (by decide)
    go_wp2_with fail;go_returns;exact⟨-1,rfl,hneg,hb⟩
 ·have g3:(r==65533)=false:=aaN.2 hr
  obtain⟨n,hn,n2,n4,hb⟩:=G7 h0;obtain⟨v,hv⟩:=Oo r w g1 h1;have hcv:(convert 21 9 (.int .i32 r)).run Tryz.prog w=.ok (.string (Utf8.encode r)) w:=run_convert_int_string w 21 9 .i32 r (by rw[adE];rfl) aaV;generalize Utf8.encode r=u at*;have hi:∀(m:Nat),(u.extract m u.size).size<=4:=fun m=>by rw[aae,eH];simp;omega
  have HB:=Pd hb;clear hb
  cases v with
  |false=>
   go_enter aeY,Tryz.ntmps136;go_wp2_with fail;refine hv.mono ?_;rintro e w1 ⟨rfl,rfl⟩;go_wp2_with fail;go_returns;exact⟨-1,rfl,hneg,aac _ _⟩
  |true=>
   go_enter aeY,Tryz.ntmps136;go_wp2_with fail;refine hv.mono ?_;rintro e w1 ⟨rfl,rfl⟩;go_wp2_with fail
   go_step3
   go_wp2_with fail
   go_loopw [9,10,11,12] (fun i f _ _ wr=>i=.int .i64 ((u.size:Int)-1)/\f=.int .i64 0/\wr=w1) (fun _ _ _ _ _=>0)
   case atStart=>exact⟨by go_num,rfl,rfl⟩
   case round=>
    obtain⟨rfl,rfl,rfl⟩:=hrel;rcases(show n=2\/3<=n by omega)with rfl|h3
    ·have hsz:(u.size:Int)=2:=by omega
     have h1u:1<u.size:=by omega
     have hb0:=HB.out rfl h1u;obtain⟨x,hx⟩:∃x:UInt8,u[1]=x:=⟨_,rfl⟩;rw[hx]at hb0;have hne:((((⟨#[46,64]⟩:ByteArray)[1].toNat:Nat):Int) != ((x.toNat:Nat):Int))=true:=by
      show((64:Int) != ((x.toNat:Nat):Int))=true;rw[bne_iff_ne];intro e;exact hb0 (abz.1 (by show x.toNat=64;omega))
     clear hb0 HB;have cI:∀(c:Int) (W:World),Calls Tryz.prog 165 #[.string ByteArray.empty,.int .u8 c] W fun e w'=>e=.returned (.int .i64 (-1))/\w'=W:=fun c W=>by
      have:=Tryz.strings_IndexByte ByteArray.empty c W;exact this
     have hw2:IntKind.i64.wrap 2=2:=(by decide);go_wp2_with fail
     go_step3
     go_wp2_with fail
     go_quiet (fail)
     go_wp2_with fail
     go_quiet (first|(go_at_call 165;refine(cI _ _).mono ?_;rintro e w' ⟨rfl,rfl⟩;exact⟨rfl,_,rfl⟩))
     go_wp2_with fail;go_returns;exact⟨-1,rfl,hneg,FE (aac _ _) _⟩
    ·have hge:¬ ((u.size:Int)-1<2):=by omega
     go_wp2_with fail;go_returns;exact⟨-1,rfl,hneg,aac _ _⟩
def Mi(r:Int)(w:World)(h0:0<=r)(h1:r<=1114111):Calls Tryz.prog 136 #[.string ⟨#[46,64]⟩,.int .i32 r] w (wU r w):=by
 rcases(show r<128\/128<=r by omega)with h|h
 ·exact Mk r w h0 h
 ·exact Mj r w h h1
def zI{s:ByteArray}{pos:Nat}(h:pos<s.size):∃r n:Nat,Utf8.decode s pos=(r,n)/\r<=1114111/\1<=n/\pos+n<=s.size/\(((r:Int)=46\/(r:Int)=64)↔ed ((s.data.toList.drop pos).take n)=true):=by
 have hre:¬ (s.extract pos s.size).size=0:=by rw[aae,eH];simp;omega
 have hn1:=Ar (s.extract pos s.size) hre;have hru:=Gi (s.extract pos s.size);have hsE:(s.extract pos s.size).size=s.size-pos:=by rw[aae,eH];simp
 have hdt:(s.extract pos s.size).data.toList=s.data.toList.drop pos:=by rw[eH];exact aav (by simp)
 refine⟨(Lib.decodeGo (s.extract pos s.size)).1,(Lib.decodeGo (s.extract pos s.size)).2,xD s pos h,hru,hn1.1,by omega,?_⟩;rw[oK,aab hre,hdt];have hl:s.data.toList.drop pos≠[]:=by
  intro e;have:=aaw List.length e;rw[aaH,<-aae]at this;simp at this;omega
 have hlen:(s.data.toList.drop pos).length=s.size-pos:=by rw[aaH,<-aae]
 generalize s.data.toList.drop pos=l at*;obtain⟨d1,d2⟩:=Gg hl;by_cases hk:dL l=true
 ·rw[aaa hk]
  by_cases hlo:aM l 0<128
  ·rw[d1 hlo]
   cases l with
   |nil=>exact absurd rfl hl
   |cons c r=>
    show(((c.toNat:Nat):Int)=46\/((c.toNat:Nat):Int)=64)↔ed [c]=true;unfold ed;simp only[adu,List.any_nil,Bool.or_false,aax];rw[<-abz,<-abz];show _↔c.toNat=46\/c.toNat=64;omega
  ·obtain⟨e1,e2⟩:=d2 (by omega)
   have hp:0<(point l 0).2:=(by simpa[dL]using hk);have:=e1 hp;rw[xn _ l (uw l).1 e2];constructor
   ·intro h;omega
   ·intro h;cases h
 ·rw[aab hk]
  have hhi:128<=aM l 0:=by
   rcases aaz (aM l 0) 128 with h'|h'
   ·refine absurd ?_ hk
    unfold dL;rw[d1 h'];rfl
   ·exact h'
  rw[xn 1 l (by omega) (fun k hk'=>by obtain rfl:k=0:=by omega
                                      exact hhi)]
  constructor
  ·intro h;revert h;decide
  ·intro h;cases h
def Im(s:ByteArray)(w:World)(hs:s.size<=8):Calls Tryz.prog 116 #[.string s,.string ⟨#[46,64]⟩] w fun e w'=>∃z:Int,e=.returned (.int .i64 z)/\decide (0<=z)=ed s.data.toList/\Below w w w':=by
 have c1:=fun W=>Tryz.strings_shouldUseASCIISet (s.size:Int) W
 have h8z:decide ((8:Int)<(s.size:Int))=false:=aai (by omega);rw[h8z]at c1;go_enter Tryz.func116,Tryz.ntmps116;go_wp2_with fail;refine(c1 _).mono ?_;rintro e w1 ⟨rfl,rfl⟩;go_wp2_with fail
 go_loopw [9,10] (fun _ _ wr=>∃pos:Nat,pos<=s.size/\wr.heap[w1.heap.size]? = some (.stringIter s pos)/\Below w1 w1 wr/\Hid (ed (s.data.toList.take pos)=false)) (fun _ _ wr=>s.size-wr.iterPos w1.heap.size)
 case atStart=>exact⟨0,by omega,by simpa using af3 w1 s 0,(aac _ w1).alloc (Pe _) _,by unfold Hid ed;simp⟩
 case round=>
  obtain⟨pos,hp,hit,hb,HN⟩:=hrel;by_cases hlt:pos<s.size
  ·obtain⟨r,n,hd,hr,n1,n2,hbad⟩:=zI hlt
   have hnx:∀ty,(Instr.next (.pointer (some ⟨w1.heap.size,0,none⟩)) true ty).run Tryz.prog wr=_:=fun ty=>adW wr w1.heap.size s pos ty hit hlt
   rw[hd]at hnx;have hit2:=aeQ wr w1.heap.size s pos (pos+n) hit;have WK:=aeG hb (k:=w1.heap.size) (Pe _) s (pos+n);have cr:=fun W=>Mi (r:Int) W (by omega) (by omega)
   have HS:=Pd (FC s.data.toList pos n);have HB:=Pd hbad;clear hbad hd;go_wp2_with fail;refine(cr _).mono ?_;rintro e w2 ⟨z,rfl,hz,hb2⟩;have hit3:=(hb2.block _ (abg.1 hit2).1).trans hit2;have TI:=ae WK hb2;by_cases hz0:0<=z
   ·go_wp2_with fail
    go_returns;refine⟨_,rfl,?_,TI⟩;rw[aaA (by omega)];have h1:ed (s.data.toList.take (pos+n))=true:=by rw[HS.out,HB.out.1 (hz.1 hz0)];simp
    have h2:=aaY (pos+n) s.data.toList;unfold ed at h1 ⊢;rw[<-h2,aeR,h1];rfl
   ·go_wp2_with fail
    go_roundw
    case rel=>
     refine⟨pos+n,n2,hit3,TI,?_⟩;unfold Hid;rw[HS.out,HN.out,af8]
     cases hc:ed ((s.data.toList.drop pos).take n) with
     |false=>rfl
     |true=>exact absurd (hz.2 (HB.out.2 hc)) (by omega)
    case measure=>simp only[World.iterPos,hit3,hit];omega
  ·have hnx:∀ty,(Instr.next (.pointer (some ⟨w1.heap.size,0,none⟩)) true ty).run Tryz.prog wr=_:=fun ty=>ae8 wr w1.heap.size s pos ty hit hlt
   go_wp2_with fail;go_returns;refine⟨-1,rfl,?_,hb⟩;have:=HN.out;rw[aav (by rw[<-aae];omega)]at this;rw[this];rfl
theorem zC:∀l:Bs,decide (0<=Lib.indexAny l [46,64])=ed l
 |[]=>rfl
 |c::r=>by
  have ih:=zC r;have hc:([46,64]:Bs).contains c=decide (c=46\/c=64):=by
   simp[Bool.decide_or]
  unfold Lib.indexAny ed;rw[hc,adu];by_cases h:c=46\/c=64
  ·rw[aaa (aaA h),aaA h];rfl
  ·rw[aab (by simpa using h),aai h,af8]
   unfold ed at ih;rw[<-ih];have hge:=Lib.indexAny_ge [46,64] r;by_cases h1:Lib.indexAny r [46,64]=-1
   ·rw[aaa (by rw[h1];rfl),h1]
   ·rw[aab (by simpa using h1),aaA (by omega),aaA (by omega)]
def FQ(s:ByteArray)(w:World)(hs:s.size<=16384):Calls Tryz.prog 99 #[.string s,.string ⟨#[46,64]⟩] w fun e w'=>e=.returned (.bool (ed s.data.toList))/\Below w w w':=by
 have cI:∀W,Calls Tryz.prog 116 #[.string s,.string ⟨#[46,64]⟩] W fun e w'=>∃z:Int,e=.returned (.int .i64 z)/\decide (0<=z)=ed s.data.toList/\Below W W w':=fun W=>by
  rcases aaz 8 s.size with h|h
  ·refine(Tryz.strings_IndexAny_long (afT (n:=256) (by kernel_rfl)).1 s ⟨#[46,64]⟩ W (by decide) h (by omega) (by decide) (fun j b hj=>by
     have hm:b∈([46,64]:Bs):=abC hj;simp only[aay,aaK,acI]at hm;rcases hm with rfl|rfl<;>decide)).mono ?_
   rintro e w' ⟨rfl,rfl⟩;exact⟨_,rfl,zC _,((aac _ _).alloc (Pe _) _).alloc (by simp) _⟩
  ·exact Im s W h
 go_enter Tryz.func99,Tryz.ntmps99;go_wp2_with fail;refine(cI _).mono ?_;rintro e w1 ⟨z,rfl,hz,b1⟩;have HZ:=Pd hz;clear hz;go_wp2_with fail;go_returns;exact⟨by rw[<-HZ.out];rfl,b1⟩
def CP(s:ByteArray)(w:World)(hT:bK w):Calls Tryz.prog 71 #[.string s] w fun e w'=>e=.returned (.bool (dM s.data.toList))/\Below w w w':=by
 have c1:=MS s w hT;by_cases he:eQ s.data.toList=0
 ·have hsz:s.size<=16384:=by
   rw[aae];refine afC fun h=>?_
   have:eQ s.data.toList=2:=by unfold eQ iC;rw[aaa (by omega)]
   omega
  by_cases h0:s.size=0
  ·have HP:Hid (dM s.data.toList=false):=by unfold Hid dM;rw[fF h0];simp
   have hem:=jF h0;rw[he]at c1;go_enter Tryz.func71,Tryz.ntmps71;go_wp2_with fail;refine c1.mono ?_;rintro e w1 ⟨A,c,rfl,_,_,b1⟩;go_wp2_with fail;go_returns;exact⟨by rw[HP.out];rfl,b1⟩
  ·have hem:=jI h0
   have HP:Hid (dM s.data.toList=!ed s.data.toList):=by
    unfold Hid dM;rw[zH,he,aaA rfl,aeD,show s.data.toList.isEmpty=false by rw[<-aan];exact hem]
    rfl
   have c2:=fun W=>FQ s W hsz
   rw[he]at c1;go_enter Tryz.func71,Tryz.ntmps71;go_wp2_with fail;refine c1.mono ?_;rintro e w1 ⟨A,c,rfl,_,_,b1⟩;go_wp2_with fail;refine(c2 _).mono ?_;rintro e w2 ⟨rfl,b2⟩;go_wp2_with fail;go_returns;exact⟨by rw[HP.out];rfl,ae b1 b2⟩
 ·have HP:Hid (dM s.data.toList=false):=by unfold Hid dM;rw[aai he];simp
  have hne:(((eQ s.data.toList:Nat):Int)==0)=false:=aaN.2 (by omega);go_enter Tryz.func71,Tryz.ntmps71;go_wp2_with fail;refine c1.mono ?_;rintro e w1 ⟨A,c,rfl,_,_,b1⟩;go_wp2_with fail;go_returns;exact⟨by rw[HP.out];rfl,b1⟩
open Go.RowKit Go.Maps
def iK(n m:Bool)(f:Nat):Value:=.agg #[.bool n,.bool m,.func (.func f) #[] #[]]
def opsL:List (UInt8×Value):=[(80,iK true true 92),(78,iK true true 93),(67,iK false false 94),(82,iK false true 95),(68,iK false true 96),(85,iK true true 97)]
def xX(c:UInt8):Value:=.int .u8 c.toNat
def IC:Enc Tryz.prog 5 xX (fun _=>True) where
 inj:=fun {a b} h=>by
  simp only[xX,af2,aeg]at h;exact abz.1 (by omega)
 key:=fun a _=>⟨_,keyOf_int_mk abd (by
  have:=a.toNat_lt;show(decide (IntKind.u8.min<=(a.toNat:Int))&&decide ((a.toNat:Int)<=IntKind.u8.max))=true;rw[aaE,aax,aax];show(0:Int)<=(a.toNat:Int)/\(a.toNat:Int)<=255;omega)⟩
abbrev uS(w:World)(b:Nat):Prop:=bN Tryz.prog 5 xX id w b opsL
def Mg(w:World):(zeroValue 123).run Tryz.prog w=.ok (.agg #[.bool false,.bool false,.nilFunc]) w:=(afT (n:=3) (by kernel_rfl)).1 w
def IE:Keyed Tryz.prog 5:=int_keyed abd
def Cy(w:World)(b:Nat)(h:uS w b)(c:UInt8)(ok:Bool) :
  (Instr.lookup 125 (.map (some b)) (.int .u8 c.toNat) ok).run Tryz.prog w=.ok (if ok then .tuple #[((bO opsL c).map id).getD (.agg #[.bool false,.bool false,.nilFunc]),.bool (bO opsL c).isSome] else ((bO opsL c).map id).getD (.agg #[.bool false,.bool false,.nilFunc])) w:=
 bN.look IE IC Tryz.underlying125 (Mg w) h (fun _ _=>trivial) c trivial ok
def jJ(c:UInt8):Value:=if c=80 then .func (.func 92) #[] #[] else if c=78 then .func (.func 93) #[] #[] else if c=67 then .func (.func 94) #[] #[] else if c=82 then .func (.func 95) #[] #[] else if c=68 then .func (.func 96) #[] #[] else if c=85 then .func (.func 97) #[] #[] else .nilFunc
def yu(c:UInt8):((bO opsL c).map id).getD (.agg #[.bool false,.bool false,.nilFunc])=.agg #[.bool (fA c),.bool (fw c),jJ c]/\(bO opsL c).isSome=eD c:=by
 by_cases h1:c=80
 ·subst h1;exact⟨rfl,rfl⟩
 ·by_cases h2:c=78
  ·subst h2;exact⟨rfl,rfl⟩
  ·by_cases h3:c=67
   ·subst h3;exact⟨rfl,rfl⟩
   ·by_cases h4:c=82
    ·subst h4;exact⟨rfl,rfl⟩
    ·by_cases h5:c=68
     ·subst h5;exact⟨rfl,rfl⟩
     ·by_cases h6:c=85
      ·subst h6;exact⟨rfl,rfl⟩
      ·have e:bO opsL c=none:=by
        unfold opsL;simp[bO,acx h1,acx h2,acx h3,acx h4,acx h5,acx h6]
       rw[e];unfold fA fw eD jJ;simp[h1,h2,h3,h4,h5,h6]
def JX(c:UInt8):jJ c=.nilFunc\/∃k,jJ c=.func (.func k) #[] #[]:=by
 unfold jJ
 repeat' split
 all_goals first|exact aam rfl|exact aad ⟨_,rfl⟩
def J2(w:World)(b:Nat)(h:uS w b)(c:UInt8) :
  (Instr.lookup 125 (.map (some b)) (.int .u8 c.toNat) true).run Tryz.prog w=.ok (.tuple #[.agg #[.bool (fA c),.bool (fw c),jJ c],.bool (eD c)]) w:=by
 rw[Cy w b h c true,(yu c).1,(yu c).2];rfl
def rA(w:World)(b:Nat)(h:uS w b)(c:UInt8) :
  (Instr.lookup 125 (.map (some b)) (.int .u8 c.toNat) false).run Tryz.prog w=.ok (.agg #[.bool (fA c),.bool (fw c),jJ c]) w:=by
 rw[Cy w b h c false,(yu c).1];rfl
def I1{P:Program}(w:World)(mty kt et:TypeId)(r clock:Nat)(es:Array MapEntry)(n:Int)(val:Value)(hm:P.underlying mty=some (.map kt et))(hk:P.underlying kt=some (.int .u8))(hb:w.heap[r]? = some (.map es clock))
  (hf:Instr.findNow (.int .u8) (.int .u8 n) es.toList 0=some none) :
  (Instr.mapUpdate mty (.map (some r)) (.int .u8 n) val).run P w=.ok () { w with heap:=w.heap.setIfInBounds r (.map (es.push { key:=.int .u8 n,val:=val,born:=clock }) (clock+1)) }:=by
 have hc:(Instr.checkKey false 10000 kt (.int .u8 n)).run P w=.ok () w:=MapKept.run_checkKey (k:=.int .u8 n) hk (by simp[MapKept.IsKey]) false 9999;simp[Instr.mapUpdate,acv hm,acz hb,hc,MapKept.run_findKey hk hf,aev _ hb,Result.andThen]
def rG{P:Program}(w:World)(mty kt et:TypeId)(clock:Nat)(es:Array MapEntry)(n:Int)(val:Value)(hm:P.underlying mty=some (.map kt et))(hk:P.underlying kt=some (.int .u8))
  (hf:Instr.findNow (.int .u8) (.int .u8 n) es.toList 0=some none) :
  (Instr.mapUpdate mty (.map (some w.heap.size)) (.int .u8 n) val).run P (w.alloc (.map es clock))=.ok () (w.alloc (.map (es.push { key:=.int .u8 n,val:=val,born:=clock }) (clock+1))):=by
 rw[I1 (w.alloc (.map es clock)) mty kt et w.heap.size clock es n val hm hk (aaq w _) hf];have hp:∀(h:Array Obj) (x y:Obj),(h.push x).setIfInBounds h.size y=h.push y:=by
  intro h x y;apply Array.toList_inj.1;simp
 show Result.ok () ({ w.alloc (.map es clock)with heap:=(w.heap.push (.map es clock)).setIfInBounds w.heap.size _ }:World)=_;rw[hp]
 rfl
def yj:Array MapEntry:=#[⟨.int .u8 80,iK true true 92,0⟩]
def yl:Array MapEntry:=yj.push ⟨.int .u8 78,iK true true 93,1⟩
def ym:Array MapEntry:=yl.push ⟨.int .u8 67,iK false false 94,2⟩
def yn:Array MapEntry:=ym.push ⟨.int .u8 82,iK false true 95,3⟩
def yo:Array MapEntry:=yn.push ⟨.int .u8 68,iK false true 96,4⟩
def bH:Array MapEntry:=yo.push ⟨.int .u8 85,iK true true 97,5⟩
def qm{w:World}{b:Nat}(h:w.heap[b]? = some (.map bH 6)):uS w b:=⟨bH,6,h,rfl,by decide⟩
def qj(w:World):Calls Tryz.prog 70 #[] w fun e w'=>e=.returned (.map (some w.heap.size))/\w'=w.alloc (.map bH 6):=by
 have hm:=Tryz.underlying125;have hk:=abd;have e1:_=Result.ok () (w.alloc (.map yj 1)):=rG w _ _ _ 0 #[] 80 (iK true true 92) hm hk rfl;have e2:_=Result.ok () (w.alloc (.map yl 2)):=rG w _ _ _ 1 yj 78 (iK true true 93) hm hk rfl;have e3:_=Result.ok () (w.alloc (.map ym 3)):=rG w _ _ _ 2 yl 67 (iK false false 94) hm hk rfl;have e4:_=Result.ok () (w.alloc (.map yn 4)):=rG w _ _ _ 3 ym 82 (iK false true 95) hm hk rfl;have e5:_=Result.ok () (w.alloc (.map yo 5)):=rG w _ _ _ 4 yn 68 (iK false true 96) hm hk rfl;have e6:_=Result.ok () (w.alloc (.map bH 6)):=rG w _ _ _ 5 yo 85 (iK true true 97) hm hk rfl;simp only[iK]at e1 e2 e3 e4 e5 e6;clear hm hk;have hmk:(Instr.makeMap 125 none).run Tryz.prog w=.ok (.map (some w.heap.size)) (w.alloc (.map #[] 0)):=rfl;go_enter Tryz.func70,Tryz.ntmps70;go_wp2_with fail;go_returns;exact⟨rfl,rfl⟩
def aJ(w:World)(A:Array Value)(t:TypeId)(o:Nat)(v:Value)(h:A[o]? = some v):(w.alloc (.cells A t)).cell? ⟨w.heap.size,o,none⟩=some v:=by
 rw[aap (w.alloc _) w.heap.size o A t (0,0) (aaq w _)];exact h
def Bi{w0 wx w1:World}{p:Addr}{v:Value}(hB:Below wx wx w1)(h:wx.cell? p=some v/\Below w0 w0 wx):w1.cell? p=some v/\Below w0 w0 w1:=⟨(hB.cell (ax h.1)).trans h.1,ae h.2 hB⟩
def Bh{w0 wx:World}{p:Addr}{v:Value}{o:Obj}(h:wx.cell? p=some v/\Below w0 w0 wx):(wx.alloc o).cell? p=some v/\Below w0 w0 (wx.alloc o):=Bi ((aac _ _).alloc (Pe _) _) h
def keepD{w0 wx:World}{p:Addr}{v:Value}(h:wx.cell? p=some v/\Below w0 w0 wx):wx.drew.cell? p=some v/\Below w0 w0 wx.drew:=Bi ((aac _ _).drew) h
def zP(w0:World)(M:Obj)(A:Array Value)(t:TypeId)(o:Nat)(v:Value)(h:A[o]? = some v):((w0.alloc M).alloc (.cells A t)).drew.cell? ⟨w0.heap.size+1,o,none⟩=some v:=by
 have:=aJ (w0.alloc M) A t o v h;rw[show(w0.alloc M).heap.size=w0.heap.size+1 by simp]at this;exact this
def zQ(w0:World)(M:Obj)(A:Array Value)(t:TypeId)(o:Nat)(v:Value)(h:A[o]? = some v):((w0.alloc (.cells A t)).alloc M).drew.cell? ⟨w0.heap.size,o,none⟩=some v:=
 (((aac (w0.alloc (.cells A t)).heap.size _).alloc (Pe _) M).drew.cell (p:=⟨w0.heap.size,o,none⟩) (by show w0.heap.size<(w0.alloc _).heap.size;simp)).trans (aJ w0 A t o v h)
def zK(w0:World)(a b:Obj):Below w0 w0 ((w0.alloc a).alloc b).drew:=(((aac _ _).alloc (Pe _) a).alloc (by simp) b).drew
def CQ{s:ByteArray}(h:dM s.data.toList=true):s.size<=16384:=by
 rw[aae];refine afC fun hn=>?_
 have e:eQ s.data.toList=2:=by unfold eQ iC;rw[aaa (by omega)]
 have:=(qo h).2.1;omega
def Ab(c:UInt8)(W:World):(convert 127 9 (.slice (some ⟨W.heap.size,0,none⟩) 1 1)).run Tryz.prog (W.alloc (.cells #[.int .u8 c.toNat] 5))=.ok (.string ⟨#[c]⟩) (W.alloc (.cells #[.int .u8 c.toNat] 5)):=by
 have hc:=ac1 (P:=Tryz.prog) _ 127 9 5 ⟨W.heap.size,0,none⟩ [c].length [c] abF abd aaV (afI (aaq W (.cells (Lib.byteCells [c]).toArray 5)) (aav (by simp[Lib.byteCells])));have e1:Lib.byteCells [c]=[.int .u8 c.toNat]:=by simp[Lib.byteCells]
 rw[e1]at hc;exact hc
def qh{wx w1:World}{b:Nat}{o:Obj}(hB:Below wx wx w1)(h:wx.heap[b]? = some o):w1.heap[b]? = some o:=(hB.block b (abg.1 h).1).trans h
def gQ(wx:World)(o:Obj):(wx.alloc o).heap[wx.heap.size]? = some o:=aaq wx o
end Go.Proofs.YtppnecgeboonbaaGreatDoor
