/- Walks. -/
import Derived.Test.YtppnecgeboonbaaGreatDoorZ27
import Derived.Laws.CopyRow
namespace Go.Proofs.YtppnecgeboonbaaGreatDoor
set_option maxRecDepth 100000
set_option linter.all false
set_option maxHeartbeats 8000000
open Go.RowKit
def EP(w:World)(n:Nat)(R:Except Nat ak)(e:Ending)(w':World):Prop:=Below w w w'/\match R with
 |.ok x=>∃AS cs,e=.returned (.tuple #[.slice (some AS) n cs,.int .i64 0])/\jP w' (some AS) x/\iM n x
 |.error y=>e=.returned (.tuple #[.slice none 0 0,.int .i64 y])/\y≠0
def uT(X:Int->ak->Prop):Prop:=∀(k:Int) (AS:Addr) (c n:Nat) (a:ak) (w:World),X k a->jP w (some AS) a->iM n a->1<=n->n<=3000->Calls Tryz.prog 87 #[.int .i64 k,.slice (some AS) n c] w (EP w n (qz k a))
def I4{k:Int}{n:Nat}{a:ak}(h:iM n a):nP k a=(kindOk k&&a.all fun r=>r.all (aT k)):=by
 unfold nP;congr 1;rw[aeN,aaT,aaT];refine⟨fun hh r hr=>?_,fun hh r hr=>?_⟩
 ·have:=hh r hr
  rw[aaE]at this;exact this.2
 ·rw[aaE,aax]
  exact⟨by rw[(h.2 r hr).1,h.1],hh r hr⟩
def LD(k:Int)(AS:Addr)(c n:Nat)(a:ak)(w:World)(hA:jP w (some AS) a)(hN:iM n a)(hn:n<=3000) :
  Calls Tryz.prog 108 #[.int .i64 k,.slice (some AS) n c] w fun e w'=>e=.returned (.bool (nP k a))/\Below w w w':=by
 have pk:=fun W=>uJ k W
 have HD:=Pd (I4 (k:=k) hN);have HA:=Pd hA;generalize nP k a=R at*;clear hA
 cases hk:kindOk k with
 |false=>
  have HY:Hid (R=false):=by rw[Hid,HD.out,hk];rfl
  rw[hk]at pk;clear hk HD;go_enter Tryz.func108,Tryz.ntmps108;go_wp2_with fail;refine(pk _).mono ?_;rintro e w1 ⟨rfl,rfl⟩;go_wp2_with fail;go_returns;exact⟨by rw[HY.out];(try rfl),aac _ _⟩
 |true=>
  have HY:Hid (R=a.all fun r=>r.all (aT k)):=by rw[Hid,HD.out,hk];rfl
  rw[hk]at pk;clear hk HD;go_enter Tryz.func108,Tryz.ntmps108;go_wp2_with fail;refine(pk _).mono ?_;rintro e w1 ⟨rfl,rfl⟩;go_wp2_with fail
  go_loopw [5] (fun i wr=>∃(q:Nat),i=.int .i64 q/\q<=n/\Below w w wr/\Hid (∀r∈a.take q,r.all (aT k)=true)) (fun i _=>n-(intOf i).toNat)
  case atStart=>exact⟨0,rfl,by omega,aac _ _,by simp[Hid]⟩
  case round=>
   obtain⟨q,rfl,hq,hBr,HN⟩:=hrel;by_cases hlt:q<n
   ·have VM:q<a.length:=by rw[hN.1];exact hlt
    obtain⟨b,o,Yj,Vb,r,c',hr0,hr1,hr2⟩:=HA.out q VM;obtain rfl:=acp Yj;have hrn:=hN.2 _ (aag VM);rw[hrn.1]at hr0;have HF:Hid ((a[q]).all (aT k)=false->(a.all fun r=>r.all (aT k))=false):=p8 (p:=fun r:Vec=>r.all (aT k)) VM;have HT:Hid ((a[q]).all (aT k)=true->∀r∈a.take (q+1),r.all (aT k)=true):=allT (p:=fun r:Vec=>r.all (aT k)) VM HN.out;have Yf:=Pd hr2;generalize a[q]=row at*;have i0:(0:Int)<=(q:Int):=by omega
    have il:(q:Int)<(n:Int):=(by omega);have m0:=(hBr.cell (p:=⟨b,o+q,none⟩) Vb).trans hr0;have tn:((n:Int) != (n:Int))=false:=by simp
    clear hr2 Yj HN;go_wp2_with fail
    go_loopw [6] (fun i wr=>∃(j:Nat),i=.int .i64 j/\j<=n/\Below w w wr/\Hid (∀x∈row.take j,aT k x=true)) (fun i _=>n-(intOf i).toNat)
    case atStart=>exact⟨0,rfl,by omega,hBr,by simp[Hid]⟩
    case round=>
     clear hBr m0;obtain⟨j,rfl,hj,T9,HJ⟩:=hrel;have m0:=(T9.cell (p:=⟨b,o+q,none⟩) Vb).trans hr0;by_cases hjl:j<n
     ·have hjr:j<row.length:=by rw[hrn.1];exact hjl
      have Uw:Hid (aT k row[j]=false->row.all (aT k)=false):=p8 hjr;have HT2:Hid (aT k row[j]=true->∀x∈row.take (j+1),aT k x=true):=allT hjr HJ.out;have hyl:=hrn.2 _ (aag hjr);have Wi:=Yf.out j hjr;generalize row[j]=y at*;obtain⟨Y,hY⟩:∃Y:ByteArray,(⟨y.toArray⟩:ByteArray)=Y:=⟨_,rfl⟩;have hYd:y=Y.data.toList:=by rw[<-hY]
      unfold S at Wi;rw[hY]at Wi;subst hYd;have hYs:Y.size<=802:=by rw[aae];exact hyl
      have my:=(T9.cell (p:=⟨r,j,none⟩) hr1).trans Wi;have pv:=fun W=>nZ k Y W (by omega)
      have ij0:(0:Int)<=(j:Int):=(by omega);have ijl:(j:Int)<(n:Int):=(by omega);clear hY hyl HJ
      cases hv:aT k Y.data.toList with
      |false=>
       have HX:=Pd (HY.out.trans (HF.out (Uw.out hv)));rw[hv]at pv;clear hv HF HT Uw HT2;go_wp2_with fail;refine(pv _).mono ?_;rintro e w2 ⟨rfl,b2⟩;go_wp2_with fail;go_returns;exact⟨by rw[HX.out];(try rfl),ae T9 b2⟩
      |true=>
       have HX:=Pd (HT2.out hv);rw[hv]at pv;clear hv Uw HT2;go_wp2_with fail;refine(pv _).mono ?_;rintro e w2 ⟨rfl,b2⟩;go_wp2_with fail;go_roundw
       case rel=>exact⟨j+1,by go_num,by omega,ae T9 b2,HX.out⟩
       case measure=>simp[intOf];omega
     ·obtain rfl:j=n:=by omega
      have HX:Hid (∀r∈a.take (q+1),r.all (aT k)=true):=HT.out (by
       have:=HJ.out;rw[aav (by rw[hrn.1];exact Pe _)]at this;exact aaT.2 this)
      go_wp2_with fail;go_roundw
      case rel=>exact⟨q+1,by go_num,by omega,T9,HX.out⟩
      case measure=>simp[intOf];omega
   ·obtain rfl:q=n:=by omega
    have HX:Hid (R=true):=by
     have:=HN.out;rw[aav (by rw[hN.1];exact Pe _)]at this;rw[Hid,HY.out];exact aaT.2 this
    go_wp2_with fail;go_returns;exact⟨by rw[HX.out];(try rfl),hBr⟩
def gK(w:World)(r:Nat)(l:Vec):Prop:=∃rest,w.heap[r]? = some (.cells (l.map S++rest).toArray 9)
def uL(n:Nat)(r:Nat×Nat):Value:=.slice (some ⟨r.1,0,none⟩) n r.2
structure cZ (w:World) (ba n:Nat) (rows:List (Nat×Nat)) (a:ak):Prop where
 out:w.heap[ba]? = some (.cells (rows.map (uL n)).toArray 22)
 len:rows.length=n
 mat:iM n a
 row:∀i,(h:i<rows.length)->(h':i<a.length)->gK w rows[i].1 a[i]
 ne:(rows.map Prod.fst).Nodup
def gK.same{w w':World}{r:Nat}{l:Vec}(h:gK w r l)(hb:w'.heap[r]? = w.heap[r]?):gK w' r l:=by
 obtain⟨rest,h⟩:=h;exact⟨rest,hb.trans h⟩
def gK.lt{w:World}{r:Nat}{l:Vec}(h:gK w r l):r<w.heap.size:=by
 obtain⟨rest,h⟩:=h;exact oM h
def gK.own{w:World}{base n g cap:Nat}{z:Bs}(h:w.ownsRow base 9 1 (.slice (some ⟨g,0,none⟩) n cap) n (List.replicate n (S z))):base<=g/\gK w g (List.replicate n z):=by
 obtain⟨h1,h2⟩:=h;rcases h2 with⟨h2,_⟩|⟨g',cap',cur,h2,h3,h4,h5,h6,h7,h8⟩
 ·cases h2
 ·simp only[acU,aao,adP]at h2
  obtain⟨⟨rfl,_⟩,_,rfl⟩:=h2;refine⟨h3,cur.toList.drop (n*1),?_⟩;rw[h4,ad5,<-h8,aaY]
def own_below{w w':World}{base n:Nat}{e:TypeId}{v:Value}{xs:List Value}(h:w.ownsRow base e 1 v n xs)(hb:Below w w w'):w'.ownsRow base e 1 v n xs:=by
 refine⟨h.1,?_⟩;rcases h.2 with h2|⟨g,cap,cur,h2,h3,h4,h5⟩
 ·exact aam h2
 ·exact aad ⟨g,cap,cur,h2,h3,(hb.block g (oM h4)).trans h4,h5⟩
def yw{w:World}{base n b:Nat}{e:TypeId}{v:Value}{xs:List Value}(h:w.ownsRow base e 1 v n xs)(hb:b<base):v.ownBlock≠some b:=by
 rcases h.2 with⟨h2,_⟩|⟨g,cap,cur,h2,h3,_⟩
 ·rw[h2];intro e;cases e
 ·rw[h2]
  intro e;simp only[Value.ownBlock,aao]at e;omega
def OD{w wr w5:World}{base q j g2 cap:Nat}{x v:Value}{L Rst:List Value}{T:TypeId}{o:Obj}(hlow:w.heap.size<base)(hbase:base<=wr.heap.size)(hB:Below w w wr)
  (hO:wr.heap[w.heap.size]? = some (.cells (L++v::Rst).toArray T)) (hL:L.length=q) (hv:wr.ownsRow base 9 1 v j (List.replicate j x)) (hg:((wr.alloc o).drew).grownBy w5 v.ownBlock)
  (h6:w5.ownsRow base 9 1 (.slice (some ⟨g2,0,none⟩) (j+1) cap) (j+1) (List.replicate j x++[x])) :
  Below w w (w5.setCell ⟨w.heap.size,q,none⟩ (.slice (some ⟨g2,0,none⟩) (j+1) cap)) ∧
  (w5.setCell ⟨w.heap.size,q,none⟩ (.slice (some ⟨g2,0,none⟩) (j+1) cap)).heap[w.heap.size]? = some (.cells (L++(.slice (some ⟨g2,0,none⟩) (j+1) cap)::Rst).toArray T) ∧
  (w5.setCell ⟨w.heap.size,q,none⟩ (.slice (some ⟨g2,0,none⟩) (j+1) cap)).ownsRow base 9 1 (.slice (some ⟨g2,0,none⟩) (j+1) cap) (j+1) (List.replicate (j+1) x) ∧
  base<=(w5.setCell ⟨w.heap.size,q,none⟩ (.slice (some ⟨g2,0,none⟩) (j+1) cap)).heap.size ∧
  ∀i,i<base->i≠w.heap.size->(w5.setCell ⟨w.heap.size,q,none⟩ (.slice (some ⟨g2,0,none⟩) (j+1) cap)).heap[i]? = wr.heap[i]?:=by
 have bT:Below wr wr ((wr.alloc o).drew):=((aac _ wr).alloc (Pe _) _).drew;have h1:∀i,i<base->w5.heap[i]? = wr.heap[i]?:=fun i hi=>
  (hg.block i (aah (aah hi hbase) bT.size) (fun e=>yw hv hi e.symm)).trans (bT.block i (aah hi hbase))
 have hlow':w.heap.size<=base:=aa0 hlow;have TS:Below w w w5:=Below.grown (hB.trans (bT.mono (aaB hlow' hbase))) hg (aaB (aaB hlow' hbase) bT.size) (fun k hk=>by
  rcases aaz k w.heap.size with h|h
  ·exact absurd hk (yw hv (Nat.lt_trans h hlow))
  ·exact h)
 have hset:∀i,i≠w.heap.size->(w5.setCell ⟨w.heap.size,q,none⟩ (.slice (some ⟨g2,0,none⟩) (j+1) cap)).heap[i]? = w5.heap[i]?:=fun i hi=>aa2 w5 ⟨w.heap.size,q,none⟩ _ i hi
 refine⟨TS.setCell (p:=⟨w.heap.size,q,none⟩) (Pe _) _,?_,?_,?_,fun i hi hne=>(hset i hne).trans (h1 i hi)⟩
 ·unfold World.setCell
  simp only[ab4];rw[h1 _ hlow,hO];subst hL;simp
 ·rw[show List.replicate (j+1) x=List.replicate j x++[x] from List.replicate_succ']
  refine⟨h6.1,?_⟩;rcases h6.2 with⟨h2,_⟩|⟨g,c2,cur,h2,h3,h4,h5⟩
  ·cases h2
  ·exact aad ⟨g,c2,cur,h2,h3,(hset g (by omega)).trans h4,h5⟩
 ·have h7:(w5.setCell ⟨w.heap.size,q,none⟩ (.slice (some ⟨g2,0,none⟩) (j+1) cap)).heap.size=w5.heap.size:=by simp[World.setCell]
  rw[h7];have h8:w5.heap.size≥base:=by
   rcases h6.2 with⟨h2,_⟩|⟨g,c2,cur,h2,h3,h4,h5⟩
   ·cases h2
   ·have:=oM h4;omega
  exact h8
def KI(k:Int)(n:Nat)(w:World)(h1:1<=n)(h2:n<=3000) :
  Calls Tryz.prog 125 #[.int .i64 k,.int .i64 (n:Int)] w fun e w'=>∃ba rows,e=.returned (.slice (some ⟨ba,0,none⟩) n n)/\cZ w' ba n rows (List.replicate n (List.replicate n (aF k)))/\w.heap.size<=ba/\(∀r∈rows,w.heap.size<=r.1)/\Below w w w':=by
 obtain⟨zk,U5⟩:∃zk:ByteArray,(⟨(aF k).toArray⟩:ByteArray)=zk:=⟨_,rfl⟩;have Ua:S (aF k)=.string zk:=by unfold S;rw[U5]
 have p0:∀W,Calls Tryz.prog 34 #[.int .i64 k] W fun e w'=>e=.returned (.string zk)/\w'=W:=fun W=>by
  have:=o9 k W;rw[Ua]at this;exact this.mono fun e w' h=>⟨h.1,h.2.symm⟩
 have HZ:=Pd Ua;have hzl:=rR k;generalize aF k=z at*;clear U5 Ua;obtain⟨ic,ci,cz0,cz1,cz2⟩:=abm rW;have d1:(1:Int)<=(n:Int):=by omega
 have d2:(n:Int)<=3000:=by omega
 have hmk:=BU n (by omega);have hM0:(w.alloc (.cells (Array.replicate n (.slice none 0 0)) 22)).heap[w.heap.size]? = some (.cells (List.replicate n (Value.slice none 0 0)).toArray 22):=by rw[aaq];simp
 have hb0:Below w w (w.alloc (.cells (Array.replicate n (.slice none 0 0)) 22)):=(aac _ _).alloc (Pe _) _;go_enter Tryz.func125,Tryz.ntmps125;go_wp2_with fail;generalize w.alloc (.cells (Array.replicate n (.slice none 0 0)) 22)=w1 at*;clear hmk
 go_loopw [6] (fun i wr=>∃(q:Nat) (rows:List (Nat×Nat)),i=.int .i64 q/\q<=n/\rows.length=q/\Below w w wr/\wr.heap[w.heap.size]? = some (.cells (rows.map (uL n)++List.replicate (n-q) (Value.slice none 0 0)).toArray 22)/\(∀r∈rows,w.heap.size<r.1/\gK wr r.1 (List.replicate n z))/\(rows.map Prod.fst).Nodup) (fun i _=>n-(intOf i).toNat)
 case atStart=>exact⟨0,[],rfl,by omega,rfl,hb0,by simpa using hM0,fun r h=>absurd h aaK,abq⟩
 case round=>
  obtain⟨q,rows,rfl,hq,YX,hB,hO,hR,hND⟩:=hrel;by_cases hlt:q<n
  ·obtain⟨wq,hwq⟩:∃W,W=wr:=⟨_,rfl⟩
   subst hwq;have i0:(0:Int)<=(q:Int):=by omega
   have il:(q:Int)<(n:Int):=(by omega);have hoq:=oM hO;go_wp2_with fail
   go_loopw [7] (fun i wr=>∃(j:Nat) (v:Value),i=.int .i64 j/\j<=n/\Below w w wr/\wr.heap[w.heap.size]? = some (.cells (rows.map (uL n)++v::List.replicate (n-(q+1)) (Value.slice none 0 0)).toArray 22)/\wr.ownsRow wq.heap.size 9 1 v j (List.replicate j (.string zk))/\(v=.slice none 0 0↔j=0)/\wq.heap.size<=wr.heap.size/\∀i,i<wq.heap.size->i≠w.heap.size->wr.heap[i]? = wq.heap[i]?) (fun i _=>n-(intOf i).toNat)
   case atStart=>exact⟨0,.slice none 0 0,rfl,by omega,hB,by rw[hO,show n-q=(n-(q+1))+1 by omega,adX],⟨rfl,aam ⟨rfl,rfl⟩⟩,by simp,Pe _,fun i _ _=>rfl⟩
   case round=>
    obtain⟨j,v,rfl,hj,T9,XU,hown,hvj,hsz,hsame⟩:=hrel;by_cases hjl:j<n
    ·have hcv:wr.cell? ⟨w.heap.size,q,none⟩=some v:=by
      rw[aap wr w.heap.size q _ _ (0,0) XU];simp[YX]
     have Xa:wr.frozen? ⟨w.heap.size,q,none⟩=false:=by
      unfold World.frozen?;rw[XU];simp
     have hv1:v.oneCell'=true:=by
      rcases hown.2 with⟨h,_⟩|⟨g,cap,cur,h,_⟩<;>rw[h]<;>rfl
     have ij0:(0:Int)<=(j:Int):=(by omega);have ijl:(j:Int)<(n:Int):=(by omega);go_wp2_with fail;have bT:Below wr wr ((wr.alloc (.cells #[.string zk] 9)).drew):=((aac _ wr).alloc (Pe _) _).drew;have Xx:(wr.alloc (.cells #[.string zk] 9)).cell? ⟨w.heap.size,q,none⟩=some v:=(bT.cell (p:=⟨w.heap.size,q,none⟩) (aah hoq hsz)).trans hcv;have hown5:((wr.alloc (.cells #[.string zk] 9)).drew).ownsRow wq.heap.size 9 1 v j (List.replicate j (.string zk)):=own_below hown bT;have hnews:∀j u,[Value.string zk][j]? = some u->((wr.alloc (.cells #[.string zk] 9)).drew).cell? ((⟨wr.heap.size,0,none⟩:Addr).add j)=some u:=abK (aaq wr (.cells #[.string zk] 9));have h63:j+1<=maxLen:=by unfold maxLen;omega
     have hby:(j+1)*16<=140737488355328:=by omega
     have hbase:wq.heap.size<=((wr.alloc (.cells #[.string zk] 9)).drew).heap.size:=aaB hsz bT.size;have hvo:v.ownBlock≠some w.heap.size:=yw hown hoq;have KK:Hid (∀w5,((wr.alloc (.cells #[.string zk] 9)).drew).grownBy w5 v.ownBlock->w5.cell? ⟨w.heap.size,q,none⟩=some v/\w5.frozen? ⟨w.heap.size,q,none⟩=false):=by
      intro w5 hg;have h1:w5.heap[w.heap.size]? = wr.heap[w.heap.size]?:=(hg.block w.heap.size (aah (aah hoq hsz) bT.size) (fun e=>hvo e.symm)).trans (bT.block _ (aah hoq hsz));refine⟨?_,?_⟩
      ·rw[aap w5 w.heap.size q _ _ (0,0) (h1.trans XU)]
       simp[YX]
      ·unfold World.frozen?
       rw[h1.trans XU];simp
     have hent:∀args w,(callFunc 34 args).run Tryz.prog w=.ok (.enter 34 args) w:=fun args w=>enters_of Tryz.func34 (by kernel_rfl) rfl args w
     have p3:Calls Tryz.prog 34 #[.int .i64 k] wr.drew (fun e w'=>∃u,e=.returned u/\(u=.string zk/\w'=wr.drew)):=(p0 _).mono fun e w' h=>⟨_,h.1,rfl,h.2⟩
     have HOt:=Pd XU;have ZT:=Pd hown;have HVo:=Pd hvo;clear XU hown hvo
     go_region_law
      (first
       |(refine Nr (by rfl) 34 (.tmp 26) 3 (by rfl) hent _ (by rfl) p3 ?_;rintro u wz ⟨rfl,rfl⟩)
       |(refine adO _ (by rfl) (.tmp 25) (.tmp 28) 22 (by rfl) wq.heap.size 9 ic _ 1 16 abU ci cz0 cz1 cz2 (by rfl) (by decide) _ j (List.replicate j (.string zk)) (by rfl) hown5 ⟨wr.heap.size,0,none⟩ 1 1 [.string zk] (by rfl) rfl hnews (by simp[Value.oneCell']) (by decide) h63 hby hbase (wr.heap.size+1) (by simp) ?_;intro g2 cap w5 hown6 hgr5 TW Ul;obtain⟨q1,q2⟩:=KK.out w5 hgr5)
       |fail)
     all_goals
      obtain⟨e1,e2,e3,e4,e5⟩:=OD (q:=q) (o:=.cells #[.string zk] 9) hoq hsz T9 HOt.out (by simp[YX]) ZT.out hgr5 hown6;have HE2:=Pd e2;have HE3:=Pd e3;clear hown6 hgr5 TW Ul q1 q2 hown5 hnews hcv Xx Xa KK e2 e3;generalize w5.setCell ⟨w.heap.size,q,none⟩ (.slice (some ⟨g2,0,none⟩) (j+1) cap)=w7 at*;go_wp2_with fail;go_roundw
      case rel=>exact⟨j+1,_,by go_num,by omega,e1,HE2.out,HE3.out,by simp,e4,fun i hi hne=>(e5 i hi hne).trans (hsame i hi hne)⟩
      case measure=>simp[intOf];omega
    ·obtain rfl:j=n:=by omega
     obtain⟨g,cap,rfl⟩:∃g cap,v=.slice (some ⟨g,0,none⟩) j cap:=by
      rcases hown.2 with⟨h2,h3⟩|⟨g,cap,cur,h2,_⟩
      ·omega
      ·exact⟨g,cap,h2⟩
     have HZ2:Hid (List.replicate j (Value.string zk)=List.replicate j (S z)):=by rw[Hid,HZ.out]
     obtain⟨hg1,hg2⟩:=gK.own (z:=z) (by rw[<-HZ2.out];exact hown);have ZQ:Hid (wr.heap[w.heap.size]? = some (.cells ((rows++[(g,cap)]).map (uL j)++List.replicate (j-(q+1)) (Value.slice none 0 0)).toArray 22)):=by
      rw[Hid,XU,aa3,aaZ]
      rfl
     have hR2:∀r∈rows++[(g,cap)],w.heap.size<r.1/\gK wr r.1 (List.replicate j z):=fun r hr=>by
      rcases aaG.1 hr with hr|hr
      ·have h3:=hR r hr
       exact⟨h3.1,h3.2.same (hsame r.1 h3.2.lt (Nat.ne_of_gt h3.1))⟩
      ·rw[aar.1 hr]
       exact⟨aah hoq hg1,hg2⟩
     have hND2:((rows++[(g,cap)]).map Prod.fst).Nodup:=by
      rw[aa3,adD];refine⟨hND,by simp,fun x hx y hy=>?_⟩;simp only[aa5,afL,aar]at hy;obtain⟨r,hr,rfl⟩:=abk.1 hx;have h3:=(hR r hr).2.lt;omega
     clear XU hown hR hND;go_wp2_with fail;go_roundw
     case rel=>exact⟨q+1,rows++[(g,cap)],by go_num,by omega,by simp[YX],T9,ZQ.out,hR2,hND2⟩
     case measure=>simp[intOf];omega
  ·obtain rfl:q=n:=by omega
   rw[abx,List.replicate_zero,acb]at hO;go_wp2_with fail;go_returns;refine⟨w.heap.size,rows,rfl,⟨hO,YX,⟨by simp,fun r hr=>?_⟩,fun i hi hi'=>?_,hND⟩,Pe _,fun r hr=>aa0 (hR r hr).1,hB⟩
   ·rw[ab5 hr]
    exact⟨by simp,fun x hx=>by rw[ab5 hx];exact hzl⟩
   ·rw[List.getElem_replicate]
    exact(hR _ (aag hi)).2
def cZ.keep{w w':World}{ba n:Nat}{rows:List (Nat×Nat)}{a:ak}(h:cZ w ba n rows a)(hb:w'.heap[ba]? = w.heap[ba]?)(hr:∀r∈rows,w'.heap[r.1]? = w.heap[r.1]?):cZ w' ba n rows a:=
 ⟨hb.trans h.out,h.len,h.mat,fun i hi hi'=>(h.row i hi hi').same (hr _ (aag hi)),h.ne⟩
def cZ.lt{w:World}{ba n:Nat}{rows:List (Nat×Nat)}{a:ak}(h:cZ w ba n rows a):ba<w.heap.size/\∀r∈rows,r.1<w.heap.size:=by
 refine⟨oM h.out,fun r hr=>?_⟩;obtain⟨i,hi,rfl⟩:=abr hr;exact(h.row i hi (by rw[h.mat.1,<-h.len];exact hi)).lt
def cZ.below{w w':World}{ba n:Nat}{rows:List (Nat×Nat)}{a:ak}(h:cZ w ba n rows a)(hb:Below w w w'):cZ w' ba n rows a:=
 h.keep (hb.block ba h.lt.1) fun r hr=>hb.block _ (h.lt.2 r hr)
def cZ.upd{w w':World}{ba n sb B:Nat}{rows:List (Nat×Nat)}{a:ak}(h:cZ w ba n rows a)(hu:df sb w w')(h1:sb<B)(h2:B<=ba)(h3:∀r∈rows,B<=r.1):cZ w' ba n rows a:=
 h.keep (hu.same ba h.lt.1 (by omega)) fun r hr=>hu.same _ (h.lt.2 r hr) (by have:=h3 r hr;omega)
def cZ.rowAt{w:World}{ba n:Nat}{rows:List (Nat×Nat)}{a:ak}(h:cZ w ba n rows a){i:Nat}(hi:i<n):w.cell? ⟨ba,i,none⟩=some (.slice (some ⟨(rows[i]'(by rw[h.len];exact hi)).1,0,none⟩) n (rows[i]'(by rw[h.len];exact hi)).2):=by
 rw[aap w ba i _ _ (0,0) h.out];have hi':i<rows.length:=by rw[h.len];exact hi
 simp[hi',uL]
def gK.cell{w:World}{r:Nat}{l:Vec}(h:gK w r l){j:Nat}(hj:j<l.length):w.cell? ⟨r,j,none⟩=some (S l[j]):=by
 obtain⟨rest,h⟩:=h;rw[aap w r j _ _ (0,0) h];simp[adh,hj]
def gK.free{w:World}{r:Nat}{l:Vec}(h:gK w r l)(j:Nat):w.frozen? ⟨r,j,none⟩=false:=by
 obtain⟨rest,h⟩:=h;unfold World.frozen?;rw[show w.heap[r]? = _ from h];simp
def gK.set{w:World}{r:Nat}{l:Vec}(h:gK w r l){j:Nat}(hj:j<l.length)(x:Bs):gK (w.setCell ⟨r,j,none⟩ (S x)) r (l.set j x):=by
 obtain⟨rest,h⟩:=h;refine⟨rest,?_⟩;unfold World.setCell;simp only[ab4];rw[show w.heap[r]? = _ from h];simp[ac3,hj]
def cZ.out_ne{w:World}{ba n:Nat}{rows:List (Nat×Nat)}{a:ak}(h:cZ w ba n rows a):∀r∈rows,r.1≠ba:=by
 intro r hr e;obtain⟨i,hi,rfl⟩:=abr hr;obtain⟨rest,h1⟩:=h.row i hi (by rw[h.mat.1,<-h.len];exact hi);have h2:=h.out;rw[e,show w.heap[ba]? = _ from h2]at h1;simp at h1
def cZ.putRow{w w':World}{ba n:Nat}{rows:List (Nat×Nat)}{a:ak}(h:cZ w ba n rows a){i:Nat}(hi:i<n){l:Vec}(hl:dK n l)(hr:gK w' (rows[i]'(by rw[h.len];exact hi)).1 l)
  (hs:∀j,j≠(rows[i]'(by rw[h.len];exact hi)).1->w'.heap[j]? = w.heap[j]?):cZ w' ba n rows (a.set i l):=by
 have hir:i<rows.length:=by rw[h.len];exact hi
 refine⟨(hs ba (fun e=>h.out_ne _ (aag hir) e.symm)).trans h.out,h.len,⟨by rw[abh];exact h.mat.1,fun r hr=>?_⟩,fun p hp hp'=>?_,h.ne⟩
 ·rcases ab0 hr with hr|rfl
  ·exact h.mat.2 r hr
  ·exact hl
 ·by_cases e:p=i
  ·subst e
   rw[acJ];exact hr
  ·rw[aco (fun e'=>e e'.symm)]
   have hp2:p<a.length:=(by simpa using hp');refine(h.row p hp hp2).same (hs _ (fun e2=>?_));have h3:=adk.1 h.ne;rcases Nat.lt_or_gt_of_ne e with h4|h4
   ·exact h3 p i (by simpa using hp) (by simpa using hir) h4 (by simpa using e2)
   ·exact h3 i p (by simpa using hir) (by simpa using hp) h4 (by simpa using e2.symm)
def cZ.put{w:World}{ba n:Nat}{rows:List (Nat×Nat)}{a:ak}(h:cZ w ba n rows a){i j:Nat}(hi:i<n)(hj:j<n){x:Bs}(hx:x.length<=802)(hia:i<a.length) :
  cZ (w.setCell ⟨(rows[i]'(by rw[h.len];exact hi)).1,j,none⟩ (S x)) ba n rows (a.set i (a[i].set j x)):=by
 have hir:i<rows.length:=by rw[h.len];exact hi
 have hn:=h.mat.2 _ (aag hia);exact h.putRow hi (hn.set j hx) ((h.row i hir hia).set (by rw[hn.1];exact hj) x) fun k hk=>aa2 w _ _ k hk
def cZ.read{w:World}{ba n:Nat}{rows:List (Nat×Nat)}{a:ak}(h:cZ w ba n rows a):jP w (some ⟨ba,0,none⟩) a:=by
 intro i hi;have hin:i<n:=by rw[<-h.mat.1];exact hi
 have hir:i<rows.length:=by rw[h.len];exact hin
 have hr:=h.row i hir hi;refine⟨ba,0,rfl,h.lt.1,(rows[i]'hir).1,(rows[i]'hir).2,?_,hr.lt,fun j hj=>hr.cell hj⟩;rw[aaP,h.rowAt hin,(h.mat.2 _ (aag hi)).1]
def setRow_other(w:World)(g:Nat)(r:Array Value)(j:Nat)(h:j≠g):(w.setRow g r).heap[j]? = w.heap[j]?:=by
 unfold World.setRow;simp[ab4,acx h]
def df.newset{sb:Nat}{w w1:World}(h:df sb w w1){p:Addr}(hp:w.heap.size<=p.block)(v:Value):df sb w (w1.setCell p v):=
 ⟨fun B h1 h2=>(h.low B h1 h2).setCell (aaB h2 hp) v,fun j hj hne=>(aa2 w1 p v j (by omega)).trans (h.same j hj hne)⟩
def df.newrow{sb:Nat}{w w1:World}(h:df sb w w1){g:Nat}(hp:w.heap.size<=g)(r:Array Value):df sb w (w1.setRow g r):=
 ⟨fun B h1 h2=>(h.low B h1 h2).trans ⟨rfl,rfl,rfl,by simp[World.setRow],fun k hk=>setRow_other w1 g r k (by omega)⟩,fun j hj hne=>(setRow_other w1 g r j (by omega)).trans (h.same j hj hne)⟩
def df.step{sb:Nat}{w w1 w2:World}(h:df sb w w1)(hb:Below w1 w1 w2):df sb w w2:=h.trans (df.of_below hb)
def GX{k:Int}{a:ak}{loop:Bs}{p i j:Nat}{b:Bool}(h:aX a i p=aF k\/aX a p j=aF k):ug k a loop p i j b=(b,aX a i j):=by
 unfold ug;rw[aab (by rintro⟨h1,h2⟩;rcases h with h|h;exact h1 h;exact h2 h)]
def mi{a:ak}{i j:Nat}(hi:i<a.length)(hj:j<a[i].length):aX a i j=a[i][j]:=by
 unfold aX;rw[aaf,aaf,aak hi,abL,aak hj,abL]
def cZ.at_{w:World}{ba n:Nat}{rows:List (Nat×Nat)}{a:ak}(h:cZ w ba n rows a){i j:Nat}(hi:i<n)(hj:j<n):w.cell? ⟨(rows[i]'(by rw[h.len];exact hi)).1,j,none⟩=some (S (aX a i j))/\(aX a i j).length<=802:=by
 have hia:i<a.length:=by rw[h.mat.1];exact hi
 have hrn:=h.mat.2 _ (aag hia);have hja:j<a[i].length:=by rw[hrn.1];exact hj
 rw[mi hia hja];exact⟨(h.row i (by rw[h.len];exact hi) hia).cell hja,hrn.2 _ (aag hja)⟩
structure OM (w wr:World) (sb n:Nat) (k:Int) (bb:Nat) (rb:List (Nat×Nat)) (b:ak):Prop where
 u:df sb w wr
 s:dI wr sb k false
 m:cZ wr bb n rb b
 lo:w.heap.size<=bb/\∀r∈rb,w.heap.size<=r.1
def cellS{w w':World}{p:Addr}(h:w'.heap[p.block]? = w.heap[p.block]?):w'.cell? p=w.cell? p:=by unfold World.cell?;rw[h]
def cZ.rowE{w:World}{ba n:Nat}{rows:List (Nat×Nat)}{a:ak}(h:cZ w ba n rows a){i:Nat}(hi:i<n):∃g cp,rows[i]? = some (g,cp)/\w.cell? ⟨ba,i,none⟩=some (.slice (some ⟨g,0,none⟩) n cp):=by
 have hir:i<rows.length:=by rw[h.len];exact hi
 exact⟨(rows[i]'hir).1,(rows[i]'hir).2,by rw[aak hir],h.rowAt hi⟩
def cZ.rowG{w:World}{ba n i g cp:Nat}{rows:List (Nat×Nat)}{a:ak}(h:cZ w ba n rows a)(hg:rows[i]? = some (g,cp))(hia:i<a.length):gK w g a[i]/\(g,cp)∈rows:=by
 obtain⟨hir,e⟩:=aby.1 hg;have:=h.row i hir hia;rw[e]at this;exact⟨this,e ▸ aag hir⟩
def cZ.putRowE{w w':World}{ba n i g cp:Nat}{rows:List (Nat×Nat)}{a:ak}(h:cZ w ba n rows a)(hg:rows[i]? = some (g,cp))(hi:i<n){l:Vec}(hl:dK n l)(hr:gK w' g l)(hs:∀j,j≠g->w'.heap[j]? = w.heap[j]?):cZ w' ba n rows (a.set i l):=by
 obtain⟨hir,e⟩:=aby.1 hg;exact h.putRow hi hl (by rw[e];exact hr) (by rw[e];exact hs)
def cZ.putE{w:World}{ba n i j g cp:Nat}{rows:List (Nat×Nat)}{a:ak}(h:cZ w ba n rows a)(hg:rows[i]? = some (g,cp))(hi:i<n)(hj:j<n){x:Bs}(hx:x.length<=802)(hia:i<a.length):cZ (w.setCell ⟨g,j,none⟩ (S x)) ba n rows (a.set i (a[i].set j x)):=by
 obtain⟨hir,e⟩:=aby.1 hg;have:=h.put hi hj hx hia;rw[e]at this;exact this
def dI.not{w:World}{sb o:Nat}{k:Int}{bad:Bool}{v:Value}(h:dI w sb k bad)(hc:w.cell? ⟨sb,o,none⟩=some v):(∀x y z,v ≠ .slice x y z)/\∀x,v ≠ .string x:=by
 rw[aap w sb o _ _ (0,0) h]at hc
 match o,hc with
 |0,hc=>simp at hc;subst hc;simp
 |1,hc=>simp at hc;subst hc;simp
 |o+2,hc=>simp at hc
def strSize:(Tryz.prog.info? 9).map (·.size)=some 1:=by kernel_rfl
def Mc(sb:Nat)(k:Int)(AS:Addr)(n:Nat)(a:ak)(w:World)(hS:dI w sb k false)(hA:jP w (some AS) a)(hN:iM n a)(hn1:1<=n){q:Nat}(hlt:q<n){wr:World}{bb:Nat}{rb:List (Nat×Nat)}{b:ak}(hI:OM w wr sb n k bb rb b) :
  ∃g cp gs cs src os,rb[q]? = some (g,cp)/\AS=⟨src,os,none⟩/\wr.drew.cell? ⟨bb,q,none⟩=some (.slice (some ⟨g,0,none⟩) n cp)/\wr.drew.cell? ⟨src,os+q,none⟩=some (.slice (some ⟨gs,0,none⟩) n cs) ∧
   ∃w5,(∀ty,(Builtin.copy_ #[22,22] ty #[.slice (some ⟨g,0,none⟩) n cp,.slice (some ⟨gs,0,none⟩) n cs]).run Tryz.prog wr.drew=.ok (goInt n) w5)/\OM w w5 sb n k bb rb (b.set q (a.getD q [])):=by
 have VM:q<a.length:=by rw[hN.1];exact hlt
 obtain⟨bs,os,Yj,hbs,br,cr,hr0,hr1,hr2⟩:=hA q VM;obtain rfl:=acp Yj;have hrn:=hN.2 _ (aag VM);have hqb:q<b.length:=by rw[hI.m.mat.1];exact hlt
 obtain⟨g,cp,hg,hcell⟩:=hI.m.rowE hlt;obtain⟨⟨rest,hrest⟩,hmem⟩:=hI.m.rowG hg hqb;have hbl:=hI.m.mat.2 _ (aag hqb);have hne1:bs≠sb:=fun e=>by subst e;exact(hS.not hr0).1 _ _ _ rfl
 have hne2:br≠sb:=fun e=>by subst e;exact(hS.not (hr2 0 (by rw[hrn.1];omega))).2 _ rfl
 have hlo:=hI.lo.2 _ hmem;have hq0:a.getD q []=a[q]:=by rw[aaf,aak VM];rfl
 rw[hrn.1]at hr0;refine⟨g,cp,br,cr,bs,os,hg,rfl,hcell,(cellS (p:=⟨bs,os+q,none⟩) (hI.u.same bs hbs hne1)).trans hr0,wr.drew.setRow g (((b[q].map S++rest).take 0++a[q].map S++(b[q].map S++rest).drop (0+(a[q].map S).length))).toArray,fun ty=>?_,?_⟩
 ·have:=run_copy_row (P:=Tryz.prog) wr.drew 22 22 ty 9 g 0 n cp ⟨br,0,none⟩ n cr (b[q].map S++rest).toArray 9 (a[q].map S) abU strSize hrest (by rw[aaC,hrn.1];exact(Nat.min_self n).symm) (fun j v hv=>by
   rw[abA]at hv;have hj:j<a[q].length:=by
    rcases aaz j a[q].length with h|h
    ·exact h
    ·rw[aa4 h]at hv;cases hv
   rw[aak hj]at hv;simp only[aba,aao]at hv;subst hv;have e:(⟨br,0,none⟩:Addr).add j=⟨br,j,none⟩:=by unfold Addr.add;split<;>simp_all
   rw[e];exact(cellS (p:=⟨br,j,none⟩) (hI.u.same br hr1 hne2)).trans (hr2 j hj)) (by simp[hrn.1,hbl.1]) (fun v hv=>by
   obtain⟨x,_,rfl⟩:=abk.1 hv
   rfl)
  rw[this,aaC,hrn.1]
 ·have hu2:df sb w (wr.drew.setRow g (((b[q].map S++rest).take 0++a[q].map S++(b[q].map S++rest).drop (0+(a[q].map S).length))).toArray):=(hI.u.step ((aac _ wr).drew)).newrow hlo _
  have hs3:∀j,j≠g->(wr.drew.setRow g (((b[q].map S++rest).take 0++a[q].map S++(b[q].map S++rest).drop (0+(a[q].map S).length))).toArray).heap[j]? = wr.heap[j]?:=fun j hj=>setRow_other wr.drew g _ j hj
  rw[hq0];refine⟨hu2,(hs3 sb (by have:=hS.lt;omega)).trans hI.s,hI.m.putRowE hg hlt hrn ⟨rest,?_⟩ hs3,hI.lo⟩;have:=setRow_heap wr.drew g (b[q].map S++rest).toArray (((b[q].map S++rest).take 0++a[q].map S++(b[q].map S++rest).drop (0+(a[q].map S).length))).toArray 9 (0,0) hrest;rw[this];simp[hrn.1,hbl.1]
structure OV (w wr:World) (sb n:Nat) (k:Int) (f:Bool) (bb:Nat) (rb:List (Nat×Nat)) (b:ak):Prop where
 u:df sb w wr
 s:dI wr sb k f
 m:cZ wr bb n rb b
 lo:w.heap.size<=bb/\∀r∈rb,w.heap.size<=r.1
def OM.flag{w wr:World}{sb n:Nat}{k:Int}{bb:Nat}{rb:List (Nat×Nat)}{b:ak}(h:OM w wr sb n k bb rb b):OV w wr sb n k false bb rb b:=⟨h.u,h.s,h.m,h.lo⟩
def OV.upd{w wr w':World}{sb n:Nat}{k:Int}{f f':Bool}{bb:Nat}{rb:List (Nat×Nat)}{b:ak}(h:OV w wr sb n k f bb rb b)(hsb:sb<w.heap.size)(hu:df sb wr w')(hs:dI w' sb k f'):OV w w' sb n k f' bb rb b:=
 ⟨h.u.trans hu,hs,h.m.upd hu hsb h.lo.1 h.lo.2,h.lo⟩
def OV.below{w wr w':World}{sb n:Nat}{k:Int}{f:Bool}{bb:Nat}{rb:List (Nat×Nat)}{b:ak}(h:OV w wr sb n k f bb rb b)(hb:Below wr wr w'):OV w w' sb n k f bb rb b:=
 ⟨h.u.step hb,h.s.below hb,h.m.below hb,h.lo⟩
def OV.other{w wr:World}{sb n B:Nat}{k:Int}{f:Bool}{bb:Nat}{rb:List (Nat×Nat)}{b:ak}(h:OV w wr sb n k f bb rb b)(hsb:sb<w.heap.size)(hB:w.heap.size<=B)(h1:bb<B)(h2:∀r∈rb,r.1<B){p:Addr}(hp:B<=p.block)(v:Value):OV w (wr.setCell p v) sb n k f bb rb b:=
 ⟨h.u.newset (aaB hB hp) v,(aa2 wr p v sb (by omega)).trans h.s,h.m.keep (aa2 wr p v bb (by omega)) (fun r hr=>aa2 wr p v r.1 (by have:=h2 r hr;omega)),h.lo⟩
def QJ(w:World)(sb n:Nat)(k:Int)(r:Bool×ak)(e:Ending)(w':World):Prop:=∃bb rb,e=.returned (.slice (some ⟨bb,0,none⟩) n n)/\OV w w' sb n k r.1 bb rb r.2
def Tc{k:Int}{a:ak}{loop:Bs}{p i n j:Nat}{f:Bool}(hj:j<n):qx k a loop p i (n-j) j f=((qx k a loop p i (n-(j+1)) (j+1) (ug k a loop p i j f).1).1,(ug k a loop p i j f).2::(qx k a loop p i (n-(j+1)) (j+1) (ug k a loop p i j f).1).2):=by
 rw[show n-j=(n-(j+1))+1 by omega]
 rfl
def Te{k:Int}{a:ak}{loop:Bs}{p n i:Nat}{f:Bool}(hi:i<n):rQ k a loop p n (n-i) i f=((rQ k a loop p n (n-(i+1)) (i+1) (qx k a loop p i n 0 f).1).1,(qx k a loop p i n 0 f).2::(rQ k a loop p n (n-(i+1)) (i+1) (qx k a loop p i n 0 f).1).2):=by
 rw[show n-i=(n-(i+1))+1 by omega]
 rfl
def Ta{k:Int}{a:ak}{n p:Nat}{f:Bool}(hp:p<n):uH k n (n-p) p f a=uH k n (n-(p+1)) (p+1) (yM k p n f a).1 (yM k p n f a).2:=by
 rw[show n-p=(n-(p+1))+1 by omega]
 rfl
def R7{k:Int}{a:ak}{n i:Nat}{f:Bool}(hi:i<n):jq k (n-i) i f a=jq k (n-(i+1)) (i+1) (jG k f (fQ k) (aX a i i)).1 (setAt a i i (jG k f (fQ k) (aX a i i)).2):=by
 rw[show n-i=(n-(i+1))+1 by omega]
 rfl
theorem take_set{α:Type}{l:List α}{j:Nat}(hj:j<l.length)(y:α):(l.set j y).take (j+1)=l.take j++[y]:=by
 rw[List.take_set,aau hj,aeM _ _ (by simp;omega)];simp[aaI,ad1 (aa0 hj)]
def OZ(k:Int)(b:ak)(loop:Bs)(p i n:Nat)(fi fj:Bool)(row:Vec)(j:Nat):Prop:=qx k b loop p i n 0 fi=((qx k b loop p i (n-j) j fj).1,row.take j++(qx k b loop p i (n-j) j fj).2)
def OZ.start{k:Int}{b:ak}{loop:Bs}{p i n:Nat}{fi:Bool}{row:Vec}:OZ k b loop p i n fi fi row 0:=by unfold OZ;rw[aeT,ab7,abH]
def OZ.step{k:Int}{b:ak}{loop:Bs}{p i n j:Nat}{fi fj:Bool}{row:Vec}(h:OZ k b loop p i n fi fj row j)(hj:j<n)(hr:row.length=n):OZ k b loop p i n fi (ug k b loop p i j fj).1 (row.set j (ug k b loop p i j fj).2) (j+1):=by
 unfold OZ at h ⊢;rw[h,Tc hj,take_set (by omega),aaZ]
 rfl
def OZ.last{k:Int}{b:ak}{loop:Bs}{p i n:Nat}{fi fj:Bool}{row:Vec}(h:OZ k b loop p i n fi fj row n)(hr:row.length=n):qx k b loop p i n 0 fi=(fj,row):=by
 unfold OZ at h;rw[abx]at h;rw[h];show(fj,row.take n++[])=_;rw[acb,<-hr,aaJ]
def O4(k:Int)(b:ak)(loop:Bs)(p n:Nat)(f0 fi:Bool)(cm:ak)(i:Nat):Prop:=rQ k b loop p n n 0 f0=((rQ k b loop p n (n-i) i fi).1,cm.take i++(rQ k b loop p n (n-i) i fi).2)
def O4.start{k:Int}{b:ak}{loop:Bs}{p n:Nat}{f0:Bool}{cm:ak}:O4 k b loop p n f0 f0 cm 0:=by unfold O4;rw[aeT,ab7,abH]
def O4.step{k:Int}{b:ak}{loop:Bs}{p n i:Nat}{f0 fi fj:Bool}{cm cm':ak}(h:O4 k b loop p n f0 fi cm i)(hi:i<n)(hc:cm'.length=n)(he:cm'.take i=cm.take i)(hr:qx k b loop p i n 0 fi=(fj,cm'[i])):O4 k b loop p n f0 fj cm' (i+1):=by
 unfold O4 at h ⊢;rw[h,Te hi,hr,aau (by omega),he,aaZ]
 rfl
def O4.last{k:Int}{b:ak}{loop:Bs}{p n:Nat}{f0 fi:Bool}{cm:ak}(h:O4 k b loop p n f0 fi cm n)(hc:cm.length=n):rQ k b loop p n n 0 f0=(fi,cm):=by
 unfold O4 at h;rw[abx]at h;rw[h];show(fi,cm.take n++[])=_;rw[acb,<-hc,aaJ]
def R9{k:Int}{a:ak}{loop:Bs}{p i j:Nat}{f:Bool}(h1:aX a i p≠aF k)(h2:aX a p j≠aF k):ug k a loop p i j f=jG k (q9 k (q9 k f (aX a i p) loop).1 (q9 k f (aX a i p) loop).2 (aX a p j)).1 (aX a i j) (q9 k (q9 k f (aX a i p) loop).1 (q9 k f (aX a i p) loop).2 (aX a p j)).2:=aaa ⟨h1,h2⟩
def Ra{k:Int}{f:Bool}{x y:Bs}:(q9 k f x y).2.length<=802:=by
 unfold q9
 split
 ·exact rR k
 ·exact DW _ _ _
def Q7{k:Int}{f:Bool}{x y:Bs}(hx:x.length<=802)(hy:y.length<=802):(jG k f x y).2.length<=802:=by
 unfold jG
 split
 ·exact rR k
 ·exact yP hx hy
abbrev Pi(bc bb gc gb gp i p j n cc cb cp:Nat)(V P1 P2:ByteArray)(w:World):Prop:=
 w.cell? ⟨bc,i,none⟩=some (.slice (some ⟨gc,0,none⟩) n cc)/\w.cell? ⟨bb,i,none⟩=some (.slice (some ⟨gb,0,none⟩) n cb)/\w.cell? ⟨bb,p,none⟩=some (.slice (some ⟨gp,0,none⟩) n cp) ∧
 w.cell? ⟨gb,j,none⟩=some (.string V)/\w.cell? ⟨gb,p,none⟩=some (.string P1)/\w.cell? ⟨gp,j,none⟩=some (.string P2)
def Pi.upd{bc bb gc gb gp i p j n cc cb cp sb:Nat}{V P1 P2:ByteArray}{w w':World}(h:Pi bc bb gc gb gp i p j n cc cb cp V P1 P2 w)(hu:df sb w w')(h1:bc≠sb)(h2:bb≠sb)(h3:gb≠sb)(h4:gp≠sb):Pi bc bb gc gb gp i p j n cc cb cp V P1 P2 w':=by
 obtain⟨a1,a2,a3,a4,a5,a6⟩:=h;exact⟨(cellS (p:=⟨bc,i,none⟩) (hu.same bc (ax a1) h1)).trans a1,(cellS (p:=⟨bb,i,none⟩) (hu.same bb (ax a2) h2)).trans a2,(cellS (p:=⟨bb,p,none⟩) (hu.same bb (ax a3) h2)).trans a3,
  (cellS (p:=⟨gb,j,none⟩) (hu.same gb (ax a4) h3)).trans a4,(cellS (p:=⟨gb,p,none⟩) (hu.same gb (ax a5) h3)).trans a5,(cellS (p:=⟨gp,j,none⟩) (hu.same gp (ax a6) h4)).trans a6⟩
structure lc (W:World) (sb:Nat) (k:Int) where
 w:World
 u:df sb W w
 s:dI w sb k false
def lc.cell{W:World}{sb:Nat}{k:Int}{p:Addr}{v:Value}(h:W.cell? p=some v)(hp:p.block<W.heap.size)(hne:p.block≠sb)(z:lc W sb k):z.w.cell? p=some v:=(cellS (p:=p) (z.u.same p.block hp hne)).trans h
def OM.upd{w wr w':World}{sb n:Nat}{k:Int}{bb:Nat}{rb:List (Nat×Nat)}{b:ak}(h:OM w wr sb n k bb rb b)(hsb:sb<w.heap.size)(hu:df sb wr w')(hs:dI w' sb k false):OM w w' sb n k bb rb b:=
 ⟨h.u.trans hu,hs,h.m.upd hu hsb h.lo.1 h.lo.2,h.lo⟩
def OM.below{w wr w':World}{sb n:Nat}{k:Int}{bb:Nat}{rb:List (Nat×Nat)}{b:ak}(h:OM w wr sb n k bb rb b)(hb:Below wr wr w'):OM w w' sb n k bb rb b:=
 ⟨h.u.step hb,h.s.below hb,h.m.below hb,h.lo⟩
def OM.other{w wr:World}{sb n B:Nat}{k:Int}{bb:Nat}{rb:List (Nat×Nat)}{b:ak}(h:OM w wr sb n k bb rb b)(hsb:sb<w.heap.size)(hB:w.heap.size<=B)(h1:bb<B)(h2:∀r∈rb,r.1<B){p:Addr}(hp:B<=p.block)(v:Value):OM w (wr.setCell p v) sb n k bb rb b:=
 ⟨h.u.newset (aaB hB hp) v,(aa2 wr p v sb (by omega)).trans h.s,h.m.keep (aa2 wr p v bb (by omega)) (fun r hr=>aa2 wr p v r.1 (by have:=h2 r hr;omega)),h.lo⟩
def BL{n:Nat}{a b:ak}(ha:a.length=n)(hb:b.length=n)(h:∀i,i<n->b[i]? = a[i]?):b=a:=by
 apply adC;intro i;rcases aaz i n with h1|h1
 ·exact h i h1
 ·rw[aa4 (by omega),aa4 (by omega)]
end Go.Proofs.YtppnecgeboonbaaGreatDoor
