/- Walks. -/
import Derived.Test.YtppnecgeboonbaaGreatDoorZ35
namespace Go.Proofs.YtppnecgeboonbaaGreatDoor
set_option maxRecDepth 100000
set_option linter.all false
set_option maxHeartbeats 16000000
open Go Go.RowKit Go.Maps
def GY{t fs:List Bs}{m:aQ}(hm:bM m=true)(hfs:fs=fG t m.states []){q:Nat}(hq:q<m.states.length){M:Bs}(hg:OY fs M){l:List aR}(hl:∀p∈l,(0<=p.1/\p.1<m.states.length)/\OY fs p.2) :
  (∀p∈(iO t fs M m.states[q].arcs l []).2,(0<=p.1/\p.1<m.states.length)/\OY fs p.2)/\(iO t fs M m.states[q].arcs l []).1.length<=30000/\(iO t fs M m.states[q].arcs l []).2.length<=l.length+30000/\l.length<=(iO t fs M m.states[q].arcs l []).2.length:=by
 have hst:=kV.1 hm;have WU:=pg.1 (hst.2.2.2.1 _ (aag hq));have WE:m.states[q].arcs.length<=30000:=by
  have h1:=sW hq;have h2:=PS m.states (q+1);have h3:=hst.2.2.2.2;omega
 have X3:=xN t m.states [] abq;rw[<-hfs]at X3;rw[vC];have hxl:=Ei t fs M m.states[q].arcs;have hlen:=xM t (fU t fs M m.states[q].arcs) l [];simp only[abG,aaP]at hlen;refine⟨fun p hp=>?_,by omega,by omega,hlen.2.2.1⟩;rcases hlen.2.2.2 p hp with hp|⟨x,hx,rfl⟩
 ·exact hl p hp
 ·have hxm:=Ej hx
  exact⟨(mh.1 (WU.2 _ hxm.1)).2.2.1,Be X3.1 hg (fun f hf=>X3.2.2 _ (aag hq) _ hxm.1 f hf) hxm.2⟩
def G5{m:aQ}{t fs:List Bs}{n i:Nat}{l:List aR}{out:List bI}{c:Nat}(hi:i<l.length){q:Nat}(hq:q<m.states.length)(hp:l[i].1=(q:Int)) :
  lC m t fs (n+1) i l out c=if 3000<(iO t fs l[i].2 m.states[q].arcs l []).2.length\/30000<c+(iO t fs l[i].2 m.states[q].arcs l []).1.length then none
   else lC m t fs n (i+1) (iO t fs l[i].2 m.states[q].arcs l []).2 (out++[⟨m.states[q].fin,(iO t fs l[i].2 m.states[q].arcs l []).1⟩]) (c+(iO t fs l[i].2 m.states[q].arcs l []).1.length):=by
 have hs:wL m l[i].1=m.states[q]:=by
  unfold wL;rw[hp,aaf,abT,aak hq];rfl
 conv=>lhs;unfold lC
 rw[afd hi,hs]
def GZ{m:aQ}{t fs:List Bs}{n i:Nat}{l:List aR}{out:List bI}{c:Nat}(hi:¬ i<l.length):lC m t fs (n+1) i l out c=some out:=by
 unfold lC;rw[aek hi]
structure EO (t fs:List Bs) (m:aQ) (R:Option (List bI)) (W0 W:World) (A:Option Addr) (c b2 b4 b6 X:Nat) (D:dH) (Af:Option Addr) (cf:Nat) (i cN:Nat) (ds:List Nat) (l:List aR) (pv:Value) (os:List (bI×Value)) (sv:Value):Prop where
 go:R=lC m t fs (3001-i) i l (os.map Prod.fst) cN
 il:i<=l.length
 ll:l.length<=3000
 cl:cN<=30000
 pl:∀p∈l,(0<=p.1/\p.1<m.states.length)/\OY fs p.2
 on:os.length=i
 o:gz t fs m W0 W A c b2 b4 b6 X D Af cf pv l sv os ds
def gz.wipe{t fs:List Bs}{m:aQ}{W0 W:World}{A:Option Addr}{c b2 b4 b6 X:Nat}{D:dH}{Af:Option Addr}{cf:Nat}{pv:Value}{l:List aR}{sv:Value}{os:List (bI×Value)}{ds:List Nat}(h:gz t fs m W0 W A c b2 b4 b6 X D Af cf pv l sv os ds) :
  Below W0 W0 ((((W.setCell ⟨b4,0,none⟩ (.int .i64 0)).setCell ⟨b4,1,none⟩ (.int .i64 0)).setCell ⟨b4,2,none⟩ (.string ⟨#[]⟩)).setCell ⟨b4,3,none⟩ (.slice none 0 0)) ∧
  ((((W.setCell ⟨b4,0,none⟩ (.int .i64 0)).setCell ⟨b4,1,none⟩ (.int .i64 0)).setCell ⟨b4,2,none⟩ (.string ⟨#[]⟩)).setCell ⟨b4,3,none⟩ (.slice none 0 0)).heap[b4]? = some (.cells #[.int .i64 0,.int .i64 0,.string ⟨#[]⟩,.slice none 0 0] 30 (0,0)) ∧
  ∀d∈ds,((((W.setCell ⟨b4,0,none⟩ (.int .i64 0)).setCell ⟨b4,1,none⟩ (.int .i64 0)).setCell ⟨b4,2,none⟩ (.string ⟨#[]⟩)).setCell ⟨b4,3,none⟩ (.slice none 0 0)).heap[d]? = some (.deferred (some []))/\W0.heap.size<=d:=by
 have hC:aB (fun b=>b=b4) W ((((W.setCell ⟨b4,0,none⟩ (.int .i64 0)).setCell ⟨b4,1,none⟩ (.int .i64 0)).setCell ⟨b4,2,none⟩ (.string ⟨#[]⟩)).setCell ⟨b4,3,none⟩ (.slice none 0 0)):=(((dP W b4 0 _).trans (dP _ b4 1 _) fun b _ e=>e).trans (dP _ b4 2 _) fun b _ e=>e).trans (dP _ b4 3 _) fun b _ e=>e
 refine⟨lq h.bl hC (Pe _) (fun b hb e=>by have:=h.lo.2.2;omega),?_,fun d hd=>?_⟩
 ·exact dO (dO (dO (dO h.c4 0 (.int .i64 0) rfl) 1 (.int .i64 0) rfl) 2 (.string ⟨#[]⟩) rfl) 3 (.slice none 0 0) rfl
 ·have h1:=h.fix.now.dd d hd
  refine⟨(hC.block d (lt_of_block h1) (fun e=>?_)).trans h1,(h.dl d hd).1⟩;have h2:=h.c4;rw[e]at h1;rw[h1]at h2
  cases h2
def M4:(Tryz.prog.info? 75).map (fun i=>(i.zero,i.size,i.bytes))=some (some (.agg #[.string ⟨#[]⟩,.slice none 0 0]),2,40):=by kernel_rfl
def IW(t fs:List Bs)(m:aQ)(R:Option (List bI))(W0 W1:World)(bs ofs c b2 b4 b6 X:Nat)(D:dH)(Af:Option Addr)(cf:Nat)(pv0:Value)(l0:List aR)
  (hT:fD W0) (hS:dY W0 (some ⟨bs,ofs,none⟩) m.states) (hm:bM m=true) (ht:t.length<=500) (hfs:fs=fG t m.states [])
  (hA:D.A=some ⟨bs,ofs,none⟩) (hDn:D.n=m.states.length)
  (hR:R=lC m t fs 3001 0 l0 [] 0) (hl0:∀p∈l0,(0<=p.1/\p.1<m.states.length)/\OY fs p.2) (hll:l0.length<=3000) (hO0:gz t fs m W0 W1 (some ⟨bs,ofs,none⟩) c b2 b4 b6 X D Af cf pv0 l0 (.slice none 0 0) [] [])
  (y0 y1 y3 y5 y7 y8 y9 y10 y11 y12 y13 y16 y17 y18 y19 y20 y21 y22 y23 y24 y25 y26 y27 y28 y29 y30 y31 y32 y33 y34 y35 y36 y37 y38 y39 y40 y41 y42 y43 y44 y45 y46 y47 y48 y49 y50 y51 y52 y53 y54 y55 y56 y57 y58 y59 y60 y61 y62 y63 y64 y65 y66 y67 y68 y69 y70 y71 y72 y73 y74 y75 y76 y77 y78 y79 y80 y81 y82 y83 y84 y85 y86 y87 y88 y89 y90 y91 y92 y93 y94 y95 y96 y97 y98 y99 y100 y101 y102 y103 y104 y105 y106 y107 y108 y109 y110 y111 y112 y113 y114 y115 y116 y117 y118 y119 y120 y121 y122 y123 y124 y125 y126 y127 y128 y129 y130 y131 y132 y133 y134 y135 y136 y137 y138 y139 y140 y141 y142 y143 y144 y145 y146 y147 y148 y149 y150 y151 y152 y153 y154 y155 y156 y157 y158 y159 y160 y161 y162 y163 y164 y165 y166 y167 y168 y169 y170 y171 y172 y173 y174 y175:Value) (Q:Exit->Act->World->Prop)
  (hOk:∀(i cN:Nat) (ds:List Nat) (l:List aR) (pv:Value) (os:List (bI×Value)) (sv:Value) (u16 u94 u95 u96 u97 u98 u99 u100 u101 u102 u103 u104 u105 u106 u107 u108 u109 u110 u111 u112 u113 u114 u115 u116 u117 u118 u119 u120 u121 u122 u123 u124 u125 u153 u154 u155 u156 u157 u158 u159 u160 u161 u162 u163 u164 u165 u166 u167 u168 u169 u170 u171 u172 u173:Value) (W':World),R=some (os.map Prod.fst)->gz t fs m W0 W' (some ⟨bs,ofs,none⟩) c b2 b4 b6 X D Af cf pv l sv os ds->Q (.exit 4) { tmps:=#[y0,y1,.pointer (some ⟨b2,0,none⟩),y3,.pointer (some ⟨b4,0,none⟩),y5,.pointer (some ⟨b6,0,none⟩),y7,y8,y9,y10,y11,y12,y13,.int .i64 (cN:Int),.int .i64 (i:Int),u16,y17,y18,y19,y20,y21,y22,y23,y24,y25,y26,y27,y28,y29,y30,y31,y32,y33,y34,y35,y36,y37,y38,y39,y40,y41,y42,y43,y44,y45,y46,y47,y48,y49,y50,y51,y52,y53,y54,y55,y56,y57,y58,y59,y60,y61,y62,y63,y64,y65,y66,y67,y68,y69,y70,y71,y72,y73,y74,y75,y76,y77,y78,y79,y80,y81,y82,y83,y84,y85,y86,y87,y88,y89,y90,y91,y92,y93,u94,u95,u96,u97,u98,u99,u100,u101,u102,u103,u104,u105,u106,u107,u108,u109,u110,u111,u112,u113,u114,u115,u116,u117,u118,u119,u120,u121,u122,u123,u124,u125,y126,y127,y128,y129,y130,y131,y132,y133,y134,y135,y136,y137,y138,y139,y140,y141,y142,y143,y144,y145,y146,y147,y148,y149,y150,y151,y152,u153,u154,u155,u156,u157,u158,u159,u160,u161,u162,u163,u164,u165,u166,u167,u168,u169,u170,u171,u172,u173,y174,y175],defers:=qi ds } W')
  (XT:∀(ds:List Nat) (v14 v15 u16 u94 u95 u96 u97 u98 u99 u100 u101 u102 u103 u104 u105 u106 u107 u108 u109 u110 u111 u112 u113 u114 u115 u116 u117 u118 u119 u120 u121 u122 u123 u124 u125 u153 u154 u155 u156 u157 u158 u159 u160 u161 u162 u163 u164 u165 u166 u167 u168 u169 u170 u171 u172 u173 u174:Value) (W':World),R=none->Below W0 W0 W'->W'.heap[b4]? = some (.cells #[.int .i64 0,.int .i64 0,.string ⟨#[]⟩,.slice none 0 0] 30 (0,0))->(∀d∈ds,W'.heap[d]? = some (.deferred (some []))/\W0.heap.size<=d)->ds.Nodup ->
   Q .ret { tmps:=#[y0,y1,.pointer (some ⟨b2,0,none⟩),y3,.pointer (some ⟨b4,0,none⟩),.int .i64 2,.pointer (some ⟨b6,0,none⟩),y7,y8,y9,y10,y11,y12,y13,v14,v15,u16,y17,y18,y19,y20,y21,y22,y23,y24,y25,y26,y27,y28,y29,y30,y31,y32,y33,y34,y35,y36,y37,y38,y39,y40,y41,y42,y43,y44,y45,y46,y47,y48,y49,y50,y51,y52,y53,y54,y55,y56,y57,y58,y59,y60,y61,y62,y63,y64,y65,y66,y67,y68,y69,y70,y71,y72,y73,y74,y75,y76,y77,y78,y79,y80,y81,y82,y83,y84,y85,y86,y87,y88,y89,y90,y91,y92,y93,u94,u95,u96,u97,u98,u99,u100,u101,u102,u103,u104,u105,u106,u107,u108,u109,u110,u111,u112,u113,u114,u115,u116,u117,u118,u119,u120,u121,u122,u123,u124,u125,y126,y127,y128,y129,y130,y131,y132,y133,y134,y135,y136,y137,y138,y139,y140,y141,y142,y143,y144,y145,y146,y147,y148,y149,y150,y151,y152,u153,u154,u155,u156,u157,u158,u159,u160,u161,u162,u163,u164,u165,u166,u167,u168,u169,u170,u171,u172,u173,u174,y175],defers:=qi ds } W') :
  (cutAt [1,1,1,1,1,1,1,1,0,1,3] (tu Tryz.f13)).wp Tryz.prog Q { tmps:=#[y0,y1,.pointer (some ⟨b2,0,none⟩),y3,.pointer (some ⟨b4,0,none⟩),y5,.pointer (some ⟨b6,0,none⟩),y7,y8,y9,y10,y11,y12,y13,.int .i64 0,.int .i64 0,y16,y17,y18,y19,y20,y21,y22,y23,y24,y25,y26,y27,y28,y29,y30,y31,y32,y33,y34,y35,y36,y37,y38,y39,y40,y41,y42,y43,y44,y45,y46,y47,y48,y49,y50,y51,y52,y53,y54,y55,y56,y57,y58,y59,y60,y61,y62,y63,y64,y65,y66,y67,y68,y69,y70,y71,y72,y73,y74,y75,y76,y77,y78,y79,y80,y81,y82,y83,y84,y85,y86,y87,y88,y89,y90,y91,y92,y93,y94,y95,y96,y97,y98,y99,y100,y101,y102,y103,y104,y105,y106,y107,y108,y109,y110,y111,y112,y113,y114,y115,y116,y117,y118,y119,y120,y121,y122,y123,y124,y125,y126,y127,y128,y129,y130,y131,y132,y133,y134,y135,y136,y137,y138,y139,y140,y141,y142,y143,y144,y145,y146,y147,y148,y149,y150,y151,y152,y153,y154,y155,y156,y157,y158,y159,y160,y161,y162,y163,y164,y165,y166,y167,y168,y169,y170,y171,y172,y173,y174,y175],defers:=[] } W1:=by
 conv=>enter [2];whnf
 have HS:=Pd hS;have Xe:=Pd hOk;have HLG:=Pd XT;have HR:=Pd hR;have Xd:=Pd hl0;have HO0:=Pd hO0;obtain⟨is,si,sz0,sz1,sz2⟩:=abm M4;clear hS hOk XT hR hl0 hO0
 dsimp only
 refine wp_loop (fun a' w'=>∃(i cN:Nat) (ds:List Nat) (l:List aR) (pv:Value) (os:List (bI×Value)) (sv:Value) (u16 u94 u95 u96 u97 u98 u99 u100 u101 u102 u103 u104 u105 u106 u107 u108 u109 u110 u111 u112 u113 u114 u115 u116 u117 u118 u119 u120 u121 u122 u123 u124 u125 u153 u154 u155 u156 u157 u158 u159 u160 u161 u162 u163 u164 u165 u166 u167 u168 u169 u170 u171 u172 u173:Value),EO t fs m R W0 w' (some ⟨bs,ofs,none⟩) c b2 b4 b6 X D Af cf i cN ds l pv os sv/\a'={ tmps:=#[y0,y1,.pointer (some ⟨b2,0,none⟩),y3,.pointer (some ⟨b4,0,none⟩),y5,.pointer (some ⟨b6,0,none⟩),y7,y8,y9,y10,y11,y12,y13,.int .i64 (cN:Int),.int .i64 (i:Int),u16,y17,y18,y19,y20,y21,y22,y23,y24,y25,y26,y27,y28,y29,y30,y31,y32,y33,y34,y35,y36,y37,y38,y39,y40,y41,y42,y43,y44,y45,y46,y47,y48,y49,y50,y51,y52,y53,y54,y55,y56,y57,y58,y59,y60,y61,y62,y63,y64,y65,y66,y67,y68,y69,y70,y71,y72,y73,y74,y75,y76,y77,y78,y79,y80,y81,y82,y83,y84,y85,y86,y87,y88,y89,y90,y91,y92,y93,u94,u95,u96,u97,u98,u99,u100,u101,u102,u103,u104,u105,u106,u107,u108,u109,u110,u111,u112,u113,u114,u115,u116,u117,u118,u119,u120,u121,u122,u123,u124,u125,y126,y127,y128,y129,y130,y131,y132,y133,y134,y135,y136,y137,y138,y139,y140,y141,y142,y143,y144,y145,y146,y147,y148,y149,y150,y151,y152,u153,u154,u155,u156,u157,u158,u159,u160,u161,u162,u163,u164,u165,u166,u167,u168,u169,u170,u171,u172,u173,y174,y175],defers:=qi ds })
  (fun a' w'=>3001-(intOf (a'.tmps.getD 15 undef)).toNat) ?_ ?_
 ·exact⟨0,0,[],l0,pv0,[],.slice none 0 0,y16,y94,y95,y96,y97,y98,y99,y100,y101,y102,y103,y104,y105,y106,y107,y108,y109,y110,y111,y112,y113,y114,y115,y116,y117,y118,y119,y120,y121,y122,y123,y124,y125,y153,y154,y155,y156,y157,y158,y159,y160,y161,y162,y163,y164,y165,y166,y167,y168,y169,y170,y171,y172,y173,⟨by rw[HR.out];rfl,aaS _,hll,aaS _,Xd.out,rfl,HO0.out⟩,rfl⟩
 ·intro a w hinv
  obtain⟨i,cN,ds,l,pv,os,sv,u16,u94,u95,u96,u97,u98,u99,u100,u101,u102,u103,u104,u105,u106,u107,u108,u109,u110,u111,u112,u113,u114,u115,u116,u117,u118,u119,u120,u121,u122,u123,u124,u125,u153,u154,u155,u156,u157,u158,u159,u160,u161,u162,u163,u164,u165,u166,u167,u168,u169,u170,u171,u172,u173,hL,rfl⟩:=hinv;obtain⟨hgo,hil,hll,hcl,hpl,hon,hO⟩:=hL;have k6:w.cell? ⟨b6,0,none⟩=some (.pointer (some ⟨X,0,none⟩)):=by rw[aap w b6 0 _ _ _ hO.fix.now.c6];rfl
  by_cases hi:i<l.length
  ·obtain⟨gp,cp,rfl,YP,hcell⟩:=vV hO.el.own (by omega)
   have k7:w.cell? ⟨X,7,none⟩=some (.slice (some ⟨gp,0,none⟩) l.length cp):=hO.el.cell 7 _ rfl;obtain⟨c0,c1⟩:=C9 l i hi;obtain⟨⟨hq0,hq1⟩,hgd⟩:=hpl _ (aag hi);obtain⟨q,hq⟩:∃q:Nat,l[i].1=(q:Int):=⟨l[i].1.toNat,by omega⟩;have hqn:q<m.states.length:=by omega
   have hnext:=G5 (m:=m) (t:=t) (fs:=fs) (n:=3000-i) (out:=os.map Prod.fst) (c:=cN) hi hqn hq;rw[show 3000-i+1=3001-i by omega,<-hgo]at hnext;obtain⟨M,hM⟩:∃M:ByteArray,l[i].2=M.data.toList:=⟨⟨l[i].2.toArray⟩,rfl⟩;rw[hM]at hnext hgd;have k8:=hcell _ _ c0;have k9:=hcell _ _ c1;rw[hq]at k8;rw[hM,eX]at k9;have aCA:=GY hm hfs hqn hgd hpl;obtain⟨bq,oq,hAq,hbq,hfin,-⟩:=HS.out q hqn;simp only[aao,adP]at hAq;obtain⟨rfl,rfl,-⟩:=hAq;obtain⟨Fi,hFi⟩:∃Z:ByteArray,m.states[q].fin=Z.data.toList:=⟨⟨m.states[q].fin.toArray⟩,rfl⟩;rw[hFi,eX]at hfin;have k10:=(hO.bl.cell (p:=⟨bs,ofs+q*2,none⟩) hbq).trans hfin;have k2:w.cell? ⟨b2,3,none⟩=some (.slice (some ⟨bs,ofs,none⟩) m.states.length c):=by rw[aap w b2 3 _ _ _ hO.fix.now.c2];rfl
   have i0:(0:Int)<=(i:Int):=(by omega);have i1:(i:Int)<(l.length:Int):=(by omega);have q0:(0:Int)<=(q:Int):=(by omega);have q1:(q:Int)<(m.states.length:Int):=by omega
   have mk:∀W',Below w w W'->(W'.cell? ⟨b2,3,none⟩=some (.slice (some ⟨bs,ofs,none⟩) m.states.length c)/\W'.cell? ⟨b6,0,none⟩=some (.pointer (some ⟨X,0,none⟩))/\W'.cell? ⟨X,7,none⟩=some (.slice (some ⟨gp,0,none⟩) l.length cp)/\W'.cell? ⟨gp,i*2,none⟩=some (.int .i64 (q:Int))/\W'.cell? ⟨gp,i*2+1,none⟩=some (.string M)/\W'.cell? ⟨bs,ofs+q*2,none⟩=some (.string Fi)):=fun W' hb=>
    ⟨(hb.cell (p:=⟨b2,3,none⟩) (ax k2)).trans k2,(hb.cell (p:=⟨b6,0,none⟩) (ax k6)).trans k6,(hb.cell (p:=⟨X,7,none⟩) (ax k7)).trans k7,(hb.cell (p:=⟨gp,i*2,none⟩) (ax k8)).trans k8,(hb.cell (p:=⟨gp,i*2+1,none⟩) (ax k9)).trans k9,(hb.cell (p:=⟨bs,ofs+q*2,none⟩) (ax k10)).trans k10⟩
   have HN:=Pd hnext;have HPL:=Pd hpl;have HPS:=Pd aCA;have HGD:=Pd hgd;have HO:=Pd hO;have HFI:=Pd hFi;have HON:=Pd hon;have HC:=Pd hcell;clear hgo hnext hpl aCA hgd hO hFi hq hM c0 c1 hfin hq0 hq1 hon hcell;go_upto_region 23 with(fail)
   go_cut [16] from 103 to 116 (fun p wx=>∃b16,p=.pointer (some ⟨b16,0,none⟩)/\w.heap.size<=b16/\wx.heap[b16]? = some (.cells #[.string Fi,.slice none 0 0] 75 (0,0))/\Below w w wx)
   case first=>
    go_region_held3 (fun W'=>W'.cell? ⟨b2,3,none⟩=some (.slice (some ⟨bs,ofs,none⟩) m.states.length c)/\W'.cell? ⟨b6,0,none⟩=some (.pointer (some ⟨X,0,none⟩))/\W'.cell? ⟨X,7,none⟩=some (.slice (some ⟨gp,0,none⟩) l.length cp)/\W'.cell? ⟨gp,i*2,none⟩=some (.int .i64 (q:Int))/\W'.cell? ⟨gp,i*2+1,none⟩=some (.string M)/\W'.cell? ⟨bs,ofs+q*2,none⟩=some (.string Fi))
     (first|assumption|exact mk _ (by repeat' (first|exact aac _ _|refine Below.drew ?_|refine aff ?_ (by simp) _|refine Below.setCell ?_ (by simp) _)))
     (fail)
    all_goals
     go_wp2_with fail
     go_meet
     refine⟨_,rfl,(by first|exact Pe _|simp|omega),?_,?_⟩
     ·exact aaq w _
     ·repeat' (first|exact aac _ _|refine Below.drew ?_|refine aff ?_ (by simp) _|refine Below.setCell ?_ (by simp) _)
   case rest=>
    obtain⟨b16,rfl,aAa,h16,hbc⟩:=hcut;obtain⟨-,e6,e7,e8,e9,-⟩:=mk _ hbc;have WZ:=Pd (HO.out.below hbc);have HBC:=Pd hbc;have H16:=Pd h16;clear mk k2 k6 k7 k8 k9 k10 hbc h16;go_upto_region 24 with(fail)
    go_still_tail 8,(by kernel_rfl)
    change wpList _ _ _ _ _ wc.drew;have pS:=Nv X (q:Int) M wc.drew;have hB2:Below wc wc (((wc.alloc (.cells #[.pointer (some ⟨X,0,none⟩)] 64)).alloc (.cells #[.int .i64 (q:Int),.string M] 82)).drew):=(((aac _ _).alloc (Pe _) _).alloc (by simp) _).drew;have hbX:=aaq wc (.cells #[.pointer (some ⟨X,0,none⟩)] 64);have hbP:(((wc.alloc (.cells #[.pointer (some ⟨X,0,none⟩)] 64)).alloc (.cells #[.int .i64 (q:Int),.string M] 82)).drew).heap[wc.heap.size+1]? = some (.cells #[.int .i64 (q:Int),.string M] 82 (0,0)):=by
     have:=aaq (wc.alloc (.cells #[.pointer (some ⟨X,0,none⟩)] 64)) (.cells #[.int .i64 (q:Int),.string M] 82);rwa[adt]at this
    have aCb:(((wc.alloc (.cells #[.pointer (some ⟨X,0,none⟩)] 64)).alloc (.cells #[.int .i64 (q:Int),.string M] 82)).drew).heap[wc.heap.size]? = some (.cells #[.pointer (some ⟨X,0,none⟩)] 64 (0,0)):=(heap_alloc_old (wc.alloc (.cells #[.pointer (some ⟨X,0,none⟩)] 64)) (.cells #[.int .i64 (q:Int),.string M] 82) (r:=wc.heap.size) (by simp)).trans hbX;have HB2:=Pd hB2;have HBX:=Pd aCb;have HBP:=Pd hbP;clear hB2 hbX hbP aCb;go_wp2_with (first|(go_at_call 45;refine pS.mono ?_;rintro e w5 ⟨rfl,rfl⟩));obtain⟨Wb,hWb⟩:∃Wb,Wb=(((wc.alloc (.cells #[.pointer (some ⟨X,0,none⟩)] 64)).alloc (.cells #[.int .i64 (q:Int),.string M] 82)).drew):=⟨_,rfl⟩;rw[<-hWb]at HB2 HBX HBP ⊢;clear hWb pS e6 e7 e8 e9;have hbw:Below w w Wb:=ae HBC.out HB2.out;have hwc:=HBC.out.size;refine KO t fs m W0 w Wb bs ofs c b2 b4 b6 X D Af cf _ l sv os ds (qi ds) b16 wc.heap.size (wc.heap.size+1) q M (.string Fi) hT HS.out hm ht hfs hA hDn HO.out hbw ((HB2.out.block b16 (lt_of_block H16.out)).trans H16.out) HBX.out HBP.out ⟨aAa,hwc,by omega⟩ hqn HGD.out HPL.out hll _ _ _ _ _ _ _ _ _ _ _ _ _ _ _ _ _ _ _ _ _ _ _ _ _ _ _ _ _ _ _ _ _ _ _ _ _ _ _ _ _ _ _ _ _ _ _ _ _ _ _ _ _ _ _ _ _ _ _ _ _ _ _ _ _ _ _ _ _ _ _ _ _ _ _ _ _ _ _ _ _ _ _ _ _ _ _ _ _ _ _ _ _ _ _ _ _ _ _ _ _ _ _ _ _ _ _ _ _ _ _ _ _ _ _ _ _ _ _ _ _ _ _ _ _ _ _ _ _ _ _ _ _ _ _ _ _ _ _ _ _ _ _ _ _ _ _ _ _ _ _ _ _ _ _ _ _ _ _ _ _ _ _ _ _ _ _ _ _ _ _ _ _ _ ?_;intro W' pv' av' hO2 hown hag Yi;have hHN:=HN.out;have Wz:=HPS.out;clear HN HPS HB2 HBX HBP HBC HO WZ H16 hbw hwc aAa;generalize iO t fs M.data.toList m.states[q].arcs l []=r at*;obtain⟨r1,r2⟩:=r;simp only at hO2 hown hag hHN Wz;obtain⟨Aa,ca,rfl⟩:=oZ hown;obtain⟨As,cs,rfl⟩:=oZ hO2.own;obtain⟨Ap,cp2,rfl⟩:=oZ hO2.el.own;have k16:W'.cell? ⟨b16,0,none⟩=some (.string Fi):=by rw[aap W' b16 0 _ _ _ Yi];rfl
    have k17:W'.cell? ⟨b16,1,none⟩=some (.slice Aa r1.length ca):=by rw[aap W' b16 1 _ _ _ Yi];rfl
    have k4:W'.cell? ⟨b4,3,none⟩=some (.slice As os.length cs):=by rw[aap W' b4 3 _ _ _ hO2.c4];rfl
    have hr1:=Wz.2.1;have hr2:=Wz.2.2.1;have hosl:os.length<=3000:=by have:=HON.out;omega
    have hown5:=eP hO2.own (p9 (fun _=>False) W' (.cells #[.string Fi,.slice Aa r1.length ca] 75)) (fun _ _ e=>e);have hnews:∀j u,(#[Value.string Fi,.slice Aa r1.length ca]).toList[j]? = some u->(W'.alloc (.cells #[.string Fi,.slice Aa r1.length ca] 75)).cell? ((⟨W'.heap.size,0,none⟩:Addr).add j)=some u:=abK (aaq W' _);have h63:os.length+1<=maxLen:=by unfold maxLen;omega
    have hby:(os.length+1)*40<=140737488355328:=by omega
    have U3:Hid (∀w5,(W'.alloc (.cells #[.string Fi,.slice Aa r1.length ca] 75)).grownBy w5 (Value.slice As os.length cs).ownBlock->w5.frozen? ⟨b4,3,none⟩=false/\w5.cell? ⟨b4,3,none⟩=some (.slice As os.length cs)):=by
     intro w5 hg;have h45:w5.heap[b4]? = W'.heap[b4]?:=(hg.block b4 (by have:=lt_of_block hO2.c4;simp;omega) (fun e=>(hO2.sb b4 e.symm).2.2.2 rfl)).trans ((p9 (fun _=>False) W' (.cells #[.string Fi,.slice Aa r1.length ca] 75)).block b4 (lt_of_block hO2.c4) (fun e=>e));refine⟨?_,(lm h45).trans k4⟩;unfold World.frozen?;rw[h45,hO2.c4];simp
    have ZQ:=Pd hO2;have HOW:=Pd hown;have HAG:=Pd hag;have HHN:=Pd hHN;have HHP:=Pd Wz;clear hO2 hown hag hHN Wz Yi;go_upto_region 30 with(first|(at_builtin;refine ac6 _ rfl (.tmp 159) (.tmp 161) 28 rfl 0 75 is _ 2 40 Tryz.underlying28 si sz0 sz1 sz2 rfl (by decide) _ os.length (kH os) rfl hown5 ⟨W'.heap.size,0,none⟩ 1 1 [.string Fi,.slice Aa r1.length ca] rfl rfl hnews (by simp[Value.oneCell']) (by decide) h63 hby (aaS _) (W'.heap.size+1) (by simp) ?_;intro g2 cap w5 hown6 hgr5 TW Ul;obtain⟨f4,k45⟩:=U3.out w5 hgr5))
    have hst:kH os++[S (⟨m.states[q].fin,r1⟩:bI).fin,.slice Aa r1.length ca]=kH os++(#[Value.string Fi,.slice Aa r1.length ca]).toList:=by
     show kH os++[S m.states[q].fin,_]=_;rw[HFI.out,eX]
    have hOn:=ZQ.out.push (st:=⟨m.states[q].fin,r1⟩) HOW.out HAG.out (by rw[hst];exact hown6) hgr5 (TW.imp (fun e=>e) (fun e=>by simpa using e));have Ux:=Pd hOn;clear hst hown6 hgr5 TW Ul f4 k45 hOn hown5 hnews U3 k16 k17 k4;generalize w5.setCell ⟨b4,3,none⟩ (.slice (some ⟨g2,0,none⟩) (os.length+1) cap)=W6 at*;have n6:W6.cell? ⟨b6,0,none⟩=some (.pointer (some ⟨X,0,none⟩)):=by rw[aap W6 b6 0 _ _ _ Ux.out.fix.now.c6];rfl
    have n7:W6.cell? ⟨X,7,none⟩=some (.slice Ap r2.length cp2):=Ux.out.el.cell 7 _ rfl;have sumc:((cN+r1.length:Nat):Int)=(cN:Int)+(r1.length:Int):=by omega
    by_cases hbad:3000<r2.length\/30000<cN+r1.length
    ·have HX:Hid (R=none):=HHN.out.trans (aaa hbad)
     have z0:=aap W6 b4 0 _ _ _ Ux.out.c4;have z1:=aap W6 b4 1 _ _ _ Ux.out.c4;have z2:=aap W6 b4 2 _ _ _ Ux.out.c4;have z3:=aap W6 b4 3 _ _ _ Ux.out.c4;have hZ:=Ux.out.wipe;have hfr:∀o,W6.frozen? ⟨b4,o,none⟩=false:=fun o=>by unfold World.frozen?;rw[Ux.out.c4];simp
     have f0:=hfr 0;have f1:=hfr 1;have f2:=hfr 2;have f3:=hfr 3;by_cases hb1:3000<r2.length
     ·have d1:(3000:Int)<(r2.length:Int):=by omega
      clear hbad hfr;go_wp2_with fail;exact HLG.out (Wb.heap.size::ds) _ _ _ _ _ _ _ _ _ _ _ _ _ _ _ _ _ _ _ _ _ _ _ _ _ _ _ _ _ _ _ _ _ _ _ _ _ _ _ _ _ _ _ _ _ _ _ _ _ _ _ _ _ _ _ _ _ _ HX.out hZ.1 hZ.2.1 hZ.2.2 Ux.out.dn
     ·have d1:decide ((3000:Int)<(r2.length:Int))=false:=aai (by omega)
      have d2:(30000:Int)<(cN:Int)+(r1.length:Int):=(by omega);have d3:(r2.length:Int)<=3000:=(by omega);clear hbad hfr;go_wp2_with fail;exact HLG.out (Wb.heap.size::ds) _ _ _ _ _ _ _ _ _ _ _ _ _ _ _ _ _ _ _ _ _ _ _ _ _ _ _ _ _ _ _ _ _ _ _ _ _ _ _ _ _ _ _ _ _ _ _ _ _ _ _ _ _ _ _ _ _ _ HX.out hZ.1 hZ.2.1 hZ.2.2 Ux.out.dn
    ·have HX:Hid (R=lC m t fs (3000-i) (i+1) r2 (os.map Prod.fst++[⟨m.states[q].fin,r1⟩]) (cN+r1.length)):=HHN.out.trans (aab hbad)
     have b1:((r2.length:Int)<=3000):=(by omega);have b2':((cN:Int)+(r1.length:Int)<=30000):=(by omega);have d1:decide ((3000:Int)<(r2.length:Int))=false:=aai (by omega);have d2:decide ((30000:Int)<(cN:Int)+(r1.length:Int))=false:=aai (by omega);have hlr:=HHP.out.2.2.2;go_wp2_with fail;refine⟨?_,?measure⟩
     ·refine⟨i+1,cN+r1.length,Wb.heap.size::ds,r2,.slice Ap r2.length cp2,os++[(⟨m.states[q].fin,r1⟩,.slice Aa r1.length ca)],.slice (some ⟨g2,0,none⟩) (os.length+1) cap,?_⟩
      (repeat apply Exists.intro)
      refine⟨⟨?_,by omega,by omega,by omega,HHP.out.1,by simp[HON.out],Ux.out⟩,?eq⟩
      case eq=>rfl
      rw[HX.out,show 3001-(i+1)=3000-i by omega];simp
     ·simp[intOf]
      omega
  ·obtain rfl:i=l.length:=by omega
   obtain⟨Ap,cp,hpv⟩:=oZ hO.el.own;have k7:w.cell? ⟨X,7,none⟩=some (.slice Ap l.length cp):=hO.el.cell 7 _ (by rw[<-hpv];rfl);have HX:Hid (R=some (os.map Prod.fst)):=by
    rw[Hid,hgo,show 3001-l.length=3000-l.length+1 by omega];exact GZ (by omega)
   have HO:=Pd hO;clear hgo hpl hO hpv;go_wp2_with fail;exact Xe.out l.length cN ds l pv os sv _ _ _ _ _ _ _ _ _ _ _ _ _ _ _ _ _ _ _ _ _ _ _ _ _ _ _ _ _ _ _ _ _ _ _ _ _ _ _ _ _ _ _ _ _ _ _ _ _ _ _ _ _ _ _ HX.out HO.out
end Go.Proofs.YtppnecgeboonbaaGreatDoor
