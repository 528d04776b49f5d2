/- Steps of a proof; no condition beyond what each states. -/
import Derived.Test.YtppnakkaljbmbaaGreatDoorZX00
import Derived.Laws.EntriesVeiled
import Derived.Test.YtppnakkaljbmbaaGreatDoorZX08
set_option linter.unusedVariables false
set_option linter.unusedSimpArgs false
set_option maxRecDepth 100000
set_option maxHeartbeats 8000000
open List renaming length->kG
open Go.Proofs.YtppnakkaljbmbaaGreatDoor.Kit renaming Src->yZ,zAe->xE
open Go.RowKit
open Go.Proofs.Tryz
open Go.Value renaming int->qV,string->qW,slice->qX,pointer->qY,bool->qc
open Go.IntKind renaming i64->qj,u8->ql
open Go.Obj renaming cells->qm
open Go.Ending renaming returned->qp
open Option renaming some->qw,none->qx
open Go renaming World->qy,Value->qz,TypeId->yA,Addr->yB,Calls->yC
open Bool renaming true->yD,false->yE
open Decidable renaming decide->yF
open Go.Proofs.Tryz renaming prog->yG
open Go.RowKit renaming Hid->yH,Below->yI
open List renaming range->yK,replicate->yL
open Go.RowKit.Below renaming refl->yN
namespace Go.Proofs.YtppnakkaljbmbaaGreatDoor
namespace Wg
open Bt Zr Front
variable {w w':qy} {R G n k:Nat} {f:Nat->Nat}
theorem zF2 (w:qy) (n:Nat) (j:n<=1000000):(Instr.makeSlice 23 (qV qj (n:Int)) (qV qj (n:Int))).run yG w= .ok (qX (qw ⟨w.heap.size,0,qx⟩) n n) (w.alloc (qm (cellsOf n (fun _=>qV qj 0)) 3)):=by
 have b:(prog.info? 3).map (fun i=>(i.zero,i.size,i.bytes))=qw (qw (qV qj 0),1,8):=zf
 obtain⟨i,hi,d,a,c⟩:=qR0 b;have g:=run_makeSlice (P:=yG) w 23 3 i _ underlying23 hi d qj qj (n:Int) (n:Int) za za (by rw[a];omega) (by rw[c];omega) za;have e:madeCells (Value.int qj 0).cells ((n:Int).toNat*i.size)=cellsOf n (fun _=>qV qj 0):=by
  rw[a,Nat.mul_one];show(Array.range n).map _=_;refine zDm (fun k h=> ?_);show(#[Value.int qj 0]:Array qz)[k%1]! =_;rw[Nat.mod_one];rfl
 rw[e]at g;exact g
theorem StT.arr (h:StT w w' R) (b:zAm w G 3 n f) (c:G≠R):zAm w' G 3 n f:=
 b.keep (h.old G b.lt c (fun d f e=>by
  have a:=b;unfold zAm Arr at a;rw[a]at e;injection e with e
  injection e with _ e _
  exact absurd e z8))
theorem zTe {l:List Nat} (h:zAm w G 3 n f) (d:kG l<=n) (c:∀i,i<kG l->l[i]? =qw (f i)):yZ w (qw ⟨G,0,qx⟩) (l.map ival):=by
 intro j u a;rw[qP2]at a;rcases qP8 j (kG l) with b|b
 ·rw[c j b]at a;simp at a;subst a;exact⟨G,0,rfl,by rw[qQc];exact h.cell j za⟩
 ·rw[qQp b]at a;cases a
def zDj (w:qy) (G:Nat):Prop:=∃a f,w.heap[G]? =qw (qm a 3 f)
theorem qFw (h:zAm w G 3 n f):zDj w G:=⟨_,_,h⟩
theorem zDj.below (h:zDj w G) (c:yI k w w') (b:G<k):zDj w' G:=by
 obtain⟨a,f,e⟩:=h;exact⟨a,f,(c.block G b).trans e⟩
theorem Qu.other {c i:Nat} {a:Option yB} {l:List (Nat×Nat)} {b:Array qz} {t:yA} {f:Nat×Nat} (h:Qu w R a c l) (d:w.heap[G]? =qw (qm b t f)) (g:t≠TT) (e:R≠G) (v:qz):Qu (w.setCell ⟨G,i,qx⟩ v) R a c l:=
 ⟨(zAa e).trans h.blk,qRy h.own (zB1 w G i v) (.inr (zJt h.own d g))⟩
theorem zYk {X:Nat} {x:Nat×Nat} (h:Bx w X x):(loadVar 3 ⟨X,1,qx⟩).run yG w= .ok (qV qj (x.2:Int)) w:=by
 obtain⟨_,a,_,_⟩:=zAf h;exact Kit.zAg a zf zf
theorem zWr (h:zAm w G 3 n f) (a:k<n) (v:Nat):(storeVar 3 ⟨G,k,qx⟩ (qV qj (v:Int))).run yG w= .ok () (w.setCell ⟨G,k,qx⟩ (qV qj (v:Int)))/\zAm (w.setCell ⟨G,k,qx⟩ (qV qj (v:Int))) G 3 n (zAy f k v):=
 ⟨Kit.zDs (h.cell k a) (h.free k) zf rfl rfl,h.set k v rfl⟩
theorem zVe (ws:List Nat) (a:Option yB) (n c:Nat) (w:qy) (hn:kG ws=n) (h2:2<=n) (d7:n<=258) (hs:yZ w a (ws.map ival)) (d5:∀x∈ws,1<=x) (d6:ws.sum<=20000):
  yC yG 124 #[qX a n c] w fun e w'=>∃G,e=qp (qX (qw ⟨G,0,qx⟩) n n)/\w.heap.size<=G/\yZ w' (qw ⟨G,0,qx⟩) ((lens ws).map ival)/\zDj w' G/\yI w.heap.size w w':=by
 obtain⟨B,hB⟩:=zB w.heap.size;obtain⟨W,hW⟩:=zB (w.alloc (qm #[qX qx 0 0,QF] TQ));have zW:W.heap.size=B+1:=by rw[<-hW,zA,hB]
 have c7:yI B w W:=by rw[<-hW,<-hB];exact(yN _ _).alloc (qPq _) _
 have bk:Qu W B qx 0 []:=⟨by
  rw[<-hW,<-hB];show(w.heap.push _)[w.heap.size]? =_;simp,Kit.Own'.start _ _ _⟩
 obtain⟨br,bq,HS,HN,o,ce,ZW,d1⟩:=yX bk c7 hs hn d5 d6 zW hB;clear bk c7 hs hn d5 d6 zW;rw[hB];go_enter func124,ntmps124;go_wp2;clear hW hB;go_loopw [15] (fun iv wr=>∃(j c2:Nat) (a2:Option yB) (m:List (Nat×Nat)),j<=n/\iv=qV qj j/\yH (Qu wr B a2 c2 m)/\yH (m.Perm ((zAt 0 (ws.take j) []).map pr))/\yH (Hp lq (kG m) (at_ m))/\yH (yI B w wr)) (fun iv _=>n-(intOf iv).toNat)
 case atStart=>exact⟨0,0,qx,[],za,rfl,br,by rw[qTp];exact zH (qTt _),zH (fun k h1 h2=>by simp at h2),bq⟩
 case round=>
  clear br bq;obtain⟨j,c2,a2,m,hj,rfl,hq,hm,hp,hb⟩:=hrel;have S:kG m=j:=by
   rw[hm.out.length_eq,qQi];have:=(Inv.start (ws.take j) 0 0 [] Inv.nil (fun e h=>by cases h) (fun x hx=>o.out x (qUg hx))).2;rw[this,qQh,HN.out];simp;omega
  have ai:=zH S;clear S;by_cases ae:j<n
  ·have aa:j<kG ws:=by rw[HN.out];exact ae
   obtain⟨x,hx⟩:=zB (ws[j]);obtain⟨b,off,rfl,e0⟩:=(HS.out.below (w':=wr) (by rw[d1.out];exact hb.out)) j (ival x) (by rw[qP2,qPu aa,hx];rfl);have HC:=zH (zQq B a2 c2 m (x,j) wr hq.out (by rw[ai.out];omega) hp.out);unfold tv at HC;have ck:=yP (ws.take (j+1)=ws.take j++[x]) (by rw[qQo aa,hx]);have cw:=zH aa;clear hx aa;go_wp2_with fail;(with_reducible refine HC.out.mono ?_);rintro e w3 ⟨rfl,a3,c3,m3,R,L,I,a5⟩;obtain⟨cs,co,cv⟩:=yR R I (hb.out.trans a5.below);have d2:=yP (m3.Perm ((zAt 0 (ws.take (j+1)) []).map pr)) (by
    rw[ck.out,zL4,qQh,qTs (qP6 cw.out),qQc];refine L.trans ((hm.out.cons (x,j)).trans ?_);exact((zBh ⟨x,j,.leaf j⟩ (zAt 0 (ws.take j) [])).map pr).symm)
   clear R L I a5 HC;go_wp2;go_roundw
   case rel=>exact⟨j+1,c3,a3,m3,za,by go_num,cs,d2,co,cv⟩
   case measure=>simp only[intOf];omega
  ·obtain rfl:n=j:=za
   have bj:m.Perm ((qt ws 0).map pr):=by
    have:=hm.out;rwa[qQg (by rw[HN.out];omega)]at this
   obtain⟨N,hN⟩:=zB (2*n-1);have cr:2*(n:Int)-1=(N:Int):=za
   have Y:=zF2 wr N za;obtain⟨G,hG⟩:=zB wr.heap.size;obtain⟨w2,f⟩:=zB (wr.alloc (qm (cellsOf N (fun _=>qV qj 0)) 3));rw[hG,f]at Y;have F:yI G wr w2:=by rw[<-f,<-hG];exact(yN _ _).alloc (qPq _) _
   have da:B<G:=by rw[<-hG];exact hq.out.lt
   have P:zAm w2 G 3 N (fun _=>0):=by rw[<-f];exact zAm.zeros G wr N 3 hG
   obtain⟨Q2,A2,B2,L2,M2,NN⟩:=yU (hq.out.below F hG.symm) P (hb.out.trans (F.mono za)) (Lp.start o.out (by rw[HN.out];omega) (fun _=>0)) bj hN;have df:2*n<=N+1:=za
   have dg:N+1<=2*n:=za
   clear F P bj hN f hG ae hj hq hm hb;go_wp2;clear Y cr;go_loopw [7] (fun kv wr=>∃(K c2:Nat) (a2:Option yB) (m:List (Nat×Nat)) (U:Nat->Nat),n<=K/\K<=N/\kv=qV qj K/\yH (Qu wr B a2 c2 m)/\yH (m.Perm ((qt ws (K-n)).map pr))/\yH (Hp lq (kG m) (at_ m))/\yH (zAm wr G 3 N U)/\yH (Lp ws (K-n) U)/\yH (yI B w wr)) (fun kv _=>N-(intOf kv).toNat)
   case atStart=>exact⟨n,c2,a2,m,fun _=>0,za,za,rfl,Q2,by rw[Nat.sub_self];exact M2,hp,A2,by rw[Nat.sub_self];exact L2,B2⟩
   case round=>
    clear Q2 A2 B2 L2 M2 hp ai;obtain⟨K,c2,a2,m,U,dc,dd,rfl,hq,hm,hp,ha,ag,hb⟩:=hrel;obtain⟨t,ht⟩:=zB (K-n);rw[ht]at hm ag;by_cases ae:K<N
    ·obtain⟨z,q,qr,ak,ax⟩:=zW2 o.out t (by rw[HN.out];omega);obtain⟨hinv,am⟩:=zMa o.out t (by rw[HN.out];omega);have an:=hm.out;rw[ak]at an;have r:=hinv;rw[ak]at r;have S:kG m=n-t:=by rw[hm.out.length_eq,qQi,am,HN.out]
     have s:∀y∈m,lq y (at_ m 0)=yE:=fun y hy=>by
      obtain⟨k,hk,rfl⟩:=qTd hy;have:=hp.out.min zF3 k hk;unfold at_ at this;rw[qPw,qPu hk]at this;exact this
     have H:at_ m 0∈m:=by
      unfold at_;rw[qPw,qPu za];exact qQ _
     have h0:at_ m 0=pr z:=zO0 an rfl r.sorted H s;have HC:=zH (zTk B a2 c2 m wr hq.out za za hp.out);rw[h0]at HC;unfold tv pr at HC;obtain⟨d3,aj,ct,ay,HT,ai⟩:=yU an r ak ax ht S;have cm:t+1<n:=za
     clear an hinv r ak ax am s H h0 S ht;go_wp2_with fail;(with_reducible refine HC.out.mono ?_);rintro e w3 ⟨rfl,a3,c3,m3,R,L,I,a5⟩;have ar:m3.Perm ((q::qr).map pr):=(L.symm.trans d3.out).cons_inv;have ac:=(qQ1.1 aj.out.sorted).2;have ap:kG m3+1=n-t:=by have:=L.length_eq;rw[ai.out,qP3]at this;omega
     have s:∀y∈m3,lq y (at_ m3 0)=yE:=fun y hy=>by
      obtain⟨k,hk,rfl⟩:=qTd hy;have:=I.min zF3 k hk;unfold at_ at this;rw[qPw,qPu hk]at this;exact this
     have H:at_ m3 0∈m3:=by
      unfold at_;rw[qPw,qPu za];exact qQ _
     have h0:at_ m3 0=pr q:=zO0 ar rfl ac H s;have ah:=zH (zTk B a3 c3 m3 w3 R za za I);rw[h0]at ah;unfold tv pr at ah;obtain⟨cp,cu,cf⟩:=yR a5 ar ap;clear R L I a5 ar ac ap s H h0 HC;go_wp2_with fail;(with_reducible refine ah.out.mono ?_);rintro e w4 ⟨rfl,a4,c4,m4,ad,au,av,ca⟩;have d9:=zH ad;have cj:=yP (m4.Perm (qr.map pr)) (au.symm.trans cu.out).cons_inv;obtain⟨d8,cb⟩:=yQ av (cp.out.trans ca);have cd:=yP (kG m4+2=n-t) (by have:=au.length_eq;have:=cf.out;simp at*;omega);have bp:z.x<N/\q.x<N:=by
      have h1:=aj.out.below z zm;have h2:=aj.out.below q zm;have h3:=HT.out;rw[HN.out]at h1 h2;omega
     have dl:z.w+q.w<=20000:=by
      have h1:=aj.out.sum;rw[qQa,qQa,qRc,qRc]at h1;have:=ce.out;omega
     have aq:=cb.out.arr ha.out za;obtain⟨X,hX⟩:=zB w4.heap.size;have db:B<X:=by rw[<-hX];exact ad.lt
     have cx:G<X:=by rw[<-hX];exact aq.lt
     obtain⟨w5,a0⟩:=zB (w4.alloc (qm #[qV qj (z.w:Int),qV qj (z.x:Int)] TT));obtain⟨w6,a8⟩:=zB (w5.alloc (qm #[qV qj (q.w:Int),qV qj (q.x:Int)] TT));have z5:w5.heap.size=X+1:=by rw[<-a0,zA,hX]
     have b5:yI X w4 w5:=by rw[<-a0,<-hX];exact(yN _ _).alloc (qPq _) _
     have b6:yI (X+1) w5 w6:=by rw[<-a8,<-z5];exact(yN _ _).alloc (qPq _) _
     have ba:Bx w6 X (z.w,z.x):=by
      refine(b6.block X za).trans ?_;rw[<-a0,<-hX];show(w4.heap.push _)[w4.heap.size]? =_;simp
     have bb:Bx w6 (X+1) (q.w,q.x):=by
      show w6.heap[X+1]? =_;rw[<-a8,<-z5];show(w5.heap.push _)[w5.heap.size]? =_;simp
     have cc:=(ad.below b5 hX.symm).below b6 z5.symm;have bz:zAm w6 G 3 N U:=(aq.keep (b5.block G cx)).keep (b6.block G za);have b4:Bx w6.drew X (z.w,z.x):=ba;have b8:Bx w6.drew (X+1) (q.w,q.x):=bb;have a7:zAm w6.drew G 3 N U:=bz;obtain⟨s7,af⟩:=zWr a7 bp.1 K;obtain⟨w7,a6⟩:=zB (w6.drew.setCell ⟨G,z.x,qx⟩ (qV qj (K:Int)));have b7:=cc.drew.other (G:=G) (i:=z.x) a7 z8 za (qV qj (K:Int));rw[a6]at s7 af b7;have b1:Bx w7 (X+1) (q.w,q.x):=by rw[<-a6];exact(zAa za).trans b8
     have bh:Bx w7 X (z.w,z.x):=by rw[<-a6];exact(zAa za).trans b4
     obtain⟨s8,b0⟩:=zWr af bp.2 K;obtain⟨w8,a1⟩:=zB (w7.setCell ⟨G,q.x,qx⟩ (qV qj (K:Int)));have ab:=b7.other (G:=G) (i:=q.x) af z8 za (qV qj (K:Int));rw[a1]at s8 b0 ab;have bn:Bx w8 (X+1) (q.w,q.x):=by rw[<-a1];exact(zAa za).trans b1
     have bc:Bx w8 X (z.w,z.x):=by rw[<-a1];exact(zAa za).trans bh
     have bi:yI B w w8:=by
      rw[<-a1,<-a6];exact((((hb.out.trans cb.out.below).trans (b5.mono za)).trans (b6.mono za)).drew.setCell (p:=⟨G,z.x,qx⟩) (by show B<=G;omega) _).setCell (p:=⟨G,q.x,qx⟩) (by show B<=G;omega) _
     obtain⟨BA,BB,bu,S7,S8,Q8,A8,B8,az⟩:=yY b4 b8 b1 s7 s8 ab b0 bi (zQq B a4 c4 m4 (z.w+q.w,K) w8 ab (by have:=cd.out;omega) av);unfold tv at az;simp only[qTq]at az;obtain⟨v0,_,_,_⟩:=zAf bc;obtain⟨v1,_,_,_⟩:=zAf bn;clear aq b5 b6 ba bb cc bz b4 b8 a7 s7 af a6 b7 b1 bh s8 b0 a1 ab bn bc bi z5;clear ad au av ca ah;obtain⟨cz,cq⟩:=yQ a0 a8;clear a0 a8;go_wp2;rw[cz.out,cq.out];clear hX;refine zS [11] (fun W9=>Bx W9 (X+1) (q.w,q.x)) [0,0,2,0,0,16,0,0,71,327,1023,2047] 12<|zu 3 43 (qX (qw ⟨G,0,qx⟩) N N)<|zu 4 44 (qY (qw ⟨X+1,1,qx⟩))<|zu 7 47 (zI K)<|zy 5 45 (qV qj (q.x:Int)) (fun w hS=>zl 3 44 (zYk hS)) BB.out<|zp [0,1,2,6,8]<|zk 40 (qX (qw ⟨G,0,qx⟩) N N)<|zk 41 (zP X 1)<|zt 42 (qV qj (z.x:Int)) (zl 3 41 (zYk BA.out))<|zk 46 (zI K)<|zt 48 (qY (qw ⟨G,z.x,qx⟩)) (Kit.zBo (t:=23) (x:=(.tmp 40)) (y:=(.tmp 42)) (g:=G) (n:=N) (c:=N) (k:=z.x) rfl zf zf za underlying23 (fun _=>sizeOf3 _) _)<|zn<|zw 9 qx (zr 3 48 46 (S7.out)) (.inr (.inr (bu.out)))<|zp [10]<|zt 49 (qY (qw ⟨G,q.x,qx⟩)) (Kit.zBo (t:=23) (x:=(.tmp 43)) (y:=(.tmp 45)) (g:=G) (n:=N) (c:=N) (k:=q.x) rfl zf zf za underlying23 (fun _=>sizeOf3 _) _)<|zn<|zw 11 qx (zr 3 49 47 (S8.out)) (.inr (.inl zf))<|zE<| ?_
     simp only[zP,zI,Act.put,qPz,qPy,qP0];clear S7 S8 BA BB bu;go_wp2_with fail;(with_reducible refine az.out.mono ?_);rintro e w9 ⟨rfl,a9,c9,m9,bg,bf,bo,b9⟩;obtain⟨Q9,P9,A9,B9⟩:=yS bg bo (b9.arr A8.out za) (B8.out.trans b9.below);have M9:=yP (m9.Perm ((qt ws (K+1-n)).map pr)) (by
      rw[show K+1-n=t+1 by have:=HT.out;omega,ay.out];refine bf.trans ((cj.out.cons _).trans ?_);have h1:=((zBh ⟨z.w+q.w,kG ws+t,.node z.t q.t⟩ qr).map pr).symm;rw[qQa]at h1;have h2:pr ⟨z.w+q.w,kG ws+t,.node z.t q.t⟩=(z.w+q.w,K):=by
       unfold pr;simp only[HN.out];rw[show n+t=K by have:=HT.out;omega]
      rw[h2]at h1;exact h1)
     have L9:=yP (Lp ws (K+1-n) (zAy (zAy U z.x K) q.x K)) (by
      have h1:=ag.out.step o.out (by rw[HN.out];exact cm) ct.out ay.out;rw[HN.out,show n+t=K by have:=HT.out;omega]at h1;rw[show K+1-n=t+1 by have:=HT.out;omega];exact h1)
     clear bg bo b9 bf v0 v1;go_wp2;go_roundw
     case rel=>exact⟨K+1,c9,a9,m9,zAy (zAy U z.x K) q.x K,za,za,by go_num,Q9,M9,P9,A9,L9,B9⟩
     case measure=>simp only[intOf];omega
    ·obtain rfl:N=K:=za
     have bw:t=kG ws-1:=by rw[HN.out];have:=NN.out;omega
     obtain⟨hU,O⟩:=(show Lp ws (kG ws-1) U from bw▸ag.out).last o.out (by rw[HN.out];exact h2);rw[HN.out]at hU O;obtain⟨M,hM⟩:=zB (2*n-2);rw[hM]at hU O;have de:M+1=N:=za
     rw[show 2*n-1=N from NN.out]at hU;have Y:=zF2 wr N za;obtain⟨G2,Z⟩:=zB wr.heap.size;obtain⟨w2,f⟩:=zB (wr.alloc (qm (cellsOf N (fun _=>qV qj 0)) 3));rw[Z,f]at Y;have F:yI G2 wr w2:=by rw[<-f,<-Z];exact(yN _ _).alloc (qPq _) _
     have cy:G<G2:=by rw[<-Z];exact ha.out.lt
     have P:zAm w2 G2 3 N (fun _=>0):=by rw[<-f];exact zAm.zeros G2 wr N 3 Z
     obtain⟨A2,U2,B2,HU,ci⟩:=yT P (ha.out.keep (F.block G cy)) (hb.out.trans (F.mono za)) hU O;have cg:(N:Int)-2=(M:Int)-1:=za
     clear F P f Z ae hq hm hp ag hb ha hU O bw ht hM;go_wp2;clear Y cg;go_loopw [11] (fun xv wr=>∃(x:Int) (D:Nat->Nat),-1<=x/\x<=(M:Int)-1/\xv=qV qj x/\yH (zAm wr G2 3 N D)/\yH (D M=0)/\yH (∀y:Nat,x<(y:Int)->y<M->D y=D (U y)+1)/\yH (∀y:Nat,x<(y:Int)->y<=M->D y+y<=M)/\yH (zAm wr G 3 N U)/\yH (yI B w wr)) (fun xv _=>(intOf xv+1).toNat)
     case atStart=>exact⟨(M:Int)-1,fun _=>0,za,za,rfl,A2,zH rfl,zH (fun y h1 h2=>za),zH (fun y h1 h2=>by show 0+y<=M;omega),U2,B2⟩
     case round=>
      clear A2 U2 B2;obtain⟨x,D,dm,dp,rfl,ha,bx,hD,c6,hu,hb⟩:=hrel;by_cases hx:0<=x
      ·obtain⟨i,rfl⟩:=qT4 hx;have cn:i<M:=za
       obtain⟨d0,bd⟩:=HU.out i cn;obtain⟨u,ao⟩:=zB (U i);rw[ao]at d0 bd;have x0:=hu.out.cell i za;rw[ao]at x0;have x1:=ha.out.cell u bd;have x2:=ha.out.cell i za;have x3:=ha.out.free i;have d4:=c6.out u za za;obtain⟨d,b2⟩:=zB (D u);obtain⟨v0,c8⟩:∃v0:qz,Value.int qj ((D i:Nat):Int)=v0:=⟨_,rfl⟩;rw[c8]at x2;rw[b2]at x1 d4;have hd:d<=1000:=za
       have HA:=zH (ha.out.set i (d+1) (V:=(d:Int)+1) za);have H0:=yP (zAy D i (d+1) M=0) (by rw[zBb _ _ _ _ za];exact bx.out);have H1:=yP (∀y:Nat,(i:Int)-1<(y:Int)->y<M->zAy D i (d+1) y=zAy D i (d+1) (U y)+1) (fun y h1 h2=>by
        by_cases e:y=i
        ·subst e;rw[zCj,ao,zBb _ _ _ _ za,b2]
        ·have h3:=(HU.out y h2).1;rw[zBb _ _ _ _ e,zBb _ _ _ _ za];exact hD.out y za h2)
       have H2:=yP (∀y:Nat,(i:Int)-1<(y:Int)->y<=M->zAy D i (d+1) y+y<=M) (fun y h1 h2=>by
        by_cases e:y=i
        ·subst e;rw[zCj];omega
        ·rw[zBb _ _ _ _ e];exact c6.out y za h2)
       have H3:=yP (zAm (wr.setCell ⟨G2,i,qx⟩ (qV qj ((d:Int)+1))) G 3 N U) (hu.out.keep (zAa za));have H4:=zH (hb.out.setCell (p:=⟨G2,i,qx⟩) (by show B<=G2;omega) (qV qj ((d:Int)+1)));have dh:i<N:=za
       clear ao b2 c8;go_wp2;go_roundw
       case rel=>exact⟨(i:Int)-1,zAy D i (d+1),za,za,rfl,HA,H0,H1,H2,H3,H4⟩
       case measure=>simp only[intOf];omega
      ·obtain rfl:x= -1:=za
       have b3:=ci.out D bx.out (fun y hy=>hD.out y za hy);have HR:=zH (zTe (l:=lens ws) ha.out (by rw[zC0,HN.out];omega) (fun i hi=>b3 i (by rw[zC0,HN.out]at hi;exact hi)));have dj:n<=N:=za
       have di:¬n=0:=za
       clear b3;go_wp2;go_ret;exact⟨G2,rfl,za,HR.out,qFw ha.out,hb.out⟩
end Wg
namespace Us
open Front Bt Tn
def has (l:List Nat) (j:Nat):qz:=qc (yF (j∈l))
abbrev TS:yA:=147
theorem zT0 (l:List Nat) (n:Nat):(cellsOf n (has l)).all (·.oneCell')=yD:=by
 rw[qUf];intro v hv;simp only[cellsOf,Array.mem_map]at hv;obtain⟨j,_,rfl⟩:=hv;rfl
theorem zXe (s:ByteArray) (hs:s.size<=1000000) (w:qy):
  yC yG 76 #[qW s] w fun e w'=>e=qp (.agg (cellsOf 256 (has (bl s))))/\yI w.heap.size w w':=by
 obtain⟨B,z⟩:=zB w.heap.size;have S:zeroCells147=cellsOf 256 (has []):=zf
 have g:Arr (w.alloc (qm zeroCells147 TS)) B TS 256 (has []):=by
  show _=_;rw[S,<-z];show(w.heap.push _)[w.heap.size]? =_;simp
 obtain⟨W,M⟩:=zB (w.alloc (qm zeroCells147 TS));have x:yI B w W:=by rw[<-M,<-z];exact(yN _ _).alloc (qPq _) _
 rw[M]at g;obtain⟨G,r⟩:=yQ g x;obtain⟨l,y⟩:=zB (bl s);have m:kG l=s.size:=by rw[<-y,zB2]
 have n:∀(i:Nat) (h:i<s.size),l[i]? =qw s[i].toNat:=fun i h=>by
  have:=zRx s i h;rw[y,qPw,qPu za,qQ4]at this;rw[qPu za,this]
 rw[y];obtain⟨d,H⟩:=yQ m n;rw[z];clear S y m n g x;go_enter func76,ntmps76;go_wp2;clear M;go_loopw [6] (fun i wr=>∃k:Nat,k<=s.size/\i=qV qj k/\yH (Arr wr B TS 256 (has (l.take k)))/\yH (yI B w wr)) (fun i _=>s.size-(intOf i).toNat)
 case atStart=>exact⟨0,za,rfl,G,r⟩
 case round=>
  clear G r;obtain⟨k,Z,rfl,b,N⟩:=hrel;by_cases o:k<s.size
  ·obtain⟨c,O⟩:=zB (s[k].toNat);have X:c<256:=by rw[<-O];exact qTf _
   have V:=b.out.cell c za;have Y:=b.out.free c;unfold has at V;have t:k<kG l:=by rw[d.out];exact o
   have F:l[k]=c:=by
    have:=H.out k o;rw[qPu t,O]at this;exact qPv this
   have I:=zH ((b.out.set c (qc yD)).congr (h:=has (l.take (k+1))) (fun j _=>by
    unfold upd has;rw[qQo t,F];by_cases e:j=c
    ·subst e;simp
    ·simp[e]))
   obtain⟨q,R⟩:=zB (yF (c∈l.take k));rw[R]at V;clear R F;go_wp2;go_roundw
   case rel=>exact⟨k+1,za,by go_num,I,zH (N.out.setCell (p:=⟨B,c,qx⟩) (qPq _) _)⟩
   case measure=>simp[intOf];omega
  ·obtain rfl:k=s.size:=za
   have a:Arr wr B TS 256 (has l):=by
    have:=b.out;rwa[qQg (by rw[d.out];omega)]at this
   have f:(prog.info? TS).map (·.size)=qw 256:=zf
   have u:(cellsOf 256 (has l)).size=256:=cellsOf_size _ _;have L:=run_loadVar_row (P:=yG) wr B TS TS _ (0,0) (.array 256 4) a underlying147 rfl (by rw[u];exact f);have K:=zE2 (P:=yG) wr B TS _ (cellsOf 256 (has l)) a rfl (zT0 l 256);rw[setRow_self wr B _ TS (0,0) a]at K;go_wp2
   rename_i hK
   refine zGu rfl rfl L (hK _ _ ?_);go_wp2
   try simp only[Exit.inBlock,Exit.then]
   exact qP5 (results_cell_row rfl _ _ B TS _ (0,0) (.array 256 4) rfl a underlying147 rfl (by rw[u];exact f)) rfl ⟨rfl,N.out⟩
end Us
namespace Us
open Front Bt Zr Tn
def alpha (l:List Nat) (k:Nat):List UInt8:=((yK k).filter fun c=>decide (c∈l)).map UInt8.ofNat
theorem zEd (l:List Nat) (k:Nat):alpha l (k+1)=alpha l k++if k∈l then[UInt8.ofNat k]else[]:=by
 unfold alpha;rw[qQu,List.filter_append,qQd];congr 1;by_cases h:k∈l<;>simp[h]
theorem zPe (l:List Nat) (k:Nat):kG (alpha l k)<=k:=by
 unfold alpha;rw[qQi];have:=List.length_filter_le (fun c=>decide (c∈l)) (yK k);rwa[qQ8]at this
def zAj (s:ByteArray):ByteArray:=⟨(alpha (bl s) 256).toArray⟩
theorem zEc (s:ByteArray) (hs:s.size<=1000000) (w:qy):
  yC yG 20 #[qW s] w fun e w'=>e=qp (qW (zAj s))/\yI w.heap.size w w':=by
 obtain⟨B,W⟩:=zB w.heap.size;have z:=zH (zXe s hs w);rw[W]at z;obtain⟨l,Y⟩:=zB (bl s);unfold zAj;rw[Y]at z⊢;rw[W];clear Y;go_enter func20,ntmps20;go_wp2_with fail;(with_reducible refine z.out.mono ?_);rintro e w2 ⟨rfl,x⟩;have M:=zH x;obtain⟨R,j⟩:=zB (cellsOf 256 (has l));have V:=yP (∀k,k<256->R[k]? =qw (qc (yF (k∈l)))) (fun k X=>by rw[<-j,zCe 256 (has l) k X];rfl);have L:R.size=256:=by rw[<-j,cellsOf_size]
 rw[j];clear z x j;go_wp2;go_loopw [8,3] (fun i v wr=>∃(k n:Nat) (p:Option yB) (c:Nat),k<=256/\i=qV qj k/\v=qX p n c/\n<=k/\yH (Kit.Own wr B TB p n c ((alpha l k).map xE))/\yH (yI B w wr)) (fun i _ _=>256-(intOf i).toNat)
 case atStart=>exact⟨0,0,qx,0,za,rfl,rfl,za,zH (Kit.Own.start _ _ _),M⟩
 case round=>
  obtain⟨k,n,p,c,X,rfl,rfl,hn,a,S⟩:=hrel;by_cases g:k<256
  ·have f:=V.out k g;have G:k<R.size:=za
   rw[qT2 G]at f;have f:=qPv f;have o:=zE8 (P:=yG) (t:=TS) (n:=256) (e:=4) underlying147 (fun _=>isAgg4 _) (fun _=>sizeOf4 _) R k _ g (V.out k g) wr;have b:=a.out.len;rw[qQi]at b;have O:=zPe l k;by_cases y:k∈l
   ·rw[qP9 y]at o;clear f;have d:alpha l (k+1)=alpha l k++[UInt8.ofNat k]:=by rw[zEd,qPr y]
    have r:xE (UInt8.ofNat k)=qV ql (k:Int):=by unfold xE;rw[ofNat_toNat g]
    have hz:=S.out.size;obtain⟨p3,c3,w3,N,m,u⟩:=Kit.Own.app (ty:=109) (w:=wr.alloc (qm #[qV ql (k:Int)] TB)) zNh (a.out.alloc _) (qw ⟨wr.heap.size,0,qx⟩) 1 1 [xE (UInt8.ofNat k)] (by rw[r];exact Kit.zAs wr _ TB) rfl (fun h=>by cases h) (Kit.zG [UInt8.ofNat k]) (by unfold maxLen;omega) za zq;have F:yI B w w3:=S.out.trans (((yN _ _).alloc za _).trans ((yN _ _).grown u zq (fun q Z=>a.out.block q Z)));rw[show(alpha l k).map xE++[xE (UInt8.ofNat k)]=(alpha l (k+1)).map xE by rw[d,qQd];rfl]at m;obtain⟨K,I⟩:=yQ m F;clear m F u d r y b O;go_wp2_with (at_builtin;refine Kit.zAr rfl (.tmp 13) (.tmp 16) 109 rfl rfl rfl N ?_);go_roundw
    case rel=>exact⟨k+1,n+1,p3,c3,za,by go_num,rfl,za,K,I⟩
    case measure=>simp only[intOf];omega
   ·rw[qP1 y]at o;have d:alpha l (k+1)=alpha l k:=by rw[zEd,qPt y,qQ3]
    have H:=zH d;clear f y d;go_wp2;go_roundw
    case rel=>exact⟨k+1,n,p,c,za,by go_num,rfl,za,by rw[H.out];exact a,S⟩
    case measure=>simp only[intOf];omega
  ·obtain rfl:k=256:=za
   have b:=a.out.len;rw[qQi]at b;have a0:=Kit.Src.text (P:=yG) (n:=n) (c:=c) (src:=109) (dst:=9) a.out.src b underlying109 underlying5 underlying9;clear b L;go_wp2;go_ret;exact⟨rfl,S.out⟩
end Us
namespace Ch
open Wg Hf
variable {m:List Nat}
def grp (m:List Nat):List (List Nat):=if h:m=[]then[]else m.take 10::grp (m.drop 10)
termination_by (kG m)
decreasing_by
 have:0<kG m:=qSn.2 h;rw[qQn];omega
theorem qDw:grp []=[]:=by unfold grp;rfl
theorem zLg (h:m≠[]):grp m=m.take 10::grp (m.drop 10):=by rw[grp,dif_neg h]
theorem zBx (m:List Nat):kG (grp m)=(kG m+9)/10:=by
 induction hn:kG m using Nat.strongRecOn generalizing m with
 |_ n ih=>
  by_cases h:m=[]
  ·subst h;rw[qDw];simp at hn;subst hn;rfl
  ·have a:0<kG m:=qSn.2 h;rw[zLg h,qP3,ih (kG (m.drop 10)) (by rw[qQn];omega) _ rfl,qQn];omega
theorem zJy (m:List Nat) (i:Nat) (h:10*i<kG m):(grp m)[i]? =qw ((m.drop (10*i)).take 10):=by
 induction i generalizing m with
 |zero=>
  have a:m≠[]:=by rintro rfl;simp at h
  rw[zLg a];rfl
 |succ i ih=>
  have a:m≠[]:=by rintro rfl;simp at h
  rw[zLg a,List.getElem?_cons_succ,ih (m.drop 10) (by rw[qQn];omega),List.drop_drop];rw[show 10+10*i=10*(i+1)by omega]
theorem zHg {g:List Nat} (c:g∈grp m):g≠[]/\kG g<=10/\∀x∈g,x∈m:=by
 obtain⟨i,hi,rfl⟩:=qTd c;rw[zBx]at hi;have b:10*i<kG m:=za
 have a:=zJy m i b;rw[qPu (by rw[zBx];exact hi)]at a;rw[qPv a];refine⟨?_,by rw[qQh];omega,fun x d=>List.mem_of_mem_drop (qUg d)⟩;intro e;have:=qPs List.length e;rw[qQh,qQn]at this;simp at this;omega
def wt (m:List Nat) (p k s:Nat):Nat:=(yK p).countP fun q=>decide (q/10%2=k)&&(m.getD q 0==s)
theorem qCk (m:List Nat) (k s:Nat):wt m 0 k s=0:=rfl
theorem zG4 (m:List Nat) (p k s:Nat):wt m (p+1) k s=wt m p k s+if p/10%2=k/\m.getD p 0=s then 1 else 0:=by
 unfold wt;rw[qQu,List.countP_append,List.countP_singleton];simp
theorem qEz (n s:Nat) (c:Prop) [Decidable c]:((yK n).map fun x=>if c/\s=x then 1 else 0).sum<=1:=by
 induction n with
 |zero=>simp
 |succ n ih=>
  rw[qQu,qQd,List.sum_append];simp only[qQa,qSq,qRc,List.sum_nil];by_cases h:c/\s=n
  ·have a:((yK n).map fun x=>if c/\s=x then 1 else 0).sum=0:=by
    have:((yK n).map fun x=>if c/\s=x then 1 else 0)=(yK n).map fun _=>0:=qRx fun x b=>by
     have:=qQm.1 b;rw[qPt za]
    rw[this];clear this ih h
    induction n with
    |zero=>rfl
    |succ n ih=>rw[qQu,qQd,List.sum_append,ih];rfl
   rw[a,qPr h];omega
  ·rw[qPt h];omega
theorem sum_add (f g:Nat->Nat):∀l:List Nat,(l.map fun x=>f x+g x).sum=(l.map f).sum+(l.map g).sum
 |[]=>rfl
 |x::l=>by rw[qQa,qQa,qQa,qRc,qRc,qRc,sum_add f g l];omega
theorem zV3 (m:List Nat) (n k:Nat):∀p,((yK n).map (wt m p k)).sum<=p
 |0=>by
  have:(yK n).map (wt m 0 k)=(yK n).map fun _=>0:=qRx fun x _=>qCk m k x;rw[this];clear this
  induction n with
  |zero=>simp
  |succ n a=>rw[List.range_succ,List.map_append,List.sum_append];simpa using a
 |p+1=>by
  have a:=zV3 m n k p;have b:=qEz n (m.getD p 0) (p/10%2=k);have:(yK n).map (wt m (p+1) k)=(yK n).map fun x=>wt m p k x+if p/10%2=k/\m.getD p 0=x then 1 else 0:=qRx fun x _=>zG4 m p k x
  rw[this,sum_add];omega
theorem qBx (m:List Nat) (p k s:Nat):wt m p k s<=p:=by
 unfold wt;have:=List.countP_le_length (p:=fun q=>decide (q/10%2=k)&&(m.getD q 0==s)) (l:=yK p);rwa[qQ8]at this
def ws (m:List Nat) (n k:Nat):List Nat:=(yK n).map (wt m (kG m) k)
def one (l:List Nat):List Nat:=l.map (max · 1)
def tb (m:List Nat) (n k:Nat):List Nat:=lens (one (ws m n k))
theorem zLv (m:List Nat) (n k:Nat):kG (ws m n k)=n:=by simp[ws]
theorem zHc (l:List Nat):kG (one l)=kG l:=by simp[one]
theorem zG5 (m:List Nat) (n k:Nat):kG (tb m n k)=n:=by unfold tb;rw[zC0,zHc,zLv]
theorem one_pos (l:List Nat):∀w∈one l,1<=w:=by
 intro w a;obtain⟨x,_,rfl⟩:=qQf.1 a;omega
theorem zNg:∀l:List Nat,(one l).sum<=l.sum+kG l
 |[]=>qPq _
 |x::l=>by
  have:=zNg l;show max x 1+(one l).sum<=_;rw[qRc,qP3];omega
theorem zV4 (m:List Nat) (n k:Nat):(ws m n k).sum<=kG m:=zV3 m n k (kG m)
theorem zDn (m:List Nat) (n k:Nat) (c:2<=n) (a:n<=258) (g:kG m<=10000):Right (tb m n k):=by
 have b:=zV4 m n k;have d:=zNg (ws m n k);have e:=zLv m n k;have f:=zHc (ws m n k);exact zU4 _ za za (one_pos _) za
def cost (t g:List Nat):Nat:=(g.map fun s=>t.getD s 0).sum
def zGi (a b g:List Nat):Nat:=if cost b g<cost a g then 1 else 0
theorem zZ0 (a b g:List Nat):zGi a b g<=1:=by unfold zGi;split<;>omega
def chosen (m:List Nat) (n:Nat):List Nat:=(grp m).map (zGi (tb m n 0) (tb m n 1))
theorem zIe (m:List Nat) (n:Nat):kG (chosen m n)=kG (grp m):=by simp[chosen]
theorem zGr (m:List Nat) (n:Nat):∀x∈chosen m n,x<=1:=by
 intro x a;obtain⟨g,_,rfl⟩:=qQf.1 a;exact zZ0 _ _ _
end Ch
namespace Rle
abbrev T:=List UInt8
def lead (c:UInt8):Nat->T->Nat
 |0,_=>0
 |_+1,[]=>0
 |n+1,x::r=>if x=c then lead c n r+1 else 0
def zAi:T->Nat
 |[]=>0
 |x::r=>lead x 254 r+1
theorem zNk (c:UInt8):∀(n:Nat) (r:T),lead c n r<=n/\lead c n r<=kG r
 |0,r=>by simp[lead]
 |n+1,[]=>by simp[lead]
 |n+1,x::r=>by
  have:=zNk c n r;rw[lead,qP3];split<;>omega
theorem zOt (c:UInt8):∀(n:Nat) (r:T),r.take (lead c n r)=yL (lead c n r) c
 |0,r=>by simp[lead]
 |n+1,[]=>by simp[lead]
 |n+1,x::r=>by
  rw[lead];split
  ·rename_i h
   rw[qSk,qSo,zOt c n r,h]
  ·rfl
theorem zOu (c:UInt8):∀(n:Nat) (r:T),lead c n r<n->∀h:lead c n r<kG r,¬r[lead c n r]=c
 |0,r,h1,_=>by simp[lead]at h1
 |n+1,[],_,h=>by simp at h
 |n+1,x::r,h1,h=>by
  rw[lead]at h1;by_cases a:x=c
  ·rw[qPr a]at h1;have e:lead c (n+1) (x::r)=lead c n r+1:=by rw[lead,qPr a]
   have b:lead c n r<kG r:=by rw[e]at h;simpa using h
   have:=zOu c n r za b;simpa [e]using this
  ·have e:lead c (n+1) (x::r)=0:=by rw[lead,qPt a]
   simpa [e]using a
theorem zGe (x:UInt8) (r:T):zAi (x::r)=lead x 254 r+1:=rfl
theorem zBz (s:T) (h:s≠[]):1<=zAi s:=by
 cases s with
 |nil=>exact absurd rfl h
 |cons x r=>rw[zGe];omega
theorem zFl (s:T):zAi s<=kG s:=by
 cases s with
 |nil=>simp[zAi]
 |cons x r=>have:=zNk x 254 r;rw[zGe,qP3];omega
theorem zEj (s:T):zAi s<=255:=by
 cases s with
 |nil=>simp[zAi]
 |cons x r=>have:=zNk x 254 r;rw[zGe];omega
theorem zIs (x:UInt8) (r:T):(x::r).take (zAi (x::r))=yL (zAi (x::r)) x:=by
 unfold zAi;rw[qSk,qSo,zOt]
theorem zOe (x:UInt8) (r:T) (b:zAi (x::r)<255) (h:zAi (x::r)<kG (x::r)):¬(x::r)[zAi (x::r)]=x:=by
 have e:zAi (x::r)=lead x 254 r+1:=rfl;have a:lead x 254 r<kG r:=by rw[e]at h;simpa using h
 have:=zOu x 254 r za a;simpa [e]using this
theorem zTx (c:UInt8):∀(n:Nat) (r:T) (k:Nat),k<=n->(hk:k<=kG r)->r.take k=yL k c->(k=n\/k=kG r\/∃h:k<kG r,¬r[k]=c)->lead c n r=k
 |0,r,k,h1,_,_,_=>by rw[lead];omega
 |n+1,[],k,_,h2,_,_=>by rw[lead];simp at h2;omega
 |n+1,x::r,0,_,_,_,a=>by
  rcases a with a|a|⟨a,b⟩
  ·omega
  ·simp at a
  ·rw[lead,if_neg (by simpa using b)]
 |n+1,x::r,k+1,h1,h2,h3,a=>by
  rw[qSk,qSo,List.cons.injEq]at h3;rw[lead,if_pos h3.1,zTx c n r k za (by simpa using h2) h3.2];rcases a with a|a|⟨a,b⟩
  ·exact .inl za
  ·exact .inr (.inl (by simpa using a))
  ·exact .inr (.inr ⟨by simpa using a,by simpa using b⟩)
theorem zJl (x:UInt8) (r:T) (n:Nat) (e:1<=n) (f:n<=255) (c:n<=kG (x::r)) (b:(x::r).take n=yL n x) (a:n=255\/n=kG (x::r)\/∃h:n<kG (x::r),¬(x::r)[n]=x):zAi (x::r)=n:=by
 obtain⟨k,rfl⟩:∃k,n=k+1:=⟨n-1,za⟩;rw[zGe];rw[qSk,qSo,List.cons.injEq]at b;rw[zTx x 254 r k za (by simpa using c) b.2];rcases a with a|a|⟨a,d⟩
 ·exact .inl za
 ·exact .inr (.inl (by simpa using a))
 ·exact .inr (.inr ⟨by simpa using a,by simpa using d⟩)
def pcs (s:T):List T:=if h:s=[]then[]else s.take (zAi s)::pcs (s.drop (zAi s))
termination_by (kG s)
decreasing_by
 have h1:=zBz s h;have h2:=qSn.2 h;rw[qQn];omega
theorem zB6:pcs []=[]:=by rw[pcs];simp
theorem zBq (s:T) (h:s≠[]):pcs s=s.take (zAi s)::pcs (s.drop (zAi s)):=by rw[pcs];rw[dif_neg h]
theorem zEi {M:T->Prop} (b:M []) (c:∀s,s≠[]->M (s.drop (zAi s))->M s) (s:T):M s:=by
 have a:∀n,∀s:T,kG s<=n->M s:=by
  intro n
  induction n with
  |zero=>intro s d;rw[qQz (l:=s) za];exact b
  |succ n ih=>
   intro s d;by_cases h:s=[]
   ·rw[h];exact b
   ·refine c s h (ih _ ?_);have:=zBz s h;have:=qSn.2 h;rw[qQn];omega
 exact a (kG s) s (qPq _)
theorem zHv (s:T):(pcs s).flatten=s:=by
 refine zEi (M:=fun s=>(pcs s).flatten=s) (by rw[zB6];rfl) (fun s h a=> ?_) s;rw[zBq s h,qS0,a,qR9]
def pk1 (p:T):T:=if kG p<4 then p else p.take 4++[UInt8.ofNat (kG p-4)]
def pack (s:T):T:=(pcs s).flatMap pk1
def zAv (n:Nat):Nat:=if n<4 then n else 5
def Len (s:T):Nat:=kG (pack s)
def lens (l:List T):Nat:=(l.map fun p=>zAv (kG p)).sum
theorem zMc (p:T):kG (pk1 p)=zAv (kG p):=by
 unfold pk1 zAv;split
 ·rfl
 ·rw[qPx,qQh];simp;omega
theorem zQx:pack []=[]:=by unfold pack;rw[zB6];rfl
theorem zOj (s:T) (h:s≠[]):pack s=pk1 (s.take (zAi s))++pack (s.drop (zAi s)):=by unfold pack;rw[zBq s h,qSl]
theorem zDo (s:T):kG (s.take (zAi s))=zAi s:=by rw[qQh];have:=zFl s;omega
theorem zFu:Len []=0:=by unfold Len;rw[zQx];rfl
theorem zIj (s:T) (h:s≠[]):Len s=zAv (zAi s)+Len (s.drop (zAi s)):=by
 unfold Len;rw[zOj s h,qPx,zMc,zDo]
theorem zG0 (l m:List T):lens (l++m)=lens l+lens m:=by unfold lens;simp
theorem zQ7 (s:T):lens (pcs s)=Len s:=by
 refine zEi (M:=fun s=>lens (pcs s)=Len s) (by rw[zB6,zFu];rfl) (fun s h a=> ?_) s;rw[zBq s h,zIj s h,<-a];unfold lens;rw[qQa,qRc,zDo]
theorem zTl (n:Nat):zAv n<=n+1:=by unfold zAv;split<;>omega
theorem zSm (n:Nat) (h:1<=n) (a:n<=255):4*zAv n<=5*n/\5*n<=255*zAv n:=by unfold zAv;split<;>omega
theorem zBu (s:T):4*Len s<=5*kG s/\5*kG s<=255*Len s:=by
 refine zEi (M:=fun s=>4*Len s<=5*kG s/\5*kG s<=255*Len s) (by rw[zFu];simp) (fun s h a=> ?_) s;have b:=zSm (zAi s) (zBz s h) (zEj s);have c:=zFl s;rw[qQn]at a;rw[zIj s h];omega
theorem zQt (l:List T) (s:T) (h:l<+:pcs s):lens l<=Len s/\(l.map List.length).sum<=kG s:=by
 obtain⟨m,a⟩:=h;constructor
 ·rw[<-zQ7 s,<-a,zG0];omega
 ·have:=qPs List.length (zHv s);rw[List.length_flatten,<-a]at this;simp at this;omega
abbrev U:=Nat×UInt8×T
def ust (st:U) (c:UInt8):U:=
 if st.1=4 then(0,st.2.1,st.2.2++yL c.toNat st.2.1)
 else if 0<st.1/\c=st.2.1 then(st.1+1,st.2.1,st.2.2++[st.2.1])
 else(1,c,st.2.2++[c])
def zCm (s:T):U:=s.foldl ust (0,0,[])
theorem zV9 (s:T) (c:UInt8):zCm (s++[c])=ust (zCm s) c:=by unfold zCm;rw[qTe];rfl
def zEw (s:T) (most:Int):Int:=if(zCm s).1=4 then 3 else if most<((zCm s).2.2.length:Int)then 4 else 0
def zHr (s:T) (most:Int):T:=if zEw s most=0 then(zCm s).2.2 else[]
theorem zUh (r:Nat) (l b:UInt8) (o:T) (d:r<4) (h:r=0\/¬l=b):ust (r,l,o) b=(1,b,o++[b]):=by
 unfold ust;rw[qPt zq,qPt];rintro⟨a,c⟩;rcases h with h|h
 ·simp at a;omega
 ·exact h c.symm
theorem zN7 (b:UInt8):∀(k r:Nat) (o:T),0<r->r+k<=4->(yL k b).foldl ust (r,b,o)=(r+k,b,o++yL k b)
 |0,r,o,_,_=>by simp
 |k+1,r,o,h1,h2=>by
  rw[qSo,qTm];have e:ust (r,b,o) b=(r+1,b,o++[b]):=by
   unfold ust;rw[qPt zq,qPr ⟨h1,rfl⟩]
  rw[e,zN7 b k (r+1) (o++[b]) za za];simp;omega
theorem zN5 (b:UInt8) (n r:Nat) (l:UInt8) (o:T) (c:1<=n) (d:n<=4) (a:r<4) (h:r=0\/¬l=b):(yL n b).foldl ust (r,l,o)=(n,b,o++yL n b):=by
 obtain⟨k,rfl⟩:∃k,n=k+1:=⟨n-1,za⟩;rw[qSo,qTm,zUh r l b o a h,zN7 b k 1 _ za za];simp;omega
theorem zY1 (s:T):∀(r:Nat) (l:UInt8) (o:T),r<4->(r=0\/∀c,s.head? =qw c->¬l=c)->∃g l',g<4/\(pack s).foldl ust (r,l,o)=(g,l',o++s):=by
 refine zEi (M:=fun s=>∀(r:Nat) (l:UInt8) (o:T),r<4->(r=0\/∀c,s.head? =qw c->¬l=c)->∃g l',g<4/\(pack s).foldl ust (r,l,o)=(g,l',o++s)) ?_ (fun s h y=> ?_) s
 ·intro r l o j _;exact⟨r,l,j,by rw[zQx];simp⟩
 ·intro r l o j i;obtain⟨x,t,rfl⟩:∃x t,s=x::t:=by
   cases s with
   |nil=>exact absurd rfl h
   |cons x t=>exact⟨x,t,rfl⟩
  have b:r=0\/¬l=x:=by
   rcases i with i|i
   ·exact .inl i
   ·exact .inr (i x rfl)
  have F:=zBz (x::t) h;have G:=zEj (x::t);have H:=zFl (x::t);have w:=zIs x t;rw[zOj _ h,qTe,w];have u:x::t=yL (zAi (x::t)) x++(x::t).drop (zAi (x::t)):=by rw[<-w,qR9]
  generalize q:zAi (x::t)=n at*;by_cases k:n<4
  ·have e:pk1 (yL n x)=yL n x:=by unfold pk1;rw[if_pos (by simpa using k)]
   rw[e,zN5 x n r l o F za j b];obtain⟨g,l',a,m⟩:=y n x (o++yL n x) k (.inr (fun c p=>by
    rw[List.head?_drop]at p;obtain⟨d,f⟩:=qSj.1 p;have:=zOe x t za (by rw[q];exact d);simp only[q]at this;rw[f]at this;exact fun e=>this e.symm))
   refine⟨g,l',a,?_⟩;rw[m,qQw,<-u]
  ·have e:pk1 (yL n x)=yL 4 x++[UInt8.ofNat (n-4)]:=by
    unfold pk1;rw[if_neg (by simpa using k),List.take_replicate,List.length_replicate,Nat.min_eq_left za]
   rw[e,qTe,zN5 x 4 r l o za za j b];have z:List.foldl ust (4,x,o++yL 4 x) [UInt8.ofNat (n-4)]=(0,x,o++yL n x):=by
    rw[qTm,List.foldl_nil];unfold ust;rw[qPr rfl];have B:(UInt8.ofNat (n-4)).toNat=n-4:=by rw[UInt8.toNat_ofNat'];omega
    rw[B];simp only[qQw,List.replicate_append_replicate];rw[show 4+(n-4)=n from za]
   rw[z];obtain⟨g,l',a,m⟩:=y 0 x (o++yL n x) za (.inl rfl);refine⟨g,l',a,?_⟩;rw[m,qQw,<-u]
theorem zN6 (s:T):(zCm (pack s)).1<4/\(zCm (pack s)).2.2=s:=by
 obtain⟨r,l,a,b⟩:=zY1 s 0 0 [] za (.inl rfl);unfold zCm;rw[b];exact⟨a,rfl⟩
theorem zI9 (s:T) (most:Int) (h:(kG s:Int)<=most):zEw (pack s) most=0:=by
 obtain⟨b,a⟩:=zN6 s;unfold zEw;rw[qPt za,a,qPt za]
theorem zQk (s:T) (most:Int) (h:(kG s:Int)<=most):zHr (pack s) most=s:=by
 unfold zHr;rw[qPr (zI9 s most h),(zN6 s).2]
theorem zUg (st:U) (c:UInt8) (i:Nat) (d:st.1<=4) (a:5*kG st.2.2+254*st.1<=259*i) (b:4*i+st.1<=5*kG st.2.2):
  (ust st c).1<=4/\5*(ust st c).2.2.length+254*(ust st c).1<=259*(i+1)/\4*(i+1)+(ust st c).1<=5*(ust st c).2.2.length:=by
 have e:=c.toNat_lt;unfold ust;split
 ·rename_i h
  simp only[qPx,qTz];omega
 ·split
  ·simp only[qPx,qR7];omega
  ·simp only[qPx,qR7];omega
theorem zKe (s:T):(zCm s).1<=4/\5*(zCm s).2.2.length+254*(zCm s).1<=259*kG s/\4*kG s+(zCm s).1<=5*(zCm s).2.2.length:=by
 have a:∀(s:T) (st:U) (i:Nat),st.1<=4->5*kG st.2.2+254*st.1<=259*i->4*i+st.1<=5*kG st.2.2->
   (s.foldl ust st).1<=4/\5*(s.foldl ust st).2.2.length+254*(s.foldl ust st).1<=259*(i+kG s)/\4*(i+kG s)+(s.foldl ust st).1<=5*(s.foldl ust st).2.2.length:=by
  intro s
  induction s with
  |nil=>intro st i b d e;exact⟨b,by simpa using d,by simpa using e⟩
  |cons c s ih=>
   intro st i b d e;obtain⟨f,g,h⟩:=zUg st c i b d e;have:=ih (ust st c) (i+1) f g h;rw[qTm,qP3,show i+(kG s+1)=i+1+kG s from za];exact this
 have:=a s (0,0,[]) 0 zm zm zm;simpa [zCm]using this
def cut (s:T) (a:Int):Nat:=
 if h:s=[]then 0
 else if(zAv (zAi s):Int)<=a then zAi s+cut (s.drop (zAi s)) (a-zAv (zAi s))
 else min (min (max a 0).toNat 3) (zAi s)
termination_by (kG s)
decreasing_by
 have h1:=zBz s h;have h2:=qSn.2 h;rw[qQn];omega
theorem zNu (a:Int):cut [] a=0:=by rw[cut];simp
theorem zLn (s:T) (a:Int) (h:s≠[]) (b:(zAv (zAi s):Int)<=a):cut s a=zAi s+cut (s.drop (zAi s)) (a-zAv (zAi s)):=by rw[cut];rw[dif_neg h,qPr b]
theorem zGq (s:T) (a:Int) (h:s≠[]) (b:¬(zAv (zAi s):Int)<=a):cut s a=min (min (max a 0).toNat 3) (zAi s):=by rw[cut];rw[dif_neg h,qPt b]
theorem zZj (x:UInt8) (k:Nat) (a:1<=k) (b:k<=255):zAi (yL k x)=k:=by
 obtain⟨j,rfl⟩:∃j,k=j+1:=⟨k-1,za⟩;rw[qSo];refine zJl x _ (j+1) a b zm ?_ (.inr (.inl zm));rw[<-qSo,List.take_replicate,Nat.min_self]
theorem qEi (x:UInt8) (k:Nat) (a:k<=255):Len (yL k x)=zAv k:=by
 by_cases h:k=0
 ·subst h;rw[List.replicate_zero,zFu];rfl
 ·have hne:yL k x≠[]:=by intro e;have:=qPs List.length e;simp at this;omega
  rw[zIj _ hne,zZj x k za a];simp[zFu]
theorem zHj (s:T) (k:Nat) (a:k<=zAi s):Len (s.take k)=zAv k:=by
 cases s with
 |nil=>simp[zAi]at a;subst a;simp[zFu,zAv]
 |cons x r=>
  have e:(x::r).take k=yL k x:=by
   have:=qPs (List.take k) (zIs x r);rw[List.take_take,List.take_replicate,qTs a]at this;exact this
  rw[e];exact qEi x k (by have:=zEj (x::r);omega)
theorem zQ (s:T) (k:Nat) (c:s≠[]) (l:zAi s<=k):zAi (s.take k)=zAi s:=by
 cases s with
 |nil=>exact absurd rfl c
 |cons x r=>
  have f:=zBz (x::r) c;have i:=zFl (x::r);obtain⟨j,rfl⟩:∃j,k=j+1:=⟨k-1,za⟩;rw[qSk];have e:(x::r.take j)=(x::r).take (j+1):=by rw[qSk]
  refine zJl x (r.take j) _ f (zEj _) ?_ ?_ ?_
  ·rw[e,qQh];omega
  ·rw[e,List.take_take,qTs za];exact zIs x r
  ·by_cases g:zAi (x::r)=255
   ·exact .inl g
   ·by_cases b:zAi (x::r)=kG (x::r.take j)
    ·exact .inr (.inl b)
    ·have a:zAi (x::r)<kG (x::r.take j):=by
      rw[e,qQh]at b⊢;omega
     refine .inr (.inr ⟨a,?_⟩);have h:=zOe x r (by have:=zEj (x::r);omega) (by rw[e,qQh]at a;omega);have d:(x::r.take j)[zAi (x::r)]=(x::r)[zAi (x::r)]'(by rw[e,qQh]at a;omega):=by
      simp only[e,List.getElem_take]
     rw[d];exact h
theorem zIl (s:T) (k:Nat) (a:s≠[]) (b:zAi s<=k):Len (s.take k)=zAv (zAi s)+Len ((s.drop (zAi s)).take (k-zAi s)):=by
 have c:=zBz s a;have hne:s.take k≠[]:=by
  intro e;have:=qPs List.length e;have d:=zFl s;have f:=qSn.2 a;rw[qQh]at this;simp only[qQx]at this;omega
 rw[zIj _ hne,zQ s k a b,List.drop_take]
theorem zLm (s:T):∀b:Int,0<=b->cut s b<=kG s/\(Len (s.take (cut s b)):Int)<=b/\(cut s b<kG s->b<(Len (s.take (cut s b+1)):Int)):=by
 refine zEi (M:=fun s=>∀b:Int,0<=b->cut s b<=kG s/\(Len (s.take (cut s b)):Int)<=b/\(cut s b<kG s->b<(Len (s.take (cut s b+1)):Int))) ?_ (fun s h i=> ?_) s
 ·intro b d;rw[zNu];simp[zFu,d]
 ·intro b d;have j:=zBz s h;have l:=zFl s;by_cases c:(zAv (zAi s):Int)<=b
  ·rw[zLn s b h c];obtain⟨g,m,e⟩:=i (b-zAv (zAi s)) za;generalize cut (s.drop (zAi s)) (b-zAv (zAi s))=k at*;rw[qQn]at g e;refine⟨za,?_,fun f=> ?_⟩
   ·rw[zIl s _ h za,show zAi s+k-zAi s=k from za];omega
   ·rw[zIl s _ h za,show zAi s+k+1-zAi s=k+1 from za];have:=e za;omega
  ·rw[zGq s b h c];have a:min (min (max b 0).toNat 3) (zAi s)<=zAi s:=Nat.min_le_right _ _;refine⟨za,?_,fun f=> ?_⟩
   ·rw[zHj s _ a];unfold zAv at*;split<;>split at c<;>omega
   ·rw[zHj s _ (by unfold zAv at c;split at c<;>omega)];unfold zAv at*;split<;>split at c<;>omega
theorem zZw (n:Nat) (h:1<=n):1<=zAv n:=by unfold zAv;split<;>omega
theorem qBc (s:T) (a:Int) (h:a<=0):cut s a=0:=by
 by_cases b:s=[]
 ·rw[b,zNu]
 ·have:=zZw _ (zBz s b);rw[zGq s a b za,show(max a 0).toNat=0 from za];simp
theorem zJ2 (s:T) (a:Int) (b:s≠[]) (h:1<=a):1<=cut s a:=by
 have d:=zBz s b;by_cases c:(zAv (zAi s):Int)<=a
 ·rw[zLn s a b c];omega
 ·rw[zGq s a b c];omega
theorem qGb (s:T) (a:Int):cut s a<=kG s:=by
 by_cases h:0<=a
 ·exact(zLm s a h).1
 ·rw[qBc s a za];exact qQq _
end Rle
end Go.Proofs.YtppnakkaljbmbaaGreatDoor
