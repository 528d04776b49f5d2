/- Steps of a proof; no condition beyond what each states. -/
import Derived.Test.YtppnakkaljbmbaaGreatDoorZU43
set_option linter.unusedVariables false
set_option linter.unusedSimpArgs false
set_option maxRecDepth 100000
set_option maxHeartbeats 8000000
namespace Go.Proofs.YtppnakkaljbmbaaGreatDoor
namespace Al
open Go.RowKit Hf Bt Zr Ix Front Wg Ch Sl Sq Us St Tn Bk Rg Sm Sh
structure Mn (K:Nat) (q1 q2:List Bool):Prop where
 e1:num 2 3=q1
 e2:q1++num K 15=q2
 p1:∀W,Calls Tryz.prog 24 #[.agg #[.string ⟨#[]⟩,.int .i64 0],.int .u64 2,.int .i64 3] W fun e w'=>e= .returned (.tuple #[.agg #[.string (Bt.pk q1),.int .i64 3],.int .i64 0])/\Below W.heap.size W w'
 p2:∀W,Calls Tryz.prog 24 #[.agg #[.string (Bt.pk q1),.int .i64 3],.int .u64 (K:Int),.int .i64 15] W fun e w'=>e= .returned (.tuple #[.agg #[.string (Bt.pk q2),.int .i64 18],.int .i64 0])/\Below W.heap.size W w'
theorem qFm (K:Nat) (hK:K<30000):∃q1 q2,Mn K q1 q2:=by
 have l1:(num 2 3).length=3:=zAc _ _
 refine⟨_,_,rfl,rfl,fun W=> ?_,fun W=> ?_⟩
 ·exact(zFm [] 2 3 (m':=num 2 3) rfl (d:=⟨#[]⟩) (by kernel_rfl) 0 3 rfl rfl (V:=2) rfl (by decide) (by omega) (by omega) W).2
 ·exact(zFm (num 2 3) K 15 rfl rfl 3 18 l1 rfl rfl (by omega) (by omega) (by omega) W).2
structure Tq (m:List Nat) (N K:Nat) (ch:List Nat) (gs:List (List Nat)) (ts:Nat->List Nat):Prop where
 ec:ch=chosen m N
 eg:gs=grp m
 et:ts=tb m N
 cl:ch.length=K
 gl:gs.length=K
 c1:∀u∈ch,u<=1
 k1:K<=100
 k0:0<K
 tl:∀i,(ts i).length=N
 tr:∀i,Right (ts i)
 gm:∀g∈gs,g.length<=10/\∀u∈g,u<N
 sp:∀(a:Option Addr) (c:Nat) (W:World),Kit.Src W a (ch.map ival)->Calls Tryz.prog 26 #[.slice a K c,.int .i64 2] W fun e w'=>e= .returned (.tuple #[zAe (zAz false ch),.int .i64 0])/\Below W.heap.size W w'
 dp:∀(i:Nat) (a:Option Addr) (W:World),Kit.Src W a ((ts i).map ival)->Calls Tryz.prog 27 #[.slice a N N] W fun e w'=>e= .returned (.tuple #[zAe (delta (ts i)),.int .i64 0])/\Below W.heap.size W w'
theorem zWe {x:ByteArray} {X:List UInt8} {p A L:ByteArray} {n O:Nat} {l m0 m:List Nat} {N:Nat} (h:Tm x X p A L n O l m0 m N):∃K ch gs ts,Tq m N K ch gs ts:=by
 have hml:=h.ml
 have hn1:=h.n1
 have hN1:=h.N1
 have hm1:0<m.length:=by rw[h.em];simp
 have hgl:=zBx m
 have hcl:(chosen m N).length=(grp m).length:=zIe m N
 have htr:∀i,Right (tb m N i):=fun i=>zDn m N i (by omega) hN1.2 (by omega)
 have htl:∀i,(tb m N i).length=N:=fun i=>zG5 _ _ _
 refine⟨(grp m).length,chosen m N,grp m,tb m N,rfl,rfl,rfl,hcl,rfl,zGr m N,by omega,by omega,htl,htr,fun g hg=> ?_,fun a c W hs=> ?_,fun i a W hs=> ?_⟩
 ·obtain⟨h1,h2,h3⟩:=zHg hg
  exact⟨h2,fun u hu=>h.lt u (h3 u hu)⟩
 ·exact zK2 (chosen m N) a _ c W hcl (by omega) hs (zGr m N)
 ·have hd:=zI8 (tb m N i) (htr i).top
  rw[htl i]at hd
  exact zLj (tb m N i) a N N W (htl i) (by omega) (by omega) hs (fun u hu=>⟨(htr i).one u hu,(htr i).top u hu⟩) (by omega)
end Al
namespace Al
open Go.RowKit Hf Bt Zr Ix Front Wg Ch Sl Sq Us St Tn Bk Rg Sm Sh
variable {x p A L:ByteArray} {X:List UInt8} {n O N K b o:Nat} {l m0 m ch:List Nat} {gs:List (List Nat)} {ts:Nat->List Nat} {m1 m2 m3 q1 q2:List Bool} {w w':World} {u:Value}
def zD3 (A:ByteArray) (m3 q2:List Bool) (ch t0 t1:List Nat):List (List Bool):=[m3,zC2 (bl A),q2,zAz false ch,delta t0,delta t1]
theorem zX
  (h:Tm x X p A L n O l m0 m N) (q:Tq m N K ch gs ts) (d:Hd3 X O m1 m2 m3) (s:Mn K q1 q2):(zD3 A m3 q2 ch (ts 0) (ts 1)++(List.range K).map (zBe p)).flatten=zAn X:=by
 have hk:(groups p).length=K:=by unfold groups;rw[h.es,<-q.eg];exact q.gl
 have hc:cho p=ch:=by unfold cho codes;rw[h.es,h.eA,<-h.eN];exact q.ec.symm
 have ht:∀i,tab p i=ts i:=fun i=>by unfold tab codes;rw[h.es,h.eA,<-h.eN,q.et]
 unfold zAn zIg zCg zD3
 rw[h.ep,hk,hc,ht,ht,h.eO,h.eA,q.cl,<-d.e3,<-d.e2,<-d.e1,<-s.e2,<-s.e1]
 simp only[List.flatten_append,List.flatten_cons,List.flatten_nil,List.append_nil,List.append_assoc,List.cons_append,List.nil_append]
theorem qAx
  (h:Tm x X p A L n O l m0 m N) (q:Tq m N K ch gs ts) (i:Nat) (g:List Nat) (hg:gs[i]? =some g) (k:Nat) (hk:ch[i]? =some k):g.flatMap (word (ts k))=zBe p i:=by
 have hc:cho p=ch:=by unfold cho codes;rw[h.es,h.eA,<-h.eN];exact q.ec.symm
 have ht:∀i,tab p i=ts i:=fun i=>by unfold tab codes;rw[h.es,h.eA,<-h.eN,q.et]
 have h1:=q.c1 k (List.mem_of_getElem? hk)
 unfold zBe groups zGb
 rw[h.es,<-q.eg,hc,ht,ht]
 simp only[List.getD_eq_getElem?_getD,hg,hk,Option.getD_some]
 obtain rfl|rfl:k=0\/k=1:=by omega
 ·rw[if_neg (by omega)]
 ·rw[if_pos rfl]
theorem qAw (q:Tq m N K ch gs ts) (i:Nat) (hi:i<K):∃g k,gs[i]? =some g/\ch[i]? =some k/\k<=1/\g.length<=10/\∀u∈g,u<N:=by
 have h1:i<gs.length:=by rw[q.gl];exact hi
 have h2:i<ch.length:=by rw[q.cl];exact hi
 have h3:=q.gm _ (List.getElem_mem h1)
 exact⟨_,_,List.getElem?_eq_getElem h1,List.getElem?_eq_getElem h2,q.c1 _ (List.getElem_mem h2),h3.1,h3.2⟩
theorem zPb (h:Tm x X p A L n O l m0 m N):(zAn X).length<=45000:=by
 have h0:=h.n0
 have h1:=h.n1
 have h2:=congrArg ByteArray.size h.ep
 have h3:p.size=n:=h.pn
 exact zLp X (by rw[h.ep,h3];exact h0) (by rw[h.ep,h3];omega)
theorem qDu (h:Hd3 X O m1 m2 m3):m3.length=96:=by rw[<-h.e3,<-h.e2,<-h.e1];simp only[List.length_append,zAc]
theorem qFl (h:Mn K q1 q2):q2.length=18:=by rw[<-h.e2,<-h.e1];simp only[List.length_append,zAc]
theorem qG4 {p:Option Addr} {v:Value} (h:Kit.Src w p [u,v]):∃b o,p=some ⟨b,o,none⟩/\w.cell? ⟨b,o,none⟩=some u/\w.cell? ⟨b,o+1,none⟩=some v:=by
 obtain⟨b,o,hp,h0⟩:=h 0 u rfl
 obtain⟨b',o',hp',h1⟩:=h 1 v rfl
 rw[hp]at hp'
 injection hp' with hp'
 injection hp' with e1 e2 _
 subst e1 e2
 exact⟨b,o,hp,h0,h1⟩
theorem zGs (h:w.cell? ⟨b,o,none⟩=some u) (hb:Below w.heap.size w w'):w'.cell? ⟨b,o,none⟩=some u:=(hb.cell (p:=⟨b,o,none⟩) (block_lt_of_cell h)).trans h
theorem zCq (h:w.cell? ⟨b,o,none⟩=some u) (hb:Below w.heap.size w w') (ob:Obj):(w'.alloc ob).cell? ⟨b,o,none⟩=some u:=zGs h (hb.alloc hb.size ob)
theorem zLf (W:World) (x:List Bool):∃W' b,W.alloc (.cells #[.string (Bt.pk x),.int .i64 (x.length:Int)] TBi)=W'/\W.heap.size=b/\W'.heap[b]? =some (.cells #[.string (Bt.pk x),.int .i64 (x.length:Int)] TBi (0,0))/\Below W.heap.size W W':=
 ⟨_,_,rfl,rfl,zAh W _,(Below.refl _ _).alloc (Nat.le_refl _) _⟩
structure Five (W:World) (b1 b2 b3 b4 b5:Nat) (x1 x2 x3 x4 x5:List Bool):Prop where
 h1:W.heap[b1]? =some (.cells #[.string (Bt.pk x1),.int .i64 (x1.length:Int)] TBi (0,0))
 h2:W.heap[b2]? =some (.cells #[.string (Bt.pk x2),.int .i64 (x2.length:Int)] TBi (0,0))
 h3:W.heap[b3]? =some (.cells #[.string (Bt.pk x3),.int .i64 (x3.length:Int)] TBi (0,0))
 h4:W.heap[b4]? =some (.cells #[.string (Bt.pk x4),.int .i64 (x4.length:Int)] TBi (0,0))
 h5:W.heap[b5]? =some (.cells #[.string (Bt.pk x5),.int .i64 (x5.length:Int)] TBi (0,0))
theorem Five.below {W W':World} {b1 b2 b3 b4 b5:Nat} {x1 x2 x3 x4 x5:List Bool} (h:Five W b1 b2 b3 b4 b5 x1 x2 x3 x4 x5) (hb:Below W.heap.size W W'):Five W' b1 b2 b3 b4 b5 x1 x2 x3 x4 x5:=
 ⟨zAb h.h1 hb,zAb h.h2 hb,zAb h.h3 hb,zAb h.h4 hb,zAb h.h5 hb⟩
abbrev TLi:TypeId:=70
theorem zW9 (W:World) (A:ByteArray) (m3 q2:List Bool) (ch t0 t1:List Nat):
  Kit.Own' LB (W.alloc (.cells (Kit.flat LB (zD3 A m3 q2 ch t0 t1)).toArray TBi)) W.heap.size TBi (some ⟨W.heap.size,0,none⟩) 6 6 (zD3 A m3 q2 ch t0 t1):=
 Kit.zNf W (zD3 A m3 q2 ch t0 t1) TBi W.heap.size (Nat.le_refl _) (by unfold maxLen;show 6<=_;omega)
theorem zUv {B:Nat} {a:Option Addr} {c:Nat} {ls:List (List Bool)} (h:Kit.Own' LB w B TBi a n c ls) (x:List Bool) (hB:B<=w.heap.size) (hl:n<=100000):
  ∃a' c' w',(Builtin.append_ #[TLi,TLi] TLi #[.slice a n c,.slice (some ⟨w.heap.size,0,none⟩) 1 1]).run Tryz.prog (w.alloc (.cells #[.string (Bt.pk x),.int .i64 (x.length:Int)] TBi))= .ok (.slice a' (n+1) c') w'/\
   Kit.Own' LB w' B TBi a' (n+1) c' (ls++[x])/\StB w w' B:=by
 have hr:Kit.Rd LB (w.alloc (.cells (LB.cl x).toArray TBi)) (some ⟨w.heap.size,0,none⟩) [x]:=Kit.zFo w x TBi
 have ho:Kit.Own' LB (w.alloc (.cells (LB.cl x).toArray TBi)) B TBi a n c ls:=h.alloc _
 obtain⟨a',c',w',h1,h2,h3⟩:=ho.app (ty:=TLi) zPo (some ⟨w.heap.size,0,none⟩) 1 1 [x] hr rfl (fun h=>by cases h) (by unfold maxLen;omega) (by omega) (by rw[zA];omega)
 have hb:Below w.heap.size w (w.alloc (.cells (LB.cl x).toArray TBi)):=(Below.refl _ _).alloc (Nat.le_refl _) _
 refine⟨a',c',w',h1,h2,⟨fun k h4 h5 h6=> ?_,?_⟩⟩
 ·refine(h3.block k (by rw[zA];omega) (fun e=> ?_)).trans (hb.block k h4)
  obtain⟨_,h7⟩:=h
  rcases h7 with⟨h7,_⟩|⟨g,cap,cur,hv,_,hg,_⟩
  ·injection h7 with h7 _ _
   subst h7
   simp[Value.ownBlock]at e
  ·injection hv with ha _ _
   subst ha
   simp[Value.ownBlock]at e
   subst e
   exact h6 _ _ hg
 ·exact(hb.mono hB).trans (Kit.zAq h3 (by rw[zA];omega) (fun k hk=>ho.block k hk))
theorem qHb (k:Nat) (hk:k<=1) (w:World):Calls Tryz.prog 10 #[.int .i64 (k:Int),.int .i64 2] w fun e w'=>e= .returned (.int .i64 (k:Int))/\w'=w:=by
 obtain rfl|rfl:k=0\/k=1:=by omega
 ·go_enter Tryz.func10,Tryz.ntmps10
  go_wp2
  go_ret
  exact⟨rfl,rfl⟩
 ·go_enter Tryz.func10,Tryz.ntmps10
  go_wp2
  go_ret
  exact⟨rfl,rfl⟩
end Al
namespace Al
open Go.RowKit Hf Bt Zr Ix Front Wg Ch Sl Sq Us St Tn Bk Rg Sm Sh
structure Tr (x d:ByteArray) (X:List UInt8) (p A L:ByteArray) (lb:List Bool) (n O N K u E i1 i2 i3 i4 M:Nat) (ch t0 t1 l m0 m:List Nat):Prop where
 ds:d.size<=100000
 i1l:i1<=100000
 i4l:i4<=100000
 ct:∀(a:Option Addr) (w:World),RdB w a [lb,zAn X]->Calls Tryz.prog 31 #[.slice a 2 2] w fun e w'=>e= .returned (.tuple #[.agg #[.string d,.int .i64 (E:Int)],.int .i64 0])/\Below w.heap.size w w'
 gO:∀w,Calls Tryz.prog 32 #[.string d,.int .i64 ((u+80:Nat):Int),.int .i64 16] w fun e w'=>e= .returned (.tuple #[.int .u64 (O:Int),.int .i64 0])/\w=w'
 um:∀w,Calls Tryz.prog 33 #[.string d,.int .i64 ((u+96:Nat):Int)] w fun e w'=>e= .returned (.tuple #[.string A,.int .i64 (i1:Int),.int .i64 0])/\Below w.heap.size w w'
 gK:∀w,Calls Tryz.prog 32 #[.string d,.int .i64 ((i1+3:Nat):Int),.int .i64 15] w fun e w'=>e= .returned (.tuple #[.int .u64 (K:Int),.int .i64 0])/\w=w'
 st:∀w,Calls Tryz.prog 34 #[.string d,.int .i64 ((i1+18:Nat):Int),.int .i64 (K:Int),.int .i64 2] w fun e w'=>∃a' c',e= .returned (.tuple #[.slice a' K c',.int .i64 (i2:Int),.int .i64 0])/\Kit.Own w' w.heap.size 3 a' K c' (ch.map ival)/\Below w.heap.size w w'
 d1:∀w,Calls Tryz.prog 35 #[.string d,.int .i64 (i2:Int),.int .i64 (N:Int)] w fun e w'=>∃a' c',e= .returned (.tuple #[.slice a' N c',.int .i64 (i3:Int),.int .i64 0])/\Kit.Own w' w.heap.size 3 a' N c' (t0.map ival)/\Below w.heap.size w w'
 d2:∀w,Calls Tryz.prog 35 #[.string d,.int .i64 (i3:Int),.int .i64 (N:Int)] w fun e w'=>∃a' c',e= .returned (.tuple #[.slice a' N c',.int .i64 (i4:Int),.int .i64 0])/\Kit.Own w' w.heap.size 3 a' N c' (t1.map ival)/\Below w.heap.size w w'
 tk:∀q,q<M->∀(a:Option Addr) (c:Nat) (w:World),Kit.Src w a ((tabs ch t0 t1 (q/10)).map ival)->(∀p,a=some p->p.block<w.heap.size)->
  Calls Tryz.prog 36 #[.slice a N c,.string d,.int .i64 ((i4+(zA0 (tabs ch t0 t1) m 0 q).length:Nat):Int)] w fun e w'=>e= .returned (.tuple #[.int .i64 ((m.getD q 0:Nat):Int),.int .i64 ((i4+(zA0 (tabs ch t0 t1) m 0 (q+1)).length:Nat):Int),.int .i64 0])/\Below w.heap.size w w'
 ee:i4+(zA0 (tabs ch t0 t1) m 0 M).length=E
 em:m=m0++[A.size+1]
 eN:N=A.size+2
 eM:m0.length+1=M
 mq:∀q,q<M->m.getD q 0<N/\(m.getD q 0+1=N↔q+1=M)
 KM:(M+9)/10=K
 M1:M<=300
 bq:∀q,q<=M->i4+(zA0 (tabs ch t0 t1) m 0 q).length<=200000
 cl:ch.length=K
 c1:∀y∈ch,y<=1
 zd:∀(a:Option Addr) (c:Nat) (w:World),Kit.Src w a (m0.map ival)->(∀p,a=some p->p.block<w.heap.size)->Ad a m0.length c->
  Calls Tryz.prog 37 #[.slice a m0.length c,.int .i64 360] w fun e w'=>∃a' c',e= .returned (.tuple #[.slice a' n c',.int .i64 0])/\Kit.Own w' w.heap.size 3 a' n c' (l.map ival)/\Below w.heap.size w w'
 fb:∀(a:Option Addr) (c:Nat) (w:World),Kit.Src w a (l.map ival)->Calls Tryz.prog 38 #[.string A,.slice a n c] w fun e w'=>e= .returned (.tuple #[.string L,.int .i64 0])/\Below w.heap.size w w'
 ub:∀w,Calls Tryz.prog 39 #[.string L,.int .i64 (O:Int)] w fun e w'=>e= .returned (.tuple #[.string p,.int .i64 0])/\Below w.heap.size w w'
 up:∀w,Calls Tryz.prog 40 #[.string p,.int .i64 100] w fun e w'=>e= .returned (.tuple #[.string x,.int .i64 0])/\Below w.heap.size w w'
theorem qEp {x:ByteArray} {X:List UInt8} {p A L:ByteArray} {n O:Nat} {l m0 m:List Nat} {N K:Nat} {ch:List Nat} {gs:List (List Nat)} {ts:Nat->List Nat}
  (h:Tm x X p A L n O l m0 m N) (q:Tq m N K ch gs ts) (hx:x.size<=60) (lb:List Bool) (u:Nat) (hu:lb.length=u) (hu2:u<=64):∃d E i1 i2 i3 i4 M,Tr x d X p A L lb n O N K u E i1 i2 i3 i4 M ch (ts 0) (ts 1) l m0 m:=by
 have hc:cho p=ch:=by unfold cho codes;rw[h.es,h.eA,<-h.eN];exact q.ec.symm
 have ht:∀i,tab p i=ts i:=fun i=>by unfold tab codes;rw[h.es,h.eA,<-h.eN,q.et]
 have hp0:0<p.size:=by rw[h.pn];exact h.n0
 have hN:=h.N1
 have hAN:=h.eN
 have hn1:=h.n1
 have hk1:=q.k1
 have hbl:=zPb h
 obtain⟨E,hE⟩:=zB (u+(zAn X).length)
 obtain⟨d,hd⟩:=zB (pk (lb++zAn X))
 have hll:(lb++zAn X).length=E:=by rw[List.length_append,hu,hE]
 have hds:d.size<=100000:=by rw[<-hd,zDu];unfold zA2;omega
 have hat:At d u (zAn X):=by
  have h1:=zVo lb (zAn X) []
  rw[List.append_nil,hu,hd]at h1
  exact h1
 rw[zE6,h.ep,h.eO,h.eA]at hat
 have ha2:=At.right hat (j:=u+48) (by rw[zAc])
 have ha3:=At.right ha2 (j:=u+80) (by rw[zAc])
 have a3:=At.left ha3
 have ha4:=At.right ha3 (j:=u+96) (by rw[zAc])
 have a4:=At.left ha4
 obtain⟨i1,hi1⟩:=zB (u+96+(zC2 (bl A)).length)
 have ha5:=At.right ha4 hi1
 unfold hdB at ha5
 rw[hc,ht,ht,q.cl,List.append_assoc,List.append_assoc,List.append_assoc,List.append_assoc]at ha5
 have ha6:=At.right ha5 (j:=i1+3) (by rw[zAc])
 have a6:=At.left ha6
 have ha7:=At.right ha6 (j:=i1+18) (by rw[zAc])
 have a7:=At.left ha7
 obtain⟨i2,hi2⟩:=zB (i1+18+(zAz false ch).length)
 have ha8:=At.right ha7 hi2
 have a8:=At.left ha8
 obtain⟨i3,hi3⟩:=zB (i2+(delta (ts 0)).length)
 have ha9:=At.right ha8 hi3
 have a9:=At.left ha9
 obtain⟨i4,hi4⟩:=zB (i3+(delta (ts 1)).length)
 have a10:=At.right ha9 hi4
 unfold bdB at a10
 rw[hc,ht,ht,h.es]at a10
 have b10:=At.bound a10
 obtain⟨M,hM⟩:=zB m.length
 have hbd:∀i,i<=M->i4+(zA0 (tabs ch (ts 0) (ts 1)) m 0 i).length<=i4+(zA0 (tabs ch (ts 0) (ts 1)) m 0 M).length:=fun i hi=>by
  obtain⟨r,rfl⟩:∃r,M=i+r:=⟨M-i,by omega⟩
  rw[body_add,List.length_append];omega
 have htb:∀i,tabs ch (ts 0) (ts 1) i=ts (ch.getD i 0)\/True:=fun _=> .inr trivial
 have htl:∀i,(tabs ch (ts 0) (ts 1) i).length=N:=fun i=>by unfold tabs;split<;>exact q.tl _
 have htr:∀i,Right (tabs ch (ts 0) (ts 1) i):=fun i=>by unfold tabs;split<;>exact q.tr _
 have hee:i4+(zA0 (tabs ch (ts 0) (ts 1)) m 0 M).length=E:=by
  have e1:=congrArg List.length (zE6 X)
  rw[h.ep,h.eO,h.eA]at e1
  unfold hdB bdB at e1
  rw[hc,ht,ht,h.es,hM]at e1
  simp only[List.length_append,zAc]at e1
  omega
 have hml:=h.ml
 have hmq:∀i,i<M->m.getD i 0<N/\(m.getD i 0+1=N↔i+1=M):=fun i hi=>by
  have h1:=zTc p hp0 i (by rw[h.es,hM];exact hi)
  rw[h.es,hM,show codes p=N by unfold codes;rw[h.eA,h.eN]]at h1
  exact h1
 have hA256:=h.A1
 refine⟨d,E,i1,i2,i3,i4,M,hds,?_,?_,fun a w hr=> ?_,fun w=> ?_,fun w=> ?_,fun w=> ?_,fun w=> ?_,fun w=> ?_,fun w=> ?_,fun i hi a c w hs hb=> ?_,hee,h.em,h.eN,?_,hmq,?_,by omega,fun i hi=> ?_,q.cl,q.c1,fun a c w hs hb had=> ?_,fun a c w hs=> ?_,fun w=> ?_,fun w=> ?_⟩
 ·omega
 ·omega
 ·have h1:=zFs a 2 2 [lb,zAn X] w rfl (by omega) (by omega) hr (by simp;omega)
  rw[show[lb,zAn X].flatten=lb++zAn X by simp]at h1
  unfold zAe at h1
  rw[hd,hll]at h1
  exact h1
 ·have h1:=zB7 d (u+80) 16 (by omega) (by have:=At.bound a3;rw[zAc]at this;exact this) (by omega) w
  rw[At.val a3 (by have:=h.O1;omega)]at h1
  exact h1
 ·have h0:(bl A)[0]? =some ((bl A)[0]'(by rw[zB2];omega)):=List.getElem?_eq_getElem _
  have h1:=zN8 d (u+96) (bl A) (by omega) ((bl A)[0]'(by rw[zB2];omega)) (zVk A _ (List.getElem_mem _)) (List.getElem_mem _) a4 w
  rw[show(⟨(alpha (bl A) 256).toArray⟩:ByteArray)=A by have:=zVu p;rw[h.eA]at this;exact this,hi1]at h1
  exact h1
 ·have h1:=zB7 d (i1+3) 15 (by omega) (by have:=At.bound a6;rw[zAc]at this;exact this) (by omega) w
  rw[At.val a6 (by omega)]at h1
  exact h1
 ·have h1:=zOa d (i1+18) ch K w q.cl (by omega) (by omega) q.c1 a7
  rw[hi2]at h1
  exact h1
 ·have h1:=zI7 d i2 (ts 0) N w (q.tl 0) (by omega) (by omega) (by omega) (fun y hy=>⟨(q.tr 0).one y hy,(q.tr 0).top y hy⟩) a8
  rw[hi3]at h1
  exact h1
 ·have h1:=zI7 d i3 (ts 1) N w (q.tl 1) (by omega) (by omega) (by omega) (fun y hy=>⟨(q.tr 1).one y hy,(q.tr 1).top y hy⟩) a9
  rw[hi4]at h1
  exact h1
 ·obtain⟨h1,h2⟩:=zT9 a10 (by rw[hM];exact hi)
  have h3:=zO2 _ a N c d _ (m.getD i 0) w (htl (i/10)) hs hb (htr (i/10)) (hmq i hi).1 (by omega) h1
  rw[h2,List.length_append,zCu,<-Nat.add_assoc]
  exact h3
 ·rw[<-hM,h.em];simp
 ·have h1:=q.gl
  rw[q.eg,zBx,hM]at h1
  exact h1
 ·have:=hbd i hi;rw[hee]at this;omega
 ·have h1:=Zr.zFi m0 360 a m0.length c w rfl (by have:=h.em;have:=congrArg List.length h.em;simp at this;omega) hs hb had (fun y hy=>by have:=h.lt y (by rw[h.em];simp[hy]);omega) (by rw[show D m0=l by rw[<-h.e0];exact(zP0 p).trans h.el,<-h.el,zDb,h.pn];omega) (by omega)
  rw[show D m0=l by rw[<-h.e0];exact(zP0 p).trans h.el,show l.length=n by rw[<-h.el,zDb,h.pn]]at h1
  exact h1
 ·have h0:=zK9 p hp0
  rw[h.el,show al p=A.data.toList by rw[<-h.eA];rfl,show la p=L.data.toList by rw[<-h.eL];rfl]at h0
  have h1:=zLq A (by omega) a c n (l.map fun k:Nat=>(k:Int)) (by rw[List.length_map,<-h.el,zDb,h.pn]) (by omega) w (by rw[List.map_map];exact hs)
  refine h1.mono ?_
  rintro e w' ⟨rfl,hb⟩
  rw[h0.1,h0.2]
  exact⟨rfl,hb⟩
 ·have h1:=zHm L O (by rw[<-h.eL,zCp,h.pn];omega) (by rw[<-h.eL,zCp,h.pn];exact h.O1) w
  have h2:=zTa p hp0
  rw[h.eL,h.eO]at h2
  rw[h2]at h1
  exact h1
 ·have h1:=Rle.zM0 p 100 (by rw[h.pn];omega) (by omega) (by omega) w
  have hpd:p.data.toList=Rle.pack X:=by rw[<-h.ep];rfl
  have hXl:X.length<=60:=by rw[<-h.eX];simpa using hx
  unfold Rle.zIi at h1
  rw[hpd,Rle.zQk X _ (by omega),Rle.zI9 X _ (by omega),<-h.eX,Rle.zJ5]at h1
  exact h1
end Al
end Go.Proofs.YtppnakkaljbmbaaGreatDoor
