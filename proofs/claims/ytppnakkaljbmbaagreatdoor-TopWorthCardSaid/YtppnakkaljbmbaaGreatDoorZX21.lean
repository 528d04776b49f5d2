/- Steps of a proof; no condition beyond what each states. -/
import Derived.Test.YtppnakkaljbmbaaGreatDoorZX00
import Derived.RangeFuncBound
import Derived.RangeFuncNested
import Derived.Test.YtppnakkaljbmbaaGreatDoorZX20
set_option linter.unusedVariables false
set_option linter.unusedSimpArgs false
set_option maxRecDepth 100000
set_option maxHeartbeats 8000000
open List renaming length->kG
open Go.Proofs.YtppnakkaljbmbaaGreatDoor.Kit renaming Own->yg
open Go.RowKit
open Go.Proofs.Tryz
open Go.Value renaming int->qV,string->qW,slice->qX,pointer->qY,tuple->qZ,bool->qc
open Go.IntKind renaming i64->qj,u8->ql
open Go.Obj renaming cells->qm,deferred->qo
open Go.Ending renaming returned->qp
open Option renaming some->qw,none->qx
open Go renaming World->qy,Value->qz,TypeId->yA,Addr->yB,Calls->yC,undef->yJ
open Bool renaming true->yD,false->yE
open Decidable renaming decide->yF
open Go.Proofs.Tryz renaming prog->yG
open Go.RowKit renaming Hid->yH,Below->yI
open List renaming replicate->yL
open Go.RowKit.Below renaming refl->yN
open And renaming intro->yO
namespace Go.Proofs.YtppnakkaljbmbaaGreatDoor
namespace Bk
open Hf Bt Zr Front Wg Ch Sq St Tn
def tabs (ch a b:List Nat) (k:Nat):List Nat:=if ch.getD k 0=1 then b else a
theorem zT9 {a:ByteArray} {i q:Nat} {T:Nat->List Nat} {m:List Nat} (h:At a i (zA0 T m 0 (kG m))) (c:q<kG m):
  At a (i+kG (zA0 T m 0 q)) (word (T (q/10)) (m.getD q 0))/\zA0 T m 0 (q+1)=zA0 T m 0 q++word (T (q/10)) (m.getD q 0):=by
 obtain⟨r,b⟩:∃r,kG m=q+(r+1):=⟨kG m-q-1,za⟩;rw[b,body_add,qQc,zJa]at h;refine⟨At.left (At.right h rfl),?_⟩;rw[body_add,qQc,show(1:Nat)=0+1 from rfl,zJa];simp[zA0]
theorem zSg (R D z N i tc cc M:Nat) (tp cq:Option yB) (vs:List qz) (a:ByteArray) (ch t0 t1 m:List Nat) (w:qy) (h:RD w R ⟨a,i,tp,2,tc,cq,z,cc,N⟩) (hG:Gr w D tp 2 tc vs [t0,t1]) (hO:yg w D 3 cq z cc (ch.map ival)) (hR:R<D) (hD:D<=w.heap.size) (hs:a.size<=100000000) (b8:∀x∈ch,x<=1)
  (bb:Right t0) (bc:Right t1) (b9:kG t0=N) (ba:kG t1=N) (hM:kG m=M) (b7:(M+9)/10=z) (bg:0<M) (bh:M<=100000) (hN:0<N) (bi:N<=258) (hm:∀q,q<M->m.getD q 0<N/\(m.getD q 0+1=N↔q+1=M)) (ha:At a i (zA0 (tabs ch t0 t1) m 0 (kG m))):
  yC yG 318 #[qY (qw ⟨R,0,qx⟩)] w fun e w'=>∃mp mc,e=qp (qX mp M mc)/\RD w' R ⟨a,i+kG (zA0 (tabs ch t0 t1) m 0 (kG m)),tp,2,tc,cq,z,cc,N⟩/\
   yg w' w.heap.size 3 mp M mc (m.map ival)/\Upd w w' R:=by
 obtain⟨E,hE⟩:=zB w.heap.size;have am:R<E:=by rw[<-hE];exact h.lt
 obtain⟨cg,rfl,_,_,bj,_,_⟩:=hO.at_ za;obtain⟨tg,rfl,_,_,bp,_,_⟩:=hG.own.at_ za;have aq:kG ch=z:=by have:=hO.len;rwa[qQi]at this
 obtain⟨az,HM,b0,a4,b5,ay,R0,R1,L0⟩:=yY (fun(q:Nat) (hq:q<kG m)=>zT9 ha hq) hM hm b7 aq b8 bb bc b9;obtain⟨L1,HE,K0,G0,O0,HD⟩:=yU ba hE h hG hO hD;have x3:=h.c3;have l3:=h.l3;simp only at x3 l3;have bf:z<=10000:=za
 have b2:0<z:=za
 have au:=zH (fun(e:Int) (w:qy)=>zJv e w);rw[hE];clear h hG hO ha hM hm b7 aq b8 bb bc b9 ba hE hD;go_enter func318,ntmps318;go_wp2;clear x3 l3;go_loopw [2,13] (fun ov iv wr=>∃(k mc:Nat) (mp:Option yB),k<z/\iv=qV qj k/\ov=qX mp (10*k) mc/\yH (RD wr R ⟨a,i+kG (zA0 (tabs ch t0 t1) m 0 (10*k)),qw ⟨tg,0,qx⟩,2,tc,qw ⟨cg,0,qx⟩,z,cc,N⟩)/\yH (yg wr E 3 mp (10*k) mc ((m.take (10*k)).map ival))/\yH (Upd w wr R)) (fun _ iv _=>z-(intOf iv).toNat)
 case atStart=>exact⟨0,0,qx,b2,rfl,rfl,K0,zH (Kit.Own.start _ _ _),zH (Upd.refl _ _)⟩
 case round=>
  obtain⟨k,mc,mp,hk,rfl,rfl,o,d,b⟩:=hrel;have ho:=zEl O0.out b.out hR;obtain⟨g',r,_,_,_,l,_⟩:=ho.at_ za;obtain rfl:cg=g':=by injection r with r;injection r
  have L:k<kG ch:=by rw[b5.out];exact hk
  obtain⟨x,hx⟩:=zB (ch[k]);have bu:x<=1:=by rw[<-hx];exact ay.out _ (qQ L)
  have x0:wr.cell? ⟨cg,k,qx⟩=qw (qV qj (x:Int)):=by rw[l k hk,qP2,qPu L,hx];rfl
  obtain⟨tk,ak,ad,ac,ah⟩:∃tk,tabs ch t0 t1 k=tk/\Right tk/\kG tk=N/\[t0,t1][x]? =qw tk:=by
   unfold tabs;rw[qPw,qPu L,qQ4,hx];obtain rfl|rfl:x=0\/x=1:=za
   ·exact⟨t0,rfl,R0.out,L0.out,rfl⟩
   ·exact⟨t1,rfl,R1.out,L1.out,rfl⟩
  obtain⟨ar,Y,b6⟩:=yR ak (yO ad ac) ah;have bd:10*k<M:=by have:=a4.out;omega
  clear ho l hx ak ad ac ah L;go_wp2;clear x0;go_loopw [2,18] (fun ov iv wr=>∃(j mc:Nat) (mp:Option yB),j<=10/\10*k+j<M/\iv=qV qj j/\ov=qX mp (10*k+j) mc/\yH (RD wr R ⟨a,i+kG (zA0 (tabs ch t0 t1) m 0 (10*k+j)),qw ⟨tg,0,qx⟩,2,tc,qw ⟨cg,0,qx⟩,z,cc,N⟩)/\yH (yg wr E 3 mp (10*k+j) mc ((m.take (10*k+j)).map ival))/\yH (Upd w wr R)) (fun _ iv _=>10-(intOf iv).toNat)
  case atStart=>exact⟨0,mc,mp,za,za,rfl,rfl,o,d,b⟩
  case round=>
   clear o d b;obtain⟨j,mc,mp,hj,a1,rfl,rfl,o,d,b⟩:=hrel;by_cases bo:j<10
   ·obtain⟨q,hq⟩:=zB (10*k+j);rw[hq]at o d a1;have b3:q/10=k:=za
    have V:q<kG m:=by rw[HM.out];exact a1
    obtain⟨F,K⟩:=az.out q V;rw[b3,ar.out]at F K;obtain⟨s,a6⟩:=zB (m.getD q 0);obtain⟨ai,S⟩:=b0.out q a1;rw[a6]at F K ai S;have H:m.take (q+1)=m.take q++[s]:=by
     rw[qQo V,<-a6,qPw,qPu V];rfl
    obtain⟨p,hp⟩:=zB (i+kG (zA0 (tabs ch t0 t1) m 0 q));have Z:=yP (i+kG (zA0 (tabs ch t0 t1) m 0 (q+1))=p+tk.getD s 0) (by rw[K,qPx,zCu,<-hp];omega);have av:=zH H;rw[hp]at o F;have a3:=zXz G0.out b.out hR;obtain⟨G,gc,hv,ax,O⟩:=a3.each x tk b6.out;obtain⟨g',r,_,_,_,l,_⟩:=a3.own.at_ za;obtain rfl:tg=g':=by injection r with r;injection r
    have LT:=yP ((loadVar 23 ⟨tg,x,qx⟩).run yG wr.drew= .ok (qX (qw ⟨G,0,qx⟩) N gc) wr.drew) (Kit.zAg (by show wr.cell? ⟨tg,x,qx⟩=_;rw[l x za,hv,Y.out.2]) zf zf);have a9:G<wr.drew.heap.size:=by obtain⟨_,cs,f,hh⟩:=zXc O;exact zAd hh
    have ap:=zH (zO2 tk (qw ⟨G,0,qx⟩) N gc a p s wr.drew Y.out.2 (O.src.below (show yI wr.heap.size wr wr.drew from(yN _ _).drew)) (fun p hp=>by injection hp with hp;rw[<-hp];exact a9) Y.out.1 ai hs F);have B:=yP (RD wr.drew R ⟨a,p,qw ⟨tg,0,qx⟩,2,tc,qw ⟨cg,0,qx⟩,z,cc,N⟩) o.out;obtain⟨UD,OD,ag,HQ⟩:=yS (b.out.trans (Upd.drew wr R)) (d.out.below (show yI wr.heap.size wr wr.drew from(yN _ _).drew) (qPq _)) S hq;clear o d b F K H a6 hp a3 hv ax O l a9 S hq;go_wp2;refine zS [] (fun _=>True) [0,1,2,4,0,24,32,0,128,256,512,1024,0,4096,8192,16384,32768,67648,131072,262144,262144,262144,1048575,6291455,16777215] 25<|zp [0,1,2,3,4,5,6,7,8,9,10,11,12,13,14,15,16]<|zk 21 (zP R 0)<|zk 22 (zP R 0)<|zk 23 (zP R 2)<|zt 24 (qX (qw ⟨tg,0,qx⟩) 2 tc) (zl 60 23 (B.out.l2))<|zk 25 (zI x)<|zt 26 (zP tg x) (Kit.zBo (t:=60) (x:=(.tmp 24)) (y:=(.tmp 25)) (g:=tg) (n:=2) (c:=tc) (k:=x) rfl zf zf za underlying60 (fun _=>sizeOf23 _) _)<|zt 27 (qX (qw ⟨G,0,qx⟩) N gc) (zl 23 26 (LT.out))<|zk 28 (zP R 0)<|zk 29 (zP R 0)<|zk 30 (zP R 0)<|zk 31 (zP R 0)<|zt 32 (qW a) (zl 9 31 (B.out.l0))<|zk 33 (zP R 0)<|zk 34 (zP R 0)<|zk 35 (zP R 0)<|zk 36 (zP R 1)<|zt 37 (zI p) (zl 3 36 (B.out.l1))<|zn<|zx 17 38 36 #[qX (qw ⟨G,0,qx⟩) N gc,qW a,qV qj ((p:Nat):Int)] ap.out<| ?_
    rintro e w8 ⟨rfl,I⟩;refine⟨_,rfl,.inr (.inr trivial),?_⟩;refine zp [18,19,20,21,22,23,24]<|zk 20 (qZ #[qV qj (s:Int),qV qj ((p+tk.getD s 0:Nat):Int),qV qj 0])<|zk 39 (zI s)<|zk 40 (qV qj ((p+tk.getD s 0:Nat):Int))<|zk 41 (qV qj 0)<|zk 5 (zI s)<|zk 6 (qV qj ((p+tk.getD s 0:Nat):Int))<|zk 7 (qV qj 0)<|zn<|zE<| ?_
    simp only[zP,zI,Act.put,qPz,qPy,qP0];rw[HQ.out];have af:=B.out.lt;obtain⟨K8,U8,O8⟩:=yR (B.out.below I) (UD.out.trans (Upd.of_below I (qP6 af))) (OD.out.below I (qPq _));clear I ap B UD OD af LT;obtain⟨p2,a2⟩:=zB (p+tk.getD s 0);rw[a2]at Z;rw[a2];clear a2;have ao:=zH (zIc R p2 _ w8 K8.out);go_wp2_with fail;(with_reducible refine ao.out.mono ?_);rintro e w9 ⟨rfl,an,hu⟩;have K9:=yP (RD w9 R ⟨a,p2,qw ⟨tg,0,qx⟩,2,tc,qw ⟨cg,0,qx⟩,z,cc,N⟩) an;have U9:=zH (U8.out.trans hu);have aj:=zEl O8.out hu am;clear an hu ao K8 U8 O8;have aa:E<=w9.heap.size:=by have:=U9.out.size;rw[HE.out]at this;exact this
    obtain⟨W,X,b4,a7,a8,P⟩:=zMb aj s za aa;have u:=K9.out.keep (P.block R za);have ae:=zH (Upd.bel U9.out P HE.out am);have ab:=yP (yg b4 E 3 W (q+1) X ((m.take (q+1)).map ival)) (by rw[av.out];exact a8);have x3:=u.c3;have x4:=u.c4;have l3:=u.l3;have l4:=u.l4;simp only at x3 x4 l3 l4;have KK:=zH u;have bq:IntKind.i64.wrap ((N:Int)-1)=(N:Int)-1:=qQb _ ⟨za,za⟩;have br:IntKind.i64.wrap ((z:Int)-1)=(z:Int)-1:=qQb _ ⟨za,za⟩;clear K9 U9 aj a8 P u aa;by_cases a0:s+1=N
    ·have a5:q+1=M:=ag.out.1 a0;have bn:((k:Int)==(z:Int)-1)=yD:=by have:=a4.out;have:=HQ.out;simp;omega
     have b1:((s:Int)==(N:Int)-1)=yD:=zq
     go_wp2_with (at_builtin;refine Kit.zAr rfl (.tmp 48) (.tmp 50) 23 rfl rfl rfl a7 ?_);(with_reducible refine(au.out _ _).mono ?_);rintro e bw ⟨rfl,rfl⟩;go_wp2;go_ret;refine⟨W,X,rfl,?_,?_,ae.out⟩
     ·have:=Z.out;rw[a5,<-HM.out]at this;rw[this];exact KK.out
     ·have:=ab.out;rw[a5,<-HM.out,qTg]at this;rw[<-HM.out];exact this
    ·have b1:((s:Int)==(N:Int)-1)=yE:=zq
     have a5:q+1<M:=by
      have:=ag.out.2;rcases qP8 (q+1) M with h|h
      ·exact h
      ·exact absurd (this za) a0
     go_wp2_with (at_builtin;refine Kit.zAr rfl (.tmp 48) (.tmp 50) 23 rfl rfl rfl a7 ?_);go_roundw
     case rel=>exact⟨j+1,X,W,za,by have:=HQ.out;omega,by go_num,by rw[<-HQ.out];rfl,by rw[<-qR2,HQ.out,Z.out];exact KK,by rw[<-qR2,HQ.out];exact ab,ae⟩
     case measure=>simp only[intOf];omega
   ·obtain rfl:j=10:=za
    have bk:k+1<z:=by have:=a4.out;omega
    rw[show((10:Nat):Int)=(10:Int)from rfl];go_wp2;go_roundw
    case rel=>exact⟨k+1,mc,mp,za,by go_num,rfl,o,d,b⟩
    case measure=>simp only[intOf];omega
end Bk
namespace Rle
variable {w w':qy} {B b:Nat} {v:qz}
abbrev TB:yA:=120
abbrev TY:yA:=5
theorem qBz:(prog.info? TB).map (·.size)=qw 2:=zf
theorem qHg:liesAt yG prog.depth TB (2/prog.cellsOf TB) 0 TB 1=yD:=zf
theorem qB7:(prog.info? TY).map (fun i=>(i.zero,i.size,i.bytes))=qw (qw (qV ql 0),1,1):=zf
theorem zVi (b:Nat) (w:qy) (c:w.cell? ⟨b,0,qx⟩=qw (qY (qw ⟨b,0,qx⟩))):
  yC yG 140 #[qY (qw ⟨b,0,qx⟩)] w fun e w'=>e=qp (qZ #[])/\w'=w:=by
 obtain⟨j,a,_⟩:=Option.map_eq_some_iff.1 qBz;go_enter func140,ntmps140;go_wp2;rw[Lib.run_neq_ptr_same w _ underlying118 a];go_wp2;go_end0;exact⟨rfl,rfl⟩
theorem zS6 (b:Nat) (w:qy) (g:w.cell? ⟨b,0,qx⟩=qw (qY qx)) (c:w.shape? b=qw (TB,2)) (f:w.frozen? ⟨b,0,qx⟩=yE):
  yC yG 140 #[qY (qw ⟨b,0,qx⟩)] w fun e w'=>e=qp (qZ #[])/\w'=w.setCell ⟨b,0,qx⟩ (qY (qw ⟨b,0,qx⟩)):=by
 obtain⟨j,d,a⟩:=Option.map_eq_some_iff.1 qBz;go_enter func140,ntmps140;go_wp2;rw[Lib.run_to_unsafe w ⟨b,0,qx⟩ underlying118 underlying318 d (by rw[a];decide) c (Nat.zero_lt_succ 1)];simp only[Result.andThen];rw[Oper.upon_value];go_wp2;rw[run_callFunc_extern func190 zf zf zf (e:=Extern.AbiNoEscape.same) zf];rw[Lib.run_noEscape];simp only[Result.andThen];rw[Oper.upon_value];go_wp2;rw[Lib.run_from_unsafe w ⟨b,0,qx⟩ underlying318 underlying118 d c qHg];simp only[Result.andThen];rw[Oper.upon_value];go_wp2;go_end0;exact⟨rfl,rfl⟩
theorem zCk (B b:Nat) (bs:List qz) (w:qy) (h:Lib.IsBuilder TB TY B b bs w):
  yC yG 140 #[qY (qw ⟨b,0,qx⟩)] w fun e w'=>e=qp (qZ #[])/\Lib.BuilderAt TB TY B b (qY (qw ⟨b,0,qx⟩)) bs w'/\yI B w w'/\Lib.OthersKept TY (qw b) w w'/\w.heap.size<=w'.heap.size:=by
 rcases h with h|h
 ·refine(zS6 b w h.cell0 h.shape h.frozen0).mono ?_;rintro e w' ⟨rfl,rfl⟩;exact⟨rfl,h.used _,(yN B w).setCell (p:=⟨b,0,qx⟩) h.1 _,(Lib.OthersKept.refl _ _ w).setCell ⟨b,0,qx⟩ rfl _,by simp[World.setCell]⟩
 ·refine(zVi b w h.cell0).mono ?_;rintro e w' ⟨rfl,rfl⟩;exact⟨rfl,h,yN B _,Lib.OthersKept.refl _ _ _,qPq _⟩
theorem zIw {e:yA} {n:Nat} {xs:List qz} (h:w.ownsRow B e 1 v n xs):∀g,v.ownBlock=qw g->∃c f,w.heap[g]? =qw (qm c e f):=by
 intro g d;rcases h.2 with⟨rfl,_⟩|⟨g',i,a,rfl,_,b,_⟩
 ·simp[Value.ownBlock]at d
 ·simp[Value.ownBlock]at d;subst d;exact⟨a,_,b⟩
theorem zAd {o:Obj} (h:w.heap[b]? =qw o):b<w.heap.size:=(qQ5.1 h).1
def Bld (w:qy) (B b:Nat) (l:T):Prop:=Lib.IsBuilder TB TY B b (Lib.byteCells l) w
theorem byteCells_append (l m:T):Lib.byteCells (l++m)=Lib.byteCells l++Lib.byteCells m:=by unfold Lib.byteCells;simp
theorem byteCells_length (l:T):kG (Lib.byteCells l)=kG l:=by unfold Lib.byteCells;simp
theorem byteCells_one (c:UInt8):Lib.byteCells [c]=[qV ql (c.toNat:Int)]:=by unfold Lib.byteCells;rfl
theorem zPk (s:ByteArray):Lib.strCells s=Lib.byteCells s.data.toList:=by unfold Lib.strCells Lib.byteCells;simp
theorem zE7 (B b:Nat) (l:T) (c:UInt8) (w:qy) (h:Bld w B b l) (P:kG l+1<=1000000000) (V:B<=w.heap.size):
  yC yG 74 #[qY (qw ⟨b,0,qx⟩),qV ql (c.toNat:Int)] w fun e w'=>e=qp .nilIface/\Bld w' B b (l++[c])/\yI B w w'/\Lib.OthersKept TY (qw b) w w'/\w.heap.size<=w'.heap.size:=by
 obtain⟨N,hi,G,t,x⟩:=qR0 qB7;have n:=byteCells_length l;unfold Bld at h;obtain⟨bs,o⟩:=zB (Lib.byteCells l);rw[o]at h n;have O:kG bs+1<=1000000000:=za
 obtain⟨R,F⟩:=yQ n o;clear n o;go_enter func74,ntmps74;go_wp2_with (go_at_call 140;refine(zCk B b bs _ h).mono ?_);rintro e q ⟨rfl,L,m,s,W⟩;obtain⟨I,v,f,a,hne⟩:=L;have c0:q.cell? ⟨b,0,qx⟩=qw (qY (qw ⟨b,0,qx⟩)):=by rw[Lib.cell_of_heap f];rfl
 have c1:q.cell? ⟨b,1,qx⟩=qw v:=by rw[Lib.cell_of_heap f];rfl
 go_wp2_with (at_builtin;refine wpList_append_own _ rfl _ _ 109 rfl B TY N (qV ql 0) 1 1 underlying109 hi G t x rfl z8 _ _ _ rfl (a.alloc _) ⟨q.heap.size,0,qx⟩ 1 1 [qV ql (c.toNat:Int)] rfl rfl ?c1 ?c2 ?c3 ?c4 ?c5 ?_)
 case c1=>
  intro j u z
  match j,z with
  |0,z=>simp at z;subst z;simp[Addr.add]
 case c2=>intro u K;simp at K;subst K;rfl
 case c3=>unfold maxLen;omega
 case c4=>exact za
 case c5=>have:=m.size;simp;omega
 intro v' w2 H y _;have r:b<q.heap.size:=zAd f;have i:w2.heap[b]? =qw (qm #[qY (qw ⟨b,0,qx⟩),v] TB):=by
  rw[y.block b zq (fun e=>hne e.symm),Lib.alloc_old q _ b r];exact f
 have X:w2.cell? ⟨b,0,qx⟩=qw (qY (qw ⟨b,0,qx⟩)):=by rw[Lib.cell_of_heap i];rfl
 have Y:w2.cell? ⟨b,1,qx⟩=qw v:=by rw[Lib.cell_of_heap i];rfl
 have Z:w2.frozen? ⟨b,1,qx⟩=yE:=Lib.frozen_of_heap i 1;obtain⟨g,d,rfl⟩:∃g d,v'=qX (qw ⟨g,0,qx⟩) (kG bs+1) d:=by
  rcases H.2 with⟨_,h0⟩|⟨g,d,S,hv,_⟩
  ·omega
  ·exact⟨g,d,hv⟩
 go_wp2;go_ret;refine⟨rfl,.inr ?_,?_,((s.alloc _).grown y (zIw (a.alloc _))).setCell ⟨b,1,qx⟩ rfl _,by have:=y.size;simp at this;simp[World.setCell];omega⟩
 ·rw[byteCells_append,byteCells_one,F.out];exact Lib.BuilderAt.put (T:=TB) (e:=TY) I i (bs':=bs++[qV ql (c.toNat:Int)]) (by simpa using H) z8
 ·exact((m.alloc (by have:=m.size;omega) _).grown y (by have:=m.size;simp;omega) (fun k M=>(a.lt k M).1)).setCell (p:=⟨b,1,qx⟩) I _
theorem zB8 (B b:Nat) (l:T) (s:ByteArray) (w:qy) (h:Bld w B b l) (N:kG l+s.size<=1000000000) (R:B<=w.heap.size):
  yC yG 62 #[qY (qw ⟨b,0,qx⟩),qW s] w fun e w'=>e=qp (qZ #[qV qj s.size,.nilIface])/\Bld w' B b (l++s.data.toList)/\yI B w w'/\Lib.OthersKept TY (qw b) w w'/\w.heap.size<=w'.heap.size:=by
 obtain⟨L,hi,x,r,t⟩:=qR0 qB7;have f:=byteCells_length l;unfold Bld at h;obtain⟨bs,i⟩:=zB (Lib.byteCells l);rw[i]at h f;have M:kG bs+s.size<=1000000000:=za
 obtain⟨O,u⟩:=yQ f i;clear f i;go_enter func62,ntmps62;go_wp2_with (go_at_call 140;refine(zCk B b bs _ h).mono ?_);rintro e y ⟨rfl,I,m,o,S⟩;obtain⟨G,v,c,a,hne⟩:=I;have c0:y.cell? ⟨b,0,qx⟩=qw (qY (qw ⟨b,0,qx⟩)):=by rw[Lib.cell_of_heap c];rfl
 have c1:y.cell? ⟨b,1,qx⟩=qw v:=by rw[Lib.cell_of_heap c];rfl
 go_wp2_with (at_builtin;refine Lib.wpList_append_own_string _ rfl _ _ 109 9 rfl B TY L underlying109 underlying9 hi x r t _ _ _ rfl a s rfl ?c3 ?c4 ?c5 ?_)
 case c3=>unfold maxLen;omega
 case c4=>exact za
 case c5=>have:=m.size;omega
 intro v' w2 z q _;have n:b<y.heap.size:=zAd c;have d:w2.heap[b]? =qw (qm #[qY (qw ⟨b,0,qx⟩),v] TB):=by
  rw[q.block b n (fun e=>hne e.symm)];exact c
 have V:w2.cell? ⟨b,0,qx⟩=qw (qY (qw ⟨b,0,qx⟩)):=by rw[Lib.cell_of_heap d];rfl
 have W:w2.cell? ⟨b,1,qx⟩=qw v:=by rw[Lib.cell_of_heap d];rfl
 have X:w2.frozen? ⟨b,1,qx⟩=yE:=Lib.frozen_of_heap d 1;obtain⟨F,H,j,rfl⟩:∃F H j,v'=qX F H j:=by
  rcases z.2 with⟨hv,_⟩|⟨g,j,P,hv,_⟩
  ·exact⟨_,_,_,hv⟩
  ·exact⟨_,_,_,hv⟩
 go_wp2;go_ret2;refine⟨rfl,.inr ?_,?_,(o.grown q (zIw a)).setCell ⟨b,1,qx⟩ rfl _,by have:=q.size;simp[World.setCell];omega⟩
 ·rw[byteCells_append,<-zPk,u.out];exact Lib.BuilderAt.put (T:=TB) (e:=TY) G d (bs':=bs++Lib.strCells s) (by simpa [Lib.strCells_length]using z) z8
 ·exact(m.grown q (by have:=m.size;omega) (fun k K=>(a.lt k K).1)).setCell (p:=⟨b,1,qx⟩) G _
theorem zTw (B b:Nat) (l:T) (w:qy) (h:Bld w B b l):
  yC yG 115 #[qY (qw ⟨b,0,qx⟩)] w fun e w'=>e=qp (qV qj (kG l:Int))/\w'=w:=by
 have:=Tryz.Builder_Len B b _ w h;rw[byteCells_length]at this;exact this
theorem zD0 (B b:Nat) (l:T) (w:qy) (h:Bld w B b l) (a:B<=w.heap.size):
  yC yG 63 #[qY (qw ⟨b,0,qx⟩)] w fun e w'=>e=qp (qW ⟨l.toArray⟩)/\yI B w w'/\Lib.OthersKept TY (qw b) w w':=by
 refine(Tryz.Builder_String_any_k B b l w (Lib.IsBuilderF.of h) a).mono ?_;rintro e w' ⟨c,_,d,f⟩;exact⟨c,d,f⟩
theorem Bld.new (w:qy):Bld (w.alloc (qm #[qY qx,qX qx 0 0] TB)) w.heap.size w.heap.size []:=
 .inl ⟨qPq _,qX qx 0 0,World.alloc_heap_new w _,World.ownsRow_nil _ _ _ _,by simp[Value.ownBlock]⟩
theorem Bld.lt {l:T} (h:Bld w B b l):b<w.heap.size:=by
 rcases h with h|h
 ·exact h.lt
 ·exact h.lt
theorem Bld.base {l:T} (h:Bld w B b l):B<=b:=by
 rcases h with h|h
 ·exact h.1
 ·exact h.1
theorem Bld.block {l:T} (h:Bld w B b l):∃c d,w.heap[b]? =qw (qm c TB d):=by
 rcases h with⟨_,v,a,_⟩|⟨_,v,a,_⟩
 ·exact⟨_,_,a⟩
 ·exact⟨_,_,a⟩
theorem Bld.keeps {l:T} (h:Bld w B b l) (i:Lib.OthersKept TY (qw b) w w') (j:w.heap.size<=w'.heap.size):KeepsOthers w w':=by
 refine⟨j,fun k o f d=>i k o f ?_ ?_⟩
 ·intro e;obtain⟨c,g,a⟩:=h.block;obtain rfl:k=b:=by injection e
  rw[f]at a;obtain rfl:=qPv a;cases d
 ·rintro c g rfl;cases d
theorem zDg {c:Nat} {t:yA} (a:Lib.OthersKept TY (qw b) w w') (h:Boxed w c t v) (hne:c≠b) (d:t≠TY):w'.heap[c]? =w.heap[c]? :=by
 rw[a c _ h (fun e=>hne (by injection e)) (fun c' f e=>d (by injection e))];exact h.symm
theorem Bld.kept {l:T} {row:Option Nat} (h:Bld w B b l) (j:w.grownBy w' row) (k:∀r,row=qw r->∃o,w.heap[r]? =qw o/\(∀c f,o≠qm c TB f)/\(∀c f,o≠qm c TY f)):Bld w' B b l:=by
 have one:∀p,Lib.BuilderAt TB TY B b p (Lib.byteCells l) w->Lib.BuilderAt TB TY B b p (Lib.byteCells l) w':=by
  rintro p ⟨q,v,i,a,hne⟩;refine⟨q,v,?_,?_,hne⟩
  ·rw[j.block b (zAd i) (fun e=> ?_)]
   ·exact i
   ·obtain⟨o,d,m,_⟩:=k b e.symm;rw[i]at d;exact m _ _ (qPv d).symm
  ·refine a.kept j ?_;rcases hv:v.ownBlock with _|g
   ·rcases a.2 with⟨rfl,_⟩|⟨g',t,u,rfl,_,x,_⟩
    ·exact .inl rfl
    ·simp[Value.ownBlock]at hv
   ·refine .inr fun e=> ?_;obtain⟨c,f,s⟩:=zIw a g hv;obtain⟨o,d,_,n⟩:=k g e.symm;rw[s]at d;exact n _ _ (qPv d).symm
 rcases h with h|h
 ·exact .inl (one _ h)
 ·exact .inr (one _ h)
end Rle
namespace Rle
open Go.Shelf
attribute [local go_sem] Oper.semAt_some
def zJd (b:Nat) (A B:qy):Prop:=(∃n,B=A.drewN n)\/∃v,B=A.setCell ⟨b,0,qx⟩ v
theorem zMs (w:qy) (n:Nat):(w.drewN n).heap=w.heap:=rfl
theorem zJd.keeps {b:Nat} {A B:qy} (h:zJd b A B):KeepsOthers A B:=by
 rcases h with⟨n,rfl⟩|⟨v,rfl⟩
 ·exact⟨by rw[zMs];exact qPq _,fun k o a _=>by rw[zMs];exact a⟩
 ·exact KeepsOthers.setCell _ _ _
def qGq {α:Type} (P:Program) (gf:Nat) (lb:Array qz) (enc:α->qz) (b:Nat) (S:List α) (W:qy):Prop:=
 ∀(l:Nat) (J c:List α->qy->Prop),(∀pre A B,J pre A->zJd b A B->J pre B)->
  (∀pre x a,J pre a->pre++[x]<+:S->YieldAt Fence.wide 1 P l #[enc x] a fun e W'=>
   (e=qp (qc yD)/\J (pre++[x]) W'/\W'.heap[b]? =a.heap[b]?)\/(e=qp (qc yE)/\c (pre++[x]) W'))->
  J [] W->CallsIn Fence.wide 2 P gf (#[.func (.yield l) #[] #[]]++lb) W fun e W'=>(∃v,e=qp v)/\(J S W'\/∃pre,pre<+:S/\c pre W')
def zJ6 {α:Type} (b:Nat) (I:List α->qy->Prop) (a:Code->List α->qy->Prop) (xs:List α) (W:qy):Exit->Act->qy->Prop
 | .normal,_,W'=>KeepsOthers W W'/\W'.heap[b]? =W.heap[b]? /\I xs W'
 | .ret,_,W'=>KeepsOthers W W'/\a .ret xs W'
 |_,_,_=>False
theorem zDt {P:Program} {α:Type} {g:Operand} {p:Tmp} {assign body:Code} {Q:Exit->Act->qy->Prop} {a:Act} {w:qy} {gf:Nat} {lb:Array qz}
  (hg:a.eval g= .func (.func gf) #[] lb) (eg:∀args w,(callFunc gf args).run P w= .ok (.enter gf args) w) (enc:α->qz) (b:Nat) (hb:b<w.heap.size) (S:List α)
  (a7:∀W,yI w.heap.size w W->qGq P gf lb enc b S W)
  (I:List α->qy->Prop) (Ix:Code->List α->qy->Prop)
  (hI:∀pre W l o o',w.heap.size<=l->W.heap[l]? =qw o->o.isCells=yE->I pre W->I pre (W.putObj l o'))
  (a1:∀c pre W l o o',w.heap.size<=l->W.heap[l]? =qw o->o.isCells=yE->Ix c pre W->Ix c pre (W.putObj l o'))
  (a8:∀pre A B,I pre A->zJd b A B->I pre B) (h0:∀o o',I [] ((w.alloc o).alloc o')) (a₁:α->Act)
  (a2:∀(l:Nat) (x:α) (W:qy) (K:Act->qy->Prop),K (a₁ x) W->
   assign.wpIn (Fence.wide.inRound l) 1 P (Exit.then K (fun _ _ _=>False)) {tmps:=(#[p].zip #[enc x]).foldl (fun t (p,v)=>t.setIfInBounds p v) a.tmps,defers:=[]} W)
  (a4:∀(l:Nat) (pre:List α) (x:α) (W:qy),w.heap.size<W.heap.size->I pre W->pre++[x]<+:S->body.wpIn (Fence.wide.inRound l) 1 P (zJ6 b I Ix (pre++[x]) W) (a₁ x) W)
  (a5:∀(D:Nat) (W:qy),w.heap.size<=D->I S W->W.heap[D]? =qw (qo (qw []))->Q .normal {a with defers:={target:= .collected D,args:= #[]}::a.defers} W)
  (a6:∀(D:Nat) (c:Code) (pre:List α) (W:qy),w.heap.size<=D->pre<+:S->Ix c pre W->W.heap[D]? =qw (qo (qw []))->c.wpIn Fence.wide 3 P Q {a with defers:={target:= .collected D,args:= #[]}::a.defers} W):
  (Code.rangeFunc g #[p] assign body).wpIn Fence.wide 3 P Q a w:=by
 refine wpIn_rangeFunc ?_;intro fn a9;obtain⟨d,f⟩:∃d:LoopState->Option Code->Loop,d=fun st pe=>{state:=st,pending:=pe,fn,tmps:=a.tmps,params:= #[p],assign,body,defers:=w.heap.size}:=⟨_,rfl⟩;obtain⟨W1,m⟩:=zB ((w.alloc (qo (qw []))).alloc (.loop (d .ready qx)));have V:W1.heap[w.heap.size+1]? =qw (.loop (d .ready qx)):=by
  rw[<-m];have:=World.alloc_heap_new (w.alloc (qo (qw []))) (.loop (d .ready qx));rwa[qTr]at this
 have a0:W1.heap[w.heap.size]? =qw (qo (qw [])):=by
  rw[<-m];exact(Below.heap_alloc _ _ _ zm).trans (World.alloc_heap_new w _)
 have O:yI w.heap.size w W1:=by rw[<-m];exact((yN _ w).alloc (qPq _) _).alloc zm _
 refine⟨w.heap.size+1,[{target:= .collected w.heap.size,args:= #[]}],W1,{target:= .fn (.func gf) lb,args:= #[.func (.yield (w.heap.size+1)) #[] #[]]},W1,gf,
  #[.func (.yield (w.heap.size+1)) #[] #[]]++lb,W1,?_,?_,?_,?_,fun _=>za,?_⟩
 ·rw[<-m,f];exact run_enterLoop_outer _ _ _ _ _
 ·simp only[resolve,hg];simp[go_sem]
 ·intro f' aa;trivial
 ·simp[invoke,go_sem,eg]
 ·refine(a7 W1 O (w.heap.size+1)
   (fun pre W=>I pre W/\W.heap[w.heap.size+1]? =qw (.loop (d .ready qx))/\W.heap[w.heap.size]? =qw (qo (qw [])))
   (fun pre W=>∃c,Ix c pre W/\W.heap[w.heap.size+1]? =qw (.loop (d .done (qw c)))/\W.heap[w.heap.size]? =qw (qo (qw [])))
   (fun pre A B hs h=>⟨a8 pre A B hs.1 h,h.keeps.same _ _ hs.2.1 rfl,h.keeps.same _ _ hs.2.2 rfl⟩)
   ?_ ⟨by rw[<-m];exact h0 _ _,V,a0⟩).mono ?_
  ·rintro pre x W ⟨hi,z,hk⟩ L;have M:w.heap.size+1<W.heap.size:=(qQ5.1 z).1;have hy:=run_yield (P:=P) (args:= #[enc x]) z (by rw[f];rfl);rw[f]at hy;refine⟨fn,_,assign,body,hy,roundIn_of_wpIn a9 (a2 _ x W _ ⟨_,run_beginRound z (by rw[f]),?_⟩)⟩;obtain⟨W2,k⟩:=zB (W.putObj (w.heap.size+1) (.loop {d .ready qx with state:= .busy}));have G:W2.heap[w.heap.size+1]? =qw (.loop {d .ready qx with state:= .busy}):=by rw[<-k];exact World.putObj_heap_same M
   have N:W2.heap[w.heap.size]? =qw (qo (qw [])):=by rw[<-k];exact(World.putObj_heap_other za).trans hk
   have Z:W2.heap[b]? =W.heap[b]? :=by rw[<-k];exact World.putObj_heap_other za
   have Y:w.heap.size<W2.heap.size:=by have:=(qQ5.1 G).1;omega
   have R:I pre W2:=by rw[<-k];exact hI pre W _ _ _ za z rfl hi
   have u:body.wpIn (Fence.wide.inRound (w.heap.size+1)) 1 P _ (a₁ x) W2:=a4 (w.heap.size+1) pre x W2 Y R L;rw[k];refine wpIn_mono u ?_;have F:∀(q:Option Code) (y:qy),KeepsOthers W2 y->
     (Instr.endRound (w.heap.size+1) q).run P y= .ok (qc q.isNone) (y.putObj (w.heap.size+1) (.loop (d (if q.isNone then .ready else .done) q)))/\
     y.heap[w.heap.size+1]? =qw (.loop {d .ready qx with state:= .busy})/\
     (y.putObj (w.heap.size+1) (.loop (d (if q.isNone then .ready else .done) q))).heap[w.heap.size+1]? =qw (.loop (d (if q.isNone then .ready else .done) q))/\
     (y.putObj (w.heap.size+1) (.loop (d (if q.isNone then .ready else .done) q))).heap[w.heap.size]? =qw (qo (qw [])):=fun q y j=>by
    have i:=j.same _ _ G rfl;have:=run_endRound (P:=P) q i;rw[f]at this⊢;exact⟨this,by rw[f]at i;exact i,World.putObj_heap_same (qQ5.1 i).1,(World.putObj_heap_other za).trans (j.same _ _ N rfl)⟩
   rintro e a3 y hp;cases e with
   |normal=>
    obtain⟨j,H,s⟩:=hp;obtain⟨hr,i,n,r⟩:=F qx y j;exact⟨_,_,hr,.inl ⟨rfl,⟨hI _ _ _ _ _ za i rfl s,n,r⟩,(World.putObj_heap_other za).trans (H.trans Z)⟩⟩
   |ret=>
    obtain⟨j,s⟩:=hp;obtain⟨hr,i,n,r⟩:=F (qw .ret) y j;exact⟨_,_,hr,.inr ⟨rfl,.ret,a1 _ _ _ _ _ _ za i rfl s,n,r⟩⟩
   |exit id=>exact hp.elim
   |goto t=>exact hp.elim
   |panic ch=>exact hp.elim
   |outgrown=>exact hp.elim
  ·rintro e W2 ⟨⟨v,rfl⟩,(⟨hi,z,hk⟩|⟨pre,X,c,hi,z,hk⟩)⟩
   ·exact⟨qx,_,by have:=run_endLoop (P:=P) z (by rw[f];simp);rw[f]at this;exact this,a5 _ _ (qPq _) (hI _ _ _ _ _ za z rfl hi) ((World.putObj_heap_other za).trans hk)⟩
   ·exact⟨qw c,_,by have:=run_endLoop (P:=P) z (by rw[f];simp);rw[f]at this;exact this,a6 _ c pre _ (qPq _) X (a1 _ _ _ _ _ _ za z rfl hi) ((World.putObj_heap_other za).trans hk)⟩
end Rle
namespace Rle
open Go.Shelf
variable {t:ByteArray}
attribute [local go_sem] Oper.semAt_some
@[irreducible] def bs (l:T):ByteArray:=⟨l.toArray⟩
theorem zJ5 (s:ByteArray):bs s.data.toList=s:=by unfold bs;simp
theorem qCh (l:T):(⟨l.toArray⟩:ByteArray)=bs l:=by unfold bs;rfl
theorem zBk (l:T):(bs l).data.toList=l:=by unfold bs;simp
theorem zAl (s:ByteArray):kG s.data.toList=s.size:=by simp
theorem zCh (l:T):(bs l).size=kG l:=by rw[<-zAl,zBk]
theorem zQ6 {s:ByteArray} (h:s.data.toList=t.data.toList):s=t:=by rw[<-zJ5 s,<-zJ5 t,h]
theorem qJ9 (s t:ByteArray):(s++t).data.toList=s.data.toList++t.data.toList:=by simp
theorem zI0 (s:ByteArray) (i j:Nat):(s.extract i j).data.toList=(s.data.toList.take j).drop i:=by
 rw[ByteArray.data_extract,Array.toList_extract,List.extract_eq_take_drop,List.drop_take]
theorem zNx (l:T) (k:Nat):(bs l).extract 0 k=bs (l.take k):=by
 apply zQ6;rw[zI0,zBk,zBk,qR3]
theorem zT7 (l:T) (k:Nat):(bs l).extract k (bs l).size=bs (l.drop k):=by
 apply zQ6;rw[zI0,zBk,zBk,zCh,qTg]
theorem zLh (s:ByteArray) (k:Nat) (h:k<s.size):s.data.toList[k]'(by rw[zAl];exact h)=s[k]:=rfl
theorem zLo (x y:UInt8):((x.toNat:Int)==(y.toNat:Int))=yF (x=y):=by
 rw[qSg,qSr,qRl];exact⟨fun h=>UInt8.toNat_inj.1 za,fun h=>by rw[h]⟩
def zHd (b:Nat) (w:qy):Nat:=match w.cell? ⟨b,0,qx⟩with
 |some (qW t)=>t.size
 |_=>0
theorem zGn {b:Nat} {w:qy} {ty:yA} (h:Boxed w b ty (qW t)):zHd b w=t.size:=by unfold zHd;rw[h.cell]
theorem zKu {W:qy} {B:Nat} {t:yA} {v:qz} (h:Boxed W B t v) (n:Nat):Boxed (W.drewN n) B t v:=h
theorem zHs (b:Nat) (s:ByteArray) (hs:s.size<=100000) (W:qy) (am:Boxed W b 9 (qW s)):
  qGq yG 149 #[qY (qw ⟨b,0,qx⟩)] (fun p:T=>qW (bs p)) b (pcs s.data.toList) W:=by
 intro l J Jx hJ hY h0;refine qS6 func149 rfl trivial ?_ rfl;simp only[ntmps149,qQ0,qP3,qQx,Nat.reduceAdd,Nat.reduceSub,qQ9,qR,qRa,qRb,qQl,qQr];obtain⟨ab,HJ,HY,H0⟩:=yS am hJ hY h0;clear am hJ hY h0;gi_wp2;gi_loopw [3] (fun v wr=>∃(pre:List T) (r:T),yH (pcs s.data.toList=pre++pcs r)/\kG r<=s.size/\yH (Boxed wr b 9 (qW (bs r)))/\yH (J pre wr))
  (fun _ wr=>zHd b wr)
 case atStart=>exact⟨[],s.data.toList,zH rfl,by rw[zAl];exact qPq _,zH (by rw[zJ5];exact ab.out),H0⟩
 case round=>
  obtain⟨pre,r,N,b3,w,a5⟩:=hrel;have H:=w.out.cell;have ag:=w.out.frozen;cases r with
  |nil=>
   have he:bs []=(⟨#[]⟩:ByteArray):=by unfold bs;rfl
   rw[he]at H;clear he;gi_wp2;go_end0;exact⟨⟨_,rfl⟩,.inl (by have h:=N.out;rw[zB6,qQ3]at h;rw[h];exact a5.out)⟩
  |cons x r=>
   obtain⟨t,ht⟩:=zB (bs (x::r));have n:t.size=kG (x::r):=by rw[<-ht,zCh]
   have aq:t.toList.isEmpty=yE:=by rw[qS8,<-ht,zBk];rfl
   have g:∀k (h:k<t.size) (y:k<kG (x::r)),t[k]=(x::r)[k]:=by
    intro k h y;subst ht;rw[<-zLh (bs (x::r)) k h];simp only[zBk]
   have a:0<t.size:=by rw[n];simp
   have an:t.size<=100000:=by rw[n];omega
   obtain⟨M,hM,ar,au,K⟩:=Kit.zJ3 t.size 255 255 rfl;have av:min (t.size:Int) 255=(M:Int):=by have:=K.out;omega
   rw[ht]at H;have a0:t[0]'a=x:=g 0 a zm;obtain⟨S,HT,o,L⟩:=yS a0 ht n g;clear ht n g a0;obtain⟨wo,rfl⟩:∃wo:qy,wo=wr:=⟨_,rfl⟩;gi_wp2;gi_loopw [3] (fun v wr=>∃k:Nat,1<=k/\k<=M/\v=qV qj k/\yH ((x::r).take k=yL k x)/\yH (∃m,wr=wo.drewN m))
    (fun v _=>256-(intOf v).toNat)
   case atStart=>exact⟨1,qPq _,by have:=K.out;omega,rfl,zH zm,zH ⟨0,by simp[World.drewN]⟩⟩
   case round=>
    obtain⟨k,a2,b1,rfl,I,hw⟩:=hrel;obtain⟨m0,d⟩:=hw.out;have j:Boxed wr b 9 (qW t):=by rw[d,<-HT.out];exact zKu w.out m0
    have aj:=zH j;have ah:=j.cell;have ad:=j.frozen;have X:=HJ.out pre wo wr a5.out (.inl ⟨m0,d⟩);have ae:=zH X;clear j d X;have j0:(0:Int)<=(k:Int):=za
    have j1:(0:Int)<=(0:Int):=za
    have j2:(0:Int)<(t.size:Int):=za
    have P:(∃h:k<t.size,k<M/\t[k]=t[0]'a)\/(¬k<M/\zAi (x::r)=k)\/(∃h:k<t.size,k<M/\¬t[k]=t[0]'a/\zAi (x::r)=k):=by
     have hl:=o.out;have hm:=K.out;by_cases z:k<M
     ·have y:k<t.size:=za
      by_cases q:t[k]=t[0]'a
      ·exact .inl ⟨y,z,q⟩
      ·refine .inr (.inr ⟨y,z,q,zJl x r k a2 za za I.out (.inr (.inr ⟨za,?_⟩))⟩);rw[<-L.out k y za];rw[S.out]at q;exact q
     ·refine .inr (.inl ⟨z,zJl x r k a2 za za I.out ?_⟩);by_cases h4:k=255
      ·exact .inl h4
      ·exact .inr (.inl za)
    rcases P with⟨y,z,q⟩|c
    ·have O:=zLo t[k] (t[0]'a);rw[qP9 q]at O;have j3:(k:Int)<(t.size:Int):=za
     have G:(x::r).take (k+1)=yL (k+1) x:=by
      have hl:k<kG (x::r):=by have:=o.out;omega
      rw[qQo hl,I.out,<-L.out k y hl,q,S.out,qUc]
     have ac:=zH G;clear q G;gi_wp2;gi_quiet (fail);gi_wp2;go_roundw
     case rel=>
      obtain⟨m0,d⟩:=hw.out;exact⟨k+1,za,za,by go_num,ac,zH ⟨m0+nq,by rw[d,World.drewN_drewN]⟩⟩
     case measure=>simp[intOf];omega
    ·have f:zAi (x::r)=k:=by
      rcases c with⟨_,h⟩|⟨_,_,_,h⟩<;>exact h
     have b2:k<=kG (x::r):=by have:=o.out;omega
     have u:t.extract 0 k=bs ((x::r).take k):=by rw[<-HT.out,zNx]
     have a8:t.extract k t.size=bs ((x::r).drop k):=by rw[<-HT.out,zT7]
     have hp:=N.out;rw[zBq (x::r) zm,f]at hp;obtain⟨HP,ao⟩:=yQ hp f;have j4:(k:Int)<=(t.size:Int):=za
     have a1:=zH a8;have R:yH ((¬k<M)\/(∃h:k<t.size,k<M/\¬t[k]=t[0]'a)):=by
      rcases c with⟨h,_⟩|⟨y,z,q,_⟩
      ·exact .inl h
      ·exact .inr ⟨y,z,q⟩
     have a6:=zH u;clear hp f c a8 u;rcases R.out with h|⟨y,z,q⟩
     all_goals
      try have O:=zLo t[k] (t[0]'a)
      try rw[qP1 q]at O
      try have j3:(k:Int)<(t.size:Int):=za
      try clear q
      gi_wp2;gi_quiet (fail);obtain⟨W1,i⟩:=zB (wr.drewN nq);have B:Boxed W1 b 9 (qW t):=by rw[<-i];exact zKu aj.out nq
      have a3:J pre W1:=by rw[<-i];exact HJ.out pre _ _ ae.out (.inl ⟨nq,rfl⟩)
      have V:zHd b wo=t.size:=by rw[zGn w.out,HT.out]
      rw[i];have ax:=B.cell;have az:=B.frozen;obtain⟨af,ai⟩:=yQ B V;have ap:=a6;have u:=a6.out;obtain⟨fn,tmps,assign,body,hy,hR⟩:=HY.out pre ((x::r).take k) W1 a3 (by rw[HP.out];exact⟨pcs ((x::r).drop k),zm⟩);clear i B V a3 ah ad H ag;gi_wp2;refine hR.mono ?_;rintro e W3 (⟨rfl,a7,Y⟩|⟨rfl,aa⟩)
      ·have F:Boxed W3 b 9 (qW t):=Y.trans af.out;have ay:=F.cell;have b0:=F.frozen;have a9:=F.set (qW (t.extract k t.size));have a4:=HJ.out _ W3 _ a7 (.inr ⟨qW (t.extract k t.size),rfl⟩);obtain⟨Z,ak⟩:=yQ a9 a4;clear F a9 a4 Y a7 u;gi_wp2;go_roundw
       case rel=>
        refine⟨pre++[(x::r).take k],(x::r).drop k,zH (by rw[HP.out];simp),by rw[qQn];omega,?_,ak⟩;rw[<-a1.out];exact Z
       case measure=>
        rw[zGn Z.out,ai.out,a1.out,zCh,qQn];have:=o.out;omega
      ·gi_wp2;refine qP5 (qSy rfl _ _ _) rfl ?_;exact⟨⟨_,rfl⟩,.inr ⟨_,by rw[HP.out];exact⟨pcs ((x::r).drop k),zm⟩,aa⟩⟩
end Rle
namespace Rle
open Go.Shelf
variable {b l c B:Nat} {w w' A:qy} {v:qz} {o:Obj}
attribute [local go_sem] Oper.semAt_some
theorem zBw {k:IntKind} {a b:Int} (h:a=b):Ending.returned (qV k a)=qp (qV k b):=by rw[h]
theorem zQi {a b:Bool} (h:a=b):Ending.returned (qc a)=qp (qc b):=by rw[h]
theorem zHt (s:ByteArray) (w:qy):
  yC yG 73 #[qW s] w fun e w'=>e=qp (.func (.func 149) #[] #[qY (qw ⟨w.heap.size,0,qx⟩)])/\w.alloc (qm #[qW s] 9)=w':=by
 go_enter func73,ntmps73;go_wp2;go_ret;exact⟨rfl,rfl⟩
theorem zH3 (n:Nat) (a:n<=1000) (w:qy):
  yC yG 147 #[qV qj (n:Int)] w fun e w'=>e=qp (qV qj (zAv n:Int))/\w=w':=by
 by_cases h:n<4
 ·have e:zAv n=n:=by unfold zAv;rw[qPr h]
  rw[e];clear e;go_enter func147,ntmps147;go_wp2;go_ret;exact⟨rfl,rfl⟩
 ·have e:zAv n=5:=by unfold zAv;rw[qPt h]
  rw[e];clear e;go_enter func147,ntmps147;go_wp2;go_ret;exact⟨rfl,rfl⟩
theorem zJq (s x:T) (h:x∈pcs s):1<=kG x/\kG x<=255:=by
 revert h;refine zEi (M:=fun s=>x∈pcs s->1<=kG x/\kG x<=255) (fun h=>by rw[zB6]at h;cases h) (fun s a d h=> ?_) s;rw[zBq s a,qP7]at h;rcases h with rfl|h
 ·rw[zDo];exact⟨zBz s a,zEj s⟩
 ·exact d h
theorem zGy {s:T} {pre:List T} {x:T} (h:pre++[x]<+:pcs s):kG x<=255/\1<=kG x/\lens pre+zAv (kG x)<=Len s/\(pre.map List.length).sum+kG x<=kG s:=by
 obtain⟨a,d⟩:=zQt _ s h;obtain⟨e,f⟩:=zJq s x (h.subset zm);refine⟨f,e,?_,?_⟩
 ·rw[zG0]at a;unfold lens at*;simpa using a
 ·simpa using d
theorem zGm (pre:List T) (x:T):lens (pre++[x])=lens pre+zAv (kG x):=by rw[zG0];unfold lens;simp
structure Var (W:qy) (b:Nat) (v:qz):Prop where
 cell:W.cell? ⟨b,0,qx⟩=qw v
 free:W.frozen? ⟨b,0,qx⟩=yE
theorem Var.new (w:qy) (v:qz) (t:yA):Var (w.alloc (qm #[v] t)) w.heap.size v:=⟨zm,zm⟩
theorem Var.alloc (h:Var w b v) (o:Obj):Var (w.alloc o) b v:=
 ⟨by rw[qRe (w:=w) (a:=⟨b,0,qx⟩)];exact h.cell;exact Lib.alloc_old w o b (qQk h.cell),
  by rw[qTo (w:=w) (a:=⟨b,0,qx⟩)];exact h.free;exact Lib.alloc_old w o b (qQk h.cell)⟩
theorem Var.of_block (h:Var w b v) (e:w'.heap[b]? =w.heap[b]?):Var w' b v:=
 ⟨by rw[qRe (w:=w) (a:=⟨b,0,qx⟩) e];exact h.cell,by rw[qTo (w:=w) (a:=⟨b,0,qx⟩) e];exact h.free⟩
theorem Var.put (h:Var w b v) (g:Obj) (e:w.heap[l]? =qw o) (f:o.isCells=yE):Var (w.putObj l g) b v:=by
 refine h.of_block (World.putObj_heap_other ?_);rintro rfl;obtain⟨i,a,d⟩:=cells_of_cell h.cell;rw[e]at a;obtain rfl:=qPv a;rw[f]at d;cases d
theorem Var.zLc (h:Var w b v) (a:zJd c w w') (hne:b≠c):Var w' b v:=by
 rcases a with⟨n,rfl⟩|⟨u,rfl⟩
 ·exact h.of_block rfl
 ·exact h.of_block (Below.heap_setCell _ _ _ _ hne)
theorem Var.set (h:Var w b v) (u:qz):Var (w.setCell ⟨b,0,qx⟩ u) b u:=
 ⟨qRi _ _ _ h.cell,by rw[qSx];exact h.free⟩
theorem Var.other (h:Var w b v) (u:qz) (hne:b≠c):Var (w.setCell ⟨c,0,qx⟩ u) b v:=h.zLc (.inr ⟨u,rfl⟩) hne
theorem Var.lt (h:Var w b v):b<w.heap.size:=qQk h.cell
theorem below_drewN {D:Nat} (h:yI D w w') (n:Nat):yI D w (w'.drewN n):=h.trans ⟨rfl,rfl,rfl,qPq _,fun _ _=>rfl⟩
theorem zIh {C:qy} (h:yI B w A) (d:zJd b A C) (a:B<=b):yI B w C:=by
 rcases d with⟨n,rfl⟩|⟨u,rfl⟩
 ·exact below_drewN h n
 ·exact h.setCell (p:=⟨b,0,qx⟩) a _
theorem zAu (a:Obj) (h:yI B w A) (g:A.heap[l]? =qw o) (d:B<=l) (f:B<=A.heap.size):yI B w (A.putObj l a):=
 h.trans ((yN B A).grown (grownBy_putObj' A l a) f (fun k e=>by cases e;exact d))
theorem zVz (s:ByteArray) (S:s.size<=100000) (w:qy):
  yC yG 68 #[qW s] w fun e w'=>e=qp (qV qj (Len s.data.toList:Int))/\yI w.heap.size w w':=by
 refine(qQj (n:=3)).1 ?_;refine callsIn_of_wp_marks func68 rfl trivial ?_ rfl;simp only[ntmps68,qQ0,qP3,qQx,Nat.reduceAdd,Nat.reduceSub,qQ9,qR,qRa,qRb,qQl,qQr];gi_wp2_with fail;refine⟨trivial,(qQj.2 (zHt s _)).mono ?_⟩;rintro e w1 ⟨rfl,rfl⟩;gi_wp2;have hv:=(Var.new w (qV qj 0) 3).alloc (qm #[qW s] 9);have a:=Boxed.new (w.alloc (qm #[qV qj 0] 3)) 9 (qW s);obtain⟨F,b⟩:=zB ((w.alloc (qm #[qV qj 0] 3)).alloc (qm #[qW s] 9));have a1:F.heap.size=w.heap.size+2:=by rw[<-b];simp
 have g:yI w.heap.size w F:=by rw[<-b];exact((yN _ w).alloc (qPq _) _).alloc zm _
 rw[b]at hv a⊢;rw[qTr]at a;obtain⟨y,j,k⟩:=yR hv a g;have d:=(zBu s.data.toList).1;rw[zAl]at d;have V:Len s.data.toList<=125000:=za
 have L:w.heap.size≠w.heap.size+1:=za
 clear hv a g b d;refine zDt (gf:=149) (lb:= #[qY (qw ⟨w.heap.size+1,0,qx⟩)]) rfl (enters_of func149 zf rfl) (fun p:T=>qW (bs p)) (w.heap.size+1) za (pcs s.data.toList)
  (fun W P=>zHs _ s S W ((P.block _ za).trans j.out))
  (fun pre W=>Var W w.heap.size (qV qj (lens pre:Int))/\yI w.heap.size w W/\F.heap.size<=W.heap.size)
  (fun _ _ _=>False)
  (fun pre W l o z hl q I hi=>⟨hi.1.put z q I,zAu z hi.2.1 q za za,by rw[World.putObj];simpa using hi.2.2⟩)
  (fun _ _ _ _ _ _ _ _ _ h=>h)
  (fun pre A B hi q=>⟨hi.1.zLc q L,zIh hi.2.1 q za,qP4 hi.2.2 q.keeps.size⟩)
  (fun o z=>⟨(y.out.alloc o).alloc z,(k.out.alloc za o).alloc zq z,zq⟩)
  (fun x=>{tmps:= #[qW s,yJ,qY (qw ⟨w.heap.size,0,qx⟩),qW (bs x),qW s,.func (.func 149) #[] #[qY (qw ⟨w.heap.size+1,0,qx⟩)],qW (bs x),yJ,yJ,yJ,yJ,yJ,yJ],defers:=[]}) ?assign ?body ?done ?stop
 case assign=>
  intro l x W K H;gi_wp2;exact H
 case body=>
  rintro l pre x W a0 ⟨hv,G,M⟩ i;obtain⟨f1,f2,N,O⟩:=zGy i;have I:=hv.cell;have R:=hv.free;have X:=zCh x;have y:=zH hv;have Y:lens pre<=125000:=za
  have Z:=zTl (kG x);clear N O hv;gi_wp2;gi_region_with ((refine⟨trivial,?_⟩;gi_at_call 147;refine(CallsIn.inRound l (qQj.2 (zH3 (kG x) za _))).mono ?_;rintro e w' ⟨rfl,rfl⟩))
  all_goals
   gi_wp2;have u:IntKind.i64.wrap ((lens pre:Int)+(zAv (kG x):Int))=(lens pre:Int)+(zAv (kG x):Int):=qQb _ za;rw[u];have r:=(y.out.set (qV qj ((lens pre:Int)+(zAv (kG x):Int)))).zLc (c:=w.heap.size+1) (.inl ⟨1,rfl⟩) L;refine⟨?_,?_,?_,?_,?_⟩
   ·exact(KeepsOthers.setCell _ _ _).trans (KeepsOthers.drew _)
   ·exact(Below.heap_setCell _ _ _ _ (qQ2 L))
   ·rw[zGm,qTq];exact r
   ·exact(G.setCell (p:=⟨w.heap.size,0,qx⟩) (qPq _) _).drew
   ·simp[World.setCell];exact M
 case done=>
  rintro D W hD ⟨hv,G,M⟩ H;have I:=hv.cell;have R:=hv.free;have y:=zH hv;clear hv;gi_wp2;have f:=(KeepsOthers.setCell W ⟨w.heap.size,0,qx⟩ (qV qj (lens (pcs s.data.toList):Int))).same D _ H rfl;refine⟨zm,.inl ⟨_,_,rfl,run_takeDeferred f,?_⟩⟩;have t:=(y.out.set (qV qj (lens (pcs s.data.toList):Int))).put (qo qx) f rfl;have m:=t.cell;refine⟨qV qj (Len s.data.toList:Int),?_,rfl,?_⟩
  ·rw[<-zQ7];simp[results,f68,go_sem,m]
  ·exact zAu _ (G.setCell (p:=⟨w.heap.size,0,qx⟩) (qPq _) _) f za (by simp[World.setCell];omega)
 case stop=>
  rintro D c pre W _ _ h _;exact h.elim
end Rle
end Go.Proofs.YtppnakkaljbmbaaGreatDoor
