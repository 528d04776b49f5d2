/- Steps of a proof; no condition beyond what each states. -/
import Derived.Test.YtppnakkaljbmbaaGreatDoorZY00
import Derived.Test.YtppnakkaljbmbaaGreatDoorZY05
set_option linter.unusedVariables false
set_option linter.unusedSimpArgs false
set_option maxRecDepth 100000
set_option maxHeartbeats 8000000
open List renaming length->kN
open Go.Proofs.YtppnakkaljbmbaaGreatDoor.Kit renaming Src->yt,Own->yu,zAg->yw,Own'->yx,zAr->xG,zDa->xK,zAs->xM,zAq->xR,Lay->xV,zBc->xW,zFb->kK
open Go.Proofs.YtppnakkaljbmbaaGreatDoor.Rle renaming bs->xB,Len->xZ,zCh->x9,zBk->kF,Bld->kG
open Go.Proofs.YtppnakkaljbmbaaGreatDoor.Crc renaming sum->xD,U->xJ
open Go.Proofs.YtppnakkaljbmbaaGreatDoor.Sq renaming TQ->kM
open Go.RowKit
open Go.Proofs.Tryz
open Go.Value renaming int->qX,string->qY,slice->qZ,pointer->qc,tuple->qg,bool->qh
open Go.IntKind renaming i64->qm,u8->qo
open Go.Obj renaming cells->qp,deferred->qw
open Go.Ending renaming returned->qx
open Or renaming inr->qy,inl->qz
open Option renaming some->yA,none->yB
open Go renaming World->yC,Value->yD,TypeId->yE,Addr->yF,Calls->yG,undef->yN
open Bool renaming true->yH,false->yI
open Go.Proofs.Tryz renaming prog->yK
open Go.RowKit renaming Hid->yL,Below->yM
open List renaming range->yO,replicate->yP
open Go.World renaming cell?->yQ
open Go.RowKit.Below renaming refl->yR
open And renaming intro->yS
namespace Go.Proofs.YtppnakkaljbmbaaGreatDoor
namespace Rle
open Go.Shelf
variable {o:Obj} {A C:yC} {B b k l:Nat} {v:yD} {t:yE}
attribute [local go_sem] Oper.semAt_some
theorem zW7 (x:T) (h:kN x<4):pk1 x=x:=by unfold pk1;rw[qPr h]
theorem zZz (x:T) (h:¬kN x<4):pk1 x=x.take 4++[UInt8.ofNat (kN x-4)]:=by unfold pk1;rw[qPt h]
theorem zZ4 (pre:List T):kN (pre.flatMap pk1)=lens pre:=by
 unfold lens;rw[List.length_flatMap];congr 1;exact qRy fun p _=>zMc p
theorem zOn (h:o.isCells=yI):∀t,∀c a,o≠qp c t a:=by
 rintro t c a rfl;cases h
theorem Bld.zLc {l:T} (h:Bld A B b l) (a:Boxed A k t v) (f:t≠TB) (g:t≠TY) (i:zJd k A C):Bld C B b l:=by
 rcases i with⟨n,rfl⟩|⟨u,rfl⟩
 .exact h.kept (row:=yB) ⟨rfl,rfl,rfl,qPq _,fun _ _ _=>rfl⟩ (fun r e=>by cases e)
 .refine h.kept (row:=yA k) (grownBy_setCell' A k u) (fun r e=> ?_);cases e;refine⟨_,a,?_,?_⟩
  .intro c d e;injection e with _ e2 _;exact f e2
  .intro c d e;injection e with _ e2 _;exact g e2
theorem qBg (a:Boxed A k t v) (c:zJd k A C):∃u,Boxed C k t u:=by
 rcases c with⟨n,rfl⟩|⟨u,rfl⟩
 .exact⟨v,a⟩
 .exact⟨u,a.set u⟩
theorem qEb (e:Obj) (a:Boxed A k t v) (c:A.heap[l]? =yA o) (d:o.isCells=yI):Boxed (A.putObj l e) k t v:=by
 refine(World.putObj_heap_other ?_).trans a;rintro rfl;rw[show A.heap[k]? =_ from a]at c;obtain rfl:=qPv c;cases d
theorem Bld.put {m:T} (c:Obj) (h:Bld A B b m) (d:A.heap[l]? =yA o) (a:o.isCells=yI):Bld (A.putObj l c) B b m:=
 h.kept (grownBy_putObj' A l c) (fun r e=>by cases e;exact⟨o,d,zOn a _,zOn a _⟩)
theorem Bld.alloc {m:T} (h:Bld A B b m) (o:Obj):Bld (A.alloc o) B b m:=
 h.kept (qR4 A o yB) (fun r e=>by cases e)
theorem zR8 (s:ByteArray) (hs:s.size<=100000) (w:yC):
  yG yK 18 #[qY s] w fun e w'=>e=qx (qY (bs (pack s.data.toList)))/\yM w w w':=by
 refine(qQi (n:=3)).1 ?_;refine callsIn_of_wp_marks func18 rfl trivial ?_ rfl;simp only[ntmps18,qQ2,qP4,qQy,Nat.reduceAdd,Nat.reduceSub,qR,qRa,qRb,qRc,qQm,qQs];gi_wp2_with fail;refine⟨trivial,(qQi.2 (zHt s _)).mono ?_⟩;rintro e w1 ⟨rfl,rfl⟩;gi_wp2;have hv:=(Bld.new w).alloc (qp #[qY s] 9);have d:=Boxed.new (w.alloc (qp #[qc yB,qZ yB 0 0] 120)) 9 (qY s);obtain⟨W0,g⟩:=zB ((w.alloc (qp #[qc yB,qZ yB 0 0] 120)).alloc (qp #[qY s] 9));have ac:W0.heap.size=w.heap.size+2:=by rw[<-g];simp
 have N:yM w w W0:=by rw[<-g];exact((yR _ w).alloc (qPq _) _).alloc zm _
 rw[g]at hv d⊢;rw[qTt]at d;obtain⟨q,H,a2⟩:=yV hv d N;have k:=(zBu s.data.toList).1;rw[zAl]at k;have a6:Len s.data.toList<=125000:=za
 have hn:w.heap.size≠w.heap.size+1:=za
 clear hv d N g k;refine zDt (gf:=149) (lb:= #[qc (yA ⟨w.heap.size+1,0,yB⟩)]) rfl (enters_of func149 zf rfl) (fun p:T=>qY (bs p)) (w.heap.size+1) za (pcs s.data.toList)
  (fun W hW=>zHs _ s hs W ((hW.block _ za).trans H.out))
  (fun pre W=>Bld W w.heap.size w.heap.size (pre.flatMap pk1)/\(∃v,Boxed W (w.heap.size+1) 9 v)/\yM w w W/\W0.heap.size<=W.heap.size)
  (fun _ _ _=>False)
  (fun pre W l o z hl y hc hi=>⟨hi.1.put z y hc,⟨hi.2.1.choose,qEb z hi.2.1.choose_spec y hc⟩,zAu z hi.2.2.1 y za za,by rw[World.putObj];simpa using hi.2.2.2⟩)
  (fun _ _ _ _ _ _ _ _ _ h=>h)
  (fun pre A B hi y=>⟨hi.1.zLc hi.2.1.choose_spec qW qW y,qBg hi.2.1.choose_spec y,zIh hi.2.2.1 y za,qP2 hi.2.2.2 y.keeps.size⟩)
  (fun o z=>⟨(q.out.alloc o).alloc z,⟨_,(H.out.alloc o).alloc z⟩,(a2.out.alloc za o).alloc zq z,zq⟩)
  (fun x=>{tmps:= #[qY s,yN,qY ⟨#[]⟩,qc (yA ⟨w,0,yB⟩),qY (bs x),qY s,.func (.func 149) #[] #[qc (yA ⟨w.heap.size+1,0,yB⟩)],qY (bs x),yN,yN,yN,yN,yN,yN,yN,yN,yN,yN,yN,yN,yN,yN,yN],defers:=[]}) ?assign ?body ?done ?stop
 case assign=>
  intro l x W K hK;gi_wp2;exact hK
 case body=>
  rintro l pre x W ab ⟨hv,⟨u,f⟩,hB,hz⟩ a1;obtain⟨f1,f2,f3,f4⟩:=zGy a1;have aa:=zCh x;have L:=zZ4 pre;have R:kN (pre.flatMap pk1)<=125000:=by rw[L];omega
  have r:(pre++[x]).flatMap pk1=pre.flatMap pk1++pk1 x:=by simp
  obtain⟨M,hM,a7,a8,t⟩:=Kit.zJ3 (kN x) 4 4 rfl;have a9:min (kN x:Int) 4=(M:Int):=by have:=t.out;omega
  have X:(bs x).extract 0 M=bs (x.take M):=zNx x M;have ad:(bs (x.take M)).size<=4:=by rw[zCh,qQh];omega
  obtain⟨q,a,V,m,F⟩:=yY hv f X r R;clear f3 f4 hv f X r L R;by_cases h4:kN x<4
  .gi_wp2_with fail;rw[V.out];refine⟨trivial,(CallsIn.inRound l (qQi.2 (zB8 w.heap.size w.heap.size _ (bs (x.take M)) W q.out (by have:=F.out;omega) za))).mono ?_⟩;rintro e w1 ⟨rfl,h1,I,b,G⟩;gi_wp2;refine⟨q.out.keeps b G,zDg b a.out za qW,?_,⟨u,(zDg b a.out za qW).trans a.out⟩,hB.trans I,za⟩;rw[m.out,zW7 x h4];rw[zBk,qQc (by have:=t.out;omega)]at h1;exact h1
  .have P:((kN x:Int)-4)=((UInt8.ofNat (kN x-4)).toNat:Int):=by rw[UInt8.toNat_ofNat'];omega
   have a4:=zH P;clear P;gi_wp2_with fail;rw[V.out];refine⟨trivial,(CallsIn.inRound l (qQi.2 (zB8 w.heap.size w.heap.size _ (bs (x.take M)) W q.out (by have:=F.out;omega) za))).mono ?_⟩;rintro e w1 ⟨rfl,h1,I,b,G⟩;have a0:=zDg b a.out za qW;have O:kN ((pre.flatMap pk1)++(bs (x.take M)).data.toList)+1<=1000000000:=by rw[qP0,zAl];have:=F.out;omega
   obtain⟨H1,S,a5⟩:=yV h1 a0 O;clear h1 a0 O;gi_wp2_with fail;rw[a4.out];refine⟨trivial,(CallsIn.inRound l (qQi.2 (zE7 w.heap.size w.heap.size _ (UInt8.ofNat (kN x-4)) w1 H1.out a5.out za))).mono ?_⟩;rintro e w2 ⟨rfl,h2,j,i,a3⟩;have Z:w2.heap[w.heap.size+1]? =W.heap[w.heap.size+1]? :=(zDg i (S.out.trans a.out) za qW).trans S.out;gi_wp2;refine⟨(q.out.keeps b G).trans (H1.out.keeps i a3),Z,?_,⟨u,Z.trans a.out⟩,(hB.trans I).trans j,za⟩;rw[m.out,zZz x h4];rw[zBk,show M=4 from by have:=t.out;omega,qQr]at h2;exact h2
 case done=>
  rintro D W hD ⟨hv,⟨u,f⟩,hB,hz⟩ hK;have q:=zH hv;clear hv;gi_wp2_with fail;refine⟨trivial,(qQi.2 (zD0 w.heap.size w.heap.size _ W q.out za)).mono ?_⟩;rintro e w2 ⟨rfl,j,i⟩;have Y:=i D _ hK (by intro e;injection e with e;omega) (by intro c fz e;cases e);gi_wp2;refine⟨zm,qz ⟨_,_,rfl,run_takeDeferred Y,?_⟩⟩;refine⟨_,results_tmp rfl _ _ _,?_,zAu _ (hB.trans j) Y za (by have:=(hB.trans j).size;omega)⟩;rw[<-qCh];rfl
 case stop=>
  rintro D c pre W _ _ h _;exact h.elim
end Rle
namespace Rle
open Go.Shelf
variable {room:Int}
attribute [local go_sem] Oper.semAt_some
def sl (pre:List T):Nat:=(pre.map List.length).sum
theorem zTf (pre:List T) (x:T):sl (pre++[x])=sl pre+kN x:=by unfold sl;simp
theorem zWv (s:T):sl (pcs s)=kN s:=by
 have:=qPs List.length (zHv s);rw[List.length_flatten]at this;exact this
theorem zL:∀(pre:List T) (s x:T),pre++[x]<+:pcs s->s.drop (sl pre)≠[]/\zAi (s.drop (sl pre))=kN x
 |[],s,x,h=>by
  have a:s≠[]:=by
   rintro rfl;rw[zB6]at h;have:=h.length_le;simp at this
  rw[zBq s a]at h;have e:x=s.take (zAi s):=by
   obtain⟨t,b⟩:=h;simp at b;exact b.1
  refine⟨by simpa [sl]using a,?_⟩;rw[e,zDo];simp[sl]
 |p::pre,s,x,h=>by
  have a:s≠[]:=by
   rintro rfl;rw[zB6]at h;have:=h.length_le;simp at this
  rw[zBq s a,qQs,List.cons_prefix_cons]at h;have c:=zL pre (s.drop (zAi s)) x h.2;have e:sl (p::pre)=zAi s+sl pre:=by
   unfold sl;rw[qQe,qRd,h.1,zDo]
  rw[e,<-List.drop_drop];exact c
def zEg (s:T) (room:Int) (pre:List T):Prop:=cut s room=sl pre+cut (s.drop (sl pre)) (room-lens pre)/\ -9223372036854775808<=room-lens pre
theorem zEg.start (s:T) (room:Int) (h: -9223372036854775808<=room):zEg s room []:=⟨by simp[sl,lens],by simpa [lens]using h⟩
theorem zEg.step {s:T} {pre:List T} {x:T} (h:zEg s room pre) (d:pre++[x]<+:pcs s) (c:(zAv (kN x):Int)<=room-lens pre):zEg s room (pre++[x]):=by
 obtain⟨b,a⟩:=zL pre s x d;obtain⟨e,f⟩:=h;refine⟨?_,?_⟩
 .rw[e,zLn _ _ b (by rw[a];exact c),a,List.drop_drop,zTf,zGm];rw[show room-(lens pre:Int)-(zAv (kN x):Int)=room-((lens pre+zAv (kN x):Nat):Int)from za];omega
 .rw[zGm];omega
theorem zEg.stop {s:T} {pre:List T} {x:T} (h:zEg s room pre) (d:pre++[x]<+:pcs s) (c:¬(zAv (kN x):Int)<=room-lens pre):cut s room=sl pre+min (min (max (room-lens pre) 0).toNat 3) (kN x):=by
 obtain⟨b,a⟩:=zL pre s x d;rw[h.1,zGq _ _ b (by rw[a];exact c),a]
theorem zEg.all {s:T} (h:zEg s room (pcs s)):cut s room=kN s:=by
 rw[h.1,zWv,List.drop_length,zNu];omega
theorem qEj (s:ByteArray) (room:Int) (hs:s.size<=100000) (a0: -9223372036854775808<=room) (a8:room<=9223372036854775807) (w:yC):
  yG yK 134 #[qY s,qX qm room] w fun e w'=>e=qx (qX qm (cut s.data.toList room:Int))/\yM w w w':=by
 refine(qQi (n:=3)).1 ?_;refine callsIn_of_wp_marks func134 rfl trivial ?_ rfl;simp only[ntmps134,qQ2,qP4,qQy,Nat.reduceAdd,Nat.reduceSub,qR,qRa,qRb,qRc,qQm,qQs];gi_wp2_with fail;refine⟨trivial,(qQi.2 (zHt s _)).mono ?_⟩;rintro e w1 ⟨rfl,rfl⟩;gi_wp2;have b:=((Var.new w (qX qm room) 3).alloc (qp #[qX qm 0] 3)).alloc (qp #[qY s] 9);have a:=(Var.new (w.alloc (qp #[qX qm room] 3)) (qX qm 0) 3).alloc (qp #[qY s] 9);have f:=Boxed.new ((w.alloc (qp #[qX qm room] 3)).alloc (qp #[qX qm 0] 3)) 9 (qY s);obtain⟨W0,i⟩:=zB (((w.alloc (qp #[qX qm room] 3)).alloc (qp #[qX qm 0] 3)).alloc (qp #[qY s] 9));have aa:W0.heap.size=w.heap.size+3:=by rw[<-i];simp
 have H:yM w w W0:=by rw[<-i];exact(((yR _ w).alloc (qPq _) _).alloc zm _).alloc zq _
 rw[i]at b a f⊢;simp only[qTt]at f a;obtain⟨r,j,N,P⟩:=yX b a f H;have m:=(zBu s.data.toList).1;rw[zAl]at m;have a1:Len s.data.toList<=125000:=za
 have n3:w.heap.size≠w.heap.size+1+1:=za
 have n4:w.heap.size+1≠w.heap.size+1+1:=za
 have I:w.heap.size≠w.heap.size+1:=za
 clear b a f H i m;refine zDt (gf:=149) (lb:= #[qc (yA ⟨w.heap.size+1+1,0,yB⟩)]) rfl (enters_of func149 zf rfl) (fun p:T=>qY (bs p)) (w.heap.size+1+1) za (pcs s.data.toList)
  (fun W hW=>zHs _ s hs W ((hW.block _ za).trans N.out))
  (fun pre W=>Var W w.heap.size (qX qm (room-lens pre))/\Var W (w.heap.size+1) (qX qm (sl pre:Int))/\yM w w W/\W0.heap.size<=W.heap.size/\zEg s.data.toList room pre)
  (fun c pre W=>c= .ret/\Var W (w.heap.size+1) (qX qm (cut s.data.toList room:Int))/\yM w w W/\W0.heap.size<=W.heap.size)
  (fun pre W l o z hl y hc hi=>⟨hi.1.put z y hc,hi.2.1.put z y hc,zAu z hi.2.2.1 y za za,by rw[World.putObj];simpa using hi.2.2.2.1,hi.2.2.2.2⟩)
  (fun c pre W l o z hl y hc hi=>⟨hi.1,hi.2.1.put z y hc,zAu z hi.2.2.1 y za za,by rw[World.putObj];simpa using hi.2.2.2⟩)
  (fun pre A B hi y=>⟨hi.1.zLc y n3,hi.2.1.zLc y n4,zIh hi.2.2.1 y za,qP2 hi.2.2.2.1 y.keeps.size,hi.2.2.2.2⟩)
  (fun o z=>⟨by simpa [lens]using(r.out.alloc o).alloc z,by simpa [sl]using(j.out.alloc o).alloc z,(P.out.alloc za o).alloc zq z,zq,zEg.start _ _ a0⟩)
  (fun x=>{tmps:= #[qY s,qX qm room,yN,qc (yA ⟨w,0,yB⟩),qc (yA ⟨w.heap.size+1,0,yB⟩),qY (bs x),yN,qY s,.func (.func 149) #[] #[qc (yA ⟨w.heap.size+1+1,0,yB⟩)],qY (bs x),yN,yN,yN,yN,yN,yN,yN,yN,yN,yN,yN,yN,yN,yN,yN,yN,yN,yN,yN,yN,yN],defers:=[]}) ?assign ?body ?done ?stop
 case assign=>
  intro l x W K Z;gi_wp2;exact Z
 case body=>
  rintro l pre x W a9 ⟨b,a,hB,hz,hcut⟩ h;obtain⟨f1,f2,f3,f4⟩:=zGy h;have a2:=zCh x;have f5:sl pre+kN x<=kN s.data.toList:=f4;rw[zAl]at f5;have Y:=hcut.2;have X:room-(lens pre:Int)<=9223372036854775807:=za
  obtain⟨R,hR⟩:=zB (room-(lens pre:Int));rw[hR]at b Y X;have a3:=b.cell;have a5:=b.free;have a4:=a.cell;have a6:=a.free;obtain⟨r,j,HR,u⟩:=yX b a hR hcut;have S:=zTl (kN x);obtain⟨pl,g⟩:=zB (zAv (kN x));have d:=zH g;rw[g]at S;clear f3 f4 b a hR hcut g;by_cases L:(pl:Int)<=R
  .gi_wp2_with fail;refine⟨trivial,(CallsIn.inRound l (qQi.2 (zH3 (kN x) za _))).mono ?_⟩;rintro e w1 ⟨rfl,rfl⟩;rw[d.out];gi_wp2;have v3:=(r.out.set (qX qm (R-(pl:Int)))).other (c:=w.heap.size+1) (qX qm ((sl pre:Int)+(kN x:Int))) I;have v4:=(j.out.other (c:=w.heap.size) (qX qm (R-(pl:Int))) (qQ4 I)).set (qX qm ((sl pre:Int)+(kN x:Int)));refine⟨(KeepsOthers.setCell _ _ _).trans (KeepsOthers.setCell _ _ _),?_,?_,?_,?_,?_,?_⟩
   .exact(Below.heap_setCell _ _ _ _ (qQ4 n4)).trans (Below.heap_setCell _ _ _ _ (qQ4 n3))
   .rw[zGm,d.out,qTs,<-Int.sub_sub,HR.out];exact v3
   .rw[zTf,qTs];exact v4
   .exact(hB.setCell (p:=⟨w,0,yB⟩) (qPq _) _).setCell (p:=⟨w.heap.size+1,0,yB⟩) zm _
   .simp[World.setCell];exact hz
   .exact u.out.step h (by rw[d.out,HR.out];exact L)
  .gi_wp2_with fail;refine⟨trivial,(CallsIn.inRound l (qQi.2 (zH3 (kN x) za _))).mono ?_⟩;rintro e w1 ⟨rfl,rfl⟩;rw[d.out];obtain⟨q,hq⟩:∃q:Nat,max R 0=(q:Int):=qT5 za;obtain⟨q3,a7,_,_,O⟩:=Kit.zJ3 q 3 3 rfl;have k:=u.out.stop h (by rw[d.out,HR.out];omega);have t:(sl pre:Int)+(q3:Int)=(cut s.data.toList room:Int):=by
    rw[k,HR.out,O.out];have e1:(max R 0).toNat=q:=za
    rw[e1];have e2:pl=kN x\/(pl=5/\4<=kN x):=by
     rw[<-d.out];unfold zAv;split<;>omega
    omega
   have M:=zH t;clear t k;gi_wp2;rw[M.out];exact⟨KeepsOthers.setCell _ _ _,rfl,j.out.set _,hB.setCell (p:=⟨w.heap.size+1,0,yB⟩) zm _,by simp[World.setCell];exact hz⟩
 case done=>
  rintro D W hD ⟨b,a,hB,hz,hcut⟩ Z;have hc:=a.cell;have hf:=a.free;have HV:=zH a;clear b a;gi_wp2;have F:=(KeepsOthers.setCell W ⟨w.heap.size+1,0,yB⟩ (qX qm (sl (pcs s.data.toList):Int))).same D _ Z rfl;refine⟨zm,qz ⟨_,_,rfl,run_takeDeferred F,?_⟩⟩;have V:=(HV.out.set (qX qm (sl (pcs s.data.toList):Int))).put (qw yB) F rfl;have G:=V.cell;refine⟨qX qm (cut s.data.toList room:Int),?_,rfl,?_⟩
  .rw[hcut.all,<-zWv];simp[results,f134,go_sem,G]
  .exact zAu _ (hB.setCell (p:=⟨w.heap.size+1,0,yB⟩) zm _) F za (by simp[World.setCell];omega)
 case stop=>
  rintro D c pre W hD _ ⟨rfl,hv,hB,hz⟩ Z;have hc:=hv.cell;have hf:=hv.free;have HV:=zH hv;gi_wp2;refine⟨zm,qz ⟨_,_,rfl,run_takeDeferred Z,?_⟩⟩;have G:=(HV.out.put (qw yB) Z rfl).cell;refine⟨qX qm (cut s.data.toList room:Int),?_,rfl,zAu _ hB Z za za⟩;simp[results,f134,go_sem,G]
end Rle
namespace Rle
variable {w:yC}
theorem zWh {l m:T} {n:Nat} (h:n<=kN l):(l++m).take n=l.take n:=by rw[qUn h]
theorem Bld.drewN {B b:Nat} {l:T} (h:Bld w B b l) (n:Nat):Bld (w.drewN n) B b l:=
 h.kept (row:=yB) ⟨rfl,rfl,rfl,qPq _,fun _ _ _=>rfl⟩ (fun r e=>by cases e)
theorem zIy {a:yC} {b:Option Nat} (h:Lib.OthersKept TY b a w) (n:Nat):Lib.OthersKept TY b a (w.drewN n):=h
theorem zHo (B b k:Nat) (c:UInt8) (n:Nat) (q:T) (most:Int) (y:Nat) (X:(max most 0).toNat+1=y) (W:yC) (h:Bld W B b (q.take y)) (V:Boxed W k 3 (qX qm most)) (hk:k≠b) (hB:B<=W.heap.size)
  (hn:n<=255) (hf:kN q<=1000000):
  yG yK 114 #[qX qo (c.toNat:Int),n,qc (yA ⟨b,0,yB⟩),qc (yA ⟨k,0,yB⟩)] W fun e w'=>
   e=qx (qg #[])/\Bld w' B b ((q++yP n c).take y)/\yM B W w'/\Lib.OthersKept TY (yA b) W w'/\W.heap.size<=w'.heap.size:=by
 obtain⟨z,x⟩:∃z:Nat,max most 0=(z:Int):=qT5 za;have a1:(if(0:Int)>most then(0:Int)else most)=(z:Int):=by rw[<-x];split<;>omega
 have S:y=z+1:=za
 obtain⟨HB,HM,O⟩:=yV h V S;clear h V S X;go_enter func114,ntmps114;go_wp2;go_loopw [7] (fun i wr=>∃j:Nat,j<=n/\i=qX qm j/\yL (Bld wr B b ((q++yP j c).take y))/\yL (yM B W wr)/\yL (Lib.OthersKept TY (yA b) W wr)/\W.heap.size<=wr.heap.size) (fun i _=>n-(intOf i).toNat)
 case atStart=>exact⟨0,za,rfl,by rw[List.replicate_zero,qQv];exact HB,zH (yR _ _),zH (Lib.OthersKept.refl _ _ _),qPq _⟩
 case round=>
  obtain⟨j,hj,rfl,H,a,m,I⟩:=hrel;have r:Boxed wr k 3 (qX qm most):=(zDg m.out HM.out hk qW).trans HM.out;have a2:=r.cell;have d:kN ((q++yP j c).take y)=min y (kN q+j):=by rw[qQh,qP0,qT0]
  obtain⟨L,N⟩:=zB ((q++yP j c).take y);rw[N]at H d;have p:=zH N;obtain⟨K,g⟩:=zB (kN L);rw[g]at d;obtain⟨u,o⟩:=yU g d;have M:=zTw B b L;rw[g]at M;have s:=zH M;clear N g d r M;by_cases a3:j<n
  .have a0:K<=1001000:=by have:=o.out;omega
   by_cases f:z<K
   .have hd:decide ((z:Int)<(K:Int))=yH:=by simpa using f
    go_wp2;go_quiet ((go_at_call 115;exact Calls.quiet_of_same (s.out _ (H.out.drewN _))));go_wp2;refine qP5 (qSx rfl _ _ _) rfl ⟨rfl,?_,below_drewN a.out _,zIy m.out _,I⟩;have P:y<=kN q+j:=by have:=o.out;have:=O.out;omega
    have e:(q++yP n c).take y=L:=by
     rw[<-p.out];have Z:yP n c=yP j c++yP (n-j) c:=by rw[List.replicate_append_replicate];congr 1;omega
     rw[Z,<-qQr,zWh (by rw[qP0,qT0];exact P)]
    rw[e];exact H.out.drewN _
   .have hd:decide ((z:Int)<(K:Int))=yI:=by simpa using f
    go_wp2;go_quiet ((go_at_call 115;exact Calls.quiet_of_same (s.out _ (H.out.drewN _))));have w:B<=(wr.drewN nq).heap.size:=by have:=I;show B<=wr.heap.size;omega
    go_wp2_with fail;refine(zE7 B b L c _ (H.out.drewN nq) (by rw[u.out];omega) w).mono ?_;rintro e w2 ⟨rfl,R,G,t,F⟩;have Y:=zH R;clear R;go_wp2;go_roundw
    case rel=>
     refine⟨j+1,za,by go_num,?_,zH ((below_drewN a.out nq).trans G),zH ((zIy m.out nq).trans t),qP2 I F⟩;have P:kN q+j<y:=by have:=o.out;have:=O.out;omega
     have e:(q++yP (j+1) c).take y=L++[c]:=by
      rw[<-p.out,qUc,<-qQr,qQc zq,qQc (l:=q++yP j c) zq]
     rw[e];exact Y
    case measure=>exact qV
  .obtain rfl:j=n:=za
   go_wp2;go_end0;exact⟨rfl,by rw[p.out];exact H.out,a.out,m.out,I⟩
end Rle
namespace Rle
variable {c:UInt8}
theorem zYy (s:T):(zCm s).2.2.length<=52*kN s:=by have:=(zKe s).2.1;omega
theorem zYx (s:T):(zCm s).1<=4:=(zKe s).1
theorem zYw {st:U} (h:st.1=4):ust st c=(0,st.2.1,st.2.2++yP c.toNat st.2.1):=by unfold ust;rw[qPr h]
theorem zYv {st:U} (h:¬st.1=4) (a:0<st.1) (b:c=st.2.1):ust st c=(st.1+1,st.2.1,st.2.2++[st.2.1]):=by unfold ust;rw[qPt h,qPr ⟨a,b⟩]
theorem qCn {st:U} (h:¬st.1=4) (a:¬(0<st.1/\c=st.2.1)):ust st c=(1,c,st.2.2++[c]):=by unfold ust;rw[qPt h,qPt a]
theorem zHn (B b k:Nat) (c:UInt8) (a:T) (most:Int) (d:Nat) (f:(max most 0).toNat+1=d) (W:yC) (h:Bld W B b (a.take d)) (l:Boxed W k 3 (qX qm most)) (j:k≠b) (g:B<=W.heap.size) (i:kN a<=1000000):
  yG yK 114 #[qX qo (c.toNat:Int),qX qm 1,qc (yA ⟨b,0,yB⟩),qc (yA ⟨k,0,yB⟩)] W fun e w'=>
   e=qx (qg #[])/\Bld w' B b ((a++[c]).take d)/\yM B W w'/\Lib.OthersKept TY (yA b) W w'/\W.heap.size<=w'.heap.size:=
 zHo B b k c 1 a most d f W h l j g za i
def zIi (s:T) (most:Int) (w:yC) (e:Ending) (w':yC):Prop:=
 e=qx (qg #[qY (bs (zHr s most)),qX qm (zEw s most)])/\yM w w w'
theorem zM0 (s:ByteArray) (most:Int) (hs:s.size<=10000) (ab: -9223372036854775808<=most) (ac:most<=9223372036854775807) (w:yC):
  yG yK 40 #[qY s,qX qm most] w (zIi s.data.toList most w):=by
 obtain⟨b,V⟩:=zB ((max most 0).toNat+1);have m:=zH V;clear V;have O:bs []=(⟨#[]⟩:ByteArray):=by unfold bs;rfl
 have N:=zH O;clear O;go_enter func40,ntmps40;go_wp2;have hv:=Bld.new (w.alloc (qp #[qX qm most] 3));have x:=(Boxed.new w 3 (qX qm most)).alloc (qp #[qc yB,qZ yB 0 0] 120);obtain⟨W0,F⟩:=zB ((w.alloc (qp #[qX qm most] 3)).alloc (qp #[qc yB,qZ yB 0 0] 120));have af:W0.heap.size=w.heap.size+2:=by rw[<-F];simp
 have a2:yM w w W0:=by rw[<-F];exact((yR _ w).alloc (qPq _) _).alloc zm _
 rw[F]at hv x⊢;rw[qTt]at hv;obtain⟨HV,W,a7⟩:=yV hv x a2;have n1:w.heap.size≠w.heap.size+1:=za
 clear hv x a2 F;go_loopw [8,9,14] (fun rv lv i wr=>∃(k r:Nat) (c:UInt8) (o:T),k<=s.size/\i=qX qm k/\rv=qX qm (r:Int)/\lv=qX qo (c.toNat:Int)/\yL (zCm (s.data.toList.take k)=(r,c,o))/\yL (Bld wr (w.heap.size+1) (w.heap.size+1) (o.take b))/\yL (yM w w wr)/\yL (Lib.OthersKept TY (yA (w.heap.size+1)) W0 wr)/\W0.heap.size<=wr.heap.size) (fun _ _ i _=>s.size-(intOf i).toNat)
 case atStart=>exact⟨0,0,0,[],za,rfl,rfl,rfl,zH rfl,zH (by simpa using HV.out),a7,zH (Lib.OthersKept.refl _ _ _),Nat.le_refl _⟩
 case round=>
  obtain⟨k,r,c,o,hk,rfl,rfl,rfl,K,hb,g,G,hz⟩:=hrel;have a6:Boxed wr w.heap.size 3 (qX qm most):=(zDg G.out W.out n1 qW).trans W.out;have ad:kN o<=520000:=by
   have h:=zYy (s.data.toList.take k);rw[K.out,qQh,zAl]at h;simp only at h;omega
  have ae:r<=4:=by have h:=zYx (s.data.toList.take k);rw[K.out]at h;exact h
  have H:=zH a6;have I:w.heap.size+1<=wr.heap.size:=za
  clear a6;by_cases a3:k<s.size
  .have a5:zCm (s.data.toList.take (k+1))=ust (r,c,o) (s[k]'a3):=by
    rw[qQp (by rw[zAl];exact a3),zV9,K.out];rfl
   have S:=zH a5;have X:=zLo s[k] c;have Y:s[k].toNat<=255:=by have:=s[k].toNat_lt;omega
   clear a5;by_cases q:r=4
   .have ht:((r:Int)==4)=yH:=by rw[q];rfl
    have H4:=zH q;have z:=zYw (st:=(r,c,o)) (c:=s[k]) q;have HU:=zH z;clear q z X;go_wp2_with fail;refine(zHo (w.heap.size+1) (w.heap.size+1) w.heap.size c s[k].toNat o most b m.out _ hb.out H.out n1 I Y za).mono ?_;rintro e w2 ⟨rfl,y,d,f,a1⟩;obtain⟨H2,t,n⟩:=yV y (g.out.trans (d.mono za)) (G.out.trans f);clear y d f;go_wp2;go_roundw
    case rel=>exact⟨k+1,0,c,_,za,by go_num,rfl,rfl,zH (by rw[S.out,HU.out]),H2,t,n,za⟩
    case measure=>exact qV
   .have ht:((r:Int)==4)=yI:=zq
    have H4:=zH q;clear q;by_cases hm:0<r/\s[k]=c
    .obtain⟨h0,hc⟩:=hm;have z:=zYv (st:=(r,c,o)) (c:=s[k]) H4.out h0 hc;rw[qQ hc]at X;have HU:=zH z;clear z hc;go_wp2_with fail;refine(zHn (w.heap.size+1) (w.heap.size+1) w.heap.size c o most b m.out _ hb.out H.out n1 I za).mono ?_;rintro e w2 ⟨rfl,y,d,f,a1⟩;obtain⟨H2,t,n⟩:=yV y (g.out.trans (d.mono za)) (G.out.trans f);clear y d f;go_wp2;go_roundw
     case rel=>exact⟨k+1,r+1,c,_,za,by go_num,by go_num,rfl,zH (by rw[S.out,HU.out]),H2,t,n,za⟩
     case measure=>exact qV
    .have z:=qCn (st:=(r,c,o)) (c:=s[k]) H4.out hm;have HU:=zH z;have Z:r=0\/(0<r/\¬s[k]=c):=by
      by_cases h0:r=0
      .exact qz h0
      .exact qy ⟨za,fun h=>hm ⟨za,h⟩⟩
     clear z hm;rcases Z with h0|⟨h0,hc⟩
     all_goals
      try rw[qP1 hc]at X
      try clear hc
      try(have aa:¬0<r:=za;clear h0)
      go_wp2_with fail;refine(zHn (w.heap.size+1) (w.heap.size+1) w.heap.size s[k] o most b m.out _ hb.out H.out n1 I za).mono ?_;rintro e w2 ⟨rfl,y,d,f,a1⟩;obtain⟨H2,t,n⟩:=yV y (g.out.trans (d.mono za)) (G.out.trans f);clear y d f;go_wp2;go_roundw
      case rel=>exact⟨k+1,1,s[k],_,za,by go_num,rfl,rfl,zH (by rw[S.out,HU.out]),H2,t,n,za⟩
      case measure=>exact qV
  .have L:s.data.toList.take k=s.data.toList:=qQc (by rw[zAl];omega);have B:=K.out;rw[L]at B;have M:=zH B;have cl:=zTw (w.heap.size+1) (w.heap.size+1) (o.take b);have P:kN (o.take b)=min b (kN o):=by rw[qQh]
   obtain⟨ln,R⟩:=zB (kN (o.take b));rw[R]at cl P;obtain⟨CL,a0⟩:=yU cl P;clear cl P R;have a9:=H.out.cell;clear L B;by_cases q:r=4
   .have ht:((r:Int)==4)=yH:=by rw[q];rfl
    have a:zEw s.data.toList most=3:=by unfold zEw;rw[M.out,qPr q]
    have j:zHr s.data.toList most=[]:=by unfold zHr;rw[a];rfl
    obtain⟨u,p⟩:=yU a j;clear q a j;go_wp2;go_ret2;exact⟨by rw[u.out,p.out,N.out];rfl,g.out⟩
   .have ht:((r:Int)==4)=yI:=zq
    by_cases l:most<(kN o:Int)
    .have hd:most<(ln:Int):=by
      have h1:=m.out;have y:=a0.out;omega
     have a:zEw s.data.toList most=4:=by unfold zEw;rw[M.out,qPt q,qPr l]
     have j:zHr s.data.toList most=[]:=by unfold zHr;rw[a];rfl
     obtain⟨u,p⟩:=yU a j;clear q a j l;go_wp2;go_quiet ((go_at_call 115;exact Calls.quiet_of_same (CL.out _ (hb.out.drewN _))));go_wp2;go_ret2;exact⟨by rw[u.out,p.out,N.out];rfl,below_drewN g.out _⟩
    .have hd:¬most<(ln:Int):=by
      have y:=a0.out;omega
     have a:zEw s.data.toList most=0:=by unfold zEw;rw[M.out,qPt q,qPt l]
     have j:zHr s.data.toList most=o:=by unfold zHr;rw[qPr a,M.out]
     have a4:o.take b=o:=qQc (by have:=m.out;omega);obtain⟨u,p,a8⟩:=yV a j a4;clear q a j l a4;go_wp2;go_quiet ((go_at_call 115;exact Calls.quiet_of_same (CL.out _ (hb.out.drewN _))));go_wp2_with fail;refine(zD0 (w.heap.size+1) (w.heap.size+1) (o.take b) _ (hb.out.drewN nq) I).mono ?_;rintro e w2 ⟨rfl,d,f⟩;rw[a8.out];go_wp2;go_ret2;exact⟨by rw[u.out,p.out,<-qCh];rfl,(below_drewN g.out nq).trans (d.mono za)⟩
end Rle
namespace Rle
open Kit (zAe)
@[irreducible] def pk (c n:Int):Int:=if c<0 then-(c+1)%n else c%n
theorem qH (c n:Int) (h:1<=n):0<=pk c n:=by
 unfold pk;split<;>exact Int.emod_nonneg _ za
theorem qHa (c n:Int) (h:1<=n):pk c n<n:=by
 unfold pk;split<;>exact Int.emod_lt_of_pos _ za
theorem zHu (c n:Int) (w:yC) (f: -9223372036854775808<=c) (g:c<=9223372036854775807) (h:1<=n) (i:n<=9223372036854775807):
  yG yK 66 #[qX qm c,qX qm n] w fun e w'=>e=qx (qX qm (pk c n))/\w=w':=by
 have a:pk c n=if c<0 then-(c+1)%n else c%n:=by unfold pk;rfl
 have b:=zH a;clear a;have j:(n==0)=yI:=zq
 by_cases d:c<0
 all_goals
  go_enter func66,ntmps66;go_wp2;go_ret;refine⟨zBw ?_,rfl⟩;rw[b.out]
  first
   |(rw[qPr d,<-Int.neg_tmod,qS5 za])
   |rw[qPt za]
theorem zQu (c:Int) (n:Nat) (a: -9223372036854775808<=c) (b:c<=9223372036854775807) (g:1<=n) (h:n<=1000000) (N:Int) (d:N=(n:Int)):
  ∃q:Nat,q<n/\∀w:yC,yG yK 66 #[qX qm c,qX qm N] w fun e w'=>e=qx (qX qm (q:Int))/\w=w':=by
 subst d;obtain⟨q,f⟩:=qT5 (qH c (n:Int) za);have i:=qHa c (n:Int) za;refine⟨q,za,?_⟩;rw[<-f];exact fun w=>zHu c (n:Int) w a b za za
def zGg (q:Nat):UInt8:=([0,1,4,97,98,255]:T).getD q 0
theorem zZr (w:yC) (q:Nat) (a:q<6):(w.alloc (qp #[qX qo 0,qX qo 1,qX qo 4,qX qo 97,qX qo 98,qX qo 255] 5)).cell? ⟨w.heap.size,q,yB⟩=yA (qX qo ((zGg q).toNat:Int)):=by
 match q,a with
 |0,_=>simp[zGg]
 |1,_=>simp[zGg]
 |2,_=>simp[zGg]
 |3,_=>simp[zGg]
 |4,_=>simp[zGg]
 |5,_=>simp[zGg]
def qBv (most:Nat) (w:yC) (e:Ending) (w':yC):Prop:=∃u:ByteArray,e=qx (qY u)/\u.size<=most/\yM w w w'
theorem qBu (a:Option yF) (len a1:Nat) (g:Nat->Int×Int) (most:Nat) (hm:most<=1000) (M:Int) (hM:M=(most:Int)) (w:yC) (h:Kit.zEq qm w a len a1 g):
  yG yK 16 #[qZ a len a1,qX qm M] w (qBv most w):=by
 subst hM;obtain⟨a8,O,hg⟩:=h;have HG:=zH hg;unfold maxLen at O;clear hg;go_enter func16,ntmps16;go_wp2;go_loopw [5,6] (fun o i wr=>∃(k:Nat) (u:ByteArray),k<=len/\i=qX qm k/\o=qY u/\u.size<=most/\yM w w wr) (fun _ i _=>len-(intOf i).toNat)
 case atStart=>exact⟨0,⟨#[]⟩,za,rfl,rfl,qQl _,yR _ _⟩
 case round=>
  obtain⟨k,u,hk,rfl,rfl,hu,z⟩:=hrel;by_cases q:k<len/\u.size<most
  .obtain⟨a0,a4⟩:=q;obtain⟨b,x,rfl,h0,h1,I,F⟩:=HG.out k a0;obtain⟨l0,u0⟩:=bounds_i64 I;obtain⟨l1,u1⟩:=bounds_i64 F;have r:b<w.heap.size:=qQk h0;have r0:=z.cell (p:=⟨b,x+k*2,yB⟩) r;rw[h0]at r0;have r1:=z.cell (p:=⟨b,x+k*2+1,yB⟩) r;rw[h1]at r1;obtain⟨x0,H⟩:=zB ((g k).1);obtain⟨x1,t⟩:=zB ((g k).2);rw[H]at l0 u0 r0;rw[t]at l1 u1 r1;have hz:=z.size;have hne:b≠wr.heap.size:=za
   have a3:b<wr.heap.size:=za
   have f:=h1;rw[t]at f;have S:=zH f;clear h0 h1 I F H t f;obtain⟨q0,X,K⟩:=zQu x0 6 l0 u0 za za 6 rfl;obtain⟨y,a9,L⟩:=zQu x1 300 l1 u1 za za 300 rfl;have N:=zZr wr q0 X;obtain⟨c,q⟩:=zB (zGg q0);rw[q]at N;obtain⟨Y,G⟩:=yU K L;clear K L q;go_wp2_with fail;refine(Y.out _).mono ?_;rintro e w2 ⟨rfl,rfl⟩;go_wp2;obtain⟨wo,s⟩:=zB (wr.alloc (qp #[qX qo 0,qX qo 1,qX qo 4,qX qo 97,qX qo 98,qX qo 255] 5));rw[s];have V:yM w w wo:=by rw[<-s];exact z.alloc hz _
   clear s N r0 r1;go_loopw [5,8] (fun o i wr=>∃(j:Nat) (u:ByteArray),j<=1+y/\i=qX qm j/\o=qY u/\u.size<=most/\yM w w wr) (fun _ i _=>1+y-(intOf i).toNat)
   case atStart=>exact⟨0,u,za,rfl,rfl,hu,V⟩
   case round=>
    obtain⟨j,v,hj,rfl,rfl,hv,m⟩:=hrel;have r1:=m.cell (p:=⟨b,x+k*2+1,yB⟩) r;rw[S.out]at r1;have R:=m.size;have Z:(convert 109 9 (qZ (yA ⟨wr,0,yB⟩) 1 1)).run yK (wr.alloc (qp #[qX qo (c.toNat:Int)] 5))= .ok (qY ⟨#[c]⟩) (wr.alloc (qp #[qX qo (c.toNat:Int)] 5)):=Kit.Src.text (P:=yK) (src:=109) (dst:=9) (e:=5) (n:=1) (c:=1) (l:=[c]) (xM wr (zAe c) 5) rfl underlying109 underlying5 underlying9;by_cases q:j<1+y/\v.size<most
    .obtain⟨a5,a6⟩:=q;have a7:(j:Int)<1+(y:Int):=za
     have a2:(⟨#[c]⟩:ByteArray).size=1:=rfl;have B:(v++⟨#[c]⟩:ByteArray).size<=most:=by rw[ByteArray.size_append];omega
     have W:=zH B;clear B;go_wp2_with fail;refine(G.out _).mono ?_;rintro e w2 ⟨rfl,rfl⟩;go_wp2;go_roundw
     case rel=>exact⟨j+1,_,za,by go_num,rfl,W.out,m.alloc R _⟩
     case measure=>exact qV
    .clear Z;have d:¬(j:Int)<1+(y:Int)\/((j:Int)<1+(y:Int)/\¬v.size<most):=by
      by_cases h:j<1+y
      .exact qy ⟨za,fun h2=>q ⟨h,h2⟩⟩
      .exact qz za
     clear q;rcases d with h|⟨h,h'⟩
     all_goals
      go_wp2_with fail;refine(G.out _).mono ?_;rintro e w2 ⟨rfl,rfl⟩;go_wp2;go_roundw
      case rel=>exact⟨k+1,v,za,by go_num,rfl,hv,m⟩
      case measure=>exact qV
  .have d:¬k<len\/(k<len/\¬u.size<most):=by
    by_cases h:k<len
    .exact qy ⟨h,fun h2=>q ⟨h,h2⟩⟩
    .exact qz h
   clear q;rcases d with h|⟨h,h'⟩
   all_goals
    go_wp2;go_ret;exact⟨u,rfl,hu,z⟩
end Rle
namespace Bk
open Hf Bt Zr Front Wg Ch Sl Sq Us St Tn
variable {w w':yC} {D n c R Q O:Nat} {A:ByteArray} {p:Option yF}
def hdB (p:ByteArray):List Bool:=num 2 3++(num (kN (cho p)) 15++(zAz yI (cho p)++(delta (tab p 0)++delta (tab p 1))))
def bdB (p:ByteArray):List Bool:=zA0 (tabs (cho p) (tab p 0) (tab p 1)) (sym p) 0 (kN (sym p))
theorem zXx (p:ByteArray):((yO (kN (groups p))).map (zBe p)).flatten=bdB p:=by
 have h:=zOx (tabs (cho p) (tab p 0) (tab p 1)) (sym p) (kN (groups p)) (qPq _);have a:=zFg p;rw[show min (10*kN (groups p)) (kN (sym p))=kN (sym p) by omega]at h;unfold bdB;rw[<-h];unfold zNp;rw[List.flatMap_def];rfl
theorem zE6 (x:List UInt8):zAn x=num zA4 48++(num (zBa x) 32++(num (zA8 (pkT x)) 16++(zC2 (bl (zAj (pkT x)))++(hdB (pkT x)++bdB (pkT x))))):=by
 unfold zAn zIg zCg hdB;rw[qR0,qR0,zXx];simp[qQr]
theorem zTc (p:ByteArray) (h:0<p.size) (q:Nat) (f:q<kN (sym p)):(sym p).getD q 0<codes p/\((sym p).getD q 0+1=codes p↔q+1=kN (sym p)):=by
 have e:=zCv p;unfold codes;rcases qP8 q (kN (sy p)) with a|a
 .have b:(sym p).getD q 0=(sy p)[q]:=by
   unfold sym;rw[qPz,qR7 a,qPu a];rfl
  have d:=zPm p h _ (qP9 a);rw[b];constructor
  .omega
  .constructor<;>intro<;>omega
 .have b:(sym p).getD q 0=(zAj p).size+1:=by
   unfold sym;rw[qPz,qS3 a,show q-kN (sy p)=0 by omega];rfl
  rw[b];constructor
  .omega
  .constructor<;>intro<;>omega
theorem qC2 {e:yE} {a:Option yF} {xs:List yD} (h:yu w D e a n c xs) (j:0<n):c<=9223372036854775807:=by
 obtain⟨_,⟨_,i⟩|⟨g,d,f,hv,_,_,_,b,_⟩⟩:=h
 .omega
 .injection hv with _ _ hc
  unfold maxLen at b;omega
def QB (w:yC) (Q:Nat) (A:ByteArray) (O:Nat) (p:Option yF) (n c:Nat):Prop:=w.heap[Q]? =yA (qp #[qY A,O,qZ p n c] kM)
theorem Upd.qGg {b:yC} (h:Upd w b R) (a:yM D b w') (g:w.heap.size<=D) (f:R<=D):Upd w w' R:=
 ⟨fun k d e=>(a.block k za).trans (h.old k d e),h.below.trans (a.mono f)⟩
theorem QB.lt (h:QB w Q A O p n c):Q<w.heap.size:=zAd h
theorem QB.upd (h:QB w Q A O p n c) (a:Upd w w' R) (b:R<Q):QB w' Q A O p n c:=(a.old Q h.lt za).trans h
theorem QB.below (h:QB w Q A O p n c) (a:yM w w w'):QB w' Q A O p n c:=(a.block Q h.lt).trans h
theorem qDt (p:ByteArray) (j:Nat):j+3+15+kN (zAz yI (cho p))+kN (delta (tab p 0))+kN (delta (tab p 1))=j+kN (hdB p):=by
 unfold hdB;simp only[qP0,zAc];omega
theorem zY7 (R i ce:Nat) (a s:ByteArray) (x:List UInt8) (w:yC) (h:RD w R ⟨a,i,yB,0,0,yB,0,0,0⟩) (hs:a.size<=100000000) (hx:s.data.toList=x) (h0:0<kN x) (cm:1<=ce) (cn:ce<=360) (hl:xZ x<=ce) (ha:At a i (zAn x)):
  yG yK 285 #[qc (yA ⟨R,0,yB⟩),ce] w fun e w'=>e=qx (qg #[qY s,qX .u32 (zBa x:Int)])/\(∃tp tc cq KG cc,RD w' R ⟨a,i+kN (zAn x),tp,2,tc,cq,KG,cc,codes (pkT x)⟩)/\Upd w w' R:=by
 have c:=zJp x h0;have ad:=zFy x;obtain⟨p,hp⟩:=zB (pkT x);have u:=zE6 x;rw[hp]at u c ad;rw[u]at ha;have a1:=At.left ha;have ao:=At.right ha (j:=i+48) (by rw[zAc]);have a2:=At.left ao;have Z:=At.right ao (j:=i+48+32) (by rw[zAc]);have a3:=At.left Z;have V:=At.right Z (j:=i+48+32+16) (by rw[zAc]);have a4:=At.left V;have X:=At.right V rfl;have a5:=At.left X;have a6:=At.right X rfl;have b1:=At.bound a1;have b2:=At.bound a2;have b3:=At.bound a3;rw[zAc]at b1 b2 b3;have co:zBa x<4294967296:=(xD x).isLt;have br:=zDq p c;obtain⟨bj,HM,HO,c8,bw,A4,A5,A6,HP⟩:=yj (zFx R 48 54156738319193 ⟨a,i,yB,0,0,yB,0,0,0⟩ 48 rfl w h za b1 hs (At.val a1 qW)) (fun(e:Int) (w:yC)=>zJv e w) (fun(w:yC)=>zPn w) (At.val a2 za) (At.val a3 za) a4 a5 a6 hp;obtain⟨HX,bu,b8,HL⟩:=yX hx u ad hl;have cg:IntKind.u32.wrap (zBa x:Int)=(zBa x:Int):=IntWalk.u32_in _ ⟨za,za⟩;clear ha a1 ao a2 Z a3 V a4 X a5 a6 h hx hp u ad hl;go_enter func285,ntmps285;go_wp2_with fail;(with_reducible refine bj.out.mono ?_);rintro e w1 ⟨rfl,z,y⟩;have K1:=yT (RD w1 R ⟨a,i+48,yB,0,0,yB,0,0,0⟩) z;have U1:=zH y;rw[show((54156738319193:Nat):Int)=(54156738319193:Int)from rfl];clear z y bj;go_wp2_with fail;(with_reducible refine(HM.out _ _).mono ?_);rintro e w2 ⟨rfl,rfl⟩;have ax:=zH (zFx R 32 (zBa x) ⟨a,i+48,yB,0,0,yB,0,0,0⟩ 32 rfl w2 K1.out za b2 hs c8.out);go_wp2_with fail;(with_reducible refine ax.out.mono ?_);rintro e w3 ⟨rfl,z,y⟩;have K3:=yT (RD w3 R ⟨a,i+48+32,yB,0,0,yB,0,0,0⟩) z;have U3:=zH (U1.out.trans y);clear z y ax K1 U1;have b7:=zH (zFx R 16 (zA8 p) ⟨a,i+48+32,yB,0,0,yB,0,0,0⟩ 16 rfl w3 K3.out za b3 hs bw.out);go_wp2_with fail;(with_reducible refine b7.out.mono ?_);rintro e w5 ⟨rfl,z,y⟩;have K5:=yT (RD w5 R ⟨a,i+48+32+16,yB,0,0,yB,0,0,0⟩) z;have U5:=zH (U3.out.trans y);clear z y b7 K3 U3;obtain⟨Q,hQ⟩:=zB w5.heap.size;have f:R<Q:=by rw[<-hQ];exact K5.out.lt
 obtain⟨O,hO⟩:=zB (zA8 p);obtain⟨W,hW⟩:=zB (w5.alloc (qp #[qY ⟨#[]⟩,O,qZ yB 0 0] kM));have am:yM Q w5 W:=by rw[<-hW,<-hQ];exact(yR _ _).alloc (qPq _) _
 have c7:w5.heap.size<=Q:=za
 have b9:w.heap.size<=Q:=by have:=U5.out.size;omega
 have Q6:=yT (QB W.drew Q ⟨#[]⟩ O yB 0 0) (by rw[<-hW,<-hQ];exact zAh w5 _);have K6:=yT (RD W.drew R ⟨a,i+48+32+16,yB,0,0,yB,0,0,0⟩) (K5.out.below (by rw[hQ];exact am.drew));obtain⟨U6,HW,HQ,bc⟩:=yX ((U5.out.trans (Upd.of_below (by rw[hQ];exact am) za)).trans (Upd.drew W R)) hW hQ hO;rw[hO]at br;obtain⟨j,hj⟩:=zB (i+48+32+16);rw[hj]at A4 A5 A6 K6;have ag:0<kN (bl (zAj p)):=by rw[zB2];exact zMz p c
 have S:=yT (yG yK 33 #[qY a,j] W.drew fun e w'=>e=qx (qg #[qY (zAj p),qX qm ((j+kN (zC2 (bl (zAj p))):Nat):Int),qX qm 0])/\yM W.drew.heap.size W.drew w') (by
  have h:=zN8 a j (bl (zAj p)) hs _ (zVk _ _ (qP9 ag)) (qP9 ag) A4.out W.drew;rw[show(⟨(alpha (bl (zAj p)) 256).toArray⟩:ByteArray)=zAj (zAj p)from rfl,zVu]at h;exact h)
 obtain⟨A,hA⟩:=zB (zAj p);obtain⟨j2,P⟩:=zB (j+kN (zC2 (bl (zAj p))));rw[P,hA]at S;rw[P]at A5 A6;obtain⟨HA,HJ⟩:=yU hA (yS hj P);clear am hW hQ hO hj ag hA P K5 U5 c7;go_wp2;rw[HQ.out,bc.out,show w5.alloc (qp #[qY ⟨#[]⟩,O,qZ yB 0 0] kM)=W from HW.out];refine zS [] (fun _=>True) [0,1,2,4,8,0,32,64,128,256,528,1024,2048,2048,2048,8191,49151,131071] 18<|zp [0,1,2,3,4,5,6,7,8,9]<|zk 30 (zP R 0)<|zk 31 (zP R 0)<|zk 32 (zP R 0)<|zk 33 (zP R 0)<|zt 34 (qY a) (zl 9 33 (K6.out.l0))<|zk 35 (zP R 0)<|zk 36 (zP R 0)<|zk 37 (zP R 0)<|zk 38 (zP R 1)<|zt 39 (zI j) (zl 3 38 (K6.out.l1))<|zn<|zx 10 40 33 #[qY a,qX qm (j:Int)] S.out<| ?_
 rintro e w7 ⟨rfl,L⟩;refine⟨_,rfl,qy (qy trivial),?_⟩;refine zp [11,12,13,14,15,16,17]<|zk 29 (qg #[qY A,j2,qX qm 0])<|zk 41 (qY A)<|zk 42 (zI j2)<|zk 43 (qX qm 0)<|zk 8 (qY A)<|zk 9 (zI j2)<|zk 10 (qX qm 0)<|zn<|zE<| ?_
 simp only[zP,zI,Act.put,qPx,qPw,qPy];have b6:=K6.out.lt;obtain⟨K7,U7,Q7⟩:=yV (K6.out.below L) (U6.out.trans (Upd.of_below L (qP7 b6))) (Q6.out.below L);clear L S K6 U6 Q6 b6 HW HQ;have bh:=zH (zIc R j2 _ w7 K7.out);go_wp2_with fail;(with_reducible refine bh.out.mono ?_);rintro e w8 ⟨rfl,z,y⟩;have K8:=yT (RD w8 R ⟨a,j2,yB,0,0,yB,0,0,0⟩) z;obtain⟨U8,Q8⟩:=yU (U7.out.trans y) (Q7.out.upd y f);clear z y bh K7 U7 Q7;obtain⟨y0,y1,y2,z0,z1,z2⟩:=zBi Q8.out;have Q9:=yT (QB (w8.setCell ⟨Q,0,yB⟩ (qY A)) Q A O yB 0 0) (zA3 0 (qY A) Q8.out);obtain⟨K9,U9⟩:=yU (K8.out.keep (zCw (a:=Q) 0 (qY A) za)) (Upd.qGg U8.out ((yR Q w8).setCell (p:=⟨Q,0,yB⟩) (qPq _) (qY A)) b9 (qP7 f));obtain⟨w9,bn⟩:=zB (w8.setCell ⟨Q,0,yB⟩ (qY A));rw[bn]at Q9 K9 U9;obtain⟨v0,v1,v2,_,_,_⟩:=zBi Q9.out;obtain⟨N,hN⟩:=zB (codes p);have af:=zF8 p c;have ay:=zFk p;rw[HA.out]at ay;have b5:(A.size:Int)+2=(N:Int):=by rw[<-hN];unfold codes;rw[HA.out];omega
 have bf:=yT (yG yK 70 #[.agg #[qY A,O,qZ yB 0 0]] w9 fun e w'=>e=qx (qX qm (N:Int))/\yM w9 w9 w') (by
  have h:=zO4 A O yB 0 0 za w9;rw[b5]at h;exact h)
 rw[hN]at af;have HN:=zH hN;clear hN b5 ay;clear K8 U8 Q8;go_wp2_with fail;(with_reducible refine bf.out.mono ?_);rintro e ah ⟨rfl,k⟩;obtain⟨F,az,aq⟩:=yV (K9.out.below k) (U9.out.trans (Upd.of_below k (qP7 K9.out.lt))) (Q9.out.below k);have x4:=F.out.c4;have f4:=F.out.fr 4;simp only at x4;have B:=yT (RD (ah.setCell ⟨R,4,yB⟩ (qX qm (N:Int))) R ⟨a,j2,yB,0,0,yB,0,0,N⟩) (F.out.s4 N rfl);have m:=Upd.set (w:=ah) (K:=R) (i:=4) (v:=qX qm (N:Int));obtain⟨ae,ac⟩:=yU (az.out.trans m) (aq.out.upd m f);clear k m bf K9 U9 Q9 F az aq;obtain⟨ba,a8⟩:=zB (ah.setCell ⟨R,4,yB⟩ (qX qm (N:Int)));rw[a8]at B ae ac;obtain⟨KG,d⟩:=zB (kN (cho p));have o:(kN (sym p)+9)/10=KG:=by rw[<-d,zJ4,zFg]
 have cf:p.size<=360:=by have:=b8.out;have:=HL.out;omega
 have cd:=zI2 p za;rw[<-zJ4,d]at cd;have bb:=zU7 p;rw[<-zJ4,d]at bb;have HH:=zH (zXu R KG N j2 a yB 0 0 (cho p) (tab p 0) (tab p 1) ba B.out hs d bb za (zYh p) za af.2 (zC6 p c za 0) (zC6 p c za 1) ((zG6 p 0).trans HN.out) ((zG6 p 1).trans HN.out) (by have h:=A5.out;unfold hdB at h;rw[d]at h;exact h));obtain⟨M,hM⟩:=zB (kN (sym p));rw[hM]at o;have bo:=zIo p;rw[hM]at bo;have a7:=zCv p;rw[hM]at a7;obtain⟨cb,l⟩:=yU o (yS hM a7);have ab:0<M:=za
 clear d o hM a7 y0 y1 y2 z0 z1 z2 v0 v1 v2;go_wp2_with fail;(with_reducible refine HH.out.mono ?_);rintro e ap ⟨tp,tc,vs,cq,cc,rfl,z,an,b,y⟩;rw[qDt]at z;obtain⟨E,hE⟩:=zB ba.heap.size;have bg:R<E:=by rw[<-hE];exact B.out.lt
 have au:E<=ap.heap.size:=by rw[<-hE];exact y.size
 rw[hE]at an b;have HS:=zH (zSg R E KG N (j2+kN (hdB p)) tc cc M tp cq vs a (cho p) (tab p 0) (tab p 1) (sym p) ap z an b bg au hs (zYh p) (zC6 p c za 0) (zC6 p c za 1) ((zG6 p 0).trans HN.out) ((zG6 p 1).trans HN.out) l.out.1 cb.out ab za za af.2
  (fun q hq=>by have h:=zTc p c q (by rw[l.out.1];exact hq);rw[HN.out,l.out.1]at h;exact h) A6.out)
 obtain⟨c6,ar,a0⟩:=yV z (ae.out.trans y) (ac.out.upd y f);clear z y an b HH B ae ac a8 hE bg au;go_wp2_with fail;(with_reducible refine HS.out.mono ?_);rintro e H ⟨mp,mc,rfl,z,b,y⟩;obtain⟨bi,a9⟩:=yU (ar.out.trans y) (a0.out.upd y f);have bp:=a0.out.lt;obtain⟨g,rfl,_,_,cj,_,_⟩:=b.at_ ab;have ca:=qC2 b ab;have b4:=zH z;obtain⟨y0,y1,y2,z0,z1,z2⟩:=zBi a9.out;have Y:=yT (QB (H.setCell ⟨Q,2,yB⟩ (qZ (yA ⟨g,0,yB⟩) M mc)) Q A O (yA ⟨g,0,yB⟩) M mc) (zA3 2 (qZ (yA ⟨g,0,yB⟩) M mc) a9.out);obtain⟨t,aa⟩:=yU (b4.out.keep (zCw (a:=Q) 2 (qZ (yA ⟨g,0,yB⟩) M mc) za)) (Upd.qGg bi.out ((yR Q H).setCell (p:=⟨Q,2,yB⟩) (qPq _) (qZ (yA ⟨g,0,yB⟩) M mc)) b9 (qP7 f));have ak:=yT (yu (H.setCell ⟨Q,2,yB⟩ (qZ (yA ⟨g,0,yB⟩) M mc)) ap.heap.size 3 (yA ⟨g,0,yB⟩) M mc ((sym p).map ival)) (zCz b bp _);obtain⟨G,aj⟩:=zB (H.setCell ⟨Q,2,yB⟩ (qZ (yA ⟨g,0,yB⟩) M mc));rw[aj]at Y t aa ak;obtain⟨v0,v1,v2,_,_,_⟩:=zBi Y.out;have av:=yT (yG yK 319 #[.agg #[qY A,O,qZ (yA ⟨g,0,yB⟩) M mc],ce] G fun e w'=>e=qx (qg #[qY p,qX qm 0])/\yM G G w') (by
  have h:=zSl p g mc ce G c za (by have:=l.out.2;omega) ca (by have:=b8.out;have:=HL.out;omega) za ak.out.src;unfold qv at h;rw[HA.out,bc.out,<-l.out.2]at h;exact h)
 clear z y b HS c6 ar a0 b4 bi a9;go_wp2_with fail;(with_reducible refine av.out.mono ?_);rintro e cp ⟨rfl,r⟩;obtain⟨ai,bd⟩:=yU (t.out.below r) (aa.out.trans (Upd.of_below r (qP7 t.out.lt)));clear r av t aa Y ak y0 y1 y2 z0 z1 z2 v0 v1 v2 aj;go_wp2_with fail;(with_reducible refine(HO.out _).mono ?_);rintro e I ⟨rfl,rfl⟩;have ci:IntKind.i64.wrap (52*(ce:Int))=52*(ce:Int):=qQa _ ⟨za,za⟩;have b0:=yT (yG yK 40 #[qY p,qX qm (52*(ce:Int))] I fun e w'=>e=qx (qg #[qY s,qX qm 0])/\yM I I w') (by
  have h:=Rle.zM0 p (52*(ce:Int)) za za za I;have bz:p.data.toList=Rle.pack x:=by rw[<-HP.out];rfl
  have hb:=(Rle.zBu x).2;have ck:=HL.out;unfold Rle.zIi at h;rw[bz,Rle.zQk x _ za,Rle.zI9 x _ za,<-HX.out,Rle.zJ5]at h;exact h)
 go_wp2_with fail;(with_reducible refine b0.out.mono ?_);rintro e cr ⟨rfl,n⟩;obtain⟨bx,bq⟩:=yU (ai.out.below n) (bd.out.trans (Upd.of_below n (qP7 ai.out.lt)));clear n b0 ai bd;go_wp2_with fail;(with_reducible refine(HO.out _).mono ?_);rintro e cs ⟨rfl,rfl⟩;go_wp2;go_ret2;refine⟨rfl,⟨tp,tc,cq,KG,cc,?_⟩,bq.out⟩;have bk:i+kN (zAn x)=j2+kN (hdB p)+kN (bdB p):=by
  rw[bu.out,<-HJ.out.2,<-HJ.out.1];simp only[qP0,zAc,HA.out];omega
 rw[bk,HP.out,HN.out];exact bx.out
end Bk
namespace Bk
open Bt Zr Front Ch Sl
variable {w w':yC} {R n c:Nat} {a:Option yF} {ls:List (List Bool)}
abbrev TB_:yE:=51
abbrev zB5:yE:=70
abbrev TW:yE:=138
structure BW (w:yC) (R:Nat) (a:Option yF) (n c:Nat) (ls:List (List Bool)):Prop where
 blk:w.heap[R]? =yA (qp #[qZ a n c] TW)
 own:yx LB w (R+1) TB_ a n c ls
theorem BW.lt (h:BW w R a n c ls):R<w.heap.size:=zAd h.blk
theorem BW.below {D:Nat} (h:BW w R a n c ls) (b:yM D w w') (d:D=w.heap.size):BW w' R a n c ls:=by
 subst d;exact⟨(b.block R h.lt).trans h.blk,h.own.below b (qPq _)⟩
theorem BW.drew (h:BW w R a n c ls):BW w.drew R a n c ls:=⟨h.blk,h.own⟩
structure StB (w w':yC) (R:Nat):Prop where
 old:∀k,k<w.heap.size->k≠R->(∀cs f,w.heap[k]?≠yA (qp cs TB_ f))->w'.heap[k]? =w.heap[k]?
 below:yM R w w'
theorem StB.refl (w:yC) (R:Nat):StB w w R:=⟨fun k _ _ _=>rfl,yR _ _⟩
theorem StB.trans {b:yC} (h:StB w w' R) (g:StB w' b R):StB w b R:=by
 refine⟨fun k d e i=> ?_,h.below.trans g.below⟩;have j:=h.old k d e i;rw[g.old k (qQx d h.below.size) e (fun l f=>by rw[j];exact i l f),j]
theorem StB.of_below (b:yM w w w') (e:R<=w.heap.size):StB w w' R:=⟨fun k d _ _=>b.block k d,b.mono e⟩
theorem StB.size (h:StB w w' R):w.heap.size<=w'.heap.size:=h.below.size
theorem zT8 {B:Nat} {e t:yE} {l:List (List Bool)} {j:Array yD} {f:Nat×Nat} (h:yx LB w B e a n c l) (k:w.heap[R]? =yA (qp j t f)) (m:t≠e):
  (Value.slice a n c).ownBlock≠yA R:=by
 intro i;obtain⟨_,d⟩:=h;rcases d with⟨d,_⟩|⟨g,o,p,hv,q,b,_⟩
 .injection d with d _ _
  subst d;simp[Value.ownBlock]at i
 .injection hv with ha _ hc
  subst ha;simp[Value.ownBlock]at i;subst i;rw[k]at b;injection b with b
  injection b with _ b _
  exact m b
theorem BW.push (h:BW w R a n c ls) (x:List Bool) (G:n<=100000):
  ∃a' c' w',(Builtin.append_ #[zB5,zB5] zB5 #[qZ a n c,qZ (yA ⟨w,0,yB⟩) 1 1]).run yK (w.alloc (qp (LB.cl x).toArray TB_))= .ok (qZ a' (n+1) c') w'/\
   w'.heap[R]? =yA (qp #[qZ a n c] TW)/\BW (w'.setCell ⟨R,0,yB⟩ (qZ a' (n+1) c')) R a' (n+1) c' (ls++[x])/\StB w (w'.setCell ⟨R,0,yB⟩ (qZ a' (n+1) c')) R:=by
 have z:Kit.Rd LB (w.alloc (qp (LB.cl x).toArray TB_)) (yA ⟨w,0,yB⟩) [x]:=Kit.zFo w x TB_;have l:yx LB (w.alloc (qp (LB.cl x).toArray TB_)) (R+1) TB_ a n c ls:=h.own.alloc _;have o:=h.lt;obtain⟨a',c',w',q,m,i⟩:=l.app (ty:=zB5) zPo (yA ⟨w,0,yB⟩) 1 1 [x] z rfl (fun h=>by cases h) (by unfold maxLen;omega) za (by rw[zA];omega);have j:yM w w (w.alloc (qp (LB.cl x).toArray TB_)):=(yR _ _).alloc (qPq _) _;have b:(w.alloc (qp (LB.cl x).toArray TB_)).heap[R]? =yA (qp #[qZ a n c] TW):=(j.block R o).trans h.blk;have hne:=zT8 l b qW;have d:w'.heap[R]? =yA (qp #[qZ a n c] TW):=(i.block R (zAd b) (fun e=>hne e.symm)).trans b;refine⟨a',c',w',q,d,⟨?_,?_⟩,⟨fun k r s t=> ?_,?_⟩⟩
 .simp[World.setCell,qQt,d]
 .exact qRz m (zB1 w' R 0 _) (qy (zT8 m d qW))
 .rw[zAa s];refine(i.block k (by rw[zA];omega) (fun e=> ?_)).trans (j.block k r);obtain⟨_,f⟩:=h.own;rcases f with⟨f,_⟩|⟨g,B,F,hv,_,u,_⟩
  .injection f with f _ _
   subst f;simp[Value.ownBlock]at e
  .injection hv with ha _ _
   subst ha;simp[Value.ownBlock]at e;subst e;exact t _ _ u
 .refine((j.mono (qP7 o)).trans (xR i (by rw[zA];omega) (fun k y=> ?_))).setCell (p:=⟨R,0,yB⟩) (qPq _) _;have:=l.block k y;omega
theorem BW.one {W:yC} {P:Nat} (h:BW W R a n c ls) (x:List Bool) (k:n<=100000) (e:W.heap[P]? =yA (qp (LB.cl x).toArray TB_)):
  ∃d c1 b w2,(loadVar zB5 ⟨R,0,yB⟩).run yK W.drew= .ok (qZ a n c) W.drew/\
   (loadVar zB5 ⟨R,0,yB⟩).run yK (W.drew.alloc (qp (LB.cl x).toArray TB_))= .ok (qZ a n c) (W.drew.alloc (qp (LB.cl x).toArray TB_))/\
   (loadVar TB_ ⟨P,0,yB⟩).run yK W.drew= .ok (zAe x) W.drew/\
   (Builtin.append_ #[zB5,zB5] zB5 #[qZ a n c,qZ (yA ⟨W.drew.heap.size,0,yB⟩) 1 1]).run yK (W.drew.alloc (qp (LB.cl x).toArray TB_))= .ok (qZ d (n+1) c1) b/\
   (storeVar zB5 ⟨R,0,yB⟩ (qZ d (n+1) c1)).run yK b= .ok () w2/\BW w2 R d (n+1) c1 (ls++[x])/\StB W w2 R:=by
 obtain⟨d,c1,b,m,g,l,o⟩:=h.drew.push x k;have j:W.drew.cell? ⟨R,0,yB⟩=yA (qZ a n c):=by simp[yQ,show W.drew.heap[R]? =_ from h.blk]
 have p:b.cell? ⟨R,0,yB⟩=yA (qZ a n c):=by simp[yQ,g]
 have y2:b.frozen? ⟨R,0,yB⟩=yI:=by simp[World.frozen?,g]
 have f:=h.lt;refine⟨d,c1,b,_,yw j zf zf,yw ((World.cell?_alloc_lt _ _ _ (by show R<_;exact f)).trans j) zf zf,?_,m,Kit.zDs p y2 zf rfl rfl,l,?_⟩
 .refine Kit.zHe (L:=LB) (x:=x) (fun i hi=> ?_) (fun w=>zf) (fun w=>zf);have q:i<2:=hi;obtain rfl|rfl:i=0\/i=1:=za
  .simp[yQ,show W.drew.heap[P]? =_ from e]
  .simp[yQ,show W.drew.heap[P]? =_ from e]
 .exact(StB.of_below (w':=W.drew) (yR _ _).drew (qP7 f)).trans o
theorem zHk (R:Nat) (a:Option yF) (n c:Nat) (ls:List (List Bool)) (x:List Bool) (e:Int) (w:yC) (h:BW w R a n c ls) (z:n<=100000):
  yG yK 72 #[qc (yA ⟨R,0,yB⟩),zAe x,qX qm e] w fun e w'=>e=qx (qg #[])/\∃a' c',BW w' R a' (n+1) c' (ls++[x])/\StB w w' R:=by
 obtain⟨P,g⟩:=zB w.heap.size;obtain⟨W,i⟩:=zB (w.alloc (qp (LB.cl x).toArray TB_));have j:yM P w W:=by rw[<-i,<-g];exact(yR _ _).alloc (qPq _) _
 have o:W.heap[P]? =yA (qp (LB.cl x).toArray TB_):=by rw[<-i,<-g];exact zAh w _
 obtain⟨u,c1,F,w2,l0,l2,ld,l,b,k,m⟩:=(h.below j g.symm).one x z o;have B:R<P:=by rw[<-g];exact h.lt
 obtain⟨L0,t,LD,d,f,q,r,s,p⟩:=yj l0 l2 ld l b k ((StB.of_below (g▸j) za).trans m) i g;clear h j o l0 l2 ld l b k m i g;unfold zAe at*;go_enter func72,ntmps72;go_wp2;rw[p.out,show w.alloc (qp #[qY (pk x),qX qm (kN x:Int)] TB_)=W from s.out];refine zS [7,10] (fun W'=>(loadVar 70 ⟨R,0,yB⟩).run yK W'= .ok (qZ a n c) W') [0,0,2,4,8,0,32,80,255,511,767] 11<|zu 0 6 (zP R 0)<|zu 1 7 (zP R 0)<|zu 2 8 (zP R 0)<|zu 3 9 (zP R 0)<|zy 4 10 (qZ a n c) (fun w y=>zl 70 9 (y)) L0.out<|zp [5]<|zt 11 (.agg #[qY (pk x),qX qm (kN x:Int)]) (zl 51 4 (LD.out))<|zn<| ?_
 refine Kit.zLe (w':=W.drew.alloc (qp (LB.cl x).toArray TB_)) 6 (yA 12) (qZ (yA ⟨W.drew.heap.size,0,yB⟩) 1 1) 127 zf zf rfl rfl zf zf (qy (qy (t.out))) ?_;refine zo 7 13 (qZ u (n+1) c1) (Kit.zHb (.tmp 10) (.tmp 12) 70 rfl zf zf d.out) (qy (qz zf))<|zp [8,9]<|zk 14 (zP R 0)<|zk 15 (zP R 0)<|zn<|zw 10 yB (zr 70 15 13 (f.out)) (qy (qz zf))<|zE<| ?_
 simp only[zP,zI,Act.put,qPx,qPw,qPy];go_wp2;go_end0;exact⟨rfl,_,_,q.out,r.out⟩
theorem zSd (R:Nat) (a:Option yF) (n c:Nat) (ls:List (List Bool)) (v k:Nat) (w:yC) (h:BW w R a n c ls) (O:n<=100000) (hv:v<18446744073709551616) (u:k<=64):
  yG yK 71 #[qc (yA ⟨R,0,yB⟩),qX .u64 (v:Int),k] w fun e w'=>e=qx (qg #[])/\∃a' c',BW w' R a' (n+1) c' (ls++[num v k])/\StB w w' R:=by
 have j:=zJo [] v k w hv u zq;have b:=zH j;obtain⟨x,t⟩:=zB (num v k);rw[qQm,t]at b;rw[t];have H:=zH h;have g:zAe []= .agg #[qY ⟨#[]⟩,qX qm 0]:=rfl;rw[g]at b;unfold zAe at b;clear j h t hv u g;go_enter func71,ntmps71;go_wp2_with fail;(with_reducible refine b.out.mono ?_);rintro e p ⟨rfl,d⟩;obtain⟨P,o⟩:=zB p.heap.size;obtain⟨W,q⟩:=zB (p.alloc (qp (LB.cl x).toArray TB_));have s:yM P p W:=by rw[<-q,<-o];exact(yR _ _).alloc (qPq _) _
 have i:W.heap[P]? =yA (qp (LB.cl x).toArray TB_):=by rw[<-q,<-o];exact zAh p _
 have r:=H.out.below d rfl;obtain⟨M,c1,X,w2,l0,l2,ld,z,f,y,B⟩:=(r.below s o.symm).one x O i;have S:R<P:=by rw[<-o];exact r.lt
 have V:=H.out.lt;obtain⟨L0,L,LD,l,m,G,I,K,F⟩:=yj l0 l2 ld z f y ((StB.of_below d za).trans ((StB.of_below (o▸s) za).trans B)) q o;clear s d r i l0 l2 ld z f y B q o b H;unfold zAe at LD;go_wp2;rw[F.out,show p.alloc (qp #[qY (pk x),qX qm (kN x:Int)] TB_)=W from K.out];refine zS [7,10] (fun W'=>(loadVar 70 ⟨R,0,yB⟩).run yK W'= .ok (qZ a n c) W') [0,0,2,4,8,0,32,80,255,511,767] 11<|zu 0 15 (zP R 0)<|zu 1 16 (zP R 0)<|zu 2 17 (zP R 0)<|zu 3 18 (zP R 0)<|zy 4 19 (qZ a n c) (fun w N=>zl 70 18 (N)) L0.out<|zp [5]<|zt 20 (.agg #[qY (pk x),qX qm (kN x:Int)]) (zl 51 6 (LD.out))<|zn<| ?_
 refine Kit.zLe (w':=W.drew.alloc (qp (LB.cl x).toArray TB_)) 6 (yA 21) (qZ (yA ⟨W.drew.heap.size,0,yB⟩) 1 1) 127 zf zf rfl rfl zf zf (qy (qy (L.out))) ?_;refine zo 7 22 (qZ M (n+1) c1) (Kit.zHb (.tmp 19) (.tmp 21) 70 rfl zf zf l.out) (qy (qz zf))<|zp [8,9]<|zk 23 (zP R 0)<|zk 24 (zP R 0)<|zn<|zw 10 yB (zr 70 24 22 (m.out)) (qy (qz zf))<|zE<| ?_
 simp only[zP,zI,Act.put,qPx,qPw,qPy];go_wp2;go_end0;exact⟨rfl,_,_,G.out,I.out⟩
end Bk
namespace Ch
open Front Bt Zr Hf Wg
theorem three (W:yC) (E:Nat) (e:W.heap.size=E) (a b c:Obj):(((W.alloc a).alloc b).alloc c).heap[E]? =yA a/\(((W.alloc a).alloc b).alloc c).heap[E+1]? =yA b/\(((W.alloc a).alloc b).alloc c).heap[E+2]? =yA c/\yM E W (((W.alloc a).alloc b).alloc c):=by
 subst e;have f:yM (W.heap.size+1) (W.alloc a) ((W.alloc a).alloc b):=(yR _ _).alloc (by rw[zA];exact qPq _) _;have d:yM (W.heap.size+2) ((W.alloc a).alloc b) (((W.alloc a).alloc b).alloc c):=(yR _ _).alloc (by rw[zA,zA];exact qPq _) _;refine⟨?_,?_,?_,(((yR _ _).alloc (qPq _) _).alloc (by rw[zA];omega) _).alloc (by rw[zA,zA];omega) _⟩
 .exact(d.block _ za).trans ((f.block _ za).trans (zAh W a))
 .have h:=zAh (W.alloc a) b;rw[zA]at h;exact(d.block _ za).trans h
 .have h:=zAh ((W.alloc a).alloc b) c;rw[zA,zA]at h;exact h
theorem zZ6 {w:yC} {D:Nat} {p:Option yF} {j c:Nat} {l:List Nat} (h:yu w D 3 p j c (l.map ival)) (x:Nat) (m:j<=1000000) (f:D<=w.heap.size):
  ∃e c' w',(Builtin.append_ #[23,23] 23 #[qZ p j c,qZ (yA ⟨w,0,yB⟩) 1 1]).run yK (w.alloc (qp #[x] 3))= .ok (qZ e (j+1) c') w'/\
   yu w' D 3 e (j+1) c' ((l++[x]).map ival)/\yM D w w':=by
 obtain⟨i,c3,k,a,d,b⟩:=Kit.Own.app (ty:=23) (w:=w.alloc (qp #[x] 3)) zFn (h.alloc _) (yA ⟨w,0,yB⟩) 1 1 [ival x] (xM w _ 3) rfl (fun h=>by cases h) (zDr [x]) (by unfold maxLen;omega) za zq;refine⟨i,c3,k,a,by rw[qQb];exact d,?_⟩;exact((yR _ _).alloc f _).trans ((yR _ _).grown b zq (fun q g=>h.block q g))
theorem zL0 (m:List Nat) (n:Nat) (a:Option yF) (k c:Nat) (w:yC) (hk:kN m=k) (co:k<=c) (h1:1<=k) (ay:k<=10000) (h2:2<=n) (ax:n<=258) (hs:yt w a (m.map ival)) (hm:∀s∈m,s<n) (ha:∀p,a=yA p->p.block<w.heap.size):
  yG yK 23 #[qZ a k c,n] w fun e w'=>∃p cp q cq G0 G1,e=qx (qg #[qZ p 2 cp,qZ q (kN (grp m)) cq,qX qm 0])/\
   yt w' p [qZ (yA ⟨G0,0,yB⟩) n n,qZ (yA ⟨G1,0,yB⟩) n n]/\yt w' (yA ⟨G0,0,yB⟩) ((tb m n 0).map ival)/\yt w' (yA ⟨G1,0,yB⟩) ((tb m n 1).map ival)/\yt w' q ((chosen m n).map ival)/\yM w w w':=by
 obtain⟨B,hB⟩:=zB w.heap.size;have HO:=zH (zTr m a k c n w hk za hs hm);have j1:decide ((n:Int)<2)=yI:=qP1 za;have j2:decide ((258:Int)<(n:Int))=yI:=qP1 za;have j3:((k:Int)==0)=yI:=by rw[qSd];omega
 have j4:decide ((1048576:Int)<(k:Int))=yI:=qP1 za;obtain⟨HS,HM,HK,HA,a9⟩:=yY hs hm hk ha hB;clear hs hm hk ha;rw[hB];go_enter func23,ntmps23;go_wp2_with fail;(with_reducible refine HO.out.mono ?_);rintro e w2 ⟨rfl,a6⟩;rw[hB]at a6;have B2:=zH a6;obtain⟨E,hE⟩:=zB w2.drew.heap.size;have R:B<=E:=by rw[<-hE];exact qP2 (by rw[<-hB];exact qPq _) a6.size
 have HE:=zH hE;clear a6 HO hB hE j1 j2 j3 j4;go_upto_region 5 with fail;go_cut [7] (fun s7 wx=>∃x y z,s7=qc (yA ⟨z,0,yB⟩)/\yL (We B w m n 0 x y z wx))
 case first=>
  refine zS [] (fun _=>True) [0,1,0,4,10,0,63] 7<|zu 0 45 (zI n)<|zu 2 47 (zI n)<| ?_
  refine Kit.qEr 1 3 5 zf ?_ ?_ ?_
  .
   refine kK (yA 46) (qZ (yA ⟨E,0,yB⟩) n n) 7 zf rfl rfl zf (zEr (x:= .tmp 45) (y:= .tmp 45) (n:=n) za rfl zf zf (by rw[HE.out]) rfl) (qy (qy trivial)) ?_;refine Kit.zY4 3 5 zf ?_ ?_
   .
    refine kK (yA 48) (qZ (yA ⟨E+1,0,yB⟩) n n) 15 zf rfl rfl zf (zEr (x:= .tmp 47) (y:= .tmp 47) (n:=n) za rfl zf zf (by rw[zA,HE.out]) rfl) (qy (qy trivial)) ?_;refine zu 4 49 (.agg #[qZ (yA ⟨E,0,yB⟩) n n,qZ (yA ⟨E+1,0,yB⟩) n n])<|zo 5 7 (qc (yA ⟨E+2,0,yB⟩)) (xK (w2:=((w2.drew.alloc (zi n)).alloc (zi n)).alloc z2) zf (by rw[zA,zA,HE.out]) rfl) (qy (qy trivial))<|zw 6 yB (zr 162 7 49 (zG8 (n:=n) (x:=E) (y:=E+1) (z:=E+2) (three w2.drew E HE.out (zi n) (zi n) z2).2.2.1)) (qy (qy trivial))<|zE<| ?_
    simp only[zP,zI,Act.put,qPx,qPw,qPy];go_wp2;go_meet;obtain⟨q0,q1,q2,qb⟩:=three w2.drew E HE.out (zi n) (zi n) z2;exact⟨E,E+1,E+2,rfl,zH (We.start m (B2.out.drew.trans (qb.mono R)) q0 q1 q2 za za za za)⟩
   .
    refine kK (yA 7) (qc (yA ⟨E+1,0,yB⟩)) 39 zf rfl rfl zf (xK (w2:=(w2.drew.alloc (zi n)).alloc z2) zf (by rw[zA,HE.out]) rfl) (qy (qy trivial)) ?_;refine zo 3 48 (qZ (yA ⟨E+2,0,yB⟩) n n) (zEr (x:= .tmp 47) (y:= .tmp 47) (n:=n) za rfl zf zf (by rw[zA,zA,HE.out]) rfl) (qy (qy trivial))<|zu 4 49 (.agg #[qZ (yA ⟨E,0,yB⟩) n n,qZ (yA ⟨E+2,0,yB⟩) n n])<|zw 6 yB (zr 162 7 49 (zG8 (n:=n) (x:=E) (y:=E+2) (z:=E+1) (three w2.drew E HE.out (zi n) z2 (zi n)).2.1)) (qy (qy trivial))<|zE<| ?_
    simp only[zP,zI,Act.put,qPx,qPw,qPy];go_wp2;go_meet;obtain⟨q0,q1,q2,qb⟩:=three w2.drew E HE.out (zi n) z2 (zi n);exact⟨E,E+2,E+1,rfl,zH (We.start m (B2.out.drew.trans (qb.mono R)) q0 q2 q1 za za za za)⟩
  .
   refine kK (yA 48) (qZ (yA ⟨E,0,yB⟩) n n) 13 zf rfl rfl zf (zEr (x:= .tmp 47) (y:= .tmp 47) (n:=n) za rfl zf zf (by rw[HE.out]) rfl) (qy (qy trivial)) ?_;refine Kit.zY4 1 5 zf ?_ ?_
   .
    refine kK (yA 46) (qZ (yA ⟨E+1,0,yB⟩) n n) 15 zf rfl rfl zf (zEr (x:= .tmp 45) (y:= .tmp 45) (n:=n) za rfl zf zf (by rw[zA,HE.out]) rfl) (qy (qy trivial)) ?_;refine zu 4 49 (.agg #[qZ (yA ⟨E+1,0,yB⟩) n n,qZ (yA ⟨E,0,yB⟩) n n])<|zo 5 7 (qc (yA ⟨E+2,0,yB⟩)) (xK (w2:=((w2.drew.alloc (zi n)).alloc (zi n)).alloc z2) zf (by rw[zA,zA,HE.out]) rfl) (qy (qy trivial))<|zw 6 yB (zr 162 7 49 (zG8 (n:=n) (x:=E+1) (y:=E) (z:=E+2) (three w2.drew E HE.out (zi n) (zi n) z2).2.2.1)) (qy (qy trivial))<|zE<| ?_
    simp only[zP,zI,Act.put,qPx,qPw,qPy];go_wp2;go_meet;obtain⟨q0,q1,q2,qb⟩:=three w2.drew E HE.out (zi n) (zi n) z2;exact⟨E+1,E,E+2,rfl,zH (We.start m (B2.out.drew.trans (qb.mono R)) q1 q0 q2 za za za za)⟩
   .
    refine kK (yA 7) (qc (yA ⟨E+1,0,yB⟩)) 45 zf rfl rfl zf (xK (w2:=(w2.drew.alloc (zi n)).alloc z2) zf (by rw[zA,HE.out]) rfl) (qy (qy trivial)) ?_;refine zo 1 46 (qZ (yA ⟨E+2,0,yB⟩) n n) (zEr (x:= .tmp 45) (y:= .tmp 45) (n:=n) za rfl zf zf (by rw[zA,zA,HE.out]) rfl) (qy (qy trivial))<|zu 4 49 (.agg #[qZ (yA ⟨E+2,0,yB⟩) n n,qZ (yA ⟨E,0,yB⟩) n n])<|zw 6 yB (zr 162 7 49 (zG8 (n:=n) (x:=E+2) (y:=E) (z:=E+1) (three w2.drew E HE.out (zi n) z2 (zi n)).2.1)) (qy (qy trivial))<|zE<| ?_
    simp only[zP,zI,Act.put,qPx,qPw,qPy];go_wp2;go_meet;obtain⟨q0,q1,q2,qb⟩:=three w2.drew E HE.out (zi n) z2 (zi n);exact⟨E+2,E,E+1,rfl,zH (We.start m (B2.out.drew.trans (qb.mono R)) q2 q0 q1 za za za za)⟩
  .
   refine kK (yA 7) (qc (yA ⟨E,0,yB⟩)) 37 zf rfl rfl zf (xK (w2:=w2.drew.alloc z2) zf (by rw[HE.out]) rfl) (qy (qy trivial)) ?_;refine Kit.zY4 1 3 zf ?_ ?_
   .
    refine kK (yA 46) (qZ (yA ⟨E+1,0,yB⟩) n n) 39 zf rfl rfl zf (zEr (x:= .tmp 45) (y:= .tmp 45) (n:=n) za rfl zf zf (by rw[zA,HE.out]) rfl) (qy (qy trivial)) ?_;refine zo 3 48 (qZ (yA ⟨E+2,0,yB⟩) n n) (zEr (x:= .tmp 47) (y:= .tmp 47) (n:=n) za rfl zf zf (by rw[zA,zA,HE.out]) rfl) (qy (qy trivial))<|zu 4 49 (.agg #[qZ (yA ⟨E+1,0,yB⟩) n n,qZ (yA ⟨E+2,0,yB⟩) n n])<|zw 6 yB (zr 162 7 49 (zG8 (n:=n) (x:=E+1) (y:=E+2) (z:=E) (three w2.drew E HE.out z2 (zi n) (zi n)).1)) (qy (qy trivial))<|zE<| ?_
    simp only[zP,zI,Act.put,qPx,qPw,qPy];go_wp2;go_meet;obtain⟨q0,q1,q2,qb⟩:=three w2.drew E HE.out z2 (zi n) (zi n);exact⟨E+1,E+2,E,rfl,zH (We.start m (B2.out.drew.trans (qb.mono R)) q1 q2 q0 za za za za)⟩
   .
    refine kK (yA 48) (qZ (yA ⟨E+1,0,yB⟩) n n) 45 zf rfl rfl zf (zEr (x:= .tmp 47) (y:= .tmp 47) (n:=n) za rfl zf zf (by rw[zA,HE.out]) rfl) (qy (qy trivial)) ?_;refine zo 1 46 (qZ (yA ⟨E+2,0,yB⟩) n n) (zEr (x:= .tmp 45) (y:= .tmp 45) (n:=n) za rfl zf zf (by rw[zA,zA,HE.out]) rfl) (qy (qy trivial))<|zu 4 49 (.agg #[qZ (yA ⟨E+2,0,yB⟩) n n,qZ (yA ⟨E+1,0,yB⟩) n n])<|zw 6 yB (zr 162 7 49 (zG8 (n:=n) (x:=E+2) (y:=E+1) (z:=E) (three w2.drew E HE.out z2 (zi n) (zi n)).1)) (qy (qy trivial))<|zE<| ?_
    simp only[zP,zI,Act.put,qPx,qPw,qPy];go_wp2;go_meet;obtain⟨q0,q1,q2,qb⟩:=three w2.drew E HE.out z2 (zi n) (zi n);exact⟨E+2,E+1,E,rfl,zH (We.start m (B2.out.drew.trans (qb.mono R)) q2 q1 q0 za za za za)⟩
 case rest=>
  obtain⟨x,y,z,rfl,b⟩:=hcut;have hD:∃D,wc.heap.size=D:=⟨_,rfl⟩;obtain⟨D,hD⟩:=hD;have cu:B<=D:=by rw[<-hD,<-a9.out];exact b.out.below.size
  have d5:x<D:=by rw[<-hD];exact b.out.ax.lt
  have d6:y<D:=by rw[<-hD];exact b.out.ay.lt
  have HG:=zH (zH8 m a k c wc HK.out za co (HS.out.below (by rw[a9.out];exact b.out.below)) (fun p hp=>by
   have h1:=HA.out p hp;rw[a9.out]at h1;omega))
  rw[hD]at HG;go_wp2_with fail;(with_reducible refine HG.out.mono ?_);rintro e w4 ⟨p,cg,vs,rfl,f,bg⟩;have b4:0<kN (grp m):=by rw[zBx,HK.out];omega
  obtain⟨g0,rfl,cw,_⟩:=f.own.at_ b4;obtain⟨GR,WE⟩:=yU f (b.out.grow (by rw[hD];exact bg));have ad:kN (grp m)=(k+9)/10:=by rw[zBx,HK.out]
  obtain⟨K,hK⟩:=zB (kN (grp m));rw[hK]at GR ad⊢;obtain⟨M,HD⟩:=yU hK hD;have d0:10*K<=k+9:=za
  have d1:k<=10*K:=za
  have d2:0<K:=za
  clear ad;clear f b bg HG b4 hK hD;go_wp2;go_loopw [54] (fun iv wr=>∃i:Nat,i<=K/\iv=qX qm i/\yL (We B w m n (min (10*i) k) x y z wr)/\yL (Gr wr D (yA ⟨g0,0,yB⟩) K cg vs (grp m))) (fun iv _=>K-(intOf iv).toNat)
  case atStart=>exact⟨0,za,rfl,WE,GR⟩
  case round=>
   clear WE GR;obtain⟨i,hi,rfl,b,f⟩:=hrel;by_cases o:i<K
   .obtain⟨g,hg⟩:∃g,(grp m)[i]? =yA g:=⟨_,qPu (by rw[M.out];exact o)⟩;obtain⟨G,c',hv,ac,l⟩:=f.out.each i g hg;have aa:g=(m.drop (10*i)).take 10:=by
     have h5:=zJy m i (by rw[HK.out];omega);rw[hg]at h5;exact qPv h5
    have bu:kN g=min 10 (k-10*i):=by rw[aa,qQh,qQo,HK.out]
    obtain⟨L,hL⟩:=zB (kN g);rw[hL]at hv ac bu;have bi:10*i<=k:=za
    rw[qTj bi]at b;have GG:=yT (∀j,j<L->∃s,g[j]? =yA s/\m.getD (10*i+j) 0=s/\s<n) (fun j hj=>by
     have h5:j<kN g:=by rw[hL];exact hj
     have h8:g[j]∈g:=qP9 h5;have h7:=qPu h5;obtain⟨s,hs⟩:=zB (g[j]);rw[hs]at h7 h8;have h6:=h7;rw[aa,qUe za,List.getElem?_drop]at h6;exact⟨s,h7,by rw[qPz,h6];rfl,HM.out _ ((zHg (qSs hg)).2.2 _ h8)⟩)
    obtain⟨b8,h,_,_,_,d,_⟩:=f.out.own.at_ za;injection h with h
    injection h with h _ _
    subst h;have x0:=d i o;rw[hv]at x0;obtain⟨HL,HV,cc⟩:=yV hL hv hg;have cr:L<=10:=za
    clear aa d hv hL l hg;go_wp2;clear x0;go_loopw [61] (fun jv wr=>∃j:Nat,j<=L/\jv=qX qm j/\yL (We B w m n (10*i+j) x y z wr)/\yL (Gr wr D (yA ⟨g0,0,yB⟩) K cg vs (grp m))) (fun jv _=>L-(intOf jv).toNat)
    case atStart=>exact⟨0,za,rfl,b,f⟩
    case round=>
     clear b f;obtain⟨j,hj,rfl,b,f⟩:=hrel;by_cases av:j<L
     .obtain⟨s,bb,b3,bj⟩:=GG.out j av;obtain⟨G',ct,a8,_,l⟩:=f.out.each i g cc.out;rw[HV.out]at a8;injection a8 with a8
      injection a8 with hv1 _ hv2
      injection hv1 with hv1
      injection hv1 with hv1 _ _
      subst hv1 hv2;obtain⟨b8,h,_,_,_,d,_⟩:=l.at_ (by rw[HL.out];omega);injection h with h
      injection h with h _ _
      subst h;have x0:=d j (by rw[HL.out];exact av);rw[qP3,bb,qRs]at x0;obtain⟨q,hq⟩:=zB (i%2);have ca:q<2:=za
      obtain⟨x1,ha,cv,_⟩:=b.out.get q ca;have br:zDc q x y<D:=by unfold zDc;split<;>assumption
      have a5:=b.out.step q s za b3 (V:=((wt m (10*i+j) q s:Nat):Int)+1) za;have Z:=f.out.set (i:=s) br (qX qm (((wt m (10*i+j) q s:Nat):Int)+1));obtain⟨X,hX⟩:=zB (zDc q x y);rw[hX]at x1 ha a5 Z;have x2:=ha.cell s bj;have x3:=ha.free s;have cj:=qBx m (10*i+j) q s;obtain⟨u,hu⟩:=zB (wt m (10*i+j) q s);rw[hu]at x2 a5 Z cj;have d4:(i:Int).tmod 2=(q:Int):=by rw[qS5 za];omega
      obtain⟨WE,GR⟩:=yU a5 Z;clear bb b3 l d hq a5 Z hX hu ha b f;go_wp2;go_roundw
      case rel=>exact⟨j+1,za,by go_num,WE,GR⟩
      case measure=>exact z8
     .obtain rfl:L=j:=za
      have b6:10*i+L=min (10*(i+1)) k:=za
      rw[b6]at b;clear b6;go_wp2;go_roundw
      case rel=>exact⟨i+1,za,by go_num,b,f⟩
      case measure=>exact z8
   .obtain rfl:K=i:=za
    rw[show min (10*K) k=k by omega]at b;have bd:=b.out.az;have a0:(prog.info? TA).map (·.size)=yA 2:=zf
    obtain⟨HZ,HI,BW⟩:=yV bd a0 b.out.below;have HW:=yT (∀q,q<2->yt wr (yA ⟨zDc q x y,0,yB⟩) ((ws m n q).map ival)) (fun q hq=>by
     obtain⟨_,ha,_,_⟩:=b.out.get q hq;have e:ws m n q=(yO n).map (wt m k q):=by unfold ws;rw[HK.out]
     rw[e];exact zTe ha zm (fun i hi=>by rw[qQj,qQ9]at hi;rw[qP3,qSe hi];rfl))
    obtain⟨F,hF⟩:=zB wr.heap.size;have bw:B<=F:=by rw[<-hF,<-a9.out];exact b.out.below.size
    have HF:=zH hF;have O:∃cs:Array yD,#[Value.slice (yA ⟨x,0,yB⟩) n n,Value.slice (yA ⟨y,0,yB⟩) n n]=cs:=⟨_,rfl⟩;obtain⟨cs,O⟩:=O;have cd:=yT (∀q,q<2->cs[q]? =yA (qZ (yA ⟨zDc q x y,0,yB⟩) n n)) (fun q hq=>by
     rw[<-O];obtain rfl|rfl:q=0\/q=1:=za
     .rfl
     .rfl)
    rw[O]at HZ;have ce:=yT ((prog.info? TA).map (·.size)=yA cs.size) (by rw[<-O];exact a0);clear bd a0 b hF O HI;go_wp2_with (refine wpList_load_row rfl TA (.tmp 7) rfl z rfl TA cs (0,0) (.array 2 TL_) HZ.out underlying162 rfl ce.out ?_);obtain⟨wo,rfl⟩:∃wo,wo=wr:=⟨_,rfl⟩;go_loopw [4,77] (fun tv jv wr=>∃(j cp:Nat) (p:Option yF) (us:List yD),j<=2/\jv=qX qm j/\tv=qZ p j cp/\yL (Tb wr F n p j cp us ((yO j).map (tb m n)))/\yL (yM F wo wr)) (fun _ jv _=>2-(intOf jv).toNat)
    case atStart=>exact⟨0,0,yB,[],za,rfl,rfl,zH (Tb.start _ _ _),zH (yR _ _)⟩
    case round=>
     obtain⟨j,cp,p,us,hj,rfl,rfl,N,hb⟩:=hrel;by_cases a1:j<2
     .have d3:=zE8 (P:=yK) (t:=TA) (n:=2) (e:=TL_) underlying162 (fun _=>isAgg23 _) (fun _=>sizeOf23 _) cs j _ a1 (cd.out j a1) wr;have ak:(Ch.one (ws m n j)).sum<=20000:=by
       have h5:=zNg (ws m n j);have h6:=zV4 m n j;rw[zLv]at h5;rw[HK.out]at h6;omega
      have am:=zH (zKj (ws m n j) (yA ⟨zDc j x y,0,yB⟩) n n 20 wr (zLv m n j) h2 ax ((HW.out j a1).below (by rw[HF.out];exact hb.out)) ak (fun u hu=>by
       obtain⟨q,_,rfl⟩:=qQg.1 hu;have:=qBx m (kN m) j q;rw[HK.out]at this;rw[HK.out];omega) za za (fun u hu=>(zDn m n j h2 ax (by rw[HK.out];exact ay)).top u hu))
      rw[show((20:Nat):Int)=20 from rfl]at am;clear ak;go_wp2_with fail;(with_reducible refine am.out.mono ?_);rintro e w6 ⟨G,rfl,hG,b2,b1,a7⟩;have a3:=hb.out.size;rw[HF.out]at a3;obtain⟨p2,c2,w7,bx,ae,bf⟩:=(N.out.grow a7).app b2 b1 za za (by have:=a7.size;omega);have TB:=yT (Tb w7 F n p2 (j+1) c2 (us++[qZ (yA ⟨G,0,yB⟩) n n]) ((yO (j+1)).map (tb m n))) (by
       rw[qQw,qQb];exact ae)
      have HB:=zH (hb.out.trans ((a7.mono a3).trans bf));clear am N ae hb a7 bf b2 b1 hG;go_wp2_with (at_builtin;refine xG rfl (.tmp 85) (.tmp 87) 60 rfl rfl rfl bx ?_);go_roundw
      case rel=>exact⟨j+1,c2,p2,_,za,by go_num,rfl,TB,HB⟩
      case measure=>exact z8
     .obtain rfl:j=2:=za
      rw[show((2:Nat):Int)=(2:Int)from rfl];obtain⟨pp,rfl,cx,b9,_,d,_⟩:=N.out.own.at_ za;obtain⟨G0,v0,t0,i0,cy⟩:=N.out.each 0 (tb m n 0) rfl;obtain⟨G1,v1,t1,i1,cz⟩:=N.out.each 1 (tb m n 1) rfl;have y0:=d 0 za;have y1:=d 1 za;rw[v0]at y0;rw[v1]at y1;obtain⟨S0,S1⟩:=yU t0 t1;have HP:=yT (yt wr (yA ⟨pp,0,yB⟩) [qZ (yA ⟨G0,0,yB⟩) n n,qZ (yA ⟨G1,0,yB⟩) n n]) (by
       intro i u hu;refine⟨pp,0,rfl,?_⟩;rw[qQd]
       match i,hu with
       |0,hu=>rw[y0];simpa using hu
       |1,hu=>rw[y1];simpa using hu
       |i+2,hu=>simp at hu)
      obtain⟨Y0,Y1⟩:=yU y0 y1;obtain⟨H,hH⟩:=zB wr.heap.size;have a3:=hb.out.size;rw[HF.out,hH]at a3;obtain⟨HH,HB,GR⟩:=yV hH hb.out (f.out.below hb.out (by rw[HF.out];exact qPq _));have bc:pp<H:=by rw[<-hH];exact b9
      obtain⟨R0,S⟩:=zB (tb m n 0);obtain⟨R1,Y⟩:=zB (tb m n 1);have bk:=yT (Right R0) (by rw[<-S];exact zDn m n 0 h2 ax (by rw[HK.out];exact ay));have c8:=yT (Right R1) (by rw[<-Y];exact zDn m n 1 h2 ax (by rw[HK.out];exact ay));have bn:=yT (kN R0=n) (by rw[<-S,zG5]);have c7:=yT (kN R1=n) (by rw[<-Y,zG5]);have HC:=yT (chosen m n=(grp m).map (zGi R0 R1)) (by rw[<-S,<-Y];rfl);rw[S]at S0;rw[Y]at S1;obtain⟨bz,bp⟩:=yU S Y;clear S Y N hb d v0 v1 t0 t1 i0 i1 hH y0 y1 b9 f;obtain⟨an,rfl⟩:∃wo,wo=wr:=⟨_,rfl⟩;go_wp2;go_loopw [5,92] (fun qv iv wr=>∃(i cq:Nat) (q:Option yF),i<=K/\iv=qX qm i/\qv=qZ q i cq/\yL (yu wr H 3 q i cq ((((grp m).take i).map (zGi R0 R1)).map ival))/\yL (yM H an wr)) (fun _ iv _=>K-(intOf iv).toNat)
      case atStart=>exact⟨0,0,yB,za,rfl,rfl,zH (Kit.Own.start _ _ _),zH (yR _ _)⟩
      case round=>
       obtain⟨i,cq,q,hi,rfl,rfl,l,hb⟩:=hrel;have r:yM an an wr:=by rw[HH.out];exact hb.out
       by_cases o:i<K
       .obtain⟨g,hg⟩:∃g,(grp m)[i]? =yA g:=⟨_,qPu (by rw[M.out];exact o)⟩;have f:=GR.out.below r (qPq _);obtain⟨G,c',hv,ac,I⟩:=f.each i g hg;obtain⟨c6,ck,b5⟩:=zHg (qSs hg);obtain⟨L,hL⟩:=zB (kN g);rw[hL]at hv ac I ck;obtain⟨b8,h,_,_,_,d,_⟩:=f.own.at_ za;injection h with h
        injection h with h _ _
        subst h;have x0:=d i o;rw[hv]at x0;have x1:wr.cell? ⟨pp,0,yB⟩=yA (qZ (yA ⟨G0,0,yB⟩) n n):=by
         rw[<-Y0.out];simp only[yQ,hb.out.block pp bc]
        have x2:wr.cell? ⟨pp,1,yB⟩=yA (qZ (yA ⟨G1,0,yB⟩) n n):=by
         rw[<-Y1.out];simp only[yQ,hb.out.block pp bc]
        have ab:∀u∈g,u<n:=fun u hu=>HM.out u (b5 u hu);obtain⟨ai,ao,HG,ba⟩:=yX (zRy R0 g (yA ⟨G0,0,yB⟩) n n (yA ⟨G,0,yB⟩) L c' wr bn.out (S0.out.below r) bk.out hL za I.src ab) (fun W (hW:yM wr wr W)=>zRy R1 g (yA ⟨G1,0,yB⟩) n n (yA ⟨G,0,yB⟩) L c' W c7.out ((S1.out.below r).below hW) c8.out hL za (I.src.below hW) ab) hg l;have bh:=hb.out.size;rw[HH.out]at bh;obtain⟨c0,aj⟩:=zB (cost R0 g);obtain⟨c1,ag⟩:=zB (cost R1 g);have ah:=yT (zGi R0 R1 g=if c1<c0 then 1 else 0) (by rw[<-aj,<-ag];rfl);rw[aj]at ai;rw[ag]at ao;clear hg hv d f I c6 b5 ab hL l aj ag r;go_wp2_with fail;(with_reducible refine ai.out.mono ?_);rintro e w8 ⟨rfl,a4⟩;obtain⟨X2,b7⟩:=yU x2 (ao.out w8 a4);have x3:w8.cell? ⟨pp,1,yB⟩=yA (qZ (yA ⟨G1,0,yB⟩) n n):=by
         rw[<-x2];simp only[yQ,a4.block pp za]
        have B8:=zH a4;clear x0 x1 x2 a4 ai ao;go_wp2_with fail;(with_reducible refine b7.out.mono ?_);rintro e w9 ⟨rfl,af⟩;have a2:yM H wr w9:=(B8.out.mono za).trans (af.mono (by have:=B8.out.size;omega));have az:yM wr wr w9:=B8.out.trans (af.mono B8.out.size);have d7:=a2.size;obtain⟨u,hu⟩:=zB (zGi R0 R1 g);obtain⟨p3,c3,ci,au,b0,ap⟩:=zZ6 (ba.out.out.below az (qPq _)) u za za;have HO:=yT (yu ci H 3 p3 (i+1) c3 ((((grp m).take (i+1)).map (zGi R0 R1)).map ival)) (by
         rw[qQp (by rw[M.out];exact o),qQb];have h6:(grp m)[i]'(by rw[M.out];exact o)=g:=by
          have h7:=HG.out;rw[qPu (by rw[M.out];exact o)]at h7;exact qPv h7
         rw[h6];simp only[qQe,qSp,hu];exact b0)
        have aq:=zH (hb.out.trans (a2.trans ap));rw[hu]at ah;clear af a2 az ap b0 b7 x3 X2 hu ba hb;by_cases hc:c1<c0
        .have ar:u=1:=by rw[ah.out,qPr hc]
         subst ar;have bo:decide ((c1:Int)<(c0:Int))=yH:=qQ za;go_wp2_with (at_builtin;refine xG rfl (.tmp 115) (.tmp 117) 23 rfl rfl rfl au ?_);go_roundw
         case rel=>exact⟨i+1,c3,p3,za,by go_num,rfl,HO,aq⟩
         case measure=>exact z8
        .have ar:u=0:=by rw[ah.out,qPt hc]
         subst ar;have bo:decide ((c1:Int)<(c0:Int))=yI:=qP1 za;go_wp2_with (at_builtin;refine xG rfl (.tmp 115) (.tmp 117) 23 rfl rfl rfl au ?_);go_roundw
         case rel=>exact⟨i+1,c3,p3,za,by go_num,rfl,HO,aq⟩
         case measure=>exact z8
       .obtain rfl:K=i:=za
        have cf:=yT ((grp m).take K=grp m) (qQc (by rw[M.out];exact qPq _));rw[cf.out]at l;obtain⟨bq,cm,cn,cb⟩:=yX (HP.out.below r) (S0.out.below r) (S1.out.below r) (BW.out.trans ((HB.out.mono bw).trans (hb.out.mono za)));clear r;go_wp2;refine qP5 (v:=qg #[qZ (yA ⟨pp,0,yB⟩) 2 cp,qZ q K cq,qX qm 0]) zf rfl ?_;rw[HC.out,bz.out,bp.out,M.out];exact⟨_,_,_,_,G0,G1,rfl,bq.out,cm.out,cn.out,l.out.src,cb.out⟩
end Ch
namespace Hf
open Front Bt Zr
section
variable {P:Program} {ops:Array Oper} {Q:Exit->Act->yC->Prop} {md:Region.Mode}
theorem qD6 (i j:Nat) {b c:Oper} (d e:yD) {k:Nat} {f:Array Bool} {a:Act} {w:yC} (hi:ops[i]? =yA b) (l:ops[j]? =yA c) (u:Region.ready md ops f=[i,j])
  (q:Region.wanted b (yielded ops a.tmps)=yH) (r:Region.wanted c (yielded ops a.tmps)=yH) (z:(execOp a.eval b).run P w= .ok (.value d) w) (B:(execOp a.eval c).run P w= .ok (.value e) w)
  (m:Region.ready md ops (f.setIfInBounds i yH)=[j]) (o:Region.wanted c (yielded ops (a.put b.dst d).tmps)=yH) (x:(execOp (a.put b.dst d).eval c).run P w= .ok (.value e) w)
  (n:Region.ready md ops (f.setIfInBounds j yH)=[i]) (p:Region.wanted b (yielded ops (a.put c.dst e).tmps)=yH) (y:(execOp (a.put c.dst e).eval b).run P w= .ok (.value d) w)
  (t:(f.setIfInBounds j yH).setIfInBounds i yH=(f.setIfInBounds i yH).setIfInBounds j yH) (s:(a.put c.dst e).put b.dst d=(a.put b.dst d).put c.dst e)
  (h:wpAny P md ops Q k ((f.setIfInBounds i yH).setIfInBounds j yH) ((a.put b.dst d).put c.dst e) w):wpAny P md ops Q (k+2) f a w:=by
 refine wpAny_ready u zm (AllReady.cons hi (fun K g=> ?_) (AllReady.cons l (fun K g=> ?_) AllReady.nil))
 .rw[qPr q];exact Oper.wp_mono g (Kit.zJ0 d z (Kit.zJ1 j l m o (Kit.zJ0 e x h)))
 .rw[qPr r];exact Oper.wp_mono g (Kit.zJ0 e B (Kit.zJ1 i hi n p (Kit.zJ0 d y (by rw[t,s];exact h))))
end
theorem zX6 {P:Program} {b:Array Oper} {Q:Exit->Act->yC->Prop} {f:Region.Mode} (i:Nat) {j:Nat} {d:Array Bool} {a:Act} {w w':yC} {ty:yE} {x y:Operand} {g:yF} {v:yD} (l:Region.ready f b d=[i])
  (c:(b[i]?).map (fun o=>(o.op,o.dst))=yA (.store ty x y,yB)) (e:(b[i]?).map (fun o=>Region.wanted o (yielded b a.tmps))=yA yH)
  (m:a.eval x=qc (yA g)) (n:a.eval y=v) (k:(storeVar ty g v).run P w= .ok () w') (h:wpAny P f b Q j (d.setIfInBounds i yH) a w'):wpAny P f b Q (j+1) d a w:=by
 cases hi:b[i]? with
 |none=>rw[hi]at c;cases c
 |some o=>
  rw[hi]at c e;simp only[qRs,qTz,Prod.mk.injEq]at c e;refine Kit.zJ1 i hi l e (zPs c.1 m n k ?_);rw[c.2];exact h
theorem zP9 {P:Program} {ρ:Operand->yD} {o:Oper} {t e:yE} {x y:Operand} {g n c k sz:Nat} (b:o.op= .indexAddr t x y) (f:ρ x=qZ (yA ⟨g,0,yB⟩) n c) (h:ρ y=qX qm (k:Int)) (j:k<n)
  (d:P.underlying t=yA (.slice e)) (i:∀w,(sizeOf e).run P w= .ok sz w) (w:yC):(execOp ρ o).run P w= .ok (.value (qc (yA ⟨g,k*sz,yB⟩))) w:=by
 have a:(0:Int)<=(k:Int)/\(k:Int)<(n:Int):=⟨za,za⟩;unfold execOp;simp[b,f,h,Instr.indexAt,asIntOf,qRl,qTo d,a,i,Kit.addr_add];omega
theorem zL6 {P:Program} {ρ:Operand->yD} {o:Oper} {t:yE} {x:Operand} {p:yF} {v:yD} {w:yC} (a:o.op= .load t x) (c:ρ x=qc (yA p)) (b:(loadVar t p).run P w= .ok v w):(execOp ρ o).run P w= .ok (.value v) w:=by
 unfold execOp;simp[a,c,Instr.loadAt,Instr.sureAddr,b]
def gB (f:Nat->List Bool) (j:Nat):yD:=if j%2=0 then qY (pk (f (j/2)))else qX qm (kN (f (j/2)):Int)
def zPw (f:Nat->List Bool) (i:Nat) (m:List Bool):Nat->List Bool:=fun k=>if k=i then m else f k
theorem qF5 (f:Nat->List Bool) (i:Nat) (m:List Bool) (j:Nat):upd (upd (gB f) (i*2) (qY (pk m))) (i*2+1) (qX qm (kN m:Int)) j=gB (zPw f i m) j:=by
 unfold upd gB zPw;by_cases a:j=i*2+1
 .subst a;rw[qPr rfl,show(i*2+1)/2=i by omega,show(i*2+1)%2=1 by omega];simp
 .rw[qPt a];by_cases b:j=i*2
  .subst b;rw[qPr rfl,show i*2/2=i by omega,show i*2%2=0 by omega];simp
  .have c:¬j/2=i:=za
   simp[b,c]
theorem zUs {w:yC} {G n:Nat} {f:Nat->List Bool} (h:Arr w G 51 (n*2) (gB f)):RdB w (yA ⟨G,0,yB⟩) ((yO n).map f):=by
 refine⟨fun j x a=> ?_,fun p d=>by cases d;exact⟨_,_,h⟩⟩;rw[qP3]at a;rcases qP8 j n with b|b
 .rw[qSe b]at a;simp at a;subst a;refine⟨G,0,rfl,fun i hi=> ?_⟩;have c:LB.k=2:=rfl;rw[c]at hi⊢;rw[qQd,h.cell (j*2+i) za];have:i=0\/i=1:=za
  rcases this with rfl|rfl
  .unfold gB;rw[qPr za,show(j*2+0)/2=j by omega];rfl
  .unfold gB;rw[qPt za,show(j*2+1)/2=j by omega];rfl
 .rw[List.getElem?_eq_none (by simpa using b)]at a;cases a
theorem zXg (w:yC) (n:Nat) (j:n<=100000):∃w',(Instr.makeSlice 70 (qX qm (n:Int)) (qX qm (n:Int))).run yK w= .ok (qZ (yA ⟨w,0,yB⟩) n n) w'/\
  Arr w' w.heap.size 51 (n*2) (gB (fun _=>[]))/\yM w w w':=by
 have b:(prog.info? 51).map (fun i=>(i.zero,i.size,i.bytes))=yA (yA (.agg #[qY ⟨#[]⟩,qX qm 0]),2,24):=zf
 obtain⟨i,hi,d,a,c⟩:=qRv b;have f:=run_makeSlice (P:=yK) w 70 51 i _ underlying70 hi d qm qm (n:Int) (n:Int) za za (by rw[a];omega) (by rw[c];omega) za;refine⟨_,f,?_,(yR _ _).alloc (qPq _) _⟩;unfold Arr;have e:madeCells (Value.agg #[qY ⟨#[]⟩,qX qm 0]).cells ((n:Int).toNat*i.size)=cellsOf (n*2) (gB (fun _=>[])):=by
  rw[a];show(Array.range (n*2)).map _=_;refine zDm (fun k g=> ?_);unfold gB;show(#[Value.string ⟨#[]⟩,Value.int qm 0]:Array yD)[k%2]! =_;rcases qU k with h|h
  .rw[h,qPr rfl];show Value.string ⟨#[]⟩=Value.string (pk ([]:List Bool));rfl
  .rw[h,qPt za];rfl
 rw[e];show(w.heap.push _)[w.heap.size]? =_;simp
theorem zUm (w:yC) (G k i:Nat) (f:Nat->List Bool) (m:List Bool) (h:Arr w G 51 (k*2) (gB f)) (hi:i<k):∃w',(storeVar 51 ⟨G,i*2,yB⟩ (.agg #[qY (pk m),qX qm (kN m:Int)])).run yK w= .ok () w'/\
  Arr w' G 51 (k*2) (gB (zPw f i m))/\(∀j,j≠G->w'.heap[j]? =w.heap[j]?)/\w'.heap.size=w.heap.size/\(∀B,B<=G->yM B w w'):=by
 have a:=qSl (P:=yK) w G (i*2) 51 #[qY (pk m),qX qm (kN m:Int)] (fun j b=>by
  have d:j<2:=b;exact⟨by rw[h.cell (i*2+j) za];rfl,h.free (i*2+j)⟩) zf (by simp[Value.oneCell'])
 refine⟨_,a,?_,?_,?_,?_⟩
 .exact((h.set (i*2) (qY (pk m))).set (i*2+1) (qX qm (kN m:Int))).congr (fun j b=>qF5 f i m j)
 .exact fun j b=>(zAa b).trans (zAa b)
 .simp[World.setCells,World.setCell]
 .exact fun B c=>((yR _ w).setCell (p:=⟨G,i*2,yB⟩) c _).setCell (p:=⟨G,i*2+1,yB⟩) c _
theorem zRq (l:List Nat) (a:Option yF) (n c:Nat) (m:List Nat) (a1:Option yF) (k c1:Nat) (w:yC) (hn:kN l=n) (hs:yt w a (l.map ival)) (ha:∀p,a=yA p->p.block<w.heap.size) (hr:Right l)
  (hm:kN m=k) (hk:k<=10000) (ax:yt w a1 (m.map ival)) (av:∀s∈m,s<n):
  yG yK 30 #[qZ a n c,qZ a1 k c1] w fun e w'=>e=qx (qg #[zAe (m.flatMap (word l)),qX qm 0])/\yM w w w':=by
 obtain⟨B,hB⟩:=zB w.heap.size;obtain⟨W,hW⟩:=zB (w.alloc (qp #[qY ⟨#[]⟩,qX qm 0] 51));have zW:W.heap.size=B+1:=by rw[<-hW,zA,hB]
 have O:yM B w W:=by rw[<-hW,<-hB];exact(yR _ _).alloc (qPq _) _
 have c0:W.heap[B]? =yA (qp #[qY ⟨#[]⟩,qX qm 0] 51):=by
  rw[<-hW,<-hB];show(w.heap.push _)[w.heap.size]? =_;simp
 have F:=zH (zV7 l a n c W hn (hs.below (by rw[hB];exact O)) (fun p hp=>by have:=ha p hp;omega) hr);rw[zW]at F;obtain⟨T,hT⟩:=zB (m.flatMap (word l));rw[hT];have HT:=zH hT;clear hT;obtain⟨C0,Z,aj,Y,HM,HN,HR⟩:=yg c0 O ax av hm hn hr;have ai:=hr.most;rw[hn]at ai;clear c0 O ax av hm hn hs ha hr;rw[hB];go_enter func30,ntmps30;go_wp2_with fail;(with_reducible refine F.out.mono ?_);clear F;rintro e w2 ⟨G,rfl,hG,K,S⟩;have a4:=K.lt;have L:=K.congr (h:=gW l (fun _=>yH)) (fun j hj=>by unfold gW;rw[qGa HR.out (j/2) (by rw[HN.out];omega)]);obtain⟨w3,ac,M,b⟩:=zXg w2 k za;obtain⟨q,ad⟩:=zB w2.heap.size;rw[ad]at ac M b a4;have A3:=yT (Arr w3 G 188 (n*2) (gW l (fun _=>yH))) ((b.block G a4).trans L);obtain⟨L3,C3,B3⟩:=yV M ((b.block B za).trans ((S.block B za).trans C0.out)) (Z.out.trans ((S.mono za).trans (b.mono za)));clear K L M S b C0 Z hW zW;go_wp2;clear ac ad;go_loopw [25] (fun iv wr=>∃(i:Nat) (f:Nat->List Bool),i<=k/\iv=qX qm (i:Int)/\yL (∀j,j<i->f j=word l (m.getD j 0))/\yL (Arr wr G 188 (n*2) (gW l (fun _=>yH)))/\yL (Arr wr q 51 (k*2) (gB f))/\yL (wr.heap[B]? =yA (qp #[qY ⟨#[]⟩,qX qm 0] 51))/\yL (yM B w wr)) (fun iv _=>k-(intOf iv).toNat)
 case atStart=>exact⟨0,fun _=>[],za,rfl,zH (fun j hj=>za),A3,L3,C3,B3⟩
 case round=>
  clear A3 L3 C3 B3;obtain⟨i,f,hi,rfl,hf,hA,hL,hC,hb⟩:=hrel;by_cases a7:i<k
  .have H:i<kN m:=by rw[HM.out];exact a7
   obtain⟨s,o⟩:=zB (m[i]);have a8:s<n:=by rw[<-o];exact Y.out _ (qP9 H)
   obtain⟨g,off,rfl,e0⟩:=(aj.out.below (w':=wr) (by rw[hB];exact hb.out)) i (ival s) (by rw[qP3,qPu H,o];rfl);have a5:m.getD i 0=s:=by rw[qPz,qPu H,o];rfl
   have x0:=hA.out.cell (s*2) za;have x1:=hA.out.cell (s*2+1) za;unfold gW at x0 x1;simp only[qRx]at x0 x1;rw[qPr za,show s*2/2=s by omega]at x0;rw[qPt za,show(s*2+1)/2=s by omega]at x1;have az:decide ((s:Int)<0)=yI:=qP1 za;have b0:decide ((n:Int)<=(s:Int))=yI:=qP1 za;have a3:=HR.out.top (l.getD s 0) (zF6 (by rw[HN.out];exact a8));have am:=zPt HR.out s (by rw[HN.out];exact a8);have ag:2^l.getD s 0<=2^20:=qR9 za a3;have HP:=zH (zD1 [] (zB9 l s) (l.getD s 0) (m':=word l s) (qQm _) (d:=⟨#[]⟩) rfl (k:=0) (V:=(zB9 l s:Int)) (N:=(l.getD s 0:Int)) rfl rfl rfl za za (by rw[qQy];omega) wr.drew);have l0:(loadVar 3 ⟨G,s*2,yB⟩).run yK wr.drew= .ok (qX qm (l.getD s 0:Int)) wr.drew:=by
    have aq:wr.drew.cell? ⟨G,s*2,yB⟩=yA (qX qm (l.getD s 0:Int)):=x0;simp[loadVar,go_sem,aq]
   have l1:(loadVar 64 ⟨G,s*2+1,yB⟩).run yK wr.drew= .ok (qX .u64 (zB9 l s:Int)) wr.drew:=by
    have ak:wr.drew.cell? ⟨G,s*2+1,yB⟩=yA (qX .u64 (zB9 l s:Int)):=x1;simp[loadVar,go_sem,ak]
   have ar:=zH a5;clear a5 o a3 am ag;go_wp2;refine Kit.zX7 zf ?_;refine xW 0 (qZ (yA ⟨q,0,yB⟩) k k) rfl zf zf zf (fun _ _ _ h=>h) zf (fun w=>zf) ?_;refine xW 1 (qX qm (i:Int)) rfl zf zf zf (fun _ _ _ h=>h) zf (fun w=>zf) ?_;refine xW 2 (.agg #[qY ⟨#[]⟩,qX qm 0]) rfl zf zf zf (fun _ _ _ h=>h) zf (fun w=>zf) ?_;refine xW 3 (qZ (yA ⟨G,0,yB⟩) n n) rfl zf zf zf (fun _ _ _ h=>h) zf (fun w=>zf) ?_;refine xW 4 (qX qm (s:Int)) rfl zf zf zf (fun _ _ _ h=>h) zf (fun w=>zf) ?_;refine xW 5 (qc (yA ⟨G,s*2,yB⟩)) rfl zf zf zf (fun _ _ _ h=>h) zf (fun w=>zP9 (t:=184) (x:= .tmp 43) (y:= .tmp 44) (g:=G) (n:=n) (c:=n) (k:=s) (sz:=2) rfl zf zf za underlying184 (fun _=>sizeOf188 _) w) ?_;refine xW 6 (qc (yA ⟨G,s*2+1,yB⟩)) rfl zf zf zf (fun _ _ _ h=>h) zf (fun w=>zf) ?_;refine xW 8 (qZ (yA ⟨G,0,yB⟩) n n) rfl zf zf zf (fun _ _ _ h=>h) zf (fun w=>zf) ?_;refine xW 9 (qX qm (s:Int)) rfl zf zf zf (fun _ _ _ h=>h) zf (fun w=>zf) ?_;refine xW 10 (qc (yA ⟨G,s*2,yB⟩)) rfl zf zf zf (fun _ _ _ h=>h) zf (fun w=>zP9 (t:=184) (x:= .tmp 48) (y:= .tmp 49) (g:=G) (n:=n) (c:=n) (k:=s) (sz:=2) rfl zf zf za underlying184 (fun _=>sizeOf188 _) w) ?_;refine xW 11 (qc (yA ⟨G,s*2,yB⟩)) rfl zf zf zf (fun _ _ _ h=>h) zf (fun w=>zf) ?_;refine qD6 7 12 (qX .u64 (zB9 l s:Int)) (qX qm (l.getD s 0:Int)) rfl rfl zf zf zf (zL6 (t:=64) (x:= .tmp 46) rfl zf l1) (zL6 (t:=3) (x:= .tmp 51) rfl zf l0) zf zf (zL6 (t:=3) (x:= .tmp 51) rfl zf l0) zf zf (zL6 (t:=64) (x:= .tmp 46) rfl zf l1) zf zf ?_;refine Kit.zJ1 13 rfl zf zf ?_;refine Kit.zRl 24 #[.agg #[qY ⟨#[]⟩,qX qm 0],qX .u64 (zB9 l s:Int),qX qm (l.getD s 0:Int)] (qg #[.agg #[qY (pk (word l s)),qX qm (kN (word l s):Int)],qX qm 0]) (R:=fun w'=>yM wr.drew.heap.size wr.drew w') zf HP.out ?_;intro w5 z;refine xW 14 (qg #[.agg #[qY (pk (word l s)),qX qm (kN (word l s):Int)],qX qm 0]) rfl zf zf zf (fun _ _ _ h=>h) zf (fun w=>zf) ?_;refine xW 15 (.agg #[qY (pk (word l s)),qX qm (kN (word l s):Int)]) rfl zf zf zf (fun _ _ _ h=>h) zf (fun w=>zf) ?_;refine xW 16 (qX qm 0) rfl zf zf zf (fun _ _ _ h=>h) zf (fun w=>zf) ?_;refine xW 17 (qc (yA ⟨q,i*2,yB⟩)) rfl zf zf zf (fun _ _ _ h=>h) zf (fun w=>zP9 (t:=70) (x:= .tmp 40) (y:= .tmp 41) (g:=q) (n:=k) (c:=k) (k:=i) (sz:=2) rfl zf zf za underlying70 (fun _=>sizeOf51 _) w) ?_;have ab:Arr w5 q 51 (k*2) (gB f):=(z.block q hL.out.lt).trans hL.out;obtain⟨w6,a9,a0,u,an,a2⟩:=zUm w5 q k i f (word l s) ab a7;have au:=zH a9;clear a9 ab;refine zX6 18 (ty:=51) (x:= .tmp 56) (y:= .tmp 54) (g:=⟨q,i*2,yB⟩) (v:= .agg #[qY (pk (word l s)),qX qm (kN (word l s):Int)]) zf zf zf zf zf au.out ?_;refine wpAny_done zf ?_ _;have ao:=z.size;have ae:w6.heap[B]? =yA (qp #[qY ⟨#[]⟩,qX qm 0] 51):=(u B za).trans ((z.block B (by have:=zAd hC.out;exact this)).trans hC.out);have a6:Arr w6 G 188 (n*2) (gW l (fun _=>yH)):=(u G za).trans ((z.block G hA.out.lt).trans hA.out);have ap:wr.drew.heap.size=wr.heap.size:=rfl;have I:yM B wr w5:=by
    have ay:=zAd hC.out;have h:yM B wr.drew w5:=z.mono (show B<=wr.heap.size by omega);exact⟨h.os,h.tape,h.output,h.size,h.block⟩
   have af:yM B w w6:=(hb.out.trans I).trans (a2 B za);clear I ap;obtain⟨C6,A6,B6,L6⟩:=yX ae a6 af a0;clear ae a6 af a0 z u an a2 ao l0 l1 x0 x1 e0;go_wp2;go_roundw
   case rel=>exact⟨i+1,zPw f i (word l s),za,by go_num,zH (fun j hj=>by
    unfold zPw;by_cases e:j=i
    .rw[qPr e,e,ar.out]
    .rw[qPt e];exact hf.out j za),A6,L6,C6,B6⟩
   case measure=>exact z8
  .obtain rfl:i=k:=za
   have aa:(yO i).map f=m.map (word l):=by
    refine qRt (fun j=> ?_);rw[qP3,qP3];rcases qP8 j i with h|h
    .rw[qSe h,qPu (by rw[HM.out];exact h)];show yA (f j)=yA (word l (m[j]'(by rw[HM.out];exact h)));rw[hf.out j h,qPz,qPu (by rw[HM.out];exact h)];rfl
    .rw[List.getElem?_eq_none (by simpa using h),List.getElem?_eq_none (by rw[HM.out];exact h)];rfl
   have P:((yO i).map f).flatten=m.flatMap (word l):=by rw[aa];rfl
   have r:kN (m.flatMap (word l))<=20*kN m:=by
    have:∀(ms:List Nat),(∀s∈ms,s<n)->kN (ms.flatMap (word l))<=20*kN ms:=by
     intro ms
     induction ms with
     |nil=>intro _;simp
     |cons s ms ih=>
      intro h;have h1:=ih (fun x hx=>h x (List.mem_cons_of_mem _ hx));have h2:=HR.out.top (l.getD s 0) (zF6 (by rw[HN.out];exact h s zm));rw[qSk,qP0,zCu,qP4];omega
    exact this m Y.out
   rw[HM.out]at r;have HC:=zH (zFs (yA ⟨q,0,yB⟩) i i ((yO i).map f) wr zm (qPq _) za (zUs hL.out) (by rw[P];omega));rw[P]at HC;rw[HT.out]at HC;unfold zAe at HC;obtain⟨y0,y1,f0,f1⟩:=zAf hC.out;have ah:=zAd hC.out;clear r aa P;go_wp2_with fail;(with_reducible refine HC.out.mono ?_);rintro e w4 ⟨rfl,X⟩;clear y0 y1 f0 f1;obtain⟨y0,y1,f0,f1⟩:=zAf ((X.block B ah).trans hC.out);have H4:=zH (hb.out.trans (X.mono (by have:=hb.out.size;omega)));clear X;go_wp2
   try simp only[Exit.inBlock,Exit.then]
   exact qP5 (zEk rfl _ _ B _ _ _ rfl rfl (Bt.zCy y0) (Bt.zCx y1)) rfl ⟨rfl,zCs H4.out za⟩
end Hf
namespace Bk
open Hf Bt Zr Front Wg Ch Sl Sq Us St Tn
variable {w w':yC} {R D n c:Nat} {e:yE} {a:Option yF} {xs:List yD}
structure Old (w:yC) (R Q:Nat) (A:ByteArray) (O:Nat) (sa:Option yF) (sn sc:Nat) (p:Option yF) (cp:Nat) (q:Option yF) (qn cq:Nat) (G0 G1 n:Nat) (m t0 t1 ch:List Nat):Prop where
 size:w.heap.size=R
 var:w.heap[Q]? =yA (qp #[qY A,O,qZ sa sn sc] kM)
 syms:yt w sa (m.map ival)
 tabs:yt w p [qZ (yA ⟨G0,0,yB⟩) n n,qZ (yA ⟨G1,0,yB⟩) n n]
 one:yt w (yA ⟨G0,0,yB⟩) (t0.map ival)
 two:yt w (yA ⟨G1,0,yB⟩) (t1.map ival)
 cho:yt w q (ch.map ival)
theorem zXb (h:yu w D e a n c xs) (p:StB w w' R) (o:e≠TB_) (s:R<D):yu w' D e a n c xs:=by
 obtain⟨m,k⟩:=h;refine⟨m,?_⟩;rcases k with k|⟨g,i,b,hv,d,l,r⟩
 .exact qz k
 .exact qy ⟨g,i,b,hv,d,(p.old g (zAd l) za (fun q f j=>by rw[l]at j;injection j with j;injection j with _ j _;exact o j)).trans l,r⟩
theorem qB8 {p:Option yF} {k:Nat} {j:List yD} {b:List (List Nat)} (h:Gr w D p k c j b) (f:StB w w' R) (d:R<D):Gr w' D p k c j b:=
 ⟨zXb h.own f qW d,h.len,fun i g q=>by
  obtain⟨G,c',l,m,o⟩:=h.each i g q;exact⟨G,c',l,m,zXb o f qW d⟩⟩
theorem zC9 (b:Nat) (d:1<=b) (f:b<=360) (w:yC):yG yK 67 #[b] w fun e w'=>e=qx (qh yH)/\w'=w:=by
 have g:decide ((1:Int)<=(b:Int))=yH:=qQ za;have h:decide ((b:Int)<=360)=yH:=qQ za;go_enter func67,ntmps67;go_wp2;go_ret;exact⟨rfl,rfl⟩
theorem zTp {B:Nat} {l:List (List Bool)} (h:yx LB w B e a n c l):n<=c/\True/\True:=by
 refine⟨?_,trivial,trivial⟩;rcases h.2 with⟨b,_⟩|⟨g,d,f,hv,_,_,i,_⟩
 .injection b with _ h3 h4;omega
 .injection hv with _ _ hc;omega
theorem zIr (h:yt w a xs) (d:0<kN xs):∃b c,a=yA ⟨b,c,yB⟩:=by
 obtain⟨b,c,f,_⟩:=h 0 xs[0] (qPu d);exact⟨b,c,f⟩
theorem zFv (R:Nat) (a:Option yF) (n c:Nat) (ls:List (List Bool)) (v k:Nat) (V K:Int) (d:V=(v:Int)) (b:K=(k:Int)) (w:yC) (h:BW w R a n c ls) (g:n<=100000) (hv:v<18446744073709551616) (f:k<=64):
  yG yK 71 #[qc (yA ⟨R,0,yB⟩),qX .u64 V,qX qm K] w fun e w'=>e=qx (qg #[])/\∃a' c',BW w' R a' (n+1) c' (ls++[num v k])/\StB w w' R:=by
 subst d b;exact zSd R a n c ls v k w h g hv f
theorem zD8 (s:ByteArray) (x:List UInt8) (hx:s.data.toList=x) (h0:0<s.size) (hs:s.size<=100000) (f9:Nat) (ae:1<=f9) (fc:f9<=360) (hl:xZ x<=f9) (w:yC):
  yG yK 17 #[qY s,f9] w fun e w'=>e=qx (qg #[zAe (zAn x),qX qm 0])/\yM w w w':=by
 have fo:kN x=s.size:=by rw[<-hx];simp
 have P:=zJp x za;have ct:=zFy x;obtain⟨B,hB⟩:=zB w.heap.size;have j1:s.toList.isEmpty=yI:=by
  rw[qTa,List.isEmpty_eq_false_iff];intro e;have:kN s.data.toList=0:=by rw[e];rfl
  rw[Array.length_toList]at this;have:s.size=0:=this;omega
 have j2:decide (f9<xZ x)=yI:=qP1 za;obtain⟨dj,dp,bu⟩:=yV (fun W=>zC9 f9 ae fc W) (fun W=>by have h:=Rle.zVz s hs W;rw[hx]at h;exact h) (fun W=>by have h:=Rle.zR8 s hs W;rw[hx]at h;exact h);obtain⟨p,hp⟩:=zB (pkT x);rw[show xB (Rle.pack x)=p from by unfold xB;exact hp]at bu;rw[hp]at P ct;have cx:p.size<=1000:=za
 have c6:=zH (fun W=>zSh p P cx W);have es:=zFk p;have ao:=zF8 p P;have bq:=zIo p;have c7:1<=kN (sym p):=by rw[zCv];omega
 have X:=zPz p P;obtain⟨A,hA⟩:=zB (zAj p);obtain⟨O,hO⟩:=zB (zA8 p);have eb:=zDq p P;obtain⟨m,hm⟩:=zB (sym p);obtain⟨N,hN⟩:=zB (codes p);have cm:N=A.size+2:=by rw[<-hN,<-hA];rfl
 rw[hA,hm]at X;rw[hA]at es;rw[hO]at eb;rw[hm]at bq c7;rw[hN]at ao;rw[hA,hO,hm]at c6;obtain⟨dm,ck,HX,HP,HA,HO,HM,HN,dx⟩:=yj (fun(c1:Option yF) (c2 c3:Nat) (W:yC)=>by have h:=zO4 A O c1 c2 c3 za W;rw[show(A.size:Int)+2=(N:Int)by omega]at h;exact h) (fun(a:Option yF) (k c:Nat) (W:yC) (hk:kN m=k) (fb:k<=c) (fe:yt W a (m.map ival)) (ha:∀p,a=yA p->p.block<W.heap.size)=>zL0 m N a k c W hk fb za za za za fe (fun s fd=>by have:=X s fd;omega) ha) hx hp hA hO hm hN X;obtain⟨f2,am⟩:=yU bq cm;clear hx hp hA hO hm hN X ct hl cm;go_enter func17,ntmps17;go_wp2_with fail;(with_reducible refine(dj.out _).mono ?_);rintro e w1 ⟨rfl,rfl⟩;obtain⟨W1,a3⟩:=zB (w.alloc (qp #[qY ⟨#[]⟩,qX qm 0] TB_));have r1:W1.heap[B]? =yA (qp #[qY ⟨#[]⟩,qX qm 0] TB_):=by rw[<-a3,<-hB];exact zAh w _
 have b1:yM B w W1:=by rw[<-a3,<-hB];exact(yR _ _).alloc (qPq _) _
 have z1:W1.heap.size=B+1:=by rw[<-a3,zA,hB]
 obtain⟨cw,R1,B1,Z1,f3⟩:=yY a3 r1 b1 z1 hB;clear a3 r1 b1 z1;go_wp2_with fail;rw[show w.alloc (qp #[qY ⟨#[]⟩,qX qm 0] TB_)=W1 from cw.out];(with_reducible refine(dp.out _).mono ?_);rintro e w2 ⟨rfl,a0⟩;rw[Z1.out]at a0;have cv:=a0.size;rw[Z1.out]at cv;obtain⟨R2,B2⟩:=yU ((a0.block B za).trans R1.out) (B1.out.trans (a0.mono za));clear a0 R1 B1 Z1 cw dp;go_wp2_with fail;(with_reducible refine(bu.out _).mono ?_);rintro e w3 ⟨rfl,ai⟩;have er:=ai.size;obtain⟨R3,B3⟩:=yU ((ai.block B za).trans R2.out) (B2.out.trans (ai.mono za));clear ai R2 B2 bu j2;go_wp2_with fail;(with_reducible refine(c6.out _).mono ?_);rintro e w4 ⟨sa,sc,rfl,aq,aj⟩;have el:=aj.size;obtain⟨Q,hQ⟩:=zB w4.heap.size;obtain⟨K,hK⟩:=zB (kN m);rw[hK]at aq;have ci:K<=sc:=by
  have h5:=Ad.zIz aq;rcases h5 with⟨_,h6,_⟩|⟨h6,_⟩
  .omega
  .exact h6
 obtain⟨z,t⟩:=zB (w4.alloc (qp #[qY A,O,qZ sa K sc] kM));have z5:z.heap.size=Q+1:=by rw[<-t,zA,hQ]
 have V5:=yT (z.heap[Q]? =yA (qp #[qY A,O,qZ sa K sc] kM)) (by rw[<-t,<-hQ];exact zAh w4 _);have R5:=yT (z.heap[B]? =yA (qp #[qY ⟨#[]⟩,qX qm 0] TB_)) (by rw[<-t,Lib.alloc_old w4 _ B za,aj.block B za];exact R3.out);have B5:=yT (yM B w z) (by rw[<-t];exact(B3.out.trans (aj.mono za)).alloc za _);have O5:=yT (yu z w3.heap.size 3 sa K sc (m.map ival)) (by rw[<-t];exact aq.alloc _);have fj:B+1<=Q:=za
 obtain⟨cy,cu,HK⟩:=yV t hQ hK;rw[hK]at f2 c7 bq;clear aj aq R3 B3 c6 t hQ cv er el hK;unfold qv at*;have fl:=ao.2;have x0:=yT (∀W,W.heap[Q]? =yA (qp #[qY A,O,qZ sa K sc] kM)->(loadVar 23 ⟨Q,2,yB⟩).run yK W= .ok (qZ sa K sc) W) fun W h=>yw (cells3 h).2.2.1 zf zf;have x1:=yT (∀W,W.heap[Q]? =yA (qp #[qY A,O,qZ sa K sc] kM)->(loadVar kM ⟨Q,0,yB⟩).run yK W= .ok (.agg #[qY A,O,qZ sa K sc]) W) (fun W h=>by
  obtain⟨y0,y1,y2,_⟩:=cells3 h;simp[loadVar,go_sem,y0,y1,y2])
 have bx:=zH (fun(W:yC) (hW:yM z z W)=>ck.out sa K sc W HK.out ci (O5.out.src.below hW) (fun q hq=>by
  obtain⟨b,ak,y,hc⟩:=O5.out.src 0 (ival (m[0]'(by rw[HK.out];omega))) (by rw[qP3,qPu (by rw[HK.out];omega)];rfl);rw[hq]at y;injection y with y
  subst y;exact qQx (qQk hc) hW.size))
 rw[z5]at bx;go_wp2;rw[cu.out,HK.out,show w4.alloc (qp #[qY A,O,qZ sa K sc] kM)=z from cy.out];refine zS [4] (fun W9=>W9.heap[Q]? =yA (qp #[qY A,O,qZ sa K sc] kM)) [0,1,0,4,10,16,32,32,32,127,767,2047] 12<|zu 0 38 (zP Q 2)<|zy 1 39 (qZ sa K sc) (fun w hS=>zl 23 38 (x0.out _ hS)) (show z.drew.heap[Q]? =_ from V5.out)<|zp [2]<|zt 40 (.agg #[qY A,O,qZ sa K sc]) ((fun w hS=>zl 133 6 (x1.out _ hS)) _ ((show z.drew.heap[Q]? =_ from V5.out)))<|zn<|zc 3 41 70 #[.agg #[qY A,O,qZ sa K sc]] (zI N) (dm.out sa K sc _)<| ?_
 refine fun w6 fa=>⟨qy (qy ((fa.block Q (by show Q<z.heap.size;omega)).trans V5.out)),?_⟩;have e8:=fa.size;have F:yM (Q+1) z w6:=by have h:=(show yM z z z.drew from(yR _ _).drew).trans fa;rw[z5]at h;exact h
 have dq:=zH (bx.out w6 F);refine zx 4 42 23 #[qZ sa K sc,qX qm (N:Int)] dq.out<| ?_
 rintro e w7 ⟨tp,tc,cq,cc,G0,G1,rfl,s0,s1,s2,s3,ar⟩;have V7:=zH ((ar.block Q (by show Q<w6.heap.size;exact qQx (show Q<z.heap.size by omega) F.size)).trans ((fa.block Q (by show Q<z.heap.size;omega)).trans V5.out));refine⟨_,rfl,qy (qy V7.out),?_⟩;refine zp [5,6,7,8,9,10,11]<|zk 37 (qg #[qZ tp 2 tc,qZ cq (kN (grp m)) cc,qX qm 0])<|zk 43 (qZ tp 2 tc)<|zk 44 (qZ cq (kN (grp m)) cc)<|zk 45 (qX qm 0)<|zk 8 (qZ tp 2 tc)<|zk 9 (qZ cq (kN (grp m)) cc)<|zk 10 (qX qm 0)<|zn<|zE<| ?_
 simp only[zP,zI,Act.put,qPx,qPw,qPy];obtain⟨R,hR⟩:=zB w7.heap.size;have ds:=F.size;have e0:=ar.size;have ah:yM (Q+1) z w7:=F.trans (ar.mono za);have S7:=zH (⟨hR,V7.out,O5.out.src.below (by rw[z5];exact ah),s0,s1,s2,s3⟩:Old w7 R Q A O sa K sc tp tc cq (kN (grp m)) cc G0 G1 N m (tb m N 0) (tb m N 1) (chosen m N));obtain⟨KG,M⟩:=zB (kN (grp m));have ff:KG<=101:=by rw[<-M,zBx,HK.out];omega
 have fg:0<KG:=by rw[<-M,zBx,HK.out];omega
 rw[M]at S7;have R7:=yT (w7.heap[B]? =yA (qp #[qY ⟨#[]⟩,qX qm 0] TB_)) ((ah.block B za).trans R5.out);have B7:=zH (B5.out.trans (ah.mono za));have ca:Q<R:=za
 obtain⟨ap,HR⟩:=yU M hR;rw[M];clear fa e8 dq F s0 s1 s2 s3 ar V7 hR ds e0 ah ck dm O5 B5 R5 V5 x0 x1 bx z5 M dj cy cu;obtain⟨t0,a2⟩:=zB (tb m N 0);obtain⟨t1,l⟩:=zB (tb m N 1);obtain⟨ch,a4⟩:=zB (chosen m N);rw[a2,l,a4]at S7;obtain⟨fq,fs,rfl⟩:=zIr S7.out.tabs zm;have b6:kN ch=KG:=by rw[<-a4,zIe];exact ap.out
 have ba:∀u∈ch,u<=1:=by rw[<-a4];exact zGr m N
 obtain⟨ey,e5,rfl⟩:=zIr S7.out.cho (by rw[qQj];omega);have dh:Right t0:=by rw[<-a2];exact zDn m N 0 za ao.2 (by rw[HK.out];omega)
 have ae:Right t1:=by rw[<-l];exact zDn m N 1 za ao.2 (by rw[HK.out];omega)
 have d5:kN t0=N:=by rw[<-a2];exact zG5 _ _ _
 have cg:kN t1=N:=by rw[<-l];exact zG5 _ _ _
 obtain⟨d6,dc,d7,de,bf,cn⟩:=yZ dh ae d5 cg b6 ba;clear dh ae d5 cg b6 ba;obtain⟨cr,dl,db⟩:=yV a2 l a4;clear a2 l a4;have ad:=Crc.zG7 s (by unfold maxLen;omega);rw[HX.out]at ad;have dy:=Crc.zN0 (xD x);have dv:=Crc.zN1 (xD x);have av:=zH ad;clear ad;go_wp2_with fail;rw[HR.out];obtain⟨w8,an⟩:=zB (w7.alloc (qp #[qZ yB 0 0] TW));rw[show w7.alloc (qp #[qZ yB 0 0] TW)=w8 from an];have cd:=yT (BW w8 R yB 0 0 []) ⟨by rw[<-an,<-HR.out];exact zAh w7 _,Kit.Own'.start _ _ _⟩;have cz:=yT (yM R w7 w8) (by rw[<-an,<-HR.out];exact(yR _ _).alloc (qPq _) _);clear an;(with_reducible refine(zFv R yB 0 0 [] zA4 48 54156738319193 48 rfl rfl w8 cd.out za (by unfold zA4;omega) za).mono ?_);rintro e w9 ⟨rfl,a9,c9,d,f⟩;obtain⟨br,da⟩:=yU d (cz.out.trans f.below);clear d f cd cz;go_wp2_with fail;(with_reducible refine(av.out w9).mono ?_);rintro e ei ⟨rfl,y⟩;obtain⟨bg,bj⟩:=yU (br.out.below y rfl) (da.out.trans (y.mono (qP7 br.out.lt)));clear y br da av;go_wp2_with fail;(with_reducible refine(zFv R a9 _ c9 _ (zBa x) 32 (xJ (xD x)) 32 (by unfold xJ zBa;rfl) rfl ei bg.out za (by unfold zBa;have:=(xD x).isLt;omega) za).mono ?_);rintro e eg ⟨rfl,eu,ej,d,f⟩;obtain⟨bi,a5⟩:=yU d (bj.out.trans f.below);clear d f bg bj;obtain⟨y0,y1,y2,_⟩:=cells3 ((a5.out.block Q ca).trans S7.out.var);clear dy dv;go_wp2_with fail;clear y0 y1 y2;(with_reducible refine(zFv R eu _ ej _ O 16 (O:Int) 16 rfl rfl eg bi.out za za za).mono ?_);rintro e f7 ⟨rfl,et,ev,d,f⟩;obtain⟨a8,a7⟩:=yU d (a5.out.trans f.below);clear d f bi a5;obtain⟨y0,y1,y2,_⟩:=cells3 ((a7.out.block Q ca).trans S7.out.var);have di:=zH (zTv A za f7);go_wp2_with fail;clear y0 y1 y2;(with_reducible refine di.out.mono ?_);rintro e ew ⟨rfl,y⟩;obtain⟨ay,b0⟩:=yU (a8.out.below y rfl) (a7.out.trans (y.mono (qP7 a8.out.lt)));clear y a8 a7;clear di;go_wp2_with fail;(with_reducible refine(zHk R et _ ev _ (zC2 (bl A)) 0 ew ay.out za).mono ?_);rintro e ex ⟨rfl,e3,eo,d,f⟩;obtain⟨b5,b3⟩:=yU d (b0.out.trans f.below);clear d f ay b0;go_wp2_with fail;(with_reducible refine(zFv R e3 _ eo _ 2 3 2 3 rfl rfl ex b5.out za za za).mono ?_);rintro e ed ⟨rfl,f6,ek,d,f⟩;obtain⟨b9,bc⟩:=yU d (b3.out.trans f.below);clear d f b5 b3;go_wp2_with fail;(with_reducible refine(zFv R f6 _ ek _ KG 15 (KG:Int) 15 rfl rfl ed b9.out za za za).mono ?_);rintro e ez ⟨rfl,e4,e7,d,f⟩;obtain⟨aa,a6⟩:=yU d (bc.out.trans f.below);clear d f b9 bc;have o:=zH S7.out.size;have cf:=zH (zK2 ch (yA ⟨ey,e5,yB⟩) KG cc ez bf.out za (S7.out.cho.below (by rw[o.out];exact a6.out)) cn.out);go_wp2_with fail;(with_reducible refine cf.out.mono ?_);rintro e f5 ⟨rfl,y⟩;obtain⟨bh,b8⟩:=yU (aa.out.below y rfl) (a6.out.trans (y.mono (qP7 aa.out.lt)));clear y aa a6;clear cf;go_wp2_with fail;(with_reducible refine(zHk R e4 _ e7 _ (zAz yI ch) 0 f5 bh.out za).mono ?_);rintro e f8 ⟨rfl,d4,cj,d,f⟩;obtain⟨bo,bb⟩:=yU d (b8.out.trans f.below);clear d f bh b8;have d0:=yT (BW f8 R d4 7 cj (zCg x)) (by
  have h:=bo.out;have e:[]++[num zA4 48]++[num (zBa x) 32]++[num O 16]++[zC2 (bl A)]++[num 2 3]++[num KG 15]++[zAz yI ch]=zCg x:=by
   unfold zCg cho codes;rw[HP.out,HA.out,HO.out,HM.out,<-am.out,db.out,bf.out];rfl
  rw[e]at h;exact h)
 clear bo;go_wp2;go_loopw [71] (fun iv wr=>∃(i c:Nat) (a:Option yF),i<=2/\iv=qX qm i/\yL (BW wr R a (7+i) c (zCg x++(yO i).map fun k=>delta (if k=0 then t0 else t1)))/\yL (yM R w7 wr)) (fun iv _=>2-(intOf iv).toNat)
 case atStart=>exact⟨0,cj,d4,za,rfl,zH (by simpa using d0.out),bb⟩
 case round=>
  clear d0 bb;obtain⟨i,c,a,hi,rfl,d,j⟩:=hrel;by_cases af:i<2
  .have hS:=S7.out.tabs.below (by rw[o.out];exact j.out);obtain⟨Gi,ti,a1,cb⟩:∃Gi ti,([Value.slice (yA ⟨G0,0,yB⟩) N N,Value.slice (yA ⟨G1,0,yB⟩) N N]:List yD)[i]? =yA (qZ (yA ⟨Gi,0,yB⟩) N N)/\(ti=(if i=0 then t0 else t1)/\yt wr (yA ⟨Gi,0,yB⟩) (ti.map ival)/\Right ti/\kN ti=N):=by
    obtain rfl|rfl:i=0\/i=1:=za
    .exact⟨G0,t0,rfl,rfl,S7.out.one.below (by rw[o.out];exact j.out),d6.out,d7.out⟩
    .exact⟨G1,t1,rfl,rfl,S7.out.two.below (by rw[o.out];exact j.out),dc.out,de.out⟩
   obtain⟨b,ak,H,x0⟩:=hS i _ a1;injection H with H
   injection H with e1 e2 _
   subst e1 e2;obtain⟨l,V,I,S⟩:=cb;have df:=zI8 ti I.top;obtain⟨HD,HT⟩:=yU (zLj ti (yA ⟨Gi,0,yB⟩) N N wr S za za V (fun u hu=>⟨I.one u hu,I.top u hu⟩) (by rw[S]at df;omega)) l;clear a1 hS l V I S df;go_wp2_with fail;(with_reducible refine HD.out.mono ?_);rintro e ep ⟨rfl,y⟩;obtain⟨bw,bd⟩:=yU (d.out.below y rfl) (j.out.trans (y.mono (qP7 d.out.lt)));clear y d j HD x0;go_wp2_with fail;(with_reducible refine(zHk R a _ c _ (delta ti) 0 ep bw.out za).mono ?_);rintro e eh ⟨rfl,dd,dg,d,f⟩;have du:=yT (BW eh R dd (7+(i+1)) dg (zCg x++(yO (i+1)).map fun k=>delta (if k=0 then t0 else t1))) (by
    rw[qQw,qQb,<-qQr];simp only[qQe,qSp];rw[<-HT.out];exact d)
   have dr:=zH (bd.out.trans f.below);clear d f bw bd;go_wp2;go_roundw
   case rel=>exact⟨i+1,dg,dd,za,by go_num,du,dr⟩
   case measure=>exact z8
  .obtain rfl:i=2:=za
   have ab:=yT (BW wr R a 9 c (zCg x++[delta t0,delta t1])) d.out;obtain⟨y0,y1,y2,_⟩:=cells3 ((j.out.block Q ca).trans S7.out.var);have Z:=S7.out.syms.below (w':=wr) (by rw[o.out];exact j.out);obtain⟨en,ee,rfl⟩:=zIr Z (by rw[qQj,HK.out];exact c7);have bp:=zH (zH8 m (yA ⟨en,ee,yB⟩) K sc wr HK.out za ci Z (fun q hq=>by
    obtain⟨b,ak,y,hc⟩:=Z 0 (ival (m[0]'(by rw[HK.out];omega))) (by rw[qP3,qPu (by rw[HK.out];omega)];rfl);rw[hq]at y;injection y with y
    subst y;exact qQk hc))
   rw[ap.out]at bp;clear d Z;go_wp2_with fail;(with_reducible refine bp.out.mono ?_);rintro e ft ⟨gp,gc,vs,rfl,r,y⟩;have cs:R<wr.heap.size:=ab.out.lt;obtain⟨D,hD⟩:=zB wr.heap.size;rw[hD]at r cs;obtain⟨bn,ax,bk⟩:=yV (ab.out.below y rfl) (j.out.trans (y.mono za)) r;clear y ab j y0 y1 y2 bp r hD;go_wp2;obtain⟨wo,rfl⟩:∃wo,wo=wr:=⟨_,rfl⟩;go_loopw [85] (fun iv wr=>∃(i c:Nat) (a:Option yF),i<=KG/\iv=qX qm i/\yL (BW wr R a (9+i) c (zCg x++[delta t0,delta t1]++(yO i).map (zBe p)))/\yL (yM R w7 wr)/\yL (Gr wr D gp KG gc vs (grp m))) (fun iv _=>KG-(intOf iv).toNat)
   case atStart=>exact⟨0,c,a,za,rfl,zH (by simpa using bn.out),ax,bk⟩
   case round=>
    clear bn ax bk;obtain⟨i,c,a,hi,rfl,d,j,r⟩:=hrel;by_cases af:i<KG
    .obtain⟨g,hg⟩:∃g,(grp m)[i]? =yA g:=⟨_,qPu (by rw[ap.out];exact af)⟩;obtain⟨G,c',hv,e6,Y⟩:=r.out.each i g hg;obtain⟨ea,f4,co⟩:=zHg (qSs hg);obtain⟨L,hL⟩:=zB (kN g);rw[hL]at hv e6 Y f4;obtain⟨g0,rfl,_,_,_,ag,_⟩:=r.out.own.at_ za;have x0:=ag i af;rw[hv]at x0;have b7:i<kN ch:=by rw[bf.out];exact af
     obtain⟨b,ak,H,x1⟩:=(S7.out.cho.below (w':=wr) (by rw[o.out];exact j.out)) i (ival ch[i]) (by rw[qP3,qPu b7];rfl);injection H with H
     injection H with e1 e2 _
     subst e1 e2;obtain⟨k,hk⟩:=zB (ch[i]);have fm:k<=1:=by rw[<-hk];exact cn.out _ (qP9 b7)
     rw[hk]at x1;have au:zGb p i=if k=1 then t1 else t0:=by
      unfold zGb cho tab codes;rw[HM.out,HA.out,<-am.out,db.out,cr.out,dl.out,qPz,qPu b7,qQ5,hk]
     obtain⟨Gi,ti,a1,cb⟩:∃Gi ti,([Value.slice (yA ⟨G0,0,yB⟩) N N,Value.slice (yA ⟨G1,0,yB⟩) N N]:List yD)[k]? =yA (qZ (yA ⟨Gi,0,yB⟩) N N)/\(zGb p i=ti/\yt wr (yA ⟨Gi,0,yB⟩) (ti.map ival)/\Right ti/\kN ti=N):=by
      obtain rfl|rfl:k=0\/k=1:=za
      .exact⟨G0,t0,rfl,au,S7.out.one.below (by rw[o.out];exact j.out),d6.out,d7.out⟩
      .exact⟨G1,t1,rfl,au,S7.out.two.below (by rw[o.out];exact j.out),dc.out,de.out⟩
     obtain⟨b2,fh,ac,x2⟩:=(S7.out.tabs.below (w':=wr) (by rw[o.out];exact j.out)) k _ a1;injection ac with ac
     injection ac with e1 e2 _
     subst e1 e2;obtain⟨l,V,I,S⟩:=cb;have b4:=zH (zRq ti (yA ⟨Gi,0,yB⟩) N N g (yA ⟨G,0,yB⟩) L c' wr S V (fun q hq=>by
      obtain⟨b,ak,y,hc⟩:=V 0 (ival (ti[0]' za)) (by rw[qP3,qPu za];rfl);rw[hq]at y;injection y with y
      subst y;exact qQk hc) I hL za Y.src (fun u hu=>by have:=dx.out u (co u hu);have h5:=am.out;omega))
     have d9:=yT (g.flatMap (word ti)=zBe p i) (by unfold zBe groups;rw[HM.out,qPz,hg,qQ5,l])
     rw[d9.out]at b4;clear hg hv Y ea co ag hk au a1 l V I S hL;unfold ival at x1;go_wp2_with fail;(with_reducible refine b4.out.mono ?_);rintro e e9 ⟨rfl,y⟩;obtain⟨bz,c8,az⟩:=yV (d.out.below y rfl) (j.out.trans (y.mono (qP7 d.out.lt))) (r.out.below y (qPq _));clear y d j r b4 x0 x1 x2 d9;go_wp2_with fail;(with_reducible refine(zHk R a _ c _ (zBe p i) 0 e9 bz.out za).mono ?_);rintro e em ⟨rfl,ce,d8,d,f⟩;have dw:=yT (BW em R ce (9+(i+1)) d8 (zCg x++[delta t0,delta t1]++(yO (i+1)).map (zBe p))) (by
      rw[qQw,qQb,<-qQr];exact d)
     obtain⟨dt,dz⟩:=yU (c8.out.trans f.below) (qB8 az.out f cs);clear d f bz c8 az;go_wp2;go_roundw
     case rel=>exact⟨i+1,d8,ce,za,by go_num,dw,dt,dz⟩
     case measure=>exact z8
    .obtain rfl:KG=i:=za
     have cp:zCg x++[delta t0,delta t1]++(yO KG).map (zBe p)=zIg x:=by
      unfold zIg;rw[HP.out,show(groups p).length=KG from by unfold groups;rw[HM.out,ap.out]];unfold tab codes;rw[HM.out,HA.out,<-am.out,cr.out,dl.out]
     have n:=yT (BW wr R a (9+KG) c (zIg x)) (by rw[<-cp];exact d.out);have ef:=zLp x (by rw[HP.out];exact P) (by rw[HP.out];exact cx);obtain⟨z0,fp,_⟩:=zTp n.out.own;have d1:=zH (zFs a (9+KG) c (zIg x) wr n.out.own.len z0 za (zFd n.out.own) (by show(zAn x).length<=1000000;omega));have x0:wr.cell? ⟨R,0,yB⟩=yA (qZ a (9+KG) c):=by simp[yQ,n.out.blk]
     clear cp d ef;rw[show(zIg x).flatten=zAn x from rfl]at d1;go_wp2_with fail;(with_reducible refine d1.out.mono ?_);rintro e fu ⟨rfl,y⟩;have d2:B<R:=za
     have d3:=(y.block B (by have:=n.out.lt;omega)).trans ((j.out.block B d2).trans R7.out);obtain⟨y0,y1,f0,f1⟩:=zAf d3;have ec:=zH (B7.out.trans ((j.out.mono (qP7 d2)).trans (y.mono (by have:=n.out.lt;omega))));clear x0 y d3 j n;unfold zAe;go_wp2;refine qP5 (zEk rfl _ _ B _ _ _ rfl rfl (Bt.zCy y0) (Bt.zCx y1)) rfl ⟨rfl,?_⟩;rw[f3.out];exact zCs ec.out (qPq _)
end Bk
namespace Bk
open Hf Bt Zr Ch Sl Sq Tn
theorem qB (p q:yF) (w:yC):
  CallsD yK 284 #[qc (yA p),qc (yA q)] .returning w fun e u' w'=>e=qx (qg #[])/\u'= .returning/\w'=w:=by
 refine callsD_of_wpS func284 rfl fun a c b=> ?_;apply wpS_seq;apply wpS_region;simp[wpOpsS,go_sem,recoverD,b,ntmps284,Exit.thenS];refine wpS_of_wp ?_;go_wp2;cases a;simp_all [bodyPostS,results,results284]
theorem zDf {w:yC} {B:Nat} {u v x y:yD} {t:yE} (h:w.heap[B]? =yA (qp #[u,v,x,y] t)):(w.cell? ⟨B,0,yB⟩=yA u/\w.cell? ⟨B,1,yB⟩=yA v/\w.cell? ⟨B,2,yB⟩=yA x/\w.cell? ⟨B,3,yB⟩=yA y)/\w.frozen? ⟨B,0,yB⟩=yI/\w.frozen? ⟨B,1,yB⟩=yI/\w.frozen? ⟨B,2,yB⟩=yI/\w.frozen? ⟨B,3,yB⟩=yI:=by
 refine⟨⟨?_,?_,?_,?_⟩,?_,?_,?_,?_⟩<;>simp[yQ,World.frozen?,h]
abbrev zEf:yE:=105
def qGe (s:ByteArray) (u i j:Nat):yD:= .agg #[qY s,qX .u32 (u:Int),i,j]
theorem zFi (i y:Nat) (a s:ByteArray) (x:List UInt8) (w:yC) (hs:a.size<=100000000) (Y:s.data.toList=x) (h0:0<kN x) (a1:1<=y) (a2:y<=360) (hl:xZ x<=y) (ha:At a i (zAn x)):
  yG yK 247 #[qY a,i,y] w fun e w'=>e=qx (qg #[qGe s (zBa x) i (i+kN (zAn x)),qX qm 0])/\yM w w w':=by
 have a4:∀(fn:Fn) (first a0:Array yD) (w:yC),(Instr.makeFunc fn first a0).run yK w= .ok (.func fn first a0) w:=fun _ _ _ _=>rfl;obtain⟨B,X⟩:=zB w.heap.size;have K:=zH X;obtain⟨O,c⟩:=zB (w.alloc (qp #[qY ⟨#[]⟩,qX .u32 0,qX qm 0,qX qm 0] zEf));obtain⟨P,b⟩:=zB (O.alloc (qp #[qX qm 0] 26));obtain⟨q,d⟩:=zB (P.alloc (qp #[qY a,i,qZ yB 0 0,qZ yB 0 0,qX qm 0] TRd));have Z:O.heap.size=B+1:=by rw[<-c,zA,X]
 have z2:P.heap.size=B+2:=by rw[<-b,zA,Z]
 have b1:yM B w O:=by rw[<-c,<-X];exact(yR _ _).alloc (qPq _) _
 have b2:yM (B+1) O P:=by rw[<-b,<-Z];exact(yR _ _).alloc (qPq _) _
 have V:yM (B+2) P q:=by rw[<-d,<-z2];exact(yR _ _).alloc (qPq _) _
 have new:∀(W:yC) (o:Obj),(W.alloc o).heap[W.heap.size]? =yA o:=fun W o=>by show(W.heap.push o)[W.heap.size]? =_;simp
 have c1:q.heap[B]? =yA (qp #[qY ⟨#[]⟩,qX .u32 0,qX qm 0,qX qm 0] zEf):=by
  rw[V.block B za,b2.block B za,<-c,<-X];exact new _ _
 have c2:q.heap[B+1]? =yA (qp #[qX qm 0] 26):=by
  rw[V.block (B+1) za,<-b,<-Z];exact new _ _
 have c3:RD q (B+2) ⟨a,i,yB,0,0,yB,0,0,0⟩:=by
  unfold RD;rw[<-d,<-z2];exact new _ _
 have l:yM B w q:=(b1.trans (b2.mono za)).trans (V.mono za);have z3:q.heap.size=B+3:=by rw[<-d,zA,z2]
 obtain⟨N,m,r⟩:=yV (fun(w:yC)=>zC9 y a1 a2 w) (zY7 (B+2) i y a s x q c3 hs Y h0 a1 a2 hl ha) (fun(W:yC)=>show yG yK 25 #[qY s] W fun e w'=>e=qx (qX .u32 (zBa x:Int))/\yM W W w' from by
  have hb:=(Rle.zBu x).2;have a5:s.size=kN x:=by rw[<-Y];simp
  have h:=Crc.zG7 s (by unfold maxLen;omega) W;rw[Y,show xJ (xD x)=(zBa x:Int)by unfold xJ zBa;rfl]at h;exact h)
 obtain⟨HM,HB,C1,C2,R⟩:=yY (fun(e:Int) (w:yC)=>zJv e w) l c1 c2 z3;obtain⟨sm,k⟩:=zB (zBa x);obtain⟨n,hn⟩:=zB (kN (zAn x));rw[k]at r;rw[k,hn]at m;rw[k,hn];have a3:¬(i:Int)<0:=za
 obtain⟨H,G,t⟩:=yV c b d;clear b1 b2 V c1 c2 c3 l new Y ha h0 hl k hn z3 c b d Z z2;go_enter_defers func247,ntmps247;go_wp2_with fail;(with_reducible refine(N.out _).mono ?_);rintro e w1 ⟨rfl,I⟩;subst I;go_wp2_with fail;rw[show B+1+1=B+2 from rfl];rw[show((w.alloc (qp #[qY ⟨#[]⟩,qX .u32 0,qX qm 0,qX qm 0] zEf)).alloc (qp #[qX qm 0] 26)).alloc (qp #[qY a,i,qZ yB 0 0,qZ yB 0 0,qX qm 0] TRd)=q by rw[H.out,G.out,t.out]];(with_reducible refine m.out.mono ?_);rintro e w4 ⟨rfl,⟨tp,tc,cq,KG,cc,hk⟩,L⟩;obtain⟨K4,B4,D1,D2⟩:=yX hk (HB.out.trans (L.below.mono (show B<=B+2 by omega))) ((L.old B (by rw[R.out];omega) za).trans C1.out) ((L.old (B+1) (by rw[R.out];omega) za).trans C2.out);have S:=yT (B+3<=w4.heap.size) (by have:=L.size;rw[R.out]at this;exact this);clear hk L m H G t HB C1 C2 R;go_wp2_with fail;(with_reducible refine(r.out _).mono ?_);rintro e w5 ⟨rfl,g⟩;have B5:=zH (B4.out.trans (g.mono (by have:=S.out;omega)));have K5:=K4.out.below g;have d1:=(g.block B (by have:=S.out;omega)).trans D1.out;have d2:=(g.block (B+1) (by have:=S.out;omega)).trans D2.out;have x1:=K5.c1;simp only at x1;obtain⟨⟨y0,y1,y2,y3⟩,g0,g1,g2,g3⟩:=zDf d1;have u0:w5.cell? ⟨B+1,0,yB⟩=yA (qX qm 0):=by simp[yQ,d2]
 have v0:w5.frozen? ⟨B+1,0,yB⟩=yI:=by simp[World.frozen?,d2]
 clear g K4 K5 D1 D2 d2 B4 S N;go_wp2_with fail;(with_reducible refine(HM.out _ _).mono ?_);rintro e w6 ⟨rfl,rfl⟩;obtain⟨M,j⟩:=zB ((((w6.setCell ⟨B,0,yB⟩ (qY s)).setCell ⟨B,1,yB⟩ (qX .u32 (sm:Int))).setCell ⟨B,2,yB⟩ (qX qm (i:Int))).setCell ⟨B,3,yB⟩ (qX qm ((i:Int)+(n:Int))));have z:M.heap[B]? =yA (qp #[qY s,qX .u32 (sm:Int),i,qX qm ((i:Int)+(n:Int))] zEf):=by
  rw[<-j];exact zA3 3 _ (zA3 2 _ (zA3 1 _ (zA3 0 _ d1)))
 obtain⟨F,hF⟩:=zB (M.setCell ⟨B+1,0,yB⟩ (qX qm 0));have e2:F.heap[B]? =yA (qp #[qY s,qX .u32 (sm:Int),i,qX qm ((i:Int)+(n:Int))] zEf):=by
  rw[<-hF];exact qF8 za z
 have u1:M.cell? ⟨B+1,0,yB⟩=yA (qX qm 0):=by
  rw[<-j,qQf _ _ _ _ (by intro e;injection e with z _ _;omega),qQf _ _ _ _ (by intro e;injection e with z _ _;omega),qQf _ _ _ _ (by intro e;injection e with z _ _;omega),qQf _ _ _ _ (by intro e;injection e with z _ _;omega)];exact u0
 have v1:M.frozen? ⟨B+1,0,yB⟩=yI:=by
  rw[<-j,qSw,qSw,qSw,qSw];exact v0
 have r4:F.cell? ⟨B+1,0,yB⟩=yA (qX qm 0):=by
  rw[<-hF];exact qRj _ _ _ (u:=qX qm 0) u1
 have N:=yT (yM B w F) (by rw[<-hF,<-j];exact((((B5.out.setCell (p:=⟨B,0,yB⟩) (qPq _) _).setCell (p:=⟨B,1,yB⟩) (qPq _) _).setCell (p:=⟨B,2,yB⟩) (qPq _) _).setCell (p:=⟨B,3,yB⟩) (qPq _) _).setCell (p:=⟨B+1,0,yB⟩) (qRu _) _)
 obtain⟨⟨r0,r1,r2,r3⟩,_⟩:=zDf e2;clear z e2 d1;go_wp2;refine leaves_cons (f:=284) (args:= #[qc (yA ⟨B,0,yB⟩),qc (yA ⟨B+1,0,yB⟩)]) zm (by simp[go_sem]) ?_;refine(qB ⟨B,0,yB⟩ ⟨B+1,0,yB⟩ F).mono ?_;rintro e u' a6 ⟨rfl,rfl,rfl⟩;simp[Leaves,settle,results,results247,go_sem,r0,r1,r2,r3,r4];rw[K.out];exact⟨rfl,N.out⟩
end Bk
namespace Sm
open Bt Zr Front Sq St Tn Bk Rg
abbrev zCf:yE:=65
theorem qEn:Kit.One yK 224 zCf 4:=⟨underlying224,⟨qX .u32 0,zf,rfl⟩⟩
structure RP (D:Nat) (A B:yC):Prop where
 os:B.os=A.os
 tape:B.tape=A.tape
 output:B.output=A.output
 size:A.heap.size<=B.heap.size
 old:∀(k:Nat) (o:Obj),A.heap[k]? =yA o->(k<D\/((∀cs f,o≠qp cs TSr f)/\(∀cs f,o≠qp cs zCf f)))->B.heap[k]? =yA o
theorem RP.refl (D:Nat) (A:yC):RP D A A:=⟨rfl,rfl,rfl,qPq _,fun _ _ h _=>h⟩
theorem RP.trans {D:Nat} {A B C:yC} (h:RP D A B) (g:RP D B C):RP D A C:=⟨g.os.trans h.os,g.tape.trans h.tape,g.output.trans h.output,qP2 h.size g.size,fun k o b a=>g.old k o (h.old k o b a) a⟩
theorem RP.below {A B:yC} {D E:Nat} (h:yM E A B) (b:E=A.heap.size):RP D A B:=⟨h.os,h.tape,h.output,h.size,fun k o a _=>(h.block k (by rw[b];exact zAd a)).trans a⟩
theorem RP.set {D:Nat} {A:yC} {K i n c j:Nat} {a:ByteArray} {p:Option yF} (h:SR A K a i p n c) (f:D<=K) (v:yD):RP D A (A.setCell ⟨K,j,yB⟩ v):=
 ⟨rfl,rfl,rfl,zm,fun k o b d=>(zAa (fun e=>by
  subst e;rw[show A.heap[k]? =_ from h]at b;injection b with b
  rcases d with d|d
  .omega
  .exact d.1 _ _ b.symm)).trans b⟩
theorem RP.keeps {D:Nat} {A B:yC} (h:RP D A B):KeepsOthers A B:=⟨h.size,fun k o c a=>h.old k o c (qy ⟨(fun b f e=>by rw[e]at a;cases a),(fun b f e=>by rw[e]at a;cases a)⟩)⟩
theorem RP.from {D E:Nat} {w A B:yC} (h:RP D A B) (b:yM E w A) (c:E<=D) (e:D<=A.heap.size):yM E w B:=
 b.trans ⟨h.os,h.tape,h.output,h.size,fun k d=>by
  have a:A.heap[k]? =yA A.heap[k]:=qT3 za;rw[a];exact h.old k _ a (qz za)⟩
structure SS (w:yC) (K:Nat) (a:ByteArray) (i:Nat) (p:Option yF) (n c:Nat) (l:List (BitVec 32)):Prop where
 rd:SR w K a i p n c
 own:yu w (K+1) zCf p n c (l.map zAx)
section
variable {w w':yC} {K i n c:Nat} {a:ByteArray} {p:Option yF} {l:List (BitVec 32)}
theorem SS.lt (h:SS w K a i p n c l):K<w.heap.size:=h.rd.lt
theorem SS.below (h:SS w K a i p n c l) (b:yM w w w'):SS w' K a i p n c l:=⟨h.rd.below b,h.own.below b (qPq _)⟩
theorem SS.s1 (h:SS w K a i p n c l) (j:Nat) {V:Int} (b:V=(j:Int)):SS (w.setCell ⟨K,1,yB⟩ (qX qm V)) K a j p n c l:=⟨h.rd.s1 j b,zCz h.own (qQ8 K) _⟩
theorem SS.alloc (h:SS w K a i p n c l) (o:Obj):SS (w.alloc o) K a i p n c l:=h.below ((yR _ _).alloc (qPq _) _)
theorem SS.drew (h:SS w K a i p n c l):SS w.drew K a i p n c l:=⟨h.rd,h.own⟩
theorem SS.sc {C:Nat->yE->Prop} (h:SS w K a i p n c l) (j:Sc C w w') (m:∀k,¬C k TSr) (o:∀k,¬C k zCf):SS w' K a i p n c l:=by
 refine⟨j.2 _ _ _ _ h.rd (m _),?_⟩;obtain⟨q,f⟩:=h.own;refine⟨q,?_⟩;rcases f with f|⟨g,e,b,hv,d,s,r⟩
 .exact qz f
 .exact qy ⟨g,e,b,hv,d,j.2 _ _ _ _ s (o _),r⟩
theorem SS.push {D:Nat} (h:SS w K a i p n c l) (G:D<=K) (x:BitVec 32) (O:n<=100000):
  ∃s c1 t w2,(loadVar 224 ⟨K,2,yB⟩).run yK w= .ok (qZ p n c) w/\
   (loadVar 224 ⟨K,2,yB⟩).run yK (w.alloc (qp #[zAx x] zCf))= .ok (qZ p n c) (w.alloc (qp #[zAx x] zCf))/\
   (Builtin.append_ #[224,224] 224 #[qZ p n c,qZ (yA ⟨w,0,yB⟩) 1 1]).run yK (w.alloc (qp #[zAx x] zCf))= .ok (qZ s (n+1) c1) t/\
   (storeVar 224 ⟨K,2,yB⟩ (qZ s (n+1) c1)).run yK t= .ok () w2/\SS w2 K a i s (n+1) c1 (l++[x])/\RP D w w2:=by
 have b:=h.alloc (qp #[zAx x] zCf);obtain⟨s,c1,t,I,B,z⟩:=Kit.Own.app (ty:=224) qEn b.own (yA ⟨w,0,yB⟩) 1 1 [zAx x] (xM w (zAx x) zCf) rfl (fun h=>by cases h) (zPv [x]) (by unfold maxLen;omega) za (by have:=b.lt;omega);rw[show l.map zAx++[zAx x]=(l++[x]).map zAx by rw[qQb];rfl]at B;have f:=b.own.block;have H:yM (K+1) (w.alloc (qp #[zAx x] zCf)) t:=xR z (by have:=b.lt;omega) (fun k r=>f k r);have y:SR t K a i p n c:=b.rd.keep (H.block K (qQ8 K));refine⟨s,c1,t,_,yw h.rd.c2 zf zf,yw b.rd.c2 zf zf,I,Kit.zDs y.c2 (y.fr 2) zf rfl rfl,⟨y.s2 s (n+1) c1,zCz B (qQ8 K) _⟩,?_⟩;refine(RP.below ((yR _ w).alloc (qPq _) (qp #[zAx x] zCf)) rfl).trans (RP.trans ?_ (RP.set y G _));obtain⟨g1,g2,g3,m,d⟩:=z;refine⟨g1,g2,g3,m,fun k o r u=>(d k (zAd r) (fun e=> ?_)).trans r⟩;cases p with
 |none=>cases e
 |some q=>
  rcases b.own.2 with⟨F,_⟩|⟨g,L,M,hv,N,j,_⟩
  .cases F
  .injection hv with hv _ _
   injection hv with hv
   subst hv;injection e with e
   subst e;rw[j]at r;injection r with r
   rcases u with u|u
   .omega
   .exact u.2 _ _ r.symm
end
theorem qE3 {w:yC} {B:Nat} {u v x y u' v' x' y':yD} (h:w.heap[B]? =yA (qp #[u,v,x,y] zEf)) (i:∀z∈[u',v',x',y'],z.oneCell'=yH):
  ∃w',(storeVar zEf ⟨B,0,yB⟩ (.agg #[u',v',x',y'])).run yK w= .ok () w'/\w'.heap[B]? =yA (qp #[u',v',x',y'] zEf)/\(∀k,k≠B->w'.heap[k]? =w.heap[k]?)/\(∀D,D<=B->yM D w w'):=by
 obtain⟨⟨c0,c1,c2,c3⟩,d,e,f,g⟩:=zDf h;have a:=qSl (P:=yK) w B 0 zEf #[u',v',x',y'] (fun j l=>by
  have m:j<4:=l;obtain rfl|rfl|rfl|rfl:j=0\/j=1\/j=2\/j=3:=za
  .exact⟨by rw[show 0+0=0 from rfl,c0];rfl,d⟩
  .exact⟨by rw[show 0+1=1 from rfl,c1];rfl,e⟩
  .exact⟨by rw[show 0+2=2 from rfl,c2];rfl,f⟩
  .exact⟨by rw[show 0+3=3 from rfl,c3];rfl,g⟩) zf (by simpa using i)
 refine⟨_,a,?_,?_,?_⟩
 .exact zA3 3 _ (zA3 2 _ (zA3 1 _ (zA3 0 _ h)))
 .exact fun k c=>(zAa c).trans ((zAa c).trans ((zAa c).trans (zAa c)))
 .exact fun D b=>((((yR _ w).setCell (p:=⟨B,0,yB⟩) b _).setCell (p:=⟨B,1,yB⟩) b _).setCell (p:=⟨B,2,yB⟩) b _).setCell (p:=⟨B,3,yB⟩) b _
def PV (b:Nat) (a:List T) (k:Nat):yD:= .agg #[qY (xB (a.getD k [])),zAx (xD (a.getD k [])),qX qm (pos a k:Int),qX qm (pos a (k+1):Int),qX qm ((40*b:Nat):Int)]
def EP (a:Nat) (b:List T) (k:Nat) (_:yC) (c:Array yD):Prop:=c= #[PV a b k,qX qm 0]
structure Arc (lev:Nat) (ps:List T) (a:ByteArray) (n:Nat):Prop where
 len:kN ps=n
 lo:1<=lev
 hi:lev<=9
 size:a.size<=100000000
 many:n<=10000
 head:Hd a lev
 each:∀p∈ps,0<kN p/\xZ p<=40*lev
 blk:∀k,k<n->At a (pos ps k) (zAn (ps.getD k []))
 fin:At a (pos ps n) (zF ps)
 rest:∃r,(8-(pos ps n+80)%8)%8=r/\pos ps n+80+r=8*a.size/\val (take a (pos ps n+80) r)=0
theorem Arc.mem {c n:Nat} {b:List T} {a:ByteArray} (h:Arc c b a n) {k:Nat} (e:k<n):0<kN (b.getD k [])/\xZ (b.getD k [])<=40*c:=by
 have d:k<kN b:=by rw[h.len];exact e
 rw[qPz,qPu d];exact h.each _ (qP9 d)
theorem Arc.next {d n:Nat} {b:List T} {a:ByteArray} (h:Arc d b a n) {k:Nat} (e:k<n):pos b k+kN (zAn (b.getD k []))=pos b (k+1):=by
 have c:k<kN b:=by rw[h.len];exact e
 rw[zZv b k c,qPz,qPu c];rfl
theorem qGl (a:Nat) (b:List T) (d:1<=a) (e:a<=9) (h:(zCt a b).size<=100000000) (g:kN b<=10000) (f:∀p∈b,0<kN p/\xZ p<=40*a):Arc a b (zCt a b) (kN b):=by
 refine⟨rfl,d,e,h,g,fun k c=>qBm a za b k c,f,fun k c=> ?_,qEd a b,⟨_,rfl,?_,?_⟩⟩
 .rw[qPz,qPu c];exact qGm a b k c
 .rw[zLr];omega
 .refine qBl a b _ ?_;rw[zLr];omega
end Sm
namespace Sm
open Hf Bt Zr Front Ch Sq St Tn Bk Rg
variable {w:yC} {K i n c:Nat} {a:ByteArray} {p:Option yF}
theorem SR.l0 (h:SR w K a i p n c):(loadVar 9 ⟨K,0,yB⟩).run yK w= .ok (qY a) w:=yw h.c0 zf zf
theorem SR.l1 (h:SR w K a i p n c):(loadVar 3 ⟨K,1,yB⟩).run yK w= .ok (qX qm (i:Int)) w:=yw h.c1 zf zf
theorem zW1 {pre:List Nat} {k:Nat} (b:k<n):yO k++[k]<+:yO n:=by
 rw[<-qQw];exact List.prefix_iff_eq_take.2 (by rw[qQ9,List.take_range];congr 1;omega)
theorem RP.upd {D:Nat} {w':yC} (h:Upd w w' K) (g:D<=K) (f:SR w K a i p n c):RP D w w':=
 ⟨h.below.os,h.below.tape,h.below.output,h.size,fun k o b d=>(h.old k (zAd b) (fun e=>by
  subst e;rw[show w.heap[k]? =_ from f]at b;injection b with b
  rcases d with d|d
  .omega
  .exact d.1 _ _ b.symm)).trans b⟩
def zVp (K:Nat) (w:yC):Nat:=match w.cell? ⟨K,1,yB⟩with
 |some (qX qm i)=>i.toNat
 |_=>0
theorem zJ7 (h:SR w K a i p n c):zVp K w=i:=by
 unfold zVp;rw[h.c1];rfl
theorem zUl (D K l b1 n:Nat) (b0:D<=K) (ps:List T) (a:ByteArray) (A:Arc b1 ps a n) (C:Nat->yE->Prop) (b2:∀k,¬C k TSr) (b3:∀k,¬C k zCf) (J Jx:List Nat->yC->Prop) (hJ:∀pre A B,J pre A->RP D A B->J pre B)
  (hY:∀pre x W1 vs,J pre W1->EP b1 ps x W1 vs->pre++[x]<+:yO n->YieldAt Fence.wide 1 yK l vs W1 fun e W'=>(e=qx (qh yH)/\J (pre++[x]) W'/\Sc C W1 W')\/(e=qx (qh yI)/\Jx (pre++[x]) W'))
  (w:yC) (h:SR w K a 0 yB 0 0) (h0:J [] w):
  CallsIn Fence.wide 2 yK 189 #[qc (yA ⟨K,0,yB⟩),.func (.yield l) #[] #[]] w fun e w'=>
   (e=qx (qh yH)/\J (yO n) w'/\∃p c,SR w' K a (8*a.size) p n c)\/(e=qx (qh yI)/\∃pre,pre<+:yO n/\Jx pre w'):=by
 obtain⟨HJ,HY,z,Y⟩:=yX hJ hY A (zZm a b1 A.size A.lo A.hi A.head w.drew);have K0:=yT (SR w.drew K a 0 yB 0 0) h;have J0:=zH (hJ _ _ _ h0 (RP.below (B:=w.drew) ((yR w.heap.size w).drew) rfl));obtain⟨m,hm⟩:=zB (40*b1);have av:m<=360:=by have:=A.hi;omega
 rw[hm]at Y;have HM:=zH hm;clear hJ hY A h h0 hm;refine qS8 func189 rfl trivial ?_ rfl;simp only[ntmps189,qQ2,qP4,qQy,Nat.reduceAdd,Nat.reduceSub,qR,qRa,qRb,qRc,qQm,qQs];gi_wp2;refine Kit.zIq zf [] (fun _=>True) [0,1,2,4,0,16,32,64,128,264,512,1024,1024,4095,16383] 15 zf zf zf zf zf ?_;refine zp [0,1,2,3,4,5,6,7,8]<|zk 10 (zP K 0)<|zk 11 (zP K 0)<|zk 12 (zP K 0)<|zt 13 (qY a) (zl 9 12 (K0.out.l0))<|zk 14 (zP K 0)<|zk 15 (zP K 0)<|zk 16 (zP K 1)<|zt 17 (qX qm 0) (zl 3 16 (K0.out.l1))<|zk 18 (qX qm 0)<|zn<|zd 9 19 245 #[qY a,qX qm 0] (qg #[m,qX qm 0]) Y.out<|zp [10,11,12,13,14]<|zk 9 (qg #[m,qX qm 0])<|zk 20 (zI m)<|zk 21 (qX qm 0)<|zk 5 (zI m)<|zk 6 (qX qm 0)<|zn<| ?_
 refine Kit.zRh zf ?_;simp only[zP,zI,Act.put,qPx,qPw,qPy];clear Y;generalize w.drew=w1 at K0 J0⊢;have c1:=K0.out.c1;have c2:=K0.out.c2;have f1:=K0.out.fr 1;have f2:=K0.out.fr 2;have y:=SR.s1 K0.out 32 (V:=32) rfl;obtain⟨S2,J2⟩:=yU (SS.mk (l:=[]) (SR.s2 y yB 0 0) (Kit.Own.start _ _ _)) (HJ.out _ _ _ (HJ.out _ _ _ J0.out (RP.set K0.out b0 (j:=1) (qX qm 32))) (RP.set y b0 (j:=2) (qZ yB 0 0)));clear y J0 K0;rw[show((0:Nat):Int)=0 from rfl]at c1;gi_wp2;clear c1 c2 f1 f2;gi_loopw [6] (fun ev wr=>∃(k c:Nat) (p:Option yF),k<=n/\ev=qX qm 0/\yL (SS wr K a (pos ps k) p k c ((ps.take k).map xD))/\yL (J (yO k) wr)) (fun _ wr=>8*a.size+1-zVp K wr)
 case atStart=>exact⟨0,0,yB,qQl _,rfl,by rw[zZu];exact S2,J2⟩
 case round=>
  clear S2 J2;obtain⟨k,c,p,hk,rfl,a7,hj⟩:=hrel;obtain⟨J1,y⟩:=yU (HJ.out _ _ _ hj.out (RP.below (B:=wr.drew) ((yR wr.heap.size wr).drew) rfl)) a7.out.drew;have K1:=zH y.out.rd;obtain⟨i,hi⟩:=zB (pos ps k);have L:=zJ7 a7.out.rd;rw[hi]at y K1 L;have HI:=zH (yS hi L);clear a7 hj L;by_cases s:k<n
  .obtain⟨x,hx⟩:=zB (ps.getD k []);have u:=z.out.blk k s;have F:=z.out.mem s;have I:=z.out.next s
   rw[hi,hx]at u I;rw[hx,HM.out]at F;obtain⟨i2,X⟩:=zB (pos ps (k+1));rw[X]at I;have d:At a i (num zA4 48):=Bk.At.left (by rw[zE6]at u;exact u);have hb:=Bk.At.bound u;have o:=Bk.At.bound d;rw[zAc]at o;have hs:=z.out.size;have HG:=zH ((zB7 a i 48 za o za wr.drew).mono (fun _ _ h=>(⟨h.1,h.2.symm⟩:_/\_)));rw[At.val d qW,show((zA4:Nat):Int)=54156738319193 from rfl,show((48:Nat):Int)=48 from rfl]at HG;have ah:(zBa x:Int)=xJ (xD x):=by unfold xJ zBa;rfl
   have O:=zH (fun W=>zFi i m a (xB x) x W hs (kF x) F.1 (by have:=HM.out;have:=z.out.lo;omega) av F.2 u);unfold qGe at O;rw[I,ah]at O;have HX:=zH (yS hx (yS X (yS I hb)));have aq:48<=kN (zAn x):=by rw[zE6,qP0,zAc];omega
   have az:=yT (i<i2) (by omega);clear hi hx u F I X d hb o hs ah aq;gi_wp2;refine Kit.zIq zf [] (fun _=>True) [0,1,2,4,0,16,32,64,136,256,512,512,2047,8191] 14 zf zf zf zf zf ?_;refine zp [0,1,2,3,4,5,6,7]<|zk 35 (zP K 0)<|zk 36 (zP K 0)<|zk 37 (zP K 0)<|zt 38 (qY a) (zl 9 37 (K1.out.l0))<|zk 39 (zP K 0)<|zk 40 (zP K 0)<|zk 41 (zP K 1)<|zt 42 (zI i) (zl 3 41 (K1.out.l1))<|zn<|zd 8 43 32 #[qY a,qX qm (i:Int),qX qm 48] (qg #[qX .u64 54156738319193,qX qm 0]) HG.out<|zp [9,10,11,12,13]<|zk 34 (qg #[qX .u64 54156738319193,qX qm 0])<|zk 44 (qX .u64 54156738319193)<|zk 45 (qX qm 0)<|zk 7 (qX .u64 54156738319193)<|zk 6 (qX qm 0)<|zn<| ?_
   refine Kit.zRh zf ?_;simp only[zP,zI,Act.put,qPx,qPw,qPy];clear HG K1;generalize wr.drew=w2 at y J1⊢;obtain⟨b,H⟩:=zB w2.heap.size;obtain⟨W,hW⟩:=zB (w2.alloc (qp #[qY ⟨#[]⟩,qX .u32 0,qX qm 0,qX qm 0] zEf));have ar:K<b:=by rw[<-H];exact y.out.lt
   have S2:=yT (SS W.drew K a i p k c ((ps.take k).map xD)) (by rw[<-hW];exact(y.out.alloc _).drew);have K2:=zH S2.out.rd;have HZ:=yT (W.drew.heap[b]? =yA (qp #[qY ⟨#[]⟩,qX .u32 0,qX qm 0,qX qm 0] zEf)) (by rw[<-hW,<-H];exact zAh w2 _);have B2:=yT (yM b w2 W.drew) (by rw[<-hW,<-H];exact((yR _ _).alloc (qPq _) _).drew);obtain⟨HW,a9⟩:=yU hW H;clear y hW H;gi_wp2;rw[a9.out,show w2.alloc (qp #[qY ⟨#[]⟩,qX .u32 0,qX qm 0,qX qm 0] zEf)=W from HW.out];refine Kit.zIq zf [] (fun _=>True) [0,1,2,4,0,16,32,64,0,392,512,1024,1024,4095,16383] 15 zf zf zf zf zf ?_;refine zp [0,1,2,3,4,5,6,7,8]<|zk 66 (zP K 0)<|zk 67 (zP K 0)<|zk 68 (zP K 0)<|zt 69 (qY a) (zl 9 68 (K2.out.l0))<|zk 70 (zP K 0)<|zk 71 (zP K 0)<|zk 72 (zP K 1)<|zt 73 (zI i) (zl 3 72 (K2.out.l1))<|zk 74 (zI m)<|zn<|zx 9 75 247 #[qY a,qX qm (i:Int),qX qm (m:Int)] (O.out _)<| ?_
   rintro e w5 ⟨rfl,P⟩;have S:=(P.block b (zAd HZ.out)).trans HZ.out;obtain⟨w6,Z,a3,aj,M⟩:=qE3 (u':=qY (xB x)) (v':=qX .u32 (xJ (xD x))) (x':=qX qm (i:Int)) (y':=qX qm (i2:Int)) S (by simp[Value.oneCell']);refine⟨_,rfl,qy (qy trivial),?_⟩;refine zp [10]<|zk 65 (qg #[.agg #[qY (xB x),qX .u32 (xJ (xD x)),i,i2],qX qm 0])<|zn<|zu 12 77 (qX qm 0)<|zp [11]<|zk 76 (.agg #[qY (xB x),qX .u32 (xJ (xD x)),i,i2])<|zn<|zw 13 yB (zr 105 8 76 (Z)) (qy (qy trivial))<|zp [14]<|zk 6 (qX qm 0)<|zn<| ?_
   refine Kit.zRh zf ?_;simp only[zP,zI,Act.put,qPx,qPw,qPy];have a2:b<W.drew.heap.size:=zAd HZ.out;have S5:=S2.out.below P;have S6:SS w6 K a i p k c ((ps.take k).map xD):=S5.sc (C:=fun q t=>q=b/\t=zEf) ⟨(M b (qPq _)).size,fun q cs t f hq hc=>(aj q (fun e=>hc ⟨e,by subst e;rw[S]at hq;injection hq with hq;injection hq with _ hq _;exact hq.symm⟩)).trans hq⟩ (fun q h=>absurd h.2 qW) (fun q h=>absurd h.2 qW);have J6:=HJ.out _ _ _ J1.out (RP.below ((B2.out.trans (P.mono (qP7 a2))).trans (M b (qPq _))) a9.out.symm);have c1:=S6.rd.c1;have f1:=S6.rd.fr 1;obtain⟨S7,J7⟩:=yU (S6.s1 i2 (V:=(i2:Int)) rfl) (HJ.out _ _ _ J6 (RP.set S6.rd b0 (j:=1) (qX qm (i2:Int))));have z7:(w6.setCell ⟨K,1,yB⟩ (qX qm (i2:Int))).heap[b]? =yA (qp #[qY (xB x),qX .u32 (xJ (xD x)),i,i2] zEf):=(zAa (Nat.ne_of_gt ar)).trans a3;obtain⟨⟨_,_,_,e3⟩,_⟩:=zDf a3;obtain⟨w7,an⟩:=zB (w6.setCell ⟨K,1,yB⟩ (qX qm (i2:Int)));rw[an]at S7 J7 z7;have Z7:=zH z7;clear P Z a3 aj M S S5 S6 J6 O K2 S2 HZ B2 HW a9 J1 a2 z7;gi_wp2;have ab:k<=100000:=by have:=z.out.many;omega
   obtain⟨p1,d1,w8,w9,l2,ao,ag,a4,S9,a8⟩:=S7.out.drew.push (D:=D) b0 (xD x) ab;have LB:=yT ((loadVar 65 ⟨b,1,yB⟩).run yK w7.drew= .ok (zAx (xD x)) w7.drew) (yw (by simp[yQ,show w7.drew.heap[b]? =_ from Z7.out];rfl) zf zf);obtain⟨L2,ad,ap,a5⟩:=yX l2 ao ag a4;have z9:=a8.old b _ (show w7.drew.heap[b]? =_ from Z7.out) (qy ⟨(fun cs f e=>by injection e with _ e _;exact absurd e qW),(fun cs f e=>by injection e with _ e _;exact absurd e qW)⟩);have J9:=HJ.out _ _ _ J7.out ((RP.below (B:=w7.drew) ((yR w7.heap.size w7).drew) rfl).trans a8);have a1:=zH S9;clear c1 f1 e3 an l2 ao ag a4 S9 a8 S7 J7 Z7;refine Kit.zIq zf [8,11] (fun W'=>(loadVar 224 ⟨K,2,yB⟩).run yK W'= .ok (qZ p k c) W') [0,0,2,4,8,0,32,64,144,511,1023,1535] 12 zf zf zf zf zf ?_;refine zu 0 85 (zP K 0)<|zu 1 86 (zP K 0)<|zu 2 87 (zP K 0)<|zu 3 88 (zP K 2)<|zy 4 89 (qZ p k c) (fun w hS=>zl 224 88 (hS)) L2.out<|zp [5,6]<|zk 90 (zP b 1)<|zt 91 (zAx (xD x)) (zl 65 90 (LB.out))<|zn<| ?_
   refine Kit.zLe (w':=w7.drew.alloc (qp #[zAx (xD x)] zCf)) 7 (yA 92) (qZ (yA ⟨w7.drew.heap.size,0,yB⟩) 1 1) 255 zf zf rfl rfl zf zf (qy (qy (ad.out))) ?_;refine zo 8 93 (qZ p1 (k+1) d1) (Kit.zHb (.tmp 89) (.tmp 92) 224 rfl zf zf ap.out) (qy (qz zf))<|zp [9,10]<|zk 94 (zP K 0)<|zk 95 (zP K 2)<|zn<|zw 11 yB (zr 224 95 93 (a5.out)) (qy (qz zf))<| ?_
   refine Kit.zRh zf ?_;simp only[zP,zI,Act.put,qPx,qPw,qPy];obtain⟨⟨y0,y1,y2,y3⟩,_⟩:=zDf z9;have ae:=zW1 (pre:=[]) s;obtain⟨fn,tmps,assign,body,hy,hR⟩:=HY.out (yO k) k w9 #[.agg #[qY (xB x),qX .u32 (xJ (xD x)),i,i2,m],qX qm 0] J9
    (by unfold EP PV zAx;rw[HX.out.1,HI.out.1,HX.out.2.1,HM.out]) ae
   have HR:=zH hR;clear z9 J9 hR L2 ad ap a5 LB;gi_wp2;refine HR.out.mono ?_;rintro e W3 (⟨rfl,am,ac⟩|⟨rfl,aa⟩)
   .obtain⟨ai,ay⟩:=yU (a1.out.sc ac b2 b3) am;clear am ac hy y0 y1 y2 y3 a1;gi_wp2;go_roundw
    case rel=>
     refine⟨k+1,d1,p1,s,rfl,?_,?_⟩
     .rw[HX.out.2.1];have ak:k<kN ps:=by rw[z.out.len];exact s
      have au:ps[k]=x:=by
       have:=HX.out.1;rw[qPz,qPu ak]at this;exact this
      rw[qQp ak,qQb,au];exact ai
     .rw[qQw];exact ay
    case measure=>
     rw[zJ7 ai.out.rd,HI.out.2];have:=HX.out.2.2.2;have:=HX.out.2.2.1;have:=az.out;omega
   .have ax:=zH aa;clear aa hy y0 y1 y2 y3 a1;gi_wp2;go_ret;exact qy ⟨rfl,_,ae,ax.out⟩
  .obtain rfl:k=n:=za
   have G:=z.out.fin;obtain⟨r,a0,R,hz⟩:=z.out.rest;rw[hi]at G a0 R hz;have d:At a i (num zH0 48):=Bk.At.left G;have o:=Bk.At.bound d;rw[zAc]at o;have hs:=z.out.size;have HG:=zH ((zB7 a i 48 za o za wr.drew).mono (fun _ _ h=>(⟨h.1,h.2.symm⟩:_/\_)));rw[At.val d qW,show((zH0:Nat):Int)=25779555029136 from rfl,show((48:Nat):Int)=48 from rfl]at HG;have N:=y.out.own.src;rw[qQc (by rw[z.out.len];exact qPq _)]at N;have hne:∀q,p=yA q->q.block≠K:=by
    rintro q rfl;rcases y.out.own.2 with⟨e1,_⟩|⟨g,b4,b5,hv,hg,_⟩
    .cases e1
    .injection hv with hv _ _
     injection hv with hv
     subst hv;show g≠K;omega
   obtain⟨a6,S2⟩:=yU (zFr K i k c r a p ps wr.drew y.out.rd hs z.out.len (by have:=z.out.many;omega) N hne G a0 R hz) y.out;clear G a0 R hz d o hs N hne hi;gi_wp2;refine Kit.zIq zf [] (fun _=>True) [0,1,2,4,0,16,32,64,136,256,512,512,2047,8191] 14 zf zf zf zf zf ?_;refine zp [0,1,2,3,4,5,6,7]<|zk 35 (zP K 0)<|zk 36 (zP K 0)<|zk 37 (zP K 0)<|zt 38 (qY a) (zl 9 37 (K1.out.l0))<|zk 39 (zP K 0)<|zk 40 (zP K 0)<|zk 41 (zP K 1)<|zt 42 (zI i) (zl 3 41 (K1.out.l1))<|zn<|zd 8 43 32 #[qY a,qX qm (i:Int),qX qm 48] (qg #[qX .u64 25779555029136,qX qm 0]) HG.out<|zp [9,10,11,12,13]<|zk 34 (qg #[qX .u64 25779555029136,qX qm 0])<|zk 44 (qX .u64 25779555029136)<|zk 45 (qX qm 0)<|zk 7 (qX .u64 25779555029136)<|zk 6 (qX qm 0)<|zn<| ?_
   refine Kit.zRh zf ?_;simp only[zP,zI,Act.put,qPx,qPw,qPy];clear HG K1 y;generalize wr.drew=w2 at S2 J1 a6⊢;gi_wp2_with fail;refine⟨trivial,(qQi.2 a6.out).mono ?_⟩;rintro e w3 ⟨rfl,af,hu⟩;obtain⟨J3,S3⟩:=yU (HJ.out _ _ _ J1.out (RP.upd hu b0 S2.out.rd)) af;clear af hu a6 S2 J1;gi_wp2;refine⟨(fun f hf=>by cases hf),?_⟩
   apply_assumption
   gi_wp2;go_ret;exact qz ⟨rfl,J3.out,_,_,S3.out⟩
end Sm
namespace Sm
open Hf Zr Front Ch Sq Tn Rg
theorem zRw {A B:yC} {b:Nat} {v:yD} (h:Boxed A b 9 v) {D:Nat} (g:RP D A B):Boxed B b 9 v:=
 g.old b _ h (qy ⟨(fun a f e=>by injection e with _ e _;exact absurd e qW),(fun a f e=>by injection e with _ e _;exact absurd e qW)⟩)
theorem qCq {a:ByteArray} (h:0<a.size):¬a.toList.isEmpty=yH:=by
 rw[qTa];intro e;rw[List.isEmpty_iff]at e;have:kN a.data.toList=a.size:=by simp
 rw[e]at this;simp at this;omega
theorem zW8 (D b Z n:Nat) (ps:List T) (a:ByteArray) (A:Arc Z ps a n) (C:Nat->yE->Prop) (a1:∀k,¬C k TSr) (a2:∀k,¬C k zCf) (a3:¬C b 9) (W:yC) (hD:D<=W.heap.size) (a0:Boxed W b 9 (qY a)):
  qBt yK 188 #[qc (yA ⟨b,0,yB⟩)] (EP Z ps) (RP D) C (yO n) W:=by
 intro l J Jx Y hY h0;obtain⟨K,hK⟩:=zB W.heap.size;obtain⟨y,f⟩:=zB (W.alloc (qp #[qY a,qX qm 0,qZ yB 0 0] TSr));have H:=yT (SR y K a 0 yB 0 0) (by rw[<-f,<-hK];exact zAh W _);have o:RP D W y:=RP.below (E:=W.heap.size) (by rw[<-f];exact(yR _ _).alloc (qPq _) _) rfl;obtain⟨F,HJ,L,X⟩:=yX (Y _ _ _ h0 o) Y (zRw a0 o) (fun(w:yC) (h1:SR w K a 0 yB 0 0) (h2:J [] w) (h3:Boxed w b 9 (qY a))=>
  zUl D K l Z n za ps a A C a1 a2 (fun pre W=>J pre W/\Boxed W b 9 (qY a)) Jx (fun pre A B h g=>⟨Y pre A B h.1 g,zRw h.2 g⟩)
   (fun pre x y vs h he hp=>by
    obtain⟨fn,R,r,P,hy,hR⟩:=hY pre x y vs h.1 he hp;refine⟨fn,R,r,P,hy,hR.mono ?_⟩;rintro e W' (⟨z,h5,h6⟩|z)
    .exact qz ⟨z,⟨h5,h6.2 _ _ _ _ h.2 a3⟩,h6⟩
    .exact qy z) w h1 ⟨h2,h3⟩)
 have j:=a0.cell;have hne:=qCq (a:=a) (by have:=A.head.size;omega);have z:=A.head.size;have hs:=A.size;obtain⟨HW,HK⟩:=yU f hK;clear f hK o Y hY h0 A;refine qS8 func188 rfl trivial ?_ rfl;simp only[ntmps188,qQ2,qP4,qQy,Nat.reduceAdd,Nat.reduceSub,qR,qRa,qRb,qRc,qQm,qQs];gi_wp2;rw[HK.out,show W.alloc (qp #[qY a,qX qm 0,qZ yB 0 0] TSr)=y from HW.out];clear j;gi_loopw [20] (fun _ wr=>yL (Boxed wr b 9 (qY a))/\((yL (SR wr K a 0 yB 0 0)/\yL (J [] wr))\/∃p m c,yL (SR wr K a (8*a.size) p m c)/\yL (J (yO n) wr))) (fun _ wr=>8*a.size-zVp K wr)
 case atStart=>exact⟨L,qz ⟨H,F⟩⟩
 case round=>
  clear H F L;obtain⟨I,V⟩:=hrel;have j:=I.out.cell;have a4:IntKind.i64.wrap (8*(a.size:Int))=8*(a.size:Int):=qQa _ ⟨za,za⟩;have s:=zH (fun(q:Nat) (pre:List Nat) (hj:J pre wr)=>HJ.out _ _ _ hj (show RP D wr (wr.drewN q)from⟨rfl,rfl,rfl,qPq _,fun _ _ h _=>h⟩));rcases V with⟨d,i⟩|⟨p,m,c,d,i⟩
  .have c1:=d.out.c1;rw[show((0:Nat):Int)=0 from rfl]at c1;gi_wp2;gi_quiet (fail);have HC:=zH (X.out (wr.drewN nq) (show SR (wr.drewN nq) K a 0 yB 0 0 from d.out) (s.out nq _ i.out) (show Boxed (wr.drewN nq) b 9 (qY a)from I.out));have G:=zJ7 d.out;have S:=zH G;clear c1 j d i G s;gi_wp2_with fail;refine⟨trivial,(qQi.2 (qQi.1 HC.out)).mono ?_⟩;rintro e w3 (⟨rfl,⟨N,O⟩,p,c,u⟩|⟨rfl,pre,t,M⟩)
   .obtain⟨J3,B3,S3⟩:=yV N O u;clear N O u HC;gi_wp2;go_roundw
    case rel=>exact⟨B3,qy ⟨_,_,_,S3,J3⟩⟩
    case measure=>rw[zJ7 S3.out,S.out];omega
   .have X3:=zH (yS t M);clear t M HC;gi_wp2;refine qP5 (qSx rfl _ _ _) rfl ?_;exact⟨⟨_,rfl⟩,qy ⟨_,X3.out⟩⟩
  .have c1:=d.out.c1;rw[show((8*a.size:Nat):Int)=8*(a.size:Int)by omega]at c1;gi_wp2;gi_quiet (fail);gi_wp2
   first|go_end0|refine qP5 (qSx rfl _ _ _) rfl ?_
   exact⟨⟨_,rfl⟩,qz (s.out nq _ i.out)⟩
end Sm
namespace Sm
open Hf Bt Zr Front Ch Sq Tn Rg
variable {W A w W':yC} {B l n c D:Nat} {e:yE} {a:Option yF} {o:Obj}
attribute [local go_sem] Oper.semAt_some
structure Pt where
 s:ByteArray
 u:BitVec 32
 i:Nat
 j:Nat
 r:Nat
def LPt:xV Pt where
 k:=5
 pos:=za
 cl x:=[qY x.s,zAx x.u,qX qm (x.i:Int),qX qm (x.j:Int),qX qm (x.r:Int)]
 len _:=rfl
 one m:=by simp[Value.oneCell',zAx]
def zD2 (d:Nat) (b:List T) (k:Nat):Pt:=⟨xB (b.getD k []),xD (b.getD k []),pos b k,pos b (k+1),40*d⟩
def zZs (p:Pt):yD:= .agg #[qY p.s,zAx p.u,qX qm (p.i:Int),qX qm (p.j:Int),qX qm (p.r:Int)]
theorem qB0 (b:Nat) (d:List T) (k:Nat):PV b d k=zZs (zD2 b d k):=rfl
theorem zK8 (p:Pt):∃s u i j r,p=⟨s,u,i,j,r⟩:=⟨_,_,_,_,_,rfl⟩
abbrev TPt:yE:=122
abbrev TPs:yE:=115
theorem qG7:Kit.zVx yK TPs TPt LPt.k 48:=⟨underlying115,⟨.agg #[qY ⟨#[]⟩,qX .u32 0,qX qm 0,qX qm 0,qX qm 0],zf,rfl⟩⟩
structure AI (w W:yC) (B n:Nat) (l:List Pt):Prop where
 own:∃p c,Boxed W B TPs (qZ p n c)/\yx LPt W (B+2) TPt p n c l
 err:Boxed W (B+1) 26 (qX qm 0)
 below:yM B w W
 size:B+3<=W.heap.size
theorem zQy {α:Type} {L:xV α} {xs:List α} (h:yx L W B e a n c xs) (j:Obj) (p:W.heap[l]? =yA o) (q:o.isCells=yI):yx L (W.putObj l j) B e a n c xs:=by
 obtain⟨k,i⟩:=h;refine⟨k,?_⟩;rcases i with i|⟨g,f,b,hv,d,m,r⟩
 .exact qz i
 .exact qy ⟨g,f,b,hv,d,zBl m j p q,r⟩
theorem qC3 {α:Type} {L:xV α} {xs:List α} (h:yx L A B e a n c xs) (t:RP D A W) (m:e≠TSr) (p:e≠zCf):yx L W B e a n c xs:=by
 obtain⟨q,j⟩:=h;refine⟨q,?_⟩;rcases j with j|⟨g,i,b,hv,d,s,r⟩
 .exact qz j
 .exact qy ⟨g,i,b,hv,d,t.old g _ s (qy ⟨(fun k f e=>by injection e with _ e _;exact m e),(fun k f e=>by injection e with _ e _;exact p e)⟩),r⟩
theorem zPa {b:Nat} {t:yE} {v:yD} (h:Boxed A b t v) (g:RP D A W) (i:t≠TSr) (j:t≠zCf):Boxed W b t v:=
 g.old b _ h (qy ⟨(fun d f e=>by injection e with _ e _;exact i e),(fun d f e=>by injection e with _ e _;exact j e)⟩)
theorem AI.put {xs:List Pt} (h:AI w W B n xs) (b:Obj) (d:W.heap[l]? =yA o) (f:o.isCells=yI) (j:B<=l):AI w (W.putObj l b) B n xs:=by
 obtain⟨p,c,g,i⟩:=h.own;exact⟨⟨p,c,zBl g b d f,zQy i b d f⟩,zBl h.err b d f,Rle.zAu b h.below d j (by have:=h.size;omega),by rw[putObj_size];exact h.size⟩
theorem AI.rp {xs:List Pt} (h:AI w W B n xs) (g:RP D W W') (b:B<=D) (i:D<=W.heap.size):AI w W' B n xs:=by
 obtain⟨p,c,d,f⟩:=h.own;exact⟨⟨p,c,zPa d g qW qW,qC3 f g qW qW⟩,zPa h.err g qW qW,g.from h.below b i,qP2 h.size g.size⟩
theorem AI.keep {xs:List Pt} (h:AI w W B n xs) (g:yM W W W'):AI w W' B n xs:=
 h.rp (D:=W.heap.size) (RP.below g rfl) (by have:=h.size;omega) (qPq _)
theorem AI.push {L:Nat} {xs:List Pt} (h:AI w W B n xs) (hn:n<=100000) (x:Pt) (hL:W.heap[L]? =yA (qp (LPt.cl x).toArray TPt)):
  ∃p c K c1 z w2,Boxed W B TPs (qZ p n c)/\(Builtin.append_ #[TPs,TPs] TPs #[qZ p n c,qZ (yA ⟨W,0,yB⟩) 1 1]).run yK (W.alloc (qp (LPt.cl x).toArray TPt))= .ok (qZ K (n+1) c1) z/\
   Boxed z B TPs (qZ p n c)/\z.setCell ⟨B,0,yB⟩ (qZ K (n+1) c1)=w2/\AI w w2 B (n+1) (xs++[x])/\KeepsOthers W w2/\Sc (fun _ t=>t=TPt\/t=TPs) W w2:=by
 obtain⟨p,c,M,P⟩:=h.own;have a1:=h.size;have Y:B+2<=W.heap.size:=za
 obtain⟨K,c1,z,X,F,R⟩:=Kit.Own'.app (ty:=TPs) qG7 (P.alloc (qp (LPt.cl x).toArray TPt)) (yA ⟨W,0,yB⟩) 1 1 [x] (Kit.zFo W x TPt) rfl (fun h=>by cases h) (by unfold maxLen;omega) za zq;have H:=(P.alloc (qp (LPt.cl x).toArray TPt)).block;have l:yM W W (W.alloc (qp (LPt.cl x).toArray TPt)):=(yR _ _).alloc (qPq _) _;have a:yM (B+2) W z:=(l.mono Y).trans (xR R zq (fun k y=>H k y));have m:Boxed z B TPs (qZ p n c):=(a.block B za).trans M;have j:∀(k:Nat) (o:Obj),W.heap[k]? =yA o->(∀N f,o≠qp N TPt f)->z.heap[k]? =yA o:=by
  intro k o y hne;obtain⟨_,_,_,_,u⟩:=R;refine(u k (by simp;have:=zAd y;omega) (fun e=> ?_)).trans ((l.block k (zAd y)).trans y);cases p with
  |none=>cases e
  |some q=>
   rcases P.2 with⟨S,_⟩|⟨g,s,i,hv,a0,b,_⟩
   .cases S
   .injection hv with hv _ _
    injection hv with hv
    subst hv;injection e with e
    subst e;rw[b]at y;injection y with y
    exact hne _ _ y.symm
 refine⟨p,c,K,c1,z,_,M,X,m,rfl,⟨⟨K,c1,?_,?_⟩,?_,?_,?_⟩,⟨?_,?_⟩,⟨?_,?_⟩⟩
 .unfold Boxed at*;exact(zA3 0 (qZ K (n+1) c1) m)
 .obtain⟨V,O⟩:=F;refine⟨V,?_⟩;rcases O with O|⟨g,s,i,hv,G,b,r⟩
  .exact qz O
  .exact qy ⟨g,s,i,hv,G,(zAa za).trans b,r⟩
 .exact(zAa za).trans ((a.block (B+1) za).trans h.err)
 .exact(h.below.trans (a.mono za)).setCell (p:=⟨B,0,yB⟩) (qPq _) _
 .have:=a.size;simp;omega
 .have:=a.size;simp;exact this
 .intro k o y I;have d:k≠B:=by rintro rfl;rw[show W.heap[k]? =_ from M]at y;injection y with y;subst y;cases I
  exact(zAa d).trans (j k o y (fun N f e=>by rw[e]at I;cases I))
 .have:=a.size;simp;exact this
 .intro k N t f y I;have d:k≠B:=by rintro rfl;rw[show W.heap[k]? =_ from M]at y;injection y with y;injection y with _ y _;exact I (qy y.symm)
  exact(zAa d).trans (j k _ y (fun Z f' e=>by injection e with _ e _;exact I (qz e)))
def AJ (w:yC) (a:ByteArray) (B b:Nat) (d:List T) (pre:List Nat) (x:Nat) (g:Array yD) (f:Act) (W:yC):Prop:=
 ∃L:Nat,f={tmps:= #[qY a,yN,qc (yA ⟨B,0,yB⟩),qc (yA ⟨B+1,0,yB⟩),qc (yA ⟨L,0,yB⟩),qX qm 0,qY a,.func (.func 188) #[] #[qc (yA ⟨B+2,0,yB⟩)],PV b d x,qX qm 0,yN,yN,yN,yN,yN,yN,yN,yN],defers:=[]}/\
  W.heap[L]? =yA (qp (LPt.cl (zD2 b d x)).toArray TPt)/\AI w W B (kN pre) (pre.map (zD2 b d))
theorem zUu (a:ByteArray) (w:yC):
  yG yK 139 #[qY a] w fun e w'=>e=qx (.func (.func 188) #[] #[qc (yA ⟨w,0,yB⟩)])/\w'=w.alloc (qp #[qY a] 9):=by
 have d:∀(fn:Fn) (first b:Array yD) (w:yC),(Instr.makeFunc fn first b).run yK w= .ok (.func fn first b) w:=fun _ _ _ _=>rfl;go_enter func139,ntmps139;go_wp2;go_ret;exact⟨rfl,rfl⟩
theorem zYp (q n:Nat) (z:List T) (a:ByteArray) (A:Arc q z a n) (w:yC):
  yG yK 61 #[qY a] w fun e w'=>∃p c,e=qx (qg #[qZ p n c,qX qm 0])/\yx LPt w' w.heap.size TPt p n c ((yO n).map (zD2 q z))/\yM w w w':=by
 obtain⟨B,hB⟩:=zB w.heap.size;have HA:=zH A;obtain⟨w2,b⟩:=zB ((w.alloc (qp #[qZ yB 0 0] TPs)).alloc (qp #[qX qm 0] 26));have i:w2.heap.size=B+2:=by rw[<-b,zA,zA,hB]
 have b2:yM B w w2:=by rw[<-b,<-hB];exact((yR _ _).alloc (qPq _) _).alloc (by rw[zA];omega) _
 have x2:Boxed w2 B TPs (qZ yB 0 0):=by
  rw[<-b];refine(Lib.alloc_old _ _ B (by rw[zA];omega)).trans ?_;rw[<-hB];exact zAh w _
 have y2:Boxed w2 (B+1) 26 (qX qm 0):=by
  rw[<-b,show B+1=(w.alloc (qp #[qZ yB 0 0] TPs)).heap.size by rw[zA,hB]];exact zAh _ _
 obtain⟨w3,f⟩:=zB (w2.alloc (qp #[qY a] 9));have I:yM (B+2) w2 w3:=by rw[<-f,<-i];exact(yR _ _).alloc (qPq _) _
 have ab:w3.heap.size=B+3:=by rw[<-f,zA,i]
 have a8:=yT (AI w w3 B 0 []) ⟨⟨yB,0,(I.block B za).trans x2,Kit.Own'.start _ _ _⟩,(I.block (B+1) za).trans y2,b2.trans (I.mono za),za⟩;have X3:=yT (Boxed w3 (B+2) 9 (qY a)) (by rw[<-f,<-i];exact zAh _ _);have HP:=zH (zUu a w2);rw[i,f]at HP;obtain⟨R,HB⟩:=yU b hB;rw[hB];clear b b2 x2 y2 f I A hB i;refine(qQi (n:=3)).1 ?_;refine callsIn_of_wp_marks func61 rfl trivial ?_ rfl;simp only[ntmps61,qQ2,qP4,qQy,Nat.reduceAdd,Nat.reduceSub,qR,qRa,qRb,qRc,qQm,qQs];gi_wp2_with fail;rw[HB.out,show(w.alloc (qp #[qZ yB 0 0] TPs)).alloc (qp #[qX qm 0] 26)=w2 from R.out];refine⟨trivial,(qQi.2 HP.out).mono ?_⟩;rintro e w4 ⟨rfl,rfl⟩;clear HP R;gi_wp2;refine zL9 (gf:=188) (lb:= #[qc (yA ⟨B+2,0,yB⟩)]) rfl (enters_of func188 zf rfl)
  (EP q z) (RP (B+3)) (fun _ t=>t=TPt\/t=TPs) (yO n)
  (fun _ _ h=>h.keeps)
  (fun _ _ _ h=>by obtain rfl:=h;rfl)
  (fun _ _ _ _ _ _ _ _ h=>h)
  (fun W hW=>zW8 (B+3) (B+2) q n z a HA.out _ (fun _=>qW) (fun _=>qW) qW W (by have:=hW.size;omega) ((hW.block _ za).trans X3.out))
  (fun pre W=>AI w W B (kN pre) (pre.map (zD2 q z)))
  (fun _ _ _=>False)
  (fun pre W k o o' hk ho a9 hi=>hi.put o' ho a9 za)
  (fun _ _ _ _ _ _ _ _ _ h=>h)
  (fun pre A D hi hr=>hi.rp hr za hi.size)
  (fun o o'=>a8.out.keep (((yR _ _).alloc (qPq _) o).alloc zm o'))
  (AJ w a B q z)
  (fun pre x vs ac W k o o' hk ho a9 h=>by
   obtain⟨L,h1,h2,h3⟩:=h;exact⟨L,h1,zBl h2 o' ho a9,h3.put o' ho a9 za⟩)
  ?assign ?body ?done ?stop
 case assign=>
  rintro k pre x W vs K a5 hi rfl y;obtain⟨Wc,j⟩:=zB (W.alloc (qp (LPt.cl (zD2 q z x)).toArray TPt));have d:yM W W Wc:=by rw[<-j];exact(yR _ _).alloc (qPq _) _
  have hX:Wc.heap[W.heap.size]? =yA (qp (LPt.cl (zD2 q z x)).toArray TPt):=by rw[<-j];exact zAh W _
  have G:=zH (fun ac h=>y ac Wc ⟨d.size,fun k o hk _=>(d.block k (zAd hk)).trans hk⟩ (Sc.below d) ⟨W.heap.size,h,hX,hi.keep d⟩);rw[qB0]at G⊢;obtain⟨s,u,pi,pj,r,hp⟩:=zK8 (zD2 q z x);rw[hp]at G j⊢;have a0:=yT (W.alloc (qp #[qY s,qX .u32 (xJ u),pi,pj,r] TPt)=Wc) j;unfold zZs zAx at G⊢;clear y hi hX d j hp;gi_wp2;rw[show W.alloc (qp #[qY s,qX .u32 (xJ u),pi,pj,r] TPt)=Wc from a0.out];exact G.out _ rfl
 case body=>
  rintro k pre x W vs ac a5 ⟨L,rfl,hL,hi⟩ Y;have aa:kN pre<n:=by have:=Y.length_le;rw[qP0,qQ9,qR8]at this;omega
  have hn:=HA.out.many;rw[qB0];obtain⟨s,u,pi,pj,r,hp⟩:=zK8 (zD2 q z x);rw[hp]at hL⊢;obtain⟨p,c,p1,c1,w1,w2,hb,hr,N,b,M,V,S⟩:=hi.push za ⟨s,u,pi,pj,r⟩ hL;rw[<-hp]at M;obtain⟨Z,O⟩:=yU M (yS V S);have x0:=hb.cell;have P:(Builtin.append_ #[TPs,TPs] TPs #[qZ p (kN pre) c,qZ (yA ⟨W,0,yB⟩) 1 1]).run yK (W.alloc (qp #[qY s,qX .u32 (xJ u),pi,pj,r] TPt))= .ok (qZ p1 (kN pre+1) c1) w1:=hr;have x1:=N.cell;have f1:=N.frozen;have y0:W.cell? ⟨L,0,yB⟩=yA (qY s):=by simp[yQ,hL,LPt]
  have y1:W.cell? ⟨L,1,yB⟩=yA (qX .u32 (xJ u)):=by simp[yQ,hL,LPt,zAx]
  have y2:W.cell? ⟨L,2,yB⟩=yA (qX qm (pi:Int)):=by simp[yQ,hL,LPt]
  have y3:W.cell? ⟨L,3,yB⟩=yA (qX qm (pj:Int)):=by simp[yQ,hL,LPt]
  have y4:W.cell? ⟨L,4,yB⟩=yA (qX qm (r:Int)):=by simp[yQ,hL,LPt]
  unfold zZs zAx;obtain⟨m,hm⟩:=zB (kN pre);rw[hm]at x0 x1 P b;have HM:=zH hm;clear hi hL hp hr M V S hm hb N;gi_wp2_with (gi_at_builtin;refine zLt rfl (.tmp 13) (.tmp 15) TPs rfl rfl rfl P ?_);refine⟨O.out.1,O.out.2,?_⟩;show AI w w2 B (kN (pre++[x])) ((pre++[x]).map (zD2 q z));rw[qP0,qR8,qQb,List.map_singleton];exact Z.out
 case done=>
  rintro D W hD hi y;rw[qQ9]at hi;obtain⟨p,c,hb,ho⟩:=hi.own;have x0:=hb.cell;have f0:=hb.frozen;have y0:=hi.err.cell;have g0:=hi.err.frozen;have hz:=hi.size;have H:=zH (yS hb (yS ho hi));clear hb ho hi;gi_wp2;have a4:B≠D:=by rintro rfl;rw[show W.heap[B]? =_ from H.out.1]at y;injection y with y;cases y
  have X:B+1≠D:=by rintro rfl;rw[show W.heap[B+1]? =_ from H.out.2.2.err]at y;injection y with y;cases y
  obtain⟨F,hF⟩:=zB ((W.setCell ⟨B,0,yB⟩ (qZ p n c)).setCell ⟨B+1,0,yB⟩ (qX qm 0));have l:F.heap[D]? =yA (qw (yA [])):=by rw[<-hF];exact(zAa (qQ4 X)).trans ((zAa (qQ4 a4)).trans y)
  have e1:Boxed F B TPs (qZ p n c):=by
   rw[<-hF];exact(zAa za).trans (zA3 0 (qZ p n c) H.out.1)
  have e2:Boxed F (B+1) 26 (qX qm 0):=by
   rw[<-hF];exact zA3 0 (qX qm 0) ((zAa za).trans H.out.2.2.err)
  have e3:yx LPt F (B+2) TPt p n c ((yO n).map (zD2 q z)):=by
   obtain⟨h3,h4⟩:=H.out.2.1;refine⟨h3,?_⟩;rcases h4 with h4|⟨g,a7,a1,hv,a2,a3,r⟩
   .exact qz h4
   .exact qy ⟨g,a7,a1,hv,a2,by rw[<-hF];exact(zAa za).trans ((zAa za).trans a3),r⟩
  have e4:yM B w F:=by rw[<-hF];exact(H.out.2.2.below.setCell (p:=⟨B,0,yB⟩) (qPq _) _).setCell (p:=⟨B+1,0,yB⟩) (qRu _) _
  have a6:B<=F.heap.size:=by rw[<-hF];simp;omega
  rw[hF];refine⟨zm,qz ⟨_,_,rfl,run_takeDeferred l,?_⟩⟩;have r1:=Boxed.cell (show Boxed (F.putObj D (qw yB)) B TPs (qZ p n c)from zBl e1 (qw yB) l rfl);have r2:=Boxed.cell (show Boxed (F.putObj D (qw yB)) (B+1) 26 (qX qm 0)from zBl e2 (qw yB) l rfl);refine⟨qg #[qZ p n c,qX qm 0],?_,p,c,rfl,(zQy e3 _ l rfl).base za,Rle.zAu _ e4 l za a6⟩;simp[results,f61,go_sem,r1,r2]
 case stop=>
  rintro D c pre W hD _ h _;exact h.elim
end Sm
namespace Sm
open Bt Front Wg St Tn
theorem rd5 {w:yC} {p:Option yF} {l:List Pt} (h:Kit.Rd LPt w p l) (k:Nat) (x:Pt) (d:l[k]? =yA x):∃g a,p=yA ⟨g,a,yB⟩/\w.cell? ⟨g,a+k*5,yB⟩=yA (qY x.s)/\w.cell? ⟨g,a+k*5+1,yB⟩=yA (zAx x.u)/\
  w.cell? ⟨g,a+k*5+2,yB⟩=yA (qX qm (x.i:Int))/\w.cell? ⟨g,a+k*5+3,yB⟩=yA (qX qm (x.j:Int))/\w.cell? ⟨g,a+k*5+4,yB⟩=yA (qX qm (x.r:Int)):=by
 obtain⟨g,a,c,b⟩:=h k x d;exact⟨g,a,c,b 0 qW,b 1 qW,b 2 qW,b 3 qW,b 4 qW⟩
theorem zZ3 (a n:Nat) (b:List T) (k:Nat) (c:k<n):((yO n).map (zD2 a b))[k]? =yA (zD2 a b k):=by
 rw[qP3,qSe c];rfl
theorem zZq (z n:Nat) (q:List T) (a:ByteArray) (A:Arc z q a n) (hl:kN q.flatten<=1000000) (w:yC):
  yG yK 14 #[qY a] w fun e w'=>e=qx (qg #[qY ⟨q.flatten.toArray⟩,qX qm 0])/\yM w w w':=by
 have N:=zH (zYp z n q a A w);have hn:=A.many;have HN:=zH A.len;clear A;go_enter func14,ntmps14;go_wp2_with fail;(with_reducible refine N.out.mono ?_);rintro e y ⟨p,c,rfl,ho,hb⟩;have a3:n<=c\/n=0:=by
  rcases qQz n with h|h
  .exact qy h
  .obtain⟨_,_,_,_,h⟩:=ho.at_ h;exact qz h
 obtain⟨b,B⟩:=zB y.heap.size;obtain⟨w2,o⟩:=zB (y.alloc (qp #[qc yB,qZ yB 0 0] Rle.TB));have G:=yT (kG w2 b b []) (by rw[<-o,<-B];exact Rle.Bld.new y);have R:=yT (yM b y w2) (by rw[<-o,<-B];exact(yR _ _).alloc (qPq _) _);obtain⟨a2,Y,f,X⟩:=yX ho.rd hb B o;have a1:w.heap.size<=b:=by have:=hb.size;omega
 clear ho hb B o N;go_wp2;rw[f.out,show y.alloc (qp #[qc yB,qZ yB 0 0] Rle.TB)=w2 from X.out];go_loopw [16] (fun iv wr=>∃k:Nat,k<=n/\iv=qX qm k/\yL (kG wr b b (q.take k).flatten)/\yL (yM b y wr)) (fun iv _=>n-(intOf iv).toNat)
 case atStart=>exact⟨0,qQl _,rfl,G,R⟩
 case round=>
  clear G R;obtain⟨k,hk,rfl,m,d⟩:=hrel;by_cases a0:k<n
  .obtain⟨g,off,rfl,e0,e1,e2,e3,e4⟩:=rd5 (a2.out.below d.out f.out.symm) k _ (zZ3 z n q k a0);have hx:=HN.out;have O:k<kN q:=za
   have t:(q.take (k+1)).flatten=(q.take k).flatten++q.getD k []:=by
    rw[qQp O,qR0,qPz,qPu O];simp
   have L:(q.take (k+1)).flatten.length<=kN q.flatten:=by
    have:=qPs List.length (qPs List.flatten (qSa (k+1) q));rw[qR0,qP0]at this;omega
   rw[t,qP0]at L;obtain⟨x,K⟩:=zB (q.getD k []);obtain⟨s,u,i,j,r,hp⟩:=zK8 (zD2 z q k);have hs:s=xB x:=by rw[<-K];exact(qPs Pt.s hp).symm
   rw[hp]at e0 e1 e2 e3 e4;simp only at e0 e1 e2 e3 e4;rw[K]at t L;have V:s.size=kN x:=by rw[hs,x9]
   have a4:n<=c:=za
   obtain⟨W,hW⟩:=zB (wr.alloc (qp #[qY s,zAx u,i,j,r] TPt));have I:yM b y W:=by rw[<-hW];exact d.out.alloc (by have:=d.out.size;have:=f.out;omega) _
   have P:=yT (kG W b b (q.take k).flatten) (by rw[<-hW];exact m.out.alloc _);obtain⟨M,F,HW⟩:=yV (Rle.zB8 b b (q.take k).flatten s W P.out za (by have:=I.size;have:=f.out;omega)) I hW;have HT:=yT ((q.take (k+1)).flatten=(q.take k).flatten++s.data.toList) (by rw[t,hs,kF]);unfold zAx at e1 HW;clear m d hx t L K hp hs V I hW;go_wp2_with fail;rw[show wr.alloc (qp #[qY s,qX .u32 (xJ u),i,j,r] TPt)=W from HW.out];(with_reducible refine M.out.mono ?_);rintro e w5 ⟨rfl,H,l,_,_⟩;obtain⟨Z,B5⟩:=yU H (F.out.trans l);clear H l M P F HW e0 e1 e2 e3 e4;go_wp2;go_roundw
   case rel=>exact⟨k+1,za,by go_num,by rw[HT.out];exact Z,B5⟩
   case measure=>exact z8
  .obtain rfl:k=n:=za
   obtain⟨S,F⟩:=yU (Rle.zD0 b b (q.take k).flatten wr m.out (by have:=d.out.size;have:=f.out;omega)) d.out;clear m d;go_wp2_with fail;(with_reducible refine S.out.mono ?_);rintro e w5 ⟨rfl,l,_⟩;have B5:=zH (F.out.trans l);clear l S;go_wp2;go_ret2;refine⟨?_,Y.out.trans (B5.out.mono a1)⟩;rw[qQc (by rw[HN.out];exact qPq _)];rfl
end Sm
namespace Sm
open Bt Zr Front Sq Tn Rg
variable {b:Nat} {A B:yC}
structure RV (b:Nat) (A B:yC):Prop where
 old:∀(k:Nat) (o:Obj),A.heap[k]? =yA o->k≠b->B.heap[k]? =yA o
 below:yM b A B
 keeps:KeepsOthers A B
theorem RV.trans {C:yC} (h:RV b A B) (g:RV b B C):RV b A C:=⟨fun k o c a=>g.old k o (h.old k o c a) a,h.below.trans g.below,h.keeps.trans g.keeps⟩
theorem RV.of_below (h:yM A A B) (c:b<=A.heap.size):RV b A B:=⟨fun k o a _=>(h.block k (zAd a)).trans a,h.mono c,⟨h.size,fun k o a _=>(h.block k (zAd a)).trans a⟩⟩
theorem RV.set {t:yE} {u:yD} (c:Boxed A b t u) (v:yD):RV b A (A.setCell ⟨b,0,yB⟩ v):=⟨fun k o a c=>(zAa c).trans a,(yR _ _).setCell (p:=⟨b,0,yB⟩) (qPq _) v,
 ⟨zm,fun k o a d=>(zAa (fun e=>by subst e;rw[show A.heap[k]? =_ from c]at a;injection a with a;subst a;cases d)).trans a⟩⟩
def EC (p:T) (_:yC) (a:Array yD):Prop:=a= #[qY (xB p)]
theorem qBa (b z q:Nat) (x:T) (hx:kN x<=100000) (h1:1<=q) (h9:q<=9) (hne:z≠b) (C:Nat->yE->Prop) (a0:¬C b 9) (a1:¬C z 3) (W:yC) (c:Boxed W b 9 (qY (xB x))) (f:Boxed W z 3 (qX qm (q:Int))):
  qBt yK 133 #[qc (yA ⟨b,0,yB⟩),qc (yA ⟨z,0,yB⟩)] EC (RV b) C (pcs (40*q) x) W:=by
 intro l J Jx hJ hY h0;refine qS8 func133 rfl trivial ?_ rfl;simp only[ntmps133,qQ2,qP4,qQy,Nat.reduceAdd,Nat.reduceSub,qR,qRa,qRb,qRc,qQm,qQs];obtain⟨H,L,HJ,HY,H0⟩:=yY c f hJ hY h0;obtain⟨a,d⟩:=zB (40*q);have a4:IntKind.i64.wrap ((q:Int)*40)=(q:Int)*40:=qQa _ ⟨za,za⟩;have R:1<=a:=za
 have i:=zH d;rw[d];rw[d]at HY;clear c f hJ hY h0 d;gi_wp2;gi_loopw [5] (fun _ wr=>∃(pre:List T) (r:T),yL (pcs a x=pre++pcs a r)/\kN r<=kN x/\yL (Boxed wr b 9 (qY (xB r)))/\yL (Boxed wr z 3 (qX qm (q:Int)))/\yL (J pre wr))
  (fun _ wr=>Rle.zHd b wr)
 case atStart=>exact⟨[],x,zH rfl,qPq _,H,L,H0⟩
 case round=>
  clear H L H0;obtain⟨pre,r,g,a8,c,f,hj⟩:=hrel;have c0:=c.out.cell;have f0:=c.out.frozen;have c1:=f.out.cell;by_cases Z:r=[]
  .subst Z;have he:xB []=(⟨#[]⟩:ByteArray):=by unfold xB;rfl
   rw[he]at c0;clear he;gi_wp2;go_end0;exact⟨⟨_,rfl⟩,qz (by have h:=g.out;rw[zB6,qQv]at h;rw[h];exact hj.out)⟩
  .obtain⟨k,hk⟩:=zB (Rle.cut r a);have o:=zBq a r Z R;have u:=Rle.zJ2 r a Z za;have s:=Rle.qGb r a;rw[hk]at o u s;obtain⟨t,V⟩:=zB (xB r);have G:t.size=kN r:=by rw[<-V,x9]
   have a3:t.toList.isEmpty=yI:=by rw[qTa,<-V,kF];cases r with
    |nil=>exact absurd rfl Z
    |cons y r=>rfl
   have a9:t.extract 0 k=xB (r.take k):=by rw[<-V,Rle.zNx]
   have a5:t.extract k t.size=xB (r.drop k):=by rw[<-V,Rle.zT7]
   have a7:(k:Int)<=(t.size:Int):=za
   have F:=yT (yG yK 134 #[qY t,qX qm ((q:Int)*40)] wr fun e w'=>e=qx (qX qm (k:Int))/\yM wr wr w') (by
    have h:=Rle.qEj t ((q:Int)*40) za za za wr;have P:t.data.toList=r:=by rw[<-V,kF]
    rw[P,show(q:Int)*40=(a:Int)by have:=i.out;omega,hk]at h;rw[show(q:Int)*40=(a:Int)by have:=i.out;omega];exact h)
   rw[V]at c0;obtain⟨B,HT,HK⟩:=yV o (yS V G) (yS u s);have a6:(0:Int)<=(k:Int):=za
   have a2:t.size<=100000:=za
   clear o hk V G u s;gi_wp2_with fail;refine⟨trivial,(qQi.2 F.out).mono ?_⟩;rintro e w1 ⟨rfl,j⟩;have p:=c.out.lt;have X1:=yT (Boxed w1 b 9 (qY t)) (by rw[<-HT.out.1];exact(j.block b p).trans c.out);have L1:=yT (Boxed w1 z 3 (qX qm (q:Int))) ((j.block z f.out.lt).trans f.out);have I:=HJ.out _ _ _ hj.out (RV.of_below j (qP7 p));have w:pre++[r.take k]<+:pcs a x:=⟨pcs a (r.drop k),by rw[g.out,B.out,qQr];rfl⟩;obtain⟨fn,tmps,assign,body,hy,hR⟩:=HY.out pre (r.take k) w1 #[qY (xB (r.take k))] I rfl w;obtain⟨HR,O⟩:=yU hR w;have K:Rle.zHd b wr=t.size:=by rw[<-HT.out.1];exact Rle.zGn c.out
   have S:=zH K;have c2:=X1.out.cell;clear j I hR w K c f hj c0 f0 c1 F p;gi_wp2;refine HR.out.mono ?_;rintro e X (⟨rfl,M,m⟩|⟨rfl,n⟩)
   .have Y:=m.2 _ _ _ _ X1.out a0;have L3:=m.2 _ _ _ _ L1.out a1;have c3:=Boxed.cell (show Boxed X b 9 (qY t)from Y);have f3:=Boxed.frozen (show Boxed X b 9 (qY t)from Y);have X4:=yT (Boxed (X.setCell ⟨b,0,yB⟩ (qY (xB (r.drop k)))) b 9 (qY (xB (r.drop k)))) (zA3 0 _ Y);have L4:=yT (Boxed (X.setCell ⟨b,0,yB⟩ (qY (xB (r.drop k)))) z 3 (qX qm (q:Int))) ((zAa hne).trans L3);have J4:=zH (HJ.out _ _ _ M (RV.set (show Boxed X b 9 (qY t)from Y) (qY (xB (r.drop k)))));clear M m hy Y L3 c2;gi_wp2;go_roundw
    case rel=>
     refine⟨pre++[r.take k],r.drop k,zH ?_,by rw[qQo];omega,X4,L4,J4⟩;rw[g.out,B.out,qQr];rfl
    case measure=>
     rw[S.out,Rle.zGn X4.out,x9,qQo];have:=HK.out;have:=HT.out.2;omega
   .have N:=zH (yS O.out n);clear n hy c2;gi_wp2;refine qP5 (qSx rfl _ _ _) rfl ?_;exact⟨⟨_,rfl⟩,qy ⟨_,N.out⟩⟩
end Sm
end Go.Proofs.YtppnakkaljbmbaaGreatDoor
