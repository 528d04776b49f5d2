/- Steps of a proof; no condition beyond what each states. -/
import Derived.Test.YtppnakkaljbmbaaGreatDoorZX00
import Derived.Test.YtppnakkaljbmbaaGreatDoorZX21
set_option linter.unusedVariables false
set_option linter.unusedSimpArgs false
set_option maxRecDepth 100000
set_option maxHeartbeats 8000000
open List renaming length->kG
open Go.RowKit
open Go.Proofs.Tryz
open Go.Value renaming int->qV,string->qW,slice->qX,pointer->qY,tuple->qZ
open Go.IntKind renaming i64->qj,u8->ql
open Go.Obj renaming cells->qm,deferred->qo
open Go.Ending renaming returned->qp
open Option renaming some->qw,none->qx
open Go renaming World->qy,Value->qz,TypeId->yA,Addr->yB,Calls->yC,undef->yJ
open Bool renaming true->yD,false->yE
open Go.Proofs.Tryz renaming prog->yG
open Go.RowKit renaming Hid->yH,Below->yI
open List renaming range->yK,replicate->yL
open Go.RowKit.Below renaming refl->yN
open And renaming intro->yO
namespace Go.Proofs.YtppnakkaljbmbaaGreatDoor
namespace Rle
open Go.Shelf
variable {o:Obj} {A C:qy} {B b k l:Nat} {v:qz} {t:yA}
attribute [local go_sem] Oper.semAt_some
theorem zW7 (x:T) (h:kG x<4):pk1 x=x:=by unfold pk1;rw[qPr h]
theorem zZz (x:T) (h:¬kG x<4):pk1 x=x.take 4++[UInt8.ofNat (kG x-4)]:=by unfold pk1;rw[qPt h]
theorem zZ4 (pre:List T):kG (pre.flatMap pk1)=lens pre:=by
 unfold lens;rw[List.length_flatMap];congr 1;exact qRx fun p _=>zMc p
theorem zOn (h:o.isCells=yE):∀t,∀c a,o≠qm c t a:=by
 rintro t c a rfl;cases h
theorem Bld.zLc {l:T} (h:Bld A B b l) (a:Boxed A k t v) (f:t≠TB) (g:t≠TY) (i:zJd k A C):Bld C B b l:=by
 rcases i with⟨n,rfl⟩|⟨u,rfl⟩
 ·exact h.kept (row:=qx) ⟨rfl,rfl,rfl,qPq _,fun _ _ _=>rfl⟩ (fun r e=>by cases e)
 ·refine h.kept (row:=qw k) (grownBy_setCell' A k u) (fun r e=> ?_);cases e;refine⟨_,a,?_,?_⟩
  ·intro c d e;injection e with _ e2 _;exact f e2
  ·intro c d e;injection e with _ e2 _;exact g e2
theorem qBg (a:Boxed A k t v) (c:zJd k A C):∃u,Boxed C k t u:=by
 rcases c with⟨n,rfl⟩|⟨u,rfl⟩
 ·exact⟨v,a⟩
 ·exact⟨u,a.set u⟩
theorem qEb (e:Obj) (a:Boxed A k t v) (c:A.heap[l]? =qw o) (d:o.isCells=yE):Boxed (A.putObj l e) k t v:=by
 refine(World.putObj_heap_other ?_).trans a;rintro rfl;rw[show A.heap[k]? =_ from a]at c;obtain rfl:=qPv c;cases d
theorem Bld.put {m:T} (c:Obj) (h:Bld A B b m) (d:A.heap[l]? =qw o) (a:o.isCells=yE):Bld (A.putObj l c) B b m:=
 h.kept (grownBy_putObj' A l c) (fun r e=>by cases e;exact⟨o,d,zOn a _,zOn a _⟩)
theorem Bld.alloc {m:T} (h:Bld A B b m) (o:Obj):Bld (A.alloc o) B b m:=
 h.kept (qR4 A o qx) (fun r e=>by cases e)
theorem zR8 (s:ByteArray) (hs:s.size<=100000) (w:qy):
  yC yG 18 #[qW s] w fun e w'=>e=qp (qW (bs (pack s.data.toList)))/\yI w.heap.size w w':=by
 refine(qQj (n:=3)).1 ?_;refine callsIn_of_wp_marks func18 rfl trivial ?_ rfl;simp only[ntmps18,qQ0,qP3,qQx,Nat.reduceAdd,Nat.reduceSub,qQ9,qR,qRa,qRb,qQl,qQr];gi_wp2_with fail;refine⟨trivial,(qQj.2 (zHt s _)).mono ?_⟩;rintro e w1 ⟨rfl,rfl⟩;gi_wp2;have hv:=(Bld.new w).alloc (qm #[qW s] 9);have d:=Boxed.new (w.alloc (qm #[qY qx,qX qx 0 0] 120)) 9 (qW s);obtain⟨W0,g⟩:=zB ((w.alloc (qm #[qY qx,qX qx 0 0] 120)).alloc (qm #[qW s] 9));have ac:W0.heap.size=w.heap.size+2:=by rw[<-g];simp
 have N:yI w.heap.size w W0:=by rw[<-g];exact((yN _ w).alloc (qPq _) _).alloc zm _
 rw[g]at hv d⊢;rw[qTr]at d;obtain⟨q,H,a2⟩:=yR hv d N;have k:=(zBu s.data.toList).1;rw[zAl]at k;have a6:Len s.data.toList<=125000:=za
 have hn:w.heap.size≠w.heap.size+1:=za
 clear hv d N g k;refine zDt (gf:=149) (lb:= #[qY (qw ⟨w.heap.size+1,0,qx⟩)]) rfl (enters_of func149 zf rfl) (fun p:T=>qW (bs p)) (w.heap.size+1) za (pcs s.data.toList)
  (fun W hW=>zHs _ s hs W ((hW.block _ za).trans H.out))
  (fun pre W=>Bld W w.heap.size w.heap.size (pre.flatMap pk1)/\(∃v,Boxed W (w.heap.size+1) 9 v)/\yI w.heap.size w W/\W0.heap.size<=W.heap.size)
  (fun _ _ _=>False)
  (fun pre W l o z hl y hc hi=>⟨hi.1.put z y hc,⟨hi.2.1.choose,qEb z hi.2.1.choose_spec y hc⟩,zAu z hi.2.2.1 y za za,by rw[World.putObj];simpa using hi.2.2.2⟩)
  (fun _ _ _ _ _ _ _ _ _ h=>h)
  (fun pre A B hi y=>⟨hi.1.zLc hi.2.1.choose_spec z8 z8 y,qBg hi.2.1.choose_spec y,zIh hi.2.2.1 y za,qP4 hi.2.2.2 y.keeps.size⟩)
  (fun o z=>⟨(q.out.alloc o).alloc z,⟨_,(H.out.alloc o).alloc z⟩,(a2.out.alloc za o).alloc zq z,zq⟩)
  (fun x=>{tmps:= #[qW s,yJ,qW ⟨#[]⟩,qY (qw ⟨w.heap.size,0,qx⟩),qW (bs x),qW s,.func (.func 149) #[] #[qY (qw ⟨w.heap.size+1,0,qx⟩)],qW (bs x),yJ,yJ,yJ,yJ,yJ,yJ,yJ,yJ,yJ,yJ,yJ,yJ,yJ,yJ,yJ],defers:=[]}) ?assign ?body ?done ?stop
 case assign=>
  intro l x W K hK;gi_wp2;exact hK
 case body=>
  rintro l pre x W ab ⟨hv,⟨u,f⟩,hB,hz⟩ a1;obtain⟨f1,f2,f3,f4⟩:=zGy a1;have aa:=zCh x;have L:=zZ4 pre;have R:kG (pre.flatMap pk1)<=125000:=by rw[L];omega
  have r:(pre++[x]).flatMap pk1=pre.flatMap pk1++pk1 x:=by simp
  obtain⟨M,hM,a7,a8,t⟩:=Kit.zJ3 (kG x) 4 4 rfl;have a9:min (kG x:Int) 4=(M:Int):=by have:=t.out;omega
  have X:(bs x).extract 0 M=bs (x.take M):=zNx x M;have ad:(bs (x.take M)).size<=4:=by rw[zCh,qQh];omega
  obtain⟨q,a,V,m,F⟩:=yT hv f X r R;clear f3 f4 hv f X r L R;by_cases h4:kG x<4
  ·gi_wp2_with fail;rw[V.out];refine⟨trivial,(CallsIn.inRound l (qQj.2 (zB8 w.heap.size w.heap.size _ (bs (x.take M)) W q.out (by have:=F.out;omega) za))).mono ?_⟩;rintro e w1 ⟨rfl,h1,I,b,G⟩;gi_wp2;refine⟨q.out.keeps b G,zDg b a.out za z8,?_,⟨u,(zDg b a.out za z8).trans a.out⟩,hB.trans I,za⟩;rw[m.out,zW7 x h4];rw[zBk,qQg (by have:=t.out;omega)]at h1;exact h1
  ·have P:((kG x:Int)-4)=((UInt8.ofNat (kG x-4)).toNat:Int):=by rw[UInt8.toNat_ofNat'];omega
   have a4:=zH P;clear P;gi_wp2_with fail;rw[V.out];refine⟨trivial,(CallsIn.inRound l (qQj.2 (zB8 w.heap.size w.heap.size _ (bs (x.take M)) W q.out (by have:=F.out;omega) za))).mono ?_⟩;rintro e w1 ⟨rfl,h1,I,b,G⟩;have a0:=zDg b a.out za z8;have O:kG ((pre.flatMap pk1)++(bs (x.take M)).data.toList)+1<=1000000000:=by rw[qPx,zAl];have:=F.out;omega
   obtain⟨H1,S,a5⟩:=yR h1 a0 O;clear h1 a0 O;gi_wp2_with fail;rw[a4.out];refine⟨trivial,(CallsIn.inRound l (qQj.2 (zE7 w.heap.size w.heap.size _ (UInt8.ofNat (kG x-4)) w1 H1.out a5.out za))).mono ?_⟩;rintro e w2 ⟨rfl,h2,j,i,a3⟩;have Z:w2.heap[w.heap.size+1]? =W.heap[w.heap.size+1]? :=(zDg i (S.out.trans a.out) za z8).trans S.out;gi_wp2;refine⟨(q.out.keeps b G).trans (H1.out.keeps i a3),Z,?_,⟨u,Z.trans a.out⟩,(hB.trans I).trans j,za⟩;rw[m.out,zZz x h4];rw[zBk,show M=4 from by have:=t.out;omega,qQw]at h2;exact h2
 case done=>
  rintro D W hD ⟨hv,⟨u,f⟩,hB,hz⟩ hK;have q:=zH hv;clear hv;gi_wp2_with fail;refine⟨trivial,(qQj.2 (zD0 w.heap.size w.heap.size _ W q.out za)).mono ?_⟩;rintro e w2 ⟨rfl,j,i⟩;have Y:=i D _ hK (by intro e;injection e with e;omega) (by intro c fz e;cases e);gi_wp2;refine⟨zm,.inl ⟨_,_,rfl,run_takeDeferred Y,?_⟩⟩;refine⟨_,results_tmp rfl _ _ _,?_,zAu _ (hB.trans j) Y za (by have:=(hB.trans j).size;omega)⟩;rw[<-qCh];rfl
 case stop=>
  rintro D c pre W _ _ h _;exact h.elim
end Rle
namespace Rle
open Go.Shelf
variable {room:Int}
attribute [local go_sem] Oper.semAt_some
def sl (pre:List T):Nat:=(pre.map List.length).sum
theorem zTf (pre:List T) (x:T):sl (pre++[x])=sl pre+kG x:=by unfold sl;simp
theorem zWv (s:T):sl (pcs s)=kG s:=by
 have:=qPs List.length (zHv s);rw[List.length_flatten]at this;exact this
theorem zL:∀(pre:List T) (s x:T),pre++[x]<+:pcs s->s.drop (sl pre)≠[]/\zAi (s.drop (sl pre))=kG x
 |[],s,x,h=>by
  have a:s≠[]:=by
   rintro rfl;rw[zB6]at h;have:=h.length_le;simp at this
  rw[zBq s a]at h;have e:x=s.take (zAi s):=by
   obtain⟨t,b⟩:=h;simp at b;exact b.1
  refine⟨by simpa [sl]using a,?_⟩;rw[e,zDo];simp[sl]
 |p::pre,s,x,h=>by
  have a:s≠[]:=by
   rintro rfl;rw[zB6]at h;have:=h.length_le;simp at this
  rw[zBq s a,qQr,List.cons_prefix_cons]at h;have c:=zL pre (s.drop (zAi s)) x h.2;have e:sl (p::pre)=zAi s+sl pre:=by
   unfold sl;rw[qQa,qRc,h.1,zDo]
  rw[e,<-List.drop_drop];exact c
def zEg (s:T) (room:Int) (pre:List T):Prop:=cut s room=sl pre+cut (s.drop (sl pre)) (room-lens pre)/\ -9223372036854775808<=room-lens pre
theorem zEg.start (s:T) (room:Int) (h: -9223372036854775808<=room):zEg s room []:=⟨by simp[sl,lens],by simpa [lens]using h⟩
theorem zEg.step {s:T} {pre:List T} {x:T} (h:zEg s room pre) (d:pre++[x]<+:pcs s) (c:(zAv (kG x):Int)<=room-lens pre):zEg s room (pre++[x]):=by
 obtain⟨b,a⟩:=zL pre s x d;obtain⟨e,f⟩:=h;refine⟨?_,?_⟩
 ·rw[e,zLn _ _ b (by rw[a];exact c),a,List.drop_drop,zTf,zGm];rw[show room-(lens pre:Int)-(zAv (kG x):Int)=room-((lens pre+zAv (kG x):Nat):Int)from za];omega
 ·rw[zGm];omega
theorem zEg.stop {s:T} {pre:List T} {x:T} (h:zEg s room pre) (d:pre++[x]<+:pcs s) (c:¬(zAv (kG x):Int)<=room-lens pre):cut s room=sl pre+min (min (max (room-lens pre) 0).toNat 3) (kG x):=by
 obtain⟨b,a⟩:=zL pre s x d;rw[h.1,zGq _ _ b (by rw[a];exact c),a]
theorem zEg.all {s:T} (h:zEg s room (pcs s)):cut s room=kG s:=by
 rw[h.1,zWv,List.drop_length,zNu];omega
theorem qEj (s:ByteArray) (room:Int) (hs:s.size<=100000) (a0: -9223372036854775808<=room) (a8:room<=9223372036854775807) (w:qy):
  yC yG 134 #[qW s,qV qj room] w fun e w'=>e=qp (qV qj (cut s.data.toList room:Int))/\yI w.heap.size w w':=by
 refine(qQj (n:=3)).1 ?_;refine callsIn_of_wp_marks func134 rfl trivial ?_ rfl;simp only[ntmps134,qQ0,qP3,qQx,Nat.reduceAdd,Nat.reduceSub,qQ9,qR,qRa,qRb,qQl,qQr];gi_wp2_with fail;refine⟨trivial,(qQj.2 (zHt s _)).mono ?_⟩;rintro e w1 ⟨rfl,rfl⟩;gi_wp2;have b:=((Var.new w (qV qj room) 3).alloc (qm #[qV qj 0] 3)).alloc (qm #[qW s] 9);have a:=(Var.new (w.alloc (qm #[qV qj room] 3)) (qV qj 0) 3).alloc (qm #[qW s] 9);have f:=Boxed.new ((w.alloc (qm #[qV qj room] 3)).alloc (qm #[qV qj 0] 3)) 9 (qW s);obtain⟨W0,i⟩:=zB (((w.alloc (qm #[qV qj room] 3)).alloc (qm #[qV qj 0] 3)).alloc (qm #[qW s] 9));have aa:W0.heap.size=w.heap.size+3:=by rw[<-i];simp
 have H:yI w.heap.size w W0:=by rw[<-i];exact(((yN _ w).alloc (qPq _) _).alloc zm _).alloc zq _
 rw[i]at b a f⊢;simp only[qTr]at f a;obtain⟨r,j,N,P⟩:=yS b a f H;have m:=(zBu s.data.toList).1;rw[zAl]at m;have a1:Len s.data.toList<=125000:=za
 have n3:w.heap.size≠w.heap.size+1+1:=za
 have n4:w.heap.size+1≠w.heap.size+1+1:=za
 have I:w.heap.size≠w.heap.size+1:=za
 clear b a f H i m;refine zDt (gf:=149) (lb:= #[qY (qw ⟨w.heap.size+1+1,0,qx⟩)]) rfl (enters_of func149 zf rfl) (fun p:T=>qW (bs p)) (w.heap.size+1+1) za (pcs s.data.toList)
  (fun W hW=>zHs _ s hs W ((hW.block _ za).trans N.out))
  (fun pre W=>Var W w.heap.size (qV qj (room-lens pre))/\Var W (w.heap.size+1) (qV qj (sl pre:Int))/\yI w.heap.size w W/\W0.heap.size<=W.heap.size/\zEg s.data.toList room pre)
  (fun c pre W=>c= .ret/\Var W (w.heap.size+1) (qV qj (cut s.data.toList room:Int))/\yI w.heap.size w W/\W0.heap.size<=W.heap.size)
  (fun pre W l o z hl y hc hi=>⟨hi.1.put z y hc,hi.2.1.put z y hc,zAu z hi.2.2.1 y za za,by rw[World.putObj];simpa using hi.2.2.2.1,hi.2.2.2.2⟩)
  (fun c pre W l o z hl y hc hi=>⟨hi.1,hi.2.1.put z y hc,zAu z hi.2.2.1 y za za,by rw[World.putObj];simpa using hi.2.2.2⟩)
  (fun pre A B hi y=>⟨hi.1.zLc y n3,hi.2.1.zLc y n4,zIh hi.2.2.1 y za,qP4 hi.2.2.2.1 y.keeps.size,hi.2.2.2.2⟩)
  (fun o z=>⟨by simpa [lens]using(r.out.alloc o).alloc z,by simpa [sl]using(j.out.alloc o).alloc z,(P.out.alloc za o).alloc zq z,zq,zEg.start _ _ a0⟩)
  (fun x=>{tmps:= #[qW s,qV qj room,yJ,qY (qw ⟨w.heap.size,0,qx⟩),qY (qw ⟨w.heap.size+1,0,qx⟩),qW (bs x),yJ,qW s,.func (.func 149) #[] #[qY (qw ⟨w.heap.size+1+1,0,qx⟩)],qW (bs x),yJ,yJ,yJ,yJ,yJ,yJ,yJ,yJ,yJ,yJ,yJ,yJ,yJ,yJ,yJ,yJ,yJ,yJ,yJ,yJ,yJ],defers:=[]}) ?assign ?body ?done ?stop
 case assign=>
  intro l x W K Z;gi_wp2;exact Z
 case body=>
  rintro l pre x W a9 ⟨b,a,hB,hz,hcut⟩ h;obtain⟨f1,f2,f3,f4⟩:=zGy h;have a2:=zCh x;have f5:sl pre+kG x<=kG s.data.toList:=f4;rw[zAl]at f5;have Y:=hcut.2;have X:room-(lens pre:Int)<=9223372036854775807:=za
  obtain⟨R,hR⟩:=zB (room-(lens pre:Int));rw[hR]at b Y X;have a3:=b.cell;have a5:=b.free;have a4:=a.cell;have a6:=a.free;obtain⟨r,j,HR,u⟩:=yS b a hR hcut;have S:=zTl (kG x);obtain⟨pl,g⟩:=zB (zAv (kG x));have d:=zH g;rw[g]at S;clear f3 f4 b a hR hcut g;by_cases L:(pl:Int)<=R
  ·gi_wp2_with fail;refine⟨trivial,(CallsIn.inRound l (qQj.2 (zH3 (kG x) za _))).mono ?_⟩;rintro e w1 ⟨rfl,rfl⟩;rw[d.out];gi_wp2;have v3:=(r.out.set (qV qj (R-(pl:Int)))).other (c:=w.heap.size+1) (qV qj ((sl pre:Int)+(kG x:Int))) I;have v4:=(j.out.other (c:=w.heap.size) (qV qj (R-(pl:Int))) (qQ2 I)).set (qV qj ((sl pre:Int)+(kG x:Int)));refine⟨(KeepsOthers.setCell _ _ _).trans (KeepsOthers.setCell _ _ _),?_,?_,?_,?_,?_,?_⟩
   ·exact(Below.heap_setCell _ _ _ _ (qQ2 n4)).trans (Below.heap_setCell _ _ _ _ (qQ2 n3))
   ·rw[zGm,d.out,qTq,<-Int.sub_sub,HR.out];exact v3
   ·rw[zTf,qTq];exact v4
   ·exact(hB.setCell (p:=⟨w.heap.size,0,qx⟩) (qPq _) _).setCell (p:=⟨w.heap.size+1,0,qx⟩) zm _
   ·simp[World.setCell];exact hz
   ·exact u.out.step h (by rw[d.out,HR.out];exact L)
  ·gi_wp2_with fail;refine⟨trivial,(CallsIn.inRound l (qQj.2 (zH3 (kG x) za _))).mono ?_⟩;rintro e w1 ⟨rfl,rfl⟩;rw[d.out];obtain⟨q,hq⟩:∃q:Nat,max R 0=(q:Int):=qT4 za;obtain⟨q3,a7,_,_,O⟩:=Kit.zJ3 q 3 3 rfl;have k:=u.out.stop h (by rw[d.out,HR.out];omega);have t:(sl pre:Int)+(q3:Int)=(cut s.data.toList room:Int):=by
    rw[k,HR.out,O.out];have e1:(max R 0).toNat=q:=za
    rw[e1];have e2:pl=kG x\/(pl=5/\4<=kG x):=by
     rw[<-d.out];unfold zAv;split<;>omega
    omega
   have M:=zH t;clear t k;gi_wp2;rw[M.out];exact⟨KeepsOthers.setCell _ _ _,rfl,j.out.set _,hB.setCell (p:=⟨w.heap.size+1,0,qx⟩) zm _,by simp[World.setCell];exact hz⟩
 case done=>
  rintro D W hD ⟨b,a,hB,hz,hcut⟩ Z;have hc:=a.cell;have hf:=a.free;have HV:=zH a;clear b a;gi_wp2;have F:=(KeepsOthers.setCell W ⟨w.heap.size+1,0,qx⟩ (qV qj (sl (pcs s.data.toList):Int))).same D _ Z rfl;refine⟨zm,.inl ⟨_,_,rfl,run_takeDeferred F,?_⟩⟩;have V:=(HV.out.set (qV qj (sl (pcs s.data.toList):Int))).put (qo qx) F rfl;have G:=V.cell;refine⟨qV qj (cut s.data.toList room:Int),?_,rfl,?_⟩
  ·rw[hcut.all,<-zWv];simp[results,f134,go_sem,G]
  ·exact zAu _ (hB.setCell (p:=⟨w.heap.size+1,0,qx⟩) zm _) F za (by simp[World.setCell];omega)
 case stop=>
  rintro D c pre W hD _ ⟨rfl,hv,hB,hz⟩ Z;have hc:=hv.cell;have hf:=hv.free;have HV:=zH hv;gi_wp2;refine⟨zm,.inl ⟨_,_,rfl,run_takeDeferred Z,?_⟩⟩;have G:=(HV.out.put (qo qx) Z rfl).cell;refine⟨qV qj (cut s.data.toList room:Int),?_,rfl,zAu _ hB Z za za⟩;simp[results,f134,go_sem,G]
end Rle
namespace Rle
variable {w:qy}
theorem zWh {l m:T} {n:Nat} (h:n<=kG l):(l++m).take n=l.take n:=by rw[qUn h]
theorem Bld.drewN {B b:Nat} {l:T} (h:Bld w B b l) (n:Nat):Bld (w.drewN n) B b l:=
 h.kept (row:=qx) ⟨rfl,rfl,rfl,qPq _,fun _ _ _=>rfl⟩ (fun r e=>by cases e)
theorem zIy {a:qy} {b:Option Nat} (h:Lib.OthersKept TY b a w) (n:Nat):Lib.OthersKept TY b a (w.drewN n):=h
theorem zHo (B b k:Nat) (c:UInt8) (n:Nat) (q:T) (most:Int) (y:Nat) (X:(max most 0).toNat+1=y) (W:qy) (h:Bld W B b (q.take y)) (V:Boxed W k 3 (qV qj most)) (hk:k≠b) (hB:B<=W.heap.size)
  (hn:n<=255) (hf:kG q<=1000000):
  yC yG 114 #[qV ql (c.toNat:Int),qV qj (n:Int),qY (qw ⟨b,0,qx⟩),qY (qw ⟨k,0,qx⟩)] W fun e w'=>
   e=qp (qZ #[])/\Bld w' B b ((q++yL n c).take y)/\yI B W w'/\Lib.OthersKept TY (qw b) W w'/\W.heap.size<=w'.heap.size:=by
 obtain⟨z,x⟩:∃z:Nat,max most 0=(z:Int):=qT4 za;have a1:(if(0:Int)>most then(0:Int)else most)=(z:Int):=by rw[<-x];split<;>omega
 have S:y=z+1:=za
 obtain⟨HB,HM,O⟩:=yR h V S;clear h V S X;go_enter func114,ntmps114;go_wp2;go_loopw [7] (fun i wr=>∃j:Nat,j<=n/\i=qV qj j/\yH (Bld wr B b ((q++yL j c).take y))/\yH (yI B W wr)/\yH (Lib.OthersKept TY (qw b) W wr)/\W.heap.size<=wr.heap.size) (fun i _=>n-(intOf i).toNat)
 case atStart=>exact⟨0,za,rfl,by rw[List.replicate_zero,qQ3];exact HB,zH (yN _ _),zH (Lib.OthersKept.refl _ _ _),qPq _⟩
 case round=>
  obtain⟨j,hj,rfl,H,a,m,I⟩:=hrel;have r:Boxed wr k 3 (qV qj most):=(zDg m.out HM.out hk z8).trans HM.out;have a2:=r.cell;have d:kG ((q++yL j c).take y)=min y (kG q+j):=by rw[qQh,qPx,qTz]
  obtain⟨L,N⟩:=zB ((q++yL j c).take y);rw[N]at H d;have p:=zH N;obtain⟨K,g⟩:=zB (kG L);rw[g]at d;obtain⟨u,o⟩:=yQ g d;have M:=zTw B b L;rw[g]at M;have s:=zH M;clear N g d r M;by_cases a3:j<n
  ·have a0:K<=1001000:=by have:=o.out;omega
   by_cases f:z<K
   ·have hd:decide ((z:Int)<(K:Int))=yD:=by simpa using f
    go_wp2;go_quiet ((go_at_call 115;exact Calls.quiet_of_same (s.out _ (H.out.drewN _))));go_wp2;refine qP5 (qSy rfl _ _ _) rfl ⟨rfl,?_,below_drewN a.out _,zIy m.out _,I⟩;have P:y<=kG q+j:=by have:=o.out;have:=O.out;omega
    have e:(q++yL n c).take y=L:=by
     rw[<-p.out];have Z:yL n c=yL j c++yL (n-j) c:=by rw[List.replicate_append_replicate];congr 1;omega
     rw[Z,<-qQw,zWh (by rw[qPx,qTz];exact P)]
    rw[e];exact H.out.drewN _
   ·have hd:decide ((z:Int)<(K:Int))=yE:=by simpa using f
    go_wp2;go_quiet ((go_at_call 115;exact Calls.quiet_of_same (s.out _ (H.out.drewN _))));have w:B<=(wr.drewN nq).heap.size:=by have:=I;show B<=wr.heap.size;omega
    go_wp2_with fail;refine(zE7 B b L c _ (H.out.drewN nq) (by rw[u.out];omega) w).mono ?_;rintro e w2 ⟨rfl,R,G,t,F⟩;have Y:=zH R;clear R;go_wp2;go_roundw
    case rel=>
     refine⟨j+1,za,by go_num,?_,zH ((below_drewN a.out nq).trans G),zH ((zIy m.out nq).trans t),qP4 I F⟩;have P:kG q+j<y:=by have:=o.out;have:=O.out;omega
     have e:(q++yL (j+1) c).take y=L++[c]:=by
      rw[<-p.out,qUc,<-qQw,qQg zq,qQg (l:=q++yL j c) zq]
     rw[e];exact Y
    case measure=>simp[intOf];omega
  ·obtain rfl:j=n:=za
   go_wp2;go_end0;exact⟨rfl,by rw[p.out];exact H.out,a.out,m.out,I⟩
end Rle
namespace Rle
variable {c:UInt8}
theorem zYy (s:T):(zCm s).2.2.length<=52*kG s:=by have:=(zKe s).2.1;omega
theorem zYx (s:T):(zCm s).1<=4:=(zKe s).1
theorem zYw {st:U} (h:st.1=4):ust st c=(0,st.2.1,st.2.2++yL c.toNat st.2.1):=by unfold ust;rw[qPr h]
theorem zYv {st:U} (h:¬st.1=4) (a:0<st.1) (b:c=st.2.1):ust st c=(st.1+1,st.2.1,st.2.2++[st.2.1]):=by unfold ust;rw[qPt h,qPr ⟨a,b⟩]
theorem qCn {st:U} (h:¬st.1=4) (a:¬(0<st.1/\c=st.2.1)):ust st c=(1,c,st.2.2++[c]):=by unfold ust;rw[qPt h,qPt a]
theorem zHn (B b k:Nat) (c:UInt8) (a:T) (most:Int) (d:Nat) (f:(max most 0).toNat+1=d) (W:qy) (h:Bld W B b (a.take d)) (l:Boxed W k 3 (qV qj most)) (j:k≠b) (g:B<=W.heap.size) (i:kG a<=1000000):
  yC yG 114 #[qV ql (c.toNat:Int),qV qj 1,qY (qw ⟨b,0,qx⟩),qY (qw ⟨k,0,qx⟩)] W fun e w'=>
   e=qp (qZ #[])/\Bld w' B b ((a++[c]).take d)/\yI B W w'/\Lib.OthersKept TY (qw b) W w'/\W.heap.size<=w'.heap.size:=
 zHo B b k c 1 a most d f W h l j g za i
def zIi (s:T) (most:Int) (w:qy) (e:Ending) (w':qy):Prop:=
 e=qp (qZ #[qW (bs (zHr s most)),qV qj (zEw s most)])/\yI w.heap.size w w'
theorem zM0 (s:ByteArray) (most:Int) (hs:s.size<=10000) (ab: -9223372036854775808<=most) (ac:most<=9223372036854775807) (w:qy):
  yC yG 40 #[qW s,qV qj most] w (zIi s.data.toList most w):=by
 obtain⟨b,V⟩:=zB ((max most 0).toNat+1);have m:=zH V;clear V;have O:bs []=(⟨#[]⟩:ByteArray):=by unfold bs;rfl
 have N:=zH O;clear O;go_enter func40,ntmps40;go_wp2;have hv:=Bld.new (w.alloc (qm #[qV qj most] 3));have x:=(Boxed.new w 3 (qV qj most)).alloc (qm #[qY qx,qX qx 0 0] 120);obtain⟨W0,F⟩:=zB ((w.alloc (qm #[qV qj most] 3)).alloc (qm #[qY qx,qX qx 0 0] 120));have af:W0.heap.size=w.heap.size+2:=by rw[<-F];simp
 have a2:yI w.heap.size w W0:=by rw[<-F];exact((yN _ w).alloc (qPq _) _).alloc zm _
 rw[F]at hv x⊢;rw[qTr]at hv;obtain⟨HV,W,a7⟩:=yR hv x a2;have n1:w.heap.size≠w.heap.size+1:=za
 clear hv x a2 F;go_loopw [8,9,14] (fun rv lv i wr=>∃(k r:Nat) (c:UInt8) (o:T),k<=s.size/\i=qV qj k/\rv=qV qj (r:Int)/\lv=qV ql (c.toNat:Int)/\yH (zCm (s.data.toList.take k)=(r,c,o))/\yH (Bld wr (w.heap.size+1) (w.heap.size+1) (o.take b))/\yH (yI w.heap.size w wr)/\yH (Lib.OthersKept TY (qw (w.heap.size+1)) W0 wr)/\W0.heap.size<=wr.heap.size) (fun _ _ i _=>s.size-(intOf i).toNat)
 case atStart=>exact⟨0,0,0,[],za,rfl,rfl,rfl,zH rfl,zH (by simpa using HV.out),a7,zH (Lib.OthersKept.refl _ _ _),Nat.le_refl _⟩
 case round=>
  obtain⟨k,r,c,o,hk,rfl,rfl,rfl,K,hb,g,G,hz⟩:=hrel;have a6:Boxed wr w.heap.size 3 (qV qj most):=(zDg G.out W.out n1 z8).trans W.out;have ad:kG o<=520000:=by
   have h:=zYy (s.data.toList.take k);rw[K.out,qQh,zAl]at h;simp only at h;omega
  have ae:r<=4:=by have h:=zYx (s.data.toList.take k);rw[K.out]at h;exact h
  have H:=zH a6;have I:w.heap.size+1<=wr.heap.size:=za
  clear a6;by_cases a3:k<s.size
  ·have a5:zCm (s.data.toList.take (k+1))=ust (r,c,o) (s[k]'a3):=by
    rw[qQo (by rw[zAl];exact a3),zV9,K.out];rfl
   have S:=zH a5;have X:=zLo s[k] c;have Y:s[k].toNat<=255:=by have:=s[k].toNat_lt;omega
   clear a5;by_cases q:r=4
   ·have ht:((r:Int)==4)=yD:=by rw[q];rfl
    have H4:=zH q;have z:=zYw (st:=(r,c,o)) (c:=s[k]) q;have HU:=zH z;clear q z X;go_wp2_with fail;refine(zHo (w.heap.size+1) (w.heap.size+1) w.heap.size c s[k].toNat o most b m.out _ hb.out H.out n1 I Y za).mono ?_;rintro e w2 ⟨rfl,y,d,f,a1⟩;obtain⟨H2,t,n⟩:=yR y (g.out.trans (d.mono za)) (G.out.trans f);clear y d f;go_wp2;go_roundw
    case rel=>exact⟨k+1,0,c,_,za,by go_num,rfl,rfl,zH (by rw[S.out,HU.out]),H2,t,n,za⟩
    case measure=>simp[intOf];omega
   ·have ht:((r:Int)==4)=yE:=zq
    have H4:=zH q;clear q;by_cases hm:0<r/\s[k]=c
    ·obtain⟨h0,hc⟩:=hm;have z:=zYv (st:=(r,c,o)) (c:=s[k]) H4.out h0 hc;rw[qP9 hc]at X;have HU:=zH z;clear z hc;go_wp2_with fail;refine(zHn (w.heap.size+1) (w.heap.size+1) w.heap.size c o most b m.out _ hb.out H.out n1 I za).mono ?_;rintro e w2 ⟨rfl,y,d,f,a1⟩;obtain⟨H2,t,n⟩:=yR y (g.out.trans (d.mono za)) (G.out.trans f);clear y d f;go_wp2;go_roundw
     case rel=>exact⟨k+1,r+1,c,_,za,by go_num,by go_num,rfl,zH (by rw[S.out,HU.out]),H2,t,n,za⟩
     case measure=>simp[intOf];omega
    ·have z:=qCn (st:=(r,c,o)) (c:=s[k]) H4.out hm;have HU:=zH z;have Z:r=0\/(0<r/\¬s[k]=c):=by
      by_cases h0:r=0
      ·exact .inl h0
      ·exact .inr ⟨za,fun h=>hm ⟨za,h⟩⟩
     clear z hm;rcases Z with h0|⟨h0,hc⟩
     all_goals
      try rw[qP1 hc]at X
      try clear hc
      try(have aa:¬0<r:=za;clear h0)
      go_wp2_with fail;refine(zHn (w.heap.size+1) (w.heap.size+1) w.heap.size s[k] o most b m.out _ hb.out H.out n1 I za).mono ?_;rintro e w2 ⟨rfl,y,d,f,a1⟩;obtain⟨H2,t,n⟩:=yR y (g.out.trans (d.mono za)) (G.out.trans f);clear y d f;go_wp2;go_roundw
      case rel=>exact⟨k+1,1,s[k],_,za,by go_num,rfl,rfl,zH (by rw[S.out,HU.out]),H2,t,n,za⟩
      case measure=>simp[intOf];omega
  ·have L:s.data.toList.take k=s.data.toList:=qQg (by rw[zAl];omega);have B:=K.out;rw[L]at B;have M:=zH B;have cl:=zTw (w.heap.size+1) (w.heap.size+1) (o.take b);have P:kG (o.take b)=min b (kG o):=by rw[qQh]
   obtain⟨ln,R⟩:=zB (kG (o.take b));rw[R]at cl P;obtain⟨CL,a0⟩:=yQ cl P;clear cl P R;have a9:=H.out.cell;clear L B;by_cases q:r=4
   ·have ht:((r:Int)==4)=yD:=by rw[q];rfl
    have a:zEw s.data.toList most=3:=by unfold zEw;rw[M.out,qPr q]
    have j:zHr s.data.toList most=[]:=by unfold zHr;rw[a];rfl
    obtain⟨u,p⟩:=yQ a j;clear q a j;go_wp2;go_ret2;exact⟨by rw[u.out,p.out,N.out];rfl,g.out⟩
   ·have ht:((r:Int)==4)=yE:=zq
    by_cases l:most<(kG o:Int)
    ·have hd:most<(ln:Int):=by
      have h1:=m.out;have y:=a0.out;omega
     have a:zEw s.data.toList most=4:=by unfold zEw;rw[M.out,qPt q,qPr l]
     have j:zHr s.data.toList most=[]:=by unfold zHr;rw[a];rfl
     obtain⟨u,p⟩:=yQ a j;clear q a j l;go_wp2;go_quiet ((go_at_call 115;exact Calls.quiet_of_same (CL.out _ (hb.out.drewN _))));go_wp2;go_ret2;exact⟨by rw[u.out,p.out,N.out];rfl,below_drewN g.out _⟩
    ·have hd:¬most<(ln:Int):=by
      have y:=a0.out;omega
     have a:zEw s.data.toList most=0:=by unfold zEw;rw[M.out,qPt q,qPt l]
     have j:zHr s.data.toList most=o:=by unfold zHr;rw[qPr a,M.out]
     have a4:o.take b=o:=qQg (by have:=m.out;omega);obtain⟨u,p,a8⟩:=yR a j a4;clear q a j l a4;go_wp2;go_quiet ((go_at_call 115;exact Calls.quiet_of_same (CL.out _ (hb.out.drewN _))));go_wp2_with fail;refine(zD0 (w.heap.size+1) (w.heap.size+1) (o.take b) _ (hb.out.drewN nq) I).mono ?_;rintro e w2 ⟨rfl,d,f⟩;rw[a8.out];go_wp2;go_ret2;exact⟨by rw[u.out,p.out,<-qCh];rfl,(below_drewN g.out nq).trans (d.mono za)⟩
end Rle
namespace Rle
open Kit (zAe)
@[irreducible] def pk (c n:Int):Int:=if c<0 then-(c+1)%n else c%n
theorem qH (c n:Int) (h:1<=n):0<=pk c n:=by
 unfold pk;split<;>exact Int.emod_nonneg _ za
theorem qHa (c n:Int) (h:1<=n):pk c n<n:=by
 unfold pk;split<;>exact Int.emod_lt_of_pos _ za
theorem zHu (c n:Int) (w:qy) (f: -9223372036854775808<=c) (g:c<=9223372036854775807) (h:1<=n) (i:n<=9223372036854775807):
  yC yG 66 #[qV qj c,qV qj n] w fun e w'=>e=qp (qV qj (pk c n))/\w=w':=by
 have a:pk c n=if c<0 then-(c+1)%n else c%n:=by unfold pk;rfl
 have b:=zH a;clear a;have j:(n==0)=yE:=zq
 by_cases d:c<0
 all_goals
  go_enter func66,ntmps66;go_wp2;go_ret;refine⟨zBw ?_,rfl⟩;rw[b.out]
  first
   |(rw[qPr d,<-Int.neg_tmod,qSd za])
   |rw[qPt za]
theorem zQu (c:Int) (n:Nat) (a: -9223372036854775808<=c) (b:c<=9223372036854775807) (g:1<=n) (h:n<=1000000) (N:Int) (d:N=(n:Int)):
  ∃q:Nat,q<n/\∀w:qy,yC yG 66 #[qV qj c,qV qj N] w fun e w'=>e=qp (qV qj (q:Int))/\w=w':=by
 subst d;obtain⟨q,f⟩:=qT4 (qH c (n:Int) za);have i:=qHa c (n:Int) za;refine⟨q,za,?_⟩;rw[<-f];exact fun w=>zHu c (n:Int) w a b za za
def zGg (q:Nat):UInt8:=([0,1,4,97,98,255]:T).getD q 0
theorem zZr (w:qy) (q:Nat) (a:q<6):(w.alloc (qm #[qV ql 0,qV ql 1,qV ql 4,qV ql 97,qV ql 98,qV ql 255] 5)).cell? ⟨w.heap.size,q,qx⟩=qw (qV ql ((zGg q).toNat:Int)):=by
 match q,a with
 |0,_=>simp[zGg]
 |1,_=>simp[zGg]
 |2,_=>simp[zGg]
 |3,_=>simp[zGg]
 |4,_=>simp[zGg]
 |5,_=>simp[zGg]
def qBv (most:Nat) (w:qy) (e:Ending) (w':qy):Prop:=∃u:ByteArray,e=qp (qW u)/\u.size<=most/\yI w.heap.size w w'
theorem qBu (a:Option yB) (len a1:Nat) (g:Nat->Int×Int) (most:Nat) (hm:most<=1000) (M:Int) (hM:M=(most:Int)) (w:qy) (h:Kit.zEq qj w a len a1 g):
  yC yG 16 #[qX a len a1,qV qj M] w (qBv most w):=by
 subst hM;obtain⟨a8,O,hg⟩:=h;have HG:=zH hg;unfold maxLen at O;clear hg;go_enter func16,ntmps16;go_wp2;go_loopw [5,6] (fun o i wr=>∃(k:Nat) (u:ByteArray),k<=len/\i=qV qj k/\o=qW u/\u.size<=most/\yI w.heap.size w wr) (fun _ i _=>len-(intOf i).toNat)
 case atStart=>exact⟨0,⟨#[]⟩,za,rfl,rfl,qQq _,yN _ _⟩
 case round=>
  obtain⟨k,u,hk,rfl,rfl,hu,z⟩:=hrel;by_cases q:k<len/\u.size<most
  ·obtain⟨a0,a4⟩:=q;obtain⟨b,x,rfl,h0,h1,I,F⟩:=HG.out k a0;obtain⟨l0,u0⟩:=bounds_i64 I;obtain⟨l1,u1⟩:=bounds_i64 F;have r:b<w.heap.size:=qQk h0;have r0:=z.cell (p:=⟨b,x+k*2,qx⟩) r;rw[h0]at r0;have r1:=z.cell (p:=⟨b,x+k*2+1,qx⟩) r;rw[h1]at r1;obtain⟨x0,H⟩:=zB ((g k).1);obtain⟨x1,t⟩:=zB ((g k).2);rw[H]at l0 u0 r0;rw[t]at l1 u1 r1;have hz:=z.size;have hne:b≠wr.heap.size:=za
   have a3:b<wr.heap.size:=za
   have f:=h1;rw[t]at f;have S:=zH f;clear h0 h1 I F H t f;obtain⟨q0,X,K⟩:=zQu x0 6 l0 u0 za za 6 rfl;obtain⟨y,a9,L⟩:=zQu x1 300 l1 u1 za za 300 rfl;have N:=zZr wr q0 X;obtain⟨c,q⟩:=zB (zGg q0);rw[q]at N;obtain⟨Y,G⟩:=yQ K L;clear K L q;go_wp2_with fail;refine(Y.out _).mono ?_;rintro e w2 ⟨rfl,rfl⟩;go_wp2;obtain⟨wo,s⟩:=zB (wr.alloc (qm #[qV ql 0,qV ql 1,qV ql 4,qV ql 97,qV ql 98,qV ql 255] 5));rw[s];have V:yI w.heap.size w wo:=by rw[<-s];exact z.alloc hz _
   clear s N r0 r1;go_loopw [5,8] (fun o i wr=>∃(j:Nat) (u:ByteArray),j<=1+y/\i=qV qj j/\o=qW u/\u.size<=most/\yI w.heap.size w wr) (fun _ i _=>1+y-(intOf i).toNat)
   case atStart=>exact⟨0,u,za,rfl,rfl,hu,V⟩
   case round=>
    obtain⟨j,v,hj,rfl,rfl,hv,m⟩:=hrel;have r1:=m.cell (p:=⟨b,x+k*2+1,qx⟩) r;rw[S.out]at r1;have R:=m.size;have Z:(convert 109 9 (qX (qw ⟨wr.heap.size,0,qx⟩) 1 1)).run yG (wr.alloc (qm #[qV ql (c.toNat:Int)] 5))= .ok (qW ⟨#[c]⟩) (wr.alloc (qm #[qV ql (c.toNat:Int)] 5)):=Kit.Src.text (P:=yG) (src:=109) (dst:=9) (e:=5) (n:=1) (c:=1) (l:=[c]) (Kit.zAs wr (zAe c) 5) rfl underlying109 underlying5 underlying9;by_cases q:j<1+y/\v.size<most
    ·obtain⟨a5,a6⟩:=q;have a7:(j:Int)<1+(y:Int):=za
     have a2:(⟨#[c]⟩:ByteArray).size=1:=rfl;have B:(v++⟨#[c]⟩:ByteArray).size<=most:=by rw[ByteArray.size_append];omega
     have W:=zH B;clear B;go_wp2_with fail;refine(G.out _).mono ?_;rintro e w2 ⟨rfl,rfl⟩;go_wp2;go_roundw
     case rel=>exact⟨j+1,_,za,by go_num,rfl,W.out,m.alloc R _⟩
     case measure=>simp[intOf];omega
    ·clear Z;have d:¬(j:Int)<1+(y:Int)\/((j:Int)<1+(y:Int)/\¬v.size<most):=by
      by_cases h:j<1+y
      ·exact .inr ⟨za,fun h2=>q ⟨h,h2⟩⟩
      ·exact .inl za
     clear q;rcases d with h|⟨h,h'⟩
     all_goals
      go_wp2_with fail;refine(G.out _).mono ?_;rintro e w2 ⟨rfl,rfl⟩;go_wp2;go_roundw
      case rel=>exact⟨k+1,v,za,by go_num,rfl,hv,m⟩
      case measure=>simp[intOf];omega
  ·have d:¬k<len\/(k<len/\¬u.size<most):=by
    by_cases h:k<len
    ·exact .inr ⟨h,fun h2=>q ⟨h,h2⟩⟩
    ·exact .inl h
   clear q;rcases d with h|⟨h,h'⟩
   all_goals
    go_wp2;go_ret;exact⟨u,rfl,hu,z⟩
end Rle
namespace Bk
open Hf Bt Zr Front Wg Ch Sl Sq Us St Tn
variable {w w':qy} {D n c R Q O:Nat} {A:ByteArray} {p:Option yB}
def hdB (p:ByteArray):List Bool:=num 2 3++(num (kG (cho p)) 15++(zAz yE (cho p)++(delta (tab p 0)++delta (tab p 1))))
def bdB (p:ByteArray):List Bool:=zA0 (tabs (cho p) (tab p 0) (tab p 1)) (sym p) 0 (kG (sym p))
theorem zXx (p:ByteArray):((yK (kG (groups p))).map (zBe p)).flatten=bdB p:=by
 have h:=zOx (tabs (cho p) (tab p 0) (tab p 1)) (sym p) (kG (groups p)) (qPq _);have a:=zFg p;rw[show min (10*kG (groups p)) (kG (sym p))=kG (sym p) by omega]at h;unfold bdB;rw[<-h];unfold zNp;rw[List.flatMap_def];rfl
theorem zE6 (x:List UInt8):zAn x=num zA4 48++(num (zBa x) 32++(num (zA8 (pkT x)) 16++(zC2 (bl (zAj (pkT x)))++(hdB (pkT x)++bdB (pkT x))))):=by
 unfold zAn zIg zCg hdB;rw[qRz,qRz,zXx];simp[qQw]
theorem zTc (p:ByteArray) (h:0<p.size) (q:Nat) (f:q<kG (sym p)):(sym p).getD q 0<codes p/\((sym p).getD q 0+1=codes p↔q+1=kG (sym p)):=by
 have e:=zCv p;unfold codes;rcases qP8 q (kG (sy p)) with a|a
 ·have b:(sym p).getD q 0=(sy p)[q]:=by
   unfold sym;rw[qPw,qR6 a,qPu a];rfl
  have d:=zPm p h _ (qQ a);rw[b];constructor
  ·omega
  ·constructor<;>intro<;>omega
 ·have b:(sym p).getD q 0=(zAj p).size+1:=by
   unfold sym;rw[qPw,qS4 a,show q-kG (sy p)=0 by omega];rfl
  rw[b];constructor
  ·omega
  ·constructor<;>intro<;>omega
theorem qC2 {e:yA} {a:Option yB} {xs:List qz} (h:Kit.Own w D e a n c xs) (j:0<n):c<=9223372036854775807:=by
 obtain⟨_,⟨_,i⟩|⟨g,d,f,hv,_,_,_,b,_⟩⟩:=h
 ·omega
 ·injection hv with _ _ hc
  unfold maxLen at b;omega
def QB (w:qy) (Q:Nat) (A:ByteArray) (O:Nat) (p:Option yB) (n c:Nat):Prop:=w.heap[Q]? =qw (qm #[qW A,qV qj (O:Int),qX p n c] Sq.TQ)
theorem Upd.qGg {b:qy} (h:Upd w b R) (a:yI D b w') (g:w.heap.size<=D) (f:R<=D):Upd w w' R:=
 ⟨fun k d e=>(a.block k za).trans (h.old k d e),h.below.trans (a.mono f)⟩
theorem QB.lt (h:QB w Q A O p n c):Q<w.heap.size:=zAd h
theorem QB.upd (h:QB w Q A O p n c) (a:Upd w w' R) (b:R<Q):QB w' Q A O p n c:=(a.old Q h.lt za).trans h
theorem QB.below (h:QB w Q A O p n c) (a:yI w.heap.size w w'):QB w' Q A O p n c:=(a.block Q h.lt).trans h
theorem qDt (p:ByteArray) (j:Nat):j+3+15+kG (zAz yE (cho p))+kG (delta (tab p 0))+kG (delta (tab p 1))=j+kG (hdB p):=by
 unfold hdB;simp only[qPx,zAc];omega
theorem zY7 (R i ce:Nat) (a s:ByteArray) (x:List UInt8) (w:qy) (h:RD w R ⟨a,i,qx,0,0,qx,0,0,0⟩) (hs:a.size<=100000000) (hx:s.data.toList=x) (h0:0<kG x) (cm:1<=ce) (cn:ce<=360) (hl:Rle.Len x<=ce) (ha:At a i (zAn x)):
  yC yG 285 #[qY (qw ⟨R,0,qx⟩),qV qj (ce:Int)] w fun e w'=>e=qp (qZ #[qW s,qV .u32 (zBa x:Int)])/\(∃tp tc cq KG cc,RD w' R ⟨a,i+kG (zAn x),tp,2,tc,cq,KG,cc,codes (pkT x)⟩)/\Upd w w' R:=by
 have c:=zJp x h0;have ad:=zFy x;obtain⟨p,hp⟩:=zB (pkT x);have u:=zE6 x;rw[hp]at u c ad;rw[u]at ha;have a1:=At.left ha;have ao:=At.right ha (j:=i+48) (by rw[zAc]);have a2:=At.left ao;have Z:=At.right ao (j:=i+48+32) (by rw[zAc]);have a3:=At.left Z;have V:=At.right Z (j:=i+48+32+16) (by rw[zAc]);have a4:=At.left V;have X:=At.right V rfl;have a5:=At.left X;have a6:=At.right X rfl;have b1:=At.bound a1;have b2:=At.bound a2;have b3:=At.bound a3;rw[zAc]at b1 b2 b3;have co:zBa x<4294967296:=(Crc.sum x).isLt;have br:=zDq p c;obtain⟨bj,HM,HO,c8,bw,A4,A5,A6,HP⟩:=yY (zFx R 48 54156738319193 ⟨a,i,qx,0,0,qx,0,0,0⟩ 48 rfl w h za b1 hs (At.val a1 z8)) (fun(e:Int) (w:qy)=>zJv e w) (fun(w:qy)=>zPn w) (At.val a2 za) (At.val a3 za) a4 a5 a6 hp;obtain⟨HX,bu,b8,HL⟩:=yS hx u ad hl;have cg:IntKind.u32.wrap (zBa x:Int)=(zBa x:Int):=IntWalk.u32_in _ ⟨za,za⟩;clear ha a1 ao a2 Z a3 V a4 X a5 a6 h hx hp u ad hl;go_enter func285,ntmps285;go_wp2_with fail;(with_reducible refine bj.out.mono ?_);rintro e w1 ⟨rfl,z,y⟩;have K1:=yP (RD w1 R ⟨a,i+48,qx,0,0,qx,0,0,0⟩) z;have U1:=zH y;rw[show((54156738319193:Nat):Int)=(54156738319193:Int)from rfl];clear z y bj;go_wp2_with fail;(with_reducible refine(HM.out _ _).mono ?_);rintro e w2 ⟨rfl,rfl⟩;have ax:=zH (zFx R 32 (zBa x) ⟨a,i+48,qx,0,0,qx,0,0,0⟩ 32 rfl w2 K1.out za b2 hs c8.out);go_wp2_with fail;(with_reducible refine ax.out.mono ?_);rintro e w3 ⟨rfl,z,y⟩;have K3:=yP (RD w3 R ⟨a,i+48+32,qx,0,0,qx,0,0,0⟩) z;have U3:=zH (U1.out.trans y);clear z y ax K1 U1;have b7:=zH (zFx R 16 (zA8 p) ⟨a,i+48+32,qx,0,0,qx,0,0,0⟩ 16 rfl w3 K3.out za b3 hs bw.out);go_wp2_with fail;(with_reducible refine b7.out.mono ?_);rintro e w5 ⟨rfl,z,y⟩;have K5:=yP (RD w5 R ⟨a,i+48+32+16,qx,0,0,qx,0,0,0⟩) z;have U5:=zH (U3.out.trans y);clear z y b7 K3 U3;obtain⟨Q,hQ⟩:=zB w5.heap.size;have f:R<Q:=by rw[<-hQ];exact K5.out.lt
 obtain⟨O,hO⟩:=zB (zA8 p);obtain⟨W,hW⟩:=zB (w5.alloc (qm #[qW ⟨#[]⟩,qV qj (O:Int),qX qx 0 0] Sq.TQ));have am:yI Q w5 W:=by rw[<-hW,<-hQ];exact(yN _ _).alloc (qPq _) _
 have c7:w5.heap.size<=Q:=za
 have b9:w.heap.size<=Q:=by have:=U5.out.size;omega
 have Q6:=yP (QB W.drew Q ⟨#[]⟩ O qx 0 0) (by rw[<-hW,<-hQ];exact zAh w5 _);have K6:=yP (RD W.drew R ⟨a,i+48+32+16,qx,0,0,qx,0,0,0⟩) (K5.out.below (by rw[hQ];exact am.drew));obtain⟨U6,HW,HQ,bc⟩:=yS ((U5.out.trans (Upd.of_below (by rw[hQ];exact am) za)).trans (Upd.drew W R)) hW hQ hO;rw[hO]at br;obtain⟨j,hj⟩:=zB (i+48+32+16);rw[hj]at A4 A5 A6 K6;have ag:0<kG (bl (zAj p)):=by rw[zB2];exact zMz p c
 have S:=yP (yC yG 33 #[qW a,qV qj (j:Int)] W.drew fun e w'=>e=qp (qZ #[qW (zAj p),qV qj ((j+kG (zC2 (bl (zAj p))):Nat):Int),qV qj 0])/\yI W.drew.heap.size W.drew w') (by
  have h:=zN8 a j (bl (zAj p)) hs _ (zVk _ _ (qQ ag)) (qQ ag) A4.out W.drew;rw[show(⟨(alpha (bl (zAj p)) 256).toArray⟩:ByteArray)=zAj (zAj p)from rfl,zVu]at h;exact h)
 obtain⟨A,hA⟩:=zB (zAj p);obtain⟨j2,P⟩:=zB (j+kG (zC2 (bl (zAj p))));rw[P,hA]at S;rw[P]at A5 A6;obtain⟨HA,HJ⟩:=yQ hA (yO hj P);clear am hW hQ hO hj ag hA P K5 U5 c7;go_wp2;rw[HQ.out,bc.out,show w5.alloc (qm #[qW ⟨#[]⟩,qV qj (O:Int),qX qx 0 0] Sq.TQ)=W from HW.out];refine zS [] (fun _=>True) [0,1,2,4,8,0,32,64,128,256,528,1024,2048,2048,2048,8191,49151,131071] 18<|zp [0,1,2,3,4,5,6,7,8,9]<|zk 30 (zP R 0)<|zk 31 (zP R 0)<|zk 32 (zP R 0)<|zk 33 (zP R 0)<|zt 34 (qW a) (zl 9 33 (K6.out.l0))<|zk 35 (zP R 0)<|zk 36 (zP R 0)<|zk 37 (zP R 0)<|zk 38 (zP R 1)<|zt 39 (zI j) (zl 3 38 (K6.out.l1))<|zn<|zx 10 40 33 #[qW a,qV qj (j:Int)] S.out<| ?_
 rintro e w7 ⟨rfl,L⟩;refine⟨_,rfl,.inr (.inr trivial),?_⟩;refine zp [11,12,13,14,15,16,17]<|zk 29 (qZ #[qW A,qV qj (j2:Int),qV qj 0])<|zk 41 (qW A)<|zk 42 (zI j2)<|zk 43 (qV qj 0)<|zk 8 (qW A)<|zk 9 (zI j2)<|zk 10 (qV qj 0)<|zn<|zE<| ?_
 simp only[zP,zI,Act.put,qPz,qPy,qP0];have b6:=K6.out.lt;obtain⟨K7,U7,Q7⟩:=yR (K6.out.below L) (U6.out.trans (Upd.of_below L (qP6 b6))) (Q6.out.below L);clear L S K6 U6 Q6 b6 HW HQ;have bh:=zH (zIc R j2 _ w7 K7.out);go_wp2_with fail;(with_reducible refine bh.out.mono ?_);rintro e w8 ⟨rfl,z,y⟩;have K8:=yP (RD w8 R ⟨a,j2,qx,0,0,qx,0,0,0⟩) z;obtain⟨U8,Q8⟩:=yQ (U7.out.trans y) (Q7.out.upd y f);clear z y bh K7 U7 Q7;obtain⟨y0,y1,y2,z0,z1,z2⟩:=zBi Q8.out;have Q9:=yP (QB (w8.setCell ⟨Q,0,qx⟩ (qW A)) Q A O qx 0 0) (zA3 0 (qW A) Q8.out);obtain⟨K9,U9⟩:=yQ (K8.out.keep (zCw (a:=Q) 0 (qW A) za)) (Upd.qGg U8.out ((yN Q w8).setCell (p:=⟨Q,0,qx⟩) (qPq _) (qW A)) b9 (qP6 f));obtain⟨w9,bn⟩:=zB (w8.setCell ⟨Q,0,qx⟩ (qW A));rw[bn]at Q9 K9 U9;obtain⟨v0,v1,v2,_,_,_⟩:=zBi Q9.out;obtain⟨N,hN⟩:=zB (codes p);have af:=zF8 p c;have ay:=zFk p;rw[HA.out]at ay;have b5:(A.size:Int)+2=(N:Int):=by rw[<-hN];unfold codes;rw[HA.out];omega
 have bf:=yP (yC yG 70 #[.agg #[qW A,qV qj (O:Int),qX qx 0 0]] w9 fun e w'=>e=qp (qV qj (N:Int))/\yI w9.heap.size w9 w') (by
  have h:=zO4 A O qx 0 0 za w9;rw[b5]at h;exact h)
 rw[hN]at af;have HN:=zH hN;clear hN b5 ay;clear K8 U8 Q8;go_wp2_with fail;(with_reducible refine bf.out.mono ?_);rintro e ah ⟨rfl,k⟩;obtain⟨F,az,aq⟩:=yR (K9.out.below k) (U9.out.trans (Upd.of_below k (qP6 K9.out.lt))) (Q9.out.below k);have x4:=F.out.c4;have f4:=F.out.fr 4;simp only at x4;have B:=yP (RD (ah.setCell ⟨R,4,qx⟩ (qV qj (N:Int))) R ⟨a,j2,qx,0,0,qx,0,0,N⟩) (F.out.s4 N rfl);have m:=Upd.set (w:=ah) (K:=R) (i:=4) (v:=qV qj (N:Int));obtain⟨ae,ac⟩:=yQ (az.out.trans m) (aq.out.upd m f);clear k m bf K9 U9 Q9 F az aq;obtain⟨ba,a8⟩:=zB (ah.setCell ⟨R,4,qx⟩ (qV qj (N:Int)));rw[a8]at B ae ac;obtain⟨KG,d⟩:=zB (kG (cho p));have o:(kG (sym p)+9)/10=KG:=by rw[<-d,zJ4,zFg]
 have cf:p.size<=360:=by have:=b8.out;have:=HL.out;omega
 have cd:=zI2 p za;rw[<-zJ4,d]at cd;have bb:=zU7 p;rw[<-zJ4,d]at bb;have HH:=zH (zXu R KG N j2 a qx 0 0 (cho p) (tab p 0) (tab p 1) ba B.out hs d bb za (zYh p) za af.2 (zC6 p c za 0) (zC6 p c za 1) ((zG6 p 0).trans HN.out) ((zG6 p 1).trans HN.out) (by have h:=A5.out;unfold hdB at h;rw[d]at h;exact h));obtain⟨M,hM⟩:=zB (kG (sym p));rw[hM]at o;have bo:=zIo p;rw[hM]at bo;have a7:=zCv p;rw[hM]at a7;obtain⟨cb,l⟩:=yQ o (yO hM a7);have ab:0<M:=za
 clear d o hM a7 y0 y1 y2 z0 z1 z2 v0 v1 v2;go_wp2_with fail;(with_reducible refine HH.out.mono ?_);rintro e ap ⟨tp,tc,vs,cq,cc,rfl,z,an,b,y⟩;rw[qDt]at z;obtain⟨E,hE⟩:=zB ba.heap.size;have bg:R<E:=by rw[<-hE];exact B.out.lt
 have au:E<=ap.heap.size:=by rw[<-hE];exact y.size
 rw[hE]at an b;have HS:=zH (zSg R E KG N (j2+kG (hdB p)) tc cc M tp cq vs a (cho p) (tab p 0) (tab p 1) (sym p) ap z an b bg au hs (zYh p) (zC6 p c za 0) (zC6 p c za 1) ((zG6 p 0).trans HN.out) ((zG6 p 1).trans HN.out) l.out.1 cb.out ab za za af.2
  (fun q hq=>by have h:=zTc p c q (by rw[l.out.1];exact hq);rw[HN.out,l.out.1]at h;exact h) A6.out)
 obtain⟨c6,ar,a0⟩:=yR z (ae.out.trans y) (ac.out.upd y f);clear z y an b HH B ae ac a8 hE bg au;go_wp2_with fail;(with_reducible refine HS.out.mono ?_);rintro e H ⟨mp,mc,rfl,z,b,y⟩;obtain⟨bi,a9⟩:=yQ (ar.out.trans y) (a0.out.upd y f);have bp:=a0.out.lt;obtain⟨g,rfl,_,_,cj,_,_⟩:=b.at_ ab;have ca:=qC2 b ab;have b4:=zH z;obtain⟨y0,y1,y2,z0,z1,z2⟩:=zBi a9.out;have Y:=yP (QB (H.setCell ⟨Q,2,qx⟩ (qX (qw ⟨g,0,qx⟩) M mc)) Q A O (qw ⟨g,0,qx⟩) M mc) (zA3 2 (qX (qw ⟨g,0,qx⟩) M mc) a9.out);obtain⟨t,aa⟩:=yQ (b4.out.keep (zCw (a:=Q) 2 (qX (qw ⟨g,0,qx⟩) M mc) za)) (Upd.qGg bi.out ((yN Q H).setCell (p:=⟨Q,2,qx⟩) (qPq _) (qX (qw ⟨g,0,qx⟩) M mc)) b9 (qP6 f));have ak:=yP (Kit.Own (H.setCell ⟨Q,2,qx⟩ (qX (qw ⟨g,0,qx⟩) M mc)) ap.heap.size 3 (qw ⟨g,0,qx⟩) M mc ((sym p).map ival)) (zCz b bp _);obtain⟨G,aj⟩:=zB (H.setCell ⟨Q,2,qx⟩ (qX (qw ⟨g,0,qx⟩) M mc));rw[aj]at Y t aa ak;obtain⟨v0,v1,v2,_,_,_⟩:=zBi Y.out;have av:=yP (yC yG 319 #[.agg #[qW A,qV qj (O:Int),qX (qw ⟨g,0,qx⟩) M mc],qV qj (ce:Int)] G fun e w'=>e=qp (qZ #[qW p,qV qj 0])/\yI G.heap.size G w') (by
  have h:=zSl p g mc ce G c za (by have:=l.out.2;omega) ca (by have:=b8.out;have:=HL.out;omega) za ak.out.src;unfold qv at h;rw[HA.out,bc.out,<-l.out.2]at h;exact h)
 clear z y b HS c6 ar a0 b4 bi a9;go_wp2_with fail;(with_reducible refine av.out.mono ?_);rintro e cp ⟨rfl,r⟩;obtain⟨ai,bd⟩:=yQ (t.out.below r) (aa.out.trans (Upd.of_below r (qP6 t.out.lt)));clear r av t aa Y ak y0 y1 y2 z0 z1 z2 v0 v1 v2 aj;go_wp2_with fail;(with_reducible refine(HO.out _).mono ?_);rintro e I ⟨rfl,rfl⟩;have ci:IntKind.i64.wrap (52*(ce:Int))=52*(ce:Int):=qQb _ ⟨za,za⟩;have b0:=yP (yC yG 40 #[qW p,qV qj (52*(ce:Int))] I fun e w'=>e=qp (qZ #[qW s,qV qj 0])/\yI I.heap.size I w') (by
  have h:=Rle.zM0 p (52*(ce:Int)) za za za I;have bz:p.data.toList=Rle.pack x:=by rw[<-HP.out];rfl
  have hb:=(Rle.zBu x).2;have ck:=HL.out;unfold Rle.zIi at h;rw[bz,Rle.zQk x _ za,Rle.zI9 x _ za,<-HX.out,Rle.zJ5]at h;exact h)
 go_wp2_with fail;(with_reducible refine b0.out.mono ?_);rintro e cr ⟨rfl,n⟩;obtain⟨bx,bq⟩:=yQ (ai.out.below n) (bd.out.trans (Upd.of_below n (qP6 ai.out.lt)));clear n b0 ai bd;go_wp2_with fail;(with_reducible refine(HO.out _).mono ?_);rintro e cs ⟨rfl,rfl⟩;go_wp2;go_ret2;refine⟨rfl,⟨tp,tc,cq,KG,cc,?_⟩,bq.out⟩;have bk:i+kG (zAn x)=j2+kG (hdB p)+kG (bdB p):=by
  rw[bu.out,<-HJ.out.2,<-HJ.out.1];simp only[qPx,zAc,HA.out];omega
 rw[bk,HP.out,HN.out];exact bx.out
end Bk
end Go.Proofs.YtppnakkaljbmbaaGreatDoor
