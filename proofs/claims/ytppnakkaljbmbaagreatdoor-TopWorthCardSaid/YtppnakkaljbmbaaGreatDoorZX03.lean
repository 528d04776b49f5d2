/- Steps of a proof; no condition beyond what each states. -/
import Derived.Test.YtppnakkaljbmbaaGreatDoorZX00
import Derived.Deep.WholeRow
import Derived.LoopIn
import Derived.LoopNIn
import Derived.OwnWalkIn
import Derived.RangeFuncBox
import Derived.Sort.QuietIn
import Derived.Test.YtppnakkaljbmbaaGreatDoorZX01
import Derived.Test.YtppnakkaljbmbaaGreatDoorZX02
set_option linter.unusedVariables false
set_option linter.unusedSimpArgs false
set_option maxRecDepth 100000
set_option maxHeartbeats 8000000
open List renaming length->kG
open Go.RowKit
open Go.Proofs.Tryz
open Go.Value renaming int->qV,string->qW,slice->qX,pointer->qY,tuple->qZ,bool->qc
open Go.IntKind renaming i64->qj
open Go.Obj renaming cells->qm,deferred->qo
open Go.Ending renaming returned->qp
open Option renaming some->qw,none->qx
open Go renaming World->qy,Value->qz,TypeId->yA,Addr->yB,Calls->yC,undef->yJ
open Bool renaming true->yD,false->yE
open Go.Proofs.Tryz renaming prog->yG
open Go.RowKit renaming Hid->yH,Below->yI
open Go.World renaming cell?->yM
open Go.RowKit.Below renaming refl->yN
namespace Go.Proofs.YtppnakkaljbmbaaGreatDoor
namespace Bt
variable {w w':qy} {R:Nat}
theorem Wr.below {D:Nat} {a:Option yB} {c:Nat} {l:List Bool} (h:Wr w R a c l) (b:yI D w w') (d:D=w.heap.size):Wr w' R a c l:=by
 subst d;exact⟨(b.block R h.lt).trans h.blk,h.own.below b (qPq _)⟩
theorem Step.of_below (a:yI w.heap.size w w') (c:R<=w.heap.size):Step w w' R:=⟨fun k b _ _=>a.block k b,a.mono c⟩
theorem qF3 (m:List Bool) (j:Nat) (a:j<kG m):zBm (pk m) j=m[j]:=by
 rw[zGo m j (by rw[zDu];unfold zA2;omega)];simp[qPw,qPu a]
theorem take_one {α:Type} (m:List α) (j:Nat) (a:j<kG m):m.take (j+1)=m.take j++[m[j]]:=by
 rw[List.take_add_one,qPu a];rfl
theorem zN3 (R:Nat) (a:Option yB) (c:Nat) (l m:List Bool) (w:qy) (hw:Wr w R a c l) (hl:kG l+kG m<=1000000):
  yC yG 87 #[qY (qw ⟨R,0,qx⟩),zAe m] w fun e w'=>e=qp (qZ #[])/\∃a' c',Wr w' R a' c' (l++m)/\Step w w' R:=by
 obtain⟨n,hn⟩:=zB (kG m);obtain⟨d,hd⟩:=zB (pk m);obtain⟨HN,HD⟩:=yQ hn hd;have hR:=hw.lt;have a4:n<=8*d.size:=by rw[<-hd,<-hn,zDu];unfold zA2;omega
 have a1:d.size<=1000000000:=by rw[<-hd,zDu];unfold zA2;omega
 have h:=zH (fun w'=>zGf m za w');unfold zAe at h⊢;rw[hn,hd]at h⊢;obtain⟨q,g⟩:=zB (w.alloc (qm #[qW d,qV qj (n:Int)] 51));obtain⟨X,hX⟩:=zB w.heap.size;have o:yI w.heap.size w q:=by rw[<-g];exact(yN _ _).alloc (qPq _) _
 have a5:q.heap.size=X+1:=by rw[<-g,zA,hX]
 have r:q.heap[X]? =qw (qm #[qW d,qV qj (n:Int)] 51):=by
  rw[<-g,<-hX];show(w.heap.push _)[w.heap.size]? =_;simp
 obtain⟨u,x⟩:=yQ (hw.below o rfl) (Step.of_below o (qP6 hR));have P:R≠X:=za
 have K:R<=q.heap.size:=za
 have H:=zH r;obtain⟨x0,x1,z,f1⟩:=zAf r;clear hn hd hw o r;go_enter func87,ntmps87;go_wp2_with fail;clear g hX;have hq:=zH (h.out q);(with_reducible refine hq.out.mono ?_);clear hq;rintro e w1 ⟨rfl,y⟩;obtain⟨a3,V,p⟩:=yR (u.out.below y rfl) (x.out.trans (Step.of_below y K)) ((y.block X za).trans H.out);have Z:X<w1.heap.size:=by have:=y.size;omega
 clear x0 x1 z f1 u x H y;obtain⟨x0,x1,z,f1⟩:=zAf p.out;go_wp2;clear x0 x1 z f1;go_loopw [12] (fun i wr=>∃j:Nat,j<=n/\i=qV qj j/\yH (∃a' c',Wr wr R a' c' (l++m.take j))/\yH (Step w1 wr R)) (fun i _=>n-(intOf i).toNat)
 case atStart=>exact⟨0,za,rfl,zH ⟨a,c,by rw[qTp,qQ3];exact a3.out⟩,zH (Step.refl _ _)⟩
 case round=>
  obtain⟨j,hj,rfl,I,k⟩:=hrel;by_cases M:j<n
  ·obtain⟨a',c',b⟩:=I.out;have N:=zH b;have G:wr.heap[X]? =qw (qm #[qW d,qV qj (n:Int)] 51):=(k.out.old X Z (qQ2 P) (fun cs f e=>by rw[p.out]at e;injection e with e;injection e with _ e _;exact absurd e z8)).trans p.out;obtain⟨x0,x1,z,f1⟩:=zAf G;have O:=zH (zNy d j za a1);have F:j<kG m:=by rw[HN.out];exact M
   have hg:zBm d j=m[j]:=by rw[<-HD.out];exact qF3 m j F
   have hz:(bv (zBm d j)!=0)=m[j]:=by rw[qCg,hg]
   have W:=zH (take_one m j F);have S:=yP (kG (l++m.take j)<=1000000) (by rw[qPx,qQh];omega);clear G b hg;go_wp2_with fail;(with_reducible refine(O.out _).mono ?_);rintro e w2 ⟨rfl,rfl⟩;go_wp2_with fail;clear hz x0 x1 z f1;have hq:=zH (zPu R a' c' (l++m.take j) m[j] wr N.out S.out);(with_reducible refine hq.out.mono ?_);clear hq;rintro e w3 ⟨rfl,a2,c2,t,B⟩;have Y:=yP (∃a' c',Wr w3 R a' c' (l++m.take (j+1))) ⟨a2,c2,by rw[W.out,<-qQw];exact t⟩;have a0:=zH (k.out.trans B);clear t B;go_wp2;go_roundw
   case rel=>exact⟨j+1,za,by go_num,Y,a0⟩
   case measure=>simp[intOf];omega
  ·obtain⟨a',c',b⟩:=I.out;have s:m.take j=m:=qQg (by rw[HN.out];omega);rw[s]at b;have L:=yP ((∃a' c',Wr wr R a' c' (l++m))/\Step w wr R) ⟨⟨a',c',b⟩,V.out.trans k.out⟩;clear b s;go_wp2;go_end0;obtain⟨⟨a',c',h1⟩,h2⟩:=L.out;exact⟨rfl,a',c',h1,h2⟩
theorem and_one (v k:Nat) (hv:v<18446744073709551616):(bits .and .u64 ((v:Int)/2^k) 1==1)=v.testBit k:=by
 have e:(v:Int)/2^k=((v/2^k:Nat):Int):=by simp
 rw[e,show(1:Int)=((1:Nat):Int)from rfl,u64_and_nat _ _ (Nat.lt_of_le_of_lt (Nat.div_le_self _ _) hv) za,Nat.and_one_is_mod,Nat.testBit_eq_decide_div_mod_eq];rw[qSg,qSr,qRl];omega
theorem qFk (v n j:Nat) (a:j<kG (num v n)):(num v n)[j]=v.testBit (n-1-j):=by simp[num]
theorem zYr (R:Nat) (a:Option yB) (c:Nat) (l:List Bool) (v n:Nat) (hv:v<18446744073709551616) (O:n<=64) (w:qy) (y:Wr w R a c l) (N:kG l+n<=1000000):
  yC yG 88 #[qY (qw ⟨R,0,qx⟩),qV .u64 (v:Int),qV qj (n:Int)] w fun e w'=>e=qp (qZ #[])/\∃a' c',Wr w' R a' c' (l++num v n)/\Step w w' R:=by
 have G:decide ((n:Int)<0)=yE:=qP1 za;have H:decide ((64:Int)<(n:Int))=yE:=qP1 za;have hi:IntKind.i64.wrap ((n:Int)-1)=(n:Int)-1:=qQb _ ⟨za,za⟩;have z:=zH y;clear y;go_enter func88,ntmps88;go_wp2;clear G H hi;go_loopw [6] (fun i wr=>∃j:Nat,j<=n/\i=qV qj ((n:Int)-1-(j:Int))/\yH (∃a' c',Wr wr R a' c' (l++(num v n).take j))/\yH (Step w wr R)) (fun i _=>(intOf i+1).toNat)
 case atStart=>exact⟨0,za,zm,zH ⟨a,c,by rw[qTp,qQ3];exact z.out⟩,zH (Step.refl _ _)⟩
 case round=>
  obtain⟨j,M,rfl,k,g⟩:=hrel;obtain⟨i,hi⟩:∃i:Int,(n:Int)-1-(j:Int)=i:=⟨_,rfl⟩;rw[hi];by_cases o:j<n
  ·obtain⟨a',c',b⟩:=k.out;have p:=zH b;have x:j<kG (num v n):=by rw[zAc];exact o
   have s:=zH (take_one (num v n) j x);have r:=yP (kG (l++(num v n).take j)<=1000000) (by rw[qPx,qQh];omega);have B:0<=i:=za
   have I:(bits .and .u64 ((v:Int)/2^i.toNat) 1==1)=(num v n)[j]:=by rw[and_one v _ hv,qFk];congr 1;omega
   have L:IntKind.i64.wrap (i-1)=i-1:=qQb _ ⟨za,za⟩;go_wp2_with fail;clear I;have q:=zH (zPu R a' c' (l++(num v n).take j) (num v n)[j] wr p.out r.out);(with_reducible refine q.out.mono ?_);clear q;rintro e K ⟨rfl,F,c2,f,h⟩;have t:=yP (∃a' c',Wr K R a' c' (l++(num v n).take (j+1))) ⟨F,c2,by rw[s.out,<-qQw];exact f⟩;have u:=zH (g.out.trans h);clear f h;go_wp2;go_roundw
   case rel=>exact⟨j+1,za,by rw[<-hi];congr 1;omega,t,u⟩
   case measure=>simp[intOf];omega
  ·obtain⟨a',c',b⟩:=k.out;have d:(num v n).take j=num v n:=qQg (by rw[zAc];omega);rw[d]at b;have B:¬0<=i:=za
   have m:=zH b;clear b d;go_wp2;go_end0;exact⟨rfl,⟨a',c',m.out⟩,g.out⟩
end Bt
namespace Bt
theorem zRd (p q:yB) (w:qy):
  CallsD yG 155 #[qY (qw p),qY (qw q)] .returning w fun e u' w'=>e=qp (qZ #[])/\u'= .returning/\w'=w:=by
 refine callsD_of_wpS func155 rfl fun a c b=> ?_;apply wpS_seq;apply wpS_region;simp[wpOpsS,go_sem,recoverD,b,ntmps155,Exit.thenS];refine wpS_of_wp ?_;go_wp2;cases a;simp_all [bodyPostS,results,results155]
theorem qAk (N O S:yB) (l:List Bool) (hl:kG l<=1000000) (w:qy)
  (H:∀W R,w.heap.size<=R->yI w.heap.size w W->Wr W R qx 0 []->yC yG 86 #[qY (qw ⟨R,0,qx⟩),qY (qw N),qY (qw O),qY (qw S)] W fun e w'=>e=qp (qZ #[])/\∃a' c',Wr w' R a' c' l/\Step W w' R):
  yC yG 85 #[.func (.func 86) #[] #[qY (qw N),qY (qw O),qY (qw S)]] w fun e w'=>e=qp (qZ #[zAe l,qV qj 0])/\yI w.heap.size w w':=by
 have a1:∀(fn:Fn) (first K:Array qz) (w:qy),(Instr.makeFunc fn first K).run yG w= .ok (.func fn first K) w:=fun _ _ _ _=>rfl;obtain⟨B,r⟩:=zB w.heap.size;have k:=zH r;obtain⟨t,d⟩:=zB (w.alloc (qm #[qW ⟨#[]⟩,qV qj 0] 51));obtain⟨x,b⟩:=zB (t.alloc (qm #[qV qj 0] 26));obtain⟨q,h⟩:=zB (x.alloc (qm #[qX qx 0 0,qV qj 0] TW));have z:t.heap.size=B+1:=by rw[<-d,zA,r]
 have z2:x.heap.size=B+2:=by rw[<-b,zA,z]
 have z3:q.heap.size=B+3:=by rw[<-h,zA,z2]
 have L:yI B w t:=by rw[<-d,<-r];exact(yN _ _).alloc (qPq _) _
 have G:yI (B+1) t x:=by rw[<-b,<-z];exact(yN _ _).alloc (qPq _) _
 have y:yI (B+2) x q:=by rw[<-h,<-z2];exact(yN _ _).alloc (qPq _) _
 have new:∀(W:qy) (o:Obj),(W.alloc o).heap[W.heap.size]? =qw o:=fun W o=>by show(W.heap.push o)[W.heap.size]? =_;simp
 have c1:q.heap[B]? =qw (qm #[qW ⟨#[]⟩,qV qj 0] 51):=by
  rw[y.block B za,G.block B za,<-d,<-r];exact new _ _
 have c2:q.heap[B+1]? =qw (qm #[qV qj 0] 26):=by
  rw[y.block (B+1) za,<-b,<-z];exact new _ _
 have c3:q.heap[B+2]? =qw (qm #[qX qx 0 0,qV qj 0] TW):=by
  rw[<-h,<-z2];exact new _ _
 have a:yI B w q:=(L.trans (G.mono za)).trans (y.mono za);have j:Wr q (B+2) qx 0 []:=⟨c3,Kit.Own.start _ _ _⟩;obtain⟨Z,HB,V,X⟩:=yS (H q (B+2) za (by rw[r];exact a) j) a c1 c2;clear H L G y c1 c2 c3 j a new;go_enter_defers func85,ntmps85;go_wp2_with fail;clear d b h z z2 r;(with_reducible refine Z.out.mono ?_);rintro e s ⟨rfl,a4,k4,i,g⟩;have M:s.heap[B]? =qw (qm #[qW ⟨#[]⟩,qV qj 0] 51):=(g.below.block B za).trans V.out;have I:s.heap[B+1]? =qw (qm #[qV qj 0] 26):=(g.below.block (B+1) za).trans X.out;have m:=zH (HB.out.trans (g.below.mono za));have a0:=Kit.Src.text (P:=yG) (n:=kG (pkL l)) (c:=k4) (src:=109) (dst:=9) i.own.src rfl underlying109 underlying5 underlying9;obtain⟨x0,x1,f0,f1⟩:=zAf i.blk;obtain⟨y0,y1,g0,g1⟩:=zAf M;have u0:s.cell? ⟨B+1,0,qx⟩=qw (qV qj 0):=by simp[yM,I]
 have v0:s.frozen? ⟨B+1,0,qx⟩=yE:=by simp[World.frozen?,I]
 clear i g M I;obtain⟨F,hF⟩:=zB (((s.setCell ⟨B,0,qx⟩ (qW ⟨(pkL l).toArray⟩)).setCell ⟨B,1,qx⟩ (qV qj (kG l:Int))).setCell ⟨B+1,0,qx⟩ (qV qj 0));have r0:F.cell? ⟨B,0,qx⟩=qw (qW ⟨(pkL l).toArray⟩):=by
  rw[<-hF,qQe _ _ _ _ (by intro e;injection e with e1 _ _;omega),qQe _ _ _ _ (by intro e;injection e with _ e2 _;omega)];exact qRi _ _ _ y0
 have r1:F.cell? ⟨B,1,qx⟩=qw (qV qj (kG l:Int)):=by
  rw[<-hF,qQe _ _ _ _ (by intro e;injection e with e1 _ _;omega)];refine qRi _ _ _ (u:=qV qj 0) ?_;rw[qQe _ _ _ _ (by intro e;injection e with _ e2 _;omega)];exact y1
 have r2:F.cell? ⟨B+1,0,qx⟩=qw (qV qj 0):=by
  rw[<-hF];refine qRi _ _ _ (u:=qV qj 0) ?_;rw[qQe _ _ _ _ (by intro e;injection e with e1 _ _;omega),qQe _ _ _ _ (by intro e;injection e with e1 _ _;omega)];exact u0
 have Y:=yP (yI B w F) (by rw[<-hF];exact((m.out.setCell (p:=⟨B,0,qx⟩) (qPq _) _).setCell (p:=⟨B,1,qx⟩) (qPq _) _).setCell (p:=⟨B+1,0,qx⟩) (qRu _) _);go_wp2;refine leaves_cons (f:=155) (args:= #[qY (qw ⟨B,0,qx⟩),qY (qw ⟨B+1,0,qx⟩)]) zm (by simp[go_sem]) ?_;refine(zRd ⟨B,0,qx⟩ ⟨B+1,0,qx⟩ F).mono ?_;rintro e u' a2 ⟨rfl,rfl,rfl⟩;have q0:(Value.agg #[qW ⟨(pkL l).toArray⟩,qV qj (kG l:Int)])=zAe l:=by simp[zAe,pk]
 simp[Leaves,settle,results,results85,go_sem,r0,r1,r2,q0];rw[k.out];exact Y.out
theorem qAl (N:yB) (l:List Bool) (hl:kG l<=1000000) (w:qy)
  (H:∀W R,w.heap.size<=R->yI w.heap.size w W->Wr W R qx 0 []->yC yG 103 #[qY (qw ⟨R,0,qx⟩),qY (qw N)] W fun e w'=>e=qp (qZ #[])/\∃a' c',Wr w' R a' c' l/\Step W w' R):
  yC yG 85 #[.func (.func 103) #[] #[qY (qw N)]] w fun e w'=>e=qp (qZ #[zAe l,qV qj 0])/\yI w.heap.size w w':=by
 have a1:∀(fn:Fn) (first K:Array qz) (w:qy),(Instr.makeFunc fn first K).run yG w= .ok (.func fn first K) w:=fun _ _ _ _=>rfl;obtain⟨B,r⟩:=zB w.heap.size;have k:=zH r;obtain⟨t,d⟩:=zB (w.alloc (qm #[qW ⟨#[]⟩,qV qj 0] 51));obtain⟨x,b⟩:=zB (t.alloc (qm #[qV qj 0] 26));obtain⟨q,h⟩:=zB (x.alloc (qm #[qX qx 0 0,qV qj 0] TW));have z:t.heap.size=B+1:=by rw[<-d,zA,r]
 have z2:x.heap.size=B+2:=by rw[<-b,zA,z]
 have z3:q.heap.size=B+3:=by rw[<-h,zA,z2]
 have L:yI B w t:=by rw[<-d,<-r];exact(yN _ _).alloc (qPq _) _
 have G:yI (B+1) t x:=by rw[<-b,<-z];exact(yN _ _).alloc (qPq _) _
 have y:yI (B+2) x q:=by rw[<-h,<-z2];exact(yN _ _).alloc (qPq _) _
 have new:∀(W:qy) (o:Obj),(W.alloc o).heap[W.heap.size]? =qw o:=fun W o=>by show(W.heap.push o)[W.heap.size]? =_;simp
 have c1:q.heap[B]? =qw (qm #[qW ⟨#[]⟩,qV qj 0] 51):=by
  rw[y.block B za,G.block B za,<-d,<-r];exact new _ _
 have c2:q.heap[B+1]? =qw (qm #[qV qj 0] 26):=by
  rw[y.block (B+1) za,<-b,<-z];exact new _ _
 have c3:q.heap[B+2]? =qw (qm #[qX qx 0 0,qV qj 0] TW):=by
  rw[<-h,<-z2];exact new _ _
 have a:yI B w q:=(L.trans (G.mono za)).trans (y.mono za);have j:Wr q (B+2) qx 0 []:=⟨c3,Kit.Own.start _ _ _⟩;obtain⟨X,HB,O,S⟩:=yS (H q (B+2) za (by rw[r];exact a) j) a c1 c2;clear H L G y c1 c2 c3 j a new;go_enter_defers func85,ntmps85;go_wp2_with fail;clear d b h z z2 r;(with_reducible refine X.out.mono ?_);rintro e s ⟨rfl,a4,Y,i,g⟩;have M:s.heap[B]? =qw (qm #[qW ⟨#[]⟩,qV qj 0] 51):=(g.below.block B za).trans O.out;have I:s.heap[B+1]? =qw (qm #[qV qj 0] 26):=(g.below.block (B+1) za).trans S.out;have m:=zH (HB.out.trans (g.below.mono za));have a0:=Kit.Src.text (P:=yG) (n:=kG (pkL l)) (c:=Y) (src:=109) (dst:=9) i.own.src rfl underlying109 underlying5 underlying9;obtain⟨x0,x1,f0,f1⟩:=zAf i.blk;obtain⟨y0,y1,g0,g1⟩:=zAf M;have u0:s.cell? ⟨B+1,0,qx⟩=qw (qV qj 0):=by simp[yM,I]
 have v0:s.frozen? ⟨B+1,0,qx⟩=yE:=by simp[World.frozen?,I]
 clear i g M I;obtain⟨F,hF⟩:=zB (((s.setCell ⟨B,0,qx⟩ (qW ⟨(pkL l).toArray⟩)).setCell ⟨B,1,qx⟩ (qV qj (kG l:Int))).setCell ⟨B+1,0,qx⟩ (qV qj 0));have Z:F.cell? ⟨B,0,qx⟩=qw (qW ⟨(pkL l).toArray⟩):=by
  rw[<-hF,qQe _ _ _ _ (by intro e;injection e with e1 _ _;omega),qQe _ _ _ _ (by intro e;injection e with _ e2 _;omega)];exact qRi _ _ _ y0
 have r1:F.cell? ⟨B,1,qx⟩=qw (qV qj (kG l:Int)):=by
  rw[<-hF,qQe _ _ _ _ (by intro e;injection e with e1 _ _;omega)];refine qRi _ _ _ (u:=qV qj 0) ?_;rw[qQe _ _ _ _ (by intro e;injection e with _ e2 _;omega)];exact y1
 have r2:F.cell? ⟨B+1,0,qx⟩=qw (qV qj 0):=by
  rw[<-hF];refine qRi _ _ _ (u:=qV qj 0) ?_;rw[qQe _ _ _ _ (by intro e;injection e with e1 _ _;omega),qQe _ _ _ _ (by intro e;injection e with e1 _ _;omega)];exact u0
 have V:=yP (yI B w F) (by rw[<-hF];exact((m.out.setCell (p:=⟨B,0,qx⟩) (qPq _) _).setCell (p:=⟨B,1,qx⟩) (qPq _) _).setCell (p:=⟨B+1,0,qx⟩) (qRu _) _);go_wp2;refine leaves_cons (f:=155) (args:= #[qY (qw ⟨B,0,qx⟩),qY (qw ⟨B+1,0,qx⟩)]) zm (by simp[go_sem]) ?_;refine(zRd ⟨B,0,qx⟩ ⟨B+1,0,qx⟩ F).mono ?_;rintro e u' a2 ⟨rfl,rfl,rfl⟩;have q0:(Value.agg #[qW ⟨(pkL l).toArray⟩,qV qj (kG l:Int)])=zAe l:=by simp[zAe,pk]
 simp[Leaves,settle,results,results85,go_sem,Z,r1,r2,q0];rw[k.out];exact V.out
end Bt
namespace Bt
variable {w w':qy} {u x y:qz} {t:yA} {r:Nat}
theorem zEb {B:Nat} (h:w.heap[B]? =qw (qm #[u] t)):w.cell? ⟨B,0,qx⟩=qw u/\w.frozen? ⟨B,0,qx⟩=yE:=
 ⟨by simp[yM,h],by simp[World.frozen?,h]⟩
theorem Step.keep {R k:Nat} {d:Array qz} (h:Step w w' R) (g:k≠R) (c:w.heap[k]? =qw (qm d t)) (i:t≠TB):w'.heap[k]? =qw (qm d t):=by
 have a:k<w.heap.size:=by
  rcases qP8 k w.heap.size with a|b
  ·exact a
  ·rw[qRj b]at c;cases c
 exact(h.old k a g (fun d f e=>by rw[c]at e;injection e with e;injection e with _ e _;exact i e)).trans c
theorem zEk {f:Func} {p u:Tmp} (h:f.results= #[.cell p 51,.tmp u]) (tmps:Array qz) (w:qy) (r:Nat) (e x y:qz) (g:tmps.getD p yJ=qY (qw ⟨r,0,qx⟩)) (c:tmps.getD u yJ=e)
  (a:w.cell? ⟨r,0,qx⟩=qw x) (b:w.cell? ⟨r,1,qx⟩=qw y):(results f tmps).run yG w= .ok (qZ #[.agg #[x,y],e]) w:=by
 have d:(loadVar 51 ⟨r,0,qx⟩).run yG w= .ok (.agg #[x,y]) w:=by simp[loadVar,go_sem,a,b]
 rw[results_cell_tmp h,g,c];simp[asAddr,d,Result.andThen]
theorem zCy (h:w.cell? ⟨r,0,qx⟩=qw u):((w.setCell ⟨r,0,qx⟩ x).setCell ⟨r,1,qx⟩ y).cell? ⟨r,0,qx⟩=qw x:=by
 rw[qQe _ _ _ _ (by intro e;injection e with _ e2 _;omega)];exact qRi _ _ _ h
theorem zCx (h:w.cell? ⟨r,1,qx⟩=qw u):((w.setCell ⟨r,0,qx⟩ x).setCell ⟨r,1,qx⟩ y).cell? ⟨r,1,qx⟩=qw y:=
 qRi _ _ _ (u:=u) (by rw[qQe _ _ _ _ (by intro e;injection e with _ e2 _;omega)];exact h)
theorem zCs {D:Nat} (h:yI D w w') (a:D<=r):yI D w ((w'.setCell ⟨r,0,qx⟩ x).setCell ⟨r,1,qx⟩ y):=
 (h.setCell (p:=⟨r,0,qx⟩) a _).setCell (p:=⟨r,1,qx⟩) a _
theorem zZt (R i j l:Nat) (m:List Bool) (v n:Nat) (w:qy) (q:Wr w R qx 0 []) (hv:v<18446744073709551616) (O:n<=64) (N:kG m+n<=1000000)
  (r1:i≠R) (P:j≠R) (S:l≠R)
  (h:w.heap[i]? =qw (qm #[qW (pk m),qV qj (kG m:Int)] 51))
  (o:w.heap[j]? =qw (qm #[qV .u64 (v:Int)] 64))
  (p:w.heap[l]? =qw (qm #[qV qj (n:Int)] 3)):
  yC yG 86 #[qY (qw ⟨R,0,qx⟩),qY (qw ⟨i,0,qx⟩),qY (qw ⟨j,0,qx⟩),qY (qw ⟨l,0,qx⟩)] w fun e w'=>e=qp (qZ #[])/\∃a' c',Wr w' R a' c' (m++num v n)/\Step w w' R:=by
 have HB:=zH (zN3 R qx 0 [] m w q zq);obtain⟨d,hd⟩:=zB (pk m);unfold zAe at HB;rw[hd]at h HB;obtain⟨k,M⟩:=zB (kG m);rw[M]at h HB;obtain⟨W,X,K,L⟩:=zAf h;obtain⟨s,z⟩:=yQ o p;clear h o p q hd;go_enter func86,ntmps86;go_wp2_with fail;(with_reducible refine HB.out.mono ?_);rintro e V ⟨rfl,H,c1,b,a⟩;rw[qQl]at b;obtain⟨y0,Z⟩:=zEb (a.keep P s.out z8);obtain⟨z0,Y⟩:=zEb (a.keep S z.out z8);obtain⟨B,F⟩:=yQ (zYr R H c1 m v n hv O V b N) a;clear b a W X K L;go_wp2_with fail;(with_reducible refine B.out.mono ?_);rintro e w2 ⟨rfl,I,c2,f,c⟩;obtain⟨G,g⟩:=yQ f (F.out.trans c);clear f c;go_wp2;go_end0;exact⟨rfl,I,c2,G.out,g.out⟩
theorem zJo (m:List Bool) (v n:Nat) (w:qy) (hv:v<18446744073709551616) (X:n<=64) (V:kG m+n<=1000000):
  yC yG 24 #[zAe m,qV .u64 (v:Int),qV qj (n:Int)] w fun e w'=>e=qp (qZ #[zAe (m++num v n),qV qj 0])/\yI w.heap.size w w':=by
 have a0:∀(fn:Fn) (first K:Array qz) (w:qy),(Instr.makeFunc fn first K).run yG w= .ok (.func fn first K) w:=fun _ _ _ _=>rfl;obtain⟨B,z⟩:=zB w.heap.size;obtain⟨l,b⟩:=zB (w.alloc (qm #[qW (pk m),qV qj (kG m:Int)] 51));obtain⟨p,a⟩:=zB (l.alloc (qm #[qV .u64 (v:Int)] 64));obtain⟨q,d⟩:=zB (p.alloc (qm #[qV qj (n:Int)] 3));obtain⟨j,c⟩:=zB (q.alloc (qm #[qW ⟨#[]⟩,qV qj 0] 51));have F:l.heap.size=B+1:=by rw[<-b,zA,z]
 have z2:p.heap.size=B+2:=by rw[<-a,zA,F]
 have G:q.heap.size=B+3:=by rw[<-d,zA,z2]
 have z4:j.heap.size=B+4:=by rw[<-c,zA,G]
 have M:yI B w l:=by rw[<-b,<-z];exact(yN _ _).alloc (qPq _) _
 have H:yI (B+1) l p:=by rw[<-a,<-F];exact(yN _ _).alloc (qPq _) _
 have s:yI (B+2) p q:=by rw[<-d,<-z2];exact(yN _ _).alloc (qPq _) _
 have k:yI (B+3) q j:=by rw[<-c,<-G];exact(yN _ _).alloc (qPq _) _
 have new:∀(W:qy) (o:Obj),(W.alloc o).heap[W.heap.size]? =qw o:=fun W o=>by show(W.heap.push o)[W.heap.size]? =_;simp
 have c1:j.heap[B]? =qw (qm #[qW (pk m),qV qj (kG m:Int)] 51):=by
  rw[k.block B za,s.block B za,H.block B za,<-b,<-z];exact new _ _
 have c2:j.heap[B+1]? =qw (qm #[qV .u64 (v:Int)] 64):=by
  rw[k.block (B+1) za,s.block (B+1) za,<-a,<-F];exact new _ _
 have c3:j.heap[B+2]? =qw (qm #[qV qj (n:Int)] 3):=by
  rw[k.block (B+2) za,<-d,<-z2];exact new _ _
 have c4:j.heap[B+3]? =qw (qm #[qW ⟨#[]⟩,qV qj 0] 51):=by
  rw[<-c,<-G];exact new _ _
 have f:yI B w j:=((M.trans (H.mono za)).trans (s.mono za)).trans (k.mono za);have i:kG (num v n)=n:=by simp[num]
 have L:=zH (qAk ⟨B,0,qx⟩ ⟨B+1,0,qx⟩ ⟨B+2,0,qx⟩ (m++num v n) (by rw[qPx,i];omega) j (fun W R hR I O=>
  zZt R B (B+1) (B+2) m v n W O hv X V za za za ((I.block B za).trans c1) ((I.block (B+1) za).trans c2) ((I.block (B+2) za).trans c3)))
 have HB:=yP (∀w',yI j.heap.size j w'->yI B w w') fun w' h=>f.trans (h.mono za);have S:=yP (∀w',yI j.heap.size j w'->w'.heap[B+3]? =qw (qm #[qW ⟨#[]⟩,qV qj 0] 51)) fun w' h=>(h.block (B+3) za).trans c4;clear M H s k c1 c2 c3 c4 f new;unfold zAe at L⊢;rw[z];go_enter func24,ntmps24;go_wp2_with fail;clear b a d c F z2 G z4;(with_reducible refine L.out.mono ?_);rintro e N ⟨rfl,g⟩;have P:=zH (HB.out N g);obtain⟨Y,Z,g0,g1⟩:=zAf (S.out N g);clear g;go_wp2
 try simp only[Exit.inBlock,Exit.then]
 refine qP5 (zEk rfl _ _ (B+3) _ _ _ rfl rfl (zCy Y) (zCx Z)) rfl ⟨?_,zCs P.out za⟩;rw[qPx,i,qTq];rfl
end Bt
namespace Bt
variable {n B:Nat} {g h:Nat->qz} {w w':qy} {t ty:yA} {P:Program} {o:Oper} {a:Act} {K:Act->qy->Prop} {Q:Exit->Act->qy->Prop} {x:Operand} {v:qz} {f:Nat->Nat}
def cellsOf (n:Nat) (g:Nat->qz):Array qz:=(Array.range n).map g
theorem cellsOf_size (n:Nat) (g:Nat->qz):(cellsOf n g).size=n:=by simp[cellsOf]
theorem zCe (n:Nat) (g:Nat->qz) (k:Nat) (h:k<n):(cellsOf n g)[k]? =qw (g k):=by simp[cellsOf,h]
def upd (g:Nat->qz) (k:Nat) (v:qz):Nat->qz:=fun j=>if j=k then v else g j
theorem upd_same (g:Nat->qz) (k:Nat) (v:qz):upd g k v k=v:=by simp[upd]
theorem zWa (g:Nat->qz) (k j:Nat) (v:qz) (h:j≠k):upd g k v j=g j:=by simp[upd,h]
theorem cellsOf_set (n:Nat) (g:Nat->qz) (k:Nat) (v:qz):(cellsOf n g).setIfInBounds k v=cellsOf n (upd g k v):=by
 apply Array.ext_getElem?;intro j;rw[qUm];by_cases b:j<n
 ·rw[zCe n g j b,zCe n _ j b];by_cases e:k=j
  ·subst e;rw[qPr rfl,qPr (by rw[cellsOf_size];exact b),upd_same]
  ·rw[qPt e,zWa _ _ _ _ (fun h=>e h.symm)]
 ·rw[qRj (by rw[cellsOf_size];omega),qRj (by rw[cellsOf_size];omega)];by_cases e:k=j
  ·subst e;rw[qPr rfl,qPt (by rw[cellsOf_size];exact b)]
  ·rw[qPt e]
theorem zDm (e:∀k,k<n->g k=h k):cellsOf n g=cellsOf n h:=by
 apply Array.ext_getElem?;intro j;by_cases b:j<n
 ·rw[zCe n g j b,zCe n h j b,e j b]
 ·rw[qRj (by rw[cellsOf_size];omega),qRj (by rw[cellsOf_size];omega)]
def Arr (w:qy) (B:Nat) (t:yA) (n:Nat) (g:Nat->qz):Prop:=w.heap[B]? =qw (qm (cellsOf n g) t)
theorem Arr.cell (h:Arr w B t n g) (k:Nat) (b:k<n):w.cell? ⟨B,k,qx⟩=qw (g k):=by
 simp[yM,show w.heap[B]? =_ from h,zCe n g k b]
theorem Arr.free (h:Arr w B t n g) (k:Nat):w.frozen? ⟨B,k,qx⟩=yE:=by
 simp[World.frozen?,show w.heap[B]? =_ from h]
theorem Arr.set (h:Arr w B t n g) (k:Nat) (v:qz):Arr (w.setCell ⟨B,k,qx⟩ v) B t n (upd g k v):=by
 unfold Arr;rw[<-cellsOf_set];simp[World.setCell,qQs,show w.heap[B]? =_ from h]
theorem Arr.congr (a:Arr w B t n g) (e:∀k,k<n->g k=h k):Arr w B t n h:=by
 unfold Arr;rw[<-zDm e];exact a
theorem Arr.lt (h:Arr w B t n g):B<w.heap.size:=(qQ5.1 h).1
theorem zGu (b:o.op= .load ty x) {g:yB} (d:a.eval x=qY (qw g))
  (c:(loadVar ty g).run P w= .ok v w) (h:K (a.put o.dst v) w):o.wp P a w K Q:=by
 unfold Oper.wp execOp;simp only[b,d,Instr.loadAt,Instr.sureAddr,qRk,qSp,qS3,c];exact h
theorem zPs {y:Operand} (b:o.op= .store ty x y) {g:yB} (d:a.eval x=qY (qw g)) (e:a.eval y=v)
  (c:(storeVar ty g v).run P w= .ok () w') (h:K (a.put o.dst yJ) w'):o.wp P a w K Q:=by
 unfold Oper.wp execOp;simp only[b,d,e,Instr.storeAt,Instr.sureAddr,qRk,qSp,qS3,c];exact h
theorem zE2 (w:qy) (g:Nat) (t:yA) (c b:Array qz) (e:w.heap[g]? =qw (qm c t)) (i:b.size=c.size) (d:b.all (·.oneCell')=yD):
  (storeCells ⟨g,0,qx⟩ b.toList).run P w= .ok () (w.setRow g b):=by
 have:=run_storeCells_at (P:=P) g 0 t b.toList 0 c w e zq (fun v hv=>(Array.all_eq_true_iff_forall_mem.1 d) v (by simpa using hv));rw[this];congr 2;apply Array.ext';simp[i,qSw]
theorem zE8 {e:yA} (j:P.underlying t=qw (.array n e)) (d:∀w,(isAgg e).run P w= .ok yE w) (l:∀w,(sizeOf e).run P w= .ok 1 w) (b:Array qz) (k:Nat) (v:qz) (m:k<n) (i:b[k]? =qw v) (w:qy):
  (Instr.index t (.agg b) (qV qj (k:Int))).run P w= .ok v w:=by
 have c:(0:Int)<=(k:Int)/\(k:Int)<(n:Int):=⟨za,za⟩;simp[Instr.index,asIntOf,qRk,qTl j,c,l,part,d,i];omega
def zAm (w:qy) (B:Nat) (t:yA) (n:Nat) (f:Nat->Nat):Prop:=Arr w B t n fun j=>qV qj (f j:Int)
def zAy (f:Nat->Nat) (k v:Nat):Nat->Nat:=fun j=>if j=k then v else f j
theorem zCj (f:Nat->Nat) (k v:Nat):zAy f k v k=v:=by simp[zAy]
theorem zBb (f:Nat->Nat) (k v j:Nat) (h:j≠k):zAy f k v j=f j:=by simp[zAy,h]
theorem zAm.cell (h:zAm w B t n f) (k:Nat) (b:k<n):w.cell? ⟨B,k,qx⟩=qw (qV qj (f k:Int)):=Arr.cell h k b
theorem zAm.free (h:zAm w B t n f) (k:Nat):w.frozen? ⟨B,k,qx⟩=yE:=Arr.free h k
theorem zAm.set (h:zAm w B t n f) (k v:Nat) {V:Int} (b:V=(v:Int)):zAm (w.setCell ⟨B,k,qx⟩ (qV qj V)) B t n (zAy f k v):=by
 subst b;refine(Arr.set h k (qV qj (v:Int))).congr (fun j _=> ?_);unfold upd zAy;by_cases e:j=k
 ·simp[e]
 ·simp[e]
theorem zAm.congr {g:Nat->Nat} (a:zAm w B t n f) (e:∀k,k<n->f k=g k):zAm w B t n g:=Arr.congr a (fun k b=>by rw[e k b])
theorem zAm.keep (h:zAm w B t n f) (e:w'.heap[B]? =w.heap[B]?):zAm w' B t n f:=e.trans h
theorem zAm.lt (h:zAm w B t n f):B<w.heap.size:=Arr.lt h
theorem zAm.zeros (B:Nat) (w:qy) (n:Nat) (t:yA) (b:w.heap.size=B):zAm (w.alloc (qm (cellsOf n (fun _=>qV qj 0)) t)) B t n (fun _=>0):=by
 show _=_;rw[<-b];show(w.heap.push _)[w.heap.size]? =_;simp
end Bt
namespace Bt
variable {w w':qy} {a:Option yB} {ls:List (List Bool)}
def LB:Kit.Lay (List Bool) where
 k:=2
 pos:=za
 cl m:=[qW (pk m),qV qj (kG m:Int)]
 len _:=rfl
 one m:=by simp[Value.oneCell']
theorem zQ2 {g o:Nat} (h:w'.heap[g]? =w.heap[g]?):w'.cell? ⟨g,o,qx⟩=w.cell? ⟨g,o,qx⟩:=by simp[yM,h]
structure RdB (w:qy) (a:Option yB) (ls:List (List Bool)):Prop where
 rd:Kit.Rd LB w a ls
 ty:∀p,a=qw p->∃cs f,w.heap[p.block]? =qw (qm cs 51 f)
theorem zGz {k:Nat} {o:Obj} (h:w.heap[k]? =qw o):k<w.heap.size:=by
 rcases qP8 k w.heap.size with b|a
 ·exact b
 ·rw[qRj a]at h;cases h
theorem RdB.below {D:Nat} (h:RdB w a ls) (b:yI D w w') (e:D=w.heap.size):RdB w' a ls:=by
 subst e;refine⟨h.rd.below b rfl,fun p g=> ?_⟩;obtain⟨d,f,c⟩:=h.ty p g;exact⟨d,f,(b.block _ (zGz c)).trans c⟩
theorem RdB.step {R:Nat} (h:RdB w a ls) (o:Step w w' R) (n:∀p,a=qw p->p.block≠R):RdB w' a ls:=by
 have l:∀p,a=qw p->w'.heap[p.block]? =w.heap[p.block]? :=by
  intro p g;obtain⟨k,f,d⟩:=h.ty p g;exact o.old _ (zGz d) (n p g) (fun k f e=>by rw[d]at e;injection e with e;injection e with _ e _;exact absurd e z8)
 refine⟨fun j x q=> ?_,fun p g=> ?_⟩
 ·obtain⟨b,c,m,d⟩:=h.rd j x q;exact⟨b,c,m,fun i hi=>(zQ2 (l _ m)).trans (d i hi)⟩
 ·obtain⟨k,f,d⟩:=h.ty p g;exact⟨k,f,(l p g).trans d⟩
theorem RdB.at_ (h:RdB w a ls) (j:Nat) (f:j<kG ls):
  ∃b c,a=qw ⟨b,c,qx⟩/\w.cell? ⟨b,c+j*2,qx⟩=qw (qW (pk ls[j]))/\w.cell? ⟨b,c+j*2+1,qx⟩=qw (qV qj (ls[j].length:Int)):=by
 obtain⟨b,c,e,d⟩:=h.rd.at_ j f;exact⟨b,c,e,d 0 z8,d 1 z8⟩
theorem zX1 (ls:List (List Bool)) (j:Nat) (b:j<kG ls):(ls.take (j+1)).flatten=(ls.take j).flatten++ls[j]:=by
 rw[take_one ls j b,qRz];simp
theorem qD3 (ls:List (List Bool)) (j:Nat):(ls.take j).flatten.length<=kG ls.flatten:=by
 conv=>rhs;rw[<-qR9 j ls]
 rw[qRz,qPx];omega
theorem qBf (R Q:Nat) (a:Option yB) (n c:Nat) (ls:List (List Bool)) (w:qy) (Y:Wr w R qx 0 []) (W:kG ls=n) (hc:n<=c) (a0:n<=1000000000) (X:RdB w a ls) (P:∀p,a=qw p->p.block≠R) (S:kG ls.flatten<=1000000)
  (r1:Q≠R) (q:w.heap[Q]? =qw (qm #[qX a n c] 70)):
  yC yG 103 #[qY (qw ⟨R,0,qx⟩),qY (qw ⟨Q,0,qx⟩)] w fun e w'=>e=qp (qZ #[])/\∃a' c',Wr w' R a' c' ls.flatten/\Step w w' R:=by
 obtain⟨K,z⟩:=zEb q;obtain⟨HW,L,HS,Z,HL⟩:=yT Y W X P S;clear q Y W X P S;go_enter func103,ntmps103;go_wp2;clear K z;go_loopw [7] (fun i wr=>∃j:Nat,j<=n/\i=qV qj j/\yH (∃a' c',Wr wr R a' c' (ls.take j).flatten)/\yH (Step w wr R)) (fun i _=>n-(intOf i).toNat)
 case atStart=>exact⟨0,za,rfl,zH ⟨qx,0,by rw[qTp];exact HW.out⟩,zH (Step.refl _ _)⟩
 case round=>
  obtain⟨j,hj,rfl,l,f⟩:=hrel;by_cases u:j<n
  ·obtain⟨a',c',d⟩:=l.out;have t:j<kG ls:=by rw[L.out];exact u
   obtain⟨b,off,rfl,M,N⟩:=(HS.out.step f.out Z.out).at_ j t;have g:=zH (zX1 ls j t);have r:=yP ((ls.take j).flatten.length+ls[j].length<=1000000) (by have q:=qD3 ls (j+1);have h2:=HL.out;rw[g.out,qPx]at q;omega);obtain⟨m,V⟩:=zB (ls[j]);rw[V]at M N g r;clear V;obtain⟨y,h⟩:=zB (wr.alloc (qm #[qW (pk m),qV qj (kG m:Int)] 51));have k:yI wr.heap.size wr y:=by rw[<-h];exact(yN _ _).alloc (qPq _) _
   obtain⟨x,G⟩:=yQ (d.below k rfl) (f.out.trans (Step.of_below k (qP6 d.lt)));have O:y.heap[wr.heap.size]? =qw (qm #[qW (pk m),qV qj (kG m:Int)] 51):=by
    rw[<-h];show(wr.heap.push _)[wr.heap.size]? =_;simp
   obtain⟨K,x1,z,f1⟩:=zAf O;have I:=zH (zN3 R a' c' (ls.take j).flatten m y x.out r.out);unfold zAe at I;clear d k O;go_wp2_with fail;clear M N K x1 z f1 h;(with_reducible refine I.out.mono ?_);clear I;rintro e w2 ⟨rfl,a2,c2,o,s⟩;have F:=yP (∃a' c',Wr w2 R a' c' (ls.take (j+1)).flatten) ⟨a2,c2,by rw[g.out];exact o⟩;have B:=zH (G.out.trans s);clear o s;go_wp2;go_roundw
   case rel=>exact⟨j+1,za,by go_num,F,B⟩
   case measure=>simp[intOf];omega
  ·obtain rfl:j=n:=za
   obtain⟨a',c',d⟩:=l.out;rw[qQg (by rw[L.out];omega)]at d;have H:=zH d;clear d l;go_wp2;go_end0;exact⟨rfl,a',c',H.out,f.out⟩
theorem zFs (a:Option yB) (n c:Nat) (ls:List (List Bool)) (w:qy) (L:kG ls=n) (V:n<=c) (N:n<=1000000000) (F:RdB w a ls) (y:kG ls.flatten<=1000000):
  yC yG 31 #[qX a n c] w fun e w'=>e=qp (qZ #[zAe ls.flatten,qV qj 0])/\yI w.heap.size w w':=by
 have Z:∀(fn:Fn) (first G:Array qz) (w:qy),(Instr.makeFunc fn first G).run yG w= .ok (.func fn first G) w:=fun _ _ _ _=>rfl;obtain⟨B,r⟩:=zB w.heap.size;obtain⟨s,g⟩:=zB (w.alloc (qm #[qX a n c] 70));obtain⟨q,b⟩:=zB (s.alloc (qm #[qW ⟨#[]⟩,qV qj 0] 51));have t:s.heap.size=B+1:=by rw[<-g,zA,r]
 have z2:q.heap.size=B+2:=by rw[<-b,zA,t]
 have H:yI B w s:=by rw[<-g,<-r];exact(yN _ _).alloc (qPq _) _
 have x:yI (B+1) s q:=by rw[<-b,<-t];exact(yN _ _).alloc (qPq _) _
 have new:∀(W:qy) (o:Obj),(W.alloc o).heap[W.heap.size]? =qw o:=fun W o=>by show(W.heap.push o)[W.heap.size]? =_;simp
 have c1:q.heap[B]? =qw (qm #[qX a n c] 70):=by
  rw[x.block B za,<-g,<-r];exact new _ _
 have c2:q.heap[B+1]? =qw (qm #[qW ⟨#[]⟩,qV qj 0] 51):=by
  rw[<-b,<-t];exact new _ _
 have j:yI B w q:=H.trans (x.mono za);have m:RdB q a ls:=F.below j r.symm;have l:∀p,a=qw p->p.block<B:=fun p z=>by
  obtain⟨cs,f,h⟩:=F.ty p z;rw[<-r];exact zGz h
 have u:=zH (qAl ⟨B,0,qx⟩ ls.flatten y q (fun W R hR I O=>
  qBf R B a n c ls W O L V N (m.below I rfl) (fun p z=>by have:=l p z;omega) y za ((I.block B za).trans c1)))
 have HB:=yP (∀w',yI q.heap.size q w'->yI B w w') fun w' h=>j.trans (h.mono za);have S:=yP (∀w',yI q.heap.size q w'->w'.heap[B+1]? =qw (qm #[qW ⟨#[]⟩,qV qj 0] 51)) fun w' h=>(h.block (B+1) za).trans c2;clear H x c1 c2 j new F m l L y;unfold zAe at u⊢;obtain⟨d,hd⟩:=zB (pk ls.flatten);obtain⟨k,K⟩:∃k:Int,(kG ls.flatten:Int)=k:=⟨_,rfl⟩;rw[hd,K]at u⊢;clear hd K;rw[r];go_enter func31,ntmps31;go_wp2_with fail;clear g b t z2;(with_reducible refine u.out.mono ?_);rintro e M ⟨rfl,i⟩;have P:=zH (HB.out M i);obtain⟨X,Y,g0,g1⟩:=zAf (S.out M i);clear i;go_wp2
 try simp only[Exit.inBlock,Exit.then]
 exact qP5 (zEk rfl _ _ (B+1) _ _ _ rfl rfl (zCy X) (zCx Y)) rfl ⟨rfl,zCs P.out za⟩
end Bt
namespace Rg
open Go.Shelf
variable {C:Nat->yA->Prop} {A B W W' w:qy} {l gf:Nat} {o o':Obj} {P:Program} {g:Operand} {ps:Array Tmp} {assign body:Code} {Q:Exit->Act->qy->Prop} {a:Act} {lb:Array qz}
attribute [local go_sem] Oper.semAt_some
theorem putObj_size (W:qy) (l:Nat) (o:Obj):(W.putObj l o).heap.size=W.heap.size:=by simp[World.putObj]
def Sc (C:Nat->yA->Prop) (W W':qy):Prop:=W.heap.size<=W'.heap.size/\∀k b t f,W.heap[k]? =qw (qm b t f)->¬C k t->W'.heap[k]? =qw (qm b t f)
theorem Sc.refl (C:Nat->yA->Prop) (W:qy):Sc C W W:=⟨qPq _,fun _ _ _ _ h _=>h⟩
theorem Sc.trans {D:qy} (h:Sc C A B) (g:Sc C B D):Sc C A D:=⟨qP4 h.1 g.1,fun k b t f d c=>g.2 k b t f (h.2 k b t f d c) c⟩
theorem Sc.mono {D:Nat->yA->Prop} (h:Sc C A B) (hd:∀k t,C k t->D k t):Sc D A B:=⟨h.1,fun k b t f d c=>h.2 k b t f d (fun e=>c (hd k t e))⟩
theorem Sc.below (h:yI A.heap.size A B):Sc C A B:=⟨h.size,fun k d t f c _=>(h.block k (by
 rcases qP8 k A.heap.size with b|a
 ·exact b
 ·rw[qRj a]at c;cases c)).trans c⟩
theorem Sc.left (e:W.heap[l]? =qw o) (i:o.isCells=yE) (h:Sc C (W.putObj l o') W'):Sc C W W':=by
 refine⟨by have:=h.1;rwa[putObj_size]at this,fun k c t f b d=>h.2 k c t f ?_ d⟩;rw[World.putObj_heap_other]
 ·exact b
 ·rintro rfl;rw[e]at b;obtain rfl:=qPv b;cases i
theorem Sc.right (i:W'.heap[l]? =qw o) (j:o.isCells=yE) (h:Sc C W W'):Sc C W (W'.putObj l o'):=by
 refine⟨by rw[putObj_size];exact h.1,fun k c t f e d=> ?_⟩;have b:=h.2 k c t f e d;rw[World.putObj_heap_other]
 ·exact b
 ·rintro rfl;rw[i]at b;obtain rfl:=qPv b;cases j
def qBt {α:Type} (P:Program) (gf:Nat) (lb:Array qz) (E:α->qy->Array qz->Prop) (R:qy->qy->Prop) (C:Nat->yA->Prop) (S:List α) (W:qy):Prop:=
 ∀(l:Nat) (J c:List α->qy->Prop),(∀pre A B,J pre A->R A B->J pre B)->
  (∀pre x b d,J pre b->E x b d->pre++[x]<+:S->YieldAt Fence.wide 1 P l d b fun e W'=>
   (e=qp (qc yD)/\J (pre++[x]) W'/\Sc C b W')\/(e=qp (qc yE)/\c (pre++[x]) W'))->
  J [] W->CallsIn Fence.wide 2 P gf (#[.func (.yield l) #[] #[]]++lb) W fun e W'=>(∃v,e=qp v)/\(J S W'\/∃pre,pre<+:S/\c pre W')
def qBh {α:Type} (C:Nat->yA->Prop) (I:List α->qy->Prop) (b:Code->List α->qy->Prop) (xs:List α) (W:qy):Exit->Act->qy->Prop
 | .normal,_,W'=>KeepsOthers W W'/\Sc C W W'/\I xs W'
 | .ret,_,W'=>KeepsOthers W W'/\b .ret xs W'
 |_,_,_=>False
theorem zL9 {α:Type}
  (hg:a.eval g= .func (.func gf) #[] lb) (eg:∀args w,(callFunc gf args).run P w= .ok (.enter gf args) w) (E:α->qy->Array qz->Prop) (R:qy->qy->Prop) (C:Nat->yA->Prop) (S:List α) (hR:∀A B,R A B->KeepsOthers A B)
  (ah:∀x W q,E x W q->q.size=ps.size) (hE:∀x W l o o' q,W.heap[l]? =qw o->o.isCells=yE->E x W q->E x (W.putObj l o') q)
  (aa:∀W,yI w.heap.size w W->qBt P gf lb E R C S W)
  (I:List α->qy->Prop) (Ix:Code->List α->qy->Prop)
  (hI:∀pre W l o o',w.heap.size<=l->W.heap[l]? =qw o->o.isCells=yE->I pre W->I pre (W.putObj l o'))
  (a5:∀c pre W l o o',w.heap.size<=l->W.heap[l]? =qw o->o.isCells=yE->Ix c pre W->Ix c pre (W.putObj l o'))
  (ab:∀pre A B,I pre A->R A B->I pre B) (h0:∀o o',I [] ((w.alloc o).alloc o')) (Jn:List α->α->Array qz->Act->qy->Prop)
  (ad:∀pre x q ac W l o o',w.heap.size<=l->W.heap[l]? =qw o->o.isCells=yE->Jn pre x q ac W->Jn pre x q ac (W.putObj l o'))
  (a6:∀(l:Nat) (pre:List α) (x:α) (W:qy) (q:Array qz) (K:Act->qy->Prop),w.heap.size<W.heap.size->I pre W->E x W q->(∀ac Wc,KeepsOthers W Wc->Sc C W Wc->Jn pre x q ac Wc->K ac Wc)->
   assign.wpIn (Fence.wide.inRound l) 1 P (Exit.then K (fun _ _ _=>False)) {tmps:=(ps.zip q).foldl (fun t (p,v)=>t.setIfInBounds p v) a.tmps,defers:=[]} W)
  (a7:∀(l:Nat) (pre:List α) (x:α) (W:qy) (q:Array qz) (ac:Act),w.heap.size<W.heap.size->Jn pre x q ac W->pre++[x]<+:S->body.wpIn (Fence.wide.inRound l) 1 P (qBh C I Ix (pre++[x]) W) ac W)
  (a8:∀(D:Nat) (W:qy),w.heap.size<=D->I S W->W.heap[D]? =qw (qo (qw []))->Q .normal {a with defers:={target:= .collected D,args:= #[]}::a.defers} W)
  (a9:∀(D:Nat) (c:Code) (pre:List α) (W:qy),w.heap.size<=D->pre<+:S->Ix c pre W->W.heap[D]? =qw (qo (qw []))->c.wpIn Fence.wide 3 P Q {a with defers:={target:= .collected D,args:= #[]}::a.defers} W):
  (Code.rangeFunc g ps assign body).wpIn Fence.wide 3 P Q a w:=by
 refine wpIn_rangeFunc ?_;intro fn ae;obtain⟨b,d⟩:∃b:LoopState->Option Code->Loop,b=fun st pe=>{state:=st,pending:=pe,fn,tmps:=a.tmps,params:=ps,assign,body,defers:=w.heap.size}:=⟨_,rfl⟩;obtain⟨W1,k⟩:=zB ((w.alloc (qo (qw []))).alloc (.loop (b .ready qx)));have Z:W1.heap[w.heap.size+1]? =qw (.loop (b .ready qx)):=by
  rw[<-k];have:=World.alloc_heap_new (w.alloc (qo (qw []))) (.loop (b .ready qx));rwa[qTr]at this
 have a2:W1.heap[w.heap.size]? =qw (qo (qw [])):=by
  rw[<-k];exact(Below.heap_alloc _ _ _ zm).trans (World.alloc_heap_new w _)
 have V:yI w.heap.size w W1:=by rw[<-k];exact((yN _ w).alloc (qPq _) _).alloc zm _
 refine⟨w.heap.size+1,[{target:= .collected w.heap.size,args:= #[]}],W1,{target:= .fn (.func gf) lb,args:= #[.func (.yield (w.heap.size+1)) #[] #[]]},W1,gf,
  #[.func (.yield (w.heap.size+1)) #[] #[]]++lb,W1,?_,?_,?_,?_,fun _=>za,?_⟩
 ·rw[<-k,d];exact run_enterLoop_outer _ _ _ _ _
 ·simp only[resolve,hg];simp[go_sem]
 ·intro f' ai;trivial
 ·simp[invoke,go_sem,eg]
 ·refine(aa W1 V (w.heap.size+1)
   (fun pre W=>I pre W/\W.heap[w.heap.size+1]? =qw (.loop (b .ready qx))/\W.heap[w.heap.size]? =qw (qo (qw [])))
   (fun pre W=>∃c,Ix c pre W/\W.heap[w.heap.size+1]? =qw (.loop (b .done (qw c)))/\W.heap[w.heap.size]? =qw (qo (qw [])))
   (fun pre A B hs h=>⟨ab pre A B hs.1 h,(hR _ _ h).same _ _ hs.2.1 rfl,(hR _ _ h).same _ _ hs.2.2 rfl⟩)
   ?_ ⟨by rw[<-k];exact h0 _ _,Z,a2⟩).mono ?_
  ·rintro pre x W q ⟨hi,y,hk⟩ H M;have u:w.heap.size+1<W.heap.size:=(qQ5.1 y).1;have hy:=run_yield (P:=P) (args:=q) y (by rw[d];exact ah _ _ _ H);rw[d]at hy;refine⟨fn,_,assign,body,hy,roundIn_of_wpIn ae (a6 _ pre x W q _ za hi H (fun ac Wc a4 ag af=>⟨_,run_beginRound (a4.same _ _ y rfl) (by rw[d]),?_⟩))⟩;have O:=y;have X:=hk;have y:=a4.same _ _ O rfl;have hk:=a4.same _ _ X rfl;have u:w.heap.size+1<Wc.heap.size:=(qQ5.1 y).1;obtain⟨W2,j⟩:=zB (Wc.putObj (w.heap.size+1) (.loop {b .ready qx with state:= .busy}));have G:W2.heap[w.heap.size+1]? =qw (.loop {b .ready qx with state:= .busy}):=by rw[<-j];exact World.putObj_heap_same u
   have N:W2.heap[w.heap.size]? =qw (qo (qw [])):=by rw[<-j];exact(World.putObj_heap_other za).trans hk
   have a1:w.heap.size<W2.heap.size:=by have:=(qQ5.1 G).1;omega
   have Y:Jn pre x q ac W2:=by rw[<-j];exact ad _ _ _ _ _ _ _ _ za y rfl af
   have s:body.wpIn (Fence.wide.inRound (w.heap.size+1)) 1 P _ ac W2:=a7 (w.heap.size+1) pre x W2 q ac a1 Y M;rw[j];refine wpIn_mono s ?_;have F:∀(z:Option Code) (W3:qy),KeepsOthers W2 W3->
     (Instr.endRound (w.heap.size+1) z).run P W3= .ok (qc z.isNone) (W3.putObj (w.heap.size+1) (.loop (b (if z.isNone then .ready else .done) z)))/\
     W3.heap[w.heap.size+1]? =qw (.loop {b .ready qx with state:= .busy})/\
     (W3.putObj (w.heap.size+1) (.loop (b (if z.isNone then .ready else .done) z))).heap[w.heap.size+1]? =qw (.loop (b (if z.isNone then .ready else .done) z))/\
     (W3.putObj (w.heap.size+1) (.loop (b (if z.isNone then .ready else .done) z))).heap[w.heap.size]? =qw (qo (qw [])):=fun z W3 i=>by
    have f:=i.same _ _ G rfl;have:=run_endRound (P:=P) z f;rw[d]at this⊢;exact⟨this,by rw[d]at f;exact f,World.putObj_heap_same (qQ5.1 f).1,(World.putObj_heap_other za).trans (i.same _ _ N rfl)⟩
   rintro e a3 W3 hp;cases e with
   |normal=>
    obtain⟨i,L,r⟩:=hp;obtain⟨hr,f,m,n⟩:=F qx W3 i;exact⟨_,_,hr,.inl ⟨rfl,⟨hI _ _ _ _ _ za f rfl r,m,n⟩,ag.trans (Sc.right f rfl (Sc.left y rfl (by rw[j];exact L)))⟩⟩
   |ret=>
    obtain⟨i,r⟩:=hp;obtain⟨hr,f,m,n⟩:=F (qw .ret) W3 i;exact⟨_,_,hr,.inr ⟨rfl,.ret,a5 _ _ _ _ _ _ za f rfl r,m,n⟩⟩
   |exit id=>exact hp.elim
   |goto t=>exact hp.elim
   |panic ch=>exact hp.elim
   |outgrown=>exact hp.elim
  ·rintro e W2 ⟨⟨v,rfl⟩,(⟨hi,y,hk⟩|⟨pre,a0,c,hi,y,hk⟩)⟩
   ·exact⟨qx,_,by have:=run_endLoop (P:=P) y (by rw[d];simp);rw[d]at this;exact this,a8 _ _ (qPq _) (hI _ _ _ _ _ za y rfl hi) ((World.putObj_heap_other za).trans hk)⟩
   ·exact⟨qw c,_,by have:=run_endLoop (P:=P) y (by rw[d];simp);rw[d]at this;exact this,a9 _ c pre _ (qPq _) a0 (a5 _ _ _ _ _ _ za y rfl hi) ((World.putObj_heap_other za).trans hk)⟩
abbrev Sb (C:Nat->Prop) (W W':qy):Prop:=Sc (fun k _=>C k) W W'
abbrev zR7 {α:Type} (P:Program) (gf:Nat) (lb:Array qz) (E:α->qy->Array qz->Prop) (R:qy->qy->Prop) (C:Nat->Prop) (S:List α) (W:qy):Prop:=qBt P gf lb E R (fun k _=>C k) S W
abbrev zJ6 {α:Type} (C:Nat->Prop) (I:List α->qy->Prop) (Ix:Code->List α->qy->Prop) (xs:List α) (W:qy):Exit->Act->qy->Prop:=qBh (fun k _=>C k) I Ix xs W
theorem zDt {α:Type}
  (X:a.eval g= .func (.func gf) #[] lb) (L:∀args w,(callFunc gf args).run P w= .ok (.enter gf args) w) (E:α->qy->Array qz->Prop) (R:qy->qy->Prop) (C:Nat->Prop) (S:List α) (V:∀A B,R A B->KeepsOthers A B)
  (H:∀x W b,E x W b->b.size=ps.size) (n:∀x W l o o' b,W.heap[l]? =qw o->o.isCells=yE->E x W b->E x (W.putObj l o') b)
  (z:∀W,yI w.heap.size w W->zR7 P gf lb E R C S W)
  (I:List α->qy->Prop) (d:Code->List α->qy->Prop)
  (q:∀pre W l o o',w.heap.size<=l->W.heap[l]? =qw o->o.isCells=yE->I pre W->I pre (W.putObj l o'))
  (G:∀c pre W l o o',w.heap.size<=l->W.heap[l]? =qw o->o.isCells=yE->d c pre W->d c pre (W.putObj l o'))
  (F:∀pre A B,I pre A->R A B->I pre B) (M:∀o o',I [] ((w.alloc o).alloc o')) (i:Array qz->Act)
  (r:∀(l:Nat) (x:α) (W:qy) (b:Array qz) (K:Act->qy->Prop),E x W b->K (i b) W->
   assign.wpIn (Fence.wide.inRound l) 1 P (Exit.then K (fun _ _ _=>False)) {tmps:=(ps.zip b).foldl (fun t (p,v)=>t.setIfInBounds p v) a.tmps,defers:=[]} W)
  (s:∀(l:Nat) (pre:List α) (x:α) (W:qy) (b:Array qz),w.heap.size<W.heap.size->I pre W->E x W b->pre++[x]<+:S->body.wpIn (Fence.wide.inRound l) 1 P (zJ6 C I d (pre++[x]) W) (i b) W)
  (u:∀(D:Nat) (W:qy),w.heap.size<=D->I S W->W.heap[D]? =qw (qo (qw []))->Q .normal {a with defers:={target:= .collected D,args:= #[]}::a.defers} W)
  (y:∀(D:Nat) (c:Code) (pre:List α) (W:qy),w.heap.size<=D->pre<+:S->d c pre W->W.heap[D]? =qw (qo (qw []))->c.wpIn Fence.wide 3 P Q {a with defers:={target:= .collected D,args:= #[]}::a.defers} W):
  (Code.rangeFunc g ps assign body).wpIn Fence.wide 3 P Q a w:=
 zL9 X L E R (fun k _=>C k) S V H n z I d q G F M (fun pre x b f W=>f=i b/\I pre W/\E x W b)
  (fun pre x b f W l o o' N j m h=>⟨h.1,q pre W l o o' N j m h.2.1,n x W l o o' b j m h.2.2⟩)
  (fun l pre x W b K _ hi e O=>r l x W b K e (O _ _ (KeepsOthers.refl _) (Sc.refl _ _) ⟨rfl,hi,e⟩))
  (fun l pre x W b f hw Y Z=>by obtain⟨rfl,hi,e⟩:=Y;exact s l pre x W b hw hi e Z) u y
end Rg
end Go.Proofs.YtppnakkaljbmbaaGreatDoor
