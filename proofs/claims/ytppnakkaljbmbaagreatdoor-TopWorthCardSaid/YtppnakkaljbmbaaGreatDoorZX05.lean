/- Steps of a proof; no condition beyond what each states. -/
import Derived.Test.YtppnakkaljbmbaaGreatDoorZX00
import Derived.Test.YtppnakkaljbmbaaGreatDoorZX03
import Derived.Test.YtppnakkaljbmbaaGreatDoorZX04
set_option linter.unusedVariables false
set_option linter.unusedSimpArgs false
set_option maxRecDepth 100000
set_option maxHeartbeats 8000000
open List renaming length->kG
open Go.Proofs.YtppnakkaljbmbaaGreatDoor.Kit renaming Src->yZ,Own->yg,zAr->xA
open Go.RowKit
open Go.Proofs.Tryz
open Go.Value renaming int->qV,string->qW,slice->qX,pointer->qY,tuple->qZ,bool->qc
open Go.IntKind renaming i64->qj,u8->ql
open Go.Obj renaming cells->qm,deferred->qo
open Go.Ending renaming returned->qp
open Option renaming some->qw,none->qx
open Go renaming World->qy,Value->qz,TypeId->yA,Addr->yB,Calls->yC,undef->yJ
open Bool renaming true->yD,false->yE
open Decidable renaming decide->yF
open Go.Proofs.Tryz renaming prog->yG
open Go.RowKit renaming Hid->yH,Below->yI
open Go.RowKit.Below renaming refl->yN
namespace Go.Proofs.YtppnakkaljbmbaaGreatDoor
namespace Front
open Kit (zAe)
abbrev qAp (x:Int):qz:=qV qj x
def zSb (a:T) (l:List Int) (w:qy) (e:Ending) (w':qy):Prop:=
 e=qp (qZ #[qW ⟨(zIv a l).toArray⟩,qV qj (zC3 a l)])/\yI w.heap.size w w'
theorem qE4 {w:qy} {p:Option yB} {l:List Int} (h:yZ w p (l.map qAp)) (k:Nat) (e:k<kG l):∃b a,p=qw ⟨b,a,qx⟩/\b<w.heap.size/\w.cell? ⟨b,a+k,qx⟩=qw (qV qj l[k]):=by
 obtain⟨b,a,d,c⟩:=h k (qAp l[k]) (by rw[qP2,qPu e];rfl);exact⟨b,a,d,qQk c,c⟩
theorem one_byte:Kit.One yG 109 5 1:=⟨underlying109,qV ql 0,zf,rfl⟩
theorem zO5 (a:T) (l:List Int) (k:Nat) (c:k<kG l) (d:right a=yD) (h:¬(0<=l[k]/\l[k]<(kG a:Int))):zC3 a l=5:=by
 refine zVh a l d ?_;rw[Bool.eq_false_iff];intro b;exact h ((zNo _ _).1 b _ (qQ c))
structure Bak (w:qy) (b g n cp B:Nat) (l:T) (v:qz) (out:T):Prop where
 byt:Byt w g l
 len:kG l=n
 ncp:n<=cp
 cpm:cp<=maxLen
 gB:g<B
 bB:b<B
 ne:g≠b
 BB:B<=w.heap.size
 bytes:w.cell? ⟨b,0,qx⟩=qw (qX (qw ⟨g,0,qx⟩) n cp)
 out:∃a c,v=qX a (kG out) c/\yg w B 5 a (kG out) c (out.map zAe)
theorem zLq (a:ByteArray) (ha:a.size<=1000) (p:Option yB) (c n:Nat) (l:List Int) (hl:kG l=n) (hn:n<=100000) (w:qy) (ar:yZ w p (l.map qAp)):
  yC yG 38 #[qW a,qX p n c] w (zSb a.data.toList l w):=by
 have af:=zH ar;clear ar;go_enter func38,ntmps38;go_wp2_with fail;refine(zGf a (by unfold maxLen;omega) _).mono ?_;rintro e z ⟨rfl,b1⟩;by_cases hr:right a.data.toList=yD
 ·rw[hr];obtain⟨HR,HL⟩:=yQ hr hl;clear hr hl;have Y:=run_bytes_of_string (P:=yG) z 9 109 5 a underlying9 underlying109 underlying5;have r:=grownCap_ge z a.size 0 5;have H:=grownCap_le_maxLen z a.size 0 5 (by unfold maxLen;omega);have u:=Byt.new z a (grownCap z a.size 0 5) 5;obtain⟨cp,a1⟩:=zB (grownCap z a.size 0 5);rw[a1]at Y r H u;obtain⟨wB,hB⟩:=zB (z.drew.alloc (qm (bytesRow a cp) 5 ((bytesRow a cp).size,(bytesRow a cp).size+1)));rw[hB]at Y u;have X:wB.heap.size=z.heap.size+1:=by
   rw[<-hB];show(z.heap.push _).size=_;rw[Array.size_push]
  have a2:=b1.size;have a5:yI w.heap.size w wB:=by rw[<-hB];exact b1.drew.alloc a2 _
  obtain⟨wC,hC⟩:∃wC,wC=wB.alloc (qm #[qX (qw ⟨z.heap.size,0,qx⟩) a.size cp] 150):=⟨_,rfl⟩;have a0:wC.heap.size=z.heap.size+2:=by
   rw[hC];show(wB.heap.push _).size=_;rw[Array.size_push];omega
  have a4:yI w.heap.size w wC:=by rw[hC];exact a5.alloc za _
  have O:Byt wC z.heap.size a.data.toList:=by rw[hC];exact u.grown (qR4 _ _ qx) zm
  have a9:wC.cell? ⟨z.heap.size+1,0,qx⟩=qw (qX (qw ⟨z.heap.size,0,qx⟩) a.size cp):=by rw[hC,<-X];simp
  obtain⟨i,hi,a7,ab,R⟩:=qR0 (show(prog.info? 5).map (fun i=>(i.zero,i.size,i.bytes))=qw (qw (qV ql 0),1,1)from zf);obtain⟨wD,ad,m,f⟩:=run_make_own (P:=yG) (w:=wC) (z.heap.size+2) 109 5 i _ 1 underlying109 hi a7 ab qj qj n (by rw[R];omega) (by unfold maxLen;omega) za;rw[a0]at ad m;have S:Bak wD (z.heap.size+1) z.heap.size a.size cp (z.heap.size+2) a.data.toList (qX (qw ⟨z.heap.size+2,0,qx⟩) 0 n) []:={
   byt:=O.grown f zm,len:=zAl a,ncp:=r,cpm:=H,gB:=by omega,bB:=by omega,ne:=za
   BB:=by have:=f.size;omega
   bytes:=cell_grown f a9 zm
   out:=⟨_,_,rfl,m⟩}
  have ai:yI w.heap.size w wD:=a4.trans ((yN _ _).grown f za (fun k hk=>by cases hk));obtain⟨ag,ac,aa⟩:=yR S r H;clear S O a9 hi a7 ab R m f a4 a5 u a1 r H;have ay:z.heap.size+1<z.heap.size+2:=za
  subst hC;go_wp2;clear ad Y hB a0 X;go_loopw [7,21] (fun v i wr=>∃k:Nat,k<=n/\i=qV qj k/\yH (Bak wr (z.heap.size+1) z.heap.size a.size cp (z.heap.size+2) (unf a.data.toList (zBs (l.take k))) v (unp a.data.toList (zBs (l.take k))))/\yH (inR (kG a.data.toList) (l.take k)=yD)/\yI w.heap.size w wr) (fun _ i _=>n-(intOf i).toNat)
  case atStart=>exact⟨0,za,rfl,ag,zH rfl,ai⟩
  case round=>
   obtain⟨k,hk,rfl,ht,B,hb⟩:=hrel;by_cases am:k<n
   ·have s:k<kG l:=by rw[HL.out];exact am
    obtain⟨b0,ap,rfl,ah,t⟩:=qE4 af.out k s;have V:_:=hb.cell (p:=⟨b0,ap+k,qx⟩) ah;rw[t]at V;have a6:=ht.out.bytes;obtain⟨x,hx⟩:=zB (l[k]);rw[hx]at t V;have HX:=zH hx;clear hx;by_cases ax:x<0
    ·have h5:=zO5 a.data.toList l k s HR.out (by rw[HX.out];omega);have h6:=zK7 a.data.toList l (by rw[h5];decide);obtain⟨H5,H6⟩:=yQ h5 h6;clear h5 h6;go_wp2;go_ret2;exact⟨by rw[H5.out,H6.out];rfl,hb⟩
    ·obtain⟨q,rfl⟩:=qT4 (show 0<=x by omega);by_cases au:q<a.size
     ·have F:kG (unf a.data.toList (zBs (l.take k)))=a.size:=by
       rw[zLz _ _ (qC8 _ _ B.out),zAl]
      obtain⟨y,hy⟩:=zB ((unf a.data.toList (zBs (l.take k))).getD q 0);obtain⟨HY,M⟩:=yQ hy F;clear hy F;go_wp2_with fail;refine(zPy _ z.heap.size a.size cp (unf a.data.toList (zBs (l.take k))) q M.out za ac.out aa.out ht.out.byt).mono ?_;rintro e w2 ⟨rfl,N,j⟩;rw[HY.out];obtain⟨oa,oc,rfl,b⟩:=ht.out.out;have o:=zIx b j za;have R:=j.size;have az:=ht.out.BB;have an:kG (unp a.data.toList (zBs (l.take k)))<=100000:=by rw[zLx];unfold zBs;rw[qQi,qQh];omega
      obtain⟨a3,c3,w3,aq,a8,g⟩:=Kit.Own.app (ty:=109) (w:=w2.alloc (qm #[qV ql (y.toNat:Int)] 5)) one_byte (o.alloc _) (qw ⟨w2.heap.size,0,qx⟩) 1 1 [zAe y] (Kit.zAs w2 _ 5) rfl (fun h=>by cases h) (Kit.zG [y]) (by unfold maxLen;omega) za zq;have Z:∀q,q<z.heap.size+2->qw q≠(Value.slice oa (kG (unp a.data.toList (zBs (l.take k)))) oc).ownBlock:=fun q hq e=>by have:=(b.block) q e.symm;omega
      have W:kG (bring (unf a.data.toList (zBs (l.take k))) q)=a.size:=by rw[zD6 _ _ (by rw[M.out];omega),M.out]
      have ak:=g.size;have K:Bak w3 (z.heap.size+1) z.heap.size a.size cp (z.heap.size+2) (bring (unf a.data.toList (zBs (l.take k))) q) (qX a3 (kG (unp a.data.toList (zBs (l.take k)))+1) c3) (unp a.data.toList (zBs (l.take k))++[y]):={
       byt:=(N.grown (qR4 w2 _ qx) zm).grown g (Z _ za),len:=W,ncp:=ac.out,cpm:=aa.out,gB:=by omega,bB:=by omega,ne:=za
       BB:=by simp at ak;omega
       bytes:=cell_grown g (cell_grown (qR4 w2 _ qx) (cell_grown j a6 (by intro e;injection e with e;simp at e)) zm) (Z _ za)
       out:=⟨a3,c3,by rw[qPx];rfl,by rw[qPx,qQd];exact a8⟩}
      have G:yI w.heap.size w w3:=hb.trans ((zCi j a2 za).trans (((yN _ _).alloc za _).trans ((yN _ _).grown g zq (fun q hq=>by have:=b.block q hq;omega))));have d:yH (unf a.data.toList (zBs (l.take (k+1)))=bring (unf a.data.toList (zBs (l.take k))) q/\unp a.data.toList (zBs (l.take (k+1)))=unp a.data.toList (zBs (l.take k))++[y]/\inR (kG a.data.toList) (l.take (k+1))=yD):=by
       have e:l.take (k+1)=l.take k++[(q:Int)]:=by rw[qQo s,HX.out]
       refine zH ⟨?_,?_,?_⟩
       ·rw[e,zOp,zY2];rfl
       ·rw[e,zOp,zY0,<-HY.out];rfl
       ·rw[e,qAr,B.out,Bool.true_and,qRl,zAl];omega
      obtain⟨aj,ao⟩:=yQ K G;clear K G a8 g b o N j Z W V a6 an hb;go_wp2_with (at_builtin;refine xA rfl (.tmp 34) (.tmp 38) 109 rfl rfl rfl aq ?_);go_roundw
      case rel=>
       refine⟨k+1,za,by go_num,?_,zH d.out.2.2,ao.out⟩;rw[d.out.1,d.out.2.1];exact aj
      case measure=>simp[intOf];omega
     ·have h5:=zO5 a.data.toList l k s HR.out (by rw[HX.out,zAl];omega);have h6:=zK7 a.data.toList l (by rw[h5];decide);obtain⟨H5,H6⟩:=yQ h5 h6;clear h5 h6;go_wp2;go_ret2;exact⟨by rw[H5.out,H6.out];rfl,hb⟩
   ·obtain rfl:k=n:=za
    have I:l.take k=l:=qQg (by rw[HL.out];omega);rw[I]at ht B;have L:=zRs a.data.toList l HR.out B.out;have ae:=zTj a.data.toList l L;obtain⟨HC,HE⟩:=yQ L ae;obtain⟨oa,oc,rfl,b⟩:=ht.out.out;have av:=b.src.text (P:=yG) (src:=109) (dst:=9) (e:=5) (c:=oc) rfl underlying109 underlying5 underlying9;clear I L ae b;go_wp2;go_ret2;exact⟨by rw[HC.out,HE.out];rfl,hb⟩
 ·rw[Bool.not_eq_true]at hr;rw[hr];have hc:=zYe a.data.toList l hr;have e1:=zK7 a.data.toList l (by rw[hc];decide);obtain⟨HC,HE⟩:=yQ hc e1;clear hc e1;go_wp2;go_ret2;exact⟨by rw[HC.out,HE.out];rfl,b1⟩
end Front
namespace Zr
open Front
theorem zMt (n:Nat) (F:n<=1000000) (w:qy):
  yC yG 46 #[qV qj (n:Int)] w fun e w'=>∃a c,e=qp (qX a (kG (digits n)) c)/\yg w' w.heap.size 3 a (kG (digits n)) c ((digits n).map ival)/\yI w.heap.size w w':=by
 go_enter func46,ntmps46;go_wp2;go_loopw [0,2] (fun i v wr=>∃(k:Nat) (d:List Nat) (p:Option yB) (c:Nat),i=qV qj k/\v=qX p (kG d) c/\k<=1000000/\yH (d++digits k=digits n)/\yH (yg wr w.heap.size 3 p (kG d) c (d.map ival))/\yH (yI w.heap.size w wr)) (fun i _ _=>(intOf i).toNat)
 case atStart=>exact⟨n,[],qx,0,rfl,rfl,F,zH rfl,zH (Kit.Own.start _ _ _),zH (yN _ _)⟩
 case round=>
  obtain⟨k,d,p,c,rfl,rfl,M,hd,b,x⟩:=hrel;rcases qQy k with u|u
  ·subst u;have t:=hd.out;rw[zEu,qQ3]at t;subst t;go_wp2;go_ret;exact⟨p,c,rfl,b.out,x.out⟩
  ·obtain⟨q,rfl⟩:∃q,k=q+1:=⟨k-1,za⟩;have t:=hd.out;rw[zFh u,qSs]at t;have r:kG d<=1000000:=by
    have K:=zIa n;have L:kG (digits n)=kG d+(kG (digits (q/2))+1):=by rw[<-t];simp
    omega
   obtain⟨m,y⟩:=zB (kG d);rw[y]at b r⊢;have z:=x.out.size;obtain⟨H,c3,I,s,f,g⟩:=Kit.Own.app (ty:=23) (w:=wr.alloc (qm #[qV qj ((q%2:Nat):Int)] 3)) zFn (b.out.alloc _) (qw ⟨wr.heap.size,0,qx⟩) 1 1 [ival (q%2)] (Kit.zAs wr _ 3) rfl (fun h=>by cases h) (zDr [q%2]) (by unfold maxLen;omega) za zq;have j:yI w.heap.size w I:=x.out.trans (((yN _ _).alloc z _).trans ((yN _ _).grown g zq (fun q G=>b.out.block q G)));obtain⟨o,l,B,HM⟩:=yS f j t y;clear f j g t y z hd;have N:IntKind.i64.wrap (((q+1:Nat):Int)-1)=(q:Int):=by rw[qQb _ ⟨za,za⟩];omega
   have O:(q:Int).tmod 2=((q%2:Nat):Int):=by rw[qSd za];rfl
   have P:(q:Int).tdiv 2=((q/2:Nat):Int):=by rw[Int.tdiv_eq_ediv_of_nonneg za];rfl
   go_wp2_with (at_builtin;refine xA rfl (.tmp 8) (.tmp 12) 23 rfl rfl rfl s ?_);go_roundw
   case rel=>exact⟨q/2,d++[q%2],H,c3,rfl,by rw[qPx,HM.out];rfl,za,zH (by rw[qQw];exact B.out),zH (by rw[qPx,HM.out,qQd];exact o.out),l⟩
   case measure=>simp[intOf];omega
end Zr
namespace Ix
open Front
def fi (P:Nat->Bool):List Nat->Nat
 |[]=>0
 |x::r=>if P x then 0 else fi P r+1
theorem qCc (P:Nat->Bool):∀l,fi P l<=kG l
 |[]=>qPq _
 |x::r=>by have:=qCc P r;unfold fi;split<;>rw[qP3]<;>omega
theorem qCd (P:Nat->Bool):∀(l:List Nat) (k:Nat) (a:k<kG l),(∀j (c:j<k),P (l[j]' za)=yE)->P l[k]=yD->fi P l=k
 |[],k,a,_,_=>by simp at a
 |x::r,0,_,_,h=>by simp at h;unfold fi;rw[qPr h]
 |x::r,k+1,a,h0,h=>by
  have b:P x=yE:=h0 0 za;unfold fi;rw[b,if_neg zm,qCd P r k (by simpa using a) (fun j c=>by have:=h0 (j+1) za;simpa using this) (by simpa using h)]
theorem zT3 (P:Nat->Bool):∀l:List Nat,(∀x∈l,P x=yE)->fi P l=kG l
 |[],_=>rfl
 |x::r,h=>by
  unfold fi;rw[h x zm,qPt zm,zT3 P r (fun y a=>h y (by simp[a]))];rfl
@[irreducible] def ix (P:Nat->Bool) (l:List Nat):Int:=if fi P l<kG l then(fi P l:Int)else-1
theorem qB6 (P:Nat->Bool) (l:List Nat) (k:Nat) (a:k<kG l) (b:∀j (c:j<k),P (l[j]' za)=yE) (h:P l[k]=yD):ix P l=(k:Int):=by
 unfold ix;rw[qCd P l k a b h,qPr a]
theorem zNm (P:Nat->Bool) (l:List Nat) (h:∀j (a:j<kG l),P l[j]=yE):ix P l= -1:=by
 unfold ix;rw[zT3 P l (fun x b=>by obtain⟨j,a,rfl⟩:=qTd b;exact h j a),qPt (Nat.lt_irrefl _)]
theorem zXo (P:Nat->Bool) (l:List Nat):decide (0<=ix P l)=l.any P:=by
 by_cases h:∀x∈l,P x=yE
 ·rw[zNm P l (fun j f=>h _ (qQ f))];rw[List.any_eq_false.2 (fun x a=>by rw[h x a];simp)];rfl
 ·have d:l.any P=yD:=by
   rw[List.any_eq_true];apply Classical.byContradiction;intro g;exact h (fun x a=>by cases hp:P x with|false=>rfl|true=>exact absurd ⟨x,a,hp⟩ g)
  have e:fi P l<kG l:=by
   rcases qP8 (fi P l) (kG l) with c|c
   ·exact c
   ·exfalso;have:∀m:List Nat,kG m<=fi P m->∀x∈m,P x=yE:=by
     intro m
     induction m with
     |nil=>intro _ x a;cases a
     |cons y r ih=>
      intro b x a;unfold fi at b;split at b
      ·simp at b
      ·rename_i hy
       rcases qP7.1 a with rfl|a
       ·simpa using hy
       ·exact ih (by simpa using b) x a
    exact h (this l c)
  rw[d];unfold ix;rw[qPr e];simp
def zG3 (f:Nat):Prop:=∀(args:Array qz) (w:qy),(callFunc f args).run yG w= .ok (.enter f args) w
theorem zHw {f:Nat} {fn:Func} {c:Code} (e:prog.funcs[f]? =qw fn) (a:(fn.name== "runtime.NumGoroutine")=yE) (d:fn.body=qw c):zG3 f:=by
 intro args w;have b:fn.name≠ "runtime.NumGoroutine":=by simpa using a
 simp[callFunc,e,b,d]
theorem zBw {k:IntKind} {a b:Int} (h:a=b):Ending.returned (qV k a)=qp (qV k b):=by rw[h]
theorem qFz (P:Nat->Bool) (l:List Nat) (f:Nat) (a:Option yB) (n c:Nat) (w:qy) (t:kG l=n) (K:n<=1000000000) (u:yZ w a (l.map ival)) (F:zG3 f)
  (H:∀x∈l,yC yG f #[ival x] w fun e w'=>e=qp (qc (P x))/\w'=w):
  yC yG 152 #[qX a n c,.func (.func f) #[] #[]] w fun e w'=>e=qp (qV qj (ix P l))/\w'=w:=by
 obtain⟨B,r,y⟩:=yR u t H;unfold zG3 at F;clear u t H;go_enter func152,ntmps152;go_wp2;go_loopw [8] (fun i wr=>∃k:Nat,k<=n/\i=qV qj k/\wr=w/\yH (∀j (o:j<kG l),j<k->P l[j]=yE)) (fun i _=>n-(intOf i).toNat)
 case atStart=>exact⟨0,za,rfl,rfl,zH (fun j _ o=>absurd o za)⟩
 case round=>
  obtain⟨k,L,rfl,rfl,d⟩:=hrel;by_cases m:k<n
  ·have g:k<kG l:=by rw[r.out];exact m
   obtain⟨x,p⟩:=zB (l[k]);obtain⟨b,off,rfl,I⟩:=B.out k (ival x) (by rw[qP2,qPu g,p];rfl);obtain⟨z,h,s⟩:=yR (y.out x (by rw[<-p];exact qQ g)) g p;clear p;go_wp2_with fail;(with_reducible refine z.out.mono ?_);rintro e w2 ⟨rfl,rfl⟩;cases hp:P x with
   |true=>
    have q:=zH hp;clear hp;go_wp2;go_ret;exact⟨zBw (qB6 P l k h.out (fun j o=>d.out j (by have:=h.out;omega) o) (by rw[s.out];exact q.out)).symm,rfl⟩
   |false=>
    have q:=zH hp;clear hp;go_wp2;go_roundw
    case rel=>
     refine⟨k+1,za,by go_num,trivial,zH (fun j o G=> ?_)⟩;by_cases e:j=k
     ·subst e;rw[s.out];exact q.out
     ·exact d.out j o za
    case measure=>simp[intOf];omega
  ·obtain rfl:k=n:=za
   go_wp2;go_ret;exact⟨zBw (zNm P l (fun j o=>d.out j o (by rw[<-r.out];exact o))).symm,rfl⟩
theorem zE5 (P:Nat->Bool) (l:List Nat) (f:Nat) (a:Option yB) (n c:Nat) (w:qy) (d:kG l=n) (i:n<=1000000000) (g:yZ w a (l.map ival)) (b:zG3 f)
  (H:∀x∈l,yC yG f #[ival x] w fun e w'=>e=qp (qc (P x))/\w'=w):
  yC yG 79 #[qX a n c,.func (.func f) #[] #[]] w fun e w'=>e=qp (qc (l.any P))/\w'=w:=by
 have h:=zH (qFz P l f a n c w d i g b H);have j:=zXo P l;clear d g b H;go_enter func79,ntmps79;go_wp2_with fail;(with_reducible refine h.out.mono ?_);rintro e w2 ⟨rfl,rfl⟩;go_wp2;go_ret;exact⟨rfl,rfl⟩
theorem zXs (P:Nat->Bool) (l:List Nat) (f:Nat) (v:qz) (a:Option yB) (n c:Nat) (w:qy) (t:kG l=n) (K:n<=1000000000) (u:yZ w a (l.map ival)) (F:zG3 f)
  (H:∀x∈l,yC yG f #[ival x,v] w fun e w'=>e=qp (qc (P x))/\w'=w):
  yC yG 152 #[qX a n c,.func (.func f) #[] #[v]] w fun e w'=>e=qp (qV qj (ix P l))/\w'=w:=by
 obtain⟨B,r,y⟩:=yR u t H;unfold zG3 at F;clear u t H;go_enter func152,ntmps152;go_wp2;go_loopw [8] (fun i wr=>∃k:Nat,k<=n/\i=qV qj k/\wr=w/\yH (∀j (o:j<kG l),j<k->P l[j]=yE)) (fun i _=>n-(intOf i).toNat)
 case atStart=>exact⟨0,za,rfl,rfl,zH (fun j _ o=>absurd o za)⟩
 case round=>
  obtain⟨k,L,rfl,rfl,d⟩:=hrel;by_cases m:k<n
  ·have g:k<kG l:=by rw[r.out];exact m
   obtain⟨x,p⟩:=zB (l[k]);obtain⟨b,off,rfl,I⟩:=B.out k (ival x) (by rw[qP2,qPu g,p];rfl);obtain⟨z,h,s⟩:=yR (y.out x (by rw[<-p];exact qQ g)) g p;clear p;go_wp2_with fail;(with_reducible refine z.out.mono ?_);rintro e w2 ⟨rfl,rfl⟩;cases hp:P x with
   |true=>
    have q:=zH hp;clear hp;go_wp2;go_ret;exact⟨zBw (qB6 P l k h.out (fun j o=>d.out j (by have:=h.out;omega) o) (by rw[s.out];exact q.out)).symm,rfl⟩
   |false=>
    have q:=zH hp;clear hp;go_wp2;go_roundw
    case rel=>
     refine⟨k+1,za,by go_num,trivial,zH (fun j o G=> ?_)⟩;by_cases e:j=k
     ·subst e;rw[s.out];exact q.out
     ·exact d.out j o za
    case measure=>simp[intOf];omega
  ·obtain rfl:k=n:=za
   go_wp2;go_ret;exact⟨zBw (zNm P l (fun j o=>d.out j o (by rw[<-r.out];exact o))).symm,rfl⟩
theorem zO3 (P:Nat->Bool) (l:List Nat) (f:Nat) (v:qz) (a:Option yB) (n c:Nat) (w:qy) (d:kG l=n) (i:n<=1000000000) (g:yZ w a (l.map ival)) (b:zG3 f)
  (H:∀x∈l,yC yG f #[ival x,v] w fun e w'=>e=qp (qc (P x))/\w'=w):
  yC yG 79 #[qX a n c,.func (.func f) #[] #[v]] w fun e w'=>e=qp (qc (l.any P))/\w'=w:=by
 have h:=zH (zXs P l f v a n c w d i g b H);have j:=zXo P l;clear d g b H;go_enter func79,ntmps79;go_wp2_with fail;(with_reducible refine h.out.mono ?_);rintro e w2 ⟨rfl,rfl⟩;go_wp2;go_ret;exact⟨rfl,rfl⟩
end Ix
namespace Zr
open Front Ix
theorem zWx (t:Nat):∀l:List Nat,row t l=fi (fun x=>decide (t<x)) l
 |[]=>rfl
 |x::r=>by
  unfold row fi;by_cases h:x<=t
  ·rw[qPr h,zWx t r,qP1 za,qPt zm]
  ·rw[qPt h,qP9 za,qPr rfl]
theorem qFt (t:Nat) (l:List Nat):(row t l=kG l/\ix (fun x=>decide (t<x)) l= -1)\/(row t l<kG l/\ix (fun x=>decide (t<x)) l=(row t l:Int)):=by
 rw[zWx];have:=qCc (fun x=>decide (t<x)) l;unfold ix;by_cases h:fi (fun x=>decide (t<x)) l<kG l
 ·rw[qPr h];exact .inr ⟨h,rfl⟩
 ·rw[qPt h];exact .inl ⟨za,rfl⟩
theorem zZk (x t B:Nat) (c:x<=1000000000) (b:t<=1000000000) (w:qy) (h:w.cell? ⟨B,0,qx⟩=qw (ival t)):
  yC yG 153 #[ival x,qY (qw ⟨B,0,qx⟩)] w fun e w'=>e=qp (qc (yF (t<x)))/\w'=w:=by
 have a:decide ((t:Int)<(x:Int))=yF (t<x):=by simp
 go_enter func153,ntmps153;go_wp2;go_ret;simp
theorem zJm (l:List Nat) (t:Nat) (a:Option yB) (n c:Nat) (w:qy) (i:kG l=n) (u:n<=1000000000) (q:yZ w a (l.map ival)) (o:∀x∈l,x<=1000000000) (y:t<=1000000000):
  yC yG 82 #[qX a n c,qV qj (t:Int)] w fun e w'=>e=qp (qV qj (row t l:Int))/\yI w.heap.size w w':=by
 have G:∀(fn:Fn) (first j:Array qz) (w:qy),(Instr.makeFunc fn first j).run yG w= .ok (.func fn first j) w:=fun _ _ _ _=>rfl;obtain⟨W,g⟩:=zB (w.alloc (qm #[ival t] 3));have h:yI w.heap.size w W:=by rw[<-g];exact(yN _ _).alloc (qPq _) _
 have m:W.cell? ⟨w.heap.size,0,qx⟩=qw (ival t):=by rw[<-g];simp
 have d:yZ W a (l.map ival):=q.below h;have k:=zH (zXs (fun x=>decide (t<x)) l 153 (qY (qw ⟨w.heap.size,0,qx⟩)) a n c W i u d (zHw func153 rfl rfl)
  (fun x B=>zZk x t w.heap.size (o x B) y W m))
 have HB:=zH h;have b:=qFt t l;rw[i]at b;have f:=zH b;clear i q d o m h b;obtain⟨z,s⟩:=zB (ix (fun x=>decide (t<x)) l);obtain⟨r,p⟩:=zB (row t l);rw[s]at k f;rw[p]at f⊢;clear s p;go_enter func82,ntmps82;go_wp2_with fail;clear g;(with_reducible refine k.out.mono ?_);rintro e w2 ⟨rfl,rfl⟩;rcases f.out with⟨rfl,rfl⟩|⟨F,rfl⟩
 ·go_wp2;go_ret;exact⟨rfl,HB.out⟩
 ·have H:decide ((r:Int)<0)=yE:=qP1 za;go_wp2;go_ret;exact⟨rfl,HB.out⟩
end Zr
namespace Zr
open Front Ix
theorem zVn (x:Nat) (b:x<=1000000000) (w:qy):
  yC yG 151 #[ival x] w fun e w'=>e=qp (qc ((fun _=>yE) x))/\w'=w:=by
 have a:decide ((x:Int)<0)=yE:=qP1 za;go_enter func151,ntmps151;go_wp2;go_ret;exact⟨rfl,rfl⟩
theorem any_false (l:List Nat):l.any (fun _=>yE)=yE:=by simp
theorem zPc (l:List Nat) (a:Option yB) (n c:Nat) (w:qy) (f:kG l=n) (h:n<=1000000000) (g:yZ w a (l.map ival)) (d:∀x∈l,x<=1000000000):
  yC yG 78 #[qX a n c] w fun e w'=>e=qp (qc yE)/\w'=w:=by
 have b:=zH (zE5 (fun _=>yE) l 151 a n c w f h g (zHw func151 rfl rfl) (fun x i=>zVn x (d x i) w));rw[any_false]at b;clear f g d;go_enter func78,ntmps78;go_wp2_with fail;(with_reducible refine b.out.mono ?_);rintro e w2 ⟨rfl,rfl⟩;go_wp2;go_ret;exact⟨rfl,rfl⟩
end Zr
namespace Zr
open Front Bt
variable {w w':qy} {D R n c:Nat} {a:Option yB} {l:List Nat}
structure Ls (w:qy) (D R:Nat) (a:Option yB) (n c:Nat) (l:List Nat):Prop where
 blk:w.heap[R]? =qw (qm #[qX a n c] 158)
 own:yg w D 3 a n c (l.map ival)
 base:D<=R
theorem zAd {k:Nat} {o:Obj} (h:w.heap[k]? =qw o):k<w.heap.size:=by
 rcases qP8 k w.heap.size with b|a
 ·exact b
 ·rw[qRj a]at h;cases h
theorem Ls.lt (h:Ls w D R a n c l):R<w.heap.size:=zAd h.blk
theorem Ls.len (h:Ls w D R a n c l):kG l=n:=by
 have:=h.own.len;simpa using this
theorem own_ne {B:Nat} {e t:yA} {xs:List qz} {j:Array qz} {f:Nat×Nat} (h:yg w B e a n c xs) (k:w.heap[R]? =qw (qm j t f)) (m:t≠e):
  (Value.slice a n c).ownBlock≠qw R:=by
 intro i;obtain⟨_,d⟩:=h;rcases d with⟨d,_⟩|⟨g,o,p,hv,q,b,_⟩
 ·injection d with d _ _
  subst d;simp[Value.ownBlock]at i
 ·injection hv with ha _ hc
  subst ha;simp[Value.ownBlock]at i;subst i;rw[k]at b;injection b with b
  injection b with _ b _
  exact m b
theorem Ls.below {E:Nat} (h:Ls w D R a n c l) (b:yI E w w') (d:E=w.heap.size):Ls w' D R a n c l:=by
 subst d;exact⟨(b.block R h.lt).trans h.blk,h.own.below b (qPq _),h.base⟩
theorem Ls.put {a':Option yB} {b c':Nat} {l':List Nat} (h:Ls w D R a n c l) (g:yg w' D 3 a' b c' (l'.map ival)) (f:w.grownBy w' (Value.ownBlock (qX a n c))):
  Ls (w'.setCell ⟨R,0,qx⟩ (qX a' b c')) D R a' b c' l'/\yI D w (w'.setCell ⟨R,0,qx⟩ (qX a' b c')):=by
 have hne:=own_ne h.own h.blk z8;have d:w'.heap[R]? =qw (qm #[qX a n c] 158):=(f.block R h.lt (fun e=>hne e.symm)).trans h.blk;have i:yI D w w':=Kit.zAq f (qP4 h.base (qP6 h.lt)) (fun k j=>h.own.block k j);refine⟨⟨?_,?_,h.base⟩,i.setCell h.base _⟩
 ·simp[World.setCell,qQs,d]
 ·exact qRy g (zB1 w' R 0 _) (.inr (own_ne g d z8))
theorem zNn:Kit.One yG 23 3 8:=zFn
theorem zJx (D R:Nat) (a:Option yB) (n c:Nat) (l:List Nat) (x:Option yB) (m d:Nat) (b:List Nat) (w:qy) (h:Ls w D R a n c l)
  (j:yZ w x (b.map ival)) (k:kG b=m) (q:x=qx->m=0/\d=0) (r:n+m<=1000000):
  yC yG 81 #[qY (qw ⟨R,0,qx⟩),qX x m d] w fun e w'=>e=qp (qZ #[])/\∃a' c',Ls w' D R a' (n+m) c' (l++b)/\yI D w w':=by
 obtain⟨a',c',w',o,g,f⟩:=Kit.Own.app (ty:=23) zNn h.own x m d (b.map ival) j (by simpa using k) q (by intro u p;obtain⟨y,_,rfl⟩:=List.mem_map.1 p;rfl) (by unfold maxLen;omega) za (by have:=h.base;have:=h.lt;omega);rw[<-qQd]at g;have i:=zH (h.put g f);obtain⟨s,z⟩:=zEb h.blk;have hne:=own_ne h.own h.blk z8;obtain⟨t,B⟩:=zEb ((f.block R h.lt (fun e=>hne e.symm)).trans h.blk);clear h j g f;go_enter func81,ntmps81;go_wp2_with (at_builtin;refine xA rfl (.tmp 8) (.tmp 9) 23 rfl rfl rfl o ?_);go_end0;exact⟨rfl,a',c',i.out.1,i.out.2⟩
end Zr
namespace Zr
open Front Ix Bt
variable {w:qy} {B n c:Nat} {e:yA} {a:Option yB} {xs:List qz}
def Ad (a:Option yB) (n c:Nat):Prop:=(a=qx/\n=0/\c=0)\/(n<=c/\c<=9223372036854775807/\∃b off,a=qw ⟨b,off,qx⟩)
theorem Ad.zIz (h:yg w B e a n c xs):Ad a n c:=by
 obtain⟨_,d⟩:=h;rcases d with⟨d,_⟩|⟨g,i,j,hv,k,l,b,f⟩
 ·injection d with h1 d f
  exact .inl ⟨h1,d,f⟩
 ·injection hv with ha _ hcc
  subst ha hcc;refine .inr ⟨b,?_,_,_,rfl⟩;have:=f.1;unfold maxLen at this;omega
theorem Src.drop {b off:Nat} {l:List Nat} (h:yZ w (qw ⟨b,off,qx⟩) (l.map ival)) (k:Nat):yZ w (qw ⟨b,off+k,qx⟩) ((l.drop k).map ival):=by
 intro j u f;rw[qP2,List.getElem?_drop]at f;obtain⟨b',i,d,g⟩:=h (k+j) u (by rw[qP2];exact f);injection d with d
 injection d with h1 h2 _
 subst h1 h2;exact⟨b,off+k,rfl,by rw[qR2];exact g⟩
theorem zUp {P:Program} {c X:Code} {a:Act} {Q:Exit->Act->qy->Prop} (l:Nat) (J:Act->qy->Prop) (μ:Act->qy->Nat) (d:findLabel c l=qw (Code.skip.seq X))
  (b:∀a w,J a w->X.wp P (Exit.jump l (fun a' w'=>J a' w'/\μ a' w'<μ a w) Q) a w) (first:(∀a w,J a w->X.wp P (Exit.jump l J Q) a w)->c.wp P (Exit.jump l J Q) a w):(Code.scope c).wp P Q a w:=by
 refine wp_scope_jumps l J μ d (first fun a w h=>Code.wp_mono (fun e a' w' q=> ?_) (b a w h)) (fun a w h=> ?_)
 ·cases e with
  |goto l'=>exact⟨q.1,q.2.1⟩
  |_=>exact q
 ·refine wp_seq (wp_skip ?_);exact b a w h
def lenOf:qz->Nat
 |qX _ n _=>n
 |_=>0
theorem zLb (h:yg w B e a n c xs) (d:a=qx):n=0/\c=0:=by
 obtain⟨_,b⟩:=h;rcases b with⟨b,_⟩|⟨g,f,i,hv,_⟩
 ·injection b with h1 b h3
  exact⟨b,h3⟩
 ·injection hv with ha' _ _
  rw[d]at ha';cases ha'
theorem qA7 (x:Nat) (d:x<=1000000000) (w:qy):
  yC yG 80 #[ival x] w fun e w'=>e=qp (qc ((fun _=>yE) x))/\w'=w:=by
 have b:decide ((1099511627776:Int)<(x:Int))=yE:=qP1 za;go_enter func80,ntmps80;go_wp2;go_ret;exact⟨rfl,rfl⟩
def EJ (B:Nat) (w:qy) (n:Nat) (T:List Nat) (a':Act) (wr:qy):Prop:=∃(r d:List Nat) (f:Option yB) (b c2 X:Nat) (p:Option yB) (W:Nat),b<=n/\kG r=b/\yH (∀x∈r,x<=100000)/\yH (yZ w f (r.map ival))/\yH (Ad f b c2)/\yH (Ls wr B B p X W d)/\yH (yI B w wr)/\yH (T=d++enc 0 r)/\∃(Y Z u3 u6 u7 u8 u9 g h i j k l m o q s t u y z F G H I K L M N O P R S V:qz),a'={tmps:= #[qX f b c2,Y,Z,u3,qY (qw ⟨B,0,qx⟩),.func (.func 81) #[qY (qw ⟨B,0,qx⟩)] #[],u6,u7,u8,u9,g,h,i,j,k,l,m,o,q,s,t,u,y,z,F,G,H,I,K,L,M,N,O,P,R,S,V],defers:=[]}
theorem zD8 (l:List Nat) (a:Option yB) (n c:Nat) (w:qy) (hn:kG l=n) (ba:n<=100000) (hs:yZ w a (l.map ival)) (had:Ad a n c) (hl:∀x∈l,x<=100000):
  yC yG 22 #[qX a n c] w fun e w'=>∃a' c',e=qp (qZ #[qX a' (kG (enc 0 l)) c',qV qj 0])/\yg w' w.heap.size 3 a' (kG (enc 0 l)) c' ((enc 0 l).map ival)/\yI w.heap.size w w':=by
 have b9:∀(fn:Fn) (first b3:Array qz) (w:qy),(Instr.makeFunc fn first b3).run yG w= .ok (.func fn first b3) w:=fun _ _ _ _=>rfl;obtain⟨B,hB⟩:=zB w.heap.size;obtain⟨W,hW⟩:=zB (w.alloc (qm #[qX qx 0 0] 158));have ae:yI B w W:=by rw[<-hW,<-hB];exact(yN _ _).alloc (qPq _) _
 have hX:W.heap[B]? =qw (qm #[qX qx 0 0] 158):=by
  rw[<-hW,<-hB];show(w.heap.push _)[w.heap.size]? =_;simp
 obtain⟨ah,ai,aa,a5⟩:=yS (Ls.mk (D:=B) (l:=[]) hX (Kit.Own.start _ _ _) (qPq _)) ae (zPc l a n c w hn za hs (fun x hx=>by have:=hl x hx;omega)) (zE5 (fun _=>yE) l 80 a n c w hn za hs (zHw func80 rfl rfl) (fun x hx=>qA7 x (by have:=hl x hx;omega) w));rw[any_false]at a5;obtain⟨HS,HL,HN,au⟩:=yS hs hl hn had;clear ae hX hs hl hn had;rw[hB];have G:=zJz l 0;rw[HN.out]at G;obtain⟨T,V⟩:=zB (enc 0 l);rw[V]at G⊢;have ap:=yP (kG T<=100000) (by omega);have b1:=zH V;clear G V;go_enter func22,ntmps22;go_wp2_with fail;refine zUp 0 (EJ B w n T) (fun a' _=>lenOf (a'.tmps.getD 0 yJ)) rfl ?_ ?_
 ·clear aa a5 HS HL HN au ah ai hW;rintro a' wr ⟨r,d,a2,n2,c2,np,p,cp,b5,H,S,R,had,ao,I,hT,u1,u2,u3,u6,u7,u8,u9,bf,bg,bh,bi,bj,bk,bn,bo,bp,bq,br,bu,bw,bx,bz,c6,c7,c8,ca,cb,cc,cd,ce,cf,cg,ci,cj,rfl⟩;have z:=zH (zJm r 0 a2 n2 c2 wr H za (R.out.below (by rw[hB];exact I.out)) (fun x hx=>by have:=S.out x hx;omega) za);have a8:=zQe 0 r;have L:=qD5 r 0;rw[qQc]at L;obtain⟨q,hq⟩:=zB (row 0 r);rw[hq]at z a8 L;rw[show((0:Nat):Int)=0 from rfl]at z;obtain⟨K,i⟩:=yQ L H;rw[H]at a8;clear hq L H;go_wp2_with fail;(with_reducible refine z.out.mono ?_);clear z;rintro e w3 ⟨rfl,ag⟩;have z:=zH (zMt q za w3);obtain⟨s,hs⟩:=zB (kG (digits q));rw[hs]at z;obtain⟨H3,aq⟩:=yQ ag hs;clear ag hs;go_wp2_with fail;(with_reducible refine z.out.mono ?_);clear z;rintro e w4 ⟨a3,c3,rfl,a4,a7⟩;have N:=(ao.out.below H3.out rfl).below a7 rfl;have O:=(I.out.trans (H3.out.mono (by have:=I.out.size;omega))).trans (a7.mono (by have:=I.out.size;have:=H3.out.size;omega));have z:=zH (zJx B B p np cp d a3 s c3 (digits q) w4 N a4.src aq.out (zLb a4) (by
   have h1:=ao.out.len;have h2:=ap.out;rw[hT.out,K.out]at h2;have h3:=aq.out;cases hx:r.drop q with
   |nil=>rw[hx]at h2;simp only[qPx]at h2;omega
   |cons y t=>rw[hx]at h2;simp only[qPx,qP3]at h2;omega))
  have an:=zH O;clear N O a4 a7 H3;go_wp2_with fail;(with_reducible refine z.out.mono ?_);clear z;rintro e w5 ⟨rfl,p5,a0,a1,av⟩;obtain⟨g,u⟩:=yQ a1 (an.out.trans (av.mono (qPq _)));clear a1 av an;rcases had.out with⟨rfl,rfl,rfl⟩|⟨bb,b7,b,af,rfl⟩
  ·obtain rfl:q=0:=za
   have b2:r=[]:=qQz i.out;subst b2;obtain⟨x0,f0⟩:=zEb g.out.blk;have f:T=d++digits 0:=by rw[hT.out,K.out];rfl
   have k:kG T=np+s:=by rw[f];exact g.out.len
   obtain⟨o,m⟩:=yQ f k;clear f k;go_wp2;simp only[Exit.jump];go_ret2;refine⟨p5,a0,by rw[m.out];rfl,?_,u.out⟩;rw[m.out,o.out];exact g.out.own
  ·by_cases ab:q<n2
   ·obtain⟨x,hx⟩:=zB (r[q]'(by rw[i.out];exact ab));have j:q<kG r:=by rw[i.out];exact ab
    have F:r.drop q=x::r.drop (q+1):=by rw[qSa j,hx]
    have f:T=(d++digits q)++(x+1)::enc 0 (r.drop (q+1)):=by
     rw[hT.out,K.out,F];simp
    obtain⟨b',b6,P,e0⟩:=(R.out.below (w':=w5) (by rw[hB];exact u.out)) q (ival x) (by rw[qP2,qPu j,hx];rfl);injection P with P
    injection P with hb1 hb2 _
    subst hb1 hb2;have bd:x<=100000:=by rw[<-hx];exact S.out _ (qQ j)
    have o:=zH f;have az:=g.out.len;have aj:np+s+1<=1000000:=by
     have h1:=ap.out;rw[f,qPx,qP3]at h1;omega
    have ad:=R.out;have ay:=zH (Src.drop ad (q+1));have Z:=yP (∀x∈r.drop (q+1),x<=100000) fun y hy=>S.out y (List.mem_of_mem_drop hy);have a6:=yP (kG (r.drop (q+1))=n2-q-1) (by rw[qQn,i.out];omega);obtain⟨W6,M⟩:=zB (w5.alloc (qm #[qV qj ((x:Int)+1)] 3));have Y:yI w5.heap.size w5 W6:=by rw[<-M];exact(yN _ _).alloc (qPq _) _
    have a9:yZ W6 (qw ⟨w5.heap.size,0,qx⟩) ([x+1].map ival):=by rw[<-M];exact Kit.zAs w5 _ _
    obtain⟨z,b0⟩:=yQ (zJx B B p5 (np+s) a0 (d++digits q) (qw ⟨w5.heap.size,0,qx⟩) 1 1 [x+1] W6 (g.out.below Y rfl) a9 rfl (fun h=>by cases h) aj) (u.out.trans (Y.mono (by have:=u.out.size;omega)));have bc:IntKind.i64.wrap ((x:Int)+1)=(x:Int)+1:=by rw[qQb _ ⟨za,za⟩]
    clear hx F f az aj ad Y a9 j;go_wp2_with fail;clear M e0;(with_reducible refine z.out.mono ?_);rintro e w7 ⟨rfl,p7,ac,X,ax⟩;obtain⟨ar,ak⟩:=yQ X (b0.out.trans ax);clear X ax z;have b8:((n2-q-1:Nat):Int)=(n2:Int)-q-1:=za
    have am:=yP (T=((d++digits q)++[x+1])++enc 0 (r.drop (q+1))) (by rw[o.out];simp);go_wp2
    ·rename_i hc1
     go_step3;refine(show _/\_ from⟨rfl,?_,?_⟩)
     ·refine⟨r.drop (q+1),(d++digits q)++[x+1],qw ⟨b,af+q,qx⟩,n2-q-1,0,np+s+1,p7,ac,za,a6.out,Z,zH ?_,zH (.inr ⟨za,za,_,_,rfl⟩),ar,ak,am,_,_,_,_,_,_,_,_,_,_,_,_,_,_,_,_,_,_,_,_,_,_,_,_,_,_,_,_,_,_,_,_,_,_,rfl⟩;rw[qSw (by rw[i.out];omega)];exact Kit.Src.nil _ _
     ·simp[lenOf];omega
    ·rename_i hc1
     go_step3;refine(show _/\_ from⟨rfl,?_,?_⟩)
     ·exact⟨r.drop (q+1),(d++digits q)++[x+1],qw ⟨b,af+(q+1),qx⟩,n2-q-1,c2-q-1,np+s+1,p7,ac,za,a6.out,Z,ay,zH (.inr ⟨za,za,_,_,rfl⟩),ar,ak,am,_,_,_,_,_,_,_,_,_,_,_,_,_,_,_,_,_,_,_,_,_,_,_,_,_,_,_,_,_,_,_,_,_,_,rfl⟩
     ·simp[lenOf];omega
   ·obtain rfl:q=n2:=za
    have F:r.drop q=[]:=qSw (by rw[i.out];omega);have f:T=d++digits q:=by rw[hT.out,K.out,F]
    have k:kG T=np+s:=by rw[f];exact g.out.len
    obtain⟨o,m⟩:=yQ f k;clear f k F;obtain⟨x0,f0⟩:=zEb g.out.blk;go_wp2
    all_goals
     simp only[Exit.jump];go_ret2;refine⟨p5,a0,by rw[m.out];rfl,?_,u.out⟩;rw[m.out,o.out];exact g.out.own
 ·intro b4;go_wp2_with fail;(with_reducible refine aa.out.mono ?_);rintro e w2 ⟨rfl,rfl⟩;go_wp2_with fail;(with_reducible refine a5.out.mono ?_);rintro e w2 ⟨rfl,rfl⟩;go_wp2_with fail;go_step3
  rename_i hK
  refine hK _ _ (b4 _ _ ⟨l,[],a,n,c,0,qx,0,qPq _,HN.out,HL,HS,au,ah,ai,zH (by rw[b1.out];rfl),_,_,_,_,_,_,_,_,_,_,_,_,_,_,_,_,_,_,_,_,_,_,_,_,_,_,_,_,_,_,_,_,_,_,rfl⟩)
end Zr
namespace Zr
open Go.Shelf Front Ix Bt Rg
variable {W W' w:qy} {C:Nat->Prop} {b l:Nat} {t:yA} {v:qz} {o:Obj}
attribute [local go_sem] Oper.semAt_some
theorem zO7 {p:yB} {u:qz} (h:W.cell? p=qw u):∃a t f,W.heap[p.block]? =qw (qm a t f):=by
 obtain⟨o,c,d⟩:=cells_of_cell h;cases o with
 |cells a t f=>exact⟨a,t,f,c⟩
 |_=>cases d
theorem zP4 {a:Option yB} {xs:List qz} (h:yZ W a xs) (n:Sb C W W') (m:∀p,a=qw p->¬C p.block):yZ W' a xs:=by
 intro j u q;obtain⟨b,c,e,d⟩:=h j u q;obtain⟨i,t,f,g⟩:=zO7 d;have k:=n.2 b i t f g (m _ e);exact⟨b,c,e,by rw[qRe (w:=W) (a:=⟨b,c+j,qx⟩) (k.trans g.symm)];exact d⟩
theorem zIf (h:Boxed W b t v) (c:Sb C W W') (a:¬C b):Boxed W' b t v:=c.2 b _ _ _ h a
theorem qBj (b:Nat) (a:Option yB) (n c:Nat) (l:List Nat) (V:kG l=n) (hn:n<=1000000) (C:Nat->Prop) (hC:¬C b) (Z:∀p,a=qw p->¬C p.block) (W:qy) (y:Boxed W b 23 (qX a n c)) (X:yZ W a (l.map ival)):
  zR7 yG 202 #[qY (qw ⟨b,0,qx⟩)] (fun x _ vs=>∃i:Int,vs= #[qV qj i,ival x]) (fun A B=>∃n,B=A.drewN n) C l.reverse W:=by
 intro k0 J Jx O R N;refine qS6 func202 rfl trivial ?_ rfl;simp only[ntmps202,qQ0,qP3,qQx,Nat.reduceAdd,Nat.reduceSub,qQ9,qR,qRa,qRb,qQl,qQr];obtain⟨u,HS,M,HJ,HY,H0⟩:=yU y X V O R N;have w:=y.cell;clear y X V O R N;have i0:IntKind.i64.wrap ((n:Int)-1)=(n:Int)-1:=qQb _ ⟨za,za⟩;gi_wp2;clear w i0;gi_loopw [3] (fun v wr=>∃(k:Nat),k<=n/\v=qV qj ((k:Int)-1)/\yH (Boxed wr b 23 (qX a n c))/\yH (yZ wr a (l.map ival))/\yH (J (l.drop k).reverse wr)) (fun v _=>(intOf v+1).toNat)
 case atStart=>exact⟨n,za,rfl,u,HS,zH (by rw[qSw (by rw[M.out];omega)];exact H0.out)⟩
 case round=>
  obtain⟨k,hk,rfl,o,m,S⟩:=hrel;rcases qQy k with Y|Y
  ·subst Y;have j:=S.out;rw[qR3]at j;have K:=zH j;clear j;gi_wp2;go_end0;exact⟨⟨_,rfl⟩,.inl K.out⟩
  ·obtain⟨q,rfl⟩:∃q,k=q+1:=⟨k-1,za⟩;have s:q<kG l:=by rw[M.out];omega
   obtain⟨x,z⟩:=zB (l[q]);obtain⟨g,off,rfl,e0⟩:=m.out q (ival x) (by rw[qP2,qPu s,z];rfl);have a0:=o.out.cell;have f:(l.drop q).reverse=(l.drop (q+1)).reverse++[x]:=by rw[qSa s,z,List.reverse_cons]
   have d:(l.drop (q+1)).reverse++[x]<+:l.reverse:=by
    rw[<-f];refine⟨(l.take q).reverse,?_⟩;rw[<-List.reverse_append,qR9]
   obtain⟨fn,tmps,assign,body,hy,P⟩:=HY.out (l.drop (q+1)).reverse x wr #[qV qj (q:Int),ival x] S.out ⟨_,rfl⟩ d;obtain⟨F,HR,I⟩:=yR f P d;have i1:((q+1:Nat):Int)-1=(q:Int):=za
   have i2:IntKind.i64.wrap ((q:Int)-1)=(q:Int)-1:=qQb _ ⟨za,za⟩;rw[i1];clear f d z P;gi_wp2;refine HR.out.mono ?_;rintro e W3 (⟨rfl,r,h⟩|⟨rfl,t⟩)
   ·obtain⟨G,L⟩:=yQ (zIf o.out h hC) (zP4 m.out h Z);have H:=yP (J (l.drop q).reverse W3) (by rw[F.out];exact r);clear r h;gi_wp2;go_roundw
    case rel=>exact⟨q,za,rfl,G,L,H⟩
    case measure=>simp[intOf]
   ·gi_wp2;refine qP5 (qSy rfl _ _ _) rfl ?_;exact⟨⟨_,rfl⟩,.inr ⟨_,I.out,t⟩⟩
theorem qAc (x:Nat) (a:x<=1) (w:qy):
  yC yG 162 #[ival x] w fun e w'=>e=qp (qc ((fun _=>yE) x))/\w'=w:=by
 rcases qP8 x 1 with h|h
 ·obtain rfl:x=0:=za
  go_enter func162,ntmps162;go_wp2;go_ret;exact⟨rfl,rfl⟩
 ·obtain rfl:x=1:=za
  go_enter func162,ntmps162;go_wp2;go_ret;exact⟨rfl,rfl⟩
theorem zMe:∀(l m:List Nat),number m<=number (l++m)
 |[],m=>qPq _
 |x::l,m=>by have:=zMe l m;rw[qQr,number];omega
theorem zUy {l pre:List Nat} (h:pre<+:l.reverse):number pre.reverse<=number l:=by
 obtain⟨t,c⟩:=h;have a:=qPs List.reverse c;rw[List.reverse_append,List.reverse_reverse]at a;rw[<-a];exact zMe _ _
theorem zAp (h:Boxed W b t v) (e:W'.heap[b]? =W.heap[b]?):Boxed W' b t v:=e.trans h
theorem zA6 (h:Boxed W b t v) (d:Obj) (a:W.heap[l]? =qw o) (c:o.isCells=yE):Boxed (W.putObj l d) b t v:=by
 refine(World.putObj_heap_other ?_).trans h;rintro rfl;rw[show W.heap[b]? =_ from h]at a;obtain rfl:=qPv a;cases c
theorem zAu {B:Nat} {A:qy} (a:Obj) (h:yI B w A) (f:A.heap[l]? =qw o) (c:B<=l) (d:B<=A.heap.size):yI B w (A.putObj l a):=
 h.trans ((yN B A).grown (grownBy_putObj' A l a) d (fun k e=>by cases e;exact c))
theorem below_drewN {D:Nat} {w':qy} (h:yI D w w') (n:Nat):yI D w (w'.drewN n):=h.trans ⟨rfl,rfl,rfl,qPq _,fun _ _=>rfl⟩
theorem zKr (A B:qy) (h:∃n,B=A.drewN n):KeepsOthers A B:=by
 obtain⟨n,rfl⟩:=h;exact⟨qPq _,fun k o a _=>a⟩
theorem zRz (a:Option yB) (n c:Nat) (w:qy):
  yC yG 163 #[qX a n c] w fun e w'=>e=qp (.func (.func 202) #[] #[qY (qw ⟨w.heap.size,0,qx⟩)])/\w.alloc (qm #[qX a n c] 23)=w':=by
 have f:∀(fn:Fn) (first d:Array qz) (w:qy),(Instr.makeFunc fn first d).run yG w= .ok (.func fn first d) w:=fun _ _ _ _=>rfl;go_enter func163,ntmps163;go_wp2;go_ret;exact⟨rfl,rfl⟩
theorem zUz (l:List Nat) (a:Option yB) (n c:Nat) (w:qy) (hn:kG l=n) (hc:n<=1000000) (hs:yZ w a (l.map ival)) (ha:∀p,a=qw p->p.block<w.heap.size) (hl:∀x∈l,x<=1) (a0:number l<=100000):
  yC yG 110 #[qX a n c] w fun e w'=>e=qp (qZ #[qV qj (number l:Int),qV qj 0])/\yI w.heap.size w w':=by
 have a7:∀(fn:Fn) (first a1:Array qz) (w:qy),(Instr.makeFunc fn first a1).run yG w= .ok (.func fn first a1) w:=fun _ _ _ _=>rfl;obtain⟨B,Z⟩:=zB w.heap.size;obtain⟨y,g⟩:=zB ((w.alloc (qm #[qV qj 0] 3)).alloc (qm #[qV qj 0] 26));have j:y.heap.size=B+2:=by rw[<-g];simp[Z]
 have b2:yI B w y:=by rw[<-g,<-Z];exact((yN _ _).alloc (qPq _) _).alloc zm _
 have x0:Boxed y B 3 (qV qj 0):=by
  rw[<-g,<-Z];exact(Boxed.new w _ _).alloc _
 have x1:Boxed y (B+1) 26 (qV qj 0):=by
  rw[<-g];have:=Boxed.new (w.alloc (qm #[qV qj 0] 3)) 26 (qV qj 0);rw[qTr,Z]at this;exact this
 have G:yZ y a (l.map ival):=hs.below (by rw[Z];exact b2);have HQ:=zH (zE5 (fun _=>yE) l 162 a n c y hn za G (zHw func162 rfl rfl) (fun x hx=>qAc x (hl x hx) y));rw[any_false]at HQ;obtain⟨z,b⟩:=zB (y.alloc (qm #[qX a n c] 23));have aa:z.heap.size=B+3:=by rw[<-b];simp[j]
 have y0:Boxed z B 3 (qV qj 0):=by rw[<-b];exact x0.alloc _
 have y1:Boxed z (B+1) 26 (qV qj 0):=by rw[<-b];exact x1.alloc _
 have y2:Boxed z (B+2) 23 (qX a n c):=by rw[<-b,<-j];exact Boxed.new _ _ _
 have b3:yI B w z:=by rw[<-b];exact b2.alloc za _
 have s3:yZ z a (l.map ival):=hs.below (by rw[Z];exact b3);have HA:=yP (∀p,a=qw p->¬(p.block=B\/p.block=B+1)) (fun p hp h=>by have:=ha p hp;omega);obtain⟨Y0,Y1,Y2,B3,S3,HN,I,a4⟩:=yX y0 y1 y2 b3 s3 hn a0 hl;clear hn hs G a0 x0 x1 y0 y1 y2 b2 b3 s3 ha hl;rw[Z];refine(qQj (n:=3)).1 ?_;refine callsIn_of_wp_marks func110 rfl trivial ?_ rfl;simp only[ntmps110,qQ0,qP3,qQx,Nat.reduceAdd,Nat.reduceSub,qQ9,qR,qRa,qRb,qQl,qQr];gi_wp2_with fail;clear g;refine⟨trivial,(qQj.2 HQ.out).mono ?_⟩;rintro e w2 ⟨rfl,rfl⟩;have HQ:=zH (zRz a n c w2);rw[j,b]at HQ;gi_wp2_with fail;refine⟨trivial,(qQj.2 HQ.out).mono ?_⟩;rintro e w4 ⟨rfl,rfl⟩;clear HQ b j;gi_wp2;refine zDt (gf:=202) (lb:= #[qY (qw ⟨B+2,0,qx⟩)]) rfl (enters_of func202 zf rfl)
  (fun x _ vs=>∃i:Int,vs= #[qV qj i,ival x]) (fun A B=>∃n,B=A.drewN n) (fun k=>k=B\/k=B+1) l.reverse zKr (fun _ _ _ h=>by obtain⟨i,rfl⟩:=h;rfl) (fun _ _ _ _ _ _ _ _ h=>h)
  (fun W hW=>qBj (B+2) a n c l HN.out hc _ za HA.out W (zAp Y2.out (hW.block _ za)) (S3.out.below hW))
  (fun pre W=>Boxed W B 3 (qV qj (number pre.reverse:Int))/\Boxed W (B+1) 26 (qV qj 0)/\yI B w W/\z.heap.size<=W.heap.size)
  (fun _ _ _=>False)
  (fun pre W k o o' hk ho a2 hi=>⟨zA6 hi.1 o' ho a2,zA6 hi.2.1 o' ho a2,zAu o' hi.2.2.1 ho za (by have:=hi.2.2.2;omega),by rw[putObj_size];exact hi.2.2.2⟩)
  (fun _ _ _ _ _ _ _ _ _ h=>h)
  (fun pre A D hi ho=>by obtain⟨m,rfl⟩:=ho;exact⟨hi.1,hi.2.1,below_drewN hi.2.2.1 m,hi.2.2.2⟩)
  (fun o o'=>⟨(Y0.out.alloc o).alloc o',(Y1.out.alloc o).alloc o',(B3.out.alloc za o).alloc zq o',zq⟩)
  (fun vs=>{tmps:= #[qX a n c,yJ,qY (qw ⟨B,0,qx⟩),qY (qw ⟨B+1,0,qx⟩),yJ,vs.getD 1 yJ,qX a n c,qc yE,qX a n c,.func (.func 202) #[] #[qY (qw ⟨B+2,0,qx⟩)],vs.getD 0 yJ,vs.getD 1 yJ,yJ,yJ,yJ,yJ,yJ,yJ,yJ,yJ],defers:=[]}) ?assign ?body ?done ?stop
 case assign=>
  rintro k x W vs K ⟨i,rfl⟩ hK;gi_wp2;exact hK
 case body=>
  rintro k pre x W vs a9 ⟨hv,d,s,hz⟩ ⟨i,rfl⟩ u;have F:=hv.cell;have S:=hv.frozen;have H:=zUy u;rw[List.reverse_append,List.reverse_singleton,List.singleton_append,number]at H;have a8:=I.out;obtain⟨q,hq⟩:=zB (number pre.reverse);rw[hq]at F H;have L:=yP (number (pre++[x]).reverse=2*q+x+1) (by rw[List.reverse_append,List.reverse_singleton,List.singleton_append,number,hq]);have HV:=zH hv;clear hq hv u;have i1:IntKind.i64.wrap (2*(q:Int))=2*(q:Int):=qQb _ ⟨za,za⟩;have i2:IntKind.i64.wrap (2*(q:Int)+(x:Int))=2*(q:Int)+(x:Int):=qQb _ ⟨za,za⟩;have i3:IntKind.i64.wrap (2*(q:Int)+(x:Int)+1)=2*(q:Int)+(x:Int)+1:=qQb _ ⟨za,za⟩;have i4:decide ((1099511627776:Int)<2*(q:Int)+(x:Int)+1)=yE:=qP1 za;gi_wp2;refine⟨KeepsOthers.setCell _ _ _,⟨by simp[World.setCell],fun k cs t f hk a3=>(Below.heap_setCell _ _ _ _ (fun e=>a3 (.inl e))).trans hk⟩,?_,?_,s.setCell (p:=⟨B,0,qx⟩) (qPq _) _,by simp[World.setCell];exact hz⟩
  ·have h1:=HV.out.set (qV qj (2*(q:Int)+(x:Int)+1));rw[L.out,show((2*q+x+1:Nat):Int)=2*(q:Int)+(x:Int)+1 by omega];exact h1
  ·exact zAp d (Below.heap_setCell _ _ _ _ zm)
 case done=>
  rintro D W hD ⟨hv,d,s,hz⟩ hK;rw[List.reverse_reverse]at hv;obtain⟨q,hq⟩:∃q:Int,(number l:Int)=q:=⟨_,rfl⟩;rw[hq]at hv;have Y:=zH hq;have F:=hv.cell;have S:=hv.frozen;have a5:=d.cell;have a6:=d.frozen;obtain⟨HV,O⟩:=yQ hv d;clear hv d hq;gi_wp2;have N:=(KeepsOthers.setCell W ⟨B,0,qx⟩ (qV qj q)).same D _ hK rfl;have r:=(KeepsOthers.setCell (W.setCell ⟨B,0,qx⟩ (qV qj q)) ⟨B+1,0,qx⟩ (qV qj 0)).same D _ N rfl;refine⟨zm,.inl ⟨_,_,rfl,run_takeDeferred r,?_⟩⟩;have P:Boxed ((W.setCell ⟨B,0,qx⟩ (qV qj q)).setCell ⟨B+1,0,qx⟩ (qV qj 0)) B 3 (qV qj q):=zAp (HV.out.set (qV qj q)) (Below.heap_setCell _ _ _ _ zm);have M:Boxed (W.setCell ⟨B,0,qx⟩ (qV qj q)) (B+1) 26 (qV qj 0):=zAp O.out (Below.heap_setCell _ _ _ _ zm);have X:Boxed ((W.setCell ⟨B,0,qx⟩ (qV qj q)).setCell ⟨B+1,0,qx⟩ (qV qj 0)) (B+1) 26 (qV qj 0):=M.set (qV qj 0);have V:=(zA6 P (qo qx) r rfl).cell;have R:=(zA6 X (qo qx) r rfl).cell;refine⟨qZ #[qV qj q,qV qj 0],?_,by rw[Y.out],?_⟩
  ·simp[results,f110,go_sem,V,R]
  ·exact zAu _ ((s.setCell (p:=⟨B,0,qx⟩) (qPq _) _).setCell (p:=⟨B+1,0,qx⟩) zm _) r za (by simp[World.setCell];omega)
 case stop=>
  rintro D c pre W _ _ h _;exact h.elim
end Zr
end Go.Proofs.YtppnakkaljbmbaaGreatDoor
