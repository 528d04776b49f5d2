/- Steps of a proof; no condition beyond what each states. -/
import Derived.Test.YtppnakkaljbmbaaGreatDoorZY00
import Derived.Laws.EntriesVeiled
import Derived.RangeFuncBound
import Derived.RangeFuncNested
import Derived.Sort.MapsRangeIn
import Derived.Test.YtppnakkaljbmbaaGreatDoorZY01
set_option linter.unusedVariables false
set_option linter.unusedSimpArgs false
set_option maxRecDepth 100000
set_option maxHeartbeats 8000000
open List renaming length->kN
open Go.Proofs.YtppnakkaljbmbaaGreatDoor.Kit renaming Src->yt,Own->yu,zAe->xC,zAr->xG,zAs->xM
open Go.RowKit
open Go.Proofs.Tryz
open Go.Value renaming int->qX,string->qY,slice->qZ,pointer->qc,tuple->qg,bool->qh
open Go.IntKind renaming i64->qm,u8->qo
open Go.Obj renaming cells->qp
open Go.Ending renaming returned->qx
open Or renaming inr->qy,inl->qz
open Option renaming some->yA,none->yB
open Go renaming World->yC,Value->yD,TypeId->yE,Addr->yF,Calls->yG,undef->yN
open Bool renaming true->yH,false->yI
open Decidable renaming decide->yJ
open Go.Proofs.Tryz renaming prog->yK
open Go.RowKit renaming Hid->yL,Below->yM
open List renaming range->yO,replicate->yP
open Go.World renaming cell?->yQ
open Go.RowKit.Below renaming refl->yR
namespace Go.Proofs.YtppnakkaljbmbaaGreatDoor
namespace Wg
open Bt
theorem zL4:∀(l:List Nat) (i x:Nat) (q:List Q),zAt i (l++[x]) q=ins ⟨x,i+kN l,.leaf (i+kN l)⟩ (zAt i l q)
 |[],i,x,q=>rfl
 |y::l,i,x,q=>by
  show zAt (i+1) (l++[x]) _=ins _ (zAt (i+1) l _);rw[zL4 l (i+1) x,qP4,show i+1+kN l=i+(kN l+1)by omega]
theorem zHp:∀(l:List Nat) (i:Nat) (q:List Q),(∀e∈q,e.t= .leaf e.x)->∀e∈zAt i l q,e.t= .leaf e.x
 |[],_,_,h,e,a=>h e a
 |x::l,i,q,h,e,a=>zHp l (i+1) (ins ⟨x,i,.leaf i⟩ q) (fun e a=>by
   rcases qP6.1 ((zBh _ q).mem_iff.1 a)with rfl|a
   .rfl
   .exact h e a) e a
theorem zMv:∀(k n:Nat) (q:List Q) (a b:Q) (r:List Q),build k n q=a::b::r->k<kN q->build (k+1) n q=ins ⟨a.w+b.w,n+k,.node a.t b.t⟩ r
 |0,n,q,a,b,r,h,_=>by
  have h:q=a::b::r:=h;subst h;rfl
 |k+1,n,q,a,b,r,h,hl=>by
  match q,h,hl with
  |x::y::s,h,hl=>
   show build (k+1) (n+1) (ins _ s)=_;have h:build k (n+1) (ins ⟨x.w+y.w,n,.node x.t y.t⟩ s)=a::b::r:=h;rw[zMv k (n+1) _ a b r h (by rw[(zBh _ s).length_eq];simp at hl⊢;omega),show n+1+k=n+(k+1)by omega]
  |[x],h,hl=>simp at hl
  |[],h,hl=>simp at hl
def q0 (ws:List Nat):List Q:=zAt 0 ws []
def qt (ws:List Nat) (t:Nat):List Q:=build t (kN ws) (q0 ws)
section
variable {ws:List Nat} (hpos:∀x∈ws,1<=x)
include hpos
theorem zQp:Inv (kN ws) ws.sum (kN ws) (q0 ws)/\kN (q0 ws)=kN ws:=by
 have h:=Inv.start ws 0 0 [] Inv.nil (fun e h=>by cases h) hpos;rw[qQd,qQd]at h;unfold q0;simpa using h
theorem zMa (t:Nat) (c:t<kN ws):Inv (kN ws) ws.sum (kN ws+t) (qt ws t)/\kN (qt ws t)=kN ws-t:=by
 obtain⟨a,b⟩:=zQp hpos;refine⟨a.build t (kN ws) _ za,?_⟩;unfold qt;rw[zO9 _ _ _ za,b]
theorem zW2 (t:Nat) (e:t+1<kN ws):∃a b r,qt ws t=a::b::r/\qt ws (t+1)=ins ⟨a.w+b.w,kN ws+t,.node a.t b.t⟩ r:=by
 obtain⟨d,c⟩:=zMa hpos t za
 match hq:qt ws t,c with
 |a::b::r,_=>exact⟨a,b,r,rfl,zMv t (kN ws) (q0 ws) a b r hq (by rw[(zQp hpos).2];omega)⟩
 |[a],c=>simp at c;omega
 |[],c=>simp at c;omega
end
structure Lp (ws:List Nat) (t:Nat) (U:Nat->Nat):Prop where
 good:Good U (qt ws t) (kN ws+t)
 ok:∀x,x<kN ws+t->x∉(qt ws t).map Q.x->x<U x/\U x<kN ws+t
theorem Lp.start {ws:List Nat} (d:∀x∈ws,1<=x) (g:1<=kN ws) (U:Nat->Nat):Lp ws 0 U:=by
 refine⟨Good.start (zHp ws 0 [] (fun e h=>by cases h)),fun x b f=> ?_⟩;exfalso;apply f;obtain⟨hi,i⟩:=zQp d;have a:∀e∈q0 ws,e.t= .leaf e.x:=zHp ws 0 [] (fun e h=>by cases h);have e:(q0 ws).flatMap (fun e=>e.t.names)=(q0 ws).map Q.x:=by
  have:∀l:List Q,(∀e∈l,e.t= .leaf e.x)->l.flatMap (fun e=>e.t.names)=l.map Q.x:=by
   intro l
   induction l with
   |nil=>intro _;rfl
   |cons e l ih=>
    intro h;rw[qSk,qQe,ih (fun x b=>h x (by simp[b])),h e zm];rfl
  exact this _ a
 have c:=hi.names;rw[e]at c;exact c.mem_iff.2 (qQn.2 b)
theorem Lp.step {ws:List Nat} {t:Nat} {U:Nat->Nat} (o:∀x∈ws,1<=x) (h:Lp ws t U) (G:t+1<kN ws) {a b:Q} {r:List Q} (u:qt ws t=a::b::r) (j:qt ws (t+1)=ins ⟨a.w+b.w,kN ws+t,.node a.t b.t⟩ r):
  Lp ws (t+1) (zAy (zAy U a.x (kN ws+t)) b.x (kN ws+t)):=by
 obtain⟨hi,F⟩:=zMa o t za;have m:=h.good;have c:=h.ok;rw[u]at hi m c;have hd:=hi.apart;have hne:a.x≠b.x:=by
  simp only[qQe,qSy,qP6,not_or]at hd;exact hd.1.1
 have k:zAy (zAy U a.x (kN ws+t)) b.x (kN ws+t) a.x=kN ws+t:=by rw[zBb _ _ _ _ hne,zCj]
 have l:zAy (zAy U a.x (kN ws+t)) b.x (kN ws+t) b.x=kN ws+t:=zCj _ _ _;have n:∀x,x≠a.x->x≠b.x->zAy (zAy U a.x (kN ws+t)) b.x (kN ws+t) x=U x:=fun x p q=>by rw[zBb _ _ _ _ q,zBb _ _ _ _ p]
 refine⟨?_,fun x H f=> ?_⟩
 .rw[j];exact Good.join m hi.below hd k l n
 .rw[j]at f;have s:∀y,y∈(ins ⟨a.w+b.w,kN ws+t,.node a.t b.t⟩ r).map Q.x↔y=kN ws+t\/y∈r.map Q.x:=by
   intro y;rw[((zBh _ r).map Q.x).mem_iff,qQe,qP6]
  rw[s]at f;have B:x≠kN ws+t:=fun e=>f (qz e);have d:x∉r.map Q.x:=fun e=>f (qy e);have w:=hi.below a zm;have z:=hi.below b zm;by_cases g:x=a.x
  .subst g;rw[k];omega
  .by_cases i:x=b.x
   .subst i;rw[l];omega
   .rw[n x g i];have:=c x za (by simp only[qQe,qP6,not_or];exact⟨g,i,d⟩);omega
theorem Lp.last {ws:List Nat} {U:Nat->Nat} (j:∀x∈ws,1<=x) (u:2<=kN ws) (h:Lp ws (kN ws-1) U):
  (∀x,x<2*kN ws-2->x<U x/\U x<2*kN ws-1)/\
  ∀D:Nat->Nat,D (2*kN ws-2)=0->(∀x,x<2*kN ws-2->D x=D (U x)+1)->∀i,i<kN ws->(lens ws)[i]? =yA (D i):=by
 obtain⟨t,s⟩:∃t,kN ws-1=t+1:=⟨kN ws-2,za⟩;obtain⟨a,b,r,w,d⟩:=zW2 j t za;obtain⟨hi,p⟩:=zMa j (kN ws-1) za;rw[<-s]at d;have q:r=[]:=by
  have:=qPs List.length d;rw[p,(zBh _ r).length_eq,qP4]at this;exact qQ0 za
 subst q;have k:qt ws (kN ws-1)=[⟨a.w+b.w,kN ws+t,.node a.t b.t⟩]:=d;have g:=h.good;have c:=h.ok;rw[k]at g c;have l:kN ws+(kN ws-1)=2*kN ws-1:=za
 have m:kN ws+t=2*kN ws-2:=za
 rw[l]at g c;rw[m]at g c;refine⟨fun x y=>c x za zq,fun D n o i hi=> ?_⟩;have e:tree ws= .node a.t b.t:=by
  unfold tree;have:build (kN ws-1) (kN ws) (zAt 0 ws [])=[⟨a.w+b.w,kN ws+t,.node a.t b.t⟩]:=k;rw[this]
 refine qDd za j (D:=D) ?_ i hi;rw[e];have f:Good U [⟨a.w+b.w,2*kN ws-2,.node a.t b.t⟩] (2*kN ws-2+1):=by rw[show 2*kN ws-2+1=2*kN ws-1 by omega];exact g
 exact qA1 f rfl n o
end Wg
namespace Wg
open Bt Zr Front
variable {w w':yC} {R G n k:Nat} {f:Nat->Nat}
theorem zF2 (w:yC) (n:Nat) (j:n<=1000000):(Instr.makeSlice 23 (qX qm (n:Int)) (qX qm (n:Int))).run yK w= .ok (qZ (yA ⟨w,0,yB⟩) n n) (w.alloc (qp (cellsOf n (fun _=>qX qm 0)) 3)):=by
 have b:(prog.info? 3).map (fun i=>(i.zero,i.size,i.bytes))=yA (yA (qX qm 0),1,8):=zf
 obtain⟨i,hi,d,a,c⟩:=qRv b;have g:=run_makeSlice (P:=yK) w 23 3 i _ underlying23 hi d qm qm (n:Int) (n:Int) za za (by rw[a];omega) (by rw[c];omega) za;have e:madeCells (Value.int qm 0).cells ((n:Int).toNat*i.size)=cellsOf n (fun _=>qX qm 0):=by
  rw[a,Nat.mul_one];show(Array.range n).map _=_;refine zDm (fun k h=> ?_);show(#[Value.int qm 0]:Array yD)[k%1]! =_;rw[Nat.mod_one];rfl
 rw[e]at g;exact g
theorem StT.arr (h:StT w w' R) (b:zAm w G 3 n f) (c:G≠R):zAm w' G 3 n f:=
 b.keep (h.old G b.lt c (fun d f e=>by
  have a:=b;unfold zAm Arr at a;rw[a]at e;injection e with e
  injection e with _ e _
  exact absurd e qW))
theorem zTe {l:List Nat} (h:zAm w G 3 n f) (d:kN l<=n) (c:∀i,i<kN l->l[i]? =yA (f i)):yt w (yA ⟨G,0,yB⟩) (l.map ival):=by
 intro j u a;rw[qP3]at a;rcases qP8 j (kN l) with b|b
 .rw[c j b]at a;simp at a;subst a;exact⟨G,0,rfl,by rw[qQd];exact h.cell j za⟩
 .rw[qQq b]at a;cases a
def zDj (w:yC) (G:Nat):Prop:=∃a f,w.heap[G]? =yA (qp a 3 f)
theorem qFw (h:zAm w G 3 n f):zDj w G:=⟨_,_,h⟩
theorem zDj.below (h:zDj w G) (c:yM k w w') (b:G<k):zDj w' G:=by
 obtain⟨a,f,e⟩:=h;exact⟨a,f,(c.block G b).trans e⟩
theorem Qu.other {c i:Nat} {a:Option yF} {l:List (Nat×Nat)} {b:Array yD} {t:yE} {f:Nat×Nat} (h:Qu w R a c l) (d:w.heap[G]? =yA (qp b t f)) (g:t≠TT) (e:R≠G) (v:yD):Qu (w.setCell ⟨G,i,yB⟩ v) R a c l:=
 ⟨(zAa e).trans h.blk,qRz h.own (zB1 w G i v) (qy (zJt h.own d g))⟩
theorem zYk {X:Nat} {x:Nat×Nat} (h:Bx w X x):(loadVar 3 ⟨X,1,yB⟩).run yK w= .ok (qX qm (x.2:Int)) w:=by
 obtain⟨_,a,_,_⟩:=zAf h;exact Kit.zAg a zf zf
theorem zWr (h:zAm w G 3 n f) (a:k<n) (v:Nat):(storeVar 3 ⟨G,k,yB⟩ (qX qm (v:Int))).run yK w= .ok () (w.setCell ⟨G,k,yB⟩ (qX qm (v:Int)))/\zAm (w.setCell ⟨G,k,yB⟩ (qX qm (v:Int))) G 3 n (zAy f k v):=
 ⟨Kit.zDs (h.cell k a) (h.free k) zf rfl rfl,h.set k v rfl⟩
theorem zVe (ws:List Nat) (a:Option yF) (n c:Nat) (w:yC) (hn:kN ws=n) (h2:2<=n) (d7:n<=258) (hs:yt w a (ws.map ival)) (d5:∀x∈ws,1<=x) (d6:ws.sum<=20000):
  yG yK 124 #[qZ a n c] w fun e w'=>∃G,e=qx (qZ (yA ⟨G,0,yB⟩) n n)/\w.heap.size<=G/\yt w' (yA ⟨G,0,yB⟩) ((lens ws).map ival)/\zDj w' G/\yM w w w':=by
 obtain⟨B,hB⟩:=zB w.heap.size;obtain⟨W,hW⟩:=zB (w.alloc (qp #[qZ yB 0 0,QF] TQ));have zW:W.heap.size=B+1:=by rw[<-hW,zA,hB]
 have c7:yM B w W:=by rw[<-hW,<-hB];exact(yR _ _).alloc (qPq _) _
 have bk:Qu W B yB 0 []:=⟨by
  rw[<-hW,<-hB];show(w.heap.push _)[w.heap.size]? =_;simp,Kit.Own'.start _ _ _⟩
 obtain⟨br,bq,HS,HN,o,ce,ZW,d1⟩:=yh bk c7 hs hn d5 d6 zW hB;clear bk c7 hs hn d5 d6 zW;rw[hB];go_enter func124,ntmps124;go_wp2;clear hW hB;go_loopw [15] (fun iv wr=>∃(j c2:Nat) (a2:Option yF) (m:List (Nat×Nat)),j<=n/\iv=qX qm j/\yL (Qu wr B a2 c2 m)/\yL (m.Perm ((zAt 0 (ws.take j) []).map pr))/\yL (Hp lq (kN m) (at_ m))/\yL (yM B w wr)) (fun iv _=>n-(intOf iv).toNat)
 case atStart=>exact⟨0,0,yB,[],za,rfl,br,by rw[qS6];exact zH (qTu _),zH (fun k h1 h2=>by simp at h2),bq⟩
 case round=>
  clear br bq;obtain⟨j,c2,a2,m,hj,rfl,hq,hm,hp,hb⟩:=hrel;have S:kN m=j:=by
   rw[hm.out.length_eq,qQj];have:=(Inv.start (ws.take j) 0 0 [] Inv.nil (fun e h=>by cases h) (fun x hx=>o.out x (qUg hx))).2;rw[this,qQh,HN.out];simp;omega
  have ai:=zH S;clear S;by_cases ae:j<n
  .have aa:j<kN ws:=by rw[HN.out];exact ae
   obtain⟨x,hx⟩:=zB (ws[j]);obtain⟨b,off,rfl,e0⟩:=(HS.out.below (w':=wr) (by rw[d1.out];exact hb.out)) j (ival x) (by rw[qP3,qPu aa,hx];rfl);have HC:=zH (zQq B a2 c2 m (x,j) wr hq.out (by rw[ai.out];omega) hp.out);unfold tv at HC;have ck:=yT (ws.take (j+1)=ws.take j++[x]) (by rw[qQp aa,hx]);have cw:=zH aa;clear hx aa;go_wp2_with fail;(with_reducible refine HC.out.mono ?_);rintro e w3 ⟨rfl,a3,c3,m3,R,L,I,a5⟩;obtain⟨cs,co,cv⟩:=yV R I (hb.out.trans a5.below);have d2:=yT (m3.Perm ((zAt 0 (ws.take (j+1)) []).map pr)) (by
    rw[ck.out,zL4,qQh,qTj (qP7 cw.out),qQd];refine L.trans ((hm.out.cons (x,j)).trans ?_);exact((zBh ⟨x,j,.leaf j⟩ (zAt 0 (ws.take j) [])).map pr).symm)
   clear R L I a5 HC;go_wp2;go_roundw
   case rel=>exact⟨j+1,c3,a3,m3,za,by go_num,cs,d2,co,cv⟩
   case measure=>exact z8
  .obtain rfl:n=j:=za
   have bj:m.Perm ((qt ws 0).map pr):=by
    have:=hm.out;rwa[qQc (by rw[HN.out];omega)]at this
   obtain⟨N,hN⟩:=zB (2*n-1);have cr:2*(n:Int)-1=(N:Int):=za
   have Y:=zF2 wr N za;obtain⟨G,hG⟩:=zB wr.heap.size;obtain⟨w2,f⟩:=zB (wr.alloc (qp (cellsOf N (fun _=>qX qm 0)) 3));rw[hG,f]at Y;have F:yM G wr w2:=by rw[<-f,<-hG];exact(yR _ _).alloc (qPq _) _
   have da:B<G:=by rw[<-hG];exact hq.out.lt
   have P:zAm w2 G 3 N (fun _=>0):=by rw[<-f];exact zAm.zeros G wr N 3 hG
   obtain⟨Q2,A2,B2,L2,M2,NN⟩:=yZ (hq.out.below F hG.symm) P (hb.out.trans (F.mono za)) (Lp.start o.out (by rw[HN.out];omega) (fun _=>0)) bj hN;have df:2*n<=N+1:=za
   have dg:N+1<=2*n:=za
   clear F P bj hN f hG ae hj hq hm hb;go_wp2;clear Y cr;go_loopw [7] (fun kv wr=>∃(K c2:Nat) (a2:Option yF) (m:List (Nat×Nat)) (U:Nat->Nat),n<=K/\K<=N/\kv=qX qm K/\yL (Qu wr B a2 c2 m)/\yL (m.Perm ((qt ws (K-n)).map pr))/\yL (Hp lq (kN m) (at_ m))/\yL (zAm wr G 3 N U)/\yL (Lp ws (K-n) U)/\yL (yM B w wr)) (fun kv _=>N-(intOf kv).toNat)
   case atStart=>exact⟨n,c2,a2,m,fun _=>0,za,za,rfl,Q2,by rw[Nat.sub_self];exact M2,hp,A2,by rw[Nat.sub_self];exact L2,B2⟩
   case round=>
    clear Q2 A2 B2 L2 M2 hp ai;obtain⟨K,c2,a2,m,U,dc,dd,rfl,hq,hm,hp,ha,ag,hb⟩:=hrel;obtain⟨t,ht⟩:=zB (K-n);rw[ht]at hm ag;by_cases ae:K<N
    .obtain⟨z,q,qr,ak,ax⟩:=zW2 o.out t (by rw[HN.out];omega);obtain⟨hinv,am⟩:=zMa o.out t (by rw[HN.out];omega);have an:=hm.out;rw[ak]at an;have r:=hinv;rw[ak]at r;have S:kN m=n-t:=by rw[hm.out.length_eq,qQj,am,HN.out]
     have s:∀y∈m,lq y (at_ m 0)=yI:=fun y hy=>by
      obtain⟨k,hk,rfl⟩:=qTg hy;have:=hp.out.min zF3 k hk;unfold at_ at this;rw[qPz,qPu hk]at this;exact this
     have H:at_ m 0∈m:=by
      unfold at_;rw[qPz,qPu za];exact qP9 _
     have h0:at_ m 0=pr z:=zO0 an rfl r.sorted H s;have HC:=zH (zTk B a2 c2 m wr hq.out za za hp.out);rw[h0]at HC;unfold tv pr at HC;obtain⟨d3,aj,ct,ay,HT,ai⟩:=yZ an r ak ax ht S;have cm:t+1<n:=za
     clear an hinv r ak ax am s H h0 S ht;go_wp2_with fail;(with_reducible refine HC.out.mono ?_);rintro e w3 ⟨rfl,a3,c3,m3,R,L,I,a5⟩;have ar:m3.Perm ((q::qr).map pr):=(L.symm.trans d3.out).cons_inv;have ac:=(qQ3.1 aj.out.sorted).2;have ap:kN m3+1=n-t:=by have:=L.length_eq;rw[ai.out,qP4]at this;omega
     have s:∀y∈m3,lq y (at_ m3 0)=yI:=fun y hy=>by
      obtain⟨k,hk,rfl⟩:=qTg hy;have:=I.min zF3 k hk;unfold at_ at this;rw[qPz,qPu hk]at this;exact this
     have H:at_ m3 0∈m3:=by
      unfold at_;rw[qPz,qPu za];exact qP9 _
     have h0:at_ m3 0=pr q:=zO0 ar rfl ac H s;have ah:=zH (zTk B a3 c3 m3 w3 R za za I);rw[h0]at ah;unfold tv pr at ah;obtain⟨cp,cu,cf⟩:=yV a5 ar ap;clear R L I a5 ar ac ap s H h0 HC;go_wp2_with fail;(with_reducible refine ah.out.mono ?_);rintro e w4 ⟨rfl,a4,c4,m4,ad,au,av,ca⟩;have d9:=zH ad;have cj:=yT (m4.Perm (qr.map pr)) (au.symm.trans cu.out).cons_inv;obtain⟨d8,cb⟩:=yU av (cp.out.trans ca);have cd:=yT (kN m4+2=n-t) (by have:=au.length_eq;have:=cf.out;simp at*;omega);have bp:z.x<N/\q.x<N:=by
      have h1:=aj.out.below z zm;have h2:=aj.out.below q zm;have h3:=HT.out;rw[HN.out]at h1 h2;omega
     have dl:z.w+q.w<=20000:=by
      have h1:=aj.out.sum;rw[qQe,qQe,qRd,qRd]at h1;have:=ce.out;omega
     have aq:=cb.out.arr ha.out za;obtain⟨X,hX⟩:=zB w4.heap.size;have db:B<X:=by rw[<-hX];exact ad.lt
     have cx:G<X:=by rw[<-hX];exact aq.lt
     obtain⟨w5,a0⟩:=zB (w4.alloc (qp #[qX qm (z.w:Int),qX qm (z.x:Int)] TT));obtain⟨w6,a8⟩:=zB (w5.alloc (qp #[qX qm (q.w:Int),qX qm (q.x:Int)] TT));have z5:w5.heap.size=X+1:=by rw[<-a0,zA,hX]
     have b5:yM X w4 w5:=by rw[<-a0,<-hX];exact(yR _ _).alloc (qPq _) _
     have b6:yM (X+1) w5 w6:=by rw[<-a8,<-z5];exact(yR _ _).alloc (qPq _) _
     have ba:Bx w6 X (z.w,z.x):=by
      refine(b6.block X za).trans ?_;rw[<-a0,<-hX];show(w4.heap.push _)[w4.heap.size]? =_;simp
     have bb:Bx w6 (X+1) (q.w,q.x):=by
      show w6.heap[X+1]? =_;rw[<-a8,<-z5];show(w5.heap.push _)[w5.heap.size]? =_;simp
     have cc:=(ad.below b5 hX.symm).below b6 z5.symm;have bz:zAm w6 G 3 N U:=(aq.keep (b5.block G cx)).keep (b6.block G za);have b4:Bx w6.drew X (z.w,z.x):=ba;have b8:Bx w6.drew (X+1) (q.w,q.x):=bb;have a7:zAm w6.drew G 3 N U:=bz;obtain⟨s7,af⟩:=zWr a7 bp.1 K;obtain⟨w7,a6⟩:=zB (w6.drew.setCell ⟨G,z.x,yB⟩ (qX qm (K:Int)));have b7:=cc.drew.other (G:=G) (i:=z.x) a7 qW za (qX qm (K:Int));rw[a6]at s7 af b7;have b1:Bx w7 (X+1) (q.w,q.x):=by rw[<-a6];exact(zAa za).trans b8
     have bh:Bx w7 X (z.w,z.x):=by rw[<-a6];exact(zAa za).trans b4
     obtain⟨s8,b0⟩:=zWr af bp.2 K;obtain⟨w8,a1⟩:=zB (w7.setCell ⟨G,q.x,yB⟩ (qX qm (K:Int)));have ab:=b7.other (G:=G) (i:=q.x) af qW za (qX qm (K:Int));rw[a1]at s8 b0 ab;have bn:Bx w8 (X+1) (q.w,q.x):=by rw[<-a1];exact(zAa za).trans b1
     have bc:Bx w8 X (z.w,z.x):=by rw[<-a1];exact(zAa za).trans bh
     have bi:yM B w w8:=by
      rw[<-a1,<-a6];exact((((hb.out.trans cb.out.below).trans (b5.mono za)).trans (b6.mono za)).drew.setCell (p:=⟨G,z.x,yB⟩) (by show B<=G;omega) _).setCell (p:=⟨G,q.x,yB⟩) (by show B<=G;omega) _
     obtain⟨BA,BB,bu,S7,S8,Q8,A8,B8,az⟩:=yj b4 b8 b1 s7 s8 ab b0 bi (zQq B a4 c4 m4 (z.w+q.w,K) w8 ab (by have:=cd.out;omega) av);unfold tv at az;simp only[qTs]at az;obtain⟨v0,_,_,_⟩:=zAf bc;obtain⟨v1,_,_,_⟩:=zAf bn;clear aq b5 b6 ba bb cc bz b4 b8 a7 s7 af a6 b7 b1 bh s8 b0 a1 ab bn bc bi z5;clear ad au av ca ah;obtain⟨cz,cq⟩:=yU a0 a8;clear a0 a8;go_wp2;rw[cz.out,cq.out];clear hX;refine zS [11] (fun W9=>Bx W9 (X+1) (q.w,q.x)) [0,0,2,0,0,16,0,0,71,327,1023,2047] 12<|zu 3 43 (qZ (yA ⟨G,0,yB⟩) N N)<|zu 4 44 (qc (yA ⟨X+1,1,yB⟩))<|zu 7 47 (zI K)<|zy 5 45 (qX qm (q.x:Int)) (fun w hS=>zl 3 44 (zYk hS)) BB.out<|zp [0,1,2,6,8]<|zk 40 (qZ (yA ⟨G,0,yB⟩) N N)<|zk 41 (zP X 1)<|zt 42 (qX qm (z.x:Int)) (zl 3 41 (zYk BA.out))<|zk 46 (zI K)<|zt 48 (qc (yA ⟨G,z.x,yB⟩)) (Kit.zBo (t:=23) (x:=(.tmp 40)) (y:=(.tmp 42)) (g:=G) (n:=N) (c:=N) (k:=z.x) rfl zf zf za underlying23 (fun _=>sizeOf3 _) _)<|zn<|zw 9 yB (zr 3 48 46 (S7.out)) (qy (qy (bu.out)))<|zp [10]<|zt 49 (qc (yA ⟨G,q.x,yB⟩)) (Kit.zBo (t:=23) (x:=(.tmp 43)) (y:=(.tmp 45)) (g:=G) (n:=N) (c:=N) (k:=q.x) rfl zf zf za underlying23 (fun _=>sizeOf3 _) _)<|zn<|zw 11 yB (zr 3 49 47 (S8.out)) (qy (qz zf))<|zE<| ?_
     simp only[zP,zI,Act.put,qPx,qPw,qPy];clear S7 S8 BA BB bu;go_wp2_with fail;(with_reducible refine az.out.mono ?_);rintro e w9 ⟨rfl,a9,c9,m9,bg,bf,bo,b9⟩;obtain⟨Q9,P9,A9,B9⟩:=yX bg bo (b9.arr A8.out za) (B8.out.trans b9.below);have M9:=yT (m9.Perm ((qt ws (K+1-n)).map pr)) (by
      rw[show K+1-n=t+1 by have:=HT.out;omega,ay.out];refine bf.trans ((cj.out.cons _).trans ?_);have h1:=((zBh ⟨z.w+q.w,kN ws+t,.node z.t q.t⟩ qr).map pr).symm;rw[qQe]at h1;have h2:pr ⟨z.w+q.w,kN ws+t,.node z.t q.t⟩=(z.w+q.w,K):=by
       unfold pr;simp only[HN.out];rw[show n+t=K by have:=HT.out;omega]
      rw[h2]at h1;exact h1)
     have L9:=yT (Lp ws (K+1-n) (zAy (zAy U z.x K) q.x K)) (by
      have h1:=ag.out.step o.out (by rw[HN.out];exact cm) ct.out ay.out;rw[HN.out,show n+t=K by have:=HT.out;omega]at h1;rw[show K+1-n=t+1 by have:=HT.out;omega];exact h1)
     clear bg bo b9 bf v0 v1;go_wp2;go_roundw
     case rel=>exact⟨K+1,c9,a9,m9,zAy (zAy U z.x K) q.x K,za,za,by go_num,Q9,M9,P9,A9,L9,B9⟩
     case measure=>exact z8
    .obtain rfl:N=K:=za
     have bw:t=kN ws-1:=by rw[HN.out];have:=NN.out;omega
     obtain⟨hU,O⟩:=(show Lp ws (kN ws-1) U from bw▸ag.out).last o.out (by rw[HN.out];exact h2);rw[HN.out]at hU O;obtain⟨M,hM⟩:=zB (2*n-2);rw[hM]at hU O;have de:M+1=N:=za
     rw[show 2*n-1=N from NN.out]at hU;have Y:=zF2 wr N za;obtain⟨G2,Z⟩:=zB wr.heap.size;obtain⟨w2,f⟩:=zB (wr.alloc (qp (cellsOf N (fun _=>qX qm 0)) 3));rw[Z,f]at Y;have F:yM G2 wr w2:=by rw[<-f,<-Z];exact(yR _ _).alloc (qPq _) _
     have cy:G<G2:=by rw[<-Z];exact ha.out.lt
     have P:zAm w2 G2 3 N (fun _=>0):=by rw[<-f];exact zAm.zeros G2 wr N 3 Z
     obtain⟨A2,U2,B2,HU,ci⟩:=yY P (ha.out.keep (F.block G cy)) (hb.out.trans (F.mono za)) hU O;have cg:(N:Int)-2=(M:Int)-1:=za
     clear F P f Z ae hq hm hp ag hb ha hU O bw ht hM;go_wp2;clear Y cg;go_loopw [11] (fun xv wr=>∃(x:Int) (D:Nat->Nat),-1<=x/\x<=(M:Int)-1/\xv=qX qm x/\yL (zAm wr G2 3 N D)/\yL (D M=0)/\yL (∀y:Nat,x<(y:Int)->y<M->D y=D (U y)+1)/\yL (∀y:Nat,x<(y:Int)->y<=M->D y+y<=M)/\yL (zAm wr G 3 N U)/\yL (yM B w wr)) (fun xv _=>(intOf xv+1).toNat)
     case atStart=>exact⟨(M:Int)-1,fun _=>0,za,za,rfl,A2,zH rfl,zH (fun y h1 h2=>za),zH (fun y h1 h2=>by show 0+y<=M;omega),U2,B2⟩
     case round=>
      clear A2 U2 B2;obtain⟨x,D,dm,dp,rfl,ha,bx,hD,c6,hu,hb⟩:=hrel;by_cases hx:0<=x
      .obtain⟨i,rfl⟩:=qT5 hx;have cn:i<M:=za
       obtain⟨d0,bd⟩:=HU.out i cn;obtain⟨u,ao⟩:=zB (U i);rw[ao]at d0 bd;have x0:=hu.out.cell i za;rw[ao]at x0;have x1:=ha.out.cell u bd;have x2:=ha.out.cell i za;have x3:=ha.out.free i;have d4:=c6.out u za za;obtain⟨d,b2⟩:=zB (D u);obtain⟨v0,c8⟩:∃v0:yD,Value.int qm ((D i:Nat):Int)=v0:=⟨_,rfl⟩;rw[c8]at x2;rw[b2]at x1 d4;have hd:d<=1000:=za
       have HA:=zH (ha.out.set i (d+1) (V:=(d:Int)+1) za);have H0:=yT (zAy D i (d+1) M=0) (by rw[zBb _ _ _ _ za];exact bx.out);have H1:=yT (∀y:Nat,(i:Int)-1<(y:Int)->y<M->zAy D i (d+1) y=zAy D i (d+1) (U y)+1) (fun y h1 h2=>by
        by_cases e:y=i
        .subst e;rw[zCj,ao,zBb _ _ _ _ za,b2]
        .have h3:=(HU.out y h2).1;rw[zBb _ _ _ _ e,zBb _ _ _ _ za];exact hD.out y za h2)
       have H2:=yT (∀y:Nat,(i:Int)-1<(y:Int)->y<=M->zAy D i (d+1) y+y<=M) (fun y h1 h2=>by
        by_cases e:y=i
        .subst e;rw[zCj];omega
        .rw[zBb _ _ _ _ e];exact c6.out y za h2)
       have H3:=yT (zAm (wr.setCell ⟨G2,i,yB⟩ (qX qm ((d:Int)+1))) G 3 N U) (hu.out.keep (zAa za));have H4:=zH (hb.out.setCell (p:=⟨G2,i,yB⟩) (by show B<=G2;omega) (qX qm ((d:Int)+1)));have dh:i<N:=za
       clear ao b2 c8;go_wp2;go_roundw
       case rel=>exact⟨(i:Int)-1,zAy D i (d+1),za,za,rfl,HA,H0,H1,H2,H3,H4⟩
       case measure=>exact z8
      .obtain rfl:x= -1:=za
       have b3:=ci.out D bx.out (fun y hy=>hD.out y za hy);have HR:=zH (zTe (l:=lens ws) ha.out (by rw[zC0,HN.out];omega) (fun i hi=>b3 i (by rw[zC0,HN.out]at hi;exact hi)));have dj:n<=N:=za
       have di:¬n=0:=za
       clear b3;go_wp2;go_ret;exact⟨G2,rfl,za,HR.out,qFw ha.out,hb.out⟩
end Wg
namespace Us
open Front Bt Tn
def has (l:List Nat) (j:Nat):yD:=qh (yJ (j∈l))
abbrev TS:yE:=147
theorem zT0 (l:List Nat) (n:Nat):(cellsOf n (has l)).all (·.oneCell')=yH:=by
 rw[qUf];intro v hv;simp only[cellsOf,Array.mem_map]at hv;obtain⟨j,_,rfl⟩:=hv;rfl
theorem zXe (s:ByteArray) (hs:s.size<=1000000) (w:yC):
  yG yK 76 #[qY s] w fun e w'=>e=qx (.agg (cellsOf 256 (has (bl s))))/\yM w w w':=by
 obtain⟨B,z⟩:=zB w.heap.size;have S:zeroCells147=cellsOf 256 (has []):=zf
 have g:Arr (w.alloc (qp zeroCells147 TS)) B TS 256 (has []):=by
  show _=_;rw[S,<-z];show(w.heap.push _)[w.heap.size]? =_;simp
 obtain⟨W,M⟩:=zB (w.alloc (qp zeroCells147 TS));have x:yM B w W:=by rw[<-M,<-z];exact(yR _ _).alloc (qPq _) _
 rw[M]at g;obtain⟨G,r⟩:=yU g x;obtain⟨l,y⟩:=zB (bl s);have m:kN l=s.size:=by rw[<-y,zB2]
 have n:∀(i:Nat) (h:i<s.size),l[i]? =yA s[i].toNat:=fun i h=>by
  have:=zRx s i h;rw[y,qPz,qPu za,qQ5]at this;rw[qPu za,this]
 rw[y];obtain⟨d,H⟩:=yU m n;rw[z];clear S y m n g x;go_enter func76,ntmps76;go_wp2;clear M;go_loopw [6] (fun i wr=>∃k:Nat,k<=s.size/\i=qX qm k/\yL (Arr wr B TS 256 (has (l.take k)))/\yL (yM B w wr)) (fun i _=>s.size-(intOf i).toNat)
 case atStart=>exact⟨0,za,rfl,G,r⟩
 case round=>
  clear G r;obtain⟨k,Z,rfl,b,N⟩:=hrel;by_cases o:k<s.size
  .obtain⟨c,O⟩:=zB (s[k].toNat);have X:c<256:=by rw[<-O];exact qTi _
   have V:=b.out.cell c za;have Y:=b.out.free c;unfold has at V;have t:k<kN l:=by rw[d.out];exact o
   have F:l[k]=c:=by
    have:=H.out k o;rw[qPu t,O]at this;exact qPv this
   have I:=zH ((b.out.set c (qh yH)).congr (h:=has (l.take (k+1))) (fun j _=>by
    unfold upd has;rw[qQp t,F];by_cases e:j=c
    .subst e;simp
    .simp[e]))
   obtain⟨q,R⟩:=zB (yJ (c∈l.take k));rw[R]at V;clear R F;go_wp2;go_roundw
   case rel=>exact⟨k+1,za,by go_num,I,zH (N.out.setCell (p:=⟨B,c,yB⟩) (qPq _) _)⟩
   case measure=>exact qV
  .obtain rfl:k=s.size:=za
   have a:Arr wr B TS 256 (has l):=by
    have:=b.out;rwa[qQc (by rw[d.out];omega)]at this
   have f:(prog.info? TS).map (·.size)=yA 256:=zf
   have u:(cellsOf 256 (has l)).size=256:=cellsOf_size _ _;have L:=run_loadVar_row (P:=yK) wr B TS TS _ (0,0) (.array 256 4) a underlying147 rfl (by rw[u];exact f);have K:=zE2 (P:=yK) wr B TS _ (cellsOf 256 (has l)) a rfl (zT0 l 256);rw[setRow_self wr B _ TS (0,0) a]at K;go_wp2
   rename_i hK
   refine zGu rfl rfl L (hK _ _ ?_);go_wp2
   try simp only[Exit.inBlock,Exit.then]
   exact qP5 (results_cell_row rfl _ _ B TS _ (0,0) (.array 256 4) rfl a underlying147 rfl (by rw[u];exact f)) rfl ⟨rfl,N.out⟩
end Us
namespace Us
open Front Bt Zr Tn
def alpha (l:List Nat) (k:Nat):List UInt8:=((yO k).filter fun c=>decide (c∈l)).map UInt8.ofNat
theorem zEd (l:List Nat) (k:Nat):alpha l (k+1)=alpha l k++if k∈l then[UInt8.ofNat k]else[]:=by
 unfold alpha;rw[qQw,List.filter_append,qQb];congr 1;by_cases h:k∈l<;>simp[h]
theorem zPe (l:List Nat) (k:Nat):kN (alpha l k)<=k:=by
 unfold alpha;rw[qQj];have:=List.length_filter_le (fun c=>decide (c∈l)) (yO k);rwa[qQ9]at this
def zAj (s:ByteArray):ByteArray:=⟨(alpha (bl s) 256).toArray⟩
theorem zEc (s:ByteArray) (hs:s.size<=1000000) (w:yC):
  yG yK 20 #[qY s] w fun e w'=>e=qx (qY (zAj s))/\yM w w w':=by
 obtain⟨B,W⟩:=zB w.heap.size;have z:=zH (zXe s hs w);rw[W]at z;obtain⟨l,Y⟩:=zB (bl s);unfold zAj;rw[Y]at z⊢;rw[W];clear Y;go_enter func20,ntmps20;go_wp2_with fail;(with_reducible refine z.out.mono ?_);rintro e w2 ⟨rfl,x⟩;have M:=zH x;obtain⟨R,j⟩:=zB (cellsOf 256 (has l));have V:=yT (∀k,k<256->R[k]? =yA (qh (yJ (k∈l)))) (fun k X=>by rw[<-j,zCe 256 (has l) k X];rfl);have L:R.size=256:=by rw[<-j,cellsOf_size]
 rw[j];clear z x j;go_wp2;go_loopw [8,3] (fun i v wr=>∃(k n:Nat) (p:Option yF) (c:Nat),k<=256/\i=qX qm k/\v=qZ p n c/\n<=k/\yL (yu wr B TB p n c ((alpha l k).map xC))/\yL (yM B w wr)) (fun i _ _=>256-(intOf i).toNat)
 case atStart=>exact⟨0,0,yB,0,za,rfl,rfl,za,zH (Kit.Own.start _ _ _),M⟩
 case round=>
  obtain⟨k,n,p,c,X,rfl,rfl,hn,a,S⟩:=hrel;by_cases g:k<256
  .have f:=V.out k g;have G:k<R.size:=za
   rw[qT3 G]at f;have f:=qPv f;have o:=zE8 (P:=yK) (t:=TS) (n:=256) (e:=4) underlying147 (fun _=>isAgg4 _) (fun _=>sizeOf4 _) R k _ g (V.out k g) wr;have b:=a.out.len;rw[qQj]at b;have O:=zPe l k;by_cases y:k∈l
   .rw[qQ y]at o;clear f;have d:alpha l (k+1)=alpha l k++[UInt8.ofNat k]:=by rw[zEd,qPr y]
    have r:xC (UInt8.ofNat k)=qX qo (k:Int):=by unfold xC;rw[ofNat_toNat g]
    have hz:=S.out.size;obtain⟨p3,c3,w3,N,m,u⟩:=Kit.Own.app (ty:=109) (w:=wr.alloc (qp #[qX qo (k:Int)] TB)) zNh (a.out.alloc _) (yA ⟨wr,0,yB⟩) 1 1 [xC (UInt8.ofNat k)] (by rw[r];exact xM wr _ TB) rfl (fun h=>by cases h) (Kit.zG [UInt8.ofNat k]) (by unfold maxLen;omega) za zq;have F:yM B w w3:=S.out.trans (((yR _ _).alloc za _).trans ((yR _ _).grown u zq (fun q Z=>a.out.block q Z)));rw[show(alpha l k).map xC++[xC (UInt8.ofNat k)]=(alpha l (k+1)).map xC by rw[d,qQb];rfl]at m;obtain⟨K,I⟩:=yU m F;clear m F u d r y b O;go_wp2_with (at_builtin;refine xG rfl (.tmp 13) (.tmp 16) 109 rfl rfl rfl N ?_);go_roundw
    case rel=>exact⟨k+1,n+1,p3,c3,za,by go_num,rfl,za,K,I⟩
    case measure=>exact z8
   .rw[qP1 y]at o;have d:alpha l (k+1)=alpha l k:=by rw[zEd,qPt y,qQv]
    have H:=zH d;clear f y d;go_wp2;go_roundw
    case rel=>exact⟨k+1,n,p,c,za,by go_num,rfl,za,by rw[H.out];exact a,S⟩
    case measure=>exact z8
  .obtain rfl:k=256:=za
   have b:=a.out.len;rw[qQj]at b;have a0:=Kit.Src.text (P:=yK) (n:=n) (c:=c) (src:=109) (dst:=9) a.out.src b underlying109 underlying5 underlying9;clear b L;go_wp2;go_ret;exact⟨rfl,S.out⟩
end Us
namespace Ch
open Wg Hf
variable {m:List Nat}
def grp (m:List Nat):List (List Nat):=if h:m=[]then[]else m.take 10::grp (m.drop 10)
termination_by (kN m)
decreasing_by
 have:0<kN m:=qSm.2 h;rw[qQo];omega
theorem qDw:grp []=[]:=by unfold grp;rfl
theorem zLg (h:m≠[]):grp m=m.take 10::grp (m.drop 10):=by rw[grp,dif_neg h]
theorem zBx (m:List Nat):kN (grp m)=(kN m+9)/10:=by
 induction hn:kN m using Nat.strongRecOn generalizing m with
 |_ n ih=>
  by_cases h:m=[]
  .subst h;rw[qDw];simp at hn;subst hn;rfl
  .have a:0<kN m:=qSm.2 h;rw[zLg h,qP4,ih (kN (m.drop 10)) (by rw[qQo];omega) _ rfl,qQo];omega
theorem zJy (m:List Nat) (i:Nat) (h:10*i<kN m):(grp m)[i]? =yA ((m.drop (10*i)).take 10):=by
 induction i generalizing m with
 |zero=>
  have a:m≠[]:=by rintro rfl;simp at h
  rw[zLg a];rfl
 |succ i ih=>
  have a:m≠[]:=by rintro rfl;simp at h
  rw[zLg a,List.getElem?_cons_succ,ih (m.drop 10) (by rw[qQo];omega),List.drop_drop];rw[show 10+10*i=10*(i+1)by omega]
theorem zHg {g:List Nat} (c:g∈grp m):g≠[]/\kN g<=10/\∀x∈g,x∈m:=by
 obtain⟨i,hi,rfl⟩:=qTg c;rw[zBx]at hi;have b:10*i<kN m:=za
 have a:=zJy m i b;rw[qPu (by rw[zBx];exact hi)]at a;rw[qPv a];refine⟨?_,by rw[qQh];omega,fun x d=>List.mem_of_mem_drop (qUg d)⟩;intro e;have:=qPs List.length e;rw[qQh,qQo]at this;simp at this;omega
def wt (m:List Nat) (p k s:Nat):Nat:=(yO p).countP fun q=>decide (q/10%2=k)&&(m.getD q 0==s)
theorem qCk (m:List Nat) (k s:Nat):wt m 0 k s=0:=rfl
theorem zG4 (m:List Nat) (p k s:Nat):wt m (p+1) k s=wt m p k s+if p/10%2=k/\m.getD p 0=s then 1 else 0:=by
 unfold wt;rw[qQw,List.countP_append,List.countP_singleton];simp
theorem qEz (n s:Nat) (c:Prop) [Decidable c]:((yO n).map fun x=>if c/\s=x then 1 else 0).sum<=1:=by
 induction n with
 |zero=>simp
 |succ n ih=>
  rw[qQw,qQb,List.sum_append];simp only[qQe,qSp,qRd,List.sum_nil];by_cases h:c/\s=n
  .have a:((yO n).map fun x=>if c/\s=x then 1 else 0).sum=0:=by
    have:((yO n).map fun x=>if c/\s=x then 1 else 0)=(yO n).map fun _=>0:=qRy fun x b=>by
     have:=qQn.1 b;rw[qPt za]
    rw[this];clear this ih h
    induction n with
    |zero=>rfl
    |succ n ih=>rw[qQw,qQb,List.sum_append,ih];rfl
   rw[a,qPr h];omega
  .rw[qPt h];omega
theorem sum_add (f g:Nat->Nat):∀l:List Nat,(l.map fun x=>f x+g x).sum=(l.map f).sum+(l.map g).sum
 |[]=>rfl
 |x::l=>by rw[qQe,qQe,qQe,qRd,qRd,qRd,sum_add f g l];omega
theorem zV3 (m:List Nat) (n k:Nat):∀p,((yO n).map (wt m p k)).sum<=p
 |0=>by
  have:(yO n).map (wt m 0 k)=(yO n).map fun _=>0:=qRy fun x _=>qCk m k x;rw[this];clear this
  induction n with
  |zero=>simp
  |succ n a=>rw[List.range_succ,List.map_append,List.sum_append];simpa using a
 |p+1=>by
  have a:=zV3 m n k p;have b:=qEz n (m.getD p 0) (p/10%2=k);have:(yO n).map (wt m (p+1) k)=(yO n).map fun x=>wt m p k x+if p/10%2=k/\m.getD p 0=x then 1 else 0:=qRy fun x _=>zG4 m p k x
  rw[this,sum_add];omega
theorem qBx (m:List Nat) (p k s:Nat):wt m p k s<=p:=by
 unfold wt;have:=List.countP_le_length (p:=fun q=>decide (q/10%2=k)&&(m.getD q 0==s)) (l:=yO p);rwa[qQ9]at this
def ws (m:List Nat) (n k:Nat):List Nat:=(yO n).map (wt m (kN m) k)
def one (l:List Nat):List Nat:=l.map (max · 1)
def tb (m:List Nat) (n k:Nat):List Nat:=lens (one (ws m n k))
theorem zLv (m:List Nat) (n k:Nat):kN (ws m n k)=n:=by simp[ws]
theorem zHc (l:List Nat):kN (one l)=kN l:=by simp[one]
theorem zG5 (m:List Nat) (n k:Nat):kN (tb m n k)=n:=by unfold tb;rw[zC0,zHc,zLv]
theorem one_pos (l:List Nat):∀w∈one l,1<=w:=by
 intro w a;obtain⟨x,_,rfl⟩:=qQg.1 a;omega
theorem zNg:∀l:List Nat,(one l).sum<=l.sum+kN l
 |[]=>qPq _
 |x::l=>by
  have:=zNg l;show max x 1+(one l).sum<=_;rw[qRd,qP4];omega
theorem zV4 (m:List Nat) (n k:Nat):(ws m n k).sum<=kN m:=zV3 m n k (kN m)
theorem zDn (m:List Nat) (n k:Nat) (c:2<=n) (a:n<=258) (g:kN m<=10000):Right (tb m n k):=by
 have b:=zV4 m n k;have d:=zNg (ws m n k);have e:=zLv m n k;have f:=zHc (ws m n k);exact zU4 _ za za (one_pos _) za
def cost (t g:List Nat):Nat:=(g.map fun s=>t.getD s 0).sum
def zGi (a b g:List Nat):Nat:=if cost b g<cost a g then 1 else 0
theorem zZ0 (a b g:List Nat):zGi a b g<=1:=by unfold zGi;split<;>omega
def chosen (m:List Nat) (n:Nat):List Nat:=(grp m).map (zGi (tb m n 0) (tb m n 1))
theorem zIe (m:List Nat) (n:Nat):kN (chosen m n)=kN (grp m):=by simp[chosen]
theorem zGr (m:List Nat) (n:Nat):∀x∈chosen m n,x<=1:=by
 intro x a;obtain⟨g,_,rfl⟩:=qQg.1 a;exact zZ0 _ _ _
end Ch
namespace Rle
abbrev T:=List UInt8
def lead (c:UInt8):Nat->T->Nat
 |0,_=>0
 |_+1,[]=>0
 |n+1,x::r=>if x=c then lead c n r+1 else 0
def zAi:T->Nat
 |[]=>0
 |x::r=>lead x 254 r+1
theorem zNk (c:UInt8):∀(n:Nat) (r:T),lead c n r<=n/\lead c n r<=kN r
 |0,r=>by simp[lead]
 |n+1,[]=>by simp[lead]
 |n+1,x::r=>by
  have:=zNk c n r;rw[lead,qP4];split<;>omega
theorem zOt (c:UInt8):∀(n:Nat) (r:T),r.take (lead c n r)=yP (lead c n r) c
 |0,r=>by simp[lead]
 |n+1,[]=>by simp[lead]
 |n+1,x::r=>by
  rw[lead];split
  .rename_i h
   rw[qR5,qSn,zOt c n r,h]
  .rfl
theorem zOu (c:UInt8):∀(n:Nat) (r:T),lead c n r<n->∀h:lead c n r<kN r,¬r[lead c n r]=c
 |0,r,h1,_=>by simp[lead]at h1
 |n+1,[],_,h=>by simp at h
 |n+1,x::r,h1,h=>by
  rw[lead]at h1;by_cases a:x=c
  .rw[qPr a]at h1;have e:lead c (n+1) (x::r)=lead c n r+1:=by rw[lead,qPr a]
   have b:lead c n r<kN r:=by rw[e]at h;simpa using h
   have:=zOu c n r za b;simpa [e]using this
  .have e:lead c (n+1) (x::r)=0:=by rw[lead,qPt a]
   simpa [e]using a
theorem zGe (x:UInt8) (r:T):zAi (x::r)=lead x 254 r+1:=rfl
theorem zBz (s:T) (h:s≠[]):1<=zAi s:=by
 cases s with
 |nil=>exact absurd rfl h
 |cons x r=>rw[zGe];omega
theorem zFl (s:T):zAi s<=kN s:=by
 cases s with
 |nil=>simp[zAi]
 |cons x r=>have:=zNk x 254 r;rw[zGe,qP4];omega
theorem zEj (s:T):zAi s<=255:=by
 cases s with
 |nil=>simp[zAi]
 |cons x r=>have:=zNk x 254 r;rw[zGe];omega
theorem zIs (x:UInt8) (r:T):(x::r).take (zAi (x::r))=yP (zAi (x::r)) x:=by
 unfold zAi;rw[qR5,qSn,zOt]
theorem zOe (x:UInt8) (r:T) (b:zAi (x::r)<255) (h:zAi (x::r)<kN (x::r)):¬(x::r)[zAi (x::r)]=x:=by
 have e:zAi (x::r)=lead x 254 r+1:=rfl;have a:lead x 254 r<kN r:=by rw[e]at h;simpa using h
 have:=zOu x 254 r za a;simpa [e]using this
theorem zTx (c:UInt8):∀(n:Nat) (r:T) (k:Nat),k<=n->(hk:k<=kN r)->r.take k=yP k c->(k=n\/k=kN r\/∃h:k<kN r,¬r[k]=c)->lead c n r=k
 |0,r,k,h1,_,_,_=>by rw[lead];omega
 |n+1,[],k,_,h2,_,_=>by rw[lead];simp at h2;omega
 |n+1,x::r,0,_,_,_,a=>by
  rcases a with a|a|⟨a,b⟩
  .omega
  .simp at a
  .rw[lead,if_neg (by simpa using b)]
 |n+1,x::r,k+1,h1,h2,h3,a=>by
  rw[qR5,qSn,List.cons.injEq]at h3;rw[lead,if_pos h3.1,zTx c n r k za (by simpa using h2) h3.2];rcases a with a|a|⟨a,b⟩
  .exact qz za
  .exact qy (qz (by simpa using a))
  .exact qy (qy ⟨by simpa using a,by simpa using b⟩)
theorem zJl (x:UInt8) (r:T) (n:Nat) (e:1<=n) (f:n<=255) (c:n<=kN (x::r)) (b:(x::r).take n=yP n x) (a:n=255\/n=kN (x::r)\/∃h:n<kN (x::r),¬(x::r)[n]=x):zAi (x::r)=n:=by
 obtain⟨k,rfl⟩:∃k,n=k+1:=⟨n-1,za⟩;rw[zGe];rw[qR5,qSn,List.cons.injEq]at b;rw[zTx x 254 r k za (by simpa using c) b.2];rcases a with a|a|⟨a,d⟩
 .exact qz za
 .exact qy (qz (by simpa using a))
 .exact qy (qy ⟨by simpa using a,by simpa using d⟩)
def pcs (s:T):List T:=if h:s=[]then[]else s.take (zAi s)::pcs (s.drop (zAi s))
termination_by (kN s)
decreasing_by
 have h1:=zBz s h;have h2:=qSm.2 h;rw[qQo];omega
theorem zB6:pcs []=[]:=by rw[pcs];simp
theorem zBq (s:T) (h:s≠[]):pcs s=s.take (zAi s)::pcs (s.drop (zAi s)):=by rw[pcs];rw[dif_neg h]
theorem zEi {M:T->Prop} (b:M []) (c:∀s,s≠[]->M (s.drop (zAi s))->M s) (s:T):M s:=by
 have a:∀n,∀s:T,kN s<=n->M s:=by
  intro n
  induction n with
  |zero=>intro s d;rw[qQ0 (l:=s) za];exact b
  |succ n ih=>
   intro s d;by_cases h:s=[]
   .rw[h];exact b
   .refine c s h (ih _ ?_);have:=zBz s h;have:=qSm.2 h;rw[qQo];omega
 exact a (kN s) s (qPq _)
theorem zHv (s:T):(pcs s).flatten=s:=by
 refine zEi (M:=fun s=>(pcs s).flatten=s) (by rw[zB6];rfl) (fun s h a=> ?_) s;rw[zBq s h,qSz,a,qSa]
def pk1 (p:T):T:=if kN p<4 then p else p.take 4++[UInt8.ofNat (kN p-4)]
def pack (s:T):T:=(pcs s).flatMap pk1
def zAv (n:Nat):Nat:=if n<4 then n else 5
def Len (s:T):Nat:=kN (pack s)
def lens (l:List T):Nat:=(l.map fun p=>zAv (kN p)).sum
theorem zMc (p:T):kN (pk1 p)=zAv (kN p):=by
 unfold pk1 zAv;split
 .rfl
 .rw[qP0,qQh];simp;omega
theorem zQx:pack []=[]:=by unfold pack;rw[zB6];rfl
theorem zOj (s:T) (h:s≠[]):pack s=pk1 (s.take (zAi s))++pack (s.drop (zAi s)):=by unfold pack;rw[zBq s h,qSk]
theorem zDo (s:T):kN (s.take (zAi s))=zAi s:=by rw[qQh];have:=zFl s;omega
theorem zFu:Len []=0:=by unfold Len;rw[zQx];rfl
theorem zIj (s:T) (h:s≠[]):Len s=zAv (zAi s)+Len (s.drop (zAi s)):=by
 unfold Len;rw[zOj s h,qP0,zMc,zDo]
theorem zG0 (l m:List T):lens (l++m)=lens l+lens m:=by unfold lens;simp
theorem zQ7 (s:T):lens (pcs s)=Len s:=by
 refine zEi (M:=fun s=>lens (pcs s)=Len s) (by rw[zB6,zFu];rfl) (fun s h a=> ?_) s;rw[zBq s h,zIj s h,<-a];unfold lens;rw[qQe,qRd,zDo]
theorem zTl (n:Nat):zAv n<=n+1:=by unfold zAv;split<;>omega
theorem zSm (n:Nat) (h:1<=n) (a:n<=255):4*zAv n<=5*n/\5*n<=255*zAv n:=by unfold zAv;split<;>omega
theorem zBu (s:T):4*Len s<=5*kN s/\5*kN s<=255*Len s:=by
 refine zEi (M:=fun s=>4*Len s<=5*kN s/\5*kN s<=255*Len s) (by rw[zFu];simp) (fun s h a=> ?_) s;have b:=zSm (zAi s) (zBz s h) (zEj s);have c:=zFl s;rw[qQo]at a;rw[zIj s h];omega
theorem zQt (l:List T) (s:T) (h:l<+:pcs s):lens l<=Len s/\(l.map List.length).sum<=kN s:=by
 obtain⟨m,a⟩:=h;constructor
 .rw[<-zQ7 s,<-a,zG0];omega
 .have:=qPs List.length (zHv s);rw[List.length_flatten,<-a]at this;simp at this;omega
abbrev U:=Nat×UInt8×T
def ust (st:U) (c:UInt8):U:=
 if st.1=4 then(0,st.2.1,st.2.2++yP c.toNat st.2.1)
 else if 0<st.1/\c=st.2.1 then(st.1+1,st.2.1,st.2.2++[st.2.1])
 else(1,c,st.2.2++[c])
def zCm (s:T):U:=s.foldl ust (0,0,[])
theorem zV9 (s:T) (c:UInt8):zCm (s++[c])=ust (zCm s) c:=by unfold zCm;rw[qTh];rfl
def zEw (s:T) (most:Int):Int:=if(zCm s).1=4 then 3 else if most<((zCm s).2.2.length:Int)then 4 else 0
def zHr (s:T) (most:Int):T:=if zEw s most=0 then(zCm s).2.2 else[]
theorem zUh (r:Nat) (l b:UInt8) (o:T) (d:r<4) (h:r=0\/¬l=b):ust (r,l,o) b=(1,b,o++[b]):=by
 unfold ust;rw[qPt zq,qPt];rintro⟨a,c⟩;rcases h with h|h
 .simp at a;omega
 .exact h c.symm
theorem zN7 (b:UInt8):∀(k r:Nat) (o:T),0<r->r+k<=4->(yP k b).foldl ust (r,b,o)=(r+k,b,o++yP k b)
 |0,r,o,_,_=>by simp
 |k+1,r,o,h1,h2=>by
  rw[qSn,qTp];have e:ust (r,b,o) b=(r+1,b,o++[b]):=by
   unfold ust;rw[qPt zq,qPr ⟨h1,rfl⟩]
  rw[e,zN7 b k (r+1) (o++[b]) za za];simp;omega
theorem zN5 (b:UInt8) (n r:Nat) (l:UInt8) (o:T) (c:1<=n) (d:n<=4) (a:r<4) (h:r=0\/¬l=b):(yP n b).foldl ust (r,l,o)=(n,b,o++yP n b):=by
 obtain⟨k,rfl⟩:∃k,n=k+1:=⟨n-1,za⟩;rw[qSn,qTp,zUh r l b o a h,zN7 b k 1 _ za za];simp;omega
theorem zY1 (s:T):∀(r:Nat) (l:UInt8) (o:T),r<4->(r=0\/∀c,s.head? =yA c->¬l=c)->∃g l',g<4/\(pack s).foldl ust (r,l,o)=(g,l',o++s):=by
 refine zEi (M:=fun s=>∀(r:Nat) (l:UInt8) (o:T),r<4->(r=0\/∀c,s.head? =yA c->¬l=c)->∃g l',g<4/\(pack s).foldl ust (r,l,o)=(g,l',o++s)) ?_ (fun s h y=> ?_) s
 .intro r l o j _;exact⟨r,l,j,by rw[zQx];simp⟩
 .intro r l o j i;obtain⟨x,t,rfl⟩:∃x t,s=x::t:=by
   cases s with
   |nil=>exact absurd rfl h
   |cons x t=>exact⟨x,t,rfl⟩
  have b:r=0\/¬l=x:=by
   rcases i with i|i
   .exact qz i
   .exact qy (i x rfl)
  have F:=zBz (x::t) h;have G:=zEj (x::t);have H:=zFl (x::t);have w:=zIs x t;rw[zOj _ h,qTh,w];have u:x::t=yP (zAi (x::t)) x++(x::t).drop (zAi (x::t)):=by rw[<-w,qSa]
  generalize q:zAi (x::t)=n at*;by_cases k:n<4
  .have e:pk1 (yP n x)=yP n x:=by unfold pk1;rw[if_pos (by simpa using k)]
   rw[e,zN5 x n r l o F za j b];obtain⟨g,l',a,m⟩:=y n x (o++yP n x) k (qy (fun c p=>by
    rw[List.head?_drop]at p;obtain⟨d,f⟩:=qSj.1 p;have:=zOe x t za (by rw[q];exact d);simp only[q]at this;rw[f]at this;exact fun e=>this e.symm))
   refine⟨g,l',a,?_⟩;rw[m,qQr,<-u]
  .have e:pk1 (yP n x)=yP 4 x++[UInt8.ofNat (n-4)]:=by
    unfold pk1;rw[if_neg (by simpa using k),List.take_replicate,List.length_replicate,Nat.min_eq_left za]
   rw[e,qTh,zN5 x 4 r l o za za j b];have z:List.foldl ust (4,x,o++yP 4 x) [UInt8.ofNat (n-4)]=(0,x,o++yP n x):=by
    rw[qTp,List.foldl_nil];unfold ust;rw[qPr rfl];have B:(UInt8.ofNat (n-4)).toNat=n-4:=by rw[UInt8.toNat_ofNat'];omega
    rw[B];simp only[qQr,List.replicate_append_replicate];rw[show 4+(n-4)=n from za]
   rw[z];obtain⟨g,l',a,m⟩:=y 0 x (o++yP n x) za (qz rfl);refine⟨g,l',a,?_⟩;rw[m,qQr,<-u]
theorem zN6 (s:T):(zCm (pack s)).1<4/\(zCm (pack s)).2.2=s:=by
 obtain⟨r,l,a,b⟩:=zY1 s 0 0 [] za (qz rfl);unfold zCm;rw[b];exact⟨a,rfl⟩
theorem zI9 (s:T) (most:Int) (h:(kN s:Int)<=most):zEw (pack s) most=0:=by
 obtain⟨b,a⟩:=zN6 s;unfold zEw;rw[qPt za,a,qPt za]
theorem zQk (s:T) (most:Int) (h:(kN s:Int)<=most):zHr (pack s) most=s:=by
 unfold zHr;rw[qPr (zI9 s most h),(zN6 s).2]
theorem zUg (st:U) (c:UInt8) (i:Nat) (d:st.1<=4) (a:5*kN st.2.2+254*st.1<=259*i) (b:4*i+st.1<=5*kN st.2.2):
  (ust st c).1<=4/\5*(ust st c).2.2.length+254*(ust st c).1<=259*(i+1)/\4*(i+1)+(ust st c).1<=5*(ust st c).2.2.length:=by
 have e:=c.toNat_lt;unfold ust;split
 .rename_i h
  simp only[qP0,qT0];omega
 .split
  .simp only[qP0,qR8];omega
  .simp only[qP0,qR8];omega
theorem zKe (s:T):(zCm s).1<=4/\5*(zCm s).2.2.length+254*(zCm s).1<=259*kN s/\4*kN s+(zCm s).1<=5*(zCm s).2.2.length:=by
 have a:∀(s:T) (st:U) (i:Nat),st.1<=4->5*kN st.2.2+254*st.1<=259*i->4*i+st.1<=5*kN st.2.2->
   (s.foldl ust st).1<=4/\5*(s.foldl ust st).2.2.length+254*(s.foldl ust st).1<=259*(i+kN s)/\4*(i+kN s)+(s.foldl ust st).1<=5*(s.foldl ust st).2.2.length:=by
  intro s
  induction s with
  |nil=>intro st i b d e;exact⟨b,by simpa using d,by simpa using e⟩
  |cons c s ih=>
   intro st i b d e;obtain⟨f,g,h⟩:=zUg st c i b d e;have:=ih (ust st c) (i+1) f g h;rw[qTp,qP4,show i+(kN s+1)=i+1+kN s from za];exact this
 have:=a s (0,0,[]) 0 zm zm zm;simpa [zCm]using this
def cut (s:T) (a:Int):Nat:=
 if h:s=[]then 0
 else if(zAv (zAi s):Int)<=a then zAi s+cut (s.drop (zAi s)) (a-zAv (zAi s))
 else min (min (max a 0).toNat 3) (zAi s)
termination_by (kN s)
decreasing_by
 have h1:=zBz s h;have h2:=qSm.2 h;rw[qQo];omega
theorem zNu (a:Int):cut [] a=0:=by rw[cut];simp
theorem zLn (s:T) (a:Int) (h:s≠[]) (b:(zAv (zAi s):Int)<=a):cut s a=zAi s+cut (s.drop (zAi s)) (a-zAv (zAi s)):=by rw[cut];rw[dif_neg h,qPr b]
theorem zGq (s:T) (a:Int) (h:s≠[]) (b:¬(zAv (zAi s):Int)<=a):cut s a=min (min (max a 0).toNat 3) (zAi s):=by rw[cut];rw[dif_neg h,qPt b]
theorem zZj (x:UInt8) (k:Nat) (a:1<=k) (b:k<=255):zAi (yP k x)=k:=by
 obtain⟨j,rfl⟩:∃j,k=j+1:=⟨k-1,za⟩;rw[qSn];refine zJl x _ (j+1) a b zm ?_ (qy (qz zm));rw[<-qSn,List.take_replicate,Nat.min_self]
theorem qEi (x:UInt8) (k:Nat) (a:k<=255):Len (yP k x)=zAv k:=by
 by_cases h:k=0
 .subst h;rw[List.replicate_zero,zFu];rfl
 .have hne:yP k x≠[]:=by intro e;have:=qPs List.length e;simp at this;omega
  rw[zIj _ hne,zZj x k za a];simp[zFu]
theorem zHj (s:T) (k:Nat) (a:k<=zAi s):Len (s.take k)=zAv k:=by
 cases s with
 |nil=>simp[zAi]at a;subst a;simp[zFu,zAv]
 |cons x r=>
  have e:(x::r).take k=yP k x:=by
   have:=qPs (List.take k) (zIs x r);rw[List.take_take,List.take_replicate,qTj a]at this;exact this
  rw[e];exact qEi x k (by have:=zEj (x::r);omega)
theorem zQ (s:T) (k:Nat) (c:s≠[]) (l:zAi s<=k):zAi (s.take k)=zAi s:=by
 cases s with
 |nil=>exact absurd rfl c
 |cons x r=>
  have f:=zBz (x::r) c;have i:=zFl (x::r);obtain⟨j,rfl⟩:∃j,k=j+1:=⟨k-1,za⟩;rw[qR5];have e:(x::r.take j)=(x::r).take (j+1):=by rw[qR5]
  refine zJl x (r.take j) _ f (zEj _) ?_ ?_ ?_
  .rw[e,qQh];omega
  .rw[e,List.take_take,qTj za];exact zIs x r
  .by_cases g:zAi (x::r)=255
   .exact qz g
   .by_cases b:zAi (x::r)=kN (x::r.take j)
    .exact qy (qz b)
    .have a:zAi (x::r)<kN (x::r.take j):=by
      rw[e,qQh]at b⊢;omega
     refine qy (qy ⟨a,?_⟩);have h:=zOe x r (by have:=zEj (x::r);omega) (by rw[e,qQh]at a;omega);have d:(x::r.take j)[zAi (x::r)]=(x::r)[zAi (x::r)]'(by rw[e,qQh]at a;omega):=by
      simp only[e,List.getElem_take]
     rw[d];exact h
theorem zIl (s:T) (k:Nat) (a:s≠[]) (b:zAi s<=k):Len (s.take k)=zAv (zAi s)+Len ((s.drop (zAi s)).take (k-zAi s)):=by
 have c:=zBz s a;have hne:s.take k≠[]:=by
  intro e;have:=qPs List.length e;have d:=zFl s;have f:=qSm.2 a;rw[qQh]at this;simp only[qQy]at this;omega
 rw[zIj _ hne,zQ s k a b,List.drop_take]
theorem zLm (s:T):∀b:Int,0<=b->cut s b<=kN s/\(Len (s.take (cut s b)):Int)<=b/\(cut s b<kN s->b<(Len (s.take (cut s b+1)):Int)):=by
 refine zEi (M:=fun s=>∀b:Int,0<=b->cut s b<=kN s/\(Len (s.take (cut s b)):Int)<=b/\(cut s b<kN s->b<(Len (s.take (cut s b+1)):Int))) ?_ (fun s h i=> ?_) s
 .intro b d;rw[zNu];simp[zFu,d]
 .intro b d;have j:=zBz s h;have l:=zFl s;by_cases c:(zAv (zAi s):Int)<=b
  .rw[zLn s b h c];obtain⟨g,m,e⟩:=i (b-zAv (zAi s)) za;generalize cut (s.drop (zAi s)) (b-zAv (zAi s))=k at*;rw[qQo]at g e;refine⟨za,?_,fun f=> ?_⟩
   .rw[zIl s _ h za,show zAi s+k-zAi s=k from za];omega
   .rw[zIl s _ h za,show zAi s+k+1-zAi s=k+1 from za];have:=e za;omega
  .rw[zGq s b h c];have a:min (min (max b 0).toNat 3) (zAi s)<=zAi s:=Nat.min_le_right _ _;refine⟨za,?_,fun f=> ?_⟩
   .rw[zHj s _ a];unfold zAv at*;split<;>split at c<;>omega
   .rw[zHj s _ (by unfold zAv at c;split at c<;>omega)];unfold zAv at*;split<;>split at c<;>omega
theorem zZw (n:Nat) (h:1<=n):1<=zAv n:=by unfold zAv;split<;>omega
theorem qBc (s:T) (a:Int) (h:a<=0):cut s a=0:=by
 by_cases b:s=[]
 .rw[b,zNu]
 .have:=zZw _ (zBz s b);rw[zGq s a b za,show(max a 0).toNat=0 from za];simp
theorem zJ2 (s:T) (a:Int) (b:s≠[]) (h:1<=a):1<=cut s a:=by
 have d:=zBz s b;by_cases c:(zAv (zAi s):Int)<=a
 .rw[zLn s a b c];omega
 .rw[zGq s a b c];omega
theorem qGb (s:T) (a:Int):cut s a<=kN s:=by
 by_cases h:0<=a
 .exact(zLm s a h).1
 .rw[qBc s a za];exact qQl _
end Rle
namespace Bk
open Ch Hf Bt
def zA0 (t:Nat->List Nat) (m:List Nat) (p n:Nat):List Bool:=(List.range' p n).flatMap fun q=>word (t (q/10)) (m.getD q 0)
theorem zJa (t:Nat->List Nat) (m:List Nat) (p n:Nat):zA0 t m p (n+1)=word (t (p/10)) (m.getD p 0)++zA0 t m (p+1) n:=by
 unfold zA0;rw[List.range'_succ,qSk]
theorem body_add (t:Nat->List Nat) (m:List Nat) (p a b:Nat):zA0 t m p (a+b)=zA0 t m p a++zA0 t m (p+a) b:=by
 unfold zA0;rw[<-List.range'_append_1,List.flatMap_append]
theorem zMw (t:Nat->List Nat) (m:List Nat) (i:Nat):∀(k j:Nat),j+k<=10->10*i+j+k<=kN m->zA0 t m (10*i+j) k=(((m.drop (10*i+j)).take k).flatMap (word (t i)))
 |0,j,_,_=>by simp[zA0]
 |k+1,j,h1,h2=>by
  have hd:m.drop (10*i+j)=m[10*i+j]::m.drop (10*i+j+1):=qSb za;rw[zJa,show 10*i+j+1=10*i+(j+1)by omega,zMw t m i k (j+1) za za,hd,qR5,qSk];rw[show(10*i+j)/10=i by omega,qPz,qPu za];rfl
def zNp (t:Nat->List Nat) (m:List Nat) (n:Nat):List Bool:=(yO n).flatMap fun i=>((grp m).getD i []).flatMap (word (t i))
theorem zXy (t:Nat->List Nat) (m:List Nat) (n:Nat):zNp t m (n+1)=zNp t m n++((grp m).getD n []).flatMap (word (t n)):=by
 unfold zNp;rw[qQw,List.flatMap_append];simp
theorem zOx (t:Nat->List Nat) (m:List Nat):∀n,n<=kN (grp m)->zNp t m n=zA0 t m 0 (min (10*n) (kN m))
 |0,_=>by simp[zNp,zA0]
 |n+1,h=>by
  rw[zBx]at h;have d:=zOx t m n (by rw[zBx];omega);have b:=zJy m n za;rw[zXy,d,qPz,b,qQ5];obtain⟨k,c⟩:∃k,min (10*(n+1)) (kN m)=10*n+k:=⟨min (10*(n+1)) (kN m)-10*n,za⟩;rw[c,show min (10*n) (kN m)=10*n by omega,body_add,qQd];congr 1;have:=zMw t m n k 0 za za;rw[qRi]at this;rw[this];congr 1;apply qRt;intro j;rw[qSc,qSc];by_cases a:j<k
  .rw[qPr a,qPr za]
  .rw[qPt a];split
   .rw[List.getElem?_drop,qQq za]
   .rfl
end Bk
namespace Crc
def poly:BitVec 32:=79764919#32
def top:BitVec 32:=2147483648#32
@[irreducible] def U (x:BitVec 32):Int:=(x.toNat:Int)
theorem zN0 (x:BitVec 32):0<=U x:=by unfold U;omega
theorem zN1 (x:BitVec 32):U x<4294967296:=by unfold U;have:=x.isLt;omega
theorem qHo {a b:BitVec 32} (h:U a=U b):a=b:=by
 unfold U at h;exact BitVec.eq_of_toNat_eq za
theorem qHp (a b:BitVec 32):(U a==U b)=(a==b):=by
 rw[qSg,qSq,qSq];exact⟨qHo,fun h=>by rw[h]⟩
theorem zPr (a b:BitVec 32):bits .xor .u32 (U a) (U b)=U (a^^^b):=by
 unfold U;rw[u32_xor_nat _ _ a.isLt b.isLt,BitVec.toNat_xor]
theorem qH1 (a b:BitVec 32):bits .or .u32 (U a) (U b)=U (a|||b):=by
 unfold U;rw[u32_or_nat _ _ a.isLt b.isLt,BitVec.toNat_or]
theorem qHq (a b:BitVec 32):bits .and .u32 (U a) (U b)=U (a&&&b):=by
 unfold U;rw[u32_and_nat _ _ a.isLt b.isLt,BitVec.toNat_and]
theorem zVw (a:BitVec 32):U a*(2:Int)%(4294967296:Int)=U (a<<<1):=by
 unfold U;rw[qUh,Nat.shiftLeft_eq];simp
theorem qGn (a:BitVec 32):U a*(256:Int)%(4294967296:Int)=U (a<<<8):=by
 unfold U;rw[qUh,Nat.shiftLeft_eq];simp
theorem qEg (a:BitVec 32):U a/(2147483648:Int)=U (a>>>31):=by
 unfold U;rw[qUi,qT4];simp
theorem zTt (a:BitVec 32):a.msb=yJ (2147483648<=a.toNat):=by
 rw[BitVec.msb_eq_decide]
def rot (a:BitVec 32):BitVec 32:=(a<<<1)|||(a>>>31)
def qHx (a:BitVec 32):BitVec 32:=(a>>>1)|||(a<<<31)
theorem qGo:(79764919:Int)=U poly:=by unfold U;rfl
theorem qGp:(4294967295:Int)=U (BitVec.allOnes 32):=by unfold U;rfl
def st (c:BitVec 32):BitVec 32:=if c.msb then(c<<<1)^^^poly else c<<<1
def it:Nat->BitVec 32->BitVec 32
 |0,c=>c
 |n+1,c=>st (it n c)
theorem qE2 (a b:BitVec 32):st (a^^^b)=st a^^^st b:=by
 unfold st;rw[BitVec.msb_xor,BitVec.shiftLeft_xor_distrib];cases a.msb<;>cases b.msb<;>simp
 .ac_rfl
 .ac_rfl
 .rw[show a<<<1^^^poly^^^(b<<<1^^^poly)=(a<<<1^^^b<<<1)^^^(poly^^^poly)from by ac_rfl,BitVec.xor_self,BitVec.xor_zero]
theorem zRa (n:Nat) (a b:BitVec 32):it n (a^^^b)=it n a^^^it n b:=by
 induction n with
 |zero=>rfl
 |succ n ih=>rw[it,it,it,ih,qE2]
def bit (b:Bool):BitVec 32:=if b then top else 0#32
def up (c:BitVec 32) (b:Bool):BitVec 32:=st (c^^^bit b)
theorem qE1 (a:BitVec 32) (h:a.msb=yH):bits .xor .u32 (U a*(2:Int)%(4294967296:Int)) (79764919:Int)=U (st a):=by
 unfold st;rw[qPr h,zVw,qGo,zPr]
theorem qG2 (a:BitVec 32) (h:a.msb=yI):U a*(2:Int)%(4294967296:Int)=U (st a):=by
 unfold st;rw[qPt (by rw[h];decide),zVw]
theorem zNz (a:BitVec 32):(bits .and .u32 (U a) (2147483648:Int)==0)= !a.msb:=by
 have h:(2147483648:Int)=U top:=by unfold U;rfl
 have b:(0:Int)=U 0#32:=by unfold U;rfl
 rw[h,qHq,b,qHp,zTt];have e:(a&&&top).toNat=a.toNat/2^31%2*2^31:=by rw[BitVec.toNat_and];exact nat_bit 31 a.toNat
 have d:=a.isLt;rw[qSg,qSq];constructor
 .intro h;rw[h]at e;have c:a.toNat/2^31%2*2^31=0:=by rw[<-e];rfl
  simp;omega
 .intro h;apply BitVec.eq_of_toNat_eq;rw[e];simp at h⊢;omega
theorem qEh (i:Nat) (h:i<256):(i:Int)*(16777216:Int)=U (BitVec.ofNat 32 i<<<24):=by
 unfold U;rw[qUh,BitVec.toNat_ofNat,qRh (a:=i) za,Nat.shiftLeft_eq,qRh za];omega
def wide (x:BitVec 8):BitVec 32:=(x.setWidth 32)<<<24
def tk (c:BitVec 32) (x:BitVec 8):BitVec 32:=it 8 (c^^^wide x)
theorem qFv (n:Nat):∀(c:BitVec 32),c.toNat*2^n<4294967296->it n c=c<<<n:=by
 induction n with
 |zero=>intro c _;simp[it]
 |succ n ih=>
  intro c a;have b:(2:Nat)^(n+1)=2*2^n:=by rw[qRq,qRo]
  rw[b]at a;have e:c.toNat*2^n*2<4294967296:=by rw[qTf,qRo (2^n)];exact a
  rw[it,ih c za];unfold st;have d:(c<<<n).msb=yI:=by
   rw[zTt,qUh,Nat.shiftLeft_eq,qRh za];simp;omega
  rw[d];simp only[Bool.false_eq_true,if_false];rw[<-BitVec.shiftLeft_add]
def tab (i:Nat):BitVec 32:=it 8 (BitVec.ofNat 32 i<<<24)
theorem qEq (c:BitVec 32) (x:BitVec 8):tk c x=(c<<<8)^^^tab ((c>>>24).toNat^^^x.toNat):=by
 have f:BitVec.ofNat 32 ((c>>>24).toNat^^^x.toNat)=(c>>>24)^^^x.setWidth 32:=by
  apply BitVec.eq_of_toNat_eq;rw[BitVec.toNat_xor,BitVec.toNat_ofNat,BitVec.toNat_setWidth,qRh (a:=x.toNat) (by have:=x.isLt;omega)];exact qRh (Nat.xor_lt_two_pow (n:=32) (c>>>24).isLt (by have:=x.isLt;omega))
 unfold tk tab;rw[f,BitVec.shiftLeft_xor_distrib,zRa,zRa,wide,<-BitVec.xor_assoc];congr 1;have d:c=((c>>>24)<<<24)^^^(c&&&16777215#32):=by
  apply BitVec.eq_of_getLsbD_eq;intro i hi;simp only[BitVec.getLsbD_xor,BitVec.getLsbD_shiftLeft,BitVec.getLsbD_ushiftRight,BitVec.getLsbD_and];by_cases h:i<24
  .have b:(16777215#32).getLsbD i=yH:=by
    have:∀j:Fin 24,(16777215#32).getLsbD j.val=yH:=qW
    exact this ⟨i,h⟩
   simp[h,b]
  .have b:(16777215#32).getLsbD i=yI:=by
    have:∀j:Fin 32,¬j.val<24->(16777215#32).getLsbD j.val=yI:=qW
    exact this ⟨i,hi⟩ h
   have:24+(i-24)=i:=za
   rw[b,this];simp[h,hi]
 have b:it 8 (c&&&16777215#32)=c<<<8:=by
  rw[qFv 8]
  .apply BitVec.eq_of_getLsbD_eq;intro i hi;simp only[BitVec.getLsbD_shiftLeft,BitVec.getLsbD_and];by_cases h:i<8
   .simp[h]
   .have:∀j:Fin 24,(16777215#32).getLsbD j.val=yH:=qW
    have e:=this ⟨i-8,za⟩;simp only at e;rw[e];simp
  .have e:(c&&&16777215#32).toNat<2^24:=by
    rw[BitVec.toNat_and];exact Nat.and_lt_two_pow _ qW
   omega
 conv=>lhs;rw[d,zRa,b]
 rw[BitVec.xor_comm]
theorem qHn (a:BitVec 32):bits .xor .u32 IntKind.u32.max (U a)=U (~~~ a):=by
 rw[show IntKind.u32.max=U (BitVec.allOnes 32)from qGp,zPr,BitVec.allOnes_xor]
@[irreducible] def look (X:BitVec 32) (x:UInt8):Nat:=(X>>>24).toNat^^^x.toNat
theorem qDb (X:BitVec 32) (x:UInt8):look X x<256:=by
 unfold look;refine Nat.xor_lt_two_pow (n:=8) ?_ ?_
 .rw[qUi,qT4];have:=X.isLt;omega
 .have:=x.toNat_lt;omega
theorem zXi (X:BitVec 32) (x:UInt8):bits .xor qo (U X/(16777216:Int)) (x.toNat:Int)=(look X x:Int):=by
 unfold look U;have e:((X.toNat:Int)/(16777216:Int))=(((X>>>24).toNat:Nat):Int):=by
  rw[qUi,qT4];omega
 rw[e,u8_xor_nat _ _ (by rw[qUi,qT4];have:=X.isLt;omega) (by have:=x.toNat_lt;omega)]
theorem qDa (X:BitVec 32) (x:UInt8):bits .xor .u32 (U X*(256:Int)%(4294967296:Int)) (U (tab (look X x)))=U (tk X x.toBitVec):=by
 rw[qGn,zPr,qEq];unfold look;rfl
def feeds (c:BitVec 32) (l:List UInt8):BitVec 32:=l.foldl (fun c x=>tk c x.toBitVec) c
def more (c:BitVec 32) (l:List UInt8):BitVec 32:= ~~~ feeds (~~~ c) l
def sum (l:List UInt8):BitVec 32:=more 0#32 l
theorem zI6 (c:BitVec 32) (a b:List UInt8):feeds c (a++b)=feeds (feeds c a) b:=by
 unfold feeds;rw[qTh]
theorem zVb (c:BitVec 32) (l:List UInt8) (x:UInt8):feeds c (l++[x])=tk (feeds c l) x.toBitVec:=by
 rw[zI6];rfl
theorem zSo (c:BitVec 32) (a b:List UInt8):more c (a++b)=more (more c a) b:=by
 unfold more;rw[zI6,BitVec.not_not]
theorem sum_append (a b:List UInt8):sum (a++b)=more (sum a) b:=zSo _ a b
end Crc
namespace Us
open Bt Zr
def zCo (l:List Nat) (k i:Nat):List Bool:=(yO i).map fun j=>decide (k*16+j∈l)
theorem zQh (l:List Nat) (k i:Nat):kN (zCo l k i)=i:=by simp[zCo]
theorem zWy (l:List Nat) (k i:Nat):zCo l k (i+1)=zCo l k i++[yJ (k*16+i∈l)]:=by simp[zCo,qQw]
def zCc (l:List Nat) (k:Nat):Nat:=val (zCo l k 16)
theorem zM9 (l:List Nat) (k i:Nat) (h:i<=16):val (zCo l k i)<65536:=by
 have a:=zEy (zCo l k i);rw[zQh]at a;have b:2^i<=2^16:=qR9 za h;omega
theorem or_one (v:Nat) (hv:v<1000000):bits .or .u64 ((v:Int)*2) 1=(v:Int)*2+1:=by
 have h:=or_bit v za yH;rw[zNw,show(true.toNat)=1 from rfl]at h;rw[show IntKind.u64.wrap ((v:Int)*2)=(v:Int)*2 from qSh _ ⟨za,za⟩,show IntKind.u64.wrap ((128:Int)/128)=1 from rfl]at h;rw[h];omega
theorem zJm (l:List Nat) (k:Nat) (z:k<16) (w:yC):
  yG yK 99 #[.agg (cellsOf 256 (has l)),k] w fun e w'=>e=qx (qX .u64 (zCc l k:Int))/\yM w w w':=by
 obtain⟨B,p⟩:=zB w.heap.size;have c:Arr (w.alloc (qp (cellsOf 256 (has l)) TS)) B TS 256 (has l):=by
  show _=_;rw[<-p];show(w.heap.push _)[w.heap.size]? =_;simp
 obtain⟨W,n⟩:=zB (w.alloc (qp (cellsOf 256 (has l)) TS));have d:yM B w W:=by rw[<-n,<-p];exact(yR _ _).alloc (qPq _) _
 rw[n]at c;obtain⟨h,g⟩:=yU c d;obtain⟨y,f⟩:=zB (cellsOf 256 (has l));rw[f]at n⊢;rw[p];clear c d f;go_enter func99,ntmps99;go_wp2;clear n;go_loopw [4,6] (fun v i wr=>∃j:Nat,j<=16/\i=qX qm j/\v=qX .u64 (val (zCo l k j):Nat)/\wr=W) (fun _ i _=>16-(intOf i).toNat)
 case atStart=>exact⟨0,za,rfl,rfl,rfl⟩
 case round=>
  obtain⟨j,s,rfl,rfl,rfl⟩:=hrel;by_cases u:j<16
  .have hv:=zM9 l k j s;have r:=h.out.cell (k*16+j) za;unfold has at r;have a:=zWy l k j;by_cases o:k*16+j∈l
   .rw[qQ o]at r a;have b:=yT (val (zCo l k (j+1))=val (zCo l k j)*2+1) (by rw[a,zEh];rfl);obtain⟨q,m⟩:=zB (val (zCo l k j));rw[m]at hv b⊢;have t:=or_one q za;have x:=zH t;clear o a m;go_wp2;go_roundw
    case rel=>exact⟨j+1,za,by go_num,by rw[b.out];push_cast;rfl,trivial⟩
    case measure=>exact z8
   .rw[qP1 o]at r a;have b:=yT (val (zCo l k (j+1))=val (zCo l k j)*2) (by rw[a,zEh];simp);obtain⟨q,m⟩:=zB (val (zCo l k j));rw[m]at hv b⊢;clear o a m;go_wp2;go_roundw
    case rel=>exact⟨j+1,za,by go_num,by rw[b.out];push_cast;rfl,trivial⟩
    case measure=>exact z8
  .obtain rfl:j=16:=za
   go_wp2;go_ret;exact⟨rfl,g.out⟩
end Us
namespace Zr
open Front Ix Bt
variable {now n B:Nat} {w w0 w':yC} {m m':List Bool}
theorem zQ4 (n:Nat) (c:2<=n) (d:n<=258) (w:yC):
  yG yK 95 #[n] w fun e w'=>e=qx (qh yH)/\w'=w:=by
 have a:decide ((2:Int)<=(n:Int))=yH:=qQ za;have b:decide ((n:Int)<=258)=yH:=qQ za;go_enter func95,ntmps95;go_wp2;go_ret;exact⟨rfl,rfl⟩
theorem zJw (n:Nat) (c:1<=n) (d:n<=20) (w:yC):
  yG yK 97 #[n] w fun e w'=>e=qx (qh yH)/\w'=w:=by
 have a:decide ((1:Int)<=(n:Int))=yH:=qQ za;have b:decide ((n:Int)<=20)=yH:=qQ za;go_enter func97,ntmps97;go_wp2;go_ret;exact⟨rfl,rfl⟩
theorem zX9 (n:Nat) (a:1<=n) (b:n<=20) (w:yC):
  yG yK 96 #[ival n] w fun e w'=>e=qx (qh ((fun _=>yI) n))/\w'=w:=by
 have HM:=zH (zJw n a b w);go_enter func96,ntmps96;go_wp2_with fail;(with_reducible refine HM.out.mono ?_);rintro e w2 ⟨rfl,rfl⟩;go_wp2;go_ret;exact⟨rfl,rfl⟩
theorem zP1 (h:now<n):steps now n=[yH,yI]++steps (now+1) n:=by
 unfold steps;rw[show n-now=n-(now+1)+1 by omega,show now-n=0 by omega,show now+1-n=0 by omega,qSn,qSz];simp
theorem zL3 (h:n<now):steps now n=[yH,yH]++steps (now-1) n:=by
 unfold steps;rw[show n-now=0 by omega,show n-(now-1)=0 by omega,show now-n=now-1-n+1 by omega,qSn,qSz];simp
theorem zK1 (n:Nat):steps n n=[yI]:=by unfold steps;simp
theorem qB1:num 2 2=[yH,yI]:=qW
theorem qHf:num 3 2=[yH,yH]:=qW
theorem qB2:num 0 1=[yI]:=qW
theorem zA3 {u v x y:yD} {t:yE} (h:w.heap[B]? =yA (qp #[u,v] t)):((w.setCell ⟨B,0,yB⟩ x).setCell ⟨B,1,yB⟩ y).heap[B]? =yA (qp #[x,y] t):=
 setBlock 1 (setBlock 0 h)
structure HB (w0 w:yC) (B:Nat) (m:List Bool):Prop where
 blk:w.heap[B]? =yA (qp #[qY (pk m),qX qm (kN m:Int)] 51)
 below:yM B w0 w
theorem HB.set (h:HB w0 w B m) (b:yM w w w'):HB w0 ((w'.setCell ⟨B,0,yB⟩ (qY (pk m'))).setCell ⟨B,1,yB⟩ (qX qm (kN m':Int))) B m':=by
 have a:=zAd h.blk;exact⟨zA3 ((b.block B a).trans h.blk),zCs (h.below.trans (b.mono za)) (qPq _)⟩
theorem HB.mid (h:HB w0 w B m) (b:yM w w w'):HB w0 w' B m:=by
 have a:=zAd h.blk;exact⟨(b.block B a).trans h.blk,h.below.trans (b.mono za)⟩
theorem zRn (l:List Nat) (j now:Nat) (a:j<kN l):del now (l.drop j)=steps now l[j]++del l[j] (l.drop (j+1)):=by
 rw[qSb a,del]
theorem zD1 (m:List Bool) (v n:Nat) (g:m++num v n=m') {d:ByteArray} (hd:pk m=d) {k V N:Int} (c:(kN m:Int)=k) (b:(v:Int)=V) (a:(n:Int)=N) (hv:v<18446744073709551616) (h:n<=64) (f:kN m+n<=1000000) (w:yC):
  yG yK 24 #[.agg #[qY d,qX qm k],qX .u64 V,qX qm N] w fun e w'=>e=qx (qg #[.agg #[qY (pk m'),qX qm (kN m':Int)],qX qm 0])/\yM w w w':=by
 subst g hd c b a;exact zJo m v n w hv h f
theorem zLj (l:List Nat) (a:Option yF) (n c:Nat) (w:yC) (hn:kN l=n) (h2:2<=n) (a0:n<=258) (hs:yt w a (l.map ival)) (hl:∀x∈l,1<=x/\x<=20) (hd:kN (delta l)<=900000):
  yG yK 27 #[qZ a n c] w fun e w'=>e=qx (qg #[zAe (delta l),qX qm 0])/\yM w w w':=by
 obtain⟨B,hB⟩:=zB w.heap.size;obtain⟨W,hW⟩:=zB (w.alloc (qp #[qY ⟨#[]⟩,qX qm 0] 51));have P:yM B w W:=by rw[<-hW,<-hB];exact(yR _ _).alloc (qPq _) _
 have hX:W.heap[B]? =yA (qp #[qY (pk []),qX qm (kN ([]:List Bool):Int)] 51):=by
  rw[<-hW,<-hB];show(w.heap.push _)[w.heap.size]? =_;simp;rfl
 obtain⟨H0,HM⟩:=yU (HB.mk hX P) (zQ4 n h2 a0 W);have H:yt W a (l.map ival):=hs.below (by rw[hB];exact P);have HQ:=zH (zE5 (fun _=>yI) l 96 a n c W hn za H (zHw func96 rfl rfl) (fun x hx=>zX9 x (hl x hx).1 (hl x hx).2 W));rw[any_false]at HQ;have t:0<kN l:=za
 obtain⟨x0,u⟩:=zB (l[0]);obtain⟨b,off,rfl,e0⟩:=H 0 (ival x0) (by rw[qP3,qPu t,u];rfl);rw[qRi]at e0;have a1:1<=x0/\x0<=20:=by rw[<-u];exact hl _ (qP9 t)
 have r:delta l=num x0 5++del x0 (l.drop 0):=by
  unfold delta;rw[<-u,qR1];congr 2<;>(rw[List.headD_eq_head?_getD,List.head?_eq_getElem?,qPu t];rfl)
 obtain⟨T,hT⟩:=zB (delta l);rw[hT]at hd r⊢;obtain⟨HS,HL,HN,HD,HT,HP⟩:=yZ hs hl hn hd r (zD1 [] x0 5 (qQm _) (d:=⟨#[]⟩) rfl (k:=0) (N:=5) rfl rfl rfl za za zm W);unfold zAe;obtain⟨m0,O⟩:=zB (num x0 5);rw[O]at HP HT;obtain⟨y,z,Z,f1⟩:=zAf hX;rw[show pk []=⟨#[]⟩from rfl]at y;rw[show((kN ([]:List Bool):Nat):Int)=0 from rfl]at z;have HU:IntKind.u64.wrap (x0:Int)=(x0:Int):=by
  rw[show IntKind.u64.wrap (x0:Int)=(x0:Int)%18446744073709551616 from rfl];omega
 clear hs hl hn hd r u t H hT hX O;rw[hB];go_enter func27,ntmps27;go_wp2_with fail;(with_reducible refine HM.out.mono ?_);rintro e w2 ⟨rfl,rfl⟩;go_wp2_with fail;(with_reducible refine HQ.out.mono ?_);rintro e w2 ⟨rfl,rfl⟩;go_wp2_with fail;(with_reducible refine HP.out.mono ?_);rintro e w3 ⟨rfl,K⟩;clear y z Z f1 e0;obtain⟨y,z,Z,f1⟩:=zAf (H0.out.mid K).blk;have H4:=zH (H0.out.set (m':=m0) K);clear K hW;go_wp2;clear y z Z f1 HU;generalize ((w3.setCell ⟨B,0,yB⟩ (qY (pk m0))).setCell ⟨B,1,yB⟩ (qX qm (kN m0:Int)))=W4 at H4⊢;go_loopw [28,4] (fun i v wr=>∃(j f:Nat) (m:List Bool),j<=n/\i=qX qm j/\v=qX qm f/\f<=20/\yL (HB w wr B m)/\yL (T=m++del f (l.drop j))) (fun i _ _=>n-(intOf i).toNat)
 case atStart=>exact⟨0,x0,m0,za,rfl,rfl,za,H4,HT⟩
 case round=>
  clear H4 HT;obtain⟨j,f,m,hj,rfl,rfl,o,q,ht⟩:=hrel;by_cases X:j<n
  .have F:j<kN l:=by rw[HN.out];exact X
   obtain⟨x,hx⟩:=zB (l[j]);obtain⟨b',a2,I,e0⟩:=(HS.out.below (w':=wr) (by rw[hB];exact q.out.below)) j (ival x) (by rw[qP3,qPu F,hx];rfl);injection I with I
   injection I with hb1 hb2 _
   subst hb1 hb2;have a4:1<=x/\x<=20:=by rw[<-hx];exact HL.out _ (qP9 F)
   have L:=yT (T=m++(steps f x++del x (l.drop (j+1)))) (by rw[ht.out,zRn l j f F,hx]);clear ht hx;go_wp2;clear e0;go_loopw [4] (fun v wr=>∃(f:Nat) (m:List Bool),v=qX qm f/\f<=20/\yL (HB w wr B m)/\yL (T=m++(steps f x++del x (l.drop (j+1))))) (fun v _=>20-(intOf v).toNat)
   case atStart=>exact⟨f,m,rfl,o,q,L⟩
   case round=>
    clear L q o;obtain⟨f,m,rfl,o,q,ht⟩:=hrel;by_cases M:f<x
    .have G:=zP1 M;obtain⟨m2,g⟩:=zB (m++[yH,yI]);have p:kN m+2<=1000000:=by have h1:=HD.out;rw[ht.out,qP0]at h1;omega
     obtain⟨hq,s⟩:=yU (zD1 m 2 2 (m':=m2) (by rw[qB1,g]) (d:=pk m) rfl (k:=(kN m:Int)) (V:=2) (N:=2) rfl rfl rfl za za p wr) g;clear p g;obtain⟨y,z,Z,f1⟩:=zAf q.out.blk;go_wp2_with fail;(with_reducible refine hq.out.mono ?_);rintro e w4 ⟨rfl,h⟩;clear y z Z f1 hq;obtain⟨y,z,Z,f1⟩:=zAf (q.out.mid h).blk;have H5:=zH (q.out.set (m':=m2) h);clear h;go_wp2;clear y z Z f1;go_roundw
     case rel=>exact⟨f+1,m2,by go_num,za,H5,zH (by rw[ht.out,G,<-s.out];simp)⟩
     case measure=>exact qV
    .go_wp2;go_loopw [4] (fun v wr=>∃(f:Nat) (m:List Bool),v=qX qm f/\f<=20/\x<=f/\yL (HB w wr B m)/\yL (T=m++(steps f x++del x (l.drop (j+1))))) (fun v _=>(intOf v).toNat)
     case atStart=>exact⟨f,m,rfl,o,za,q,ht⟩
     case round=>
      clear ht q o M;obtain⟨f,m,rfl,o,a3,q,ht⟩:=hrel;by_cases Y:x<f
      .have G:=zL3 Y;have S:((f-1:Nat):Int)=(f:Int)-1:=za
       obtain⟨m2,g⟩:=zB (m++[yH,yH]);have p:kN m+2<=1000000:=by have h1:=HD.out;rw[ht.out,qP0]at h1;omega
       obtain⟨hq,s⟩:=yU (zD1 m 3 2 (m':=m2) (by rw[qHf,g]) (d:=pk m) rfl (k:=(kN m:Int)) (V:=3) (N:=2) rfl rfl rfl za za p wr) g;clear p g;obtain⟨y,z,Z,f1⟩:=zAf q.out.blk;go_wp2_with fail;(with_reducible refine hq.out.mono ?_);rintro e w4 ⟨rfl,h⟩;clear y z Z f1 hq;obtain⟨y,z,Z,f1⟩:=zAf (q.out.mid h).blk;have H5:=zH (q.out.set (m':=m2) h);clear h;go_wp2;clear y z Z f1;go_roundw
       case rel=>exact⟨f-1,m2,by rw[S];try go_num,za,za,H5,zH (by rw[ht.out,G,<-s.out];simp)⟩
       case measure=>exact qV
      .obtain rfl:f=x:=za
       obtain⟨m2,g⟩:=zB (m++[yI]);have p:kN m+1<=1000000:=by have h1:=HD.out;rw[ht.out,qP0]at h1;omega
       obtain⟨hq,s⟩:=yU (zD1 m 0 1 (m':=m2) (by rw[qB2,g]) (d:=pk m) rfl (k:=(kN m:Int)) (V:=0) (N:=1) rfl rfl rfl za za p wr) g;clear p g;obtain⟨y,z,Z,f1⟩:=zAf q.out.blk;go_wp2_with fail;(with_reducible refine hq.out.mono ?_);rintro e w4 ⟨rfl,h⟩;clear y z Z f1 hq;obtain⟨y,z,Z,f1⟩:=zAf (q.out.mid h).blk;have H5:=zH (q.out.set (m':=m2) h);clear h;go_wp2;clear y z Z f1;go_roundw
       case rel=>exact⟨j+1,f,m2,za,by go_num,rfl,za,H5,zH (by rw[ht.out,zK1,<-s.out];simp)⟩
       case measure=>exact qV
  .obtain rfl:j=n:=za
   have R:T=m:=by rw[ht.out,qSv (by rw[HN.out];omega),del,qQv]
   subst R;obtain⟨y,z,Z,f1⟩:=zAf q.out.blk;go_wp2
   try simp only[Exit.inBlock,Exit.then]
   exact qP5 (zEk rfl _ _ B _ _ _ rfl rfl (Bt.zCy y) (Bt.zCx z)) rfl ⟨rfl,zCs q.out.below (qPq _)⟩
end Zr
namespace Us
open Front Bt Zr Tn
theorem zQ3 (B:Nat) (m:List Bool) (v:Nat) (hv:v<65536) (s:kN m<=900000) (w0 w:yC) (h:HB w0 w B m):
  yG yK 98 #[qX .u64 (v:Int),qc (yA ⟨B,0,yB⟩)] w fun e w'=>e=qx (qg #[])/\HB w0 w' B (m++num v 16)/\w.heap.size<=w'.heap.size/\∀k,k≠B->k<w.heap.size->w'.heap[k]? =w.heap[k]? :=by
 obtain⟨r,b⟩:=zB (m++num v 16);have l:=zH (zD1 m v 16 b (d:=pk m) rfl (k:=(kN m:Int)) (V:=(v:Int)) (N:=16) rfl rfl rfl za za za w);rw[b];have f:=zH h;obtain⟨n,o,g,i⟩:=zAf h.blk;clear h b;go_enter func98,ntmps98;go_wp2_with fail;(with_reducible refine l.out.mono ?_);rintro e t ⟨rfl,a⟩;clear n o g i l;obtain⟨n,o,g,i⟩:=zAf (f.out.mid a).blk;obtain⟨q,c⟩:=yU (f.out.set (m':=r) a) a;clear a;go_wp2;go_end0;exact⟨rfl,q.out,by simp[World.setCell];exact c.out.size,fun k j p=>(zAa j).trans ((zAa j).trans (c.out.block k p))⟩
def zBr (l:List Nat) (k:Nat):List Bool:=(yO k).map fun j=>decide (zCc l j≠0)
theorem zOb (l:List Nat) (k:Nat):kN (zBr l k)=k:=by simp[zBr]
theorem zUo (l:List Nat) (k:Nat):zBr l (k+1)=zBr l k++[yJ (zCc l k≠0)]:=by simp[zBr,qQw]
theorem zK3 (l:List Nat) (k:Nat) (h:k<=16):val (zBr l k)<65536:=by
 have a:=zEy (zBr l k);rw[zOb]at a;have b:2^k<=2^16:=qR9 za h;omega
def zB3 (l:List Nat) (k:Nat):List Bool:=(yO k).flatMap fun j=>if zCc l j≠0 then num (zCc l j) 16 else[]
theorem zFc (l:List Nat) (k:Nat):zB3 l (k+1)=zB3 l k++if zCc l k≠0 then num (zCc l k) 16 else[]:=by simp[zB3,qQw]
theorem zIt (l:List Nat):∀k,kN (zB3 l k)<=16*k
 |0=>by simp[zB3]
 |k+1=>by
  have:=zIt l k;rw[zFc,qP0];split
  .rw[zAc];omega
  .simp;omega
def zC2 (l:List Nat):List Bool:=num (val (zBr l 16)) 16++zB3 l 16
theorem zTv (s:ByteArray) (hs:s.size<=1000000) (w:yC):
  yG yK 28 #[qY s] w fun e w'=>e=qx (zAe (zC2 (bl s)))/\yM w w w':=by
 have a6:∀(fn:Fn) (first a4:Array yD) (w:yC),(Instr.makeFunc fn first a4).run yK w= .ok (.func fn first a4) w:=fun _ _ _ _=>rfl;obtain⟨B,hB⟩:=zB w.heap.size;obtain⟨W,hW⟩:=zB (w.alloc (qp #[qY ⟨#[]⟩,qX qm 0] 51));have R:yM B w W:=by rw[<-hW,<-hB];exact(yR _ _).alloc (qPq _) _
 have hX:W.heap[B]? =yA (qp #[qY (pk []),qX qm (kN ([]:List Bool):Int)] 51):=by
  rw[<-hW,<-hB];show(w.heap.push _)[w.heap.size]? =_;simp;rfl
 obtain⟨H0,HO⟩:=yU (HB.mk hX R) (zXe s hs W);obtain⟨l,hl⟩:=zB (bl s);rw[hl]at HO⊢;clear R hX hl;rw[hB];go_enter func28,ntmps28;go_wp2_with fail;(with_reducible refine HO.out.mono ?_);rintro e w2 ⟨rfl,X⟩;clear hW HO;have H2:=zH (H0.out.mid X);obtain⟨cs,c⟩:=zB (cellsOf 256 (has l));have j:cs.size=256:=by rw[<-c,cellsOf_size]
 have h:(prog.info? TS).map (·.size)=yA 256:=zf
 have O:zeroCells147.size=256:=zf
 have G:=run_storeCells_new (P:=yK) w2 TS zeroCells147 cs (by rw[j];exact h) (by rw[O,j]) (by rw[<-c];exact zT0 l 256);obtain⟨W3,n⟩:=zB (w2.alloc (qp cs TS));have Y:yM w2 w2 W3:=by rw[<-n];exact(yR _ _).alloc (qPq _) _
 have t:Arr W3 w2.heap.size TS 256 (has l):=by
  show _=_;rw[<-n,c];show(w2.heap.push _)[w2.heap.size]? =_;simp
 have H3:=zH (H2.out.mid Y);have a3:B<w2.heap.size:=zAd H2.out.blk;rw[n]at G;obtain⟨C,hC⟩:=zB w2.heap.size;rw[hC]at G t a3;obtain⟨I,M,H⟩:=yV t c h;have u:∀k:Nat,k<16->∀w,yG yK 99 #[.agg cs,k] w fun e w'=>e=qx (qX .u64 (zCc l k:Int))/\yM w w w':=fun k hk w=>by rw[<-c];exact zJm l k hk w
 have p:=zH u;rw[c];clear Y t X H2 H0 n O h c u;go_wp2;clear G hC;go_loopw [5,12] (fun v i wr=>∃k:Nat,k<=16/\i=qX qm k/\v=qX .u64 (val (zBr l k):Nat)/\yL (HB w wr B [])/\yL (Arr wr C TS 256 (has l))) (fun _ i _=>16-(intOf i).toNat)
 case atStart=>exact⟨0,za,rfl,rfl,H3,I⟩
 case round=>
  clear H3 I;obtain⟨k,hk,rfl,rfl,hh,b⟩:=hrel;by_cases F:k<16
  .have hv:=zK3 l k hk;have a:=zUo l k;have hA:=b.out;unfold Arr at hA;rw[M.out]at hA;have g:=run_loadVar_row (P:=yK) wr C TS TS cs (0,0) (.array 256 4) hA underlying147 rfl (by rw[j];exact H.out);clear hA;go_wp2
   rename_i hK
   refine zGu rfl rfl g (hK _ _ ?_);clear g hK;go_wp2_with fail;(with_reducible refine(p.out k F wr).mono ?_);rintro e w4 ⟨rfl,d⟩;have H4:=zH (hh.out.mid d);have z:=yT (Arr w4 C TS 256 (has l)) ((d.block C b.out.lt).trans b.out);obtain⟨r,hr⟩:=zB (zCc l k);rw[hr]at a⊢;clear d hr;obtain⟨q,y⟩:=zB (val (zBr l k));rcases qQz r with h0|h0
   .subst h0;have o:=yT (val (zBr l (k+1))=q*2) (by rw[a,zEh,y];simp);rw[y]at hv⊢;clear a y;go_wp2;go_roundw
    case rel=>exact⟨k+1,za,by go_num,by rw[o.out];push_cast;rfl,H4,z⟩
    case measure=>exact z8
   .have hd:decide (r≠0)=yH:=qQ za;rw[hd]at a;have o:=yT (val (zBr l (k+1))=q*2+1) (by rw[a,zEh,y];simp);rw[y]at hv⊢;have ho:=or_one q za;have hne:((r:Int)!=0)=yH:=zq
    clear a y hd;go_wp2;go_roundw
    case rel=>exact⟨k+1,za,by go_num,by rw[o.out];push_cast;rfl,H4,z⟩
    case measure=>exact z8
  .obtain rfl:k=16:=za
   have hv:=zK3 l 16 za;obtain⟨q,y⟩:=zB (val (zBr l 16));rw[y]at hv⊢;have HM:=zH (zQ3 B [] q hv zm w wr hh.out);rw[qQm]at HM;have x:=b.out.lt;have a2:=zH y;clear y;go_wp2_with fail;(with_reducible refine HM.out.mono ?_);rintro e w4 ⟨rfl,L,Z,S⟩;have H4:=zH L;have z:=yT (Arr w4 C TS 256 (has l)) ((S C za x).trans b.out);clear L S Z HM;go_wp2;go_loopw [27] (fun i wr=>∃k:Nat,k<=16/\i=qX qm k/\yL (HB w wr B (num q 16++zB3 l k))/\yL (Arr wr C TS 256 (has l))) (fun i _=>16-(intOf i).toNat)
   case atStart=>exact⟨0,za,rfl,by rw[show zB3 l 0=[]from rfl,qQv];exact H4,z⟩
   case round=>
    clear H4 z;obtain⟨k,hk,rfl,hh,b⟩:=hrel;by_cases F:k<16
    .have a:=zFc l k;have a5:=zIt l k;have hA:=b.out;unfold Arr at hA;rw[M.out]at hA;have g:=run_loadVar_row (P:=yK) wr C TS TS cs (0,0) (.array 256 4) hA underlying147 rfl (by rw[j];exact H.out);clear hA;go_wp2
     rename_i hK
     refine zGu rfl rfl g (hK _ _ ?_);clear g hK;go_wp2_with fail;(with_reducible refine(p.out k F wr).mono ?_);rintro e w4 ⟨rfl,d⟩;have h4:=hh.out.mid d;have f:Arr w4 C TS 256 (has l):=(d.block C b.out.lt).trans b.out;have V:=zM9 l k 16 za;obtain⟨r,hr⟩:=zB (zCc l k);rw[show val (zCo l k 16)=r from hr]at V;rw[hr]at a⊢;clear d hr;rcases qQz r with h0|h0
     .subst h0;rw[qPt zm,qQv]at a;obtain⟨HS,H4,z⟩:=yV a h4 f;clear a h4 f;go_wp2;go_roundw
      case rel=>exact⟨k+1,za,by go_num,by rw[HS.out];exact H4,z⟩
      case measure=>exact z8
     .rw[qPr za]at a;have HM:=zH (zQ3 B (num q 16++zB3 l k) r V (by rw[qP0,zAc];omega) w w4 h4);rw[qQr,<-a]at HM;have z:=zH f;have x:=f.lt;have hne:((r:Int)!=0)=yH:=zq
      clear a h4 f;go_wp2_with fail;(with_reducible refine HM.out.mono ?_);rintro e w5 ⟨rfl,N,a0,K⟩;have H5:=zH N;have A5:=yT (Arr w5 C TS 256 (has l)) ((K C za x).trans z.out);clear N K a0 HM;go_wp2;go_roundw
      case rel=>exact⟨k+1,za,by go_num,H5,A5⟩
      case measure=>exact z8
    .obtain rfl:k=16:=za
     obtain⟨m,hm⟩:=zB (num q 16++zB3 l 16);rw[hm]at hh;have HM:=zH hm;obtain⟨y0,y1,f0,f1⟩:=zAf hh.out.blk;clear hm;go_wp2
     try simp only[Exit.inBlock,Exit.then]
     have hF:=hh.out.set (m':=m) (yR _ _);have a1:zC2 l=m:=by unfold zC2;rw[a2.out];exact HM.out
     rw[a1];exact qP5 (results_cell_row rfl _ _ B 51 _ (0,0) _ rfl hF.blk underlying51 rfl zf) rfl ⟨rfl,hF.below⟩
end Us
namespace Zr
open Bt
variable {s:ByteArray} {i:Nat}
def At (s:ByteArray) (i:Nat) (l:List Bool):Prop:=i+kN l<=8*s.size/\take s i (kN l)=l
theorem zKy (s:ByteArray) (i n k:Nat) (h:k<n):(take s i n)[k]? =yA (zBm s (i+k)):=by
 unfold take;rw[qP3,qSe h];rfl
theorem take_add (s:ByteArray) (i n m:Nat):take s i (n+m)=take s i n++take s (i+n) m:=by
 induction m with
 |zero=>simp[take]
 |succ m ih=>rw[<-qR3,zEz,ih,zEz,qQr,qR3]
theorem At.app {l m:List Bool}:At s i (l++m)↔At s i l/\At s (i+kN l) m:=by
 unfold At;rw[qP0,take_add];constructor
 .rintro⟨b,c⟩;have a:=List.append_inj c (by rw[take_length]);exact⟨⟨za,a.1⟩,za,a.2⟩
 .rintro⟨⟨_,b⟩,c,a⟩;exact⟨za,by rw[b,a]⟩
theorem At.val {n v:Nat} (h:At s i (num v n)) (hv:v<2^n):Bt.val (take s i n)=v:=by
 have a:=h.2;rw[zAc]at a;rw[a,zT,qRh hv]
theorem At.one {b:Bool} (h:At s i [b]):Bt.val (take s i 1)=b.toNat:=by
 have a:=h.2;rw[show[b].length=1 from rfl]at a;rw[a];simp[Bt.val]
def Rdr (w:yC) (R:Nat) (s:ByteArray) (i:Nat):Prop:=w.heap[R]? =yA (qp #[qY s,i] 194)
structure Ch (R:Nat) (w w':yC):Prop where
 below:yM R w w'
 old:∀k,k≠R->w'.heap[k]? =w.heap[k]?
theorem Ch.refl (R:Nat) (w:yC):Ch R w w:=⟨yR _ _,fun _ _=>rfl⟩
theorem Ch.trans {R:Nat} {w w' a:yC} (h:Ch R w w') (g:Ch R w' a):Ch R w a:=⟨h.below.trans g.below,fun k b=>(g.old k b).trans (h.old k b)⟩
theorem zHq (R:Nat) (s:ByteArray) (i n:Nat) (g:n<=62) (hi:i+n<=8*s.size) (o:s.size<=100000000) (w:yC) (h:Rdr w R s i):
  yG yK 107 #[qc (yA ⟨R,0,yB⟩),n] w fun e w'=>e=qx (qX qm (val (take s i n):Nat))/\Rdr w' R s (i+n)/\Ch R w w':=by
 have d:=zH (fun W=>(zB7 s i n za hi za W).mono (fun _ _ h=>(⟨h.1,h.2.symm⟩:_/\_)));have hv:=zEy (take s i n);rw[take_length]at hv;have b:(2:Nat)^n<=2^62:=qR9 za g;obtain⟨v,a⟩:=zB (val (take s i n));rw[a]at hv d⊢;have j:v<4611686018427387904:=za
 obtain⟨t,u,l,m⟩:=zAf h;have H:=zH h;have q:IntKind.i64.wrap (v:Int)=(v:Int):=qQa _ ⟨za,za⟩;have r:IntKind.i64.wrap ((i:Int)+(n:Int))=(i:Int)+(n:Int):=qQa _ ⟨za,za⟩;clear h a hv b;go_enter func107,ntmps107;go_wp2;go_quiet ((go_at_call 32;exact Calls.quiet_of_same (d.out _)));go_wp2;go_ret;refine⟨rfl,?_,?_⟩
 .have:=setBlock (x:=qX qm ((i:Int)+(n:Int))) 1 (show(w.drewN nq).heap[R]? =_ from H.out);unfold Rdr;rw[this];simp
 .refine⟨?_,fun k f=>zAa f⟩;have c:yM R w (w.drewN nq):=(yR R w).trans ⟨rfl,rfl,rfl,qPq _,fun _ _=>rfl⟩;exact c.setCell (p:=⟨R,1,yB⟩) (qPq _) _
theorem zC9 (R:Nat) (n:Nat) (a:1<=n) (b:n<=20) (w:yC):
  yG yK 106 #[qc (yA ⟨R,0,yB⟩),n] w fun e w'=>e=qx (qX qm (n:Int))/\w'=w:=by
 have HM:=zH (zJw n a b w);go_enter func106,ntmps106;go_wp2_with fail;(with_reducible refine HM.out.mono ?_);rintro e w2 ⟨rfl,rfl⟩;go_wp2;go_ret;exact⟨rfl,rfl⟩
theorem zZn (R:Nat) (s:ByteArray) (i a x:Nat) (Z:s.size<=100000000) (W:1<=a) (X:a<=20) (g1:1<=x) (g2:x<=20) (w:yC) (h:Rdr w R s i) (ha:At s i (steps a x)):
  yG yK 108 #[qc (yA ⟨R,0,yB⟩),a] w fun e w'=>e=qx (qX qm (x:Int))/\Rdr w' R s (i+kN (steps a x))/\Ch R w w':=by
 obtain⟨J,z⟩:=zB (i+kN (steps a x));rw[z];obtain⟨H0,A0,J0⟩:=yV h ha z;clear h ha z;go_enter func108,ntmps108;go_wp2;go_loopw [1] (fun v wr=>∃(a i:Nat),v=qX qm a/\1<=a/\a<=20/\yL (Rdr wr R s i)/\yL (At s i (steps a x))/\yL (i+kN (steps a x)=J)/\yL (Ch R w wr)) (fun v _=>(intOf v-x).natAbs)
 case atStart=>exact⟨a,i,rfl,W,X,H0,A0,J0,zH (Ch.refl _ _)⟩
 case round=>
  clear H0 A0 J0 W X;obtain⟨a,i,rfl,W,X,hr,hA,z,F⟩:=hrel;by_cases K:a=x
  .subst K;have d:=hA.out;rw[zK1]at d;have l:=z.out;rw[zK1]at l;have q:=zH (zHq R s i 1 za d.1 Z wr hr.out);rw[d.one]at q;rw[show((1:Nat):Int)=1 from rfl,show((false.toNat:Nat):Int)=0 from rfl]at q;go_wp2_with fail;(with_reducible refine q.out.mono ?_);rintro e w2 ⟨rfl,f,j⟩;obtain⟨M,m,I⟩:=yV f (F.out.trans j) l;clear f j l d;go_wp2;go_ret;exact⟨rfl,by rw[<-I.out];exact M.out,m.out⟩
  .obtain⟨b,y,k,g⟩:∃(b:Bool) (y:Nat),(y:Int)=(a:Int)+1-2*(b.toNat:Nat)/\steps a x=[yH,b]++steps y x/\1<=y/\y<=20/\((y:Int)-x).natAbs<((a:Int)-x).natAbs:=by
    rcases qP8 a x with G|a4
    .exact⟨yI,a+1,zm,zP1 G,za,za,za⟩
    .exact⟨yH,a-1,zq,zL3 za,za,za,za⟩
   obtain⟨g,o,t,n⟩:=g;have d:=hA.out;rw[g,show[yH,b]=[yH]++[b]from rfl,qQr]at d;obtain⟨S,p⟩:=At.app.1 d;obtain⟨V,P⟩:=At.app.1 p;rw[show[yH].length=1 from rfl]at V P;rw[show[b].length=1 from rfl]at P;have q:=zH (zHq R s i 1 za S.1 Z wr hr.out);rw[S.one]at q;rw[show((1:Nat):Int)=1 from rfl,show((true.toNat:Nat):Int)=1 from rfl]at q;obtain⟨A2,A3,O,H⟩:=yX V P g n;clear d S p V P g n;go_wp2_with fail;(with_reducible refine q.out.mono ?_);clear q;rintro e w2 ⟨rfl,f,j⟩;have q:=zH (zHq R s (i+1) 1 za A2.out.1 Z w2 f);rw[A2.out.one,show((1:Nat):Int)=1 from rfl]at q;have m:=zH (F.out.trans j);clear f j;obtain⟨c,Y⟩:∃c:Int,((b.toNat:Nat):Int)=c:=⟨_,rfl⟩;have a0:0<=c/\c<=1:=by rw[<-Y];cases b<;>simp
   rw[Y]at q k;clear Y;go_wp2_with fail;(with_reducible refine q.out.mono ?_);clear q;rintro e w3 ⟨rfl,u,B⟩;obtain⟨L,N,HF⟩:=yV u (m.out.trans B) (zC9 R y o t w3);rw[k]at HF;have r:=zH k;clear u B k;go_wp2_with fail;(with_reducible refine HF.out.mono ?_);rintro e w4 ⟨rfl,rfl⟩;go_wp2;go_roundw
   case rel=>exact⟨y,i+1+1,by rw[r.out],o,t,L,A3,zH (by rw[<-z.out,O.out,qP0];simp;omega),N⟩
   case measure=>simp only[intOf];rw[<-r.out];exact H.out
end Zr
namespace Zr
open Front Bt
variable {w w':yC} {n c B i:Nat} {p:Option yF} {l:List Nat} {s:ByteArray}
theorem zXt (p q r:yF) (w:yC):
  CallsD yK 105 #[qc (yA p),qc (yA q),qc (yA r)] .returning w fun e u' w'=>e=qx (qg #[])/\u'= .returning/\w'=w:=by
 refine callsD_of_wpS func105 rfl fun a d b=> ?_;apply wpS_seq;apply wpS_region;simp[wpOpsS,go_sem,recoverD,b,ntmps105,Exit.thenS];refine wpS_of_wp ?_;go_wp2;cases a;simp_all [bodyPostS,results,results105]
structure TK (w:yC) (B:Nat) (p:Option yF) (n c:Nat) (l:List Nat) (s:ByteArray) (i:Nat):Prop where
 b0:Boxed w B 23 (qZ p n c)
 b1:Boxed w (B+1) 3 (qX qm 0)
 b2:Boxed w (B+2) 26 (qX qm 0)
 rd:Rdr w (B+3) s i
 own:yu w (B+4) 3 p n c (l.map ival)
 size:B+4<=w.heap.size
theorem zJs {D:Nat} {e:yE} {a:Option yF} {xs:List yD} (h:yu w D e a n c xs) (q:∀k,D<=k->k<w.heap.size->w'.heap[k]? =w.heap[k]?):yu w' D e a n c xs:=by
 obtain⟨o,j⟩:=h;refine⟨o,?_⟩;rcases j with j|⟨g,f,d,hv,b,m,r⟩
 .exact qz j
 .exact qy ⟨g,f,d,hv,b,(q g b (zAd m)).trans m,r⟩
theorem TK.ch {b:Nat} (h:TK w B p n c l s i) (a:Ch (B+3) w w') (d:Rdr w' (B+3) s b):TK w' B p n c l s b:=
 ⟨(a.old B za).trans h.b0,(a.old (B+1) za).trans h.b1,(a.old (B+2) za).trans h.b2,d,zJs h.own (fun k e _=>a.old k za),qP2 h.size a.below.size⟩
theorem TK.push {m:yC} {f:Option yF} {d c':Nat} {l':List Nat} (h:TK w B p n c l s i) (g:yM w w m) (q:yu w' (B+4) 3 f d c' (l'.map ival)) (j:m.grownBy w' (Value.ownBlock (qZ p n c))):
  TK (w'.setCell ⟨B,0,yB⟩ (qZ f d c')) B f d c' l' s i/\Boxed w' B 23 (qZ p n c)/\yM B w (w'.setCell ⟨B,0,yB⟩ (qZ f d c')):=by
 have u:=h.size;have t:=g.size;have b:=h.own.block;have a:∀k,k<B+4->w'.heap[k]? =w.heap[k]? :=fun k o=>(j.block k za (fun e=>by have:=b k e.symm;omega)).trans (g.block k za);have r:m.heap.size<=w'.heap.size:=j.size;refine⟨⟨?_,?_,?_,?_,?_,by simp[World.setCell];omega⟩,(a B za).trans h.b0,?_⟩
 .exact Boxed.set (qZ f d c') ((a B za).trans h.b0)
 .exact(zAa za).trans ((a _ za).trans h.b1)
 .exact(zAa za).trans ((a _ za).trans h.b2)
 .exact(zAa za).trans ((a _ za).trans h.rd)
 .exact zD4 q za _
 .have:yM B w w':=(g.mono za).trans (Kit.zAq j za (fun k o=>by have:=b k o;omega));exact this.setCell (p:=⟨B,0,yB⟩) (qPq _) _
theorem zI7 (s:ByteArray) (at_:Nat) (l:List Nat) (n:Nat) (w:yC) (hn:kN l=n) (h2:2<=n) (ad:n<=258) (hs:s.size<=100000000) (hl:∀x∈l,1<=x/\x<=20) (z:At s at_ (delta l)):
  yG yK 35 #[qY s,at_,n] w fun e w'=>∃a' c',e=qx (qg #[qZ a' n c',qX qm ((at_+kN (delta l):Nat):Int),qX qm 0])/\yu w' w.heap.size 3 a' n c' (l.map ival)/\yM w w w':=by
 have ag:∀(fn:Fn) (first ac:Array yD) (w:yC),(Instr.makeFunc fn first ac).run yK w= .ok (.func fn first ac) w:=fun _ _ _ _=>rfl;obtain⟨B,hB⟩:=zB w.heap.size;have ae:=zH hB;obtain⟨W1,G⟩:=zB (w.alloc (qp #[qZ yB 0 0] 23));obtain⟨W2,u⟩:=zB (W1.alloc (qp #[qX qm 0] 3));obtain⟨W3,H⟩:=zB (W2.alloc (qp #[qX qm 0] 26));obtain⟨y,K⟩:=zB (W3.alloc (qp #[qY s,at_] 194));have z1:W1.heap.size=B+1:=by rw[<-G,zA,hB]
 have z2:W2.heap.size=B+2:=by rw[<-u,zA,z1]
 have z3:W3.heap.size=B+3:=by rw[<-H,zA,z2]
 have z4:y.heap.size=B+4:=by rw[<-K,zA,z3]
 have b1:yM B w W1:=by rw[<-G,<-hB];exact(yR _ _).alloc (qPq _) _
 have b2:yM (B+1) W1 W2:=by rw[<-u,<-z1];exact(yR _ _).alloc (qPq _) _
 have b3:yM (B+2) W2 W3:=by rw[<-H,<-z2];exact(yR _ _).alloc (qPq _) _
 have b4:yM (B+3) W3 y:=by rw[<-K,<-z3];exact(yR _ _).alloc (qPq _) _
 have new:∀(W:yC) (o:Obj),(W.alloc o).heap[W.heap.size]? =yA o:=fun W o=>by show(W.heap.push o)[W.heap.size]? =_;simp
 have c0:Boxed y B 23 (qZ yB 0 0):=by
  show y.heap[B]? =_;rw[b4.block B za,b3.block B za,b2.block B za,<-G,<-hB];exact new _ _
 have c1:Boxed y (B+1) 3 (qX qm 0):=by
  show y.heap[B+1]? =_;rw[b4.block _ za,b3.block _ za,<-u,<-z1];exact new _ _
 have c2:Boxed y (B+2) 26 (qX qm 0):=by
  show y.heap[B+2]? =_;rw[b4.block _ za,<-H,<-z2];exact new _ _
 have c3:Rdr y (B+3) s at_:=by
  show y.heap[B+3]? =_;rw[<-K,<-z3];exact new _ _
 have K0:=zH (TK.mk (l:=[]) c0 c1 c2 c3 (Kit.Own.start _ _ _) za);have X:=yT (yM B w y) (((b1.trans (b2.mono za)).trans (b3.mono za)).trans (b4.mono za));have HM:=zH (zQ4 n h2 ad W3);have L:0<kN l:=za
 obtain⟨x0,N⟩:=zB (l.headD 0);have g:1<=x0/\x0<=20:=by
  rw[<-N,List.headD_eq_head?_getD,List.head?_eq_getElem?,qPu L];exact hl _ (qP9 L)
 obtain⟨J,hJ⟩:=zB (at_+kN (delta l));rw[hJ];have m:=hJ;unfold delta at z m;rw[N]at z m;obtain⟨t,d⟩:=At.app.1 z;rw[zAc]at d;rw[qP0,zAc]at m;have HQ:=zH (zHq (B+3) s at_ 5 za (by have:=t.1;rwa[zAc]at this) hs y c3);rw[t.val (show x0<2^5 by omega),show((5:Nat):Int)=5 from rfl]at HQ;obtain⟨HA,HJ,HL,HN⟩:=yX d m hl hn;have af:(at_:Int)<=8*(s.size:Int):=by have:=t.1;omega
 clear b1 b2 b3 b4 c0 c1 c2 c3 new z t d hJ m hl hn N L;rw[hB];go_enter_defers func35,ntmps35;go_wp2_with fail;(with_reducible refine HM.out.mono ?_);rintro e w3 ⟨rfl,rfl⟩;go_wp2_with fail;clear G u H K z1 z2 z3 z4 hB;(with_reducible refine HQ.out.mono ?_);rintro e w5 ⟨rfl,V,P⟩;obtain⟨K5,a5,HF⟩:=yV (K0.out.ch P V) (X.out.trans (P.below.mono za)) (zC9 (B+3) x0 g.1 g.2 w5);clear V P;go_wp2_with fail;(with_reducible refine HF.out.mono ?_);rintro e w6 ⟨rfl,rfl⟩;go_wp2;clear K0 X HQ HF HM;go_loopw [28,10] (fun i v wr=>∃(j b q:Nat) (p:Option yF) (c:Nat),j<=n/\i=qX qm j/\v=qX qm b/\1<=b/\b<=20/\yL (TK wr B p j c (l.take j) s q)/\yL (At s q (del b (l.drop j)))/\yL (q+kN (del b (l.drop j))=J)/\yL (yM B w wr)) (fun i _ _=>n-(intOf i).toNat)
 case atStart=>exact⟨0,x0,at_+5,yB,0,za,rfl,rfl,g.1,g.2,K5,by rw[qR1];exact HA,by rw[qR1];exact zH (by have:=HJ.out;omega),a5⟩
 case round=>
  clear K5 HA HJ a5;obtain⟨j,b,q,p,c,hj,rfl,rfl,h1,a9,hk,a3,hJ,hb⟩:=hrel;by_cases a8:j<n
  .have M:j<kN l:=by rw[HN.out];exact a8
   obtain⟨x,hx⟩:=zB (l[j]);have I:1<=x/\x<=20:=by rw[<-hx];exact HL.out _ (qP9 M)
   have hd:=zRn l j b M;rw[hx]at hd;have z:=a3.out;rw[hd]at z;obtain⟨a1,a2⟩:=At.app.1 z;have Z:=hJ.out;rw[hd,qP0]at Z;have a0:l.take (j+1)=l.take j++[x]:=by rw[qQp M,hx]
   obtain⟨HQ,A2⟩:=yU (zZn (B+3) s q b x hs h1 a9 I.1 I.2 wr hk.out.rd a1) a2;have J2:=yT (q+kN (steps b x)+kN (del x (l.drop (j+1)))=J) (by omega);have a7:=zH a0;clear hd z a1 a2 Z a0 hx a3 hJ;go_wp2_with fail;(with_reducible refine HQ.out.mono ?_);clear HQ;rintro e w2 ⟨rfl,Y,R⟩;have a:=hk.out.ch R Y;have aa:=zH (hb.out.trans (R.below.mono za));clear Y R;have d:yM w2 w2 (w2.alloc (qp #[x] 3)):=(yR _ _).alloc (qPq _) _;have hz:=a.size;obtain⟨p3,c3,w3,ab,O,a4⟩:=Kit.Own.app (ty:=23) (w:=w2.alloc (qp #[x] 3)) zNn (a.own.alloc _) (yA ⟨w2,0,yB⟩) 1 1 [ival x] (xM w2 _ 3) rfl (fun h=>by cases h) (zDr [x]) (by unfold maxLen;omega) za zq;rw[show(l.take j).map ival++[ival x]=(l.take (j+1)).map ival by rw[a7.out,qQb];rfl]at O;have r:=a.push d O a4;have y0:=a.b0.cell;have y1:=r.2.1.cell;have y2:=r.2.1.frozen;have y3:=a.b0.frozen;obtain⟨K3,a6⟩:=yU r.1 (aa.out.trans r.2.2);clear a d O a4 r;go_wp2_with (at_builtin;refine xG rfl (.tmp 33) (.tmp 35) 23 rfl rfl rfl ab ?_);go_roundw
   case rel=>exact⟨j+1,x,q+kN (steps b x),p3,c3,za,by go_num,rfl,I.1,I.2,K3,A2,J2,a6⟩
   case measure=>exact qV
  .obtain rfl:j=n:=za
   have hq:q=J:=by
    have:=hJ.out;rw[qSv (by rw[HN.out];omega),del]at this;simpa using this
   subst hq;have S:l.take j=l:=qQc (by rw[HN.out];omega);have a:=hk.out;rw[S]at a;have y0:=a.b0.cell;have g0:=a.b0.frozen;have y1:=a.b1.cell;have g1:=a.b1.frozen;have y2:=a.b2.cell;have g2:=a.b2.frozen;obtain⟨y3,y4,g3,g4⟩:=zAf a.rd;have K2:=zH a;clear a S;go_wp2;go_region;obtain⟨F,hF⟩:=zB ((((wr.setCell ⟨B,0,yB⟩ (qZ p j c)).setCell ⟨B+1,0,yB⟩ (qX qm (q:Int))).setCell ⟨B+2,0,yB⟩ (qX qm 0)).drew);have q0:Boxed F B 23 (qZ p j c):=by
    rw[<-hF];exact(zAa za).trans ((zAa za).trans (K2.out.b0.set (qZ p j c)))
   have q1:Boxed F (B+1) 3 (qX qm (q:Int)):=by
    rw[<-hF];exact(zAa za).trans (Boxed.set (qX qm (q:Int)) ((zAa za).trans K2.out.b1))
   have q2:Boxed F (B+2) 26 (qX qm 0):=by
    rw[<-hF];exact Boxed.set (qX qm 0) ((zAa za).trans ((zAa za).trans K2.out.b2))
   have q3:yu F (B+4) 3 p j c (l.map ival):=by
    rw[<-hF];exact zJs K2.out.own (fun k h1 h2=>(zAa za).trans ((zAa za).trans (zAa za)))
   have q4:yM B w F:=by
    rw[<-hF];exact(((hb.out.setCell (p:=⟨B,0,yB⟩) (qPq _) _).setCell (p:=⟨B+1,0,yB⟩) zm _).setCell (p:=⟨B+2,0,yB⟩) zm _).drew
   rw[hF];have r0:=q0.cell;have r1:=q1.cell;have r2:=q2.cell;obtain⟨Q3,Q4⟩:=yU (q3.base (B':=B) za) q4;clear y0 g0 y1 g1 y2 g2 y3 y4 g3 g4 K2 hF q0 q1 q2 q3 q4;go_wp2;refine leaves_cons (f:=105) (args:= #[qc (yA ⟨B,0,yB⟩),qc (yA ⟨B+1,0,yB⟩),qc (yA ⟨B+2,0,yB⟩)]) zm (by simp[go_sem]) ?_;refine(zXt ⟨B,0,yB⟩ ⟨B+1,0,yB⟩ ⟨B+2,0,yB⟩ F).mono ?_;rintro e u' ah ⟨rfl,rfl,rfl⟩;simp[Leaves,settle,results,results35,go_sem,r0,r1,r2];exact⟨p,c,⟨rfl,rfl⟩,Q3.out,Q4.out⟩
end Zr
namespace Sl
open Front Bt Zr
variable {w:yC} {R:Nat}
def Pl (w:yC) (R:Nat) (b:Bool):Prop:=w.heap[R]? =yA (qp #[qX qm ((b.toNat:Nat):Int),qX qm (((!b).toNat:Nat):Int),qX qm 2,qX qm 3,qX qm 4,qX qm 5,qX qm 2] 175)
theorem zC9 (w:yC):
  yG yK 90 #[qX qm 2] w fun e w'=>e=qx (qh yH)/\w'=w:=by
 go_enter func90,ntmps90;go_wp2;go_ret;exact⟨rfl,rfl⟩
theorem zSj (x B:Nat) (c:x<=1) (w:yC) (h:w.cell? ⟨B,0,yB⟩=yA (qX qm 2)):
  yG yK 91 #[ival x,qc (yA ⟨B,0,yB⟩)] w fun e w'=>e=qx (qh ((fun _=>yI) x))/\w'=w:=by
 have a:decide ((x:Int)<0)=yI:=qP1 za;have b:decide ((2:Int)<=(x:Int))=yI:=qP1 za;go_enter func91,ntmps91;go_wp2;go_ret;exact⟨rfl,rfl⟩
def fk (k j:Nat):Nat:=if j<k then j else if j=6 then 2 else 0
theorem qF7 (k:Nat) (b:k<6) (j:Nat):zAy (fk k) k k j=fk (k+1) j:=by
 unfold zAy fk;by_cases e:j=k
 .subst e;rw[qPr rfl,qPr za]
 .rw[qPt e];by_cases a:j<k
  .rw[qPr a,qPr za]
  .simp[a,show ¬j<k+1 by omega]
theorem qG9 (h:zAm w R 175 7 (fk 6)):Pl w R yI:=by
 have e:cellsOf 7 (fun j=>qX qm ((fk 6 j:Nat):Int))= #[qX qm 0,qX qm 1,qX qm 2,qX qm 3,qX qm 4,qX qm 5,qX qm 2]:=zf
 unfold zAm Arr at h;rw[e]at h;exact h
theorem zQs {b:Bool} (h:Pl w R b):w.cell? ⟨R,0,yB⟩=yA (qX qm ((b.toNat:Nat):Int))/\w.cell? ⟨R,1,yB⟩=yA (qX qm (((!b).toNat:Nat):Int))/\(∀k,w.frozen? ⟨R,k,yB⟩=yI)/\w.cell? ⟨R,6,yB⟩=yA (qX qm 2):=by
 refine⟨?_,?_,fun k=> ?_,?_⟩
 .simp[yQ,show w.heap[R]? =_ from h]
 .simp[yQ,show w.heap[R]? =_ from h]
 .simp[World.frozen?,show w.heap[R]? =_ from h]
 .simp[yQ,show w.heap[R]? =_ from h]
theorem zTq (w:yC):
  yG yK 92 #[qX qm 2] w fun e w'=>e=qx (qc (yA ⟨w,0,yB⟩))/\Pl w' w.heap.size yI/\yM w w w':=by
 obtain⟨R,m⟩:=zB w.heap.size;have q:(#[qX qm 0,qX qm 0,qX qm 0,qX qm 0,qX qm 0,qX qm 0,qX qm 2]:Array yD)=cellsOf 7 (fun j=>qX qm ((fk 0 j:Nat):Int)):=zf
 obtain⟨W,n⟩:=zB (w.alloc (qp #[qX qm 0,qX qm 0,qX qm 0,qX qm 0,qX qm 0,qX qm 0,qX qm 2] 175));have g:zAm W R 175 7 (fk 0):=by
  show _=_;rw[<-n,q,<-m];show(w.heap.push _)[w.heap.size]? =_;simp
 have b:yM R w W:=by rw[<-n,<-m];exact(yR _ _).alloc (qPq _) _
 obtain⟨f,d⟩:=yU g b;clear q g b;rw[m];go_enter func92,ntmps92;go_wp2;clear n;go_loopw [8] (fun i wr=>∃k:Nat,k<=6/\i=qX qm k/\yL (zAm wr R 175 7 (fk k))/\yL (yM R w wr)) (fun i _=>6-(intOf i).toNat)
 case atStart=>exact⟨0,za,rfl,f,d⟩
 case round=>
  clear f d;obtain⟨k,u,rfl,a,o⟩:=hrel;by_cases h:k<6
  .have s:=a.out.cell k za;have t:=a.out.free k;have l:=zH ((a.out.set k k (V:=(k:Int)) rfl).congr (fun j _=>qF7 k h j));obtain⟨r,c⟩:∃r:yD,Value.int qm ((fk k k:Nat):Int)=r:=⟨_,rfl⟩;rw[c]at s;clear c;go_wp2;go_roundw
   case rel=>exact⟨k+1,za,by go_num,l,zH (o.out.setCell (p:=⟨R,k,yB⟩) (qPq _) _)⟩
   case measure=>exact z8
  .obtain rfl:k=6:=za
   go_wp2;go_ret;exact⟨rfl,qG9 a.out,o.out⟩
theorem zMq (R:Nat) (b:Bool) (w:yC) (h:Pl w R b):
  yG yK 94 #[qc (yA ⟨R,0,yB⟩),qX qm 0] w fun e w'=>e=qx (qX qm ((b.toNat:Nat):Int))/\Pl w' R b/\Ch R w w':=by
 obtain⟨g,l,c,_⟩:=zQs h;have j:=c 0;have i:(Builtin.copy_ #[23,23] 3 #[qZ (yA ⟨R,1,yB⟩) 5 5,qZ (yA ⟨R,0,yB⟩) 0 6]).run yK w.drew= .ok (qX qm 0) w.drew:=
  run_copy_none w.drew _ _ _ 3 _ _ _ _ _ _ underlying23 zf rfl
 have a:=yT (Pl ((w.drew).setCell ⟨R,0,yB⟩ (qX qm ((b.toNat:Nat):Int))) R b) (by
  unfold Pl;rw[qT7 w.drew R 0 _ _ _ h];rfl)
 obtain⟨q,d⟩:∃q:Int,((b.toNat:Nat):Int)=q:=⟨_,rfl⟩;rw[d]at g a⊢;clear h c d;go_enter func94,ntmps94;go_wp2;go_region;go_wp2;go_ret;exact⟨rfl,a.out,⟨((yR R w).drew).setCell (p:=⟨R,0,yB⟩) (qPq _) _,fun k f=>zAa f⟩⟩
theorem zMp (R:Nat) (b:Bool) (w:yC) (h:Pl w R b):
  yG yK 94 #[qc (yA ⟨R,0,yB⟩),qX qm 1] w fun e w'=>e=qx (qX qm (((!b).toNat:Nat):Int))/\Pl w' R (!b)/\Ch R w w':=by
 obtain⟨n,o,f,_⟩:=zQs h;have s:=f 0;have g:w.drew.cell? ⟨R,0,yB⟩=yA (qX qm ((b.toNat:Nat):Int)):=n;have a:(Builtin.copy_ #[23,23] 3 #[qZ (yA ⟨R,1,yB⟩) 5 5,qZ (yA ⟨R,0,yB⟩) 1 6]).run yK w.drew= .ok (qX qm 1) (w.drew.setCell ⟨R,1,yB⟩ (qX qm ((b.toNat:Nat):Int))):=by
  have:=run_copy_cells (P:=yK) w.drew 23 23 3 3 R 1 5 5 ⟨R,0,yB⟩ 1 6 [qX qm ((b.toNat:Nat):Int)] underlying23 zf rfl
   (fun j v c=>by match j,c with|0,c=>simp at c;subst c;rw[Kit.addr_add];exact g)
   (fun j c=>by simp at c;subst c;rw[show w.drew.cell? ⟨R,1+0,yB⟩=_ from o];rfl)
   (fun j c=>f (1+j)) (fun v hv=>by simp at hv;subst hv;rfl)
  rw[this];rfl
 have d:=yT (Pl ((w.drew.setCell ⟨R,1,yB⟩ (qX qm ((b.toNat:Nat):Int))).setCell ⟨R,0,yB⟩ (qX qm (((!b).toNat:Nat):Int))) R (!b)) (by
  unfold Pl;rw[qT7 _ R 0 _ _ _ (qT7 w.drew R 1 _ _ _ h),Bool.not_not];rfl)
 have u:(w.drew.setCell ⟨R,1,yB⟩ (qX qm ((b.toNat:Nat):Int))).cell? ⟨R,0,yB⟩=yA (qX qm ((b.toNat:Nat):Int)):=by
  rw[qQf _ _ _ _ (by intro e;injection e with _ e2 _;omega)];exact g
 have t:(w.drew.setCell ⟨R,1,yB⟩ (qX qm ((b.toNat:Nat):Int))).frozen? ⟨R,0,yB⟩=yI:=by rw[qSw];exact s
 obtain⟨q,l⟩:∃q:Int,((b.toNat:Nat):Int)=q:=⟨_,rfl⟩;obtain⟨r,m⟩:∃r:Int,(((!b).toNat:Nat):Int)=r:=⟨_,rfl⟩;rw[l]at n g u t a d;rw[m]at o d⊢;clear h f l m;go_enter func94,ntmps94;go_wp2;go_region;go_wp2;go_ret;exact⟨rfl,d.out,⟨(((yR R w).drew).setCell (p:=⟨R,1,yB⟩) (qPq _) _).setCell (p:=⟨R,0,yB⟩) (qPq _) _,fun k i=>(zAa i).trans (zAa i)⟩⟩
end Sl
namespace Front
open Kit (zAe)
@[irreducible] def bs (l:T):ByteArray:=⟨l.toArray⟩
theorem zJ5 (s:ByteArray):bs s.data.toList=s:=by unfold bs;simp
theorem qCh (l:T):(⟨l.toArray⟩:ByteArray)=bs l:=by unfold bs;rfl
theorem zBk (l:T):(bs l).data.toList=l:=by unfold bs;simp
theorem zCh (l:T):(bs l).size=kN l:=by rw[<-zAl,zBk]
theorem zQ6 {s t:ByteArray} (h:s.data.toList=t.data.toList):s=t:=by rw[<-zJ5 s,<-zJ5 t,h]
theorem qJ9 (s t:ByteArray):(s++t).data.toList=s.data.toList++t.data.toList:=by simp
theorem zI0 (s:ByteArray) (i j:Nat):(s.extract i j).data.toList=(s.data.toList.take j).drop i:=by
 rw[ByteArray.data_extract,Array.toList_extract,List.extract_eq_take_drop,List.drop_take]
end Front
namespace Crc
theorem zBw {k:IntKind} {a b:Int} (h:a=b):Ending.returned (qX k a)=qx (qX k b):=by rw[h]
def fold (a b:BitVec 32):BitVec 32:=rot a^^^b
def unfold (a b:BitVec 32):BitVec 32:=qHx (a^^^b)
theorem qA2 (a b:BitVec 32) (w:yC):
  yG yK 185 #[qX .u32 (U a),qX .u32 (U b)] w fun e w'=>e=qx (qX .u32 (U (fold a b)))/\w=w':=by
 have f:=zN0 a;have c:=zN1 a;have g:=zN0 b;have d:=zN1 b;go_enter func185,ntmps185;go_wp2;go_ret;exact⟨zBw (by rw[zVw,qEg,qH1,zPr];rfl),rfl⟩
theorem zSi (i:Nat) (hi:i<256) (w:yC):
  yG yK 159 #[i] w fun e w'=>e=qx (qX .u32 (U (tab i)))/\w=w':=by
 go_enter func159,ntmps159;go_wp2;go_loop [3,7] (fun c k=>∃j:Nat,j<=8/\k=qX qm j/\c=qX .u32 (U (it j (BitVec.ofNat 32 i<<<24)))) (fun _ k=>8-(intOf k).toNat)
 case atStart=>exact⟨0,za,rfl,by rw[qEh i hi];rfl⟩
 case round=>
  obtain⟨j,m,rfl,rfl⟩:=hrel;obtain⟨X,f⟩:∃X,X=it j (BitVec.ofNat 32 i<<<24):=⟨_,rfl⟩;rw[<-f];have g:=zH f;clear f;have n:=zN0 X;have l:=zN1 X;by_cases h:j<8
  .cases hm:X.msb
   all_goals
    have d:=zNz X;rw[hm]at d;have HM:=zH hm;clear hm
    first
     |(have b:(bits .and .u32 (U X) (2147483648:Int)==0)=true:=d)
     |(have b:(bits .and .u32 (U X) (2147483648:Int)==0)=false:=d)
    clear d;go_wp2;go_round
    case rel=>
     refine⟨j+1,za,by go_num,?_⟩;rw[it,<-g.out]
     first
      |rw[<-qG2 X HM.out]
      |rw[<-qE1 X HM.out]
    case measure=>exact qV
  .go_wp2;go_ret;have a:j=8:=za
   subst a;exact⟨zBw (by rw[g.out];rfl),rfl⟩
def cell (k i:Nat):yD:=qX .u32 (if i<k then U (tab i)else 0)
@[irreducible] def cells (k:Nat):Array yD:=((yO 256).map (cell k)).toArray
theorem zFj (k:Nat):(cells k).size=256:=by simp[cells]
theorem zO8 (k i:Nat) (h:i<256):(cells k)[i]? =yA (cell k i):=by
 simp[cells,h]
theorem zYj (k:Nat) (h:k<256):(cells k).setIfInBounds k (qX .u32 (U (tab k)))=cells (k+1):=by
 apply Array.ext
 .simp[cells]
 .intro i d b;have c:i<256:=by simpa [cells]using b
  rw[Array.getElem_setIfInBounds]
  .split
   .subst_vars;simp[cells,cell]
   .simp only[cells,cell,qS0,List.getElem_map,List.getElem_range];by_cases a:i<k
    .rw[qPr a,qPr za]
    .rw[qPt a,qPt za]
  .simpa [cells]using c
theorem zLu (w:yC):(zeroValue 265).run yK w= .ok (.agg (cells 0)) w:=by
 kernel_rfl
theorem cells_one (k:Nat):(cells k).all (·.oneCell')=yH:=by
 rw[Array.all_eq_true];intro i hi;simp[cells,cell,Value.oneCell']
theorem zMu (k:Nat):(prog.info? 265).map (·.size)=yA (cells k).size:=by rw[zFj];kernel_rfl
theorem qAm (w:yC):
  yG yK 158 #[.func (.func 159) #[] #[]] w fun e w'=>e=qx (.agg (cells 256))/\yM w w w':=by
 have f:=zLu;go_enter func158,ntmps158;go_wp2;go_loopw [4] (fun i wr=>∃k:Nat,k<=256/\i=qX qm k/\wr=w.alloc (qp (cells k) 265)) (fun i _=>256-(intOf i).toNat)
 case atStart=>exact⟨0,za,rfl,rfl⟩
 case round=>
  obtain⟨k,j,rfl,rfl⟩:=hrel;have g:=zFj k;by_cases a:k<256
  .have h:=zO8 k k a;have d:(k:Int)<256:=za
   go_wp2_with (go_at_call 159;refine(zSi k a _).mono ?_;rintro e w' ⟨rfl,rfl⟩);go_roundw
   case rel=>exact⟨k+1,za,by go_num,by rw[zYj k a]⟩
   case measure=>exact qV
  .have hi:=zMu k;have c:=cells_one k;have b:=heap_alloc_last w (qp (cells k) 265);go_wp2_with (first|(refine wpList_load_row rfl 265 _ rfl w.heap.size rfl 265 (cells k) (0,0) _ b underlying265 rfl hi ?_)|(refine wpList_store_row rfl 265 _ _ rfl w.heap.size (cells k) rfl rfl 265 (cells k) b hi rfl c ?_;rw[World.setRow_alloc_new]));refine qP5 (v:= .agg (cells k)) ?_ rfl ⟨by rw[show k=256 from za],(yR _ _).alloc (qPq _) _⟩;exact results_cell_row rfl _ _ w.heap.size 265 (cells k) (0,0) _ rfl b underlying265 rfl hi
theorem zEz (s:ByteArray) (k:Nat) (h:k<s.size):s.data.toList.take (k+1)=s.data.toList.take k++[s[k]]:=by
 rw[List.take_succ_eq_append_getElem (by simpa using h)];rfl
theorem qAd (c:BitVec 32) (s:ByteArray) (u:s.size<=maxLen) (w:yC):
  yG yK 89 #[qX .u32 (U c),qY s] w fun e w'=>e=qx (qX .u32 (U (more c s.data.toList)))/\yM w w w':=by
 unfold maxLen at u;have y:=zLu;have I:=qHn;have G:=zN0 c;have z:=zN1 c;go_enter func89,ntmps89;go_wp2_with fail;refine(qAm _).mono ?_;rintro e r ⟨rfl,n⟩;have p:=heap_alloc_last r (qp (cells 0) 265);have hi:=zMu 256;have m:=cells_one 256;have q:(cells 0).size=(cells 256).size:=by rw[zFj,zFj]
 have l:=zH q;clear q;go_wp2_with (refine wpList_store_row rfl 265 _ _ rfl r.heap.size (cells 256) rfl rfl 265 (cells 0) p hi l.out m ?_;rw[World.setRow_alloc_new]);go_loop [0,12] (fun x i=>∃k:Nat,k<=s.size/\i=qX qm k/\x=qX .u32 (U (feeds (~~~ c) (s.data.toList.take k)))) (fun _ i=>s.size-(intOf i).toNat)
 case atStart=>exact⟨0,za,rfl,rfl⟩
 case round=>
  obtain⟨k,H,rfl,rfl⟩:=hrel;obtain⟨X,f⟩:∃X,X=feeds (~~~ c) (s.data.toList.take k):=⟨_,rfl⟩;rw[<-f];have h:=zH f;clear f;have K:=zN0 X;have F:=zN1 X;clear p hi m l;by_cases b:k<s.size
  .obtain⟨j,o⟩:∃j,j=look X s[k]:=⟨_,rfl⟩;have a:=qDb X s[k];have d:=zXi X s[k];have g:=qDa X s[k];rw[<-o]at a d g;have t:=zH g;clear g;clear o;have B:(cells 256)[j]? =yA (qX .u32 (U (tab j))):=by rw[zO8 256 j a];unfold cell;rw[qPr a]
   go_wp2;go_round
   case rel=>exact⟨k+1,za,by go_num,by rw[zEz s k b,zVb,<-h.out,<-t.out]⟩
   case measure=>exact qV
  .go_wp2;go_ret;refine⟨zBw ?_,n.alloc n.size _⟩;rw[h.out,qQc zq];rfl
theorem zG7 (s:ByteArray) (c:s.size<=maxLen) (w:yC):
  yG yK 25 #[qY s] w fun e w'=>e=qx (qX .u32 (U (sum s.data.toList)))/\yM w w w':=by
 have a:(0:Int)=U 0#32:=by unfold U;rfl
 go_enter func25,ntmps25;go_wp2_with fail;rw[a];refine(qAd _ s c _).mono ?_;rintro e d ⟨rfl,b⟩;go_wp2;go_ret;exact⟨rfl,b⟩
end Crc
namespace Us
open Front Bt Zr
theorem qCm (m:List Bool) (k r:Nat) (h:k+1+r=kN m):val m/2^r%2=(m[k]' za).toNat:=by
 have e:m=m.take k++(m[k]' za::m.drop (k+1)):=by
  rw[<-qSb za,qSa]
 have a:kN (m.drop (k+1))=r:=by rw[qQo];omega
 have hv:=zEy (m.drop (k+1));rw[a]at hv;have b:val m=(val (m.take k)*2+(m[k]' za).toNat)*2^r+val (m.drop (k+1)):=by
  conv=>lhs;rw[e]
  rw[val_append,zKx,qP4,a,qRq,qQu,qTf,qRo 2 (2^r)];omega
 rw[b,qRo,Nat.add_comm,Nat.add_mul_div_left _ _ (Nat.two_pow_pos r),Nat.div_eq_of_lt hv,qQd,qRo,Nat.add_comm,Nat.add_mul_mod_self_left];cases m[k]' za<;>rfl
theorem zTs (v k:Nat) (a:k<16):∀m:List Bool,v=val m->kN m=16->v/2^(15-k)%2=(m.getD k yI).toNat:=by
 intro m hv b;subst hv;rw[qCm m k (15-k) za,qPz,qPu za];rfl
theorem zOc (l:List Nat) (k:Nat) (a:k<16):val (zBr l 16)/2^(15-k)%2=(yJ (zCc l k≠0)).toNat:=by
 rw[zTs _ k a (zBr l 16) rfl (zOb l 16)];simp[zBr,qPz,a]
theorem zQf (l:List Nat) (k i:Nat) (hi:i<16):zCc l k/2^(15-i)%2=(yJ (k*16+i∈l)).toNat:=by
 rw[zTs (zCc l k) i hi (zCo l k 16) rfl (zQh l k 16)];simp[zCo,qPz,hi]
theorem zOg (l:List Nat) (k:Nat) (h:zCc l k=0) (i:Nat) (hi:i<16):k*16+i∉l:=by
 have:=zQf l k i hi;rw[h,Nat.zero_div]at this;intro a;rw[qQ a]at this;simp at this
theorem zMy (l:List Nat) (k:Nat) (h:zCc l k=0):∀i,i<=16->alpha l (k*16+i)=alpha l (k*16)
 |0,_=>rfl
 |i+1,hi=>by rw[<-qR3,zEd,qPt (zOg l k h i za),qQv,zMy l k h i za]
theorem zOf (l:List Nat):∀n k,k+n=16->zB3 l k<+:zB3 l 16
 |0,k,h=>by
  have a:k=16:=za
  subst a;exact List.prefix_refl _
 |n+1,k,h=>(by rw[zFc];exact List.prefix_append _ _:zB3 l k<+:zB3 l (k+1)).trans (zOf l n (k+1) za)
theorem zZd (l:List Nat) (c:Nat) (f:c<256) (e:c∈l):0<val (zBr l 16):=by
 have d:c/16<16:=za
 have b:zCc l (c/16)≠0:=fun h=>zOg l (c/16) h (c%16) za (by rw[show c/16*16+c%16=c by omega];exact e);have a:=zOc l (c/16) d;rw[qQ b]at a;rcases qQz (val (zBr l 16))with h|h
 .rw[h,Nat.zero_div]at a;simp at a
 .exact h
theorem and_one (v k:Nat) (hv:v<65536):bits .and .u64 ((v:Int)/2^k) 1=((v/2^k%2:Nat):Int):=by
 have a:v/2^k<=v:=Nat.div_le_self _ _;have e:(v:Int)/2^k=((v/2^k:Nat):Int):=by rw[Int.natCast_ediv];push_cast;rfl
 rw[e,show(1:Int)=((1:Nat):Int)from rfl,u64_and_nat _ _ za za,Nat.and_one_is_mod]
theorem zN8 (s:ByteArray) (at_:Nat) (l:List Nat) (hs:s.size<=100000000) (c0:Nat) (af:c0<256) (ae:c0∈l) (ha:At s at_ (zC2 l)) (w:yC):
  yG yK 33 #[qY s,at_] w fun e w'=>e=qx (qg #[qY ⟨(alpha l 256).toArray⟩,qX qm ((at_+kN (zC2 l):Nat):Int),qX qm 0])/\yM w w w':=by
 obtain⟨B,hB⟩:=zB w.heap.size;have hv:=zZd l c0 af ae;have S:=zK3 l 16 za;obtain⟨J,hJ⟩:=zB (at_+kN (zC2 l));rw[hJ];unfold zC2 at ha hJ;obtain⟨H,O⟩:=At.app.1 ha;rw[zAc]at O;rw[qP0,zAc]at hJ;have X:=H.1;rw[zAc]at X;have HQ:=zH (zB7 s at_ 16 za X za w);rw[H.val za,show((16:Nat):Int)=16 from rfl]at HQ;have L:=zH (zOc l);obtain⟨v,a0⟩:=zB (val (zBr l 16));rw[a0]at hv S HQ L;obtain⟨HA,HJ,a3⟩:=yV O hJ (zOf l);rw[hB];clear ha H O hJ a0 ae;go_enter func33,ntmps33;go_wp2_with fail;(with_reducible refine HQ.out.mono ?_);rintro e w2 ⟨rfl,rfl⟩;go_wp2;clear HQ;go_loopw [1,6,7,8,10] (fun a e o em i wr=>∃(k q n:Nat) (p:Option yF) (c:Nat),k<=16/\i=qX qm k/\a=qX qm q/\e=qX qm 0/\em=qh yI/\o=qZ p n c/\n<=k*16/\yL (q=at_+16+kN (zB3 l k))/\yL (yu wr B TB p n c ((alpha l (k*16)).map xC))/\yL (yM B w wr)) (fun _ _ _ _ i _=>16-(intOf i).toNat)
 case atStart=>exact⟨0,at_+16,0,yB,0,za,rfl,by push_cast;rfl,rfl,rfl,rfl,za,zH (by simp[zB3]),zH (Kit.Own.start _ _ _),zH (yR _ _)⟩
 case round=>
  obtain⟨k,q,n,p,c,hk,rfl,rfl,rfl,rfl,rfl,hn,z,b,y⟩:=hrel;by_cases a9:k<16
  .have d:=L.out k a9;have f:=and_one v (15-k) S;rw[d]at f;have F:=a3.out (15-k) (k+1) za;have g:=zFc l k;by_cases m:zCc l k=0
   .have W:=zMy l k m 16 (qPq _);rw[qPt (by simp[m]),qQv]at g;have u:(yJ (zCc l k≠0)).toNat=0:=by simp[m]
    rw[u,show((0:Nat):Int)=0 from rfl]at f;have a8:=yT (alpha l ((k+1)*16)=alpha l (k*16)) (by rw[qQu,qRn];exact W);have K:=zH g;clear d F W g u m;go_wp2;go_roundw
    case rel=>exact⟨k+1,q,n,p,c,za,by go_num,rfl,rfl,rfl,rfl,za,zH (by rw[K.out];exact z.out),by rw[a8.out];exact b,y⟩
    case measure=>exact z8
   .rw[qPr m]at g;have u:(yJ (zCc l k≠0)).toNat=1:=by simp[m]
    rw[u,show((1:Nat):Int)=1 from rfl]at f;have G:At s q (num (zCc l k) 16):=by
     obtain⟨t,ht⟩:=F;have h1:=HA.out;rw[<-ht,g]at h1;have h2:=(At.app.1 (At.app.1 h1).1).2;rw[z.out];exact h2
    have Z:=zM9 l k 16 za;have N:=zQf l k;have V:=G.1;rw[zAc]at V;have a2:=z.out;obtain⟨r,hr⟩:=zB (zCc l k);rw[show val (zCo l k 16)=r from hr]at Z;rw[hr]at g G N m;have HG:=zH (zB7 s q 16 za V za wr);rw[G.val za,show((16:Nat):Int)=16 from rfl]at HG;have K:=yT (kN (zB3 l (k+1))=kN (zB3 l k)+16) (by rw[g,qP0,zAc]);have a7:=zH N;have hne:((r:Int)==0)=yI:=zq
    have ac:=zH a2;clear d F g u G N hr z a2;go_wp2_with fail;(with_reducible refine HG.out.mono ?_);rintro e w3 ⟨rfl,rfl⟩;clear f HG;go_wp2;clear hne;go_loopw [48,7] (fun i o wr=>∃(j n:Nat) (p:Option yF) (c:Nat),j<=16/\i=qX qm j/\o=qZ p n c/\n<=k*16+j/\yL (yu wr B TB p n c ((alpha l (k*16+j)).map xC))/\yL (yM B w wr)) (fun i _ _=>16-(intOf i).toNat)
    case atStart=>exact⟨0,n,p,c,za,rfl,rfl,za,b,y⟩
    case round=>
     clear b y hn;obtain⟨j,n,p,c,hj,rfl,rfl,hn,b,y⟩:=hrel;by_cases a4:j<16
     .have d:=a7.out j a4;have f:=and_one r (15-j) Z;rw[d]at f;by_cases hm:k*16+j∈l
      .rw[qQ hm,show((true.toNat:Nat):Int)=1 from rfl]at f;have x:alpha l (k*16+(j+1))=alpha l (k*16+j)++[UInt8.ofNat (k*16+j)]:=by rw[<-qR3,zEd,qPr hm]
       have R:xC (UInt8.ofNat (k*16+j))=qX qo ((k:Int)*16+(j:Int)):=by unfold xC;rw[ofNat_toNat za];push_cast;rfl
       have hz:=y.out.size;obtain⟨p3,c3,w4,ad,M,Y⟩:=Kit.Own.app (ty:=109) (w:=wr.alloc (qp #[qX qo ((k:Int)*16+(j:Int))] TB)) zNh (b.out.alloc _) (yA ⟨wr,0,yB⟩) 1 1 [xC (UInt8.ofNat (k*16+j))] (by rw[R];exact xM wr _ TB) rfl (fun h=>by cases h) (Kit.zG [UInt8.ofNat (k*16+j)]) (by unfold maxLen;omega) za zq;have a1:yM B w w4:=y.out.trans (((yR _ _).alloc za _).trans ((yR _ _).grown Y zq (fun q z=>b.out.block q z)));rw[show(alpha l (k*16+j)).map xC++[xC (UInt8.ofNat (k*16+j))]=(alpha l (k*16+(j+1))).map xC by rw[x,qQb];rfl]at M;obtain⟨aa,a6⟩:=yU M a1;clear M a1 Y x R hm d;go_wp2_with (at_builtin;refine xG rfl (.tmp 57) (.tmp 63) 109 rfl rfl rfl ad ?_);go_roundw
       case rel=>exact⟨j+1,n+1,p3,c3,za,by go_num,rfl,za,aa,a6⟩
       case measure=>exact z8
      .rw[qP1 hm,show((false.toNat:Nat):Int)=0 from rfl]at f;have x:alpha l (k*16+(j+1))=alpha l (k*16+j):=by rw[<-qR3,zEd,qPt hm,qQv]
       have a5:=zH x;clear hm x d;go_wp2;go_roundw
       case rel=>exact⟨j+1,n,p,c,za,by go_num,rfl,za,by rw[a5.out];exact b,y⟩
       case measure=>exact z8
     .obtain rfl:j=16:=za
      go_wp2;go_roundw
      case rel=>exact⟨k+1,q+16,n,p,c,za,by go_num,by push_cast;rfl,rfl,rfl,rfl,za,zH (by rw[K.out,ac.out];omega),by rw[qQu,qRn];exact b,y⟩
      case measure=>exact z8
  .obtain rfl:k=16:=za
   have I:=b.out.len;rw[qQj]at I;have ag:=Kit.Src.text (P:=yK) (n:=n) (c:=c) (src:=109) (dst:=9) b.out.src I underlying109 underlying5 underlying9;have ab:=yT (J=q) (by rw[z.out,<-HJ.out];omega);have hne:((v:Int)==0)=yI:=zq
   clear I;go_wp2
   try simp only[Exit.inBlock,Exit.then]
   refine qP5 (v:=qg #[qY ⟨(alpha l 256).toArray⟩,q,qX qm 0]) (by simp[results,f33,go_sem]) rfl ⟨by rw[ab.out],y.out⟩
end Us
namespace Kit
open Go.ChangeShapes Go.WideShapes Go.ChangeAt
def zEq (k:IntKind) (w:yC) (a:Option yF) (len c:Nat) (g:Nat->Int×Int):Prop:=
 len<=c/\c<=maxLen/\∀i,i<len->∃b off,a=yA ⟨b,off,yB⟩/\w.cell? ⟨b,off+i*2,yB⟩=yA (qX k (g i).1)/\w.cell? ⟨b,off+i*2+1,yB⟩=yA (qX k (g i).2)/\(Lit.int k (g i).1).wf=yH/\(Lit.int k (g i).2).wf=yH
theorem qB4 {α:Type} (l:List α) (h:kN l=2):∃c0 c1,l=[c0,c1]:=by
 match l,h with
 |[c0,c1],_=>exact⟨c0,c1,rfl⟩
section
variable {H:Type} {enc:yE×yD->H} {P:Program} {w:yC} {base:Nat} {spare:Nat->Bool} {held:Bool}
theorem qBr {w:yC} {x:yF} {n:Nat} {v:yD} (h:w.cell? (x.add n)=yA v) (a:n=0\/∃u,w.cell? x=yA u):x.spot=yB:=by
 rcases a with rfl|⟨u,b⟩
 .exact World.cell?_spot (by simpa [Addr.add]using h)
 .exact World.cell?_spot b
theorem open_pair {t e:yE} {k:IntKind} {x:yF} {i n:Nat} {g:List yD} {y:DataW H×List MemPlace} (B:P.underlying t=yA (.array 2 e)) (o:P.underlying e=yA (.int k))
  (q:P.cellsOf t=2) (p:P.cellsOf e=1) (u:w.cells? base (x.add (i*2)) 2=yA g) (z:DataW.trod enc P w base spare held n t g=yA y):
  ∃d f:Int,w.cell? (x.add (i*2))=yA (qX k d)/\w.cell? ((x.add (i*2)).add 1)=yA (qX k f)/\(Lit.int k d).wf=yH/\(Lit.int k f).wf=yH:=by
 obtain⟨xs,G,_,_,b,c,a⟩:=DataW.trod_array B z;rw[q]at b;rw[p]at a;obtain⟨c0,c1,rfl⟩:=qB4 g b;obtain⟨I,K,rfl⟩:=qB4 xs c;have l:=a 0 za;have g1:=a 1 za;simp at l g1;obtain⟨d,h,_,r⟩:=DataW.trod_int o l;obtain⟨f,j,_,s⟩:=DataW.trod_int o g1;simp at h j;subst h j;obtain⟨_,_,m⟩:=World.cells?_some u;have q0:=m 0 zm;have F:=m 1 zm;refine⟨d,f,?_,?_,r,s⟩
 .simpa [Addr.add]using q0
 .simpa using F
theorem zUw {t u e:yE} {k:IntKind} {a:Option yF} {len I:Nat} {d:DataW H} {p:List MemPlace} (ht:P.underlying t=yA (.slice u)) (M:P.underlying u=yA (.array 2 e)) (L:P.underlying e=yA (.int k))
  (q:P.cellsOf u=2) (K:P.cellsOf e=1) (h:DataW.Trod enc P w base spare held t (qZ a len I) d p):∃g,zEq k w a len I g:=by
 obtain⟨a0,W⟩:=h;rcases Deep.open_slice ht W with⟨n,_⟩|⟨x,l,c,m,fu,D,Pl,n,_,Y,Z,B,_,z⟩
 .simp[Value.cells]at n;obtain⟨rfl,rfl,rfl⟩:=n;exact⟨fun _=>(0,0),qPq _,qQl _,fun i h=>absurd h za⟩
 .simp[Value.cells]at n;obtain⟨rfl,rfl,rfl⟩:=n;have a4:len<=m:=by rw[B];split<;>omega
  rw[q]at z;have s:∀i,i<len->∃y:Int×Int,∃b f,yA x=yA (⟨b,f,yB⟩:yF)/\w.cell? ⟨b,f+i*2,yB⟩=yA (qX k y.1)/\w.cell? ⟨b,f+i*2+1,yB⟩=yA (qX k y.2)/\(Lit.int k y.1).wf=yH/\(Lit.int k y.2).wf=yH:=by
   intro i hi;obtain⟨a2,F,G⟩:=z 0 za;obtain⟨_,_,hz,_,_,_⟩:=open_pair M L q K F G;have r:x.spot=yB:=qBr hz (qz za);obtain⟨a3,S,V⟩:=z i za;obtain⟨n0,n1,q0,N,O,R⟩:=open_pair M L q K S V;obtain⟨b,f,a1⟩:=x;simp only at r;subst r;have o:∀j,(⟨b,f,yB⟩:yF).add j=⟨b,f+j,yB⟩:=by
    intro j;unfold Addr.add;split<;>simp_all
   rw[Deep.add_add,o]at N;rw[o]at q0;exact⟨(n0,n1),b,f,rfl,q0,N,O,R⟩
  obtain⟨g,X⟩:=Deep.choose_lt s;exact⟨g,Y,Z,X⟩
end
end Kit
namespace Kit
section
variable {P:Program} {ops:Array Oper} {Q:Exit->Act->yC->Prop} {md:Region.Mode}
theorem zQb {n:Nat} {row:String} {args:Array yD} {w:yC} {R:yD->yC->Prop} (h:Rows P row args w R):RowsIn Fence.wide n P row args w R:=by
 intro c a _;obtain⟨v,w',r,s⟩:=h c a;exact⟨v,w',r,stepsIn_wide.2 s⟩
theorem zYz (n:Nat) {o:Oper} {a:Act} {K:Act->yC->Prop}:∀{r:Result Next},o.upon P a K (zDy Q) r->o.uponIn Fence.wide n P a K Q r
 | .ok (.value v) w',h=>h
 | .ok .skip w',h=>h
 | .ok (.defer d) w',h=>h
 | .ok (.enter f args) w',h=>⟨(fun hd=>by cases hd),qQi.2 (Calls.mono h (fun e g b=>by
   cases e with
   |returned v=>exact b
   |panicked c=>exact b
   |outgrown=>exact(zGa b).elim))⟩
 | .ok (.row row args) w',h=>⟨(fun hd=>by cases hd),zQb h⟩
 | .ok (.round _ _ _ _ _) w',h=>h.elim
 | .halt (.panic v) w',h=>h
theorem qFi (n:Nat) {o:Oper} {a:Act} {w:yC} {K:Act->yC->Prop} (hd:∀c,o.op≠ .defer c) (h:Oper.wp P o a w K (zDy Q)):o.wpIn Fence.wide n P a w K Q:=by
 unfold Oper.wpIn;refine⟨fun _ _=>trivial,?_⟩;rw[Oper.semAt_plain _ _ _ hd];exact zYz n h
theorem zJ9 (n:Nat) (hd:∀(i:Nat) (o:Oper),ops[i]? =yA o->∀c,o.op≠ .defer c):∀(d:Nat) (e:Array Bool) (a:Act) (w:yC),wpAny P md ops (zDy Q) d e a w->wpAnyIn Fence.wide n P md ops Q d e a w
 |0,_,_,_,h=>h
 |d+1,e,a,w,h=>by
  refine⟨h.1,fun i hi=> ?_⟩;have b:=h.2 i hi;unfold wpOp at b;unfold wpOpIn;cases ho:ops[i]? with
  |none=>rw[ho]at b;exact zJ9 n hd d _ _ _ b
  |some o=>
   rw[ho]at b;simp only at b⊢;split at b
   .next hw=>rw[qPr hw];exact Oper.wpIn_mono (fun a w=>zJ9 n hd d _ a w) (qFi n (hd i o ho) (b.resolve_right (fun h=>zGa h.2)))
   .next hw=>rw[qPt hw];exact⟨fun _ _=>trivial,zJ9 n hd d _ _ _ b⟩
theorem zRk {f n:Nat} {a:Act} {w:yC} (e:P.follows .mixedOrders=yH) (hd:zJu ops=yH) (h:wpAny P .any ops (zDy Q) ops.size (Array.replicate ops.size yI) a w.drew):(Code.region f ops yH).wpIn Fence.wide n P Q a w:=by
 refine wpIn_region_any e (zJ9 n (fun i o hi c d=> ?_) _ _ _ _ h);have b:=(qUf.1 hd) o (Array.mem_of_getElem? hi);rw[d]at b;cases b
theorem zIq {i k:Nat} {a:Act} {w:yC} (hd:zJu ops=yH) (D:List Nat) (S:yC->Prop) (b:List Nat) (n:Nat) (d:P.follows .mixedOrders=yH) (e:ops.size=n) (f:Region.noSelect ops=yH) (g:ops.toList.map (zC .any)=b) (c:zD ops ops.toList b ops.toList b 0=yH)
  (h:At_ P .any ops (zDy Q) D S b n 0 a w.drew):(Code.region i ops yH).wpIn Fence.wide k P Q a w:=
 zRk d hd (zP2 D S b n e f g c h)
theorem zRh {D:List Nat} {S:yC->Prop} {b:List Nat} {a:Act} {w:yC} {f L:Nat} (c:zA1 L b 0=[]) (h:Q .normal a w):At_ P md ops (zDy Q) D S b f L a w:=qA5 c h
end
end Kit
namespace Cache
variable {b:Int}
structure Hd where
 blk:Int
 st:Int
 txt:ByteArray
deriving Inhabited
structure Sh where
 room:Int
 clock:Int
 held:List Hd
def zero:Sh:=⟨0,0,[]⟩
abbrev qIf:Int:=1099511627776
def qId (l:List Hd):Prop:=l.Pairwise fun x y=>x.blk<y.blk
def Apart (l:List Hd):Prop:=l.Pairwise fun x y=>x.st≠y.st
def Good (a:Int) (l:List Hd):Prop:=(∀h∈l,0<=h.blk/\1<=h.st/\h.st<=a)/\qId l/\Apart l
def Right (c:Sh):Prop:=1<=c.room/\c.room<=64/\0<=c.clock/\c.clock<=qIf/\(kN c.held:Int)<=c.room/\Good c.clock c.held
open Classical in
@[irreducible] noncomputable def right (c:Sh):Bool:=yJ (Right c)
theorem zIu (c:Sh):right c=yH↔Right c:=by unfold right;simp
theorem zGw (c:Sh):right c=yI↔¬Right c:=by unfold right;simp
theorem zL5 {α:Type} (k:α->Int):∀(l m:List α),l.Perm m->(l.Pairwise fun x y=>k x<k y)->(m.Pairwise fun x y=>k x<k y)->l=m
 |[],m,hp,_,_=>by have:=hp.symm.eq_nil;exact this.symm
 |x::l,m,hp,hl,hm=>by
  cases m with
  |nil=>exact absurd hp.eq_nil zm
  |cons y m=>
   rw[qQ3]at hl hm;have a:x=y:=by
    have d:x∈y::m:=hp.subset zm;have e:y∈x::l:=hp.symm.subset zm;rcases qP6.1 d with h|h
    .exact h
    .rcases qP6.1 e with c|c
     .exact c.symm
     .have:=hl.1 y c;have:=hm.1 x h;omega
   subst a;rw[zL5 k l m ((List.perm_cons x).1 hp) hl.2 hm.2]
def put (h:Hd):List Hd->List Hd
 |[]=>[h]
 |x::r=>if x.blk<h.blk then x::put h r else if x.blk=h.blk then h::r else h::x::r
def drop (b:Int) (l:List Hd):List Hd:=l.filter fun x=>decide (x.blk≠b)
def find (b:Int) (l:List Hd):Option Hd:=l.find? fun x=>decide (x.blk=b)
theorem qI1 {l:List Hd} {x:Hd}:x∈drop b l↔x∈l/\x.blk≠b:=by unfold drop;simp
theorem qId.drop {l:List Hd} (h:qId l) (b:Int):qId (drop b l):=List.Pairwise.filter _ h
theorem qId.tail {x:Hd} {l:List Hd} (h:qId (x::l)):qId l:=(qQ3.1 h).2
theorem qId.head {x:Hd} {l:List Hd} (h:qId (x::l)):∀y∈l,x.blk<y.blk:=(qQ3.1 h).1
theorem qIs (h:Hd):∀(l:List Hd),qId l->∀x,x∈put h l↔x=h\/(x∈l/\x.blk≠h.blk)
 |[],_,x=>by simp[put]
 |y::r,hr,x=>by
  have a:=qIs h r hr.tail x;unfold put;split
  .rename_i h1
   rw[qP6,a,qP6];constructor
   .rintro(rfl|rfl|⟨h2,h3⟩)
    .exact qy ⟨qz rfl,za⟩
    .exact qz rfl
    .exact qy ⟨qy h2,h3⟩
   .rintro(rfl|⟨rfl|h2,h3⟩)
    .exact qy (qz rfl)
    .exact qz rfl
    .exact qy (qy ⟨h2,h3⟩)
  .split
   .rename_i h1 h2
    rw[qP6,qP6];constructor
    .rintro(rfl|h3)
     .exact qz rfl
     .have:=hr.head x h3;exact qy ⟨qy h3,za⟩
    .rintro(rfl|⟨rfl|h3,h4⟩)
     .exact qz rfl
     .exact absurd h2 h4
     .exact qy h3
   .rename_i h1 h2
    rw[qP6,qP6];constructor
    .rintro(rfl|rfl|h3)
     .exact qz rfl
     .exact qy ⟨qz rfl,h2⟩
     .have:=hr.head x h3;exact qy ⟨qy h3,za⟩
    .rintro(rfl|⟨h3,h4⟩)
     .exact qz rfl
     .exact qy h3
theorem qId.put {l:List Hd} (a:qId l) (h:Hd):qId (put h l):=by
 induction l with
 |nil=>simp[Cache.put,qId]
 |cons y r ih=>
  unfold Cache.put;split
  .rename_i h1
   refine qQ3.2 ⟨fun x c=> ?_,ih a.tail⟩;rcases(qIs h r a.tail x).1 c with rfl|⟨h2,_⟩
   .exact h1
   .exact a.head x h2
  .split
   .rename_i h1 h2
    exact qQ3.2 ⟨fun x c=>by have:=a.head x c;omega,a.tail⟩
   .rename_i h1 h2
    refine qQ3.2 ⟨fun x c=> ?_,a⟩;rcases qP6.1 c with rfl|c
    .omega
    .have:=a.head x c;omega
theorem qIu (h:Hd):∀l:List Hd,qId l->(kN (put h l)=kN l/\∃x∈l,x.blk=h.blk)\/(kN (put h l)=kN l+1/\∀x∈l,x.blk≠h.blk)
 |[],_=>qy ⟨rfl,fun x a=>by cases a⟩
 |y::r,hr=>by
  unfold put;split
  .rename_i h1
   rcases qIu h r hr.tail with⟨c,x,a,d⟩|⟨c,d⟩
   .exact qz ⟨by simp[c],x,List.mem_cons_of_mem _ a,d⟩
   .refine qy ⟨by simp[c],fun x a=> ?_⟩;rcases qP6.1 a with rfl|a
    .omega
    .exact d x a
  .split
   .rename_i h1 h2
    exact qz ⟨rfl,y,zm,h2⟩
   .rename_i h1 h2
    refine qy ⟨rfl,fun x a=> ?_⟩;rcases qP6.1 a with rfl|a
    .exact h2
    .have:=hr.head x a;omega
theorem qIb {l:List Hd} {h:Hd} (e:find b l=yA h):h∈l/\h.blk=b:=by
 unfold find at e;exact⟨List.mem_of_find?_eq_some e,by simpa using List.find?_some e⟩
theorem qJ6 {l:List Hd} (e:find b l=yB):∀x∈l,x.blk≠b:=by
 unfold find at e;rw[List.find?_eq_none]at e;intro x a h;exact e x a (by simpa using h)
theorem qIr {l:List Hd} {h:Hd} (d:qId l) (a:h∈l) (e:h.blk=b):find b l=yA h:=by
 induction l with
 |nil=>cases a
 |cons y r ih=>
  unfold find;rw[List.find?_cons];by_cases c:y.blk=b
  .rw[qQ c];rcases qP6.1 a with rfl|a
   .rfl
   .have:=d.head h a;omega
  .rw[qP1 c];rcases qP6.1 a with rfl|a
   .exact absurd e c
   .exact ih d.tail a
def ord (l:List Hd):List Hd:=l.mergeSort fun x y=>decide (y.st<=x.st)
theorem qJd (l:List Hd):(ord l).Perm l:=List.mergeSort_perm _ _
theorem qL6 (l:List Hd) (h:Apart l):(ord l).Pairwise fun x y=>y.st<x.st:=by
 have d:(ord l).Pairwise fun x y=>decide (y.st<=x.st)=yH:=List.pairwise_mergeSort (fun a b c d e=>by simp at d e⊢;omega) (fun a b=>zq) l;have e:(ord l).Pairwise fun x y=>x.st≠y.st:=(qUj (fun h=>qQ4 h) (qJd l)).2 h;exact(d.and e).imp fun⟨a,b⟩=>by simp at a;omega
theorem qN5 {l m:List Hd} (h:Apart l) (a:m.Perm l) (c:m.Pairwise fun x y=>y.st<x.st):m=ord l:=
 zL5 (fun x=> -x.st) m (ord l) (a.trans (qJd l).symm) (c.imp fun h=>za) ((qL6 l h).imp fun h=>za)
theorem qJr (l:List Hd):kN (ord l)=kN l:=(qJd l).length_eq
open Classical in
noncomputable def order (c:Sh):List Int:=if right c=yH then(ord c.held).map Hd.blk else[]
def after (c:Sh) (l:List Hd) (b:Int) (t:ByteArray):Sh:=⟨c.room,c.clock+1,put ⟨b,c.clock+1,t⟩ l⟩
noncomputable def take (c:Sh) (b:Int):ByteArray×Sh×Int:=
 if right c=yH then
  match find b c.held with
  |none=>(⟨#[]⟩,zero,5)
  |some h=>if c.clock=qIf then(⟨#[]⟩,zero,4)else(h.txt,after c c.held b h.txt,0)
 else(⟨#[]⟩,zero,1)
noncomputable def goes (c:Sh) (b:Int):Int:=if(find b c.held).isNone=yH/\(kN c.held:Int)=c.room then(order c).getLastD (-1)else-1
noncomputable def keep (c:Sh) (b:Int) (t:ByteArray):Int×Sh×Int:=
 if right c=yH/\0<=b then
  if c.clock=qIf then(0,zero,4)else(goes c b,after c (drop (goes c b) c.held) b t,0)
 else(0,zero,1)
theorem qI9 (l:List Hd) (b:Int) (h:∀x∈l,x.blk≠b):drop b l=l:=by
 unfold drop;rw[List.filter_eq_self];intro x a;simpa using h x a
end Cache
namespace Cache
open Go.Maps (Keyed int_keyed keyOf_int_mk)
variable {a:Option yF} {w:yC}
theorem zBw {k:IntKind} {a b:Int} (h:a=b):Ending.returned (qX k a)=qx (qX k b):=by rw[h]
theorem zQi {a b:Bool} (h:a=b):Ending.returned (qh a)=qx (qh b):=by rw[h]
abbrev TH:yE:=212
abbrev TS:yE:=36
abbrev hcells (h:Hd):List yD:=[qX qm h.blk,qX qm h.st,qY h.txt]
def qIg (w:yC) (a:Option yF) (l:List Hd):Prop:=∀j h,l[j]? =yA h->∃b off,a=yA ⟨b,off,yB⟩/\w.cell? ⟨b,off+j*3,yB⟩=yA (qX qm h.blk)/\w.cell? ⟨b,off+j*3+1,yB⟩=yA (qX qm h.st)/\w.cell? ⟨b,off+j*3+2,yB⟩=yA (qY h.txt)
theorem qIg.below {w':yC} {l:List Hd} {B:Nat} (h:qIg w a l) (d:yM B w w') (k:B=w.heap.size):qIg w' a l:=by
 subst k;intro j x n;obtain⟨b,c,m,f,g,i⟩:=h j x n;have e:b<w.heap.size:=qQk f;exact⟨b,c,m,by rw[d.cell (p:=⟨b,c+j*3,yB⟩) e];exact f,by rw[d.cell (p:=⟨b,c+j*3+1,yB⟩) e];exact g,by rw[d.cell (p:=⟨b,c+j*3+2,yB⟩) e];exact i⟩
theorem qIg.nil (w:yC) (a:Option yF):qIg w a []:=by intro j h b;simp at b
theorem qIg.take {l:List Hd} (h:qIg w a l) (n:Nat):qIg w a (l.take n):=by
 intro j x b;refine h j x ?_;rw[qSc]at b;split at b
 .exact b
 .cases b
theorem qIg.at_ {l:List Hd} (h:qIg w a l) (j:Nat) (i:j<kN l):∃b c,a=yA ⟨b,c,yB⟩/\b<w.heap.size/\w.cell? ⟨b,c+j*3,yB⟩=yA (qX qm l[j].blk)/\w.cell? ⟨b,c+j*3+1,yB⟩=yA (qX qm l[j].st)/\w.cell? ⟨b,c+j*3+2,yB⟩=yA (qY l[j].txt):=by
 obtain⟨b,c,g,d,e,f⟩:=h j l[j] (qPu i);exact⟨b,c,g,qQk d,d,e,f⟩
def zC7 (c:Sh) (a:Option yF) (k:Nat):yD:= .agg #[qX qm c.room,qX qm c.clock,qZ a (kN c.held) k]
abbrev Lk (x:Int):Lit:= .int .i64 x
abbrev DW:=DataW Unit
abbrev yes:DW:= .lit (.bool yH)
abbrev seen (xs:List Int):DW:=Go.Maps.setOf yes (xs.map Lk)
theorem keyed (t:yE) (h:prog.underlying t=yA (.int qm)):Keyed yK t:=int_keyed h
theorem qJn {x:Int} (b: -9223372036854775808<=x) (c:x<=9223372036854775807):keyOf yK 3 (qX qm x)=yA (Lk x):=by
 exact keyOf_int_mk underlying3 (WalkArith.wf_i64 ⟨b,c⟩)
theorem qJ3 (x:Int):WideAt.IsKeyLit (Lk x):=by trivial
theorem qM8 (x y:Int):(Lk x).sameKey (Lk y)=yJ (x=y):=by
 rw[qSg,qRm];constructor
 .intro h;by_cases e:x=y
  .exact e
  .have:=Go.Maps.sameKey_ne (a:=Lk x) (b:=Lk y) (fun h=>e (by injection h));rw[this]at h;cases h
 .rintro rfl;rcases h:(Lk x).sameKey (Lk x)with _|_
  .have f:=Go.Maps.has_put_same (D:=(.map []:DW)) Go.Maps.isMap_empty (qJ3 x) yes;have c:=Go.Maps.has_setOf yes (Lk x) [Lk x] (fun y d=>by rw[qRe]at d;subst d;exact qJ3 x);rw[show Go.Maps.setOf yes [Lk x]=(.map []:DW).put (Lk x) yes from rfl,f]at c;simp[h]at c
  .rfl
theorem qLz (xs:List Int):Go.Maps.IsMap (seen xs):=(Go.Maps.tidy_setOf yes _ (fun x b=>by obtain⟨y,_,rfl⟩:=qQg.1 b;exact qJ3 y)).isMap
theorem qKo (xs:List Int) (x:Int):seen (xs++[x])=(seen xs).put (Lk x) yes:=by
 unfold seen;rw[qQb,qQe,qSp,Go.Maps.setOf_snoc]
theorem qM6 {α:Type} {M:List α->Prop} (b:M []) (c:∀l x,M l->M (l++[x])) (l:List α):M l:=by
 rw[<-List.reverse_reverse l]
 induction l.reverse with
 |nil=>exact b
 |cons x r ih=>rw[List.reverse_cons];exact c _ _ ih
theorem qN1 (x:Int) (z:DW):∀xs,(seen xs).atKey (Lk x) z=if x∈xs then yes else z:=by
 intro xs;refine qM6 (M:=fun xs=>(seen xs).atKey (Lk x) z=if x∈xs then yes else z) rfl (fun l y c=> ?_) xs;rw[qKo];by_cases h:y=x
 .subst h;rw[Go.Maps.atKey_put_same (qLz l) (qJ3 y),qPr zm]
 .rw[Go.Maps.atKey_put_other (fun e=>h (by injection e with _ e;exact e.symm)),c];by_cases b:x∈l
  .rw[qPr b,qPr (by simp[b])]
  .rw[qPt b,qPt (by simp[b,qQ4 h])]
theorem qLg {e:yE} (b:prog.underlying e=yA .bool) {v:yD} {x:Bool} {c:List MemPlace} (h:plainElem (H:=Unit) yK e v=yA (.lit (.bool x),c)):v=qh x:=by
 unfold plainElem at h;rw[b]at h;cases v<;>simp at h;rw[h.1]
theorem qMn {b n:Nat} {xs:List Int} (h:w.ownsMap yK 3 (plainElem yK 4) b n (seen xs)) (x:Int) (d: -9223372036854775808<=x) (e:x<=9223372036854775807):
  (Instr.lookup 275 (.map (yA b)) (qX qm x) yI).run yK w= .ok (qh (yJ (x∈xs))) w:=by
 obtain⟨v,g,f,hv⟩:=h.lookup (keyed _ underlying3) underlying275 (show(zeroValue 4).run yK w= .ok (qh yI) w from zf) (plainElem_bool underlying4 yI) (qJn d e);rw[f];rw[qN1]at hv;by_cases c:x∈xs
 .rw[qPr c]at hv;rw[qLg underlying4 hv,qQ c]
 .rw[qPt c]at hv;rw[qLg underlying4 hv,qP1 c]
end Cache
namespace Cache
variable {w:yC} {B n c:Nat} {a:Option yF}
def flat (l:List Hd):List yD:=l.flatMap hcells
theorem qKd (x:Hd):flat [x]=hcells x:=by simp[flat]
theorem zKo (l m:List Hd):flat (l++m)=flat l++flat m:=by simp[flat]
theorem qMr (l:List Hd) (x:Hd):flat (l++[x])=flat l++hcells x:=by rw[zKo,qKd]
theorem zBg:∀l:List Hd,kN (flat l)=kN l*3
 |[]=>rfl
 |x::l=>by
  have:=zBg l;show(hcells x++flat l).length=_;rw[qP0,this];simp;omega
theorem flat_get:∀(l:List Hd) (j:Nat) (h:Hd),l[j]? =yA h->(flat l)[j*3]? =yA (qX qm h.blk)/\(flat l)[j*3+1]? =yA (qX qm h.st)/\(flat l)[j*3+2]? =yA (qY h.txt)
 |[],j,h,e=>by simp at e
 |x::l,0,h,e=>by
  simp at e;subst e;exact⟨rfl,rfl,rfl⟩
 |x::l,j+1,h,e=>by
  have d:=flat_get l j h (by simpa using e);have b:(j+1)*3=j*3+3:=za
  rw[b];exact d
theorem zPj (l:List Hd):∀u∈flat l,u.oneCell'=yH:=by
 intro u b;unfold flat at b;obtain⟨x,_,d⟩:=List.mem_flatMap.1 b;simp at d;rcases d with rfl|rfl|rfl<;>rfl
def qI (w:yC) (B:Nat) (a:Option yF) (n c:Nat) (l:List Hd):Prop:=w.ownsRow B TH 3 (qZ a n c) n (flat l)
theorem qI.len {l:List Hd} (h:qI w B a n c l):kN l=n:=by
 have b:=h.1;rw[zBg]at b;omega
theorem qI.start (w:yC) (B:Nat):qI w B yB 0 0 []:=World.ownsRow_nil w B TH 3
theorem qI.alloc {l:List Hd} (h:qI w B a n c l) (o:Obj):qI (w.alloc o) B a n c l:=World.ownsRow.alloc h o
theorem qI.below {w':yC} {D:Nat} {l:List Hd} (h:qI w B a n c l) (o:yM D w w') (p:w.heap.size<=D):qI w' B a n c l:=by
 obtain⟨m,j⟩:=h;refine⟨m,?_⟩;rcases j with j|⟨g,i,d,hv,f,k,r⟩
 .exact qz j
 .refine qy ⟨g,i,d,hv,f,?_,r⟩;have b:g<w.heap.size:=by
   rcases qP8 g w.heap.size with b|e
   .exact b
   .rw[qRk e]at k;cases k
  rw[o.block g za,k]
theorem qI.base {B':Nat} {l:List Hd} (h:qI w B a n c l) (j:B'<=B):qI w B' a n c l:=by
 obtain⟨f,e⟩:=h;refine⟨f,?_⟩;rcases e with e|⟨g,d,b,hv,i,r⟩
 .exact qz e
 .exact qy ⟨g,d,b,hv,za,r⟩
theorem qI.block {l:List Hd} (h:qI w B a n c l):∀k,(Value.slice a n c).ownBlock=yA k->B<=k:=fun k b=>(World.ownsRow.lt h k b).1
theorem qI.at_ {l:List Hd} (h:qI w B a n c l) (p:0<n):∃g,a=yA ⟨g,0,yB⟩/\B<=g/\g<w.heap.size/\n<=c:=by
 obtain⟨o,f⟩:=h;rcases f with⟨_,f⟩|⟨g,k,m,hv,j,i,e,_⟩
 .omega
 .injection hv with ha hn' hc
  subst ha hc;refine⟨g,rfl,j,?_,e⟩;rcases qP8 g w.heap.size with d|b
  .exact d
  .rw[qRk b]at i;cases i
theorem qI.src {l:List Hd} (h:qI w B a n c l):qIg w a l:=by
 intro j x d;have o:=h.len;have m:j<kN l:=by
  rcases qP8 j (kN l) with b|b
  .exact b
  .rw[qQq b]at d;cases d
 obtain⟨g,k,_,_,_⟩:=h.at_ za;subst k;obtain⟨e,f,i⟩:=flat_get l j x d;refine⟨g,0,rfl,?_,?_,?_⟩
 .rw[qQd,qTn h _ za,e]
 .rw[qQd,qTn h _ za,f]
 .rw[qQd,qTn h _ za,i]
theorem addr_add (b off i:Nat):(⟨b,off,yB⟩:yF).add i=⟨b,off+i,yB⟩:=by
 unfold Addr.add;split<;>simp_all
theorem zT2 (l:List Hd) (i:Nat) (u:yD) (h:(flat l)[i]? =yA u):∃x,l[i/3]? =yA x/\(hcells x)[i%3]? =yA u:=by
 induction l generalizing i with
 |nil=>simp[flat]at h
 |cons y r ih=>
  change (hcells y++flat r)[i]? =yA u at h;rw[List.getElem?_append]at h;split at h
  .rename_i hi
   have a:i<3:=by simpa using hi
   exact⟨y,by rw[Nat.div_eq_of_lt a];rfl,by rw[qRh a];exact h⟩
  .rename_i hi
   have a:3<=i:=by simpa using hi
   obtain⟨x,d,b⟩:=ih (i-3) (by simpa using h);refine⟨x,?_,?_⟩
   .rw[show i/3=(i-3)/3+1 by omega];simpa using d
   .rw[show i%3=(i-3)%3 by omega];exact b
theorem qIg.cells {b off:Nat} {l:List Hd} (h:qIg w (yA ⟨b,off,yB⟩) l):∀i u,(flat l)[i]? =yA u->w.cell? ((⟨b,off,yB⟩:yF).add i)=yA u:=by
 intro i u m;obtain⟨x,o,d⟩:=zT2 l i u m;obtain⟨b',p,e,f,g,j⟩:=h _ x o;injection e with e
 injection e with hb ho
 subst hb ho;rw[addr_add];have hd:=Nat.div_add_mod i 3;have q:i%3<3:=qRf _ za;rcases hk:i%3 with _|_|_|k
 .rw[hk]at d hd;simp at d;subst d;rw[show off+i=off+i/3*3 by omega];exact f
 .rw[hk]at d hd;simp at d;subst d;rw[show off+i=off+i/3*3+1 by omega];exact g
 .rw[hk]at d hd;simp at d;subst d;rw[show off+i=off+i/3*3+2 by omega];exact j
 .omega
theorem qNx:(prog.info? TH).map (fun i=>(i.zero,i.size,i.bytes))=yA (yA (.agg #[qX qm 0,qX qm 0,qY ⟨#[]⟩]),3,32):=zf
theorem qI.app {ty:yE} {l:List Hd} (h:qI w B a n c l)
  (x:Option yF) (m s:Nat) (q:List Hd) (L:qIg w x q) (F:kN q=m) (O:x=yB->m=0/\s=0) (S:n+m<=100000) (K:B<=w.heap.size):
  ∃a' c' w',(Builtin.append_ #[34,34] ty #[qZ a n c,qZ x m s]).run yK w= .ok (qZ a' (n+m) c') w'/\qI w' B a' (n+m) c' (l++q)/\w.grownBy w' (Value.ownBlock (qZ a n c)):=by
 obtain⟨i,hi,f,o,e⟩:=qRv qNx;have d:∀{v:yD} {w':yC} {k:Nat} {M:List yD},w'.ownsRow B TH 3 v k M->∃a' c',v=qZ a' k c':=by
  intro v w' k M hv;rcases Joins.ownsRow_forms hv with⟨rfl,rfl⟩|⟨g,R,rfl⟩
  .exact⟨_,_,rfl⟩
  .exact⟨_,_,rfl⟩
 cases x with
 |none=>
  obtain⟨rfl,rfl⟩:=O rfl;have G:q=[]:=qQ0 F;subst G;refine⟨a,c,w,run_append_owned_none (P:=yK) (w:=w) B 34 ty TH i 3 underlying34 hi _ n (flat l) h,by simpa using h,⟨rfl,rfl,rfl,Nat.le_refl _,fun _ _ _=>rfl⟩⟩
 |some y=>
  by_cases N:m=0
  .subst N;have G:q=[]:=qQ0 F;subst G;obtain⟨v',w',H,r,z,_⟩:=run_append_own (P:=yK) w B 34 ty TH i _ 3 32 underlying34 hi f o e rfl za _ n (flat l) h y 0 s [] rfl (fun j u I=>by simp at I) (fun u I=>by simp at I) (by unfold maxLen;omega) za K;obtain⟨a',c',rfl⟩:=d r;exact⟨a',c',w',H,by rw[qQv]at r⊢;exact r,z⟩
  .obtain⟨b,p,t,_⟩:=L 0 q[0] (qPu za);injection t with t
   subst t;obtain⟨v',w',H,r,z,_⟩:=run_append_own (P:=yK) w B 34 ty TH i _ 3 32 underlying34 hi f o e rfl za _ n (flat l) h ⟨b,p,yB⟩ m s (flat q) (by rw[zBg,F]) L.cells (zPj _) (by unfold maxLen;omega) za K;obtain⟨a',c',rfl⟩:=d r;exact⟨a',c',w',H,by unfold qI;rw[zKo];exact r,z⟩
end Cache
namespace Cache
variable {b n B:Nat} {w w':yC} {P:Program} {ops:Array Oper} {rest:List Oper} {o:Oper} {a:Act} {Q:Exit->Act->yC->Prop}
abbrev TD:yE:=416
def hdat (h:Hd):DW:= .agg [.lit (.int qm h.blk),.lit (.int qm h.st),.lit (.string h.txt.data.toList)]
def hval (h:Hd):yD:= .agg #[qX qm h.blk,qX qm h.st,qY h.txt]
theorem bytes_inj {s t:ByteArray} (h:s.data.toList=t.data.toList):s=t:=by
 have:s.data=t.data:=Array.toList_inj.1 h;cases s;cases t;simp at this;rw[this]
theorem qJu {x y:Hd} (h:hdat x=hdat y):x=y:=by
 cases x;cases y;unfold hdat at h;simp at h;obtain⟨c,d,e⟩:=h;have f:=bytes_inj (qPs Array.toList e);subst c d f;rfl
def qJh:yD->Option (DW×List MemPlace)
 | .agg cs=>match cs.toList with
  |[qX qm b,qX qm s,qY t]=>some (.agg [.lit (.int qm b),.lit (.int qm s),.lit (.string t.data.toList)],[])
  |_=>none
 |_=>none
theorem qJt (h:Hd):qJh (hval h)=yA (hdat h,[]):=rfl
theorem qJ4 {v:yD} {z:DW×List MemPlace} (h:qJh v=yA z):∃x:Hd,v=hval x/\z=(hdat x,[]):=by
 unfold qJh at h;split at h
 .rename_i cs
  split at h
  .rename_i b s t e
   refine⟨⟨b,s,t⟩,?_,?_⟩
   .unfold hval;rw[show cs= #[qX qm b,qX qm s,qY t]from by apply Array.toList_inj.1;rw[e]]
   .injection h with h;rw[<-h];rfl
  .cases h
 .cases h
theorem qNj {x y:Hd} (h:hval x=hval y):x=y:=by
 have c:=qJt x;rw[h,qJt y]at c;injection c with c
 injection c with c _
 exact(qJu c).symm
def qJe:Hd:=⟨0,0,⟨#[]⟩⟩
theorem qNn (l:List Hd) (i:qId l) (h:Hd) (b:Int):find b (put h l)=if b=h.blk then yA h else find b l:=by
 have g:=i.put h;have f:=qIs h l i;split
 .rename_i e
  exact qIr g ((f h).2 (qz rfl)) e.symm
 .rename_i e
  cases hf:find b l with
  |some x=>
   obtain⟨d,c⟩:=qIb hf;exact qIr g ((f x).2 (qy ⟨d,by rw[c];exact e⟩)) c
  |none=>
   cases hg:find b (put h l)with
   |none=>rfl
   |some x=>
    obtain⟨d,c⟩:=qIb hg;rcases(f x).1 d with rfl|⟨d,_⟩
    .exact absurd c.symm e
    .exact absurd c (qJ6 hf x d)
theorem qMs (l:List Hd) (g:qId l) (c b:Int):find b (drop c l)=if b=c then yB else find b l:=by
 split
 .rename_i e
  cases hg:find b (drop c l)with
  |none=>rfl
  |some x=>
   obtain⟨f,d⟩:=qIb hg;exact absurd (d.trans e) (qI1.1 f).2
 .rename_i e
  cases hf:find b l with
  |some x=>
   obtain⟨f,d⟩:=qIb hf;exact qIr (g.drop c) (qI1.2 ⟨f,by rw[d];exact e⟩) d
  |none=>
   cases hg:find b (drop c l)with
   |none=>rfl
   |some x=>
    obtain⟨f,d⟩:=qIb hg;exact absurd d (qJ6 hf x (qI1.1 f).1)
theorem drop_length (l:List Hd) (f:qId l) (b:Int):kN (drop b l)+(if(find b l).isSome=yH then 1 else 0)=kN l:=by
 induction l with
 |nil=>rfl
 |cons x r c=>
  have c:=c f.tail;by_cases h:x.blk=b
  .have g:find b r=yB:=by
    cases hf:find b r with
    |none=>rfl
    |some y=>
     obtain⟨i,j⟩:=qIb hf;have:=f.head y i;omega
   have d:drop b (x::r)=drop b r:=by unfold drop;simp[h]
   have e:find b (x::r)=yA x:=by unfold find;simp[h]
   rw[g]at c;rw[d,e];simp at c⊢;omega
  .have d:drop b (x::r)=x::drop b r:=by unfold drop;simp[h]
   have e:find b (x::r)=find b r:=by unfold find;simp[h]
   rw[d,e,qP4,qP4];omega
structure qIy (D:DW) (l:List Hd):Prop where
 rise:qId l
 at_:∀(b:Int) (z:DW),D.atKey (Lk b) z=(match find b l with|some h=>hdat h|none=>z)
 size:Go.Maps.size D=kN l
theorem qIy.start:qIy (.map []) []:=⟨by simp[qId],fun b z=>rfl,rfl⟩
theorem qIy.qLu {D:DW} {l:List Hd} (h:qIy D l) {b:Int} {x:Hd} (c:find b l=yA x) (z:DW):D.atKey (Lk b) z=hdat x:=by rw[h.at_,c]
theorem qIy.qLv {D:DW} {l:List Hd} (h:qIy D l) {b:Int} (c:find b l=yB) (z:DW):D.atKey (Lk b) z=z:=by rw[h.at_,c]
theorem qIy.has {D:DW} {l:List Hd} (h:qIy D l) (b:Int):Go.Maps.has D (Lk b)=(find b l).isSome:=by
 cases hf:find b l with
 |some x=>exact Go.Maps.has_true_of_atKey (y:=hdat x) (fun z=>h.qLu hf z)
 |none=>exact Go.Maps.has_false_of_atKey (fun z=>h.qLv hf z)
theorem zFm (l:List Hd) (d:qId l) (h:Hd):kN (put h l)=if(find h.blk l).isSome=yH then kN l else kN l+1:=by
 rcases qIu h l d with⟨e,x,g,c⟩|⟨e,f⟩
 .rw[e,qIr d g c];rfl
 .have:find h.blk l=yB:=by
   cases hf:find h.blk l with
   |none=>rfl
   |some y=>
    obtain⟨i,c⟩:=qIb hf;exact absurd c (f y i)
  rw[e,this];rfl
theorem qIy.put {D:DW} {l:List Hd} (h:qIy D l) (c:Go.Maps.Tidy D) (x:Hd):qIy (D.put (Lk x.blk) (hdat x)) (put x l):=by
 refine⟨h.rise.put x,fun b z=> ?_,?_⟩
 .rw[qNn l h.rise];by_cases e:b=x.blk
  .subst e;rw[qPr rfl,Go.Maps.atKey_put_same c.isMap (qJ3 _)]
  .rw[qPt e,Go.Maps.atKey_put_other (fun e'=>e (by injection e' with _ e')),h.at_]
 .rw[Go.Maps.size_put c,h.has,h.size,zFm l h.rise]
theorem qIy.drop {D:DW} {l:List Hd} (h:qIy D l) (f:Go.Maps.Tidy D) (c:Int):qIy (D.del (Lk c)) (drop c l):=by
 refine⟨h.rise.drop c,fun b z=> ?_,?_⟩
 .rw[qMs l h.rise];by_cases e:b=c
  .subst e;rw[qPr rfl,Go.Maps.atKey_del_same]
  .rw[qPt e,Go.Maps.atKey_del_other (fun e'=>e (by injection e' with _ e')),h.at_]
 .have d:=Go.Maps.size_del (k:=Lk c) f;have g:=drop_length l h.rise c;rw[h.has,h.size]at d;omega
abbrev dk:Go.Maps.Keyed yK 3:=keyed _ underlying3
def qIc (w:yC) (b n:Nat) (l:List Hd):Prop:=∃D:DW,w.ownsMap yK 3 qJh b n D/\qIy D l
theorem qIc.start (w:yC):qIc (w.alloc (.map #[] 0)) w.heap.size 0 []:=⟨_,World.ownsMap_made w yK 3 qJh,qIy.start⟩
theorem qIc.alloc {l:List Hd} (h:qIc w b n l) (o:Obj):qIc (w.alloc o) b n l:=by
 obtain⟨D,c,d⟩:=h;exact⟨D,c.alloc o,d⟩
theorem qIc.below {l:List Hd} (h:qIc w b n l) (g:yM B w w') (m:w.heap.size<=B):qIc w' b n l:=by
 obtain⟨D,c,e⟩:=h;have k:=c.lt;obtain⟨d,a,i,F,j,f⟩:=c;exact⟨D,⟨d,a,(g.block b za).trans i,F,j,f⟩,e⟩
theorem qIc.lt {l:List Hd} (h:qIc w b n l):b<w.heap.size:=by
 obtain⟨D,c,_⟩:=h;exact c.lt
theorem qM2 (w:yC):(zeroValue TH).run yK w= .ok (hval qJe) w:=zf
theorem qIc.look {l:List Hd} (h:qIc w b n l) (x:Int) (d: -9223372036854775808<=x) (e:x<=9223372036854775807):
  (Instr.lookup TD (.map (yA b)) (qX qm x) yH).run yK w= .ok (qg #[hval ((find x l).getD qJe),qh (find x l).isSome]) w:=by
 obtain⟨D,f,hd⟩:=h;obtain⟨v,i,g,hv⟩:=f.look_ok dk underlying416 (qM2 w) (qJt qJe) (qJn d e);rw[g,hd.has];obtain⟨y,rfl,c⟩:=qJ4 hv;injection c with c _
 cases hf:find x l with
 |some z=>
  rw[hd.qLu hf]at c;rw[qJu c];rfl
 |none=>
  rw[hd.qLv hf]at c;rw[<-qJu c];rfl
theorem qIc.len {l:List Hd} (h:qIc w b n l) (ty:yE):(Builtin.len_ #[TD] ty #[.map (yA b)]).run yK w= .ok (qX qm (kN l)) w:=by
 obtain⟨D,c,hd⟩:=h;rw[c.len underlying416 ty,hd.size]
theorem qIc.store {l:List Hd} (h:qIc w b n l) (x:Hd) (d: -9223372036854775808<=x.blk) (e:x.blk<=9223372036854775807) (i:n<100000):
  ∃w',(Instr.mapUpdate TD (.map (yA b)) (qX qm x.blk) (hval x)).run yK w= .ok () w'/\qIc w' b (n+1) (put x l)/\w.mapTurned w' b:=by
 obtain⟨D,c,hd⟩:=h;obtain⟨w',f,a,g⟩:=c.store dk underlying416 (by unfold maxLen;omega) (qJn d e) (qJt x);exact⟨w',f,⟨_,a,hd.put (c.tidy dk) x⟩,g⟩
theorem qIc.del {l:List Hd} (h:qIc w b n l) (x:Int) (d: -9223372036854775808<=x) (e:x<=9223372036854775807) (ty:yE):
  ∃w',(Builtin.delete_ #[TD,3] ty #[.map (yA b),qX qm x]).run yK w= .ok (qg #[]) w'/\qIc w' b n (drop x l)/\w.mapTurned w' b:=by
 obtain⟨D,c,hd⟩:=h;obtain⟨w',f,a,g⟩:=c.drop dk underlying416 (qJn d e) ty;exact⟨w',f,⟨_,a,hd.drop (c.tidy dk) x⟩,g⟩
theorem qI5 (h:w.mapTurned w' b) (e:B<=b) (d:B<=w.heap.size):yM B w w':=
 (yR _ _).grown h.grown d (fun k c=>by injection c with c;omega)
theorem qK0 (g:o.guard=yB) (m x v:Operand) (t:yE) (j:o.op= .mapUpdate t m x v)
  {c e d:yD} (i:a.eval m=c) (l:a.eval x=e) (hv:a.eval v=d) (k:(Instr.mapUpdate t c e d).run P w= .ok () w') (h:wpList P ops Q rest (a.put o.dst yN) w'):wpList P ops Q (o::rest) a w:=by
 refine wpList_plain g fun K f=> ?_;unfold Oper.wp;simp[execOp,j,i,l,hv,k,Result.andThen];exact f _ _ h
theorem del_eq (f:o.guard=yB) (m x:Operand) (t k:yE)
  (i:o.op= .call {callee:= .builtin .delete,args:= #[m,x],argTypes:= #[t,k]}) {c d:yD} (g:a.eval m=c) (l:a.eval x=d) (j:(Builtin.delete_ #[t,k] o.type #[c,d]).run P w= .ok (qg #[]) w')
  (h:wpList P ops Q rest (a.put o.dst (qg #[])) w'):wpList P ops Q (o::rest) a w:=by
 refine wpList_plain f fun K e=> ?_;unfold Oper.wp;simp[execOp,i,resolve,invoke,builtin,g,l,j,Result.andThen];exact e _ _ h
end Cache
namespace Cache
def Pre (a:Int) (l:List Hd) (k:Nat):Prop:=Good a (l.take k)
theorem Pre.zero (a:Int) (l:List Hd):Pre a l 0:=by unfold Pre Good qId Apart;simp
def lastB (l:List Hd) (k:Nat):Int:=if h:0<k/\k<=kN l then(l[k-1]' za).blk else-1
theorem qKg (l:List Hd):lastB l 0= -1:=by unfold lastB;rw[dif_neg za]
theorem qL7 (l:List Hd) (k:Nat) (h:k<kN l):lastB l (k+1)=l[k].blk:=by unfold lastB;rw[dif_pos ⟨za,za⟩];rfl
theorem qLl (a:Int) (l:List Hd) (k:Nat) (h:Pre a l k) (b:k<=kN l): -1<=lastB l k:=by
 unfold lastB;split
 .rename_i hh
  have:=(h.1 (l[k-1]' za) (qUk.2 ⟨k-1,za,rfl⟩)).1;omega
 .omega
theorem qMl (l:List Hd) (x:Hd):qId (l++[x])↔qId l/\∀y∈l,y.blk<x.blk:=by unfold qId;rw[List.pairwise_append];simp
theorem qMe (l:List Hd) (x:Hd):Apart (l++[x])↔Apart l/\∀y∈l,y.st≠x.st:=by unfold Apart;rw[List.pairwise_append];simp
theorem zEz (l:List Hd) (k:Nat) (h:k<kN l):l.take (k+1)=l.take k++[l[k]]:=qQp h
theorem qMd (b:Int) (l:List Hd) (k:Nat) (h:Pre b l k) (c:k<=kN l):∀y∈l.take k,y.blk<=lastB l k:=by
 intro y f;obtain⟨i,hi,rfl⟩:=qUk.1 f;have a:0<k:=za
 unfold lastB;rw[dif_pos ⟨a,c⟩];by_cases e:i=k-1
 .subst e;exact Int.le_refl _
 .have d:qId (l.take k):=h.2.1;have:=qSf.1 d i (k-1) (by rw[qQh];omega) (by rw[qQh];omega) za;rw[List.getElem_take,List.getElem_take]at this;omega
theorem qNg (l:List Hd) (k:Nat) (b:k<=kN l) (a:0<k):∃y∈l.take k,y.blk=lastB l k:=by
 unfold lastB;rw[dif_pos ⟨a,b⟩];exact⟨_,qUk.2 ⟨k-1,za,rfl⟩,rfl⟩
theorem Pre.succ (d:Int) (l:List Hd) (k:Nat) (o:k<kN l) (h:Pre d l k):
  Pre d l (k+1)↔lastB l k<l[k].blk/\1<=l[k].st/\l[k].st<=d/\¬l[k].st∈(l.take k).map Hd.st:=by
 have q:=qLl d l k h za;have a:=qMd d l k h za;unfold Pre Good;rw[zEz l k o,qMl,qMe];obtain⟨g1,g2,g3⟩:=h;constructor
 .rintro⟨j,f,g⟩;have i:=j l[k] (List.mem_append_right _ (qRe.2 rfl));refine⟨?_,i.2.1,i.2.2,?_⟩
  .by_cases m:0<k
   .obtain⟨y,c,e⟩:=qNg l k za m;rw[<-e];exact f.2 y c
   .have b:k=0:=za
    subst b;have r:=i.1;rw[qKg];omega
  .intro p;obtain⟨y,c,e⟩:=qQg.1 p;exact g.2 y c e
 .rintro⟨j,f,g,n⟩;refine⟨fun y c=> ?_,⟨g2,fun y c=> ?_⟩,⟨g3,fun y c e=> ?_⟩⟩
  .rcases qSi.1 c with c|c
   .exact g1 y c
   .rw[qRe]at c;subst c;exact⟨za,f,g⟩
  .have:=a y c;omega
  .exact n (qQg.2 ⟨y,c,e⟩)
theorem Pre.mono (a:Int) (l:List Hd) (k:Nat) (h:Good a l):Pre a l k:=
 ⟨fun x b=>h.1 x (qUg b),h.2.1.sublist (List.take_sublist _ _),h.2.2.sublist (List.take_sublist _ _)⟩
theorem Pre.all (a:Int) (l:List Hd) (k:Nat) (b:kN l<=k) (h:Pre a l k):Good a l:=by
 unfold Pre at h;rwa[qQc b]at h
theorem qL2 (c:Sh) (h:¬(1<=c.room/\c.room<=64/\0<=c.clock/\c.clock<=qIf/\(kN c.held:Int)<=c.room)):right c=yI:=by
 rw[zGw];intro a;exact h ⟨a.1,a.2.1,a.2.2.1,a.2.2.2.1,a.2.2.2.2.1⟩
theorem right_stop (c:Sh) (k:Nat) (h:¬Pre c.clock c.held k):right c=yI:=by
 rw[zGw];intro a;exact h (Pre.mono _ _ k a.2.2.2.2.2)
theorem qH6 (w:yC) (o:Obj):(w.alloc o).heap.size=w.heap.size+1:=by simp
def Seen (w:yC) (b n:Nat) (xs:List Int):Prop:=w.ownsMap yK 3 (plainElem (H:=Unit) yK 4) b n (seen xs)
theorem zGf (c:Sh) (a:Option yF) (a0:Nat) (w:yC) (hm:kN c.held<=maxLen) (hs:qIg w a c.held):
  yG yK 117 #[zC7 c a a0] w fun e w'=>e=qx (qh (right c))/\yM w w w':=by
 obtain⟨f,d,l⟩:=c;unfold zC7;simp only at hs hm⊢;obtain⟨n,hn⟩:=zB (kN l);obtain⟨HS,Z⟩:=yU hs hn;rw[hn]at hm⊢;unfold maxLen at hm;have a8:= @run_makeMap yK;clear hs hn;by_cases hh:1<=f/\f<=64/\0<=d/\d<=1099511627776/\(n:Int)<=f
 .obtain⟨h1,h2,h3,h4,h5⟩:=hh;go_enter func117,ntmps117;go_wp2;go_loopw [4,37] (fun v i wr=>∃k:Nat,k<=n/\i=qX qm k/\v=qX qm (lastB l k)/\yL (Pre d l k)/\yL (Seen wr (w.heap.size+1) k ((l.take k).map Hd.st))/\yL (yM (w.heap.size+1) (w.alloc (qp #[qX qm f,qX qm d,qZ a n a0] TS)) wr)) (fun _ i _=>n-(intOf i).toNat)
  case atStart=>exact⟨0,za,rfl,by rw[qKg],zH (Pre.zero _ _),zH (by have h:=World.ownsMap_made (w.alloc (qp #[qX qm f,qX qm d,qZ a n a0] TS)) yK 3 (plainElem (H:=Unit) yK 4);rw[qH6]at h;exact h),zH ((yR _ _).alloc zm _)⟩
  case round=>
   obtain⟨k,hk,rfl,rfl,G,K,z⟩:=hrel;have c0:wr.cell? ⟨w.heap.size,1,yB⟩=yA (qX qm d):=by
    rw[z.out.cell (p:=⟨w.heap.size,1,yB⟩) zm];simp
   by_cases V:k<n
   .have r:k<kN l:=by rw[Z.out];exact V
    have I:qIg wr a l:=HS.out.below (((yR _ _).alloc (qPq _) _).trans (z.out.mono za)) rfl;obtain⟨b,off,ha,a6,e0,e1,e2⟩:=I.at_ k r;subst ha;obtain⟨Y,m⟩:=zB (l[k].blk);obtain⟨st,t⟩:=zB (l[k].st);obtain⟨tx,L⟩:=zB (l[k].txt);rw[m]at e0;rw[t]at e1;rw[L]at e2;have F:=zH (Pre.succ d l k r G.out);obtain⟨M,j⟩:=zB (lastB l k);rw[j,m,t]at F;rw[j];obtain⟨P,R,a5⟩:=yV m t j;clear m t L j I;have hz:w.heap.size+1<=wr.heap.size:=by have h:=z.out.size;rw[qH6]at h;exact h
    have a9:w.heap.size<wr.heap.size:=hz;have aa:¬w.heap.size=wr.heap.size:=za
    have no:∀w':yC,yM w w w'->¬(M<Y/\1<=st/\st<=d/\¬st∈(l.take k).map Hd.st)->Ending.returned (qh yI)=qx (qh (right ⟨f,d,l⟩))/\yM w w w':=by
     intro w' a4 a3;exact⟨zQi (right_stop ⟨f,d,l⟩ (k+1) (fun h=>a3 (F.out.1 h))).symm,a4⟩
    have NO:=zH no;clear no;have O:yM w w wr:=((yR _ _).alloc (qPq _) _).trans (z.out.mono za);have W:=zH O;clear O;have B:=zH (W.out.alloc za (qp #[qX qm Y,qX qm st,qY tx] TH));by_cases g1:M<Y
    .by_cases g2:1<=st/\st<=d
     .obtain⟨g2,g3⟩:=g2;have o:Seen (wr.alloc (qp #[qX qm Y,qX qm st,qY tx] TH)) (w.heap.size+1) k ((l.take k).map Hd.st):=World.ownsMap.alloc K.out _;have s:=qMn o st za za;have u:=qJn (x:=st) za za;obtain⟨HK,HO⟩:=yU u o;clear u o;by_cases y:st∈(l.take k).map Hd.st
      .rw[qQ y]at s;have g:=zH (NO.out _ B.out (fun h=>h.2.2.2 y));clear y;go_wp2;go_ret;exact g.out
      .rw[qP1 y]at s;have G4:=zH y;clear y;go_wp2_with (at_mapUpdate;refine wpList_mapUpdate_own _ rfl _ _ _ 275 rfl 3 4 (keyed _ underlying3) underlying275 (plainElem (H:=Unit) yK 4) (w.heap.size+1) k (seen ((l.take k).map Hd.st)) rfl HO.out (by unfold maxLen;omega) _ _ (Lk st) rfl rfl HK.out _ [] (plainElem_bool underlying4 yH) ?_;intro w1 a2 a1);obtain⟨S,X⟩:=yU a2 a1;clear a2 a1;go_wp2;go_roundw
       case rel=>
        refine⟨k+1,za,by go_num,?_,zH (F.out.2 ⟨g1,g2,g3,G4.out⟩),?_,?_⟩
        .rw[qL7 l k r,P.out]
        .rw[zEz l k r,qQb,qQe,qSp,R.out];refine zH ?_;unfold Seen;rw[qKo];exact S.out
        .exact zH (((z.out.alloc hz _)).grown X.out (by rw[qH6];omega) (fun q hq=>by injection hq with hq;omega))
       case measure=>exact qV
     .have g:=zH (NO.out _ B.out (fun h=>g2 ⟨h.2.1,h.2.2.1⟩));by_cases g5:1<=st
      .have g6:¬st<=d:=fun h=>g2 ⟨g5,h⟩;clear g2;go_wp2;go_ret;exact g.out
      .clear g2;go_wp2;go_ret;exact g.out
    .have g:=zH (NO.out _ B.out (fun h=>g1 h.1));go_wp2;go_ret;exact g.out
   .go_wp2;go_ret;refine⟨zQi ?_,?_⟩
    .exact((zIu _).2 ⟨h1,h2,h3,h4,by simp only[Z.out];exact h5,Pre.all d l k (by rw[Z.out];omega) G.out⟩).symm
    .exact((yR _ _).alloc (qPq _) _).trans (z.out.mono za)
 .have N:right ⟨f,d,l⟩=yI:=qL2 _ (by simp only[Z.out];exact hh);rw[N];clear N;have a7:=hh;clear hh;go_enter func117,ntmps117;go_wp2
  all_goals first
   |(exfalso;omega)
   |(go_ret;exact⟨rfl,(Below.refl _ _).alloc (qPq _) _⟩)
end Cache
namespace Cache
theorem qK5 (x:Hd):∀l:List Hd,(∀y∈l,y.blk<x.blk)->put x l=l++[x]
 |[],_=>rfl
 |y::r,h=>by
  unfold put;rw[qPr (h y zm),qK5 x r (fun z a=>h z (by simp[a]))];rfl
def Wf (l:List Hd):Prop:=∀h∈l,-9223372036854775808<=h.blk/\h.blk<=9223372036854775807
theorem zXe (c:Sh) (a:Option yF) (K:Nat) (w:yC) (R:kN c.held<=1000) (N:qId c.held) (L:Wf c.held) (O:qIg w a c.held):
  yG yK 289 #[zC7 c a K] w fun e w'=>∃b,e=qx (.map (yA b))/\w.heap.size<=b/\qIc w' b (kN c.held) c.held/\yM w w w':=by
 obtain⟨o,d,l⟩:=c;unfold zC7;simp only at O R N L⊢;obtain⟨n,M⟩:=zB (kN l);obtain⟨V,P,S,G⟩:=yX O M N L;rw[M]at R⊢;have a1:= @run_makeMap yK;clear O M N L;go_enter func289,ntmps289;go_wp2;go_loopw [10] (fun i wr=>∃k:Nat,k<=n/\i=qX qm k/\yL (qIc wr (w.heap.size+1) k (l.take k))/\yL (yM (w.heap.size+1) (w.alloc (qp #[qX qm o,qX qm d,qZ a n K] TS)) wr)) (fun i _=>n-(intOf i).toNat)
 case atStart=>exact⟨0,za,rfl,zH (by have h:=qIc.start (w.alloc (qp #[qX qm o,qX qm d,qZ a n K] TS));rw[qH6]at h;exact h),zH ((yR _ _).alloc zm _)⟩
 case round=>
  obtain⟨k,hk,rfl,t,z⟩:=hrel;have hz:w.heap.size+1<=wr.heap.size:=by have h:=z.out.size;rw[qH6]at h;exact h
  by_cases F:k<n
  .have g:k<kN l:=by rw[P.out];exact F
   have p:qIg wr a l:=V.out.below (((yR _ _).alloc (qPq _) _).trans (z.out.mono za)) rfl;obtain⟨b,off,ha,a0,Y,Z,e2⟩:=p.at_ k g;subst ha;obtain⟨x,q⟩:=zB (l[k]);rw[q]at Y Z e2;have j:x∈l:=by rw[<-q];exact qP9 _
   obtain⟨W,X⟩:=G.out x j;have m:put x (l.take k)=l.take (k+1):=by
    rw[zEz l k g,q];refine qK5 x _ (fun y hy=> ?_);obtain⟨i,hi,rfl⟩:=qUk.1 hy;rw[<-q];exact qSf.1 S.out i k za g za
   obtain⟨w1,s,f,r⟩:=(t.out.alloc (qp #[qX qm x.blk,qX qm x.st,qY x.txt] TH)).store x W X za;rw[m]at f;have u:yM (w.heap.size+1) (wr.alloc (qp #[qX qm x.blk,qX qm x.st,qY x.txt] TH)) w1:=qI5 r (qPq _) (by rw[qH6];omega);obtain⟨I,H⟩:=yU f u;clear f u r m j q p;unfold hval at s;go_wp2_with (at_mapUpdate;refine qK0 rfl _ _ _ 416 rfl rfl rfl rfl s ?_);go_roundw
   case rel=>exact⟨k+1,za,by go_num,I,zH ((z.out.alloc hz _).trans H.out)⟩
   case measure=>exact qV
  .have B:k=n:=za
   subst B;go_wp2;go_ret;refine⟨_,rfl,za,?_,((yR _ _).alloc (qPq _) _).trans (z.out.mono za)⟩;have h:=t.out;rwa[qQc (by rw[P.out];omega)]at h
end Cache
namespace Cache
open Go.Shelf
variable {W:yC} {B n₀:Nat}
attribute [local go_sem] Oper.semAt_some
abbrev qIk (x:Hd):Obj:=qp #[qX qm x.blk,qX qm x.st,qY x.txt] TH
def qIo (W:yC) (B:Nat) (x:Hd):Prop:=W.heap[B]? =yA (qIk x)
theorem qIo.new (W:yC) (x:Hd):qIo (W.alloc (qIk x)) W.heap.size x:=World.alloc_heap_new W _
theorem qIo.own (B d:Nat) (x:Hd):OwnFrom d (fun(_:Unit) W=>qIo W B x):=fun s X Y row a g c=>by
 refine(g.block B (qQ7.1 a).1 (fun e=> ?_)).trans a;obtain⟨_,o,b,f⟩:=c B e.symm;rw[show X.heap[B]? =_ from a]at b;cases b;cases f
theorem qIo.alloc {x:Hd} (h:qIo W B x) (o:Obj):qIo (W.alloc o) B x:=(Below.heap_alloc W o B (qQ7.1 h).1).trans h
theorem qIo.at_ {x:Hd} (h:qIo W B x):W.cell? ⟨B,0,yB⟩=yA (qX qm x.blk)/\W.cell? ⟨B,1,yB⟩=yA (qX qm x.st)/\W.cell? ⟨B,2,yB⟩=yA (qY x.txt):=by
 refine⟨?_,?_,?_⟩<;>simp[yQ,show W.heap[B]? =_ from h]
theorem qIo.lt {x:Hd} (h:qIo W B x):B<W.heap.size:=(qQ7.1 h).1
theorem qIo.src {x:Hd} (h:qIo W B x):qIg W (yA ⟨B,0,yB⟩) [x]:=by
 intro j y a
 match j,a with
 |0,a=>
  simp at a;subst a;obtain⟨b,c,d⟩:=h.at_;exact⟨B,0,rfl,b,c,d⟩
def KpW (n₀:Nat) (W W':yC):Prop:=yM n₀ W W'/\KeepsWalks W W'
theorem qLw (n n₀ Bs:Nat) (hn:1<=n) (a:Option yF) (m N:Nat) (l:List Hd) (Y:kN l=m) (a3:m<=100000) (w:yC) (M:qIg w a l) (a5:n₀<=w.heap.size) (O:∀b c,a=yA ⟨b,c,yB⟩->0<m->b<n₀) (Z:Bs<w.heap.size)
  (L:w.cell? ⟨Bs,0,yB⟩=yA (qZ a m N)):
  SeqStopsK Fence.wide n yK 205 #[qc (yA ⟨Bs,0,yB⟩)] (fun x:Hd=> #[hval x]) (KpW n₀) (fun ys=>ys=l) (fun _=>True) m w:=by
 intro lp J Jx W q R a0 V P;refine qS8 func205 rfl trivial ?_ rfl;simp only[ntmps205,qQ2,qP4,qQy,Nat.reduceAdd,Nat.reduceSub,qR,qRa,qRb,qRc,qQm,qQs];have a2:W.cell? ⟨Bs,0,yB⟩=yA (qZ a m N):=by rw[q.cell (p:=⟨Bs,0,yB⟩) Z];exact L
 have t:qIg W a l:=M.below q rfl;have a4:n₀<=W.heap.size:=by have:=q.size;omega
 obtain⟨HS,HJ,HY,H0,HM,H⟩:=yZ t R V P Y O;clear t R V P M a0 q L O Y;gi_wp2;gi_loopw [7] (fun i wr=>∃k:Nat,k<=m/\i=qX qm k/\yL (J (l.take k) wr)/\yL (yM n₀ W wr)/\W.heap.size<=wr.heap.size) (fun i _=>m-(intOf i).toNat)
 case atStart=>exact⟨0,za,rfl,H0,zH (yR _ _),qPq _⟩
 case round=>
  obtain⟨k,hk,rfl,o,y,hz⟩:=hrel;by_cases I:k<m
  .have j:k<kN l:=by rw[HM.out];exact I
   obtain⟨x,z⟩:=zB (l[k]);obtain⟨b,c,X,c0,c1,c2⟩:=HS.out k x (by rw[qPu j,z]);have f:=H.out b c X za;subst X;have e0:wr.cell? ⟨b,c+k*3,yB⟩=yA (qX qm x.blk):=by rw[y.out.cell (p:=⟨b,c+k*3,yB⟩) f];exact c0
   have e1:wr.cell? ⟨b,c+k*3+1,yB⟩=yA (qX qm x.st):=by rw[y.out.cell (p:=⟨b,c+k*3+1,yB⟩) f];exact c1
   have e2:wr.cell? ⟨b,c+k*3+2,yB⟩=yA (qY x.txt):=by rw[y.out.cell (p:=⟨b,c+k*3+2,yB⟩) f];exact c2
   have a1:b<wr.heap.size:=qQk e0;clear c0 c1 c2;have g:J (l.take k) (wr.alloc (qIk x)):=HJ.out _ wr _ yB o.out (qR4 wr _ yB) (fun r e=>by cases e);obtain⟨fn,tmps,assign,body,hy,S⟩:=HY.out (l.take k) x (wr.alloc (qIk x)) g (by rw[qQh];omega);obtain⟨HR,HX⟩:=yU S z;clear S z g;unfold hval at hy;gi_wp2;refine HR.out.mono ?_;rintro e W3 (⟨rfl,s,u⟩|⟨rfl,d⟩)
   .obtain⟨K,B⟩:=yU s u;clear s u;gi_wp2;go_roundw
    case rel=>
     refine⟨k+1,za,by go_num,?_,zH (y.out.trans (((yR _ wr).alloc za _).trans B.out.1)),?_⟩
     .rw[zEz l k j,HX.out];exact K
     .have h:=B.out.2.size;rw[qH6]at h;omega
    case measure=>exact qV
   .have G:=zH d;clear d;gi_wp2;refine qP5 (qSx rfl _ _ _) rfl ?_;exact⟨⟨_,rfl⟩,qy ⟨_,trivial,G.out⟩⟩
  .have F:k=m:=za
   subst F;gi_wp2;go_end0;refine⟨⟨_,rfl⟩,qz ⟨_,rfl,?_⟩⟩;have h:=o.out;rwa[qQc (by rw[HM.out];omega)]at h
def Came (l:List Hd) (left:Lit->Bool) (a:List Hd):Prop:=a.Nodup/\∀h,h∈a↔(h∈l/\left (Lk h.blk)=yI)
theorem Came.start {D:DW} {l:List Hd} (hd:qIy D l):Came l (Go.Maps.has D) []:=by
 refine⟨List.nodup_nil,fun h=> ?_⟩;rw[hd.has];constructor
 .intro a;cases a
 .rintro⟨a,e⟩;rw[qIr hd.rise a rfl]at e;cases e
theorem Came.step {D:DW} {l m:List Hd} {left:Lit->Bool} (h:Came l left m) (hd:qIy D l) {x:Hd} {f:Int} (o:left (Lk f)=yH) (n:∀z,D.atKey (Lk f) z=hdat x):
  x.blk=f/\Came l (fun z=>left z&& !z.sameKey (Lk f)) (m++[x]):=by
 have i:find f l=yA x:=by
  have d:=n (.nil);rw[hd.at_]at d;cases i:find f l with
  |none=>rw[i]at d;cases d
  |some y=>rw[i]at d;rw[qJu d]
 obtain⟨r,g⟩:=qIb i;refine⟨g,?_⟩;subst g;have c:x∉m:=fun q=>by have:=((h.2 x).1 q).2;rw[o]at this;cases this
 refine⟨List.nodup_append.2 ⟨h.1,zm,fun a p b g=>by simp at g;subst g;exact fun e=>c (e▸p)⟩,fun y=> ?_⟩;show _↔y∈l/\(left (Lk y.blk)&& !(Lk y.blk).sameKey (Lk x.blk))=yI;rw[qSi,qRe,h.2 y,qM8];constructor
 .rintro(⟨d,k⟩|rfl)
  .exact⟨d,by rw[k];rfl⟩
  .exact⟨r,zm⟩
 .rintro⟨d,k⟩;by_cases e:y.blk=x.blk
  .right;have j:=qIr hd.rise d e;rw[i]at j;injection j with j
   exact j.symm
  .left;rw[qP1 e]at k;exact⟨d,by simpa using k⟩
theorem Came.done {l a:List Hd} {left:Lit->Bool} (h:Came l left a) (c:qId l) (b:∀k,left k=yI):a.Perm l:=by
 refine(List.perm_ext_iff_of_nodup h.1 ?_).2 (fun x=>by rw[h.2 x,b];simp);rw[List.nodup_iff_pairwise_ne];exact c.imp fun h e=>by rw[e]at h;omega
theorem qOn (a:yD) (b:Lit) (h:keyOf yK 3 a=yA b):∃x,a=qX qm x:=by
 obtain⟨x,rfl,_⟩:=Go.Maps.keyOf_int_inv underlying3 h;exact⟨x,rfl⟩
theorem qO1 {x:Int} {a:Lit} (h:keyOf yK 3 (qX qm x)=yA a):a=Lk x:=by
 obtain⟨y,e,rfl,_⟩:=Go.Maps.keyOf_int_inv underlying3 h;cases e;rfl
theorem qLj (n n₀ Bs b M:Nat) (hn:1<=n) (l:List Hd) (w:yC) (R:qIc w b M l) (ad:n₀<=w.heap.size) (a4:Bs<w.heap.size) (V:w.cell? ⟨Bs,0,yB⟩=yA (.map (yA b))):
  SeqStopsK Fence.wide n yK 347 #[qc (yA ⟨Bs,0,yB⟩)] (fun x:Hd=> #[hval x]) (KpW n₀) (fun ys=>ys.Perm l) (fun _=>True) (kN l) w:=by
 intro lp J Jx W L hJ a5 hY h0;refine qS8 func347 rfl trivial ?_ rfl;simp only[ntmps347,qQ2,qP4,qQy,Nat.reduceAdd,Nat.reduceSub,qR,qRa,qRb,qRc,qQm,qQs];have aa:W.cell? ⟨Bs,0,yB⟩=yA (.map (yA b)):=by rw[L.cell (p:=⟨Bs,0,yB⟩) a4];exact V
 obtain⟨D,o,hd⟩:=R.below L (qPq _);have ac:n₀<=W.heap.size:=by have:=L.size;omega
 obtain⟨N,HY,H0,z⟩:=yX hJ hY h0 hd;clear hd hJ hY h0 a5 L V R;gi_wp2_with (first
  |(gi_at_range;refine wpListIn_range_own _ rfl _ 416 rfl 3 TH dk underlying416 qJh b M D rfl o ?_;intro w0 a3 a7 ae)
  |gi_in)
 gi_loopw [4] (fun _ wr=>∃(left:Lit->Bool) (cnt:Nat) (q:List Hd),yL (wr.ranges yK 3 qJh b W.heap.size M D left cnt)/\yL (kN q+cnt<=kN l)/\yL (Came l left q)/\yL (J q wr)) (fun _ wr=>wr.rangeLeft b W.heap.size)
 case atStart=>
  exact⟨_,_,[],zH a3,zH (by rw[z.out.size];simp),zH (Came.start z.out),zH (N.out [] W w0 yB H0.out a7 (fun r e=>by cases e))⟩
 case round=>
  obtain⟨left,cnt,q,c,g,hC,i⟩:=hrel;gi_wp2_with (first
   |(gi_at_next;refine wpListIn_next_ranges _ rfl _ rfl 3 dk qJh (Value.int qm) hval qOn (fun v y hv=>by obtain⟨x,e,_⟩:=qJ4 hv;exact⟨x,e⟩) b W.heap.size M _ _ _ rfl c.out ?_ ?_)
   |gi_in)
  .intro ab a8;gi_wp2;go_end0;exact⟨⟨_,rfl⟩,qz ⟨q,hC.out.done z.out.rise a8,i.out⟩⟩
  .intro xk x kl yd yp w2 S X a1 hv Z Y a2 a0 a9 a6;have G:=qO1 X;subst G;obtain⟨x',O,P⟩:=qJ4 hv;have O:=qNj O;subst O;injection P with P _
   subst P;obtain⟨K,j⟩:=hC.out.step z.out a1 Z;subst K;have k:J q w2:=N.out q wr w2 (yA W.heap.size) i.out a0 (fun r e=>by cases e;exact⟨qPq _,c.out.iter_walk⟩);have a:J q (w2.alloc (qIk x)):=N.out _ w2 _ yB k (qR4 w2 _ yB) (fun r e=>by cases e);obtain⟨fn,tmps,assign,body,hy,hR⟩:=HY.out q x (w2.alloc (qIk x)) a (by have:=g.out;omega);obtain⟨HR,I,u,t,F⟩:=yY hR j c (Y.of_walks (KeepsWalks.alloc w2 (qIk x))) a2;have s:yL (kN (q++[x])+S<=kN l):=zH (by have:=g.out;simp;omega);clear a9 hR j c a2 k a Y X Z hv a1 a0 g;unfold hval at hy a6;gi_wp2;refine HR.out.mono ?_;rintro e W3 (⟨rfl,a,m⟩|⟨rfl,f⟩)
   .have H:=zH a;have h:=t.out.of_walks m.2;have d:=zH h;clear a h m;gi_wp2;go_roundw
    case rel=>exact⟨_,S,q++[x],d,s,I,H⟩
    case measure=>rw[d.out.left_eq,u.out.out.left_eq];exact F.out
   .have B:=zH f;clear f;gi_wp2;refine qP5 (qSx rfl _ _ _) rfl ?_;exact⟨⟨_,rfl⟩,qy ⟨_,trivial,B.out⟩⟩
theorem qOz {A B C:yC} (h:KpW n₀ A B) (k:KpW n₀ B C):KpW n₀ A C:=⟨h.1.trans k.1,h.2.trans k.2⟩
theorem qO0 {w:yC} (e:n₀<=w.heap.size) (W:yC) (l:Nat) (o a:Obj) (d:w.heap.size<=l) (h:W.heap[l]? =yA o) (b:o.isCells=yI) (c:o.isWalk=yI):KpW n₀ W (W.putObj l a):=
 ⟨belowK_b e W l o a d h b c,walksK_b W l o a d h b c⟩
def Coll (n₀ B:Nat) (pre:List Hd) (W:yC):Prop:=∃v,Boxed W B 34 v/\W.ownsRow n₀ TH 3 v (kN pre) (flat pre)/\True
theorem qNr (n₀ B:Nat):Own (Coll n₀ B):=holdsRow_own n₀ B 34 TH 3 (fun pre:List Hd=>kN pre) (fun pre=>flat pre) (fun _ _=>True)
theorem qKx (g:Nat) (lb:Array yD) (S:List Hd->Prop) (N:Nat) (hN:N<=1000) (w:yC) (eg:∀args w,(callFunc g args).run yK w= .ok (.enter g args) w)
  (a1:SeqStopsK Fence.wide 2 yK g lb (fun x:Hd=> #[hval x]) (KpW w.heap.size) S (fun _=>True) N w):
  yG yK 260 #[qZ yB 0 0,.func (.func g) #[] lb] w fun e w'=>∃a n c l,e=qx (qZ a n c)/\S l/\qI w' w.heap.size a n c l/\yM w w w':=by
 refine(qQi (n:=3)).1 ?_;refine callsIn_of_wp_marks func260 rfl trivial ?_ rfl;simp only[ntmps260,qQ2,qP4,qQy,Nat.reduceAdd,Nat.reduceSub,qR,qRa,qRb,qRc,qQm,qQs];obtain⟨G,EG⟩:=yU a1 eg;clear a1 eg;gi_wp2;have f:yM w w (w.alloc (qp #[qZ yB 0 0] 34)):=(yR _ _).alloc (qPq _) _;refine wpIn_rangeFunc_ownH (F:=Fence.wide) (n:=3) rfl za (gf:=g) (lb:=lb) rfl trivial EG.out G.out qOz (qO0 (by rw[qH6];omega)) f (fun _=>rfl)
  (fun pre W=>Coll w.heap.size w.heap.size pre W/\yM w w W) (fun _ _ _=>False)
  (OwnFrom.and (Own.from (qNr _ _) _) (ownFrom_below (qPq _) (by rw[qH6];omega))) (fun _ _ _ _ _ hs _ _=>hs)
  ⟨⟨_,Boxed.new w _ _,by have h:=(qI.start w w.heap.size).alloc (qp #[qZ yB 0 0] 34);exact h,trivial⟩,f⟩
  (fun x a' W=>∃Bx,w.heap.size+1<=Bx/\qIo W Bx x/\a'={tmps:= #[qZ yB 0 0,.func (.func g) #[] lb,qc (yA ⟨w,0,yB⟩),yN,qZ yB 0 0,qc (yA ⟨Bx,0,yB⟩),.func (.func g) #[] lb,hval x,yN,yN,yN,yN,yN],defers:=[]})
  (fun x a'=>by
   rintro s X Y row ⟨Bx,h1,h2,h3⟩ hg Z;exact⟨Bx,h1,qIo.own Bx _ x () X Y row h2 hg Z,h3⟩) ?assign ?body ?done ?stop
 case assign=>
  rintro l pre x W K ⟨⟨v,hv,b,_⟩,q⟩ y;have ab:=hv.lt;unfold hval at*;gi_wp2;exact y _ _ ((KeepsOthers.alloc _ _).from _) ⟨(yR _ W).alloc q.size _,KeepsWalks.alloc _ _⟩ ⟨⟨v,hv.alloc _,b.alloc _,trivial⟩,q.alloc q.size _⟩ ⟨W.heap.size,za,qIo.new W x,rfl⟩
 case body=>
  rintro l pre x a' W hl ⟨r,Z⟩ ⟨⟨v,hv,b,_⟩,q⟩ ⟨Bx,a8,V,rfl⟩ a4;obtain⟨i0,hi,p,t,k⟩:=qRv qNx;obtain⟨x0,x1,x2⟩:=V.at_;have I:=hv.cell;have ac:=hv.frozen;have a5:=hv.lt;have a6:=V.lt;have H:=yT (∀j u,(hcells x)[j]? =yA u->(W.alloc (qIk x)).cell? ((⟨W,0,yB⟩:yF).add j)=yA u) (fun j u hu=>(qIo.new W x).src.cells j u (by rw[qKd];exact hu));obtain⟨d,i,HV,HB,HI,P,R,O⟩:=yh (b.alloc (qIk x)) b hv q hi p t k;clear b hv Z V hi p t k q f;unfold hval;gi_wp2_with (gi_at_builtin;refine wpListIn_append_own _ rfl _ _ 34 rfl w.heap.size TH i0 _ 3 32 underlying34 HI.out P.out R.out O.out rfl qW _ _ _ rfl d.out ⟨W,0,yB⟩ 1 1 (hcells x) rfl rfl H.out (by rw[<-qKd];exact zPj _) (by unfold maxLen;omega) za (by rw[qH6];omega) ?_;intro v' w1 a0 a2 _;obtain⟨g',a3,rfl⟩:=ownsRow_succ a0;obtain⟨o,M,L,m,B⟩:=HV.out.appended qW i.out HB.out.size (qPq _) a0 a2;have a9:=o.cell;have aa:=o.frozen);exact⟨m.from _,⟨B,m.walks⟩,⟨_,M,by rw[qMr,qP0];exact L,trivial⟩,HB.out.trans B⟩
 case done=>
  rintro D ys W hD hS ⟨⟨v,hv,b,_⟩,q⟩ y;obtain⟨a',c',rfl⟩:∃a' c',v=qZ a' (kN ys) c':=by
   rcases Joins.ownsRow_forms b with⟨rfl,h0⟩|⟨g,a7,rfl⟩
   .rw[h0];exact⟨_,_,rfl⟩
   .exact⟨_,_,rfl⟩
  have I:=hv.cell;obtain⟨HS,d,HB,z⟩:=yX hS b q y;clear hS b q f y;gi_wp2;refine⟨zm,qz ⟨_,_,rfl,run_takeDeferred z.out,?_⟩⟩;exact⟨_,results_tmp rfl _ _ _,_,_,_,_,rfl,HS.out,ownsRow_putObj d.out _ z.out rfl,HB.out.trans (belowK_b (w:=w) (qPq _) W D _ _ (by rw[qH6]at hD;omega) z.out rfl rfl)⟩
 case stop=>
  rintro D c pre W _ _ h _;exact h.elim
end Cache
namespace Cache
open Go.Shelf
theorem zS5 (g:Nat) (lb:Array yD) (S:List Hd->Prop) (N:Nat) (o:N<=1000) (w:yC) (d:∀args w,(callFunc g args).run yK w= .ok (.enter g args) w)
  (b:SeqStopsK Fence.wide 2 yK g lb (fun x:Hd=> #[hval x]) (KpW w.heap.size) S (fun _=>True) N w):
  yG yK 203 #[.func (.func g) #[] lb] w fun e w'=>∃a n c l,e=qx (qZ a n c)/\S l/\qI w' w.heap.size a n c l/\yM w w w':=by
 have H:=zH (qKx g lb S N o w d b);clear d b;go_enter func203,ntmps203;go_wp2_with fail;refine H.out.mono ?_;rintro e p ⟨a,n,c,l,rfl,f,h,i⟩;obtain⟨j,k,m⟩:=yV f h i;clear f h i;go_wp2;go_ret;exact⟨a,n,c,l,rfl,j.out,k.out,m.out⟩
theorem qLx (a:Option yF) (n c:Nat) (w:yC):
  yG yK 166 #[qZ a n c] w fun e w'=>e=qx (.func (.func 205) #[] #[qc (yA ⟨w,0,yB⟩)])/\w'=w.alloc (qp #[qZ a n c] 34):=by
 go_enter func166,ntmps166;go_wp2;go_ret;exact⟨rfl,rfl⟩
theorem qLk (b:Option Nat) (w:yC):
  yG yK 322 #[.map b] w fun e w'=>e=qx (.func (.func 347) #[] #[qc (yA ⟨w,0,yB⟩)])/\w'=w.alloc (qp #[.map b] TD):=by
 go_enter func322,ntmps322;go_wp2;go_ret;exact⟨rfl,rfl⟩
abbrev TSo:yE:=208
theorem qMb (x:Hd) (w:yC):
  yG yK 164 #[hval x] w fun e w'=>e=qx (qX qm (wrap64 (-x.st)))/\w'=w.alloc (qIk x):=by
 obtain⟨a,xs,b⟩:=x;unfold hval qIk;simp only;go_enter func164,ntmps164;go_wp2;go_ret;exact⟨rfl,rfl⟩
theorem qLf (x:Hd) (w:yC):
  yG yK 346 #[hval x] w fun e w'=>e=qx (qX qm x.blk)/\w'=w.alloc (qIk x):=by
 obtain⟨a,xs,b⟩:=x;unfold hval qIk;simp only;go_enter func346,ntmps346;go_wp2;go_ret;exact⟨rfl,rfl⟩
end Cache
namespace Cache
variable {clock b:Int} {k n:Nat} {g:Nat->ByteArray}
theorem qK4 (h:Hd):∀(l:List Hd),qId l->(put h l).Perm (h::drop h.blk l)
 |[],_=>qTu _
 |x::r,hr=>by
  have hd:(∀y∈r,y.blk≠h.blk)->drop h.blk r=r:=fun c=>qI9 r h.blk c;unfold put;split
  .rename_i h1
   rw[show drop h.blk (x::r)=x::drop h.blk r by unfold drop;rw[qTk,qPr zq]];exact(List.Perm.cons x (qK4 h r hr.tail)).trans (List.Perm.swap h x _)
  .split
   .rename_i h1 h2
    rw[show drop h.blk (x::r)=r by
     unfold drop;rw[qTk,qPt (by simp[h2])];exact hd (fun y a=>by have:=hr.head y a;omega)]
   .rename_i h1 h2
    rw[show drop h.blk (x::r)=x::r by
     exact qI9 _ _ (fun y a=>by
      rcases qP6.1 a with rfl|a
      .exact h2
      .have:=hr.head y a;omega)]
theorem Apart.drop {l:List Hd} (h:Apart l) (b:Int):Apart (drop b l):=List.Pairwise.filter _ h
theorem qMf {l m:List Hd} (h:l.Perm m) (a:Apart m):Apart l:=(qUj (fun h=>qQ4 h) h).2 a
theorem Apart.put {l:List Hd} (a:Apart l) (d:qId l) (h:Hd) (c:∀x∈l,x.st≠h.st):Apart (put h l):=
 qMf (qK4 h l d) (qQ3.2 ⟨fun x e=>qQ4 (c x (qI1.1 e).1),a.drop _⟩)
theorem Good.put {l:List Hd} (j:Good clock l) (o:0<=clock) (b:Int) (i:0<=b) (t:ByteArray):Good (clock+1) (put ⟨b,clock+1,t⟩ l):=by
 obtain⟨d,c,h⟩:=j;refine⟨fun x a=> ?_,c.put _,h.put c _ (fun x a=> ?_)⟩
 .rcases(qIs _ l c x).1 a with rfl|⟨a,_⟩
  .exact⟨i,by show 1<=clock+1;omega,by show clock+1<=clock+1;omega⟩
  .obtain⟨e,f,m⟩:=d x a;exact⟨e,f,za⟩
 .have:=(d x a).2.2;show x.st≠clock+1;omega
theorem Good.drop {l:List Hd} (a:Good clock l) (b:Int):Good clock (drop b l):=
 ⟨fun x c=>a.1 x (qI1.1 c).1,a.2.1.drop b,a.2.2.drop b⟩
theorem qKa {c:Sh} (j:Right c) (l:c.clock<qIf) (g b:Int) (i:0<=b) (t:ByteArray) (a:(kN (put ⟨b,c.clock+1,t⟩ (drop g c.held)):Int)<=c.room):Right (after c (drop g c.held) b t):=by
 obtain⟨d,e,f,m,o,h⟩:=j;exact⟨d,e,by show 0<=c.clock+1;omega,by show c.clock+1<=qIf;omega,a,(h.drop g).put f b i t⟩
theorem qL5 (h:Hd) (l:List Hd) (a:qId l):kN (put h l)<=kN l+1:=by
 rcases qIu h l a with⟨e,_⟩|⟨e,_⟩<;>omega
theorem qI7 {c:Sh} (a:Right c):drop (-1) c.held=c.held:=qI9 _ _ (fun x d=>by have:=(a.2.2.2.2.2.1 x d).1;omega)
theorem qK7 {c:Sh} (a:Right c):order c=(ord c.held).map Hd.blk:=by unfold order;rw[qPr ((zIu c).2 a)]
theorem qLq {l:List Hd} {x:Hd}:x∈ord l↔x∈l:=(qJd l).mem_iff
theorem qMm {c:Sh} (a:Right c) (b:Int):b∈order c↔∃h,find b c.held=yA h:=by
 rw[qK7 a,qQg];constructor
 .rintro⟨x,i,rfl⟩;exact⟨x,qIr a.2.2.2.2.2.2.1 (qLq.1 i) rfl⟩
 .rintro⟨h,f⟩;obtain⟨d,e⟩:=qIb f;exact⟨h,qLq.2 d,e⟩
theorem qKq {c:Sh} (a:Right c):kN (order c)=kN c.held:=by rw[qK7 a,qQj,qJr]
theorem qKt {c:Sh} (h:¬(find b c.held=yB/\(kN c.held:Int)=c.room)):goes c b= -1:=by
 unfold goes;rw[qPt];rintro⟨a,d⟩;refine h ⟨?_,d⟩;cases hf:find b c.held with
 |none=>rfl
 |some x=>rw[hf]at a;cases a
theorem qMq {c:Sh} (a:Right c) (f:find b c.held=yB) (h:(kN c.held:Int)=c.room):∃hne:order c≠[],goes c b=(order c).getLast hne:=by
 have d:=qKq a;have hne:order c≠[]:=by
  intro e;rw[e]at d;simp at d;have:=a.1;omega
 refine⟨hne,?_⟩;unfold goes;rw[qPr ⟨by rw[f];rfl,h⟩,List.getLastD_eq_getLast?,List.getLast?_eq_some_getLast hne];rfl
theorem qNi {c:Sh} (f:Right c) (b:Int) (t:ByteArray):(kN (put ⟨b,c.clock+1,t⟩ (drop (goes c b) c.held)):Int)<=c.room:=by
 have i:=f.2.2.2.2.2.2.1;have l:=f.2.2.2.2.1;by_cases h:find b c.held=yB/\(kN c.held:Int)=c.room
 .obtain⟨hne,m⟩:=qMq f h.1 h.2;have o:goes c b∈order c:=by rw[m];exact List.getLast_mem hne
  obtain⟨x,q⟩:=(qMm f _).1 o;obtain⟨d,a⟩:=qIb q;have u:kN (drop (goes c b) c.held)<kN c.held:=by
   unfold drop;refine List.length_filter_lt_length_iff_exists.2 ⟨x,d,by simp[a]⟩
  have:=qL5 ⟨b,c.clock+1,t⟩ _ (i.drop (goes c b));omega
 .rw[qKt h,qI7 f];rcases qIu ⟨b,c.clock+1,t⟩ c.held i with⟨e,_⟩|⟨e,p⟩
  .rw[e];exact l
  .have:find b c.held=yB:=by
    cases hf:find b c.held with
    |none=>rfl
    |some x=>obtain⟨r,s⟩:=qIb hf;exact absurd s (p x r)
   have:¬(kN c.held:Int)=c.room:=fun j=>h ⟨this,j⟩;rw[e];omega
theorem qN9 {c:Sh} (d:Right c) (e:c.clock<qIf) (b:Int) (a:0<=b) (t:ByteArray):keep c b t=(goes c b,after c (drop (goes c b) c.held) b t,0):=by
 unfold keep;rw[qPr ⟨(zIu c).2 d,a⟩,qPt za]
theorem qL8 {c:Sh} (a:Right c) (d:c.clock<qIf) (b:Int) (e:0<=b) (t:ByteArray):Right (after c (drop (goes c b) c.held) b t):=qKa a d _ b e t (qNi a b t)
theorem take_len {c:Sh} (a:Right c) {h:Hd} (d:find b c.held=yA h) (t:ByteArray):(kN (put ⟨b,c.clock+1,t⟩ c.held):Int)<=c.room:=by
 obtain⟨i,j⟩:=qIb d;rcases qIu ⟨b,c.clock+1,t⟩ c.held a.2.2.2.2.2.2.1 with⟨e,_⟩|⟨e,f⟩
 .rw[e];exact a.2.2.2.2.1
 .exact absurd j (f h i)
theorem qLm {c:Sh} (a:Right c) {h:Hd} (d:find b c.held=yA h):0<=b:=by
 obtain⟨e,f⟩:=qIb d;rw[<-f];exact(a.2.2.2.2.2.1 h e).1
theorem qNz {c:Sh} (a:Right c) (e:c.clock<qIf) {h:Hd} (d:find b c.held=yA h):take c b=(h.txt,after c c.held b h.txt,0):=by
 unfold take;rw[qPr ((zIu c).2 a),d];simp only;rw[qPt za]
theorem qMh {c:Sh} (a:Right c) (d:find b c.held=yB):take c b=(⟨#[]⟩,zero,5):=by
 unfold take;rw[qPr ((zIu c).2 a),d]
theorem qLy {c:Sh} (a:Right c) (e:c.clock<qIf) {h:Hd} (d:find b c.held=yA h) (t:ByteArray):Right (after c c.held b t):=by
 have:=qKa a e (-1) b (qLm a d) t (by rw[qI7 a];exact take_len a d t);rwa[qI7 a]at this
theorem qKn {c:Sh} (a:Right c) (b:Int):((take c b).2.2=0/\∃h,find b c.held=yA h/\c.clock<qIf/\take c b=(h.txt,after c c.held b h.txt,0))\/((take c b).2.2≠0/\(find b c.held=yB\/c.clock=qIf)):=by
 cases hf:find b c.held with
 |none=>rw[qMh a hf];exact qy ⟨qW,qz rfl⟩
 |some h=>
  by_cases e:c.clock<qIf
  .rw[qNz a e hf];exact qz ⟨rfl,h,rfl,e,rfl⟩
  .have f:=a.2.2.2.1;have d:c.clock=qIf:=za
   refine qy ⟨?_,qy d⟩;unfold take;rw[qPr ((zIu c).2 a),hf];simp only;rw[qPr d];decide
theorem qKs {c:Sh} (a:Right c) (b:Int) (d:0<=b) (t:ByteArray):((keep c b t).2.2=0/\c.clock<qIf/\(keep c b t).2.1=after c (drop (goes c b) c.held) b t)\/((keep c b t).2.2≠0/\c.clock=qIf):=by
 by_cases f:c.clock<qIf
 .rw[qN9 a f b d t];exact qz ⟨rfl,f,rfl⟩
 .have h:=a.2.2.2.1;have e:c.clock=qIf:=za
  refine qy ⟨?_,e⟩;unfold keep;rw[qPr ⟨(zIu c).2 a,d⟩,qPr e];decide
theorem qJq:∀(l:List Hd) (lo n:Int),qId l->(∀h∈l,lo<=h.blk/\h.blk<n)->lo<=n->(kN l:Int)<=n-lo
 |[],lo,n,_,_,h=>zq
 |x::l,lo,n,hr,hm,h=>by
  have c:=hm x zm;have:=qJq l (x.blk+1) n hr.tail (fun y a=>⟨by have:=hr.head y a;omega,(hm y (by simp[a])).2⟩) za;simp only[qP4];omega
def Has (c:Sh) (k:Nat):Prop:=∃h∈c.held,h.blk=(k:Int)
theorem qNk {c:Sh} (h:find (k:Int) c.held=yB):¬Has c k:=fun⟨x,d,a⟩=>qJ6 h x d a
theorem qLb {c:Sh} {x:Hd} (h:find (k:Int) c.held=yA x):Has c k:=⟨x,(qIb h).1,(qIb h).2⟩
theorem qLs {c:Sh} {l:List Hd} (e:qId l) (b:Nat) (t:ByteArray) (k:Nat):Has (after c l b t) k↔k=b\/∃h∈l,h.blk=(k:Int):=by
 unfold Has after;constructor
 .rintro⟨x,a,d⟩;rcases(qIs _ l e x).1 a with rfl|⟨a,_⟩
  .exact qz (by simp only at d;omega)
  .exact qy ⟨x,a,d⟩
 .rintro(rfl|⟨x,a,d⟩)
  .exact⟨_,(qIs _ l e _).2 (qz rfl),rfl⟩
  .by_cases f:x.blk=(b:Int)
   .exact⟨_,(qIs _ l e _).2 (qz rfl),by simp only;omega⟩
   .exact⟨x,(qIs _ l e _).2 (qy ⟨a,f⟩),d⟩
structure SI (g:Nat->ByteArray) (n:Nat) (c:Sh):Prop where
 rgt:Right c
 held:∀h∈c.held,∃k:Nat,h.blk=(k:Int)/\k<n/\h.txt=g k
theorem SI.put {c:Sh} (h:SI g n c) {b:Nat} (d:b<n) (v:Int) (e:Right (after c (drop v c.held) b (g b))):SI g n (after c (drop v c.held) b (g b)):=by
 refine⟨e,fun x a=> ?_⟩;rcases(qIs _ _ (h.rgt.2.2.2.2.2.2.1.drop v) x).1 a with rfl|⟨a,_⟩
 .exact⟨b,rfl,d,rfl⟩
 .exact h.held x (qI1.1 a).1
theorem SI.take {c:Sh} (h:SI g n c) {b:Nat} (q:b<n) (o:(Cache.take c (b:Int)).2.2=0):
  (Cache.take c (b:Int)).1=g b/\SI g n (Cache.take c (b:Int)).2.1/\(Cache.take c (b:Int)).2.1.room=c.room/\(Cache.take c (b:Int)).2.1.clock=c.clock+1/\(∀k,Has (Cache.take c (b:Int)).2.1 k↔Has c k)/\Has c b/\(Cache.take c (b:Int)).2.1.held.length=kN c.held:=by
 rcases qKn h.rgt (b:Int)with⟨_,x,f,s,r⟩|⟨p,_⟩
 .obtain⟨l,y⟩:=qIb f;have w:x.txt=g b:=by
   obtain⟨k,z,_,m⟩:=h.held x l;have:k=b:=za
   rw[m,this]
  rw[r,w];have u:=qLy h.rgt s f (g b);have a:=h.rgt.2.2.2.2.2.2.1;have d:Right (after c (drop (-1) c.held) b (g b)):=by rw[qI7 h.rgt];exact u
  have j:=h.put q (-1) d;rw[qI7 h.rgt]at j;refine⟨rfl,j,rfl,rfl,fun k=> ?_,qLb f,?_⟩
  .rw[qLs a];constructor
   .rintro(rfl|i)
    .exact qLb f
    .exact i
   .exact fun i=>qy i
  .rcases qIu ⟨(b:Int),c.clock+1,g b⟩ c.held a with⟨e,_⟩|⟨_,t⟩
   .exact e
   .exact absurd y (t x l)
 .exact absurd o p
theorem SI.keep {c:Sh} (h:SI g n c) {b:Nat} (m:b<n) (j:(Cache.keep c (b:Int) (g b)).2.2=0):
  SI g n (Cache.keep c (b:Int) (g b)).2.1/\(Cache.keep c (b:Int) (g b)).2.1.room=c.room/\(Cache.keep c (b:Int) (g b)).2.1.clock=c.clock+1/\((n:Int)<=c.room->¬Has c b->(∀k,Has (Cache.keep c (b:Int) (g b)).2.1 k↔k=b\/Has c k)/\(Cache.keep c (b:Int) (g b)).2.1.held.length=kN c.held+1):=by
 rcases qKs h.rgt (b:Int) za (g b)with⟨_,q,o⟩|⟨l,_⟩
 .rw[o];have a:=h.rgt.2.2.2.2.2.2.1;refine⟨h.put m _ (qL8 h.rgt q _ za _),rfl,rfl,fun y i=> ?_⟩;have r:=a.put ⟨(b:Int),c.clock+1,g b⟩;have d:kN (Cache.put ⟨(b:Int),c.clock+1,g b⟩ c.held)=kN c.held+1:=by
   rcases qIu ⟨(b:Int),c.clock+1,g b⟩ c.held a with⟨_,x,f,e⟩|⟨e,_⟩
   .exact absurd ⟨x,f,e⟩ i
   .exact e
  have s:=qJq _ 0 n r (fun x f=>by
   rcases(qIs _ _ a x).1 f with rfl|⟨f,_⟩
   .exact⟨by simp only;omega,by simp only;omega⟩
   .obtain⟨k,t,u,_⟩:=h.held x f;omega) za
  have p:goes c (b:Int)= -1:=qKt (fun w=>za);rw[p,qI7 h.rgt];exact⟨fun k=>qLs a b (g b) k,d⟩
 .exact absurd j l
end Cache
end Go.Proofs.YtppnakkaljbmbaaGreatDoor
