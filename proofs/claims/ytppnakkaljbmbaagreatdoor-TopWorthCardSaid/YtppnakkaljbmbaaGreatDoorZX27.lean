/- Steps of a proof; no condition beyond what each states. -/
import Derived.Test.YtppnakkaljbmbaaGreatDoorZX00
import Derived.Shelf.SlSortCmp.NoneTotal
import Derived.Shelf.SlicesG.Cmp
import Derived.Test.YtppnakkaljbmbaaGreatDoorZX12
import Derived.Test.YtppnakkaljbmbaaGreatDoorZX26
set_option linter.unusedVariables false
set_option linter.unusedSimpArgs false
set_option maxRecDepth 100000
set_option maxHeartbeats 8000000
open List renaming length->kG
open Go.Proofs.YtppnakkaljbmbaaGreatDoor.Kit renaming Own'->yj,zAr->xA,Rd->xJ,zAq->xL,Lay->xO
open Go.Proofs.YtppnakkaljbmbaaGreatDoor.Crc renaming U->xD
open Go.RowKit
open Go.Proofs.Tryz
open Go.Value renaming int->qV,string->qW,slice->qX,pointer->qY,tuple->qZ,bool->qc,nilFunc->qg
open Go.IntKind renaming i64->qj
open Go.Obj renaming cells->qm
open Go.Ending renaming returned->qp
open Option renaming some->qw,none->qx
open Go renaming World->qy,Value->qz,TypeId->yA,Addr->yB,Calls->yC,undef->yJ
open Bool renaming true->yD,false->yE
open Decidable renaming decide->yF
open Go.Proofs.Tryz renaming prog->yG
open Go.RowKit renaming Hid->yH,Below->yI
open Go.World renaming cell?->yM
open Go.RowKit.Below renaming refl->yN
namespace Go.Proofs.YtppnakkaljbmbaaGreatDoor
namespace Sd
open Hf Bt Zr Wg Ch St Bk Sm Ix2
open Front (ival)
variable {w w':qy} {B R:Nat}
theorem qIj {α:Type} {L:xO α} {e:yA} {a:Option yB} {n c:Nat} {xs:List α} (h:yj L w B e a n c xs) (m:∀b,b≠R->w'.heap[b]? =w.heap[b]?) (o:R<B):yj L w' B e a n c xs:=by
 obtain⟨k,j⟩:=h;refine⟨k,?_⟩;rcases j with j|⟨g,i,d,hv,f,l,r⟩
 ·exact .inl j
 ·exact .inr ⟨g,i,d,hv,f,(m g za).trans l,r⟩
theorem RS.below {l:List UInt8} (h:RS w R l) (b:yI B w w') (a:R<B):RS w' R l:=(b.block R a).trans h
theorem qMu (a:Nat) (b:List T) (n k:Nat) (c:k<n):(ents a b n).drop k=qIi a b k::(ents a b n).drop (k+1):=by
 have h:=qIx a b n k c;have d:k<kG (ents a b n):=by rw[qLc];exact c
 rw[qSa d];rw[qPu d]at h;rw[qPv h]
theorem qD3 (a:Nat) (b:List T) (n k:Nat):kG (((ents a b n).drop k).flatMap enB)<=26*n:=by
 have h:=qPs List.length (qPs (List.flatMap enB) (qR9 k (ents a b n)));rw[List.flatMap_append,qPx,qJv]at h;omega
theorem zZq (ah n:Nat) (ps:List T) (P:Ps ah ps n) (a:ByteArray) (ha:a.size<=100000000) (w:qy):
  yC yG 136 #[qW ⟨(qK3 a n (ents ah ps n)).toArray⟩] w fun e w'=>∃p c,e=qp (qZ #[qX p n c,qV qj (a.size:Int),qV .u32 (zBa a.data.toList:Int),.nilIface])/\yj LEn w' w.heap.size TEn p n c (ents ah ps n)/\yI w.heap.size w w':=by
 have HP:=zH P;have hn:=P.many;have h1:=P.lo;have h9:=P.hi;have aj:zBa a.data.toList<4294967296:=by unfold zBa;exact(Crc.sum a.data.toList).isLt
 have d:=qJv ah ps n;obtain⟨FL,j⟩:=zB ((ents ah ps n).flatMap enB);rw[j]at d;have af:=zH j;obtain⟨s,hs⟩:=zB ((⟨(qK3 a n (ents ah ps n)).toArray⟩:ByteArray));have ag:s.size=20+26*n:=by rw[<-hs];unfold qK3;rw[j];simp[ByteArray.size,qMp,d]
 have ab:s.extract 0 4=⟨#[80,77,105,49]⟩:=by
  rw[<-hs];apply ByteArray.ext;simp[ByteArray.data_extract,qK3,qKh]
 have ad:s.extract 4 (20+26*n)=⟨(be 8 a.size++(be 4 (zBa a.data.toList)++(be 4 n++FL))).toArray⟩:=by
  rw[<-hs];apply ByteArray.ext;simp[ByteArray.data_extract,qK3,qKh,j];rw[qQg];simp only[qPx,qIn,d];omega
 rw[hs];obtain⟨B,hB⟩:=zB w.heap.size;have HB:=zH hB;rw[hB];clear P hB hs j;go_enter func136,ntmps136;obtain⟨w1,o⟩:=zB (w.alloc (qm #[qW ⟨(be 8 a.size++(be 4 (zBa a.data.toList)++(be 4 n++FL))).toArray⟩,qc yE] TRd));have Y:=yP (RS w1 B (be 8 a.size++(be 4 (zBa a.data.toList)++(be 4 n++FL)))) (by rw[<-o,<-HB.out];exact zAh w _);have B0:=yP (yI B w w1/\w1.heap.size=B+1) ⟨by rw[<-o,<-HB.out];exact(yN _ _).alloc (qPq _) _,by rw[<-o,zA,HB.out]⟩;have a0:=zH o;clear o;go_wp2_with fail;rw[HB.out,show w.alloc (qm #[qW ⟨(be 8 a.size++(be 4 (zBa a.data.toList)++(be 4 n++FL))).toArray⟩,qc yE] TRd)=w1 from a0.out];have m:=zH (zHq B a.size 8 za za za (K:=8) rfl (be 4 (zBa a.data.toList)++(be 4 n++FL)) (by simp only[qPx,qIn,d];omega) w1 Y.out);(with_reducible refine m.out.mono ?_);rintro e w2 ⟨rfl,y,hk,hz,q⟩;have a7:=zH y;have B1:=yP (yI B w w2/\w2.heap.size=B+1) ⟨B0.out.1.trans q,hz.trans B0.out.2⟩;clear m Y B0 y hk hz q;have F:=zH (zHq B (zBa a.data.toList) 4 za za za (K:=4) rfl (be 4 n++FL) (by simp only[qPx,qIn,d];omega) w2 a7.out);go_wp2_with fail;(with_reducible refine F.out.mono ?_);rintro e w3 ⟨rfl,y,hk,hz,q⟩;have a1:=zH y;have B2:=yP (yI B w w3/\w3.heap.size=B+1) ⟨B1.out.1.trans q,hz.trans B1.out.2⟩;clear F a7 B1 y hk hz q;have t:=zH (zHq B n 4 za za za (K:=4) rfl (FL) (by simp only[qPx,qIn,d];omega) w3 a1.out);go_wp2_with fail;(with_reducible refine t.out.mono ?_);rintro e w4 ⟨rfl,y,hk,hz,q⟩;have I:=zH y;have B3:=yP (yI B w w4/\w4.heap.size=B+1) ⟨B2.out.1.trans q,hz.trans B2.out.2⟩;clear t a1 B2 y hk hz q;obtain⟨y0,y1,_,_⟩:=qIa I.out;have ae:(⟨FL.toArray⟩:ByteArray).size=26*n:=by simp[ByteArray.size,d]
 go_wp2;have X:=yP (RS w4 B (((ents ah ps n).drop 0).flatMap enB)) (by rw[qR3,af.out];exact I.out);have B4:=yP (yI B w w4/\B+1<=w4.heap.size) ⟨B3.out.1,by rw[B3.out.2];exact qPq _⟩;clear I B3 y0 y1 ae d ab ad ag a0;go_loopw [2,53] (fun lv iv wr=>∃(k c':Nat) (p':Option yB),k<=n/\iv=qV qj k/\lv=qX p' k c'/\yH (yj LEn wr (B+1) TEn p' k c' (ents ah ps k))/\yH (RS wr B (((ents ah ps n).drop k).flatMap enB))/\yH (yI B w wr/\B+1<=wr.heap.size)) (fun _ iv _=>n-(intOf iv).toNat)
 case atStart=>exact⟨0,0,qx,qQq _,rfl,rfl,zH (Kit.Own'.start _ _ _),X,B4⟩
 case round=>
  clear X B4;obtain⟨k,c0,p0,hk,rfl,rfl,O0,H,B4⟩:=hrel;by_cases a3:k<n
  ·obtain⟨i,r,f,l,ub,hx⟩:∃i r f l u,qIi ah ps k=⟨i,r,f,l,u⟩:=⟨_,_,_,_,_,rfl⟩;obtain⟨q1,q2⟩:=HP.out.one a3;have aa:=HP.out.far k za;have O:=hx;unfold qIi at O;injection O with x1 x2 x3 x4 x5
   rw[x1]at aa;rw[q1,x3,x4]at q2;obtain⟨u,hu⟩:=zB ub.toNat;have ak:u<4294967296:=by rw[<-hu];exact ub.isLt
   have ai:r<=360:=za
   obtain⟨b,g⟩:=zB (((ents ah ps n).drop (k+1)).flatMap enB);have x:=yP (kG b<=26000) (by have:=qD3 ah ps n (k+1);rw[g]at this;omega);have S:=yP (RS wr B (be 8 i++(be 2 r++(be 8 f++(be 4 l++(be 4 u++b)))))) (by have h:=H.out;rw[qMu ah ps n k a3,qSl,g,hx]at h;simp only[enB,hu,qQw]at h;exact h)
   have HX:=zH hx;have HU:=yP (zAx ub=qV .u32 (u:Int)) (by unfold zAx xD;rw[hu]);have M:=zH g;clear H hx x1 x2 x3 x4 x5 q1 hu g;have m:=zH (zHq B i 8 za za za (K:=8) rfl (be 2 r++(be 8 f++(be 4 l++(be 4 u++b)))) (by(try simp only[qPx,qIn]);have:=x.out;omega) wr S.out);go_wp2_with fail;(with_reducible refine m.out.mono ?_);rintro e v1 ⟨rfl,y,hk,hz,q⟩;obtain⟨Z,O1⟩:=yQ y (qIj O0.out hk za);have B5:=yP (yI B w v1/\B+1<=v1.heap.size) ⟨B4.out.1.trans q,by rw[hz];exact B4.out.2⟩;clear m S O0 B4 y hk hz q;have F:=zH (zHq B r 2 za za za (K:=2) rfl (be 8 f++(be 4 l++(be 4 u++b))) (by(try simp only[qPx,qIn]);have:=x.out;omega) v1 Z.out);go_wp2_with fail;(with_reducible refine F.out.mono ?_);rintro e v2 ⟨rfl,y,hk,hz,q⟩;obtain⟨R,O2⟩:=yQ y (qIj O1.out hk za);have B6:=yP (yI B w v2/\B+1<=v2.heap.size) ⟨B5.out.1.trans q,by rw[hz];exact B5.out.2⟩;clear F Z O1 B5 y hk hz q;have t:=zH (zHq B f 8 za za za (K:=8) rfl (be 4 l++(be 4 u++b)) (by(try simp only[qPx,qIn]);have:=x.out;omega) v2 R.out);go_wp2_with fail;(with_reducible refine t.out.mono ?_);rintro e v3 ⟨rfl,y,hk,hz,q⟩;obtain⟨V,O3⟩:=yQ y (qIj O2.out hk za);have B7:=yP (yI B w v3/\B+1<=v3.heap.size) ⟨B6.out.1.trans q,by rw[hz];exact B6.out.2⟩;clear t R O2 B6 y hk hz q;have a8:=zH (zHq B l 4 za za za (K:=4) rfl (be 4 u++b) (by(try simp only[qPx,qIn]);have:=x.out;omega) v3 V.out);go_wp2_with fail;(with_reducible refine a8.out.mono ?_);rintro e v4 ⟨rfl,y,hk,hz,q⟩;obtain⟨W,O4⟩:=yQ y (qIj O3.out hk za);have B8:=yP (yI B w v4/\B+1<=v4.heap.size) ⟨B7.out.1.trans q,by rw[hz];exact B7.out.2⟩;clear a8 V O3 B7 y hk hz q;have a4:=zH (zHq B u 4 za za za (K:=4) rfl (b) (by(try simp only[qPx,qIn]);have:=x.out;omega) v4 W.out);go_wp2_with fail;(with_reducible refine a4.out.mono ?_);rintro e v5 ⟨rfl,y,hk,hz,q⟩;obtain⟨a9,O5⟩:=yQ y (qIj O4.out hk za);have B9:=yP (yI B w v5/\B+1<=v5.heap.size) ⟨B8.out.1.trans q,by rw[hz];exact B8.out.2⟩;clear a4 W O4 B8 y hk hz q;obtain⟨p6,c6,w6,a6,N,G,_⟩:=qKb qM za O5.out ⟨i,r,f,l,ub⟩ B9.out.2 za (z:=v5.heap.size) rfl;have O6:=yP (yj LEn w6 (B+1) TEn p6 (k+1) c6 (ents ah ps (k+1))) (by rw[qJ7,HX.out];exact N);have B6:=yP (yI B w w6/\B+1<=w6.heap.size) ⟨B9.out.1.trans (G.mono za),qP4 B9.out.2 G.size⟩;have ac:=yP (RS w6 B (((ents ah ps n).drop (k+1)).flatMap enB)) (by rw[M.out];exact a9.out.below G za);rw[show(LEn.cl ⟨i,r,f,l,ub⟩).toArray= #[qV qj (i:Int),qV qj (r:Int),qV qj (f:Int),qV qj (l:Int),qV .u32 (u:Int)]from by rw[<-HU.out];rfl]at a6;clear N G O5 a9 B9;go_wp2_with (at_builtin;refine xA rfl (.tmp 55) (.tmp 63) TEs rfl rfl rfl a6 ?_);go_roundw
   case rel=>exact⟨k+1,c6,p6,za,by go_num,rfl,O6,ac,B6⟩
   case measure=>simp only[intOf];omega
  ·obtain rfl:k=n:=za
   have a5:k<=c0:=by
    rcases qQy k with h|h
    ·omega
    ·obtain⟨_,_,_,_,h⟩:=O0.out.at_ h;exact h
   have a2:=zH (zGf ah k ps HP.out p0 c0 wr O0.out.rd a5);obtain⟨y0,y1,_,_⟩:=qIa H.out;clear H y0 a5;go_wp2_with fail;(with_reducible refine a2.out.mono ?_);rintro e v1 ⟨rfl,L⟩;obtain⟨B5,O1⟩:=yQ (B4.out.1.trans (L.mono (qP4 za B4.out.2))) ((O0.out.below L (qPq _)).base (show B<=B+1 by omega));clear a2 L B4 O0 y1;go_wp2;refine qP5 (v:=qZ #[qX p0 k c0,qV qj (a.size:Int),qV .u32 (zBa a.data.toList:Int),.nilIface]) zf rfl ?_;exact⟨p0,c0,rfl,O1.out,B5.out⟩
end Sd
namespace Sd
open Wg Sm Ix2
open Front (ival)
theorem qKi {α:Type} {L:xO α} {w:qy} {B:Nat} {e:yA} {a:Option yB} {n c:Nat} {xs:List α} (h:yj L w B e a n c xs):n<=c:=by
 rcases qQy n with b|b
 ·omega
 ·obtain⟨_,_,_,_,h⟩:=h.at_ b;exact h
def enV (x:En):qz:= .agg #[qV qj (x.i:Int),qV qj (x.r:Int),qV qj (x.f:Int),qV qj (x.l:Int),zAx x.u]
end Sd
namespace Sk
open Bt Ch Tn Sm Ix2
open Front (ival)
structure Rr where
 st:Nat
 o:Nat
 n:Nat
 b:Nat
 l:Nat
 got:ByteArray
 txt:ByteArray
def free:Rr:=⟨0,0,0,0,0,⟨#[]⟩,⟨#[]⟩⟩
def LRr:xO Rr where
 k:=7
 pos:=za
 cl x:=[qV qj (x.st:Int),qV qj (x.o:Int),qV qj (x.n:Int),qV qj (x.b:Int),qV qj (x.l:Int),qW x.got,qW x.txt]
 len _:=rfl
 one m:=by simp[Value.oneCell']
def LHd:xO Cache.Hd where
 k:=3
 pos:=za
 cl x:=[qV qj x.blk,qV qj x.st,qW x.txt]
 len _:=rfl
 one m:=by simp[Value.oneCell']
abbrev TRr:yA:=243
abbrev qKl:yA:=37
abbrev THd:yA:=212
abbrev qLh:yA:=34
theorem qOu:Kit.zVx yG qKl TRr LRr.k 72:=⟨underlying37,⟨.agg #[qV qj 0,qV qj 0,qV qj 0,qV qj 0,qV qj 0,qW ⟨#[]⟩,qW ⟨#[]⟩],zf,rfl⟩⟩
theorem qO2:Kit.zVx yG qLh THd LHd.k 32:=⟨underlying34,⟨.agg #[qV qj 0,qV qj 0,qW ⟨#[]⟩],zf,rfl⟩⟩
theorem qI3 {w:qy} {a:Option yB} {l:List Cache.Hd}:Cache.qIg w a l↔xJ LHd w a l:=by
 constructor
 ·intro h j x f;obtain⟨b,c,d,g,k,m⟩:=h j x f;refine⟨b,c,d,fun i hi=> ?_⟩;have:i=0\/i=1\/i=2:=by have:i<3:=hi;omega
  rcases this with rfl|rfl|rfl
  ·exact g
  ·exact k
  ·exact m
 ·intro h j x f;obtain⟨b,c,d,e⟩:=h j x f;exact⟨b,c,d,e 0 z8,e 1 z8,e 2 z8⟩
def qIz (p:Option yB) (n c:Nat):Prop:=p=qx->n=0/\c=0
theorem qNu (l:List En) (n:Nat) (u:kG l=n) (K:n<=100000) (p:Option yB) (c:Nat) (x:qIz p n c) (w:qy) (h:xJ LEn w p l):
  yC yG 192 #[qX p n c] w fun e w'=>∃t c',e=qp (qX t n c')/\yj LEn w' w.heap.size TEn t n c' l/\qIz t n c'/\yI w.heap.size w w':=by
 cases p with
 |none=>
  obtain⟨z,i⟩:=x rfl;subst z i;have j:l=[]:=qQz u;subst j;have G:∀w,(binOp .eql TEs (qX qx 0 0) (qX qx 0 0)).run yG w= .ok (qc yD) w:=fun _=>zf
  go_enter func192,ntmps192;go_wp2;go_ret;exact⟨qx,0,rfl,Kit.Own'.start _ _ _,fun _=>⟨rfl,rfl⟩,yN _ _⟩
 |some q=>
  have s:yj LEn (w.alloc (qm #[] TEn)) w.heap.size TEn (qw ⟨w.heap.size,0,qx⟩) 0 0 ([]:List En):=Kit.zNf (L:=LEn) w [] TEn w.heap.size (qPq _) (by unfold maxLen;simp);have b:yI w.heap.size w (w.alloc (qm #[] TEn)):=(yN _ _).alloc (qPq _) _;obtain⟨y,c3,M,d,a,f⟩:=s.app (ty:=TEs) qM (qw q) n c l (h.below b rfl) u (fun h=>by cases h) (by unfold maxLen;omega) za (by rw[zA];omega);rw[qQc]at d a;rw[qQl]at a;have m:=b.trans (xL f (by rw[zA];omega) (fun k F=>s.block k F));have o:qIz y n c3:=fun e=>by
   subst e;obtain⟨_,r⟩:=a;rcases r with⟨r,B⟩|⟨g,H,I,hv,_⟩
   ·injection r with _ h5 h6;exact⟨B,h6⟩
   ·injection hv with ha;cases ha
  have G:∀w,(binOp .eql TEs (qX (qw q) n c) (qX qx 0 0)).run yG w= .ok (qc yE) w:=fun _=>zf
  clear s b f h x;go_enter func192,ntmps192;go_wp2_with (at_builtin;refine xA rfl (.tmp 5) (.tmp 6) TEs rfl rfl rfl d ?_);go_ret;exact⟨y,c3,rfl,a,o,m⟩
theorem qNt (l:List Cache.Hd) (n:Nat) (u:kG l=n) (K:n<=100000) (p:Option yB) (c:Nat) (x:qIz p n c) (w:qy) (h:xJ LHd w p l):
  yC yG 193 #[qX p n c] w fun e w'=>∃t c',e=qp (qX t n c')/\yj LHd w' w.heap.size THd t n c' l/\qIz t n c'/\yI w.heap.size w w':=by
 cases p with
 |none=>
  obtain⟨z,i⟩:=x rfl;subst z i;have j:l=[]:=qQz u;subst j;have G:∀w,(binOp .eql qLh (qX qx 0 0) (qX qx 0 0)).run yG w= .ok (qc yD) w:=fun _=>zf
  go_enter func193,ntmps193;go_wp2;go_ret;exact⟨qx,0,rfl,Kit.Own'.start _ _ _,fun _=>⟨rfl,rfl⟩,yN _ _⟩
 |some q=>
  have s:yj LHd (w.alloc (qm #[] THd)) w.heap.size THd (qw ⟨w.heap.size,0,qx⟩) 0 0 ([]:List Cache.Hd):=Kit.zNf (L:=LHd) w [] THd w.heap.size (qPq _) (by unfold maxLen;simp);have b:yI w.heap.size w (w.alloc (qm #[] THd)):=(yN _ _).alloc (qPq _) _;obtain⟨y,c3,M,d,a,f⟩:=s.app (ty:=qLh) qO2 (qw q) n c l (h.below b rfl) u (fun h=>by cases h) (by unfold maxLen;omega) za (by rw[zA];omega);rw[qQc]at d a;rw[qQl]at a;have m:=b.trans (xL f (by rw[zA];omega) (fun k F=>s.block k F));have o:qIz y n c3:=fun e=>by
   subst e;obtain⟨_,r⟩:=a;rcases r with⟨r,B⟩|⟨g,H,I,hv,_⟩
   ·injection r with _ h5 h6;exact⟨B,h6⟩
   ·injection hv with ha;cases ha
  have G:∀w,(binOp .eql qLh (qX (qw q) n c) (qX qx 0 0)).run yG w= .ok (qc yE) w:=fun _=>zf
  clear s b f h x;go_enter func193,ntmps193;go_wp2_with (at_builtin;refine xA rfl (.tmp 5) (.tmp 6) qLh rfl rfl rfl d ?_);go_ret;exact⟨y,c3,rfl,a,o,m⟩
theorem qNs (l:List Rr) (n:Nat) (u:kG l=n) (K:n<=100000) (p:Option yB) (c:Nat) (x:qIz p n c) (w:qy) (h:xJ LRr w p l):
  yC yG 194 #[qX p n c] w fun e w'=>∃t c',e=qp (qX t n c')/\yj LRr w' w.heap.size TRr t n c' l/\qIz t n c'/\yI w.heap.size w w':=by
 cases p with
 |none=>
  obtain⟨z,i⟩:=x rfl;subst z i;have j:l=[]:=qQz u;subst j;have G:∀w,(binOp .eql qKl (qX qx 0 0) (qX qx 0 0)).run yG w= .ok (qc yD) w:=fun _=>zf
  go_enter func194,ntmps194;go_wp2;go_ret;exact⟨qx,0,rfl,Kit.Own'.start _ _ _,fun _=>⟨rfl,rfl⟩,yN _ _⟩
 |some q=>
  have s:yj LRr (w.alloc (qm #[] TRr)) w.heap.size TRr (qw ⟨w.heap.size,0,qx⟩) 0 0 ([]:List Rr):=Kit.zNf (L:=LRr) w [] TRr w.heap.size (qPq _) (by unfold maxLen;simp);have b:yI w.heap.size w (w.alloc (qm #[] TRr)):=(yN _ _).alloc (qPq _) _;obtain⟨y,c3,M,d,a,f⟩:=s.app (ty:=qKl) qOu (qw q) n c l (h.below b rfl) u (fun h=>by cases h) (by unfold maxLen;omega) za (by rw[zA];omega);rw[qQc]at d a;rw[qQl]at a;have m:=b.trans (xL f (by rw[zA];omega) (fun k F=>s.block k F));have o:qIz y n c3:=fun e=>by
   subst e;obtain⟨_,r⟩:=a;rcases r with⟨r,B⟩|⟨g,H,I,hv,_⟩
   ·injection r with _ h5 h6;exact⟨B,h6⟩
   ·injection hv with ha;cases ha
  have G:∀w,(binOp .eql qKl (qX (qw q) n c) (qX qx 0 0)).run yG w= .ok (qc yE) w:=fun _=>zf
  clear s b f h x;go_enter func194,ntmps194;go_wp2_with (at_builtin;refine xA rfl (.tmp 5) (.tmp 6) qKl rfl rfl rfl d ?_);go_ret;exact⟨y,c3,rfl,a,o,m⟩
end Sk
namespace Sk
open Zr Ch Tn Sm Ix2 Sd
open Front (ival)
variable {P:Program} {ρ:Operand->qz} {o:Oper} {x y:Operand} {t u:yA} {m n r:Int}
def paF (o f:Nat):Nat:=o-f
def paT (o m f l:Nat):Nat:=max (min (o+m-f) l) (o-f)
theorem qKe (a:o.op= .call {callee:= .builtin .min,args:= #[x,y],argTypes:= #[t,u]}) (c:ρ x=qV qj m) (d:ρ y=qV qj n) (b:min m n=r) (w:qy):(execOp ρ o).run P w= .ok (.value (qV qj r)) w:=by
 unfold execOp;subst b;simp[a,c,d,go_sem]
theorem qOf (a:o.op= .call {callee:= .builtin .max,args:= #[x,y],argTypes:= #[t,u]}) (c:ρ x=qV qj m) (d:ρ y=qV qj n) (b:max m n=r) (w:qy):(execOp ρ o).run P w= .ok (.value (qV qj r)) w:=by
 unfold execOp;subst b;simp[a,c,d,go_sem]
theorem qK6 (e:En) (o m:Nat) (M:e.f<=100000) (N:e.l<=100000) (R:o<=100000000) (O:m<=100000000) (w:qy):
  yC yG 288 #[enV e,qV qj (o:Int),qV qj (m:Int)] w fun x w'=>x=qp (qZ #[qV qj (paF o e.f:Int),qV qj (paT o m e.f e.l:Int)])/\yI w.heap.size w w':=by
 obtain⟨i,r,f,l,u⟩:=e;simp only at M N⊢;obtain⟨E,z⟩:=zB w.heap.size;obtain⟨W,q⟩:=zB (w.alloc (qm #[qV qj (i:Int),qV qj (r:Int),qV qj (f:Int),qV qj (l:Int),qV .u32 (xD u)] TEn));have B:yI w.heap.size w W:=by rw[<-q];exact(yN _ _).alloc (qPq _) _
 have g:W.drew.heap[E]? =qw (qm #[qV qj (i:Int),qV qj (r:Int),qV qj (f:Int),qV qj (l:Int),qV .u32 (xD u)] TEn):=by rw[<-q,<-z];exact zAh w _
 have K:=yP ((loadVar 3 ⟨E,2,qx⟩).run yG W.drew= .ok (qV qj (f:Int)) W.drew) (Kit.zAg (by simp[yM,g]) zf zf);have L:=yP ((loadVar 3 ⟨E,3,qx⟩).run yG W.drew= .ok (qV qj (l:Int)) W.drew) (Kit.zAg (by simp[yM,g]) zf zf);obtain⟨a,s⟩:=zB (paF o f);obtain⟨b,c⟩:=zB (paT o m f l);have S:max ((o:Int)-(f:Int)) 0=(a:Int):=by rw[<-s];unfold paF;omega
 obtain⟨d,hd⟩:=zB (min ((o:Int)-(f:Int)+(m:Int)) (l:Int));have F:max d (a:Int)=(b:Int):=by rw[<-c,<-hd,<-s];unfold paT paF;omega
 have h:IntKind.i64.wrap ((o:Int)-(f:Int))=(o:Int)-(f:Int):=qQb _ ⟨za,za⟩;have j:IntKind.i64.wrap ((o:Int)-(f:Int)+(m:Int))=(o:Int)-(f:Int)+(m:Int):=qQb _ ⟨za,za⟩;obtain⟨G,n,p,k,HB,I,H⟩:=yV hd F h j B q z;rw[s,c];unfold enV zAx;clear B g q z s c F hd h j;go_enter func288,ntmps288;go_wp2;rw[H.out,show w.alloc (qm #[qV qj (i:Int),qV qj (r:Int),qV qj (f:Int),qV qj (l:Int),qV .u32 (xD u)] TEn)=W from I.out];refine zS [] (fun _=>True) [0,0,0,4,10,0,48,0,128,320,0,1536,1025,8191] 14<|zp [0,1,2,3,4,5,6,7,8,9,10,11,12,13]<|zk 13 (zI a)<|zk 14 (zI o)<|zk 15 (zP E 2)<|zt 16 (zI f) (zl 3 15 (K.out))<|zt 17 (qV qj ((o:Int)-(f:Int))) (Kit.zM6 (x:= .tmp 14) (y:= .tmp 16) rfl zf zf p.out _)<|zk 18 (zI m)<|zt 19 (qV qj ((o:Int)-(f:Int)+(m:Int))) (Kit.qCv (x:= .tmp 17) (y:= .tmp 18) rfl zf zf k.out _)<|zk 20 (zP E 3)<|zt 21 (zI l) (zl 3 20 (L.out))<|zt 22 (qV qj d) (qKe (x:= .tmp 19) (y:= .tmp 21) rfl zf zf G.out _)<|zk 23 (zI a)<|zt 24 (zI b) (qOf (x:= .tmp 22) (y:= .tmp 23) rfl zf zf n.out _)<|zk 6 (zI a)<|zk 7 (zI b)<|zn<|zE<| ?_
 simp only[zP,zI,Act.put,qPz,qPy,qP0];go_wp2;go_ret2;exact⟨rfl,HB.out.drew⟩
theorem qKm (o m:Nat) (b:o<=100000000) (a:m<1048576) (w:qy):
  yC yG 142 #[qV qj (o:Int),qV qj (m:Int)] w fun e w'=>e=qp (qc yD)/\w'=w:=by
 go_enter func142,ntmps142;go_wp2;go_ret;exact⟨zq,rfl⟩
end Sk
namespace Sk
open Bt Zr Ch Sq St Tn Bk Sm Ix2 Sd
open Front (ival)
variable {w:qy}
structure DV where
 a:ByteArray
 ip:Option yB
 n:Nat
 ic:Nat
 sh:Cache.Sh
 sa:Option yB
 sk:Nat
 rp:Option yB
 m:Nat
 rc:Nat
 dec:Nat
def DV.cl (d:DV):Array qz:= #[qW d.a,qX d.ip d.n d.ic,qV qj d.sh.room,qV qj d.sh.clock,qX d.sa (kG d.sh.held) d.sk,qX d.rp d.m d.rc,qV qj (d.dec:Int)]
def DV.v (d:DV):qz:= .agg d.cl
abbrev TDk:yA:=39
theorem hkeep {w':qy} {M:Nat} {o:Obj} (h:w.heap[M]? =qw o) (a:yI w.heap.size w w'):w'.heap[M]? =qw o:=(a.block M (zAd h)).trans h
theorem qH7 {B:Nat} {a b c d e f g:qz} {t:yA} (h:w.heap[B]? =qw (qm #[a,b,c,d,e,f,g] t)):w.cell? ⟨B,0,qx⟩=qw a/\w.cell? ⟨B,1,qx⟩=qw b/\w.cell? ⟨B,2,qx⟩=qw c/\w.cell? ⟨B,3,qx⟩=qw d/\w.cell? ⟨B,4,qx⟩=qw e/\w.cell? ⟨B,5,qx⟩=qw f/\w.cell? ⟨B,6,qx⟩=qw g:=
 ⟨by simp[yM,h],by simp[yM,h],by simp[yM,h],by simp[yM,h],by simp[yM,h],by simp[yM,h],by simp[yM,h]⟩
theorem qNe (d:DV) (w:qy):yC yG 250 #[d.v,.agg (LRr.cl free).toArray] w fun e w'=>e=qp (qc yD)/\yI w.heap.size w w':=by
 obtain⟨a,h,n,g,⟨f,b,c⟩,j,k,rp,m,i,dec⟩:=d;unfold DV.v DV.cl;simp only[show(LRr.cl free).toArray= #[qV qj 0,qV qj 0,qV qj 0,qV qj 0,qV qj 0,qW ⟨#[]⟩,qW ⟨#[]⟩]from rfl];go_enter func250,ntmps250;go_wp2;go_ret;exact⟨rfl,((yN _ _).alloc (qPq _) _).alloc (by rw[zA];omega) _⟩
structure Wk (lev:Nat) (ps:List T) (n X:Nat) (r:Rr) (j:Nat):Prop where
 s1:1<=r.st
 s3:r.st<=3
 m0:0<r.n
 m1:r.n<1048576
 ox:r.o<X
 fst:In ps n r.o j
 lst:In ps n (r.o+min r.n (X-r.o)-1) r.l
 b0:j<=r.b
 b1:r.b<=r.l
 got:r.got.size=qH8 ps r.b-r.o
 txt:r.txt.size=if r.st=3 then(ps.getD r.b []).length else 0
theorem qNa {b n X:Nat} {a:List T} (P:Ps b a n) (p:kG a.flatten=X) {r:Rr} {j:Nat} (h:Wk b a n X r j) (k:Nat) (q:j<=k) (d:k<r.b):
  paT r.o r.n (qH8 a k) (kG (a.getD k []))-paF r.o (qH8 a k)+(qH8 a k-r.o)=qH8 a (k+1)-r.o/\paF r.o (qH8 a k)<=paT r.o r.n (qH8 a k) (kG (a.getD k [])):=by
 have s:=P.len;have c:=h.b1;have e:=h.lst.lt;have f:=qI2 a k za;have g:=qIq a (j:=k+1) (k:=r.l) za za;have i:=h.lst.lo;have l:=h.fst.hi;have m:=qIq a (j:=j+1) (k:=k+1) za za;have o:=h.m0;unfold paT paF;omega
theorem qNd (ae n X:Nat) (f:List T) (P:Ps ae f n) (hX:kG f.flatten=X) (d:DV) (hn:d.n=n) (af:n<=d.ic) (r:Rr) (j:Nat) (h:Wk ae f n X r j) (w:qy) (hi:xJ LEn w d.ip (ents ae f n)):
  yC yG 250 #[d.v,.agg (LRr.cl r).toArray] w fun e w'=>e=qp (qc yD)/\yI w.heap.size w w':=by
 obtain⟨HK,HP,HX⟩:=yR h P hX;have am:X<=10000:=by rw[<-hX];exact P.all
 have ao:=P.many;obtain⟨a,ip,n',ic,⟨I,x,H⟩,sa,sk,rp,m,rc,dec⟩:=d;obtain⟨st,o,q,b,l,ad,z⟩:=r;simp only at hn hi af;subst hn;have s1:1<=st:=h.s1;have s3:st<=3:=h.s3;have m0:0<q:=h.m0;have m1:q<1048576:=h.m1;have ox:o<X:=h.ox;have b0:j<=b:=h.b0;have b1:b<=l:=h.b1;have hl:l<n':=h.lst.lt;have a5:j<n':=h.fst.lt;obtain⟨t,rfl⟩:∃t,b=j+t:=⟨b-j,za⟩;obtain⟨L,rfl⟩:∃c,ic=j+c:=⟨ic-j,za⟩;obtain⟨g,p,rfl,_⟩:=rdE hi j _ (qIx ae f n' j a5);obtain⟨E,hE⟩:=zB w.heap.size;obtain⟨W,hW⟩:=zB ((w.alloc (qm #[qW a,qX (qw ⟨g,p,qx⟩) n' (j+L),qV qj I,qV qj x,qX sa (kG H) sk,qX rp m rc,qV qj (dec:Int)] TDk)).alloc (qm #[qV qj (st:Int),qV qj (o:Int),qV qj (q:Int),qV qj ((j:Int)+(t:Int)),qV qj (l:Int),qW ad,qW z] TRr));have hb:yI w.heap.size w W:=by rw[<-hW];exact((yN _ _).alloc (qPq _) _).alloc (by rw[zA];omega) _
 have hz:W.heap.size=E+2:=by rw[<-hW,zA,zA,hE]
 have D0:=yP (W.heap[E]? =qw (qm #[qW a,qX (qw ⟨g,p,qx⟩) n' (j+L),qV qj I,qV qj x,qX sa (kG H) sk,qX rp m rc,qV qj (dec:Int)] TDk)) (by rw[<-hW,<-hE];exact(Lib.alloc_old _ _ _ (by rw[zA];omega)).trans (zAh w _));have R0:=yP (W.heap[E+1]? =qw (qm #[qV qj (st:Int),qV qj (o:Int),qV qj (q:Int),qV qj ((j:Int)+(t:Int)),qV qj (l:Int),qW ad,qW z] TRr)) (by rw[<-hW,<-hE,<-zA w (qm #[qW a,qX (qw ⟨g,p,qx⟩) n' (j+L),qV qj I,qV qj x,qX sa (kG H) sk,qX rp m rc,qV qj (dec:Int)] TDk)];exact zAh _ _);obtain⟨HC,HI,HB,HW,HE,HZ⟩:=yU (qKw ae n' f P (qw ⟨g,p,qx⟩) (j+L) o q j l W (hi.below hb rfl) af hX (.inr ⟨m0,ox,j,l,rfl,rfl,h.fst,h.lst⟩) za za) (hi.below hb rfl) hb hW hE hz;obtain⟨y0,y1,y2,y3,y4,y5,y6⟩:=qH7 D0.out;obtain⟨x0,x1,x2,x3,x4,x5,x6⟩:=qH7 R0.out;have ai:((st:Int)==0)=yE:=zq
 unfold DV.v DV.cl;rw[show(LRr.cl (⟨st,o,q,j+t,l,ad,z⟩:Rr)).toArray= #[qV qj (st:Int),qV qj (o:Int),qV qj (q:Int),qV qj ((j:Int)+(t:Int)),qV qj (l:Int),qW ad,qW z]from rfl];clear P h hX hi hb hW hE hz;go_enter func250,ntmps250;go_wp2_with fail;rw[HE.out,show(w.alloc (qm #[qW a,qX (qw ⟨g,p,qx⟩) n' (j+L),qV qj I,qV qj x,qX sa (kG H) sk,qX rp m rc,qV qj (dec:Int)] TDk)).alloc (qm #[qV qj (st:Int),qV qj (o:Int),qV qj (q:Int),qV qj ((j:Int)+(t:Int)),qV qj (l:Int),qW ad,qW z] TRr)=W from HW.out];clear y0 y1 y2 y3 y4 y5 y6 x0 x1 x2 x3 x4 x5 x6;(with_reducible refine HC.out.mono ?_);rintro e w1 ⟨rfl,N⟩;obtain⟨D1,R1,I1,B1⟩:=yS (hkeep D0.out N) (hkeep R0.out N) (HI.out.below N rfl) (HB.out.trans (N.mono HB.out.size));obtain⟨y0,y1,y2,y3,y4,y5,y6⟩:=qH7 D1.out;obtain⟨x0,x1,x2,x3,x4,x5,x6⟩:=qH7 R1.out;have a1:=qKm o q za m1 w1;have a9:=zH a1;clear HC N a1;go_wp2_with fail;(with_reducible refine a9.out.mono ?_);rintro e w2 ⟨rfl,rfl⟩;have ab:((l:Int)!=(l:Int))=yE:=by simp
 go_wp2;clear y0 y1 y2 y3 y4 y5 y6 x0 x1 x2 x3 x4 x5 x6 ab;rw[show j+t-j=t from za];go_loopw [7,72] (fun gv iv wr=>∃i G:Nat,i<=t/\G<=10000/\iv=qV qj (i:Int)/\gv=qV qj (G:Int)/\yH (qH8 f (j+i)-o=G)/\yH (yI w2.heap.size w2 wr)) (fun _ iv _=>t-(intOf iv).toNat)
 case atStart=>exact⟨0,0,qQq _,za,rfl,rfl,zH (by have:=HK.out.fst.lo;simp only at this;rw[qRh];omega),zH (yN _ _)⟩
 case round=>
  obtain⟨i,G,hi,ak,rfl,rfl,hG,u⟩:=hrel;obtain⟨x0,x1,x2,x3,x4,x5,x6⟩:=qH7 (hkeep R1.out u.out);obtain⟨y0,y1,y2,y3,y4,y5,y6⟩:=qH7 (hkeep D1.out u.out);have BW:=zH (B1.out.trans (u.out.mono B1.out.size));by_cases an:i<t
  ·obtain⟨g',O,s,e0,e1,e2,e3,e4⟩:=rdE (I1.out.below u.out rfl) (j+i) _ (qIx ae f n' (j+i) za);obtain⟨rfl,rfl⟩:g=g'/\p=O:=by injection s with s;injection s with h1 h2;exact⟨h1,h2⟩
   rw[show p+(j+i)*5=p+j*5+i*5 from za]at e0 e1 e2 e3 e4;obtain⟨y,V⟩:=zB (qIi ae f (j+i));obtain⟨q1,q2⟩:=HP.out.one (k:=j+i) za;obtain⟨B,Y⟩:=qNa HP.out HX.out HK.out (j+i) za (by show j+i<j+t;omega);simp only at B Y;have K:y.f=qH8 f (j+i):=by rw[<-V];rfl
   have a0:y.l=kG (f.getD (j+i) []):=by rw[<-V];rfl
   rw[<-K,<-a0]at B Y;rw[K,hG.out]at B;rw[<-K,<-a0]at q1;obtain⟨pf,R⟩:=zB (paF o y.f);obtain⟨pt,Z⟩:=zB (paT o q y.f y.l);have M:=zH (fun W'=>qK6 y o q za za za za W');rw[<-K,R,Z]at B;rw[R,Z]at M Y;have a8:=zH B;have a7:pt-pf+G<=10000:=by rw[B,show qH8 f (j+i+1)=y.f+y.l from q1];rw[show y.f+y.l=qH8 f (j+i+1)from q1.symm];omega
   have ah:pt<=10000+pf:=za
   have ag:pf<=100000:=by rw[<-R];unfold paF;omega
   rw[V]at e0 e1 e2 e3 e4;unfold zAx at e4;obtain⟨i',r',f',l',u'⟩:=y;simp only at e0 e1 e2 e3 e4 M;unfold enV zAx at M;have z1:=fun ob=>qIt (o:=ob) x1;have z2:=fun ob=>qIt (o:=ob) x2;have BR:=zH u.out;clear V hG u K a0 q1 R Z B s x0 x1 x2 x3 x4 x5 x6 y0 y1 y2 y3 y4 y5 y6;go_wp2_with fail;(with_reducible refine(M.out _).mono ?_);rintro e w4 ⟨rfl,a3⟩;have B4:=yP (yI w2.heap.size w2 w4) ((BR.out.alloc BR.out.size _).trans (a3.mono (by rw[zA];have:=BR.out.size;omega)));have a2:(G:Int)+((pt:Int)-(pf:Int))=((pt-pf+G:Nat):Int):=za
   have a6:=zH a2;clear a3 z1 z2 e0 e1 e2 e3 e4 M;clear a2;go_wp2;go_roundw
   case rel=>exact⟨i+1,pt-pf+G,za,a7,by go_num,by rw[a6.out],zH a8.out.symm,B4⟩
   case measure=>simp only[intOf];omega
  ·obtain rfl:i=t:=za
   have S:ad.size=G:=by have:=HK.out.got;simp only at this;rw[this];exact hG.out
   have F:z.size=if st=3 then(f.getD (j+i) []).length else 0:=HK.out.txt
   by_cases h3:st=3
   ·rw[qPr h3]at F;obtain⟨g',O,s,e0,e1,e2,e3,e4⟩:=rdE (I1.out.below u.out rfl) (j+i) _ (qIx ae f n' (j+i) za);obtain⟨rfl,rfl⟩:g=g'/\p=O:=by injection s with s;injection s with h1 h2;exact⟨h1,h2⟩
    have aj:wr.cell? ⟨g,p+(j+i)*5+3,qx⟩=qw (qV qj (z.size:Int)):=by rw[F];exact e3
    have a4:((st:Int)==3)=yD:=zq
    have ac:((ad.size:Int)==(G:Int))=yD:=by rw[S];simp
    have aa:((z.size:Int)==(z.size:Int))=yD:=by simp
    clear e0 e1 e2 e3 e4 s F S hG u;go_wp2;go_ret;exact⟨rfl,BW.out⟩
   ·rw[qPt h3]at F;have a4:((st:Int)==3)=yE:=zq
    have ac:((ad.size:Int)==(G:Int))=yD:=by rw[S];simp
    have aa:((z.size:Int)==0)=yD:=by rw[F];rfl
    clear F S hG u;go_wp2;go_ret;exact⟨rfl,BW.out⟩
end Sk
end Go.Proofs.YtppnakkaljbmbaaGreatDoor
section
namespace Go.Proofs
open Go.Proofs.YtppnakkaljbmbaaGreatDoor
open Go.Shelf
def Tryz.qK1:Go.Shelf.Ren:=⟨fun|6=>204|14=>261|15=>180|20=>291|21=>292|22=>293|23=>294|24=>295|25=>296|26=>297|27=>298|28=>240|29=>241|46=>323|47=>277|48=>278|49=>324|50=>325|57=>348|n=>n,fun|0=>0|3=>3|4=>4|5=>5|9=>9|22=>34|24=>212|25=>280|39=>178|45=>342|46=>343|50=>347|53=>65|55=>64|66=>385|70=>389|76=>433|77=>246|n=>n,fun|n=>n⟩
theorem Tryz.qK2:Go.Proofs.SlLaysF0.n6 yG qK1:={
 mixed:=zf
 f6:=⟨f204.name,z8,func204.trans (qPs qw zf)⟩
 f14:=⟨f261.name,z8,func261.trans (qPs qw zf)⟩
 f15:=func180.trans (qPs qw zf)
 f20:=⟨f291.name,z8,func291.trans (qPs qw zf)⟩
 f21:=⟨f292.name,z8,func292.trans (qPs qw zf)⟩
 f22:=⟨f293.name,z8,func293.trans (qPs qw zf)⟩
 f23:=⟨f294.name,z8,func294.trans (qPs qw zf)⟩
 f24:=⟨f295.name,z8,func295.trans (qPs qw zf)⟩
 f25:=⟨f296.name,z8,func296.trans (qPs qw zf)⟩
 f26:=⟨f297.name,z8,func297.trans (qPs qw zf)⟩
 f27:=⟨f298.name,z8,func298.trans (qPs qw zf)⟩
 f28:=func240.trans (qPs qw zf)
 f29:=func241.trans (qPs qw zf)
 f46:=⟨f323.name,z8,func323.trans (qPs qw zf)⟩
 f47:=func277.trans (qPs qw zf)
 f48:=func278.trans (qPs qw zf)
 f49:=⟨f324.name,z8,func324.trans (qPs qw zf)⟩
 f50:=⟨f325.name,z8,func325.trans (qPs qw zf)⟩
 f57:=⟨f348.name,z8,func348.trans (qPs qw zf)⟩
 t0:=underlying0
 a0:=isAgg0
 z0:=sizeOf0
 v0:=zeroValue0
 t3:=underlying3
 a3:=isAgg3
 z3:=sizeOf3
 v3:=zeroValue3
 t4:=underlying4
 a4:=isAgg4
 z4:=sizeOf4
 v4:=zeroValue4
 t5:=underlying5
 a5:=isAgg5
 z5:=sizeOf5
 v5:=zeroValue5
 t9:=underlying9
 a9:=isAgg9
 z9:=sizeOf9
 v9:=zeroValue9
 t22:=underlying34
 a22:=isAgg34
 z22:=sizeOf34
 v22:=zeroValue34
 t25:=underlying280
 a25:=isAgg280
 z25:=sizeOf280
 v25:=zeroValue280
 t39:=underlying178
 a39:=isAgg178
 z39:=sizeOf178
 v39:=zeroValue178
 t45:=underlying342
 a45:=isAgg342
 z45:=sizeOf342
 v45:=zeroValue342
 t46:=underlying343
 a46:=isAgg343
 z46:=sizeOf343
 v46:=zeroValue343
 t50:=underlying347
 a50:=isAgg347
 z50:=sizeOf347
 v50:=zeroValue347
 t53:=underlying65
 a53:=isAgg65
 z53:=sizeOf65
 v53:=zeroValue65
 t55:=underlying64
 a55:=isAgg64
 z55:=sizeOf64
 v55:=zeroValue64
 t66:=underlying385
 a66:=isAgg385
 z66:=sizeOf385
 v66:=zeroValue385
 t70:=underlying389
 a70:=isAgg389
 z70:=sizeOf389
 v70:=zeroValue389
 t76:=underlying433
 a76:=isAgg433
 z76:=sizeOf433
 v76:=zeroValue433
 t77:=underlying246
 a77:=isAgg246
 z77:=sizeOf246
 v77:=zeroValue246}
def Tryz.qMa:Go.Shelf.Ren:=⟨fun|5=>168|7=>206|n=>n,fun|3=>3|4=>4|22=>3|n=>n,fun|n=>n⟩
theorem Tryz.qOq:Go.Proofs.SlLaysC2.n5 yG qMa:={
 mixed:=zf
 f5:=⟨f168.name,z8,func168.trans (qPs qw zf)⟩
 f7:=⟨f206.name,z8,func206.trans (qPs qw zf)⟩
 t3:=underlying3
 a3:=isAgg3
 z3:=sizeOf3
 v3:=zeroValue3
 t4:=underlying4
 a4:=isAgg4
 z4:=sizeOf4
 v4:=zeroValue4
 t22:=underlying3
 a22:=isAgg3
 z22:=sizeOf3
 v22:=zeroValue3}
end Go.Proofs
end
namespace Go.Proofs.YtppnakkaljbmbaaGreatDoor
namespace Cache
open Go.Shelf Go.Lib Go.Sort
theorem zKt (x y:Int) (w:qy):yC yG 168 #[qV qj x,qV qj y] w fun e w'=>e=qp (qV qj (Lib.compareInt x y))/\w'=w:=AnyG.cmp_Compare_int qOq x y w
structure Key (p:Nat) (key:Hd->Int):Prop where
 enters:∀args w,(callFunc p args).run yG w= .ok (.enter p args) w
 calls:∀x w,yC yG p #[hval x] w fun e w'=>e=qp (qV qj (key x))/\w'=w.alloc (qIk x)
theorem qOm:Key 164 (fun x=>wrap64 (-x.st)):=⟨enters_of func164 zf rfl,qMb⟩
theorem qNh:Key 346 (fun x=>x.blk):=⟨enters_of func346 zf rfl,qLf⟩
theorem qOc (p:Nat) (f:Hd->Int) (K:Key p f) (Bs:Nat) (x y:Hd) (w:qy) (j:w.cell? ⟨Bs,0,qx⟩=qw (.func (.func p) #[] #[])):
  yC yG 167 #[hval x,hval y,qY (qw ⟨Bs,0,qx⟩)] w fun e w'=>e=qp (qV qj (Lib.compareInt (f x) (f y)))/\∃q i,w'=grow (w.drewN q) i:=by
 have eg:=K.enters;have d:Bs<w.heap.size:=qQk j;obtain⟨W,g⟩:=zB ((w.alloc (qIk x)).alloc (qIk y));have u:qIo W w.heap.size x:=by rw[<-g];exact(qIo.new w x).alloc _
 have B:qIo W (w.heap.size+1) y:=by rw[<-g];have h:=qIo.new (w.alloc (qIk x)) y;rw[qH6]at h;exact h
 have c:W.cell? ⟨Bs,0,qx⟩=qw (.func (.func p) #[] #[]):=by
  rw[<-g,(((yN w.heap.size w).alloc (qPq _) (qIk x)).alloc (by rw[qH6];omega) (qIk y)).cell (p:=⟨Bs,0,qx⟩) d];exact j
 have b:W.heap.size=w.heap.size+2:=by rw[<-g,qH6,qH6]
 have c0:∀n os,(grow (W.drewN n) os).cell? ⟨Bs,0,qx⟩=qw (.func (.func p) #[] #[]):=cell_grown (by rw[b];show Bs<_;omega) c;obtain⟨H,I,L⟩:=u.at_;obtain⟨M,N,y2⟩:=B.at_;have V:=cell_grown (w:=W) (a:=⟨w.heap.size,0,qx⟩) (by rw[b];show w.heap.size<_;omega) H;have X:=cell_grown (w:=W) (a:=⟨w.heap.size,1,qx⟩) (by rw[b];show w.heap.size<_;omega) I;have Y:=cell_grown (w:=W) (a:=⟨w.heap.size,2,qx⟩) (by rw[b];show w.heap.size<_;omega) L;have Z:=cell_grown (w:=W) (a:=⟨w.heap.size+1,0,qx⟩) (by rw[b];show w.heap.size+1<_;omega) M;have a0:=cell_grown (w:=W) (a:=⟨w.heap.size+1,1,qx⟩) (by rw[b];show w.heap.size+1<_;omega) N;have a1:=cell_grown (w:=W) (a:=⟨w.heap.size+1,2,qx⟩) (by rw[b];show w.heap.size+1<_;omega) y2;have m:∀(z:Hd) n os,yC yG p #[hval z] (grow (W.drewN n) os) fun e w'=>e=qp (qV qj (f z))/\∃q i,w'=grow ((grow (W.drewN n) os).drewN q) i:=fun z n os=>
  (K.calls z _).mono fun e w' ⟨k,l⟩=>⟨k,0,#[qIk z],by rw[l,alloc_eq_grow];rfl⟩
 have F:=m x;have G:=m y;have o:∀n os,yC yG 168 #[qV qj (f x),qV qj (f y)] (grow (W.drewN n) os) fun e w'=>e=qp (qV qj (Lib.compareInt (f x) (f y)))/\∃q i,w'=grow ((grow (W.drewN n) os).drewN q) i:=fun n os=>
  (zKt _ _ _).mono fun e w' ⟨k,l⟩=>⟨k,0,#[],by rw[l,grow_empty];rfl⟩
 obtain⟨r,t⟩:=zB (Lib.compareInt (f x) (f y));rw[t]at o⊢;obtain⟨s,P,R,O⟩:=yS g F G o;clear g F G o m t H I L M N y2 u B c j K b;unfold hval at*;go_enter func167,ntmps167;go_wp2_with fail;rw[show(w.alloc (qm #[qV qj x.blk,qV qj x.st,qW x.txt] TH)).alloc (qm #[qV qj y.blk,qV qj y.st,qW y.txt] TH)=W from s.out];have S:prog.follows .mixedOrders=yD:=zf
 go_quiet_grown (first|(go_at_call 168;refine Calls.grown_of (O.out _ _))|(go_at_fn p;first|(refine Calls.grown_of (P.out _ _))|(refine Calls.grown_of (R.out _ _))));go_wp2;go_ret;refine⟨rfl,nq,#[qIk x,qIk y]++osq,?_⟩;rw[<-s.out,alloc_eq_grow,alloc_eq_grow,grow_grow];show grow (grow (w.drewN nq) _) osq=_;rw[grow_grow];rfl
end Cache
namespace Cache
open Go.Shelf Go.Lib Go.Sort
variable {w:qy} {g n B c:Nat} {os:Array Obj}
theorem qLa (l:List Hd):flatK hcells 3 l.toArray=(flat l).toArray:=by
 apply Array.ext
 ·rw[size_flatK];simp[zBg]
 ·intro i d h;have hi:i<kG (flat l):=by simpa using h
  obtain⟨x,m,k⟩:=zT2 l i (flat l)[i] (qPu hi);have j:i<l.toArray.size*3:=by rw[size_flatK]at d;exact d
  have e:=get_flatK hcells 3 l.toArray i j;rw[qS7 _ i d]at e;rw[e];have b:l.toArray[i/3]! =x:=by
   obtain⟨a,f⟩:=qSj.1 m;rw[getElem!_pos _ _ (by simpa using a)];simpa using f
  rw[b];obtain⟨a,f⟩:=qSj.1 k;rw[qS7 (hcells x) (i%3) a,f];simp
theorem qL {a:Array qz} {e:yA} {fr:Nat×Nat} (d:Array Hd) (b:w.heap[g]? =qw (qm a e fr)):
  (sortWorldK hcells 3 w g 0 n d os).heap[g]? =qw (qm (Sort.putCells id 0 (flatK hcells 3 d) a) e fr):=by
 have f:g<w.heap.size:=(qQ5.1 b).1;unfold sortWorldK putRowK;rw[Sort.heap_grow_old _ _ (by simpa using f)];simp[Sort.putRow,Sort.mapBlock,Sort.ahead,qQs,b,Sort.onCells]
theorem qJi (d:Array Hd):w.grownBy (sortWorldK hcells 3 w g 0 n d os) (qw g):=by
 unfold sortWorldK putRowK;refine⟨rfl,rfl,rfl,zm,fun k a hne=> ?_⟩;rw[Sort.heap_grow_old _ _ (by simpa using a)];have:g≠k:=fun e=>hne (by rw[e]);simp[Sort.putRow,Sort.mapBlock,Sort.ahead,qQs,this]
theorem qM4 (b:Array qz) (a:List qz) (h:kG a<=b.size):(Sort.putCells id 0 a.toArray b).toList.take (kG a)=a:=by
 apply qRt;intro j;by_cases d:j<kG a
 ·rw[qUe d,qS5];simp[Sort.putCells,d,show j<b.size by omega]
 ·rw[List.getElem?_take_eq_none za,qQp za]
theorem qI.holds {l:List Hd} (h:qI w B (qw ⟨g,0,qx⟩) n c l):HoldsK hcells 3 w g 0 l.toArray:=by
 unfold HoldsK;rw[qLa];intro j b;have a:j<kG (flat l):=by simpa using b
 have e:=h.len;have d:=zBg l;refine⟨?_,World.ownsRow.frozenAt h _⟩;rw[qQc,qTk h j za,qPu a,qS7 (flat l).toArray j b];simp
theorem qI.sorted {m:Nat} {l l':List Hd} (h:qI w B (qw ⟨g,0,qx⟩) n c l) (k:kG l'=n):qI (sortWorldK hcells 3 w g 0 m l'.toArray os) B (qw ⟨g,0,qx⟩) n c l':=by
 have d:=zBg l';obtain⟨q,i⟩:=h;refine⟨za,?_⟩;rcases i with⟨i,_⟩|⟨g',p,a,hv,b,j,e,f,o,r⟩
 ·cases i
 ·injection hv with ha hn hc
  injection ha with ha
  injection ha with ha
  subst ha hc;refine .inr ⟨g,c,_,rfl,b,qL _ j,e,f,by simp[Sort.putCells,o],?_⟩;rw[qLa,<-k,<-d];exact qM4 a _ za
theorem qMy (a b:Int):(Lib.compareInt a b<0)↔a<b:=by
 unfold Lib.compareInt;split
 ·rename_i h;constructor<;>intro _<;>omega
 ·split
  ·rename_i h1 h2;constructor<;>intro _<;>omega
  ·rename_i h1 h2;constructor<;>intro _<;>omega
theorem swo (a:Hd->Int):SWO (ltOf fun x y=>Lib.compareInt (a x) (a y)):=by
 have e:∀x y,(ltOf fun x y=>Lib.compareInt (a x) (a y)) x y=yF (a x<a y):=fun x y=>by
  show yF (Lib.compareInt (a x) (a y)<0)=_;rw[decide_eq_decide,qMy]
 exact⟨fun x=>by rw[e];simp,fun x y z b d=>by rw[e,qRl]at*;omega,fun x y z b d=>by rw[e,decide_eq_false_iff_not]at*;omega⟩
theorem zZc (p:Nat) (q:Hd->Int) (K:Key p q) (Bs B:Nat) (a:Option yB) (n c:Nat) (l:List Hd) (w:qy) (hm:n<=100000) (Y:B<=w.heap.size) (a0:Bs<B) (z:qI w B a n c l) (Z:w.cell? ⟨Bs,0,qx⟩=qw (.func (.func p) #[] #[])):
  yC yG 204 #[qX a n c,.func (.func 167) #[] #[qY (qw ⟨Bs,0,qx⟩)]] w fun e w'=>
   e=qp (qZ #[])/\∃l',l'.Perm l/\(l'.Pairwise fun x y=>q x<=q y)/\qI w' B a n c l'/\yI B w w':=by
 have O:=z.len;by_cases X:n=0
 ·subst X;have F:l=[]:=qQz O;subst F;exact(AnyF.slices_SortFunc_none qK2 a c _ w).mono fun e w' ⟨M,R⟩=>⟨M,[],List.Perm.nil,List.Pairwise.nil,by rw[R];exact z,by rw[R];exact yN _ _⟩
 ·obtain⟨g,rfl,a1,L,a3⟩:=z.at_ za;have r:CmpLays yG 167 #[qY (qw ⟨Bs,0,qx⟩)] hcells 3 (fun x y=>Lib.compareInt (q x) (q y)) g 0 l.toArray.size w:=by
   intro m os dk a2 x y;have I:(sortWorldK hcells 3 w g 0 m dk os).cell? ⟨Bs,0,qx⟩=qw (.func (.func p) #[] #[]):=by
    rw[qRe (w:=w) ((qJi dk).block Bs za (fun e=>by injection e with e;omega))];exact Z
   exact qOc p q K Bs x y _ I
  have h:=AnyQ.slices_SortFunc qK2 3 isAgg212 sizeOf212 hcells (fun _=>rfl) (fun x v hv=>by simp at hv;rcases hv with rfl|rfl|rfl<;>rfl) (fun x y=>Lib.compareInt (q x) (q y)) (swo q) 167 #[qY (qw ⟨Bs,0,qx⟩)] g 0 c l.toArray w (enters_of func167 zf rfl) r z.holds L zq;have b:l.toArray.size=n:=by simp[O]
  rw[b]at h;refine h.mono ?_;rintro e w' ⟨M,d',m,os,d,f,rfl⟩;obtain⟨s,_,o⟩:=d;have hd:d'.size=n:=by rw[s,b]
  have hp:d'.toList.Perm l:=by
   have V:d'.extract 0 n=d':=by rw[<-hd];simp
   have W:l.toArray.extract 0 n=l.toArray:=by rw[<-b];simp
   rw[V,W]at o;exact o
  refine⟨M,d'.toList,hp,?_,?_,(yN _ _).grown (qJi d') Y (fun k N=>by injection N with N;omega)⟩
  ·rw[qSf];intro i j hi hj S;have u:i<d'.size:=by simpa using hi
   have G:j<d'.size:=by simpa using hj
   have P:=f i j za S za;rw[qS7 d' i u,qS7 d' j G]at P;have H:¬Lib.compareInt (q d'[j]) (q d'[i])<0:=by simpa [ltOf]using P
   rw[qMy]at H;have t:q d'[i]<=q d'[j]:=za
   simpa using t
  ·have ht:=z.sorted (m:=m) (os:=os) (l':=d'.toList) (by simpa using hd);simpa using ht
end Cache
namespace Cache
open Go.Shelf
theorem qIw {fn:Func} {p:Tmp} {ty:yA} (h:fn.results= #[.cell p ty]) (tmps:Array qz) (P:Program) (w:qy) (a:yB) (v:qz) (d:tmps.getD p yJ=qY (qw a)) (c:(loadVar ty a).run P w= .ok v w):
  (results fn tmps).run P w= .ok v w:=by
 have b:tmps[p]?.getD yJ=qY (qw a):=by simpa using d
 simp[results,h,b,asAddr,c]
theorem qLr (w:qy) (r:Nat) (x:qz) (a:w.cell? ⟨r,0,qx⟩=qw x):(loadVar TSo ⟨r,0,qx⟩).run yG w= .ok (.agg #[x]) w:=by
 simp[loadVar,go_sem,a]
theorem qIm (w:qy) (r:Nat) (x y z:qz) (a:w.cell? ⟨r,0,qx⟩=qw x) (b:w.cell? ⟨r,1,qx⟩=qw y) (c:w.cell? ⟨r,2,qx⟩=qw z):(loadVar TS ⟨r,0,qx⟩).run yG w= .ok (.agg #[x,y,z]) w:=by
 simp[loadVar,go_sem,a,b,c]
theorem qJz (w:qy) (p:Nat):(store ⟨w.heap.size,0,qx⟩ (.func (.func p) #[] #[])).run yG (w.alloc (qm #[qg] TSo))= .ok () ((w.alloc (qm #[qg] TSo)).setCell ⟨w.heap.size,0,qx⟩ (.func (.func p) #[] #[])):=by
 rw[run_store _ _ _ _ _ rfl];simp
def qJ8 (p:Nat):qz:= .agg #[.func (.func p) #[] #[]]
theorem qMz (w:qy):yC yG 118 #[] w fun e w'=>e=qp (qJ8 164)/\yI w.heap.size w w':=by
 have a:=qJz w 164;go_enter func118,ntmps118;go_wp2;refine qP5 (v:=qJ8 164) ?_ rfl ?_
 ·exact qIw rfl _ _ _ ⟨w.heap.size,0,qx⟩ _ rfl (qLr _ _ _ zm)
 ·exact⟨rfl,(yN _ _).alloc (qPq _) _⟩
theorem qLn (w:qy):yC yG 321 #[] w fun e w'=>e=qp (qJ8 346)/\yI w.heap.size w w':=by
 have a:=qJz w 346;go_enter func321,ntmps321;go_wp2;refine qP5 (v:=qJ8 346) ?_ rfl ?_
 ·exact qIw rfl _ _ _ ⟨w.heap.size,0,qx⟩ _ rfl (qLr _ _ _ zm)
 ·exact⟨rfl,(yN _ _).alloc (qPq _) _⟩
theorem qKj (p:Nat) (d:Hd->Int) (K:Key p d) (Bs:Nat) (g:Nat) (lb:Array qz) (S:List Hd->Prop) (N:Nat) (P:N<=1000) (o:∀l,S l->kG l<=1000) (w:qy) (k:Bs<w.heap.size) (q:w.cell? ⟨Bs,0,qx⟩=qw (.func (.func p) #[] #[])) (m:∀args w,(callFunc g args).run yG w= .ok (.enter g args) w)
  (j:SeqStopsK Fence.wide 2 yG g lb (fun x:Hd=> #[hval x]) (KpW w.heap.size) S (fun _=>True) N w):
  yC yG 165 #[.func (.func g) #[] lb,.func (.func 167) #[] #[qY (qw ⟨Bs,0,qx⟩)]] w fun e w'=>
   ∃a n c l l',e=qp (qX a n c)/\S l/\l'.Perm l/\(l'.Pairwise fun x y=>d x<=d y)/\qI w' w.heap.size a n c l'/\yI w.heap.size w w':=by
 obtain⟨H,G,I⟩:=yR (zS5 g lb S N P w m j) q o;clear m j q o;go_enter func165,ntmps165;go_wp2_with fail;refine H.out.mono ?_;rintro e V ⟨a,n,c,l,rfl,h,i,f⟩;have R:n<=100000:=by have:=I.out l h;have:=i.len;omega
 have r:=zZc p d K Bs w.heap.size a n c l V R f.size k i (by rw[f.cell (p:=⟨Bs,0,qx⟩) k];exact G.out);obtain⟨b,B,F⟩:=yR r h f;clear h i f r;go_wp2_with fail;refine b.out.mono ?_;rintro e w2 ⟨rfl,l',s,t,u,z⟩;obtain⟨P1,L,M,O⟩:=yS s t u z;clear s t u z;go_wp2;go_ret;exact⟨a,n,c,l,l',rfl,B.out,P1.out,L.out,M.out,F.out.trans O.out⟩
theorem qJl (p:Nat) (t:Hd->Int) (K:Key p t) (a:Option yB) (m q:Nat) (l:List Hd) (z:kG l=m) (R:m<=1000) (w:qy) (u:qIg w a l):
  yC yG 119 #[qJ8 p,qX a m q] w fun e w'=>
   ∃a' n c l',e=qp (qX a' n c)/\l'.Perm l/\(l'.Pairwise fun x y=>t x<=t y)/\qI w' w.heap.size a' n c l'/\yI w.heap.size w w':=by
 obtain⟨W,s⟩:=zB ((w.alloc (qm #[.func (.func p) #[] #[]] TSo)).alloc (qm #[qX a m q] 34));have k:W.heap.size=w.heap.size+2:=by rw[<-s,qH6,qH6]
 have g:yI w.heap.size w W:=by rw[<-s];exact((yN _ w).alloc (qPq _) _).alloc (by rw[qH6];omega) _
 have j:W.cell? ⟨w.heap.size,0,qx⟩=qw (.func (.func p) #[] #[]):=by
  rw[<-s,((yN (w.heap.size+1) (w.alloc (qm #[.func (.func p) #[] #[]] TSo))).alloc (by rw[qH6];omega) (qm #[qX a m q] 34)).cell (p:=⟨w.heap.size,0,qx⟩) zm];simp
 have r:W.cell? ⟨w.heap.size+1,0,qx⟩=qw (qX a m q):=by rw[<-s];simp
 have i:∀b off,a=qw ⟨b,off,qx⟩->0<m->b<W.heap.size:=by
  intro b off P X;obtain⟨b',S,d,V,_⟩:=u.at_ 0 za;rw[P]at d;injection d with d
  injection d with d _
  omega
 have f:=qLw 2 W.heap.size (w.heap.size+1) za a m q l z za W (u.below g rfl) (qPq _) i za r;obtain⟨H,L,HB,o⟩:=yS (qKj p t K w.heap.size _ _ _ m R (fun l' h=>by rw[h];omega) W za j (enters_of func205 zf rfl) f) s g k;clear f i j r g k s u z K;unfold qJ8;go_enter func119,ntmps119;go_wp2_with fail;refine(qLx _ _ _ _).mono ?_;rintro e Y ⟨rfl,rfl⟩;go_wp2_with fail;rw[show(w.alloc (qm #[.func (.func p) #[] #[]] TSo)).alloc (qm #[qX a m q] 34)=W from L.out];refine H.out.mono ?_;rintro e w2 ⟨a',n,c,l1,l',rfl,rfl,B,F,G,I⟩;obtain⟨P1,M,N,O⟩:=yS B F G I;clear B F G I;go_wp2;go_ret;exact⟨a',n,c,l',rfl,P1.out,M.out,N.out.base (by have:=o.out;omega),HB.out.trans (O.out.mono (by have:=o.out;omega))⟩
end Cache
end Go.Proofs.YtppnakkaljbmbaaGreatDoor
