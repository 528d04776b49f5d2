/- Steps of a proof; no condition beyond what each states. -/
import Derived.Test.YtppnakkaljbmbaaGreatDoorZX00
import Derived.Test.YtppnakkaljbmbaaGreatDoorZX09
import Derived.Test.YtppnakkaljbmbaaGreatDoorZX14
set_option linter.unusedVariables false
set_option linter.unusedSimpArgs false
set_option maxRecDepth 100000
set_option maxHeartbeats 8000000
open List renaming length->kG
open Go.Proofs.YtppnakkaljbmbaaGreatDoor.Kit renaming Own->yg,zAr->xA,zAe->xE,zBo->xM
open Go.RowKit
open Go.Proofs.Tryz
open Go.Value renaming int->qV,string->qW,slice->qX,pointer->qY,tuple->qZ,bool->qc,iface->qh
open Go.IntKind renaming i64->qj,u8->ql
open Go.Obj renaming cells->qm
open Go.Ending renaming returned->qp
open Option renaming some->qw,none->qx
open Go renaming World->qy,Value->qz,TypeId->yA,Addr->yB,Calls->yC
open Bool renaming true->yD,false->yE
open Decidable renaming decide->yF
open Go.Proofs.Tryz renaming prog->yG
open Go.RowKit renaming Hid->yH,Below->yI
open List renaming range->yK
open Go.World renaming cell?->yM
open Go.RowKit.Below renaming refl->yN
namespace Go.Proofs.YtppnakkaljbmbaaGreatDoor
namespace St
open Go.Lib Go.Sort Go.Proofs
variable {α:Type} [Inhabited α]
structure Tw (t:α->α->Bool) (I:α->Nat) (n a:Nat) (d dk:Array α):Prop where
 mul:Mul 20 a
 fst:Fst I n 20 dk
 blk:Blk t n 20 0 a dk
 rest:∀p q,a<=p->p<q->q<n->I dk[p]! <I dk[q]!
 perm:PermIn 0 n d dk
theorem Tw.start {t:α->α->Bool} {I:α->Nat} {n:Nat} {d:Array α} (h:∀p q,p<q->q<n->I d[p]! <I d[q]!):Tw t I n 0 d d:=
 ⟨Mul.zero _,fun c _ p q e a b=>h p q za b,fun c _ _ a=>za,fun p q _ a b=>h p q a b,permIn_refl _ _ _⟩
theorem Tw.step {lt t:α->α->Bool} {I:α->Nat} {n a b:Nat} {d dk:Array α} (j:Ord lt t I) (h:Tw t I n a d dk) (r:n=d.size) (i:b=min (a+20) n) (o:a<=n):Tw t I n (a+20) d (insertionSort lt dk a b):=by
 have s:=h.perm.1;obtain⟨c,l⟩:=qAq j dk a b za za (fun m k f e g=>h.rest m k f e za);refine⟨h.mul.next,h.fst.perm h.mul za za za za c,h.blk.more h.mul za i c l,fun p q f e g=> ?_,?_⟩
 ·rw[c.2.1 p (.inr za),c.2.1 q (.inr za)];exact h.rest p q za e g
 ·exact permIn_trans _ _ _ _ _ h.perm (permIn_mono _ _ _ _ _ _ (qQq _) za za c)
theorem Tw.all {t:α->α->Bool} {I:α->Nat} {n a:Nat} {d dk:Array α} (h:Tw t I n a d dk) (g:n<=a):Fst I n 20 dk/\Blk t n 20 0 n dk:=
 ⟨h.fst,fun c b e f=>h.blk c b e za⟩
theorem zZb (enc:α->qz) (M:α->α->Int) {t:α->α->Bool} {I:α->Nat} (ho:Ord (ltOf M) t I) (g:Nat) (P:Array qz) (y off W:Nat) (d:Array α) (w0:qy) (eg:∀args w,(callFunc g args).run yG w= .ok (.enter g args) w)
  (a0:CmpLays1 yG g P enc M y off d.size w0) (R:Row1 enc w0 y off d) (a1:d.size<1000000) (w:qy) (S:SW enc w0 y off d w) (hI:∀p q,p<q->q<d.size->I d[p]! <I d[q]!):
  yC yG 242 #[qX (qw ⟨y,off,qx⟩) d.size W,qV qj (d.size:Int),.func (.func g) #[] P] w fun e w'=>e=qp (qZ #[])/\∃d',(PermIn 0 d.size d d'/\SortedIn t 0 d.size d')/\SW enc w0 y off d' w':=by
 have x:=R.hO.cells;simp only[Value.cells]at x;have S0:Aside (SW enc w0 y off d w):=S;obtain⟨HC,HO⟩:=yQ a0 ho;obtain⟨n,hn⟩:=zB d.size;rw[hn]at a1 hI⊢;obtain⟨T0,H⟩:=yQ (Tw.start (t:=t) hI) hn;clear S a0 ho hI hn;go_enter func242,ntmps242;go_wp2;go_loopg [7,8] n (fun Y s7 s8 wr=>∃(a:Nat) (dk:Array α),s7=qV qj a/\s8=qV qj ((a+20:Nat):Int)/\a<=n/\n-a<=Y/\yH (Tw t I n a d dk)/\Aside (SW enc w0 y off dk wr))
 case atStart=>exact⟨0,d,rfl,rfl,za,za,T0,S0⟩
 case round=>
  clear S0 T0;obtain⟨a,dk,rfl,rfl,k,o,TW,G⟩:=hrel;have c:dk.size=n:=by rw[TW.out.perm.1,H.out]
  obtain⟨b,V⟩:=zB (a+20);rw[V];by_cases r:b<=n
  ·have l:decide ((b:Int)<=(n:Int))=yD:=qP9 za;have z:=zH (insertionSortCmpFunc_s enc M g P y off W a b d dk w0 wr eg HC.out R (by rw[c,H.out]) G.out za za za);rw[c]at z;go_wp2_with fail;(with_reducible refine z.out.mono ?_);rintro e w2 ⟨rfl,h⟩;have S2:Aside (SW enc w0 y off (insertionSort (ltOf M) dk a b) w2):=h;have O:=zH (TW.out.step HO.out H.out.symm (b:=b) za k);rw[V]at O;clear h z TW G;go_wp2;go_roundg (n-b)
   case measure=>exact za
   case rel=>exact⟨b,_,rfl,by go_num,za,za,O,S2⟩
  ·have l:decide ((b:Int)<=(n:Int))=yE:=qP1 za;have z:=zH (insertionSortCmpFunc_s enc M g P y off W a n d dk w0 wr eg HC.out R (by rw[c,H.out]) G.out za za za);rw[c]at z;go_wp2_with fail;(with_reducible refine z.out.mono ?_);rintro e w2 ⟨rfl,h⟩;have S2:Aside (SW enc w0 y off (insertionSort (ltOf M) dk a n) w2):=h;have O:=zH (TW.out.step HO.out H.out.symm (b:=n) za k);obtain⟨A2,P2⟩:=yQ (O.out.all za) O.out.perm;clear O z TW h G l r V k o;go_wp2;go_loopg [6,7,8] n (fun Y s6 s7 s8 wr=>∃(s:Nat) (dk:Array α),s6=qV qj s/\0<s/\s<=2000000/\n-s<=Y/\yH (Fst I n s dk/\Blk t n s 0 n dk)/\yH (PermIn 0 n d dk)/\Aside (SW enc w0 y off dk wr))
   case atStart=>exact⟨20,_,rfl,za,za,za,A2,P2,S2⟩
   case round=>
    clear S2 P2 A2;obtain⟨s,dk,rfl,j,h,o,Z,K,G⟩:=hrel;have c:dk.size=n:=by rw[K.out.1,H.out]
    by_cases r:s<n
    ·have l:decide ((s:Int)<(n:Int))=yD:=qP9 za;have L0:=zH (Lev.start Z.out.1 Z.out.2);clear Z c;go_wp2;go_loopg [7,8] n (fun Y s7 s8 wr=>∃(a:Nat) (dk:Array α),s7=qV qj a/\s8=qV qj ((a+2*s:Nat):Int)/\a<=n/\n-a<=Y/\yH (Lev t I n s a dk)/\yH (PermIn 0 n d dk)/\Aside (SW enc w0 y off dk wr))
     case atStart=>exact⟨0,dk,rfl,by go_num,za,za,L0,K,G⟩
     case round=>
      clear L0 K G dk;obtain⟨a,dk,rfl,rfl,k,o,L,K,G⟩:=hrel;have c:dk.size=n:=by rw[K.out.1,H.out]
      obtain⟨b,V⟩:=zB (a+2*s);rw[V];by_cases u:b<=n
      ·have B:decide ((b:Int)<=(n:Int))=yD:=qP9 za;have z:=zH (zUj enc M HO.out g P y off W d w0 eg HC.out R (by rw[H.out];omega) (b-a) a (a+s) b (qPq _) za za dk wr (by rw[c,H.out]) G.out za (L.out.pre za za j za));rw[c]at z;obtain⟨m,hm⟩:=zB (a+s);rw[hm]at z;have em:(a:Int)+(s:Int)=(m:Int):=za
       go_wp2_with fail;(with_reducible refine z.out.mono ?_);rintro e w3 ⟨rfl,X,f,i⟩;have S3:Aside (SW enc w0 y off X w3):=i;obtain⟨N,P3⟩:=yQ (L.out.more (b:=b) za za j za f.1 f.2) (permIn_trans _ _ _ _ _ K.out (permIn_mono _ _ _ _ _ _ (qQq _) u za f.1));rw[V]at N;clear i z L K G f em;go_wp2;go_roundg (n-b)
       case measure=>exact za
       case rel=>exact⟨b,X,rfl,by go_num,za,za,N,P3,S3⟩
      ·have B:decide ((b:Int)<=(n:Int))=yE:=qP1 za;obtain⟨m,hm⟩:=zB (a+s);have em:(a:Int)+(s:Int)=(m:Int):=za
       by_cases a2:m<n
       ·have F:decide ((m:Int)<(n:Int))=yD:=qP9 za;have z:=zH (zUj enc M HO.out g P y off W d w0 eg HC.out R (by rw[H.out];omega) (n-a) a (a+s) n (qPq _) za za dk wr (by rw[c,H.out]) G.out za (L.out.pre za za j za));rw[c,hm]at z;go_wp2_with fail;(with_reducible refine z.out.mono ?_);rintro e w3 ⟨rfl,X,f,i⟩;have S3:Aside (SW enc w0 y off X w3):=i;obtain⟨N,P3⟩:=yQ ((L.out.more (b:=n) za za j za f.1 f.2).end_ za) (permIn_trans _ _ _ _ _ K.out (permIn_mono _ _ _ _ _ _ (qQq _) (qPq _) za f.1));clear i z L K G f em;go_wp2;go_roundg (n-2*s)
        case measure=>exact za
        case rel=>exact⟨2*s,X,by go_num,za,za,za,N,P3,S3⟩
       ·have F:decide ((m:Int)<(n:Int))=yE:=qP1 za;have N:=zH ((L.out.tail j za).end_ za);clear L;go_wp2;go_roundg (n-2*s)
        case measure=>exact za
        case rel=>exact⟨2*s,dk,by go_num,za,za,za,N,K,G⟩
    ·have l:decide ((s:Int)<(n:Int))=yE:=qP1 za;have HF:=zH (Z.out.2.all za);go_wp2;go_end0;exact⟨rfl,dk,⟨K.out,HF.out⟩,G.out⟩
theorem zP3 (enc:α->qz) (f:α->α->Int) {t:α->α->Bool} {I:α->Nat} (u:Ord (ltOf f) t I) (g:Nat) (c:Array qz) (b off i:Nat) (d:Array α) (r:∀args w,(callFunc g args).run yG w= .ok (.enter g args) w)
  (w:qy) (h:CmpLays1 yG g c enc f b off d.size w) (R:Row1 enc w b off d) (j:d.size<1000000) (S:SW enc w b off d w) (l:∀p q,p<q->q<d.size->I d[p]! <I d[q]!):
  yC yG 181 #[qX (qw ⟨b,off,qx⟩) d.size i,.func (.func g) #[] c] w fun e w'=>e=qp (qZ #[])/\∃d',(PermIn 0 d.size d d'/\SortedIn t 0 d.size d')/\SW enc w b off d' w':=by
 have k:=zH (zZb enc f u g c b off i d w r h R j w S l);obtain⟨n,m⟩:=zB d.size;rw[m]at k⊢;clear h R j S l m;go_enter func181,ntmps181;go_wp2_with fail;(with_reducible refine k.out.mono ?_);rintro e w2 ⟨rfl,o,s,a⟩;go_wp2;go_end0;exact⟨rfl,o,s,a⟩
end St
namespace St
open Go.Shelf Go.Lib Go.Sort Go.Proofs Tn Front
variable {w:qy} {g n B c m k:Nat} {os:Array Obj} {e:yA} {K:Nat->Nat}
theorem zRe {α:Type} [Inhabited α] (enc:α->qz) {a:Array qz} {fr:Nat×Nat} (d:Array α) (b:w.heap[g]? =qw (qm a e fr)):
  (sortWorld enc w g 0 n d os).heap[g]? =qw (qm (Sort.putCells enc 0 d a) e fr):=by
 have f:g<w.heap.size:=(qQ5.1 b).1;unfold sortWorld;rw[qUb _ _ (by rw[size_putRow];exact f)];simp[Sort.putRow,Sort.mapBlock,Sort.ahead,qQs,b,Sort.onCells]
theorem zD7 {α:Type} [Inhabited α] (enc:α->qz) (d:Array α):w.grownBy (sortWorld enc w g 0 n d os) (qw g):=by
 unfold sortWorld;refine⟨rfl,rfl,rfl,by simp[Sort.putRow,Sort.mapBlock,Sort.ahead],fun k a hne=> ?_⟩;rw[qUb _ _ (by rw[size_putRow];exact a)];have:g≠k:=fun e=>hne (by rw[e]);simp[Sort.putRow,Sort.mapBlock,Sort.ahead,qQs,this]
theorem zWg {α:Type} [Inhabited α] (enc:α->qz) (a:Array qz) (d:Array α) (h:d.size<=a.size):(Sort.putCells enc 0 d a).toList.take d.size=d.toList.map enc:=by
 apply qRt;intro j;by_cases b:j<d.size
 ·rw[qUe b,qS5,qP2,qS5];simp[Sort.putCells,b,show j<a.size by omega]
 ·rw[List.getElem?_take_eq_none za,qQp zq]
theorem zKi {α:Type} [Inhabited α] (enc:α->qz) {xs:List qz} (h:yg w B e (qw ⟨g,0,qx⟩) n c xs) (d:Array α) (hd:d.size=n):yg (sortWorld enc w g 0 m d os) B e (qw ⟨g,0,qx⟩) n c (d.toList.map enc):=by
 obtain⟨q,j⟩:=h;refine⟨by simp[hd],?_⟩;rcases j with⟨j,_⟩|⟨g',p,a,hv,b,o,i,f,l,r⟩
 ·cases j
 ·injection hv with ha hn hc
  injection ha with ha
  injection ha with ha
  subst ha hc;refine .inr ⟨g,c,_,rfl,b,zRe enc d o,i,f,by simp[Sort.putCells,l],?_⟩;rw[Nat.mul_one,<-hd];exact zWg enc a d (by rw[l];omega)
theorem zOk {α:Type} [Inhabited α] (enc:α->qz) {d:Array α} (h:yg w B e (qw ⟨g,0,qx⟩) n c (d.toList.map enc)) (f:0<n):Holds enc w g 0 d:=by
 obtain⟨g',a,_,_,_,i,l⟩:=h.at_ f;injection a with a
 injection a with a _ _
 subst a;have o:=h.len;intro j b;rw[qQi,Array.length_toList]at o;refine⟨?_,l _⟩;rw[qQc,i j za,qP2,qS5,qT2 b,qS7 d j b];rfl
theorem zT4 {α:Type} (d:Array α) (h:d.size=n):d.extract 0 n=d:=by subst h;simp
def tK (K:Nat->Nat) (x y:Fin (k+1)):Bool:=yF (K x.val<K y.val)||(K x.val==K y.val&&yF (x.val<y.val))
theorem zM3 {x y:Fin (k+1)}:tK K x y=yD↔K x.val<K y.val\/(K x.val=K y.val/\x.val<y.val):=by simp[tK]
theorem zK0 {x y:Fin (k+1)}:tK K x y=yE↔K y.val<K x.val\/(K y.val=K x.val/\y.val<=x.val):=by
 rw[<-Bool.not_eq_true,zM3];omega
theorem qEv (K:Nat->Nat) (k:Nat):SWO (tK K (k:=k)):=
 ⟨fun x=>by rw[zK0];omega,fun x y z a b=>by rw[zM3]at*;omega,fun x y z a b=>by rw[zK0]at*;omega⟩
def cfF (n m:Nat) (f:Nat->Nat) (x y:Fin (k+1)):Int:=cf2 n m f x.val y.val
theorem qFf {f:Nat->Nat} (b:n=k+1) (h:∀i j,i<n->j<n->(cf2 n m f i j<0↔K i<K j)):Ord (ltOf (cfF n m f (k:=k))) (tK K) (fun x=>x.val):=by
 refine⟨qEv K k,fun x y a=> ?_⟩;rw[qSg,zM3];show yF (cf2 n m f y.val x.val<0)=yD↔_;rw[qRl,h y.val x.val za za];omega
def zG1 (x:Fin (k+1)):qz:=qV qj ((x.val:Nat):Int)
theorem qA6:OneCell (zG1 (k:=k)):=by
 intro x;rfl
def fr (k:Nat):Array (Fin (k+1)):=(List.finRange (k+1)).toArray
theorem zFq (k:Nat):(fr k).size=k+1:=by simp[fr]
theorem qF6 (k:Nat):(fr k).toList.map zG1=(yK (k+1)).map ival:=by
 apply qRt;intro j;by_cases a:j<k+1
 ·simp[fr,a,zG1,ival]
 ·rw[qQp (by simp[fr];omega),qQp zq]
theorem qCa (k j:Nat) (h:j<k+1):((fr k)[j]!).val=j:=by
 rw[qS7 (fr k) j (by rw[zFq];exact h)];simp[fr]
theorem zGc {d:Array (Fin (k+1))} (r:PermIn 0 (k+1) (fr k) d) (s:SortedIn (tK K) 0 (k+1) d):
  (d.toList.map Fin.val).Perm (yK (k+1))/\By K (d.toList.map Fin.val)/\d.size=k+1:=by
 obtain⟨c,_,b⟩:=r;have hd:d.size=k+1:=by rw[c,zFq]
 have a:(d.toList.map Fin.val).Perm (yK (k+1)):=by
  rw[zT4 d hd,zT4 (fr k) (zFq k)]at b;have q:=b.map Fin.val;refine q.trans ?_;have:(fr k).toList.map Fin.val=yK (k+1):=by
   apply qRt;intro j;by_cases l:j<k+1
   ·simp[fr,l]
   ·rw[qQp (by simp[fr];omega),qQp zq]
  rw[this]
 have h:(d.toList.map Fin.val).Nodup:=a.nodup_iff.2 qTw;refine⟨a,?_,hd⟩;unfold By;rw[qSf];intro i j hi l o;have g:i<d.size:=by simpa using hi
 have f:j<d.size:=by simpa using l
 have p:=s i j za o za;rw[qS7 d i g,qS7 d j f,zK0]at p;have hne:(d.toList.map Fin.val)[i]≠(d.toList.map Fin.val)[j]:=fun e=>by
  have:=zOo h hi l e;omega
 simp only[List.getElem_map,Array.getElem_toList]at hne⊢;omega
abbrev TI_:yA:=305
def iv (r:RK):qz:=qh TR (rv r)
theorem zWu (r:RK) (b i j:Nat) (f:Nat->Nat) (w:qy) (q:r.s.size=r.n) (p:r.n<=1000000) (o:r.m<=2000000) (hi:i<r.n) (l:j<r.n) (h:∀k,k<r.n->w.cell? ⟨r.N,k,qx⟩=qw (qV qj (f k:Int))) (d:w.cell? ⟨b,0,qx⟩=qw (iv r)):
  yC yG 182 #[qV qj (i:Int),qV qj (j:Int),qY (qw ⟨b,0,qx⟩)] w fun e w'=>e=qp (qV qj (cf2 r.n r.m f i j))/\Grn w w':=by
 have a:=zH (zKt r i j f w q p o hi l h);obtain⟨v,hv⟩:=zB (cf2 r.n r.m f i j);rw[hv]at a⊢;clear q p o hi l h hv;unfold iv at d;unfold rv at d a;have t:∀w,(method 625 TR (.agg #[qW r.s,qX (qw ⟨r.N,0,qx⟩) r.n r.c,qV qj (r.m:Int)]) "pressmark/turns.compare").run yG w= .ok (130,.agg #[qW r.s,qX (qw ⟨r.N,0,qx⟩) r.n r.c,qV qj (r.m:Int)]) w:=fun _=>zf
 go_enter func182,ntmps182;go_wp2_with fail;(with_reducible refine a.out.mono ?_);rintro e w2 ⟨rfl,s⟩;go_wp2;go_ret;exact⟨rfl,s⟩
theorem qHr (r:RK) (k S G:Nat) (f:Nat->Nat) (W:qy) (t:r.n=k+1) (q:r.s.size=r.n) (p:r.n<=1000000) (o:r.m<=2000000) (i:∀k,k<r.n->W.cell? ⟨r.N,k,qx⟩=qw (qV qj (f k:Int))) (h:W.cell? ⟨S,0,qx⟩=qw (iv r)) (b:r.N≠G) (d:S≠G):
  CmpLays1 yG 182 #[qY (qw ⟨S,0,qx⟩)] (zG1 (k:=k)) (cfF r.n r.m f) G 0 (fr k).size W:=by
 intro m os dk s x y;have a:=zD7 (zG1 (k:=k)) (w:=W) (g:=G) (n:=m) (os:=os) dk;exact zWu r S x.val y.val f _ q p o za za (fun j l=>a.cell (i j l) (fun e=>by injection e with e;exact b e)) (a.cell h (fun e=>by injection e with e;exact d e))
theorem zZc (r:RK) (K f:Nat->Nat) (G c B:Nat) (w:qy) (hs:r.s.size=r.n) (H:0<r.n) (O:r.n<=100000) (hm:r.m<=2000000) (X:∀i j,i<r.n->j<r.n->(cf2 r.n r.m f i j<0↔K i<K j)) (L:r.N≠G) (hc:∀k,k<r.n->w.cell? ⟨r.N,k,qx⟩=qw (qV qj (f k:Int)))
  (P:yg w B 3 (qw ⟨G,0,qx⟩) r.n c ((yK r.n).map ival)):
  yC yG 129 #[qX (qw ⟨G,0,qx⟩) r.n c,iv r] w fun e w'=>e=qp (qZ #[])/\∃o:List Nat,o.Perm (yK r.n)/\By K o/\yg w' B 3 (qw ⟨G,0,qx⟩) r.n c (o.map ival)/\w.grownBy w' (qw G):=by
 obtain⟨k,z⟩:∃k,r.n=k+1:=⟨r.n-1,za⟩;obtain⟨S,M⟩:=zB w.heap.size;obtain⟨W,y⟩:=zB (w.alloc (qm #[iv r] TI_));have u:G<w.heap.size:=by
  obtain⟨g',a,_,a0,_⟩:=P.at_ H;injection a with a
  injection a with a _ _
  omega
 have Z:W.cell? ⟨S,0,qx⟩=qw (iv r):=by rw[<-y,<-M];simp
 have l:w.grownBy W (qw G):=by rw[<-y];exact qR4 w _ _
 have b:yg W B 3 (qw ⟨G,0,qx⟩) r.n c ((fr k).toList.map zG1):=by rw[qF6,<-z,<-y];exact P.alloc _
 have t:∀k,k<r.n->W.cell? ⟨r.N,k,qx⟩=qw (qV qj (f k:Int)):=fun j hj=>l.cell (hc j hj) (fun e=>by injection e with e;exact L e);have N:=zOk zG1 b H;have g:=zP3 (zG1 (k:=k)) (cfF r.n r.m f) (qFf z X) 182 #[qY (qw ⟨S,0,qx⟩)] G 0 c (fr k) (enters_of func182 zf rfl) W (qHr r k S G f W z hs za hm t Z L za) ⟨qA6,N,by rw[<-y];simp;omega⟩ (by rw[zFq];omega) (SW.start N) (fun p q I s=>by rw[zFq]at s;rw[qCa k p za,qCa k q s];exact I);rw[zFq]at g;have HF:=yP (∀d w',(PermIn 0 (k+1) (fr k) d/\SortedIn (tK K) 0 (k+1) d)/\SW zG1 W G 0 d w'->∃o:List Nat,o.Perm (yK (k+1))/\By K o/\yg w' B 3 (qw ⟨G,0,qx⟩) (k+1) c (o.map ival)/\w.grownBy w' (qw G)) (fun d w' h=>by
  obtain⟨⟨I,s⟩,m,os,rfl⟩:=h;obtain⟨h3,h4,h5⟩:=zGc I s;rw[z]at b;refine⟨_,h3,h4,?_,l.trans (zD7 _ _)⟩;have h6:=zKi (zG1 (k:=k)) (m:=m) (os:=os) b d h5;rw[qRr];exact h6)
 obtain⟨F,V,HS⟩:=yR g y M;clear g y M Z l b t N u hc P X L hs O hm H;unfold iv at*;rw[z];clear z;obtain⟨n,O⟩:=zB (k+1);obtain⟨R,Y⟩:=zB (rv r);rw[Y]at V⊢;clear Y O;go_enter func129,ntmps129;go_wp2_with fail;rw[HS.out,show w.alloc (qm #[qh TR R] TI_)=W from V.out];(with_reducible refine F.out.mono ?_);rintro e w2 ⟨rfl,d2,s,x⟩;go_wp2;go_end0;exact⟨rfl,HF.out d2 w2 ⟨s,x⟩⟩
end St
namespace St
open Go.Lib Go.Sort Go.Proofs Front
theorem zHf:∀{l m:List Int},l.Perm m->l.Pairwise (·<=·)->m.Pairwise (·<=·)->l=m
 |[],m,hp,_,_=>hp.symm.eq_nil.symm▸rfl
 |x::l,m,hp,hl,hm=>by
  cases m with
  |nil=>exact absurd hp.length_eq zm
  |cons y m=>
   obtain⟨b,c⟩:=qQ1.1 hl;obtain⟨d,f⟩:=qQ1.1 hm;have e:x=y:=by
    rcases qP7.1 (hp.mem_iff.1 (qTv))with e|g
    ·exact e
    ·rcases qP7.1 (hp.mem_iff.2 (qTv (a:=y) (l:=m)))with e|h
     ·exact e.symm
     ·have i:=b y h;have j:=d x g;omega
   subst e;rw[zHf (hp.cons_inv) c f]
def zs (l:List Nat):List Int:=l.map fun k:Nat=>(k:Int)
theorem qCj {l:List Nat} {n:Nat} (d:l.Perm (yK n)):(zs l).mergeSort (fun x y=>decide (x<=y))=zs (yK n):=by
 refine zHf ((List.mergeSort_perm _ _).trans (d.map _)) ?_ ?_
 ·have h:=List.pairwise_mergeSort (le:=fun x y:Int=>decide (x<=y)) (fun a b c e f=>by simp at*;omega) (fun a b=>zq) (zs l);exact h.imp (fun h=>by simpa using h)
 ·unfold zs;rw[List.pairwise_map];have h:(yK n).Pairwise (·<·):=List.pairwise_lt_range;exact h.imp (fun h=>za)
theorem zV1 (l:List Nat):(zs l).map (Value.int qj)=l.map ival:=by unfold zs;rw[qRr];rfl
theorem zXp (l:List Nat) (g n c B:Nat) (w:qy) (k:kG l=n) (b:0<n) (r:n<=1000000) (h:yg w B 3 (qw ⟨g,0,qx⟩) n c (l.map ival)) (o:l.Perm (yK n)):
  yC yG 128 #[qX (qw ⟨g,0,qx⟩) n c] w fun e w'=>e=qp (qZ #[])/\yg w' B 3 (qw ⟨g,0,qx⟩) n c ((yK n).map ival)/\w.grownBy w' (qw g):=by
 have p:kG (zs l)=n:=by unfold zs;rw[qQi,k]
 have j:Holds (Value.int qj) w g 0 (zs l).toArray:=zOk (Value.int qj) (by simpa [zV1]using h) b;have i:g<w.heap.size:=by
  obtain⟨g',a,_,q,_⟩:=h.at_ b;injection a with a
  injection a with a _ _
  omega
 have d:=slices_Sort_int g 0 c (zs l) w j i za;rw[p]at d;refine d.mono ?_;rintro e w' ⟨rfl,m,os,rfl⟩;rw[qCj o];have f:=zKi (Value.int qj) (m:=m) (os:=os) h (zs (yK n)).toArray (by simp[zs]);rw[show((zs (yK n)).toArray.toList.map (Value.int qj))=(yK n).map ival from by rw[<-zV1]]at f;exact⟨rfl,f,zD7 (Value.int qj) _⟩
end St
namespace St
open Go.Lib Go.Sort Go.Proofs Tn Bt Front Zr Wg
variable {w w' w0:qy} {R N' a c B G n N m:Nat} {V:Int} {l o:List Nat} {s:ByteArray} {f:Nat->Nat}
def RX (w:qy) (R:Nat) (r:RK):Prop:=w.heap[R]? =qw (qm #[qW r.s,qX (qw ⟨r.N,0,qx⟩) r.n r.c,qV qj (r.m:Int)] TR)
theorem RX.rb {r:RK} (h:RX w R r):RB w R r:=by
 unfold RX at h;refine⟨?_,?_,?_⟩<;>simp[yM,h]
theorem RX.fr {r:RK} (h:RX w R r) (i:Nat):w.frozen? ⟨R,i,qx⟩=yE:=by
 unfold RX at h;simp[World.frozen?,h]
theorem RX.lt {r:RK} (h:RX w R r):R<w.heap.size:=(qQ5.1 h).1
theorem RX.keep {r:RK} (h:RX w R r) (e:w'.heap[R]? =w.heap[R]?):RX w' R r:=e.trans h
theorem RX.set1 {r:RK} (h:RX w R r):RX (w.setCell ⟨R,1,qx⟩ (qX (qw ⟨N',0,qx⟩) r.n r.n)) R ⟨r.s,N',r.n,r.n,r.m⟩:=by
 unfold RX at*;simp[World.setCell,qQs,h]
theorem RX.set2 {m':Nat} {r:RK} (h:RX w R r) (b:V=(m':Int)):RX (w.setCell ⟨R,2,qx⟩ (qV qj V)) R ⟨r.s,r.N,r.n,r.c,m'⟩:=by
 subst b;unfold RX at*;simp[World.setCell,qQs,h]
theorem zCw {k:Nat} (i:Nat) (v:qz) (h:a≠k):(w.setCell ⟨a,i,qx⟩ v).heap[k]? =w.heap[k]? :=by
 simp[World.setCell,qQs,h]
theorem zMb {D:Nat} {p:Option yB} {j:Nat} (h:yg w D 3 p j c (l.map ival)) (x:Nat) (t:j<=1000000) (g:D<=w.heap.size):
  ∃e c' w',(Builtin.append_ #[23,23] 23 #[qX p j c,qX (qw ⟨w.heap.size,0,qx⟩) 1 1]).run yG (w.alloc (qm #[qV qj (x:Int)] 3))= .ok (qX e (j+1) c') w'/\
   yg w' D 3 e (j+1) c' ((l++[x]).map ival)/\yI D w w':=by
 obtain⟨k,c3,r,a,d,b⟩:=Kit.Own.app (ty:=23) (w:=w.alloc (qm #[qV qj (x:Int)] 3)) zFn (h.alloc _) (qw ⟨w.heap.size,0,qx⟩) 1 1 [ival x] (Kit.zAs w _ 3) rfl (fun h=>by cases h) (zDr [x]) (by unfold maxLen;omega) za zq;refine⟨k,c3,r,a,by rw[qQd];exact d,?_⟩;exact((yN _ _).alloc g _).trans ((yN _ _).grown b zq (fun q i=>h.block q i))
structure OS (w0:qy) (B G c:Nat) (s:ByteArray) (n:Nat) (l o:List Nat) (N m:Nat) (f:Nat->Nat) (w:qy):Prop where
 own:yg w (B+2) 3 (qw ⟨G,0,qx⟩) n c (o.map ival)
 box:RX w (B+1) ⟨s,N,n,n,m⟩
 arr:zAm w N 3 n f
 below:yI B w0 w
 bg:B+2<=G
 gn:N≠G/\N≠B+1/\B<=N
 perm:o.Perm (yK n)
 rk:Rk l f (up1 m)
theorem OS.sorted {d:List Nat} (h:OS w0 B G c s n l o N m f w) (r:yg w' (B+2) 3 (qw ⟨G,0,qx⟩) n c (d.map ival)) (t:d.Perm (yK n)) (b:w.grownBy w' (qw G)):OS w0 B G c s n l d N m f w':=by
 have i:=h.bg;have j:=h.gn;have k:=h.box.lt;have p:=h.arr.lt;exact⟨r,h.box.keep (b.block _ k (fun e=>by injection e with e;omega)),h.arr.keep (b.block _ p (fun e=>by injection e with e;omega)),h.below.trans ((yN _ _).grown b za (fun q g=>by injection g with g;omega)),i,j,t,h.rk⟩
theorem OS.alloc (h:OS w0 B G c s n l o N m f w) (x:Obj):OS w0 B G c s n l o N m f (w.alloc x):=by
 have b:=h.box.lt;have d:=h.arr.lt;exact⟨h.own.alloc _,h.box.keep (Lib.alloc_old w _ _ b),h.arr.keep (Lib.alloc_old w _ _ d),h.below.alloc za _,h.bg,h.gn,h.perm,h.rk⟩
theorem OS.grn (h:OS w0 B G c s n l o N m f w) (g:Grn w w'):OS w0 B G c s n l o N m f w':=by
 have b:=h.box.lt;have d:=h.arr.lt;exact⟨h.own.below g.below (qPq _),h.box.keep (g.block _ b),h.arr.keep (g.block _ d),h.below.trans (g.below.mono za),h.bg,h.gn,h.perm,h.rk⟩
theorem OS.drew (h:OS w0 B G c s n l o N m f w):OS w0 B G c s n l o N m f w.drew:=h.grn (Grn.drew w)
theorem OS.zCw (h:OS w0 B G c s n l o N m f w) (j:a≠G) (d:a≠N) (g:a≠B+1) (b:B<=a) (i:Nat) (v:qz):OS w0 B G c s n l o N m f (w.setCell ⟨a,i,qx⟩ v):=
 ⟨qRy h.own (zB1 w a i v) (.inr (by intro e;simp[Value.ownBlock]at e;omega)),h.box.keep (St.zCw _ _ g),h.arr.keep (St.zCw _ _ d),h.below.setCell (p:=⟨a,i,qx⟩) b v,h.bg,h.gn,h.perm,h.rk⟩
theorem OS.next {M:Nat} {F:Nat->Nat} (h:OS w0 B G c s n l o N m f w) (g:zAm w N' 3 n F) (j:N'≠G) (k:N'≠B+1) (i:B<=N') (b:Rk l F (up1 M)) (q:V=(M:Int)):
  OS w0 B G c s n l o N' M F ((w.setCell ⟨B+1,1,qx⟩ (qX (qw ⟨N',0,qx⟩) n n)).setCell ⟨B+1,2,qx⟩ (qV qj V)):=by
 have d:=h.bg;refine⟨qRy (qRy h.own (zB1 w (B+1) 1 _) (.inr (by intro e;simp[Value.ownBlock]at e;omega))) (zB1 _ (B+1) 2 _) (.inr (by intro e;simp[Value.ownBlock]at e;omega)),?_,?_,(h.below.setCell (p:=⟨B+1,1,qx⟩) (qRu B) _).setCell (p:=⟨B+1,2,qx⟩) (qRu B) _,d,⟨j,k,i⟩,h.perm,b⟩
 ·exact RX.set2 (RX.set1 (N':=N') h.box) q
 ·exact(g.keep (St.zCw (a:=B+1) 1 _ za)).keep (St.zCw (a:=B+1) 2 _ za)
def fk (l:List Nat) (k j:Nat):Nat:=if j<k then l.getD j 0 else 0
theorem zOm (s:ByteArray) (n:Nat) (hn:s.size=n) (h0:0<n) (hs:n<=100000) (w:qy):
  yC yG 47 #[qW s] w fun e w'=>∃G c,e=qp (qX (qw ⟨G,0,qx⟩) n c)/\yg w' w.heap.size 3 (qw ⟨G,0,qx⟩) n c ((zHx (bl s)).map ival)/\yI w.heap.size w w':=by
 obtain⟨B,hB⟩:=zB w.heap.size;have L:=zF2 w n za;rw[hB]at L;obtain⟨l,hl⟩:=zB (bl s);have a9:kG l=n:=by rw[<-hl,zB2,hn]
 have aa:∀(i:Nat) (h:i<s.size),l.getD i 0=s[i].toNat:=fun i h=>by rw[<-hl,zRx s i h]
 have av:Bytes l:=by
  rw[<-hl];intro x hx;obtain⟨u,_,rfl⟩:=qQf.1 hx;exact qTf u
 rw[hl];obtain⟨r,bf,a8⟩:=yR a9 aa av;obtain⟨W1,Y⟩:=zB (w.alloc (qm (cellsOf n (fun _=>qV qj 0)) 3));have z1:W1.heap.size=B+1:=by rw[<-Y,zA,hB]
 obtain⟨W,hW⟩:=zB (W1.alloc (zNa ⟨s,B,n,n,0⟩));have bn:W.heap.size=B+2:=by rw[<-hW,zA,z1]
 have ba:zAm W B 3 n (fk l 0):=by
  have h:=zAm.zeros B w n 3 hB;rw[Y]at h;rw[<-hW];exact(h.keep (Lib.alloc_old W1 _ B za)).congr (fun k _=>by simp[fk])
 have b2:RX W (B+1) ⟨s,B,n,n,0⟩:=by
  unfold RX;rw[<-hW,<-z1];show(W1.heap.push _)[W1.heap.size]? =_;simp
 have au:yI B w W:=by
  rw[<-hW,<-Y,<-hB];exact((yN _ _).alloc (qPq _) _).alloc (by rw[zA];omega) _
 obtain⟨b4,ak,az⟩:=yR ba b2 au;rw[hB];obtain⟨b3,HW⟩:=yQ Y hW;clear hl a9 aa av ba b2 au z1 Y hW bn;go_enter func47,ntmps47;go_wp2;clear L;rw[show(w.alloc (qm (cellsOf n fun x=>qV qj 0) 3)).alloc (qm #[qW s,qX (qw ⟨B,0,qx⟩) n n,qV qj 0] TR)=W from by rw[b3.out];exact HW.out];clear b3 HW hB W1;go_loopw [2,15] (fun ov iv wr=>∃(k c:Nat) (p:Option yB),k<=n/\iv=qV qj k/\ov=qX p k c/\yH (yg wr (B+2) 3 p k c ((yK k).map ival))/\yH (zAm wr B 3 n (fk l k))/\yH (RX wr (B+1) ⟨s,B,n,n,0⟩)/\yH (yI B w wr)) (fun _ iv _=>n-(intOf iv).toNat)
 case atStart=>exact⟨0,0,qx,za,rfl,rfl,zH (Kit.Own.start _ _ _),b4,ak,az⟩
 case round=>
  clear b4 ak az W;obtain⟨k,c,p,hk,rfl,rfl,I,a1,S,hb⟩:=hrel;by_cases K:k<n
  ·have an:B+2<=wr.heap.size:=by have:=S.out.lt;omega
   obtain⟨p3,c3,w3,ax,Z,a4⟩:=zMb I.out k za an;have b8:=yP (yg w3 (B+2) 3 p3 (k+1) c3 ((yK (k+1)).map ival)) (by rw[qQu];exact Z);have a2:=a1.out.keep (a4.block B za);have ab:=S.out.keep (a4.block (B+1) za);have x0:=ab.rb.c1;have x1:=a2.cell k K;have x2:=a2.free k;simp only at x0;have bp:k<s.size:=za
   have HA:=zH ((a2.set k (l.getD k 0) (V:=(s[k].toNat:Int)) (by rw[bf.out k bp])).congr (g:=fk l (k+1)) (fun j _=>by
    unfold zAy fk;by_cases e:j=k
    ·subst e;rw[qPr rfl,qPr za]
    ·rw[qPt e];by_cases h:j<k
     ·rw[qPr h,qPr za]
     ·rw[qPt h,qPt za]))
   obtain⟨HX,bq,HO⟩:=yR (ab.keep (zCw (a:=B) k (qV qj (s[k].toNat:Int)) za)) ((hb.out.trans (a4.mono za)).setCell (p:=⟨B,k,qx⟩) (qPq _) (qV qj (s[k].toNat:Int))) (zD4 (i:=k) b8.out (by omega:B<B+2) (qV qj (s[k].toNat:Int)));clear Z a4 a2 ab I a1 S hb b8 an;go_wp2_with (at_builtin;refine xA rfl (.tmp 18) (.tmp 20) 23 rfl rfl rfl ax ?_);clear ax;go_region;rw[IntWalk.wrap64_in (s[k].toNat:Int) (by have:=qTf s[k];omega)];go_wp2;go_roundw
   case rel=>exact⟨k+1,c3,p3,za,by go_num,rfl,zH (HO.out.below (yN _ _).drew (qPq _)),HA,HX,zH bq.out.drew⟩
   case measure=>simp only[intOf];omega
  ·obtain rfl:n=k:=za
   obtain⟨G,rfl,bo,hG,c8,_,_⟩:=I.out.at_ h0;have bj:=S.out.lt;have S0:=zH (OS.mk I.out S.out a1.out hb.out bo za (qTt _) (zZo (fun j hj=>by unfold fk;rw[qPr (by rw[r.out]at hj;exact hj)])):OS w B G c s n l (yK n) B 0 (fk l n) wr);clear I a1 S hb bj hG K hk;go_wp2;go_loopg [2] n (fun kx s2 wr=>∃(o:List Nat) (N m:Nat) (f:Nat->Nat),s2=qX (qw ⟨G,0,qx⟩) n c/\m<n/\n-m<=kx/\yH (OS w B G c s n l o N m f wr))
   case atStart=>exact⟨_,B,0,_,rfl,za,za,S0⟩
   case round=>
    clear S0;obtain⟨o,N,m,f,rfl,hm,cc,z⟩:=hrel;have hI:=zXp o G n c (B+2) wr (by rw[z.out.perm.length_eq,qQ8]) h0 za z.out.own z.out.perm;have HI:=zH hI;clear hI;go_wp2_with fail;(with_reducible refine HI.out.mono ?_);rintro e w2 ⟨rfl,ay,b9⟩;have S2:=zH (z.out.sorted ay (qTt _) b9);clear HI z ay b9;have HT:=zH (zZc ⟨s,N,n,n,m⟩ (C l (up2 m)) f G c (B+2) w2 hn h0 hs (by show m<=2000000;omega) (fun i j hi hj=>by
     have h:=zUr a8.out S2.out.rk i j (by rw[r.out];exact hi) (by rw[r.out];exact hj);rw[r.out]at h;exact h) S2.out.gn.1 (fun k hk=>S2.out.arr.cell k hk) S2.out.own)
    unfold iv rv at HT;obtain⟨x0,x1,x2⟩:=S2.out.box.rb;go_wp2_with fail;(with_reducible refine HT.out.mono ?_);rintro e w3 ⟨rfl,o3,am,ai,Z,ar⟩;obtain⟨S3,ag⟩:=yQ (S2.out.sorted Z am ar) ai;obtain⟨N',a0⟩:=zB w3.heap.size;have L:=zF2 w3 n za;rw[a0]at L;obtain⟨S4,A4⟩:=yQ (S3.out.alloc (qm (cellsOf n (fun _=>qV qj 0)) 3)) (zAm.zeros N' w3 n 3 a0);have bw:N<N':=by rw[<-a0];exact S3.out.arr.lt
    have bx:B+1<N':=by rw[<-a0];exact S3.out.box.lt
    have bu:G<N':=by
     obtain⟨g',d,_,bz,_⟩:=S3.out.own.at_ h0;injection d with d
     injection d with d _ _
     omega
    obtain⟨w4,aj⟩:=zB (w3.alloc (qm (cellsOf n (fun _=>qV qj 0)) 3));rw[aj]at L S4 A4;clear HT S2 x0 x1 x2 am ai Z ar S3 a0 aj;go_wp2;clear L;go_loopw [6] (fun iv wr=>∃(i:Nat) (F:Nat->Nat),1<=i/\i<=n/\iv=qV qj i/\yH (OS w B G c s n l o3 N m f wr)/\yH (zAm wr N' 3 n F)/\yH (∀p,p<i->F (o3.getD p 0)=rkP (C l (up2 m)) o3 p)/\yH (∀k,k<n->F k<=n)) (fun iv _=>n-(intOf iv).toNat)
    case atStart=>exact⟨1,fun _=>0,za,za,by go_num,S4,A4,zH (fun p hp=>(by obtain rfl:p=0:=za;rfl)),zH (fun k _=>qQq _)⟩
    case round=>
     clear S4 A4;obtain⟨i,F,c6,c7,rfl,z,hA,hF,a5⟩:=hrel;by_cases K:i<n
     ·obtain⟨j,hj⟩:=zB (i-1);have b0:j+1=i:=za
      have ac:kG o3=n:=by rw[z.out.perm.length_eq,qQ8]
      obtain⟨g',d,_,_,_,H,_⟩:=z.out.own.at_ h0;injection d with d
      injection d with d _ _
      subst d;obtain⟨a,ha⟩:=zB (o3.getD j 0);obtain⟨b,hb⟩:=zB (o3.getD i 0);have X:a<n:=by rw[<-ha];exact zNc z.out.perm j za
      have a7:b<n:=by rw[<-hb];exact zNc z.out.perm i za
      have cG:∀k,k<n->wr.cell? ⟨G,k,qx⟩=qw (qV qj (o3.getD k 0:Int)):=fun k hk=>by
       rw[H k hk,qP2,qPu za,qPw,qPu za];rfl
      have ca:=cG j za;have cb:=cG i K;rw[ha]at ca;rw[hb]at cb;have cF:=hA.out.cell a X;have b6:=hA.out.cell b a7;have fb:=hA.out.free b;have R:F a=rkP (C l (up2 m)) o3 j:=by rw[<-ha];exact hF.out j za
      have bd:=a5.out a X;have bi:=zWz (C l (up2 m)) o3 j;have ad:=Kit.zDs (P:=yG) (t:=3) (v:=qV qj (F a:Int)) (w:=wr.drew) b6 fb zf rfl rfl;obtain⟨w5,O⟩:=zB (wr.drew.setCell ⟨N',b,qx⟩ (qV qj (F a:Int)));have S5:=yP (OS w B G c s n l o3 N m f w5) (by rw[<-O];exact z.out.drew.zCw za za za za _ _);have A5:=yP (zAm w5 N' 3 n (zAy F b (F a))) (by rw[<-O];exact zAm.set (w:=wr.drew) hA.out b (F a) rfl);rw[O]at ad;obtain⟨ST,CA,CB,CF⟩:=yS ad (zE4 (w:=wr.drew) ca) (zE4 (w:=wr.drew) cb) (zE4 (w:=wr.drew) cF);have NE:N'≠G:=za
      obtain⟨b7,b5⟩:=yQ (zE4 (w:=w5.drew) (show w5.cell? ⟨G,j,qx⟩=_ by rw[<-O,qQe _ _ _ _ (by intro e;injection e with e1 _ _;omega)];exact ca)) (zE4 (w:=w5.drew) (show w5.cell? ⟨G,i,qx⟩=_ by rw[<-O,qQe _ _ _ _ (by intro e;injection e with e1 _ _;omega)];exact cb));have WJ:=yP (IntKind.i64.wrap ((i:Int)-1)=(j:Int)) (by rw[qQb _ za];omega);obtain⟨bc,HC⟩:=yQ (S5.out.drew.box.rb.ld) (zKt ⟨s,N,n,n,m⟩ a b f w5.drew hn (by show n<=1000000;omega) (by show m<=2000000;omega) X a7 (fun k hk=>S5.out.drew.arr.cell k hk));have CZ:=yP (cf2 n m f a b=0↔C l (up2 m) a=C l (up2 m) b) (by have h:=qCw a8.out z.out.rk a b (by rw[r.out];exact X) (by rw[r.out];exact a7);rw[r.out]at h;exact h)
      have af:=yP (∀p,p<i->o3.getD p 0≠b) (fun p hp e=>by
       have:=zQw z.out.perm (p:=p) (q:=i) za za (by rw[e,hb]);omega)
      have HJ:=yP (j<n) (by omega);obtain⟨HI,bh,b1,ap,ae,ah⟩:=yU K X a7 ha hb R;clear H cG ca cb cF b6 fb ad O z hA ha hb R ac;obtain⟨v,hv⟩:=zB (cf2 n m f a b);rw[hv]at CZ;have ao:=yP (yC yG 130 #[rv ⟨s,N,n,n,m⟩,qV qj (a:Int),qV qj (b:Int)] w5.drew fun e w'=>e=qp (qV qj v)/\Grn w5.drew w') (by rw[<-hv];exact HC.out);clear HC hv;go_wp2;refine zS [] (fun _=>True) [0,0,0,6,8,0,0,0,128,320,512,1056,2048,8191,16383] 15<|zp [0,1,2,3,4,5,6,7,8,9,10,11,12,13]<|zk 46 (qX (qw ⟨N',0,qx⟩) n n)<|zk 47 (qX (qw ⟨G,0,qx⟩) n c)<|zk 48 (zI i)<|zt 49 (zP G i) (xM (t:=23) (x:=(.tmp 47)) (y:=(.tmp 48)) (g:=G) (n:=n) (c:=c) (k:=i) rfl zf zf HI.out underlying23 (fun _=>sizeOf3 _) _)<|zt 50 (zI b) (zl 3 49 (CB.out))<|zk 51 (qX (qw ⟨N',0,qx⟩) n n)<|zk 52 (qX (qw ⟨G,0,qx⟩) n c)<|zk 53 (zI i)<|zt 54 (zI j) (Kit.zM6 (x:= .tmp 53) (y:= .const (qV qj 1)) rfl zf zf WJ.out _)<|zt 55 (zP G j) (xM (t:=23) (x:=(.tmp 52)) (y:=(.tmp 54)) (g:=G) (n:=n) (c:=c) (k:=j) rfl zf zf HJ.out underlying23 (fun _=>sizeOf3 _) _)<|zt 56 (zI a) (zl 3 55 (CA.out))<|zt 57 (zP N' a) (xM (t:=23) (x:=(.tmp 51)) (y:=(.tmp 56)) (g:=N') (n:=n) (c:=n) (k:=a) rfl zf zf bh.out underlying23 (fun _=>sizeOf3 _) _)<|zt 58 (qV qj (F a:Int)) (zl 3 57 (CF.out))<|zt 59 (zP N' b) (xM (t:=23) (x:=(.tmp 46)) (y:=(.tmp 50)) (g:=N') (n:=n) (c:=n) (k:=b) rfl zf zf b1.out underlying23 (fun _=>sizeOf3 _) _)<|zn<|zw 14 qx (zr 3 59 58 (ST.out)) (.inr (.inr trivial))<|zE<| ?_
      simp only[zP,zI,Act.put,qPz,qPy,qP0];go_wp2;refine zS [] (fun _=>True) [0,0,0,4,10,16,0,0,192,256,545,1024] 12<|zp [0,1,2,3,4,5,6,7,8,9]<|zt 60 (rv ⟨s,N,n,n,m⟩) (zl 221 3 (bc.out))<|zk 61 (qX (qw ⟨G,0,qx⟩) n c)<|zk 62 (zI i)<|zt 63 (zI j) (Kit.zM6 (x:= .tmp 62) (y:= .const (qV qj 1)) rfl zf zf WJ.out _)<|zt 64 (zP G j) (xM (t:=23) (x:=(.tmp 61)) (y:=(.tmp 63)) (g:=G) (n:=n) (c:=c) (k:=j) rfl zf zf HJ.out underlying23 (fun _=>sizeOf3 _) _)<|zt 65 (zI a) (zl 3 64 (b7.out))<|zk 66 (qX (qw ⟨G,0,qx⟩) n c)<|zk 67 (zI i)<|zt 68 (zP G i) (xM (t:=23) (x:=(.tmp 66)) (y:=(.tmp 67)) (g:=G) (n:=n) (c:=c) (k:=i) rfl zf zf HI.out underlying23 (fun _=>sizeOf3 _) _)<|zt 69 (zI b) (zl 3 68 (b5.out))<|zn<|zc 10 70 130 #[rv ⟨s,N,n,n,m⟩,qV qj (a:Int),qV qj (b:Int)] (qV qj v) ao.out<| ?_
      refine fun w6 g6=>⟨.inr (.inr trivial),?_⟩;refine zp [11]<|zk 71 (qc (v !=0))<|zn<|zE<| ?_
      simp only[zP,zI,Act.put,qPz,qPy,qP0];obtain⟨S6,A6⟩:=yQ (S5.out.drew.grn g6) (A5.out.keep (g6.block N' (by have:=A5.out.lt;exact this)));have a3:=yP (∀(q:Nat) (F':Nat->Nat),F'=zAy (zAy F b (F a)) b (F a+q)->(q=if C l (up2 m) a=C l (up2 m) b then 0 else 1)->(∀p,p<i+1->F' (o3.getD p 0)=rkP (C l (up2 m)) o3 p)/\∀k,k<n->F' k<=n) (fun q F' br hq=>by
       subst br;refine⟨fun p hp=> ?_,fun k hk=> ?_⟩
       ·by_cases e:p=i
        ·subst e;rw[ae.out,zCj,ah.out,<-b0];show _=rkP (C l (up2 m)) o3 j+_;rw[hq,ap.out,b0,ae.out]
        ·rw[zBb _ _ _ _ (af.out p za),zBb _ _ _ _ (af.out p za)];exact hF.out p za
       ·unfold zAy;by_cases e:k=b
        ·rw[qPr e];have:q<=1:=by rw[hq];split<;>omega
         have h1:=ah.out;omega
        ·rw[qPt e,qPt e];exact a5.out k hk)
      clear S5 A5 hF a5 af ah ap g6 bc b7 b5 ao ST CA CB CF;by_cases a6:v=0
      ·subst a6;have HQ:=zH (a3.out 0 _ rfl (by rw[qPr (CZ.out.1 rfl)]));have A7:=yP (zAm w6 N' 3 n (zAy (zAy F b (F a)) b (F a+0))) (A6.out.congr (fun k _=>by
        unfold zAy;by_cases e:k=b
        ·rw[qPr e,qPr e,qRh]
        ·rw[qPt e,qPt e]))
       clear a3 A6 CZ;go_wp2;go_roundw
       case rel=>exact⟨i+1,_,za,za,by go_num,S6,A7,zH HQ.out.1,zH HQ.out.2⟩
       case measure=>simp only[intOf];omega
      ·have cf:(v !=0)=yD:=by simpa using a6
       have HQ:=zH (a3.out 1 _ rfl (by rw[qPt (fun e=>a6 (CZ.out.2 e))]));have x0:w6.cell? ⟨G,i,qx⟩=qw (qV qj (b:Int)):=by
        obtain⟨g',d,_,_,_,H,_⟩:=S6.out.own.at_ h0;injection d with d
        injection d with d _ _
        subst d;have ac:kG o3=n:=by rw[S6.out.perm.length_eq,qQ8]
        rw[H i K,qP2,qPu za];have h5:=ae.out;rw[qPw,qPu za]at h5;simp only[qQ4]at h5;rw[h5];rfl
       have x1:=A6.out.cell b b1.out;rw[zCj]at x1;have x2:=A6.out.free b;obtain⟨A7,S7⟩:=yQ (A6.out.set b (F a+1) (V:=((F a:Nat):Int)+1) za) (S6.out.zCw (a:=N') NE za za za b (qV qj (((F a:Nat):Int)+1)));obtain⟨Fa,R⟩:=zB (F a);rw[R]at x1 A7 S7 HQ;rw[R]at bd;clear a3 A6 CZ S6 a6 R bi;go_wp2;go_roundw
       case rel=>exact⟨i+1,_,za,za,by go_num,S7,A7,zH HQ.out.1,zH HQ.out.2⟩
       case measure=>simp only[intOf];omega
     ·obtain rfl:n=i:=za
      have ac:kG o3=n:=by rw[z.out.perm.length_eq,qQ8]
      have aq:=qCx (s:=l) (F:=F) (M:=up2 m) (o:=o3) (by rw[r.out];exact z.out.perm) ag.out (fun p hp=>hF.out p za);have bb:=zH aq;obtain⟨_,x1,x2⟩:=z.out.box.rb;have f1:=z.out.box.fr 1;have f2:=z.out.box.fr 2;simp only at x1 x2;obtain⟨M,hM⟩:=zB (up2 m);have ce:max (2*(m:Int)) 1=(M:Int):=by rw[<-hM];unfold up2;omega
      have S5:=zH (z.out.next (F:=F) hA.out (M:=M) za za za (by
       have:up1 M=M:=by rw[<-hM];unfold up1 up2;omega
       rw[this,<-hM];exact bb.out) (V:=(M:Int)) rfl)
      have cd:m<M:=by rw[<-hM];unfold up2;omega
      have HD:=yP (n<=M->o3=zHx l) (fun h=>qCy a8.out (by rw[r.out];exact z.out.perm) ag.out (by rw[r.out,hM];exact h));clear hM z hF a5 hA aq bb ag;by_cases bg:M<n
      ·have bk:decide ((M:Int)>=(n:Int))=yE:=qP1 za;go_wp2;go_roundg (n-M)
       case measure=>exact za
       case rel=>exact⟨o3,N',M,F,rfl,bg,za,S5⟩
      ·have bk:decide ((M:Int)>=(n:Int))=yD:=qP9 za;have HE:=zH (HD.out za);go_wp2;go_ret;exact⟨G,c,rfl,by rw[<-HE.out];exact S5.out.own.base za,S5.out.below⟩
end St
namespace St
open Go.Lib Go.Sort Go.Proofs Tn Bt Front Zr
def zLl (l:List UInt8) (k:Nat):UInt8:=l.getD (k%kG l) 0
def lastB (l:List UInt8) (o:List Nat):List UInt8:=o.map fun k=>zLl l (k+kG l-1)
theorem qHl (l:List UInt8) (h:0<kG l) (k:Nat):(zLl l k).toNat=cyc (l.map UInt8.toNat) k:=by
 unfold zLl cyc;have a:k%kG l<kG l:=qRd _ h;simp[qPw,qPu a]
theorem zXn (l:List UInt8) (h:0<kG l) (o:List Nat):(lastB l o).map UInt8.toNat=lastOf (l.map UInt8.toNat) o:=by
 unfold lastB lastOf;rw[qRr];refine qRx (fun k _=> ?_);rw[Function.comp,qHl l h,qQi]
def zF1 (s:ByteArray):List Nat:=zHx (bl s)
def zA8 (s:ByteArray):Nat:=(zF1 s).idxOf 0
def lastT (s:ByteArray):ByteArray:=⟨(lastB s.data.toList (zF1 s)).toArray⟩
theorem zF0 (s:ByteArray):kG (zF1 s)=s.size:=by unfold zF1 zHx;rw[zCn,zB2]
theorem zQ0 (s:ByteArray) (h:0<s.size):0∈zF1 s:=by
 have a:=(zD5 (bl s)).perm;refine a.mem_iff.2 (qQm.2 ?_);rw[zB2];exact h
theorem zDq (s:ByteArray) (h:0<s.size):zA8 s<s.size:=by
 have a:=List.idxOf_lt_length_iff.2 (zQ0 s h);rw[zF0]at a;exact a
theorem zLd (s:ByteArray) (h:0<s.size):(zF1 s).getD (zA8 s) 0=0:=by
 have a:=List.idxOf_lt_length_iff.2 (zQ0 s h);unfold zA8;rw[qPw,qPu a];exact List.getElem_idxOf a
theorem zCp (s:ByteArray):(lastT s).size=s.size:=by
 show(lastB _ _).toArray.size=_;simp[lastB,zF0]
def Tu (s t:ByteArray) (k:Nat):Prop:=t.size=s.size/\∀h:t.size-1<t.size,t[t.size-1]=zLl s.data.toList (k+s.size-1)
theorem qGx (s:ByteArray) (k:Nat) (f:k<s.size):Tu s (s.extract k s.size++s.extract 0 k) k:=by
 have a:(s.extract k s.size++s.extract 0 k).size=s.size:=by
  rw[ByteArray.size_append,qS2,qS2];omega
 refine⟨a,fun h=> ?_⟩;unfold zLl;have d:kG s.data.toList=s.size:=by simp
 rw[d];have b:∀(j:Nat) (c:j<s.size),s.data.toList.getD j 0=s[j]:=fun j c=>by
  rw[qPw,qPu (by rw[d];exact c)];rfl
 by_cases e:k=0
 ·subst e;rw[show(0+s.size-1)%s.size=s.size-1 from by rw[qQc];exact qRg za];rw[b _ za];rw[ByteArray.getElem_append_left (by rw[qS2,a];omega),ByteArray.getElem_extract];congr 1;rw[a];omega
 ·rw[show(k+s.size-1)%s.size=k-1 from by rw[show k+s.size-1=(k-1)+s.size by omega,Nat.add_mod_right];exact qRg za];rw[b _ za];rw[ByteArray.getElem_append_right (by rw[qS2,a];omega),ByteArray.getElem_extract];congr 1;rw[qS2,a];omega
theorem zY5 (s:ByteArray) (k:Nat) (b:k<s.size) (j:s.size<=1000000) (w:qy):
  yC yG 75 #[.agg #[qW s],qV qj (k:Int)] w fun e w'=>∃t,e=qp (qW t)/\Tu s t k/\yI w.heap.size w w':=by
 have f:(0:Int)<=(k:Int):=za
 have g:(k:Int)<=(s.size:Int):=za
 have d:=zH (qGx s k b);have h:(s.extract k s.size).size<=1000000:=by rw[qS2];omega
 have i:(s.extract 0 k).size<=1000000:=by rw[qS2];omega
 obtain⟨W,a⟩:=zB (w.alloc (qm #[qW s] 144));have l:W.cell? ⟨w.heap.size,0,qx⟩=qw (qW s):=by rw[<-a];simp
 have HB:=yP (yI w.heap.size w W) (by rw[<-a];exact(yN _ _).alloc (qPq _) _);have c:=zH a;clear a b;go_enter func75,ntmps75;go_wp2;rw[c.out];go_quiet (fail);go_wp2;go_ret;exact⟨_,rfl,d.out,HB.out.trans ⟨rfl,rfl,rfl,qPq _,fun _ _=>rfl⟩⟩
theorem zKn (s:ByteArray) (n:Nat) (hn:s.size=n) (h0:0<n) (hs:n<=100000) (w:qy):
  yC yG 19 #[qW s] w fun e w'=>e=qp (qZ #[qW (lastT s),qV qj (zA8 s:Int)])/\yI w.heap.size w w':=by
 have HO:=zH (zOm s n hn h0 hs w);obtain⟨B,hB⟩:=zB w.heap.size;rw[hB]at HO⊢;obtain⟨l,hl⟩:=zB s.data.toList;have Y:kG l=n:=by rw[<-hl,<-hn];simp
 obtain⟨o,y⟩:=zB (zF1 s);have N:kG o=n:=by rw[<-y,zF0,hn]
 have W:∀i,i<n->o.getD i 0<n:=fun i hi=>by
  have h:=zNc (zD5 (bl s)).perm i (by show i<kG (zF1 s);rw[zF0,hn];exact hi);rw[zB2,hn]at h;rw[<-y];exact h
 have m:zA8 s=o.idxOf 0:=by unfold zA8;rw[y]
 have V:o.idxOf 0<n:=by rw[<-m,<-hn];exact zDq s za
 have x:∀i,i<n->(o.getD i 0=0↔i=o.idxOf 0):=fun i hi=>by
  constructor
  ·intro e;have h:=zLd s za;rw[y,m]at h;have hp:=(zD5 (bl s)).perm;rw[show zHx (bl s)=o from y]at hp;exact zQw hp za za (by rw[e,h])
  ·rintro rfl;have h:=zLd s za;rwa[y,m]at h
 have b:lastT s=⟨(lastB l o).toArray⟩:=by unfold lastT;rw[hl,y]
 rw[b,m];rw[show zHx (bl s)=o from y]at HO;obtain⟨g,hg⟩:=zB (o.idxOf 0);rw[hg]at V x⊢;obtain⟨af,HL,ae,ag,ad,HN⟩:=yU Y hl N W x hn;have a4:=yP (kG (lastB l o)=n) (by simp[lastB,N]);have ah:=zH hB;clear hl Y y N W m x b hg hB;go_enter func19,ntmps19;go_wp2_with fail;(with_reducible refine HO.out.mono ?_);rintro e w2 ⟨G,c,rfl,a,z⟩;obtain⟨X,ab⟩:=yQ a z;clear a z HO;go_wp2;go_loopw [3,4,11] (fun gv ov iv wr=>∃(i ci q:Nat) (p:Option yB),i<=n/\iv=qV qj i/\gv=qV qj q/\yH (q=if g<i then g else 0)/\ov=qX p i ci/\yH (yg wr B TB p i ci (((lastB l o).take i).map xE))/\yH (yg wr B 3 (qw ⟨G,0,qx⟩) n c (o.map ival))/\yH (yI B w wr)) (fun _ _ iv _=>n-(intOf iv).toNat)
 case atStart=>exact⟨0,0,0,qx,za,rfl,rfl,zH zm,rfl,zH (Kit.Own.start _ _ _),X,ab⟩
 case round=>
  clear X ab;obtain⟨i,ci,q,p,hi,rfl,rfl,hq,rfl,I,a,z⟩:=hrel;by_cases b:i<n
  ·obtain⟨g',f,_,ak,_,K,_⟩:=a.out.at_ h0;injection f with f
   injection f with f _ _
   subst f;have x0:=K i b;have F:i<kG o:=by rw[ae.out];exact b
   have S:=ag.out i b;rw[qP2,qPu F,qRs]at x0;rw[qPw,qPu F,qQ4]at S;obtain⟨k,hk⟩:=zB (o[i]);rw[hk]at x0 S;have j:=ad.out i b;rw[qPw,qPu F,qQ4,hk]at j;obtain⟨HT,HK,ai⟩:=yR (zY5 s k (by rw[HN.out];exact S) (by rw[HN.out];omega) wr) hk F;clear K hk;unfold ival at x0;go_wp2_with fail;(with_reducible refine HT.out.mono ?_);rintro e w3 ⟨t,rfl,M,r⟩;have a2:=M.1;rw[HN.out]at a2;have L:=M.2 za;rw[HN.out]at L;obtain⟨u,hu⟩:=zB (zLl l (k+n-1));rw[HL.out,hu]at L;have an:∀h:n-1<t.size,t[n-1]=u:=fun h=>by
    rw[<-L];simp only[a2]
   have d:=I.out.below r (qPq _);have ao:=r.size;have a5:=z.out.size;rw[ah.out]at a5;obtain⟨p4,c4,w4,a7,aa,O⟩:=Kit.Own.app (ty:=109) (w:=w3.alloc (qm #[qV ql (u.toNat:Int)] TB)) zNh (d.alloc _) (qw ⟨w3.heap.size,0,qx⟩) 1 1 [xE u] (Kit.zAs w3 _ TB) rfl (fun h=>by cases h) (Kit.zG [u]) (by unfold maxLen;omega) za zq;have a0:(lastB l o)[i]? =qw u:=by
    unfold lastB;rw[qP2,qPu ai.out,HK.out,af.out,qRs,hu]
   have ac:=yP (yg w4 B TB p4 (i+1) c4 (((lastB l o).take (i+1)).map xE)) (by
    rw[List.take_add_one,a0,qQd];exact aa)
   have aj:yI B w3 w4:=((yN _ _).alloc za _).trans ((yN _ _).grown O zq (fun q hq=>d.block q hq));have a3:=zH (z.out.trans ((r.mono a5).trans aj));have H:=(a.out.below r (qPq _)).alloc (qm #[qV ql (u.toNat:Int)] TB);obtain⟨cs,fz,Z⟩:=zLa H;have hne:=own_ne (d.alloc (qm #[qV ql (u.toNat:Int)] TB)) Z z8;have a1:=zH (qRy H O (.inr (by rw[zGj H];exact fun e=>hne e.symm)));clear H Z hne;clear a0 O aa d a I z r M L hu HT x0;by_cases a8:k=0
   ·subst a8;have a6:i=g:=j.1 rfl;subst a6;have R:=yP (i=if i<i+1 then i else 0) (by rw[qPr za]);clear j hq;go_wp2_with (at_builtin;refine xA rfl (.tmp 20) (.tmp 26) 109 rfl rfl rfl a7 ?_);go_roundw
    case rel=>exact⟨i+1,c4,i,p4,za,by go_num,rfl,R,rfl,ac,a1,a3⟩
    case measure=>simp only[intOf];omega
   ·have a6:i≠g:=fun e=>a8 (j.2 e);have hz:((k:Int)==0)=yE:=by rw[qSc];omega
    have R:=yP (q=if g<i+1 then g else 0) (by
     rw[hq.out];by_cases h:g<i
     ·rw[qPr h,qPr za]
     ·rw[qPt h,qPt za])
    clear j hq;go_wp2_with (at_builtin;refine xA rfl (.tmp 20) (.tmp 26) 109 rfl rfl rfl a7 ?_);go_roundw
    case rel=>exact⟨i+1,c4,q,p4,za,by go_num,rfl,R,rfl,ac,a1,a3⟩
    case measure=>simp only[intOf];omega
  ·obtain rfl:n=i:=za
   rw[qPr V]at hq;obtain rfl:g=q:=hq.out.symm;have a9:(lastB l o).take n=lastB l o:=qQg (by rw[a4.out];exact qPq _);rw[a9]at I;have am:=Kit.Src.text (P:=yG) (n:=n) (c:=ci) (src:=109) (dst:=9) I.out.src a4.out underlying109 underlying5 underlying9;clear a9;go_wp2;go_ret2;exact⟨rfl,z.out⟩
end St
end Go.Proofs.YtppnakkaljbmbaaGreatDoor
