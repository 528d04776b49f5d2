/- Steps of a proof; no condition beyond what each states. -/
import Derived.Test.YtppnakkaljbmbaaGreatDoorZX00
import Derived.Test.YtppnakkaljbmbaaGreatDoorZX11
import Derived.Test.YtppnakkaljbmbaaGreatDoorZX15
set_option linter.unusedVariables false
set_option linter.unusedSimpArgs false
set_option maxRecDepth 100000
set_option maxHeartbeats 8000000
open List renaming length->kG
open Go.Proofs.YtppnakkaljbmbaaGreatDoor.Kit renaming Src->yZ,Own'->yj
open Go.Proofs.YtppnakkaljbmbaaGreatDoor.Rle renaming Len->xW,cut->xX
open Go.Proofs.YtppnakkaljbmbaaGreatDoor.Us renaming alpha->xZ
open Go.Proofs.YtppnakkaljbmbaaGreatDoor.Bt renaming ofNat_toNat->kD
open Go.RowKit
open Go.Proofs.Tryz
open Go.Value renaming int->qV,string->qW,slice->qX,pointer->qY,tuple->qZ,bool->qc
open Go.IntKind renaming i64->qj
open Go.Obj renaming cells->qm
open Go.Ending renaming returned->qp
open Option renaming some->qw,none->qx
open Go renaming World->qy,Value->qz,TypeId->yA,Addr->yB,Calls->yC
open Bool renaming true->yD,false->yE
open Go.Proofs.Tryz renaming prog->yG
open Go.RowKit renaming Hid->yH,Below->yI
open List renaming range->yK,replicate->yL
open Go.World renaming cell?->yM
open Go.RowKit.Below renaming refl->yN
namespace Go.Proofs.YtppnakkaljbmbaaGreatDoor
namespace Sq
open Front Us Tn St Zr
theorem zUx {a b:Nat} (c:a<256) (d:b<256) (e:UInt8.ofNat a=UInt8.ofNat b):a=b:=by
 have h:=qPs UInt8.toNat e;rwa[kD c,kD d]at h
theorem zS7 (l:List Nat):(xZ l 256).Nodup:=by
 unfold xZ;have h:((yK 256).filter fun c=>decide (c∈l)).Nodup:=List.nodup_range.filter _;unfold List.Nodup at h⊢;rw[List.pairwise_map];refine h.imp_of_mem (fun{a b} f g d e=>d ?_);exact zUx (qQm.1 (qT0.1 f).1) (qQm.1 (qT0.1 g).1) e
theorem zYo (l:List Nat) (c:UInt8):c∈xZ l 256↔c.toNat∈l:=by
 unfold xZ;rw[qQf];constructor
 ·rintro⟨a,e,rfl⟩;obtain⟨b,d⟩:=qT0.1 e;rw[kD (qQm.1 b)];simpa using d
 ·intro h;exact⟨c.toNat,List.mem_filter.2 ⟨List.mem_range.2 (UInt8.toNat_lt c),by simpa using h⟩,UInt8.ofNat_toNat⟩
theorem zS8 {l m:List Nat} (h:∀c,c<256->(c∈l↔c∈m)):xZ l 256=xZ m 256:=by
 unfold xZ;congr 1;refine List.filter_congr (fun c d=> ?_);have:=h c (qQm.1 d);by_cases a:c∈l
 ·rw[qP9 a,qP9 (this.1 a)]
 ·rw[qP1 a,qP1 (fun b=>a (this.2 b))]
def al (p:ByteArray):List UInt8:=(zAj p).data.toList
theorem zVt (p:ByteArray):al p=xZ (bl p) 256:=by unfold al zAj;simp
theorem zR3 (p:ByteArray):right (al p)=yD:=by rw[zIu,zVt];exact zS7 _
theorem zR4 (p:ByteArray) (c:UInt8):c∈al p↔c∈p.data.toList:=by
 rw[zVt,zYo];unfold bl;rw[qQf];constructor
 ·rintro⟨a,b,e⟩;rw[<-UInt8.toNat_inj.1 e];exact b
 ·intro h;exact⟨c,h,rfl⟩
theorem zR5 (p:ByteArray):kG (al p)=(zAj p).size:=by unfold al;simp
theorem zFk (p:ByteArray):(zAj p).size<=256:=by rw[<-zR5,zVt];exact Us.zPe _ _
theorem zMz (p:ByteArray) (h:0<p.size):0<(zAj p).size:=by
 have a:0<kG p.data.toList:=by simpa using h
 have b:=(zR4 p _).2 (qQ a);rw[<-zR5];exact List.length_pos_of_mem b
theorem zVu (p:ByteArray):zAj (zAj p)=zAj p:=by
 show(⟨(xZ (bl (zAj p)) 256).toArray⟩:ByteArray)=⟨(xZ (bl p) 256).toArray⟩;rw[zS8 (l:=bl (zAj p)) (m:=bl p)];intro c d;have h:=zR4 p (UInt8.ofNat c);have e:∀q:ByteArray,c∈bl q↔UInt8.ofNat c∈q.data.toList:=fun q=>by
  unfold bl;rw[qQf];constructor
  ·rintro⟨a,b,rfl⟩;rw[UInt8.ofNat_toNat];exact b
  ·intro h;exact⟨_,h,kD d⟩
 rw[e,e];exact h
def la (p:ByteArray):List UInt8:=(lastT p).data.toList
theorem zU6 (p:ByteArray):la p=lastB p.data.toList (zF1 p):=by unfold la lastT;simp
theorem zMi (p:ByteArray) (h:0<p.size):all (al p) (la p)=yD:=by
 rw[zUa];intro c a;rw[zU6]at a;rw[zR4];unfold lastB at a;obtain⟨k,_,rfl⟩:=qQf.1 a;unfold zLl;have d:0<kG p.data.toList:=by simpa using h
 have b:=qRd (k+kG p.data.toList-1) d;rw[qPw,qPu b];exact qQ b
def plc (p:ByteArray):List Nat:=zB4 (al p) (la p)
theorem zTm (p:ByteArray) (h:0<p.size):zFw (al p) (la p)=plc p/\codeF (al p) (la p)=0:=by
 have a:=zRr (al p) (la p) (zR3 p) (zMi p h);exact⟨zQm _ _ a,a⟩
theorem zDb (p:ByteArray):kG (plc p)=p.size:=by
 unfold plc;rw[zDi,zU6];simp[lastB,zF0]
theorem zQr (p:ByteArray) (h:0<p.size):∀k∈plc p,k<(zAj p).size:=by
 rw[<-zR5];exact zNb _ _ (zMi p h)
def sy (p:ByteArray):List Nat:=enc 0 (plc p)
def sym (p:ByteArray):List Nat:=sy p++[(zAj p).size+1]
theorem zL1 (p:ByteArray):kG (sy p)<=p.size:=by
 have:=zJz (plc p) 0;rw[zDb]at this;unfold sy;omega
theorem zPm (p:ByteArray) (h:0<p.size):∀y∈sy p,y<=(zAj p).size:=zNq (plc p) 0 _ (zQr p h) (zMz p h)
theorem zCv (p:ByteArray):kG (sym p)=kG (sy p)+1:=by simp[sym]
theorem zPz (p:ByteArray) (h:0<p.size):∀y∈sym p,y<(zAj p).size+2:=by
 intro y b;unfold sym at b;rcases qSi.1 b with a|a
 ·have:=zPm p h y a;omega
 ·obtain rfl:=qRm.1 a;omega
theorem zP0 (p:ByteArray):dec (kG (sy p)) (sy p)=plc p:=by
 have h:=zNs (plc p) 0 (kG (sy p)) (qPq _);simpa [sy]using h
theorem zZx (p:ByteArray) (h:0<p.size):unp (al p) (plc p)=la p:=zPx _ _ (zMi p h)
theorem zK9 (p:ByteArray) (h:0<p.size):zIv (al p) ((plc p).map fun k:Nat=>(k:Int))=la p/\zC3 (al p) ((plc p).map fun k:Nat=>(k:Int))=0:=by
 have a:=zRs (al p) ((plc p).map fun k:Nat=>(k:Int)) (zR3 p) (qF0 _ _ (zNb _ _ (zMi p h)));refine⟨?_,a⟩;rw[zTj _ _ a,qC7];exact zZx p h
theorem zVk (p:ByteArray):Bytes (bl p):=by
 intro x a;obtain⟨u,_,rfl⟩:=qQf.1 a;exact qTf u
theorem qB5 (p:ByteArray) (h:0<p.size):bl (lastT p)=lastOf (bl p) (zF1 p):=by
 show(la p).map UInt8.toNat=_;rw[zU6,zXn _ (by simpa using h)];rfl
theorem zTa (p:ByteArray) (h:0<p.size):unL (lastT p) (zA8 p)=p.data.toList:=by
 have d:(lastT p).size=p.size:=zCp p;apply qRt;intro i;by_cases hi:i<p.size
 ·have b:=zYl (s:=bl p) (o:=zF1 p) (v:=zA7 (bl (lastT p))) (zVk p) (by rw[zB2];exact h) (zD5 _) (by rw[qB5 p h];exact zCl _) (zA8 p) (by rw[zB2];exact zDq p h) (zLd p h) i (by rw[zB2];exact hi);rw[<-qB5 p h]at b;unfold unL;rw[List.getElem?_map,List.getElem?_range (by rw[d];exact hi),Option.map_some,List.getElem?_eq_getElem (by simpa using hi)];congr 1;apply UInt8.toNat_inj.1;have c:∀(q:ByteArray) (j:Nat),(bl q).getD j 0=(q.data.getD j 0).toNat:=fun q j=>by
   unfold bl;rw[qPw,qP2];by_cases a:j<q.data.size
   ·rw[List.getElem?_eq_getElem (by simpa using a),Option.map_some,Option.getD_some];simp only[Array.getD,Array.getElem_toList];rw[dif_pos a];rfl
   ·rw[List.getElem?_eq_none (by simpa using a)];simp only[Array.getD];rw[dif_neg a];rfl
  rw[c,c]at b;rw[b];simp only[Array.getD,Array.getElem_toList];rw[dif_pos (show i<p.data.size from hi)];rfl
 ·rw[qQp (by rw[zTb,d];omega),qQp zq]
end Sq
namespace Sl
open Front Bt Zr Ix
variable {w:qy} {D n c:Nat} {a:Option yB} {ls:List (List Bool)}
def zC8 (b:Bool) (n:Nat):List Bool:=if n=b.toNat then[yE]else[yD,yE]
def zAz:Bool->List Nat->List Bool
 |_,[]=>[]
 |b,n::r=>zC8 b n++zAz (n==1) r
theorem zK4:∀(b:Bool) (l:List Nat),kG (zAz b l)<=2*kG l
 |_,[]=>qPq _
 |b,n::r=>by
  have:=zK4 (n==1) r;rw[zAz,qPx,qP3];unfold zC8;split<;>simp<;>omega
theorem zOd (l:List Nat) (j:Nat) (b:Bool) (d:j<kG l):zAz b (l.drop j)=zC8 b l[j]++zAz (l[j]==1) (l.drop (j+1)):=by
 rw[qSa d,zAz]
theorem zQz {w':qy} {e:yA} (h:yj LB w D e a n c ls) (m:∀k,D<=k->k<w.heap.size->w'.heap[k]? =w.heap[k]?):yj LB w' D e a n c ls:=by
 obtain⟨l,i⟩:=h;refine⟨l,?_⟩;rcases i with i|⟨g,f,d,hv,b,j,r⟩
 ·exact .inl i
 ·exact .inr ⟨g,f,d,hv,b,(m g b (zAd j)).trans j,r⟩
theorem zPo:Kit.zVx yG 70 51 LB.k 24:=⟨underlying70,.agg #[qW ⟨#[]⟩,qV qj 0],zf,rfl⟩
theorem zFd {B:Nat} (h:yj LB w B 51 a n c ls):RdB w a ls:=by
 refine⟨h.rd,fun p e=> ?_⟩;obtain⟨_,d⟩:=h;rcases d with⟨d,_⟩|⟨g,i,b,hv,_,f,_⟩
 ·injection d with d _ _
  rw[e]at d;cases d
 ·injection hv with ha _ _
  rw[e]at ha;injection ha with ha
  subst ha;exact⟨b,(0,0),f⟩
theorem qHj (n:Nat) (b:Bool) (d:n<=1):Lib.idxOf [((b.toNat:Nat):Int),(((!b).toNat:Nat):Int),2,3,4,5] (n:Int)=if n=b.toNat then 0 else 1:=by
 rcases qP8 n 1 with h|h
 ·obtain rfl:n=0:=za
  cases b<;>rfl
 ·obtain rfl:n=1:=za
  cases b<;>rfl
theorem qG8 {R:Nat} {b:Bool} (h:Pl w R b):∀j,j<[((b.toNat:Nat):Int),(((!b).toNat:Nat):Int),2,3,4,5].length->w.cell? ⟨R,0+j,qx⟩=qw (qV qj ([((b.toNat:Nat):Int),(((!b).toNat:Nat):Int),2,3,4,5].getD j 0)):=by
 intro j d;simp at d;have:j=0\/j=1\/j=2\/j=3\/j=4\/j=5:=za
 rcases this with rfl|rfl|rfl|rfl|rfl|rfl<;>simp[yM,show w.heap[R]? =_ from h]
theorem zR2 {p:Option yB} {j:Nat} (h:yj LB w D 51 p j c ls) (m:List Bool) (o:D<=w.heap.size) (u:j<=100000):
  ∃e c' w',(Builtin.append_ #[70,70] 70 #[qX p j c,qX (qw ⟨w.heap.size+1,0,qx⟩) 1 1]).run yG ((w.alloc (qm #[qW (pk m),qV qj (kG m:Int)] 51)).alloc (qm #[qW (pk m),qV qj (kG m:Int)] 51))= .ok (qX e (j+1) c') w'/\
   yj LB w' D 51 e (j+1) c' (ls++[m])/\(∀k,k<D->w'.heap[k]? =w.heap[k]?)/\yI D w w'/\w.heap.size<=w'.heap.size:=by
 obtain⟨d,a⟩:=zB (w.alloc (qm #[qW (pk m),qV qj (kG m:Int)] 51));have t:d.heap.size=w.heap.size+1:=by rw[<-a,zA]
 rw[a,<-t];have s:Kit.Rd LB (d.alloc (qm (LB.cl m).toArray 51)) (qw ⟨d.heap.size,0,qx⟩) [m]:=Kit.zFo d m 51;have r:yj LB (d.alloc (qm (LB.cl m).toArray 51)) D 51 p j c ls:=by rw[<-a];exact(h.alloc _).alloc _
 obtain⟨e,c',w',g,i,l⟩:=r.app (ty:=70) zPo (qw ⟨d.heap.size,0,qx⟩) 1 1 [m] s rfl (fun h=>by cases h) (by unfold maxLen;omega) za (by rw[zA];omega);have q:yI D w (d.alloc (qm (LB.cl m).toArray 51)):=by rw[<-a];exact((yN _ _).alloc o _).alloc (by rw[zA];omega) _
 have b:yI D w w':=q.trans (Kit.zAq l (by rw[zA];omega) (fun k f=>h.block k f));exact⟨e,c',w',g,i,fun k f=>b.block k f,b,b.size⟩
theorem zK2 (l:List Nat) (a:Option yB) (n c:Nat) (w:qy) (hn:kG l=n) (aj:n<=10000) (hs:yZ w a (l.map ival)) (hl:∀x∈l,x<=1):
  yC yG 26 #[qX a n c,qV qj 2] w fun e w'=>e=qp (qZ #[zAe (zAz yE l),qV qj 0])/\yI w.heap.size w w':=by
 have ai:∀(fn:Fn) (first ah:Array qz) (w:qy),(Instr.makeFunc fn first ah).run yG w= .ok (.func fn first ah) w:=fun _ _ _ _=>rfl;obtain⟨B,z⟩:=zB w.heap.size;obtain⟨W1,K⟩:=zB (w.alloc (qm #[qV qj 2] 3));obtain⟨q,I⟩:=zB (W1.alloc (qm #[qW ⟨#[]⟩,qV qj 0] 51));have z1:W1.heap.size=B+1:=by rw[<-K,zA,z]
 have z2:q.heap.size=B+2:=by rw[<-I,zA,z1]
 have b1:yI B w W1:=by rw[<-K,<-z];exact(yN _ _).alloc (qPq _) _
 have b2:yI (B+1) W1 q:=by rw[<-I,<-z1];exact(yN _ _).alloc (qPq _) _
 have new:∀(W:qy) (o:Obj),(W.alloc o).heap[W.heap.size]? =qw o:=fun W o=>by show(W.heap.push o)[W.heap.size]? =_;simp
 have c0:Boxed q B 3 (qV qj 2):=by
  show q.heap[B]? =_;rw[b2.block B za,<-K,<-z];exact new _ _
 have c1:q.heap[B+1]? =qw (qm #[qW ⟨#[]⟩,qV qj 0] 51):=by
  rw[<-I,<-z1];exact new _ _
 have a1:yI B w q:=b1.trans (b2.mono za);have a7:yZ q a (l.map ival):=hs.below (by rw[z];exact a1);have x0:=c0.cell;have HQ:=zH (zO3 (fun _=>yE) l 91 (qY (qw ⟨B,0,qx⟩)) a n c q hn za a7 (zHw func91 rfl rfl) (fun x hx=>zSj x B (hl x hx) q x0));rw[any_false]at HQ;obtain⟨HF,HO⟩:=yQ (zC9 q) (zTq q);rw[z2]at HO;obtain⟨C1,a3,HS,HL,HN⟩:=yT c1 a1 hs hl hn;obtain⟨T,y⟩:=zB (zAz yE l);have ab:=zK4 yE l;rw[y,hn]at ab;rw[y];have HT:=zH y;clear b1 b2 new c0 c1 a1 hs a7 hl hn y;rw[z];go_enter func26,ntmps26;go_wp2_with fail;(with_reducible refine HF.out.mono ?_);rintro e w2 ⟨rfl,rfl⟩;go_wp2_with fail;(with_reducible refine HQ.out.mono ?_);rintro e w2 ⟨rfl,rfl⟩;go_wp2_with fail;clear K I z1 x0;(with_reducible refine HO.out.mono ?_);rintro e w3 ⟨rfl,R,a2⟩;obtain⟨P3,a5,C3⟩:=yR R (a3.out.trans (a2.mono za)) ((a2.block (B+1) za).trans C1.out);have a8:B+2<w3.heap.size:=zAd R;clear R a2 HQ HF HO C1 a3;go_wp2;go_loopw [25,7] (fun i v wr=>∃(j:Nat) (b:Bool) (ls:List (List Bool)) (p:Option yB) (c:Nat),j<=n/\i=qV qj j/\v=qX p j c/\yH (Pl wr (B+2) b)/\yH (yj LB wr (B+3) 51 p j c ls)/\yH (ls.flatten++zAz b (l.drop j)=T)/\yH (wr.heap[B+1]? =qw (qm #[qW ⟨#[]⟩,qV qj 0] 51))/\yH (yI B w wr)/\B+2<wr.heap.size) (fun i _ _=>n-(intOf i).toNat)
 case atStart=>exact⟨0,yE,[],qx,0,za,rfl,rfl,P3,zH (Kit.Own'.start _ _ _),zH (by rw[qR3,HT.out];rfl),C3,a5,a8⟩
 case round=>
  clear P3 a5 C3 a8;obtain⟨j,b,ls,p,c',hj,rfl,rfl,hp,t,y,L,hb,hz⟩:=hrel;by_cases ad:j<n
  ·have P:j<kG l:=by rw[HN.out];exact ad
   obtain⟨x,hx⟩:=zB (l[j]);have ag:x<=1:=by rw[<-hx];exact HL.out _ (qQ P)
   obtain⟨g,off,rfl,e0⟩:=(HS.out.below (w':=wr) (by rw[z];exact hb.out)) j (ival x) (by rw[qP2,qPu P,hx];rfl);have hd:=zOd l j b P;rw[hx]at hd;have a4:ls.flatten++(zC8 b x++zAz (x==1) (l.drop (j+1)))=T:=by rw[<-hd];exact y.out
   have HI:=zH (slices_Index_int (B+2) 0 6 6 [((b.toNat:Nat):Int),(((!b).toNat:Nat):Int),2,3,4,5] (x:Int) wr zm za (by rw[show(B+2)=B+2 from rfl];exact qG8 hp.out));rw[show List.take 6 [((b.toNat:Nat):Int),(((!b).toNat:Nat):Int),2,3,4,5]=[((b.toNat:Nat):Int),(((!b).toNat:Nat):Int),2,3,4,5]from rfl,qHj x b ag]at HI;have a9:=zH a4;clear hd a4 hx y;by_cases s:x=b.toNat
   ·rw[qPr s]at HI;have M:=zH s;clear s;go_wp2_with fail;(with_reducible refine HI.out.mono ?_);rintro e w4 ⟨rfl,rfl⟩;have X:=zH (zMq (B+2) b w4 hp.out);go_wp2_with fail;(with_reducible refine X.out.mono ?_);rintro e w5 ⟨rfl,H,m⟩;have HP:=zH (zD1 [] 0 1 (m':=zC8 b x) (by rw[qB2];unfold zC8;rw[qPr M.out];rfl) (d:=⟨#[]⟩) rfl (k:=0) (V:=0) (N:=1) rfl rfl rfl za za zm w5);have af:=m.below.size;have F:yj LB w5 (B+3) 51 p j c' ls:=zQz t.out (fun k h1 _=>m.old k za);obtain⟨S,Y,P5,O5⟩:=yS ((m.old (B+1) za).trans L.out) (hb.out.trans (m.below.mono za)) H F;clear H m e0 F;go_wp2_with fail;(with_reducible refine HP.out.mono ?_);rintro e w6 ⟨rfl,f⟩;have ae:=f.size;obtain⟨p',c2,w8,Z,u,r,G,ac⟩:=zR2 (O5.out.below f (qPq _)) (zC8 b x) za za;have P8:=yP (Pl w8 (B+2) b) ((r (B+2) za).trans ((f.block (B+2) za).trans P5.out));obtain⟨C8,B8,O8⟩:=yR ((r (B+1) za).trans ((f.block (B+1) za).trans S.out)) (Y.out.trans ((f.mono za).trans (G.mono za))) u;have T8:=yP ((ls++[zC8 b x]).flatten++zAz (x==1) (l.drop (j+1))=T) (by rw[List.flatten_append,List.append_assoc];simpa using a9.out);clear f u r G;go_wp2_with (at_builtin;refine Kit.zAr rfl (.tmp 51) (.tmp 53) 70 rfl rfl rfl Z ?_);go_roundw
    case rel=>exact⟨j+1,(x==1),ls++[zC8 b x],p',c2,za,by go_num,rfl,by rw[show(x==1)=b from by rw[M.out];cases b<;>rfl];exact P8,O8,T8,C8,B8,za⟩
    case measure=>simp only[intOf];omega
   ·rw[qPt s]at HI;have O:x=(!b).toNat:=by cases b<;>simp at s⊢<;>omega
    obtain⟨M,aa⟩:=yQ s O;clear s O;go_wp2_with fail;(with_reducible refine HI.out.mono ?_);rintro e w4 ⟨rfl,rfl⟩;have X:=zH (zMp (B+2) b w4 hp.out);go_wp2_with fail;(with_reducible refine X.out.mono ?_);rintro e w5 ⟨rfl,H,m⟩;have HP:=zH (zD1 [] 2 2 (m':=zC8 b x) (by rw[qB1];unfold zC8;rw[qPt M.out];rfl) (d:=⟨#[]⟩) rfl (k:=0) (V:=2) (N:=2) rfl rfl rfl za za zm w5);have af:=m.below.size;have F:yj LB w5 (B+3) 51 p j c' ls:=zQz t.out (fun k h1 _=>m.old k za);obtain⟨S,Y,P5,O5⟩:=yS ((m.old (B+1) za).trans L.out) (hb.out.trans (m.below.mono za)) H F;clear H m e0 F;go_wp2_with fail;(with_reducible refine HP.out.mono ?_);rintro e w6 ⟨rfl,f⟩;have ae:=f.size;obtain⟨p',c2,w8,Z,u,r,G,ac⟩:=zR2 (O5.out.below f (qPq _)) (zC8 b x) za za;have P8:=yP (Pl w8 (B+2) (!b)) ((r (B+2) za).trans ((f.block (B+2) za).trans P5.out));obtain⟨C8,B8,O8⟩:=yR ((r (B+1) za).trans ((f.block (B+1) za).trans S.out)) (Y.out.trans ((f.mono za).trans (G.mono za))) u;have T8:=yP ((ls++[zC8 b x]).flatten++zAz (x==1) (l.drop (j+1))=T) (by rw[List.flatten_append,List.append_assoc];simpa using a9.out);clear f u r G;go_wp2_with (at_builtin;refine Kit.zAr rfl (.tmp 51) (.tmp 53) 70 rfl rfl rfl Z ?_);go_roundw
    case rel=>exact⟨j+1,(x==1),ls++[zC8 b x],p',c2,za,by go_num,rfl,by rw[show(x==1)=(!b)from by rw[aa.out];cases b<;>rfl];exact P8,O8,T8,C8,B8,za⟩
    case measure=>simp only[intOf];omega
  ·obtain rfl:j=n:=za
   have a6:ls.flatten=T:=by
    have:=y.out;rwa[qSw (by rw[HN.out];omega),zAz,qQ3]at this
   have HC:=zH (zFs p j c' ls wr t.out.len (by
    rcases qQy j with h|h
    ·omega
    ·exact(t.out.at_ h).choose_spec.2.2.2) za (zFd t.out) (by rw[a6];omega))
   rw[a6]at HC;unfold zAe at HC;obtain⟨y0,y1,f0,f1⟩:=zAf L.out;go_wp2_with fail;(with_reducible refine HC.out.mono ?_);rintro e w4 ⟨rfl,a0⟩;clear y0 y1 f0 f1;obtain⟨y0,y1,f0,f1⟩:=zAf ((a0.block (B+1) za).trans L.out);have H4:=zH (hb.out.trans (a0.mono za));clear a0;go_wp2
   try simp only[Exit.inBlock,Exit.then]
   exact qP5 (zEk rfl _ _ (B+1) _ _ _ rfl rfl (Bt.zCy y0) (Bt.zCx y1)) rfl ⟨rfl,zCs H4.out za⟩
end Sl
namespace Bk
open Tn Zr Ch Hf Bt Sq Us Sl St
theorem zWp (a b:Nat) (c:a<=20) (d:b<=20):kG (steps a b)<=41:=by
 unfold steps;simp;omega
theorem zT5:∀(l:List Nat) (a:Nat),a<=20->(∀x∈l,x<=20)->kG (del a l)<=41*kG l
 |[],_,_,_=>by simp[del]
 |n::r,a,h,hl=>by
  have c:=zWp a n h (hl n zm);have d:=zT5 r n (hl n zm) (fun x b=>hl x (by simp[b]));rw[del,qPx,qP3];omega
theorem zI8 (l:List Nat) (b:∀x∈l,x<=20):kG (delta l)<=5+41*kG l:=by
 unfold delta;rw[qPx,zAc];have c:l.headD 0<=20:=by
  cases l with
  |nil=>simp
  |cons a r=>exact b a zm
 have:=zT5 l _ c b;omega
theorem qAf (l:List Nat):kG (zC2 l)<=272:=by
 unfold zC2;rw[qPx,zAc];have:=zIt l 16;omega
theorem zN2 (t:List Nat) (a:∀x∈t,x<=20):∀g:List Nat,kG (g.flatMap (word t))<=20*kG g
 |[]=>by simp
 |s::g=>by
  rw[qSl,qPx,zCu,qP3];have b:=zN2 t a g;have c:t.getD s 0<=20:=by
   rw[qPw];cases h:t[s]? with
   |none=>simp
   |some x=>exact a x (qSt h)
  omega
def pkT (x:List UInt8):ByteArray:=⟨(Rle.pack x).toArray⟩
def codes (p:ByteArray):Nat:=(zAj p).size+2
def tab (p:ByteArray) (k:Nat):List Nat:=tb (sym p) (codes p) k
def cho (p:ByteArray):List Nat:=chosen (sym p) (codes p)
def zGb (p:ByteArray) (i:Nat):List Nat:=if(cho p).getD i 0=1 then tab p 1 else tab p 0
def groups (p:ByteArray):List (List Nat):=grp (sym p)
def zBe (p:ByteArray) (i:Nat):List Bool:=((groups p).getD i []).flatMap (word (zGb p i))
def zA4:Nat:=54156738319193
def zBa (x:List UInt8):Nat:=(Crc.sum x).toNat
def zCg (x:List UInt8):List (List Bool):=[num zA4 48,num (zBa x) 32,num (zA8 (pkT x)) 16,zC2 (bl (zAj (pkT x))),num 2 3,num (kG (cho (pkT x))) 15,zAz yE (cho (pkT x))]
def zIg (x:List UInt8):List (List Bool):=zCg x++[delta (tab (pkT x) 0),delta (tab (pkT x) 1)]++(yK (kG (groups (pkT x)))).map (zBe (pkT x))
def zAn (x:List UInt8):List Bool:=(zIg x).flatten
theorem zF8 (p:ByteArray) (h:0<p.size):3<=codes p/\codes p<=258:=by
 have a:=zMz p h;have b:=zFk p;unfold codes;omega
theorem zIo (p:ByteArray):kG (sym p)<=p.size+1:=by
 rw[zCv];have:=zL1 p;omega
theorem zC6 (p:ByteArray) (h:0<p.size) (b:p.size<=1000) (k:Nat):Right (tab p k):=by
 have a:=zF8 p h;have c:=zIo p;exact zDn _ _ _ za za za
theorem zG6 (p:ByteArray) (k:Nat):kG (tab p k)=codes p:=zG5 _ _ _
theorem zJ4 (p:ByteArray):kG (cho p)=kG (groups p):=zIe _ _
theorem zYh (p:ByteArray):∀x∈cho p,x<=1:=zGr _ _
theorem zFg (p:ByteArray):kG (groups p)=(kG (sym p)+9)/10:=zBx _
theorem zI2 (p:ByteArray) (a:p.size<=1000):kG (groups p)<=101:=by
 rw[zFg];have:=zIo p;omega
theorem zU7 (p:ByteArray):0<kG (groups p):=by
 rw[zFg,zCv];omega
theorem zSf (p:ByteArray) (h:0<p.size) (a:p.size<=1000) (i:Nat):Right (zGb p i):=by
 unfold zGb;split
 ·exact zC6 p h a 1
 ·exact zC6 p h a 0
theorem qAz (p:ByteArray) (i:Nat) (hi:i<kG (groups p)):(groups p).getD i []∈groups p:=by
 rw[qPw,qPu hi];exact qQ hi
theorem qAy (p:ByteArray) (h:0<p.size) (i:Nat) (hi:i<kG (groups p)):kG ((groups p).getD i [])<=10/\∀s∈(groups p).getD i [],s<codes p:=by
 obtain⟨_,a,b⟩:=zHg (qAz p i hi);exact⟨a,fun s c=>zPz p h s (b s c)⟩
theorem zS3 (p:ByteArray) (h:0<p.size) (a:p.size<=1000) (i:Nat) (hi:i<kG (groups p)):kG (zBe p i)<=200:=by
 have b:=zN2 (zGb p i) (zSf p h a i).top ((groups p).getD i []);have c:=(qAy p h i hi).1;unfold zBe;omega
theorem zEt {α:Type} (b:Nat):∀ls:List (List α),(∀l∈ls,kG l<=b)->kG ls.flatten<=b*kG ls
 |[],_=>by simp
 |l::ls,h=>by
  have c:=zEt b ls (fun l a=>h l (by simp[a]));have d:=h l zm;rw[qS0,qPx,qP3,Nat.mul_add,Nat.mul_one];omega
theorem zXv (x:List UInt8) (h:0<(pkT x).size) (b:(pkT x).size<=1000):∀l∈zCg x,kG l<=300:=by
 intro l a;have d:=qAf (bl (zAj (pkT x)));have e:=zK4 yE (cho (pkT x));have c:=zI2 (pkT x) b;rw[<-zJ4]at c;unfold zCg at a;simp only[qP7,qT8,or_false]at a;rcases a with rfl|rfl|rfl|rfl|rfl|rfl|rfl
 ·rw[zAc];omega
 ·rw[zAc];omega
 ·rw[zAc];omega
 ·omega
 ·rw[zAc];omega
 ·rw[zAc];omega
 ·omega
theorem zO (p:ByteArray) (h:0<p.size) (b:p.size<=1000) (k:Nat):kG (delta (tab p k))<=11000:=by
 have a:=zI8 (tab p k) (zC6 p h b k).top;rw[zG6]at a;have:=zF8 p h;omega
theorem zLp (x:List UInt8) (h:0<(pkT x).size) (a:(pkT x).size<=1000):kG (zAn x)<=45000:=by
 have b:=zEt 300 (zCg x) (zXv x h a);have c:=zEt 200 ((yK (kG (groups (pkT x)))).map (zBe (pkT x))) (fun l d=>by
  obtain⟨i,hi,rfl⟩:=qQf.1 d;exact zS3 (pkT x) h a i (qQm.1 hi))
 have e:=zO (pkT x) h a 0;have f:=zO (pkT x) h a 1;have g:=zI2 (pkT x) a;rw[qQi,qQ8]at c;rw[show(zCg x).length=7 from rfl]at b;unfold zAn zIg;rw[qRz,qRz,qPx,qPx];simp only[qS0,List.flatten_nil,qQ3,qPx];omega
theorem zFy (x:List UInt8):(pkT x).size=xW x:=by show(Rle.pack x).toArray.size=_;simp[xW]
theorem zJp (x:List UInt8) (h:0<kG x):0<(pkT x).size:=by
 have:=Rle.zBu x;rw[zFy];omega
end Bk
namespace Sm
open Tn Zr Bt Bk
abbrev T:=List UInt8
def pieces (a:Nat):Nat->T->List T
 |0,_=>[]
 |n+1,x=>if x=[]then[]else x.take (xX x a)::pieces a n (x.drop (xX x a))
def pcs (a:Nat) (x:T):List T:=pieces a (kG x) x
theorem zNr (a:Nat) (x:T) (h:x≠[]) (d:1<=a):kG (x.drop (xX x a))<kG x:=by
 have b:=Rle.zJ2 x a h za;have c:0<kG x:=qSn.2 h;rw[qQn];omega
theorem zKh (a:Nat) (c:1<=a):∀(n m:Nat) (x:T),kG x<=n->kG x<=m->pieces a n x=pieces a m x
 |0,0,x,_,_=>rfl
 |0,m+1,x,h,_=>by
  have:x=[]:=qQz za;subst this;simp[pieces]
 |n+1,0,x,_,h=>by
  have:x=[]:=qQz za;subst this;simp[pieces]
 |n+1,m+1,x,h,g=>by
  unfold pieces;by_cases b:x=[]
  ·rw[qPr b,qPr b]
  ·have:=zNr a x b c;rw[qPt b,qPt b,zKh a c n m _ za za]
theorem zB6 (a:Nat):pcs a []=[]:=rfl
theorem zBq (a:Nat) (x:T) (h:x≠[]) (b:1<=a):pcs a x=x.take (xX x a)::pcs a (x.drop (xX x a)):=by
 have d:=zNr a x h b;have e:0<kG x:=qSn.2 h;obtain⟨n,c⟩:∃n,kG x=n+1:=⟨kG x-1,za⟩;unfold pcs;rw[c,pieces,qPt h,zKh a b n (kG (x.drop (xX x a))) _ za (qPq _)]
theorem zJr {M:T->Prop} (a:Nat) (e:1<=a) (b:M []) (d:∀x,x≠[]->M (x.drop (xX x a))->M x):∀(n:Nat) (x:T),kG x<=n->M x
 |0,x,h=>by
  have:x=[]:=qQz za;subst this;exact b
 |n+1,x,h=>by
  by_cases c:x=[]
  ·subst c;exact b
  ·have:=zNr a x c e;exact d x c (zJr a e b d n _ za)
theorem zHv (a:Nat) (b:1<=a) (x:T):(pcs a x).flatten=x:=by
 refine zJr (M:=fun x=>(pcs a x).flatten=x) a b rfl (fun x c d=> ?_) (kG x) x (qPq _);rw[zBq a x c b,qS0,d,qR9]
theorem zJq (a:Nat) (c:1<=a) (x:T):∀p∈pcs a x,0<kG p/\xW p<=a:=by
 refine zJr (M:=fun x=>∀p∈pcs a x,0<kG p/\xW p<=a) a c (by simp[zB6]) (fun x d e=> ?_) (kG x) x (qPq _);rw[zBq a x d c];intro p b;rcases qP7.1 b with rfl|b
 ·have f:=Rle.zJ2 x a d za;have g:=Rle.zLm x a za;rw[qQh];omega
 ·exact e p b
theorem zOh (a:Nat) (j:40<=a) (x:T):30*kG (pcs a x)<=kG x+29:=by
 refine zJr (M:=fun x=>30*kG (pcs a x)<=kG x+29) a za (by simp[zB6]) (fun x b f=> ?_) (kG x) x (qPq _);rw[zBq a x b za,qP3];have c:=Rle.zLm x a za;have g:=Rle.zBu (x.take (xX x a+1));have h:kG (x.take (xX x a+1))<=xX x a+1:=by rw[qQh];omega
 rw[qQn]at f;have i:=Rle.zJ2 x a b za;by_cases d:xX x a<kG x
 ·have:=c.2.2 d;omega
 ·have e:x.drop (xX x a)=[]:=by rw[List.drop_eq_nil_iff];omega
  rw[e,zB6];have:0<kG x:=qSn.2 b;simp;omega
def zBp (a:Nat):List Bool:=num 80 8++(num 77 8++(num 107 8++num (48+a) 8))
theorem zTz:∀a:Fin 10,pkL (zBp a.val)=[80,77,107,UInt8.ofNat (48+a.val)]:=by decide+kernel
theorem zDw (a:Nat):kG (zBp a)=32:=by simp[zBp,zAc]
def zH0:Nat:=25779555029136
def zVr (a:List T):BitVec 32:=(a.map Crc.sum).foldl Crc.fold 0#32
def zF (a:List T):List Bool:=num zH0 48++num (zVr a).toNat 32
theorem zRi (a:List T):kG (zF a)=80:=by simp[zF,zAc]
def qBn (b:Nat) (a:List T):List (List Bool):=zBp b::(a.map zAn++[zF a])
def zFa (a:Nat) (b:List T):List Bool:=(qBn a b).flatten
def zCt (a:Nat) (b:List T):ByteArray:=pk (zFa a b)
def pos (a:List T) (k:Nat):Nat:=32+((a.take k).map zAn).flatten.length
theorem zZu (a:List T):pos a 0=32:=by simp[pos]
theorem zZv (a:List T) (k:Nat) (h:k<kG a):pos a (k+1)=pos a k+kG (zAn a[k]):=by
 unfold pos;rw[qQo h,qQd,qRz,qPx,qQa,qSq,qS0,List.flatten_nil,qQ3];omega
theorem zYn (b:Nat) (a:List T) (k:Nat) (h:k<kG a):zFa b a=(zBp b++((a.take k).map zAn).flatten)++zAn a[k]++(((a.drop (k+1)).map zAn).flatten++zF a):=by
 have:a=a.take k++a[k]::a.drop (k+1):=by rw[List.getElem_cons_drop,qR9]
 have c:(a.map zAn).flatten=((a.take k).map zAn).flatten++(zAn a[k]++((a.drop (k+1)).map zAn).flatten):=by
  rw[<-qS0,<-qQa,<-qRz,<-qQd,<-this]
 unfold zFa qBn;rw[qS0,qRz,c];simp
theorem zLs (b:Nat) (a:List T):zFa b a=(zBp b++(a.map zAn).flatten)++zF a++[]:=by
 unfold zFa qBn;simp
theorem zJ8 (b:Nat) (a:List T):kG (zFa b a)=pos a (kG a)+80:=by
 rw[zLs];simp only[qPx,zDw,zRi,pos,qTg,qQx]
theorem zVo (a m b:List Bool):At (pk (a++m++b)) (kG a) m:=by
 have f:kG (a++m++b)<=8*(pk (a++m++b)).size:=by rw[zDu];unfold zA2;omega
 simp only[qPx]at f;refine⟨za,?_⟩;refine List.ext_getElem (by rw[take_length]) (fun j e c=> ?_);have d:=zKy (pk (a++m++b)) (kG a) (kG m) j c;rw[qPu e]at d;rw[qPv d,zGo _ _ za,qPw,qQw,qS4 za,Nat.add_sub_cancel_left,qR6 c,qPu c];rfl
theorem qGm (b:Nat) (a:List T) (k:Nat) (h:k<kG a):At (zCt b a) (pos a k) (zAn a[k]):=by
 have c:=zVo (zBp b++((a.take k).map zAn).flatten) (zAn a[k]) (((a.drop (k+1)).map zAn).flatten++zF a);rw[<-zYn,qPx,zDw]at c;exact c
theorem qEd (b:Nat) (a:List T):At (zCt b a) (pos a (kG a)) (zF a):=by
 have c:=zVo (zBp b++(a.map zAn).flatten) (zF a) [];rw[<-zLs,qPx,zDw]at c;unfold pos;rw[qTg];exact c
theorem zLr (b:Nat) (a:List T):(zCt b a).size=(pos a (kG a)+80+7)/8:=by
 unfold zCt;rw[zDu,zJ8];rfl
theorem val_zero:∀n:Nat,val (yL n yE)=0
 |0=>rfl
 |n+1=>by rw[qSo,zKx,val_zero n];simp
theorem qBl (b:Nat) (a:List T) (r:Nat) (h:pos a (kG a)+80+r<=8*(zCt b a).size):val (take (zCt b a) (pos a (kG a)+80) r)=0:=by
 have:take (zCt b a) (pos a (kG a)+80) r=yL r yE:=by
  refine List.ext_getElem (by rw[take_length,qTz]) (fun j c f=> ?_);rw[take_length]at c;have d:=zKy (zCt b a) (pos a (kG a)+80) r j c;rw[qPu (by rw[take_length];exact c)]at d;rw[qPv d,List.getElem_replicate];have e:=zGo (zFa b a) (pos a (kG a)+80+j) (by
   show _<8*(zCt b a).size;omega)
  rw[show zCt b a=pk (zFa b a)from rfl,e,zDe];rw[zJ8];omega
 rw[this,val_zero]
theorem qBm (a:Nat) (e:a<10) (c:List T) (k:Nat) (d:k<4):(zCt a c).data.toList[k]? =qw (([80,77,107,UInt8.ofNat (48+a)]:T).getD k 0):=by
 have b:(pkL (zBp a))[k]? =qw (([80,77,107,UInt8.ofNat (48+a)]:T).getD k 0):=by
  rw[zTz ⟨a,e⟩]
  match k,d with
  |0,_=>rfl
  |1,_=>rfl
  |2,_=>rfl
  |3,_=>rfl
 have f:k<zA2 (kG (zBp a)):=by rw[zDw];unfold zA2;omega
 rw[zFz _ _ f]at b;show(pkL (zFa a c))[k]? =_;rw[zFz _ _ (by rw[zJ8];unfold zA2;omega),<-b];congr 2;refine zDv (fun j g=> ?_);rw[zLs,qPw,qPw,qQw,qQw,qR6 (by rw[zDw];omega)]
theorem zW3 (a:List T) (h:∀p∈a,0<kG p/\xW p<=1000) (k:Nat):pos a k<=32+45000*kG a:=by
 unfold pos;have c:=zEt 45000 ((a.take k).map zAn) (fun l d=>by
  obtain⟨p,e,rfl⟩:=qQf.1 d;have b:=h p (qUg e);exact zLp p (zJp p b.1) (by rw[zFy];exact b.2))
 rw[qQi,qQh]at c;have:45000*min k (kG a)<=45000*kG a:=Nat.mul_le_mul_left _ (Nat.min_le_right _ _);omega
end Sm
namespace Sq
open Front Ix
theorem indexB (l:List Nat) (f:Nat) (v:qz) (a:Option yB) (n c:Nat) (w:qy) (p:kG l=n) (z:n<=1000000000) (q:yZ w a (l.map ival)) (u:zG3 f)
  (H:∀x∈l,∀W,yI w.heap.size w W->yC yG f #[ival x,v] W fun e w'=>e=qp (qc yE)/\yI W.heap.size W w'):
  yC yG 152 #[qX a n c,.func (.func f) #[] #[v]] w fun e w'=>e=qp (qV qj (-1))/\yI w.heap.size w w':=by
 obtain⟨t,s,r⟩:=yR q p H;unfold zG3 at u;clear q p H;go_enter func152,ntmps152;go_wp2;go_loopw [8] (fun i wr=>∃k:Nat,k<=n/\i=qV qj k/\yH (yI w.heap.size w wr)) (fun i _=>n-(intOf i).toNat)
 case atStart=>exact⟨0,za,rfl,zH (yN _ _)⟩
 case round=>
  obtain⟨k,B,rfl,j⟩:=hrel;by_cases h:k<n
  ·have g:k<kG l:=by rw[s.out];exact h
   obtain⟨x,m⟩:=zB (l[k]);obtain⟨b,off,rfl,y⟩:=(t.out.below j.out) k (ival x) (by rw[qP2,qPu g,m];rfl);have o:=zH (r.out x (by rw[<-m];exact qQ g) wr j.out);clear m;go_wp2_with fail;(with_reducible refine o.out.mono ?_);rintro e w2 ⟨rfl,d⟩;have HB:=zH (j.out.trans (d.mono j.out.size));clear d o j;go_wp2;go_roundw
   case rel=>exact⟨k+1,za,by go_num,HB⟩
   case measure=>simp[intOf];omega
  ·obtain rfl:k=n:=za
   go_wp2;go_ret;exact⟨rfl,j.out⟩
theorem zYc (l:List Nat) (f:Nat) (v:qz) (a:Option yB) (n c:Nat) (w:qy) (d:kG l=n) (j:n<=1000000000) (g:yZ w a (l.map ival)) (b:zG3 f)
  (H:∀x∈l,∀W,yI w.heap.size w W->yC yG f #[ival x,v] W fun e w'=>e=qp (qc yE)/\yI W.heap.size W w'):
  yC yG 79 #[qX a n c,.func (.func f) #[] #[v]] w fun e w'=>e=qp (qc yE)/\yI w.heap.size w w':=by
 have h:=zH (indexB l f v a n c w d j g b H);clear d g b H;go_enter func79,ntmps79;go_wp2_with fail;(with_reducible refine h.out.mono ?_);rintro e w2 ⟨rfl,i⟩;go_wp2;go_ret;exact⟨rfl,i⟩
end Sq
namespace Hf
open Front Bt Zr
def takeC (l:List Nat) (k j:Nat):Nat:=(l.take k).count j
theorem zUi (l:List Nat) (k:Nat) (a:k<kG l) (j:Nat):zAy (takeC l k) l[k] (takeC l k l[k]+1) j=takeC l (k+1) j:=by
 unfold zAy takeC;rw[qQo a,List.count_append,List.count_singleton];by_cases e:j=l[k]
 ·subst e;simp
 ·rw[qPt e];have:(l[k]==j)=yE:=by simp;exact fun h=>e h.symm
  simp[this]
theorem zY9 (l:List Nat) (k j:Nat):takeC l k j<=k:=by
 unfold takeC;have b:=List.count_le_length (a:=j) (l:=l.take k);rw[qQh]at b;omega
def zId (l:List Nat) (j:Nat):qz:=qV qj ((cnt l j:Nat):Int)
theorem qBd (l:List Nat) (n:Nat):(cellsOf n (zId l)).all (·.oneCell')=yD:=by
 rw[qUf];intro v hv;simp only[cellsOf,Array.mem_map]at hv;obtain⟨j,_,rfl⟩:=hv;rfl
theorem zS4 (l:List Nat) (a:Option yB) (n c:Nat) (w:qy) (Z:kG l=n) (a0:n<=100000) (hs:yZ w a (l.map ival)) (Y:∀x∈l,x<=20):
  yC yG 127 #[qX a n c] w fun e w'=>e=qp (.agg (cellsOf 21 (zId l)))/\yI w.heap.size w w':=by
 obtain⟨B,y⟩:=zB w.heap.size;have hz:(#[qV qj 0,qV qj 0,qV qj 0,qV qj 0,qV qj 0,qV qj 0,qV qj 0,qV qj 0,qV qj 0,qV qj 0,qV qj 0,qV qj 0,qV qj 0,qV qj 0,qV qj 0,qV qj 0,qV qj 0,qV qj 0,qV qj 0,qV qj 0,qV qj 0]:Array qz)=cellsOf 21 (fun _=>qV qj 0):=zf
 have h:=zAm.zeros B w 21 218 y;rw[<-hz]at h;obtain⟨W,M⟩:=zB (w.alloc (qm (#[qV qj 0,qV qj 0,qV qj 0,qV qj 0,qV qj 0,qV qj 0,qV qj 0,qV qj 0,qV qj 0,qV qj 0,qV qj 0,qV qj 0,qV qj 0,qV qj 0,qV qj 0,qV qj 0,qV qj 0,qV qj 0,qV qj 0,qV qj 0,qV qj 0]:Array qz) 218));have F:yI B w W:=by rw[<-M,<-y];exact(yN _ _).alloc (qPq _) _
 rw[M]at h;obtain⟨G,s,HS,HL,X⟩:=yT h F hs Y Z;rw[y];clear hz h F hs Y Z;go_enter func127,ntmps127;go_wp2;clear M;go_loopw [7] (fun i wr=>∃k:Nat,k<=n/\i=qV qj k/\yH (zAm wr B 218 21 (takeC l k))/\yH (yI B w wr)) (fun i _=>n-(intOf i).toNat)
 case atStart=>exact⟨0,za,rfl,zH (G.out.congr (fun j _=>by simp[takeC])),s⟩
 case round=>
  clear G s;obtain⟨k,hk,rfl,f,N⟩:=hrel;by_cases K:k<n
  ·have m:k<kG l:=by rw[X.out];exact K
   have d:=zUi l k m;have H:=zY9 l k l[k];have I:=HL.out _ (qQ m);obtain⟨x,O⟩:=zB (l[k]);obtain⟨g,off,rfl,e0⟩:=(HS.out.below (w':=wr) (by rw[y];exact N.out)) k (ival x) (by rw[qP2,qPu m,O];rfl);rw[O]at d H I;have x0:=f.out.cell x za;have f0:=f.out.free x;have t:=zH ((f.out.set x (takeC l k x+1) (V:=((takeC l k x:Nat):Int)+1) za).congr (fun j _=>d j));obtain⟨q,hq⟩:=zB (takeC l k x);rw[hq]at x0 H t;clear d O hq;go_wp2;go_roundw
   case rel=>exact⟨k+1,za,by go_num,t,zH (N.out.setCell (p:=⟨B,x,qx⟩) (qPq _) _)⟩
   case measure=>simp[intOf];omega
  ·obtain rfl:k=n:=za
   have b:Arr wr B 218 21 (zId l):=by
    have:=f.out.congr (g:=cnt l) (fun j _=>by unfold takeC;rw[qQg (by rw[X.out];omega),Wg.zJ]);exact this
   have o:(prog.info? 218).map (·.size)=qw 21:=zf
   have u:(cellsOf 21 (zId l)).size=21:=cellsOf_size _ _;have d:=zE2 (P:=yG) wr B 218 _ (cellsOf 21 (zId l)) b rfl (qBd l 21);rw[setRow_self wr B _ 218 (0,0) b]at d;obtain⟨z,r⟩:=zB (cellsOf 21 (zId l));unfold Arr at b;rw[r]at b d u;have R:=zH b;have S:=yP ((prog.info? 218).map (·.size)=qw z.size) (by rw[u];exact o);have L:=zH r;clear b o r;go_wp2_with (refine wpList_load_row rfl 218 (.tmp 2) rfl B rfl 218 z (0,0) (.array 21 3) R.out underlying218 rfl S.out ?_)
   try simp only[Exit.inBlock,Exit.then]
   rw[L.out];exact qP5 (results_cell_row rfl _ _ B 218 z (0,0) (.array 21 3) rfl R.out underlying218 rfl S.out) rfl ⟨rfl,N.out⟩
theorem zI5 (m:Int):∀(zs:List Int) (a:Int),a<=m->(∀z∈zs,z<=m)->zs.foldl max a<=m
 |[],a,h,_=>h
 |z::zs,a,h,hz=>zI5 m zs (max a z) (by have:=hz z zm;omega) (fun y b=>hz y (by simp[b]))
theorem zI4 (m:Int):∀(zs:List Int) (a:Int),m<=a->(∀z∈zs,m<=z)->m<=zs.foldl min a
 |[],a,h,_=>h
 |z::zs,a,h,hz=>zI4 m zs (min a z) (by have:=hz z zm;omega) (fun y b=>hz y (by simp[b]))
theorem max_le (m:Int) (zs:List Int) (a:zs≠[]) (h:∀z∈zs,z<=m):Lib.maxOf zs<=m:=by
 unfold Lib.maxOf;cases zs with
 |nil=>exact absurd rfl a
 |cons z r=>exact zI5 m _ _ (h z zm) h
theorem qFp (m:Int) (zs:List Int) (a:zs≠[]) (h:∀z∈zs,m<=z):m<=Lib.minOf zs:=by
 unfold Lib.minOf;cases zs with
 |nil=>exact absurd rfl a
 |cons z r=>exact zI4 m _ _ (h z zm) h
def left (l:List Nat):Nat->Int
 |0=>1
 |k+1=>((2^k:Nat):Int)-((first l k+cnt l k:Nat):Int)
theorem zXl (l:List Nat) (k:Nat):left l (k+1)=(if 0<k then 2*left l k else left l k)-((cnt l k:Nat):Int):=by
 cases k with
 |zero=>simp[left,first]
 |succ k=>
  rw[qPr za];simp only[left,first,qRq];push_cast;omega
theorem zMh {l:List Nat} (h:Right l) (k:Nat) (c:k<=21):0<=left l k/\left l k<=2097152:=by
 cases k with
 |zero=>simp[left]
 |succ k=>
  have a:=h.zEs k za;have b:2^k<=2^20:=qR8 za za;simp only[left];omega
theorem qGc (l:List Nat) (n:Nat):cnt l n<=kG l:=by rw[Wg.zJ];exact List.count_le_length
theorem zCk (l:List Nat) (a:Option yB) (n c:Nat) (w:qy) (hn:kG l=n) (hs:yZ w a (l.map ival)) (X:Right l):
  yC yG 45 #[qX a n c] w fun e w'=>e=qp (qV qj 0)/\yI w.heap.size w w':=by
 have h2:=X.two;have O:=X.most;rw[hn]at h2 O;obtain⟨b,r,rfl,_⟩:=hs 0 (ival l[0]) (by rw[qP2,qPu];rfl);obtain⟨zs,g⟩:∃zs:List Int,l.map (fun x:Nat=>(x:Int))=zs:=⟨_,rfl⟩;have o:kG zs=n:=by rw[<-g,qQi,hn]
 have f:∀j,j<kG zs->w.cell? ⟨b,r+j,qx⟩=qw (qV qj (zs.getD j 0)):=by
  intro j hj;have N:j<kG l:=za
  obtain⟨b',a0,ha,hc⟩:=hs j (ival l[j]) (by rw[qP2,qPu N];rfl);injection ha with ha
  injection ha with h1 h3 _
  subst h1 h3;rw[hc,<-g,qPw,qP2,qPu N];rfl
 have hne:zs≠[]:=by intro h;rw[h]at o;simp at o;omega
 have H:Lib.maxOf zs<=20:=max_le 20 zs hne (fun z Y=>by rw[<-g]at Y;obtain⟨x,hx,rfl⟩:=qQf.1 Y;have:=X.top x hx;omega);have K:1<=Lib.minOf zs:=qFp 1 zs hne (fun z Y=>by rw[<-g]at Y;obtain⟨x,hx,rfl⟩:=qQf.1 Y;have:=X.one x hx;omega);obtain⟨Z,H2⟩:=yQ (slices_Min_int b r n c zs w za za za f) (slices_Max_int b r n c zs w za za za f);rw[qQg za]at Z H2;obtain⟨mn,s⟩:=zB (Lib.minOf zs);obtain⟨mx,p⟩:=zB (Lib.maxOf zs);rw[s]at Z K;rw[p]at H2 H;have j1:decide (mn<1)=yE:=qP1 za;have j2:decide ((20:Int)<mx)=yE:=qP1 za;have j3:decide ((n:Int)<2)=yE:=qP1 za;have j4:decide ((258:Int)<(n:Int))=yE:=qP1 za;obtain⟨H3,HR,R⟩:=yR (zS4 l _ n c w hn za hs X.top) X (qGc l);clear f s p g hs o hne K H X;go_enter func45,ntmps45;go_wp2_with fail;(with_reducible refine Z.out.mono ?_);rintro e w2 ⟨rfl,rfl⟩;go_wp2_with fail;(with_reducible refine H2.out.mono ?_);rintro e w3 ⟨rfl,rfl⟩;go_wp2_with fail;(with_reducible refine H3.out.mono ?_);rintro e w4 ⟨rfl,M⟩;obtain⟨S,I⟩:=yQ M (fun k (hk:k<21)=>zCe 21 (zId l) k hk);obtain⟨cs,L⟩:=zB (cellsOf 21 (zId l));rw[L]at I⊢;clear M L j1 j2 j3 j4 Z H2 H3;go_wp2;go_loopw [3,26] (fun lv i wr=>∃k:Nat,k<=21/\i=qV qj k/\lv=qV qj (left l k)/\wr=w4) (fun _ i _=>21-(intOf i).toNat)
 case atStart=>exact⟨0,za,rfl,rfl,rfl⟩
 case round=>
  obtain⟨k,hk,rfl,rfl,rfl⟩:=hrel;by_cases B:k<21
  ·have m:=zE8 (P:=yG) (t:=218) (n:=21) (e:=3) underlying218 (fun _=>isAgg3 _) (fun _=>sizeOf3 _) cs k _ B (I.out k B) wr;unfold zId at m;have V:=zMh HR.out k za;have F:=zMh HR.out (k+1) za;have d:=zXl l k;have W:=R.out k;have a2:=HR.out.most;obtain⟨q,hq⟩:=zB (cnt l k);obtain⟨y,hy⟩:=zB (left l k);rw[hq]at m d W;rw[hy]at d V⊢;by_cases G:0<k
   ·rw[qPr G]at d;rw[d]at F;have u:=zH d;have i4:decide (2*y-(q:Int)<0)=yE:=qP1 za;have a1:(0:Int)<(k:Int):=za
    clear d hq hy G;go_wp2;go_roundw
    case rel=>exact⟨k+1,za,by go_num,by rw[u.out];congr 1;omega,trivial⟩
    case measure=>simp only[intOf];omega
   ·obtain rfl:k=0:=za
    rw[qPt za]at d;rw[d]at F;have u:=zH d;have i4:decide (y-(q:Int)<0)=yE:=qP1 za;rw[show((0:Nat):Int)=0 from rfl]at m;clear d hq hy;go_wp2;go_roundw
    case rel=>exact⟨0+1,za,by go_num,by rw[u.out],trivial⟩
    case measure=>simp only[intOf];omega
  ·obtain rfl:k=21:=za
   go_wp2;go_ret;exact⟨rfl,S.out⟩
end Hf
namespace Hf
open Go.Shelf Front Bt Zr Rg
variable {w:qy}
attribute [local go_sem] Oper.semAt_some
theorem zLt {F:Fence} {e:Nat} {P:Program} {w':qy} {d:Array Oper} {rest:List Oper} {o:Oper} {a:Act} {Q:Exit->Act->qy->Prop} (i:o.guard=qx) (s x:Operand) (t:yA)
  (b:o.op= .call {callee:= .builtin .append,args:= #[s,x],argTypes:= #[t,t]}) {v y v':qz} (k:a.eval s=v) (l:a.eval x=y)
  (j:(Builtin.append_ #[t,t] o.type #[v,y]).run P w= .ok v' w') (h:wpListIn F e P d Q rest (a.put o.dst v') w'):wpListIn F e P d Q (o::rest) a w:=by
 refine wpListIn_plain i fun K f=> ?_;unfold Oper.wpIn;refine⟨?_,?_⟩
 ·simp[Oper.about,b,resolve,Target.leads,qSp]
 ·rw[Oper.semAt_plain F _ _ (by rw[b];intro c g;cases g)];simp[execOp,b,resolve,invoke,builtin,k,l,j,Result.andThen];exact f _ _ h
theorem zG9 {W:qy} {a:Option yB} {xs:List qz} (h:yZ W a xs) {l:Nat} {o:Obj} (n:Obj) (i:W.heap[l]? =qw o) (k:o.isCells=yE):yZ (W.putObj l n) a xs:=by
 intro j u m;obtain⟨b,c,g,e⟩:=h j u m;refine⟨b,c,g,?_⟩;obtain⟨p,t,f,d⟩:=zO7 e;rw[qRe (w:=W) (a:=⟨b,c+j,qx⟩)]
 ·exact e
 ·refine World.putObj_heap_other ?_;rintro rfl;rw[i]at d;obtain rfl:=qPv d;cases k
def lv (l:List Nat) (n m:Nat):List Nat:=(List.range' n m).filter fun k=>decide (0<cnt l k)
theorem qD (l:List Nat) (n m:Nat):lv l n (m+1)=(if 0<cnt l n then[n]else[])++lv l (n+1) m:=by
 unfold lv;rw[List.range'_succ,qTh];by_cases h:0<cnt l n<;>simp[h]
def LE (l:List Nat) (n:Nat) (W:qy) (d:Array qz):Prop:=∃(a:Option yB) (c:Nat),d= #[.agg #[qV qj (n:Int),qV .u64 (first l n:Int),qX a (cnt l n) c]]/\yZ W a ((whose l n).map ival)/\(∃g b f,a=qw ⟨g,0,qx⟩/\W.heap[g]? =qw (qm b 3 f))/\1<=n/\n<=20/\0<cnt l n
def zHl (l:List Nat) (n k:Nat):List Nat:=(yK k).filter fun s=>l.getD s 0==n
theorem zV8 (l:List Nat) (n k:Nat):zHl l n (k+1)=zHl l n k++if l.getD k 0=n then[k]else[]:=by
 unfold zHl;rw[qQu,List.filter_append];congr 1;rw[qTh,List.filter_nil];by_cases h:l.getD k 0=n
 ·rw[if_pos h,show(l.getD k 0==n)=yD by simpa using h];rfl
 ·rw[if_neg h,show(l.getD k 0==n)=yE by simpa using h];rfl
structure LvS (w:qy) (L:Nat) (n f:Nat) (p:Option yB) (m c:Nat) (xs:List Nat):Prop where
 blk:w.heap[L]? =qw (qm #[qV qj (n:Int),qV .u64 (f:Int),qX p m c] 199)
 own:Kit.Own w (L+1) 3 p m c (xs.map ival)
theorem cells3 {B:Nat} {u v x:qz} {t:yA} (h:w.heap[B]? =qw (qm #[u,v,x] t)):w.cell? ⟨B,0,qx⟩=qw u/\w.cell? ⟨B,1,qx⟩=qw v/\w.cell? ⟨B,2,qx⟩=qw x/\w.frozen? ⟨B,2,qx⟩=yE:=by
 refine⟨by simp[yM,h],by simp[yM,h],by simp[yM,h],by simp[World.frozen?,h]⟩
theorem zMf (b:Nat) (a:Option yB) (n c:Nat) (l:List Nat) (hl:kG l=n) (hr:Right l) (C:Nat->Prop) (hC:¬C b) (b7:∀p,a=qw p->¬C p.block) (W:qy) (b8:∀k,W.heap.size<=k->¬C k) (b6:Boxed W b 23 (qX a n c)) (hs:yZ W a (l.map ival)):
  zR7 yG 161 #[qY (qw ⟨b,0,qx⟩)] (LE l) (fun A B=>yI A.heap.size A B) C (lv l 1 20) W:=by
 intro k0 J Jx hJ hY h0;refine qS6 func161 rfl trivial ?_ rfl;simp only[ntmps161,qQ0,qP3,qQx,Nat.reduceAdd,Nat.reduceSub,qQ9,qR,qRa,qRb,qQl,qQr];have an:=hr.most;rw[hl]at an;obtain⟨ao,HS,HN,HJ,HY,H0,HR⟩:=yV b6 hs hl hJ hY h0 hr;clear b6 hs hl hJ hY h0 hr;gi_wp2;gi_loopw [3,4] (fun nv v wr=>∃(k:Nat) (pre:List Nat),1<=k/\k<=21/\v=qV qj (k:Int)/\nv=qV .u64 ((first l (k-1)+cnt l (k-1):Nat):Int)/\yH (lv l 1 20=pre++lv l k (21-k))/\yH (Boxed wr b 23 (qX a n c))/\yH (yZ wr a (l.map ival))/\yH (J pre wr)/\W.heap.size<=wr.heap.size) (fun _ v _=>21-(intOf v).toNat)
 case atStart=>exact⟨1,[],za,za,rfl,by simp[first,zRt HR.out.one],zH rfl,ao,HS,H0,qPq _⟩
 case round=>
  obtain⟨k,pre,bb,ba,rfl,rfl,ai,Y,ac,hj,hz⟩:=hrel;obtain⟨wo,rfl⟩:∃wo:qy,wo=wr:=⟨_,rfl⟩;by_cases bd:k<=20
  ·have aj:first l k=2*(first l (k-1)+cnt l (k-1))/\first l (k-1)+cnt l (k-1)<=1048576:=by
    obtain⟨q,rfl⟩:∃q,k=q+1:=⟨k-1,za⟩;rw[qSs];have a6:=HR.out.zEs q za;have bg:2^q<=2^20:=qR8 za za;exact⟨rfl,za⟩
   obtain⟨M,a6⟩:=aj;obtain⟨f,hf⟩:=zB (first l (k-1)+cnt l (k-1));rw[hf]at a6 M⊢;obtain⟨F,hF⟩:=zB (first l k);rw[hF]at M;have HF:=zH hF;clear hF;have a2:=zH M;obtain⟨L,y⟩:=zB wo.heap.size;obtain⟨WL,Z⟩:=zB (wo.alloc (qm #[qV qj (k:Int),qV .u64 ((f:Int)*2),qX qx 0 0] 199));have a7:yI L wo WL:=by rw[<-Z,<-y];exact(yN _ _).alloc (qPq _) _
   have hX:WL.heap[L]? =qw (qm #[qV qj (k:Int),qV .u64 (F:Int),qX qx 0 0] 199):=by
    rw[<-Z,<-y];show(wo.heap.push _)[wo.heap.size]? =_;simp;omega
   have aa:b<L:=by rw[<-y];exact Boxed.lt Y.out
   obtain⟨_,_,z2,g2⟩:=cells3 hX;obtain⟨WM,P⟩:=zB (WL.setCell ⟨L,2,qx⟩ (qX qx 0 0));have ab:WM.heap[L]? =qw (qm #[qV qj (k:Int),qV .u64 (F:Int),qX qx 0 0] 199):=by
    rw[<-P,qT6 WL L 2 _ _ _ hX];rfl
   have V:yI L wo WM:=by rw[<-P];exact a7.setCell (p:=⟨L,2,qx⟩) (qPq _) _
   have av:WM.cell? ⟨b,0,qx⟩=qw (qX a n c):=(show Boxed WM b 23 (qX a n c)from(V.block b aa).trans Y.out).cell;obtain⟨HX,ae⟩:=yQ (LvS.mk (xs:=[]) ab (Kit.Own.start _ _ _)) V;clear ab V;have bc:(k:Int)<=20:=za
   clear hf M hX a7;gi_wp2;clear Z P av z2 g2;gi_loopw [19] (fun iv w'=>∃(i m:Nat) (p:Option yB) (c':Nat),i<=n/\iv=qV qj (i:Int)/\m<=i/\yH (LvS w' L k F p m c' (zHl l k i))/\yH (yI L wo w')) (fun iv _=>n-(intOf iv).toNat)
   case atStart=>exact⟨0,0,qx,0,za,rfl,za,HX,ae⟩
   case round=>
    clear HX ae;obtain⟨i,m,p,c',hi,rfl,bf,j,z⟩:=hrel;obtain⟨y0,y1,y2,g2⟩:=cells3 j.out.blk;by_cases b3:i<n
    ·have ah:i<kG l:=by rw[HN.out];exact b3
     obtain⟨x,hx⟩:=zB (l[i]);have O:l.getD i 0=x:=by rw[qPw,qPu ah,hx];rfl
     have r:=zV8 l k i;rw[O]at r;obtain⟨g,off,rfl,e0⟩:=(ac.out.below (w':=wr) (by rw[y];exact z.out)) i (ival x) (by rw[qP2,qPu ah,hx];rfl);have b4:L<wr.heap.size:=zAd j.out.blk;by_cases N:x=k
     ·rw[qPr N]at r;obtain⟨p3,c3,w3,b5,S,ad⟩:=Kit.Own.app (ty:=23) (w:=wr.alloc (qm #[qV qj (i:Int)] 3)) zNn (j.out.own.alloc _) (qw ⟨wr.heap.size,0,qx⟩) 1 1 [ival i] (Kit.zAs wr _ 3) rfl (fun h=>by cases h) (zDr [i]) (by unfold maxLen;omega) za zq;rw[show(zHl l k i).map ival++[ival i]=(zHl l k (i+1)).map ival by rw[r,qQd];rfl]at S;have ag:=j.out.own.block;have a4:yI (L+1) wr w3:=((yN _ _).alloc za _).trans ((yN _ _).grown ad zq (fun k hk=>ag k hk));have s:w3.heap[L]? =qw (qm #[qV qj (k:Int),qV .u64 (F:Int),qX p m c'] 199):=(a4.block L za).trans j.out.blk;obtain⟨_,_,v2,e2⟩:=cells3 s;have H3:=yP (LvS (w3.setCell ⟨L,2,qx⟩ (qX p3 (m+1) c3)) L k F p3 (m+1) c3 (zHl l k (i+1))) ⟨by rw[qT6 w3 L 2 _ _ _ s];rfl,zD4 S (qQ6 _) _⟩;have B3:=zH ((z.out.trans (a4.mono za)).setCell (p:=⟨L,2,qx⟩) (qPq _) (qX p3 (m+1) c3));have ax:((x:Int)==(k:Int))=yD:=zq
      clear S ad ag a4 s r hx O N y0 y1;gi_wp2_with (gi_at_builtin;refine zLt rfl (.tmp 28) (.tmp 30) 23 rfl rfl rfl b5 ?_);go_roundw
      case rel=>exact⟨i+1,m+1,p3,c3,za,by go_num,za,H3,B3⟩
      case measure=>simp only[intOf];omega
     ·rw[qPt N,qQ3]at r;have b1:=zH r;have ax:((x:Int)==(k:Int))=yE:=zq
      clear r hx O N y0 y1 y2 g2;gi_wp2;go_roundw
      case rel=>exact⟨i+1,m,p,c',za,by go_num,za,by rw[b1.out];exact j,z⟩
      case measure=>simp only[intOf];omega
    ·obtain rfl:i=n:=za
     have t:zHl l k i=whose l k:=by unfold zHl whose;rw[HN.out]
     have o:cnt l k=m:=by
      have:=j.out.own.len;rw[qQi,t]at this;exact this
     have a9:=a2.out;have I:=qD l k (20-k);have d:=ai.out;rw[show 21-k=20-k+1 by omega,I]at d;have K:=HJ.out pre wo wr hj.out (by rw[y];exact z.out);have b4:L<wr.heap.size:=zAd j.out.blk;rw[o]at d;have u:Boxed wr b 23 (qX a i c):=(z.out.block b aa).trans Y.out;have G:yZ wr a (l.map ival):=ac.out.below (by rw[y];exact z.out);have am:=HR.out.zEs k za;rw[o,HF.out]at am;have bh:2^k<=2^20:=qR8 za za;rcases qQy m with a0|a0
     ·subst a0;rw[qPt za,qQl]at d;have a5:=yP (lv l 1 20=pre++lv l (k+1) (21-(k+1))) (by rw[d,show 21-(k+1)=20-k by omega]);obtain⟨a3,X,b0,a1⟩:=yS u G K o;clear d I u G K o t y0 y1 a9;gi_wp2;refine⟨(fun f hf=>by cases hf),?_⟩
      rename_i hK _ _ _ _
      refine hK _ _ ?_;gi_wp2;go_roundw
      case rel=>exact⟨k+1,pre,za,za,by go_num,by rw[qSs,HF.out,a1.out];congr 1;have:=a2.out;omega,a5,a3,X,b0,za⟩
      case measure=>simp only[intOf];omega
     ·rw[qPr za]at d;have R:pre++[k]<+:lv l 1 20:=by rw[d,<-qQw];exact List.prefix_append _ _
      have au:∃g cs f,p=qw ⟨g,0,qx⟩/\wr.heap[g]? =qw (qm cs 3 f):=by
       obtain⟨g,rfl,_⟩:=j.out.own.at_ a0;obtain⟨cs,ff,hh⟩:=zLa j.out.own;exact⟨g,cs,ff,rfl,hh⟩
      obtain⟨fn,tmps,assign,body,hy,hR⟩:=HY.out pre k wr #[.agg #[qV qj (k:Int),qV .u64 (F:Int),qX p m c']] K
       ⟨p,c',by rw[HF.out,o],by rw[<-t];exact j.out.own.src,au,za,za,za⟩ R
      obtain⟨az,aq⟩:=yQ hR R;have a5:=yP (lv l 1 20=(pre++[k])++lv l (k+1) (21-(k+1))) (by rw[d,show 21-(k+1)=20-k by omega,qQw]);obtain⟨a3,X,a1⟩:=yR u G o;have b9:(0:Int)<(m:Int):=za
      clear d I u G K o t a9 R hR;gi_wp2;refine az.out.mono ?_;rintro e W3 (⟨rfl,af,H⟩|⟨rfl,ak⟩)
      ·obtain⟨ap,b2,ay⟩:=yR (zIf a3.out H hC) (zP4 X.out H b7) af;have s:=H.2 L _ _ _ j.out.blk (b8 L za);have bi:=H.1;obtain⟨_,_,v2,_⟩:=cells3 s;have j1:IntKind.u64.wrap (m:Int)=(m:Int):=qSh _ ⟨za,za⟩;clear af H s y0 y1 y2 g2 hy;gi_wp2;go_roundw
       case rel=>exact⟨k+1,pre++[k],za,za,by go_num,by rw[qSs,HF.out,a1.out];congr 1;have:=a2.out;omega,a5,ap,b2,ay,za⟩
       case measure=>simp only[intOf];omega
      ·gi_wp2;refine qP5 (qSy rfl _ _ _) rfl ?_;exact⟨⟨_,rfl⟩,.inr ⟨_,aq.out,ak⟩⟩
  ·obtain rfl:k=21:=za
   have a8:J (lv l 1 20) wo:=by
    have:=ai.out;rw[show lv l 21 (21-21)=[]from rfl,qQ3]at this;rw[this];exact hj.out
   have ar:=zH a8;clear a8;gi_wp2;go_end0;exact⟨⟨_,rfl⟩,.inl ar.out⟩
end Hf
end Go.Proofs.YtppnakkaljbmbaaGreatDoor
