/- Steps of a proof; no condition beyond what each states. -/
import Derived.Test.YtppnakkaljbmbaaGreatDoorZX00
import Derived.Test.YtppnakkaljbmbaaGreatDoorZX10
set_option linter.unusedVariables false
set_option linter.unusedSimpArgs false
set_option maxRecDepth 100000
set_option maxHeartbeats 8000000
open List renaming length->kG
open Go.Proofs.YtppnakkaljbmbaaGreatDoor.Kit renaming zAe->xE
open Go.RowKit
open Go.Proofs.Tryz
open Go.Value renaming int->qV,string->qW,slice->qX,pointer->qY,tuple->qZ,bool->qc
open Go.IntKind renaming i64->qj,u8->ql
open Go.Obj renaming cells->qm
open Go.Ending renaming returned->qp
open Option renaming some->qw,none->qx
open Go renaming World->qy,Value->qz,TypeId->yA,Addr->yB,Calls->yC
open Bool renaming true->yD,false->yE
open Decidable renaming decide->yF
open Go.Proofs.Tryz renaming prog->yG
open Go.RowKit renaming Hid->yH,Below->yI
open List renaming range->yK
open Go.World renaming cell?->yM
open Go.RowKit.Below renaming refl->yN
namespace Go.Proofs.YtppnakkaljbmbaaGreatDoor
namespace Sl
open Front Bt Zr
variable {w:qy} {R:Nat}
def Pl (w:qy) (R:Nat) (b:Bool):Prop:=w.heap[R]? =qw (qm #[qV qj ((b.toNat:Nat):Int),qV qj (((!b).toNat:Nat):Int),qV qj 2,qV qj 3,qV qj 4,qV qj 5,qV qj 2] 175)
theorem zC9 (w:qy):
  yC yG 90 #[qV qj 2] w fun e w'=>e=qp (qc yD)/\w'=w:=by
 go_enter func90,ntmps90;go_wp2;go_ret;exact⟨rfl,rfl⟩
theorem zSj (x B:Nat) (c:x<=1) (w:qy) (h:w.cell? ⟨B,0,qx⟩=qw (qV qj 2)):
  yC yG 91 #[ival x,qY (qw ⟨B,0,qx⟩)] w fun e w'=>e=qp (qc ((fun _=>yE) x))/\w'=w:=by
 have a:decide ((x:Int)<0)=yE:=qP1 za;have b:decide ((2:Int)<=(x:Int))=yE:=qP1 za;go_enter func91,ntmps91;go_wp2;go_ret;exact⟨rfl,rfl⟩
def fk (k j:Nat):Nat:=if j<k then j else if j=6 then 2 else 0
theorem qF7 (k:Nat) (b:k<6) (j:Nat):zAy (fk k) k k j=fk (k+1) j:=by
 unfold zAy fk;by_cases e:j=k
 ·subst e;rw[qPr rfl,qPr za]
 ·rw[qPt e];by_cases a:j<k
  ·rw[qPr a,qPr za]
  ·simp[a,show ¬j<k+1 by omega]
theorem qG9 (h:zAm w R 175 7 (fk 6)):Pl w R yE:=by
 have e:cellsOf 7 (fun j=>qV qj ((fk 6 j:Nat):Int))= #[qV qj 0,qV qj 1,qV qj 2,qV qj 3,qV qj 4,qV qj 5,qV qj 2]:=zf
 unfold zAm Arr at h;rw[e]at h;exact h
theorem zQs {b:Bool} (h:Pl w R b):w.cell? ⟨R,0,qx⟩=qw (qV qj ((b.toNat:Nat):Int))/\w.cell? ⟨R,1,qx⟩=qw (qV qj (((!b).toNat:Nat):Int))/\(∀k,w.frozen? ⟨R,k,qx⟩=yE)/\w.cell? ⟨R,6,qx⟩=qw (qV qj 2):=by
 refine⟨?_,?_,fun k=> ?_,?_⟩
 ·simp[yM,show w.heap[R]? =_ from h]
 ·simp[yM,show w.heap[R]? =_ from h]
 ·simp[World.frozen?,show w.heap[R]? =_ from h]
 ·simp[yM,show w.heap[R]? =_ from h]
theorem zTq (w:qy):
  yC yG 92 #[qV qj 2] w fun e w'=>e=qp (qY (qw ⟨w.heap.size,0,qx⟩))/\Pl w' w.heap.size yE/\yI w.heap.size w w':=by
 obtain⟨R,m⟩:=zB w.heap.size;have q:(#[qV qj 0,qV qj 0,qV qj 0,qV qj 0,qV qj 0,qV qj 0,qV qj 2]:Array qz)=cellsOf 7 (fun j=>qV qj ((fk 0 j:Nat):Int)):=zf
 obtain⟨W,n⟩:=zB (w.alloc (qm #[qV qj 0,qV qj 0,qV qj 0,qV qj 0,qV qj 0,qV qj 0,qV qj 2] 175));have g:zAm W R 175 7 (fk 0):=by
  show _=_;rw[<-n,q,<-m];show(w.heap.push _)[w.heap.size]? =_;simp
 have b:yI R w W:=by rw[<-n,<-m];exact(yN _ _).alloc (qPq _) _
 obtain⟨f,d⟩:=yQ g b;clear q g b;rw[m];go_enter func92,ntmps92;go_wp2;clear n;go_loopw [8] (fun i wr=>∃k:Nat,k<=6/\i=qV qj k/\yH (zAm wr R 175 7 (fk k))/\yH (yI R w wr)) (fun i _=>6-(intOf i).toNat)
 case atStart=>exact⟨0,za,rfl,f,d⟩
 case round=>
  clear f d;obtain⟨k,u,rfl,a,o⟩:=hrel;by_cases h:k<6
  ·have s:=a.out.cell k za;have t:=a.out.free k;have l:=zH ((a.out.set k k (V:=(k:Int)) rfl).congr (fun j _=>qF7 k h j));obtain⟨r,c⟩:∃r:qz,Value.int qj ((fk k k:Nat):Int)=r:=⟨_,rfl⟩;rw[c]at s;clear c;go_wp2;go_roundw
   case rel=>exact⟨k+1,za,by go_num,l,zH (o.out.setCell (p:=⟨R,k,qx⟩) (qPq _) _)⟩
   case measure=>simp only[intOf];omega
  ·obtain rfl:k=6:=za
   go_wp2;go_ret;exact⟨rfl,qG9 a.out,o.out⟩
theorem zMq (R:Nat) (b:Bool) (w:qy) (h:Pl w R b):
  yC yG 94 #[qY (qw ⟨R,0,qx⟩),qV qj 0] w fun e w'=>e=qp (qV qj ((b.toNat:Nat):Int))/\Pl w' R b/\Ch R w w':=by
 obtain⟨g,l,c,_⟩:=zQs h;have j:=c 0;have i:(Builtin.copy_ #[23,23] 3 #[qX (qw ⟨R,1,qx⟩) 5 5,qX (qw ⟨R,0,qx⟩) 0 6]).run yG w.drew= .ok (qV qj 0) w.drew:=
  run_copy_none w.drew _ _ _ 3 _ _ _ _ _ _ underlying23 zf rfl
 have a:=yP (Pl ((w.drew).setCell ⟨R,0,qx⟩ (qV qj ((b.toNat:Nat):Int))) R b) (by
  unfold Pl;rw[qT6 w.drew R 0 _ _ _ h];rfl)
 obtain⟨q,d⟩:∃q:Int,((b.toNat:Nat):Int)=q:=⟨_,rfl⟩;rw[d]at g a⊢;clear h c d;go_enter func94,ntmps94;go_wp2;go_region;go_wp2;go_ret;exact⟨rfl,a.out,⟨((yN R w).drew).setCell (p:=⟨R,0,qx⟩) (qPq _) _,fun k f=>zAa f⟩⟩
theorem zMp (R:Nat) (b:Bool) (w:qy) (h:Pl w R b):
  yC yG 94 #[qY (qw ⟨R,0,qx⟩),qV qj 1] w fun e w'=>e=qp (qV qj (((!b).toNat:Nat):Int))/\Pl w' R (!b)/\Ch R w w':=by
 obtain⟨n,o,f,_⟩:=zQs h;have s:=f 0;have g:w.drew.cell? ⟨R,0,qx⟩=qw (qV qj ((b.toNat:Nat):Int)):=n;have a:(Builtin.copy_ #[23,23] 3 #[qX (qw ⟨R,1,qx⟩) 5 5,qX (qw ⟨R,0,qx⟩) 1 6]).run yG w.drew= .ok (qV qj 1) (w.drew.setCell ⟨R,1,qx⟩ (qV qj ((b.toNat:Nat):Int))):=by
  have:=run_copy_cells (P:=yG) w.drew 23 23 3 3 R 1 5 5 ⟨R,0,qx⟩ 1 6 [qV qj ((b.toNat:Nat):Int)] underlying23 zf rfl
   (fun j v c=>by match j,c with|0,c=>simp at c;subst c;rw[Kit.addr_add];exact g)
   (fun j c=>by simp at c;subst c;rw[show w.drew.cell? ⟨R,1+0,qx⟩=_ from o];rfl)
   (fun j c=>f (1+j)) (fun v hv=>by simp at hv;subst hv;rfl)
  rw[this];rfl
 have d:=yP (Pl ((w.drew.setCell ⟨R,1,qx⟩ (qV qj ((b.toNat:Nat):Int))).setCell ⟨R,0,qx⟩ (qV qj (((!b).toNat:Nat):Int))) R (!b)) (by
  unfold Pl;rw[qT6 _ R 0 _ _ _ (qT6 w.drew R 1 _ _ _ h),Bool.not_not];rfl)
 have u:(w.drew.setCell ⟨R,1,qx⟩ (qV qj ((b.toNat:Nat):Int))).cell? ⟨R,0,qx⟩=qw (qV qj ((b.toNat:Nat):Int)):=by
  rw[qQe _ _ _ _ (by intro e;injection e with _ e2 _;omega)];exact g
 have t:(w.drew.setCell ⟨R,1,qx⟩ (qV qj ((b.toNat:Nat):Int))).frozen? ⟨R,0,qx⟩=yE:=by rw[qSx];exact s
 obtain⟨q,l⟩:∃q:Int,((b.toNat:Nat):Int)=q:=⟨_,rfl⟩;obtain⟨r,m⟩:∃r:Int,(((!b).toNat:Nat):Int)=r:=⟨_,rfl⟩;rw[l]at n g u t a d;rw[m]at o d⊢;clear h f l m;go_enter func94,ntmps94;go_wp2;go_region;go_wp2;go_ret;exact⟨rfl,d.out,⟨(((yN R w).drew).setCell (p:=⟨R,1,qx⟩) (qPq _) _).setCell (p:=⟨R,0,qx⟩) (qPq _) _,fun k i=>(zAa i).trans (zAa i)⟩⟩
end Sl
namespace Front
open Kit (zAe)
@[irreducible] def bs (l:T):ByteArray:=⟨l.toArray⟩
theorem zJ5 (s:ByteArray):bs s.data.toList=s:=by unfold bs;simp
theorem qCh (l:T):(⟨l.toArray⟩:ByteArray)=bs l:=by unfold bs;rfl
theorem zBk (l:T):(bs l).data.toList=l:=by unfold bs;simp
theorem zCh (l:T):(bs l).size=kG l:=by rw[<-zAl,zBk]
theorem zQ6 {s t:ByteArray} (h:s.data.toList=t.data.toList):s=t:=by rw[<-zJ5 s,<-zJ5 t,h]
theorem qJ9 (s t:ByteArray):(s++t).data.toList=s.data.toList++t.data.toList:=by simp
theorem zI0 (s:ByteArray) (i j:Nat):(s.extract i j).data.toList=(s.data.toList.take j).drop i:=by
 rw[ByteArray.data_extract,Array.toList_extract,List.extract_eq_take_drop,List.drop_take]
end Front
namespace Crc
theorem zBw {k:IntKind} {a b:Int} (h:a=b):Ending.returned (qV k a)=qp (qV k b):=by rw[h]
def fold (a b:BitVec 32):BitVec 32:=rot a^^^b
def unfold (a b:BitVec 32):BitVec 32:=qHx (a^^^b)
theorem qA2 (a b:BitVec 32) (w:qy):
  yC yG 185 #[qV .u32 (U a),qV .u32 (U b)] w fun e w'=>e=qp (qV .u32 (U (fold a b)))/\w=w':=by
 have f:=zN0 a;have c:=zN1 a;have g:=zN0 b;have d:=zN1 b;go_enter func185,ntmps185;go_wp2;go_ret;exact⟨zBw (by rw[zVw,qEg,qH1,zPr];rfl),rfl⟩
theorem zSi (i:Nat) (hi:i<256) (w:qy):
  yC yG 159 #[qV qj (i:Int)] w fun e w'=>e=qp (qV .u32 (U (tab i)))/\w=w':=by
 go_enter func159,ntmps159;go_wp2;go_loop [3,7] (fun c k=>∃j:Nat,j<=8/\k=qV qj j/\c=qV .u32 (U (it j (BitVec.ofNat 32 i<<<24)))) (fun _ k=>8-(intOf k).toNat)
 case atStart=>exact⟨0,za,rfl,by rw[qEh i hi];rfl⟩
 case round=>
  obtain⟨j,m,rfl,rfl⟩:=hrel;obtain⟨X,f⟩:∃X,X=it j (BitVec.ofNat 32 i<<<24):=⟨_,rfl⟩;rw[<-f];have g:=zH f;clear f;have n:=zN0 X;have l:=zN1 X;by_cases h:j<8
  ·cases hm:X.msb
   all_goals
    have d:=zNz X;rw[hm]at d;have HM:=zH hm;clear hm
    first
     |(have b:(bits .and .u32 (U X) (2147483648:Int)==0)=true:=d)
     |(have b:(bits .and .u32 (U X) (2147483648:Int)==0)=false:=d)
    clear d;go_wp2;go_round
    case rel=>
     refine⟨j+1,za,by go_num,?_⟩;rw[it,<-g.out]
     first
      |rw[<-qG2 X HM.out]
      |rw[<-qE1 X HM.out]
    case measure=>simp[intOf];omega
  ·go_wp2;go_ret;have a:j=8:=za
   subst a;exact⟨zBw (by rw[g.out];rfl),rfl⟩
def cell (k i:Nat):qz:=qV .u32 (if i<k then U (tab i)else 0)
@[irreducible] def cells (k:Nat):Array qz:=((yK 256).map (cell k)).toArray
theorem zFj (k:Nat):(cells k).size=256:=by simp[cells]
theorem zO8 (k i:Nat) (h:i<256):(cells k)[i]? =qw (cell k i):=by
 simp[cells,h]
theorem zYj (k:Nat) (h:k<256):(cells k).setIfInBounds k (qV .u32 (U (tab k)))=cells (k+1):=by
 apply Array.ext
 ·simp[cells]
 ·intro i d b;have c:i<256:=by simpa [cells]using b
  rw[Array.getElem_setIfInBounds]
  ·split
   ·subst_vars;simp[cells,cell]
   ·simp only[cells,cell,qS1,List.getElem_map,List.getElem_range];by_cases a:i<k
    ·rw[qPr a,qPr za]
    ·rw[qPt a,qPt za]
  ·simpa [cells]using c
theorem zLu (w:qy):(zeroValue 265).run yG w= .ok (.agg (cells 0)) w:=by
 kernel_rfl
theorem cells_one (k:Nat):(cells k).all (·.oneCell')=yD:=by
 rw[Array.all_eq_true];intro i hi;simp[cells,cell,Value.oneCell']
theorem zMu (k:Nat):(prog.info? 265).map (·.size)=qw (cells k).size:=by rw[zFj];kernel_rfl
theorem qAm (w:qy):
  yC yG 158 #[.func (.func 159) #[] #[]] w fun e w'=>e=qp (.agg (cells 256))/\yI w.heap.size w w':=by
 have f:=zLu;go_enter func158,ntmps158;go_wp2;go_loopw [4] (fun i wr=>∃k:Nat,k<=256/\i=qV qj k/\wr=w.alloc (qm (cells k) 265)) (fun i _=>256-(intOf i).toNat)
 case atStart=>exact⟨0,za,rfl,rfl⟩
 case round=>
  obtain⟨k,j,rfl,rfl⟩:=hrel;have g:=zFj k;by_cases a:k<256
  ·have h:=zO8 k k a;have d:(k:Int)<256:=za
   go_wp2_with (go_at_call 159;refine(zSi k a _).mono ?_;rintro e w' ⟨rfl,rfl⟩);go_roundw
   case rel=>exact⟨k+1,za,by go_num,by rw[zYj k a]⟩
   case measure=>simp[intOf];omega
  ·have hi:=zMu k;have c:=cells_one k;have b:=heap_alloc_last w (qm (cells k) 265);go_wp2_with (first|(refine wpList_load_row rfl 265 _ rfl w.heap.size rfl 265 (cells k) (0,0) _ b underlying265 rfl hi ?_)|(refine wpList_store_row rfl 265 _ _ rfl w.heap.size (cells k) rfl rfl 265 (cells k) b hi rfl c ?_;rw[World.setRow_alloc_new]));refine qP5 (v:= .agg (cells k)) ?_ rfl ⟨by rw[show k=256 from za],(yN _ _).alloc (qPq _) _⟩;exact results_cell_row rfl _ _ w.heap.size 265 (cells k) (0,0) _ rfl b underlying265 rfl hi
theorem zEz (s:ByteArray) (k:Nat) (h:k<s.size):s.data.toList.take (k+1)=s.data.toList.take k++[s[k]]:=by
 rw[List.take_succ_eq_append_getElem (by simpa using h)];rfl
theorem qAd (c:BitVec 32) (s:ByteArray) (u:s.size<=maxLen) (w:qy):
  yC yG 89 #[qV .u32 (U c),qW s] w fun e w'=>e=qp (qV .u32 (U (more c s.data.toList)))/\yI w.heap.size w w':=by
 unfold maxLen at u;have y:=zLu;have I:=qHn;have G:=zN0 c;have z:=zN1 c;go_enter func89,ntmps89;go_wp2_with fail;refine(qAm _).mono ?_;rintro e r ⟨rfl,n⟩;have p:=heap_alloc_last r (qm (cells 0) 265);have hi:=zMu 256;have m:=cells_one 256;have q:(cells 0).size=(cells 256).size:=by rw[zFj,zFj]
 have l:=zH q;clear q;go_wp2_with (refine wpList_store_row rfl 265 _ _ rfl r.heap.size (cells 256) rfl rfl 265 (cells 0) p hi l.out m ?_;rw[World.setRow_alloc_new]);go_loop [0,12] (fun x i=>∃k:Nat,k<=s.size/\i=qV qj k/\x=qV .u32 (U (feeds (~~~ c) (s.data.toList.take k)))) (fun _ i=>s.size-(intOf i).toNat)
 case atStart=>exact⟨0,za,rfl,rfl⟩
 case round=>
  obtain⟨k,H,rfl,rfl⟩:=hrel;obtain⟨X,f⟩:∃X,X=feeds (~~~ c) (s.data.toList.take k):=⟨_,rfl⟩;rw[<-f];have h:=zH f;clear f;have K:=zN0 X;have F:=zN1 X;clear p hi m l;by_cases b:k<s.size
  ·obtain⟨j,o⟩:∃j,j=look X s[k]:=⟨_,rfl⟩;have a:=qDb X s[k];have d:=zXi X s[k];have g:=qDa X s[k];rw[<-o]at a d g;have t:=zH g;clear g;clear o;have B:(cells 256)[j]? =qw (qV .u32 (U (tab j))):=by rw[zO8 256 j a];unfold cell;rw[qPr a]
   go_wp2;go_round
   case rel=>exact⟨k+1,za,by go_num,by rw[zEz s k b,zVb,<-h.out,<-t.out]⟩
   case measure=>simp[intOf];omega
  ·go_wp2;go_ret;refine⟨zBw ?_,n.alloc n.size _⟩;rw[h.out,qQg zq];rfl
theorem zG7 (s:ByteArray) (c:s.size<=maxLen) (w:qy):
  yC yG 25 #[qW s] w fun e w'=>e=qp (qV .u32 (U (sum s.data.toList)))/\yI w.heap.size w w':=by
 have a:(0:Int)=U 0#32:=by unfold U;rfl
 go_enter func25,ntmps25;go_wp2_with fail;rw[a];refine(qAd _ s c _).mono ?_;rintro e d ⟨rfl,b⟩;go_wp2;go_ret;exact⟨rfl,b⟩
end Crc
namespace Us
open Front Bt Zr
theorem qCm (m:List Bool) (k r:Nat) (h:k+1+r=kG m):val m/2^r%2=(m[k]' za).toNat:=by
 have e:m=m.take k++(m[k]' za::m.drop (k+1)):=by
  rw[<-qSa za,qR9]
 have a:kG (m.drop (k+1))=r:=by rw[qQn];omega
 have hv:=zEy (m.drop (k+1));rw[a]at hv;have b:val m=(val (m.take k)*2+(m[k]' za).toNat)*2^r+val (m.drop (k+1)):=by
  conv=>lhs;rw[e]
  rw[val_append,zKx,qP3,a,qRq,qQt,qTc,qRo 2 (2^r)];omega
 rw[b,qRo,Nat.add_comm,Nat.add_mul_div_left _ _ (Nat.two_pow_pos r),Nat.div_eq_of_lt hv,qQc,qRo,Nat.add_comm,Nat.add_mul_mod_self_left];cases m[k]' za<;>rfl
theorem zTs (v k:Nat) (a:k<16):∀m:List Bool,v=val m->kG m=16->v/2^(15-k)%2=(m.getD k yE).toNat:=by
 intro m hv b;subst hv;rw[qCm m k (15-k) za,qPw,qPu za];rfl
theorem zOc (l:List Nat) (k:Nat) (a:k<16):val (zBr l 16)/2^(15-k)%2=(yF (zCc l k≠0)).toNat:=by
 rw[zTs _ k a (zBr l 16) rfl (zOb l 16)];simp[zBr,qPw,a]
theorem zQf (l:List Nat) (k i:Nat) (hi:i<16):zCc l k/2^(15-i)%2=(yF (k*16+i∈l)).toNat:=by
 rw[zTs (zCc l k) i hi (zCo l k 16) rfl (zQh l k 16)];simp[zCo,qPw,hi]
theorem zOg (l:List Nat) (k:Nat) (h:zCc l k=0) (i:Nat) (hi:i<16):k*16+i∉l:=by
 have:=zQf l k i hi;rw[h,Nat.zero_div]at this;intro a;rw[qP9 a]at this;simp at this
theorem zMy (l:List Nat) (k:Nat) (h:zCc l k=0):∀i,i<=16->alpha l (k*16+i)=alpha l (k*16)
 |0,_=>rfl
 |i+1,hi=>by rw[<-qR2,zEd,qPt (zOg l k h i za),qQ3,zMy l k h i za]
theorem zOf (l:List Nat):∀n k,k+n=16->zB3 l k<+:zB3 l 16
 |0,k,h=>by
  have a:k=16:=za
  subst a;exact List.prefix_refl _
 |n+1,k,h=>(by rw[zFc];exact List.prefix_append _ _:zB3 l k<+:zB3 l (k+1)).trans (zOf l n (k+1) za)
theorem zZd (l:List Nat) (c:Nat) (f:c<256) (e:c∈l):0<val (zBr l 16):=by
 have d:c/16<16:=za
 have b:zCc l (c/16)≠0:=fun h=>zOg l (c/16) h (c%16) za (by rw[show c/16*16+c%16=c by omega];exact e);have a:=zOc l (c/16) d;rw[qP9 b]at a;rcases qQy (val (zBr l 16))with h|h
 ·rw[h,Nat.zero_div]at a;simp at a
 ·exact h
theorem and_one (v k:Nat) (hv:v<65536):bits .and .u64 ((v:Int)/2^k) 1=((v/2^k%2:Nat):Int):=by
 have a:v/2^k<=v:=Nat.div_le_self _ _;have e:(v:Int)/2^k=((v/2^k:Nat):Int):=by rw[Int.natCast_ediv];push_cast;rfl
 rw[e,show(1:Int)=((1:Nat):Int)from rfl,u64_and_nat _ _ za za,Nat.and_one_is_mod]
theorem zN8 (s:ByteArray) (at_:Nat) (l:List Nat) (hs:s.size<=100000000) (c0:Nat) (af:c0<256) (ae:c0∈l) (ha:At s at_ (zC2 l)) (w:qy):
  yC yG 33 #[qW s,qV qj (at_:Int)] w fun e w'=>e=qp (qZ #[qW ⟨(alpha l 256).toArray⟩,qV qj ((at_+kG (zC2 l):Nat):Int),qV qj 0])/\yI w.heap.size w w':=by
 obtain⟨B,hB⟩:=zB w.heap.size;have hv:=zZd l c0 af ae;have S:=zK3 l 16 za;obtain⟨J,hJ⟩:=zB (at_+kG (zC2 l));rw[hJ];unfold zC2 at ha hJ;obtain⟨H,O⟩:=At.app.1 ha;rw[zAc]at O;rw[qPx,zAc]at hJ;have X:=H.1;rw[zAc]at X;have HQ:=zH (zB7 s at_ 16 za X za w);rw[H.val za,show((16:Nat):Int)=16 from rfl]at HQ;have L:=zH (zOc l);obtain⟨v,a0⟩:=zB (val (zBr l 16));rw[a0]at hv S HQ L;obtain⟨HA,HJ,a3⟩:=yR O hJ (zOf l);rw[hB];clear ha H O hJ a0 ae;go_enter func33,ntmps33;go_wp2_with fail;(with_reducible refine HQ.out.mono ?_);rintro e w2 ⟨rfl,rfl⟩;go_wp2;clear HQ;go_loopw [1,6,7,8,10] (fun a e o em i wr=>∃(k q n:Nat) (p:Option yB) (c:Nat),k<=16/\i=qV qj k/\a=qV qj q/\e=qV qj 0/\em=qc yE/\o=qX p n c/\n<=k*16/\yH (q=at_+16+kG (zB3 l k))/\yH (Kit.Own wr B TB p n c ((alpha l (k*16)).map xE))/\yH (yI B w wr)) (fun _ _ _ _ i _=>16-(intOf i).toNat)
 case atStart=>exact⟨0,at_+16,0,qx,0,za,rfl,by push_cast;rfl,rfl,rfl,rfl,za,zH (by simp[zB3]),zH (Kit.Own.start _ _ _),zH (yN _ _)⟩
 case round=>
  obtain⟨k,q,n,p,c,hk,rfl,rfl,rfl,rfl,rfl,hn,z,b,y⟩:=hrel;by_cases a9:k<16
  ·have d:=L.out k a9;have f:=and_one v (15-k) S;rw[d]at f;have F:=a3.out (15-k) (k+1) za;have g:=zFc l k;by_cases m:zCc l k=0
   ·have W:=zMy l k m 16 (qPq _);rw[qPt (by simp[m]),qQ3]at g;have u:(yF (zCc l k≠0)).toNat=0:=by simp[m]
    rw[u,show((0:Nat):Int)=0 from rfl]at f;have a8:=yP (alpha l ((k+1)*16)=alpha l (k*16)) (by rw[qQt,qRn];exact W);have K:=zH g;clear d F W g u m;go_wp2;go_roundw
    case rel=>exact⟨k+1,q,n,p,c,za,by go_num,rfl,rfl,rfl,rfl,za,zH (by rw[K.out];exact z.out),by rw[a8.out];exact b,y⟩
    case measure=>simp only[intOf];omega
   ·rw[qPr m]at g;have u:(yF (zCc l k≠0)).toNat=1:=by simp[m]
    rw[u,show((1:Nat):Int)=1 from rfl]at f;have G:At s q (num (zCc l k) 16):=by
     obtain⟨t,ht⟩:=F;have h1:=HA.out;rw[<-ht,g]at h1;have h2:=(At.app.1 (At.app.1 h1).1).2;rw[z.out];exact h2
    have Z:=zM9 l k 16 za;have N:=zQf l k;have V:=G.1;rw[zAc]at V;have a2:=z.out;obtain⟨r,hr⟩:=zB (zCc l k);rw[show val (zCo l k 16)=r from hr]at Z;rw[hr]at g G N m;have HG:=zH (zB7 s q 16 za V za wr);rw[G.val za,show((16:Nat):Int)=16 from rfl]at HG;have K:=yP (kG (zB3 l (k+1))=kG (zB3 l k)+16) (by rw[g,qPx,zAc]);have a7:=zH N;have hne:((r:Int)==0)=yE:=zq
    have ac:=zH a2;clear d F g u G N hr z a2;go_wp2_with fail;(with_reducible refine HG.out.mono ?_);rintro e w3 ⟨rfl,rfl⟩;clear f HG;go_wp2;clear hne;go_loopw [48,7] (fun i o wr=>∃(j n:Nat) (p:Option yB) (c:Nat),j<=16/\i=qV qj j/\o=qX p n c/\n<=k*16+j/\yH (Kit.Own wr B TB p n c ((alpha l (k*16+j)).map xE))/\yH (yI B w wr)) (fun i _ _=>16-(intOf i).toNat)
    case atStart=>exact⟨0,n,p,c,za,rfl,rfl,za,b,y⟩
    case round=>
     clear b y hn;obtain⟨j,n,p,c,hj,rfl,rfl,hn,b,y⟩:=hrel;by_cases a4:j<16
     ·have d:=a7.out j a4;have f:=and_one r (15-j) Z;rw[d]at f;by_cases hm:k*16+j∈l
      ·rw[qP9 hm,show((true.toNat:Nat):Int)=1 from rfl]at f;have x:alpha l (k*16+(j+1))=alpha l (k*16+j)++[UInt8.ofNat (k*16+j)]:=by rw[<-qR2,zEd,qPr hm]
       have R:xE (UInt8.ofNat (k*16+j))=qV ql ((k:Int)*16+(j:Int)):=by unfold xE;rw[ofNat_toNat za];push_cast;rfl
       have hz:=y.out.size;obtain⟨p3,c3,w4,ad,M,Y⟩:=Kit.Own.app (ty:=109) (w:=wr.alloc (qm #[qV ql ((k:Int)*16+(j:Int))] TB)) zNh (b.out.alloc _) (qw ⟨wr.heap.size,0,qx⟩) 1 1 [xE (UInt8.ofNat (k*16+j))] (by rw[R];exact Kit.zAs wr _ TB) rfl (fun h=>by cases h) (Kit.zG [UInt8.ofNat (k*16+j)]) (by unfold maxLen;omega) za zq;have a1:yI B w w4:=y.out.trans (((yN _ _).alloc za _).trans ((yN _ _).grown Y zq (fun q z=>b.out.block q z)));rw[show(alpha l (k*16+j)).map xE++[xE (UInt8.ofNat (k*16+j))]=(alpha l (k*16+(j+1))).map xE by rw[x,qQd];rfl]at M;obtain⟨aa,a6⟩:=yQ M a1;clear M a1 Y x R hm d;go_wp2_with (at_builtin;refine Kit.zAr rfl (.tmp 57) (.tmp 63) 109 rfl rfl rfl ad ?_);go_roundw
       case rel=>exact⟨j+1,n+1,p3,c3,za,by go_num,rfl,za,aa,a6⟩
       case measure=>simp only[intOf];omega
      ·rw[qP1 hm,show((false.toNat:Nat):Int)=0 from rfl]at f;have x:alpha l (k*16+(j+1))=alpha l (k*16+j):=by rw[<-qR2,zEd,qPt hm,qQ3]
       have a5:=zH x;clear hm x d;go_wp2;go_roundw
       case rel=>exact⟨j+1,n,p,c,za,by go_num,rfl,za,by rw[a5.out];exact b,y⟩
       case measure=>simp only[intOf];omega
     ·obtain rfl:j=16:=za
      go_wp2;go_roundw
      case rel=>exact⟨k+1,q+16,n,p,c,za,by go_num,by push_cast;rfl,rfl,rfl,rfl,za,zH (by rw[K.out,ac.out];omega),by rw[qQt,qRn];exact b,y⟩
      case measure=>simp only[intOf];omega
  ·obtain rfl:k=16:=za
   have I:=b.out.len;rw[qQi]at I;have ag:=Kit.Src.text (P:=yG) (n:=n) (c:=c) (src:=109) (dst:=9) b.out.src I underlying109 underlying5 underlying9;have ab:=yP (J=q) (by rw[z.out,<-HJ.out];omega);have hne:((v:Int)==0)=yE:=zq
   clear I;go_wp2
   try simp only[Exit.inBlock,Exit.then]
   refine qP5 (v:=qZ #[qW ⟨(alpha l 256).toArray⟩,qV qj (q:Int),qV qj 0]) (by simp[results,f33,go_sem]) rfl ⟨by rw[ab.out],y.out⟩
end Us
namespace Kit
open Go.ChangeShapes Go.WideShapes Go.ChangeAt
def zEq (k:IntKind) (w:qy) (a:Option yB) (len c:Nat) (g:Nat->Int×Int):Prop:=
 len<=c/\c<=maxLen/\∀i,i<len->∃b off,a=qw ⟨b,off,qx⟩/\w.cell? ⟨b,off+i*2,qx⟩=qw (qV k (g i).1)/\w.cell? ⟨b,off+i*2+1,qx⟩=qw (qV k (g i).2)/\(Lit.int k (g i).1).wf=yD/\(Lit.int k (g i).2).wf=yD
theorem qB4 {α:Type} (l:List α) (h:kG l=2):∃c0 c1,l=[c0,c1]:=by
 match l,h with
 |[c0,c1],_=>exact⟨c0,c1,rfl⟩
section
variable {H:Type} {enc:yA×qz->H} {P:Program} {w:qy} {base:Nat} {spare:Nat->Bool} {held:Bool}
theorem qBr {w:qy} {x:yB} {n:Nat} {v:qz} (h:w.cell? (x.add n)=qw v) (a:n=0\/∃u,w.cell? x=qw u):x.spot=qx:=by
 rcases a with rfl|⟨u,b⟩
 ·exact World.cell?_spot (by simpa [Addr.add]using h)
 ·exact World.cell?_spot b
theorem open_pair {t e:yA} {k:IntKind} {x:yB} {i n:Nat} {g:List qz} {y:DataW H×List MemPlace} (B:P.underlying t=qw (.array 2 e)) (o:P.underlying e=qw (.int k))
  (q:P.cellsOf t=2) (p:P.cellsOf e=1) (u:w.cells? base (x.add (i*2)) 2=qw g) (z:DataW.trod enc P w base spare held n t g=qw y):
  ∃d f:Int,w.cell? (x.add (i*2))=qw (qV k d)/\w.cell? ((x.add (i*2)).add 1)=qw (qV k f)/\(Lit.int k d).wf=yD/\(Lit.int k f).wf=yD:=by
 obtain⟨xs,G,_,_,b,c,a⟩:=DataW.trod_array B z;rw[q]at b;rw[p]at a;obtain⟨c0,c1,rfl⟩:=qB4 g b;obtain⟨I,K,rfl⟩:=qB4 xs c;have l:=a 0 za;have g1:=a 1 za;simp at l g1;obtain⟨d,h,_,r⟩:=DataW.trod_int o l;obtain⟨f,j,_,s⟩:=DataW.trod_int o g1;simp at h j;subst h j;obtain⟨_,_,m⟩:=World.cells?_some u;have q0:=m 0 zm;have F:=m 1 zm;refine⟨d,f,?_,?_,r,s⟩
 ·simpa [Addr.add]using q0
 ·simpa using F
theorem zUw {t u e:yA} {k:IntKind} {a:Option yB} {len I:Nat} {d:DataW H} {p:List MemPlace} (ht:P.underlying t=qw (.slice u)) (M:P.underlying u=qw (.array 2 e)) (L:P.underlying e=qw (.int k))
  (q:P.cellsOf u=2) (K:P.cellsOf e=1) (h:DataW.Trod enc P w base spare held t (qX a len I) d p):∃g,zEq k w a len I g:=by
 obtain⟨a0,W⟩:=h;rcases Deep.open_slice ht W with⟨n,_⟩|⟨x,l,c,m,fu,D,Pl,n,_,Y,Z,B,_,z⟩
 ·simp[Value.cells]at n;obtain⟨rfl,rfl,rfl⟩:=n;exact⟨fun _=>(0,0),qPq _,qQq _,fun i h=>absurd h za⟩
 ·simp[Value.cells]at n;obtain⟨rfl,rfl,rfl⟩:=n;have a4:len<=m:=by rw[B];split<;>omega
  rw[q]at z;have s:∀i,i<len->∃y:Int×Int,∃b f,qw x=qw (⟨b,f,qx⟩:yB)/\w.cell? ⟨b,f+i*2,qx⟩=qw (qV k y.1)/\w.cell? ⟨b,f+i*2+1,qx⟩=qw (qV k y.2)/\(Lit.int k y.1).wf=yD/\(Lit.int k y.2).wf=yD:=by
   intro i hi;obtain⟨a2,F,G⟩:=z 0 za;obtain⟨_,_,hz,_,_,_⟩:=open_pair M L q K F G;have r:x.spot=qx:=qBr hz (.inl za);obtain⟨a3,S,V⟩:=z i za;obtain⟨n0,n1,q0,N,O,R⟩:=open_pair M L q K S V;obtain⟨b,f,a1⟩:=x;simp only at r;subst r;have o:∀j,(⟨b,f,qx⟩:yB).add j=⟨b,f+j,qx⟩:=by
    intro j;unfold Addr.add;split<;>simp_all
   rw[Deep.add_add,o]at N;rw[o]at q0;exact⟨(n0,n1),b,f,rfl,q0,N,O,R⟩
  obtain⟨g,X⟩:=Deep.choose_lt s;exact⟨g,Y,Z,X⟩
end
end Kit
namespace Kit
section
variable {P:Program} {ops:Array Oper} {Q:Exit->Act->qy->Prop} {md:Region.Mode}
theorem zQb {n:Nat} {row:String} {args:Array qz} {w:qy} {R:qz->qy->Prop} (h:Rows P row args w R):RowsIn Fence.wide n P row args w R:=by
 intro c a _;obtain⟨v,w',r,s⟩:=h c a;exact⟨v,w',r,stepsIn_wide.2 s⟩
theorem zYz (n:Nat) {o:Oper} {a:Act} {K:Act->qy->Prop}:∀{r:Result Next},o.upon P a K (zDy Q) r->o.uponIn Fence.wide n P a K Q r
 | .ok (.value v) w',h=>h
 | .ok .skip w',h=>h
 | .ok (.defer d) w',h=>h
 | .ok (.enter f args) w',h=>⟨(fun hd=>by cases hd),qQj.2 (Calls.mono h (fun e g b=>by
   cases e with
   |returned v=>exact b
   |panicked c=>exact b
   |outgrown=>exact(zGa b).elim))⟩
 | .ok (.row row args) w',h=>⟨(fun hd=>by cases hd),zQb h⟩
 | .ok (.round _ _ _ _ _) w',h=>h.elim
 | .halt (.panic v) w',h=>h
theorem qFi (n:Nat) {o:Oper} {a:Act} {w:qy} {K:Act->qy->Prop} (hd:∀c,o.op≠ .defer c) (h:Oper.wp P o a w K (zDy Q)):o.wpIn Fence.wide n P a w K Q:=by
 unfold Oper.wpIn;refine⟨fun _ _=>trivial,?_⟩;rw[Oper.semAt_plain _ _ _ hd];exact zYz n h
theorem zJ9 (n:Nat) (hd:∀(i:Nat) (o:Oper),ops[i]? =qw o->∀c,o.op≠ .defer c):∀(d:Nat) (e:Array Bool) (a:Act) (w:qy),wpAny P md ops (zDy Q) d e a w->wpAnyIn Fence.wide n P md ops Q d e a w
 |0,_,_,_,h=>h
 |d+1,e,a,w,h=>by
  refine⟨h.1,fun i hi=> ?_⟩;have b:=h.2 i hi;unfold wpOp at b;unfold wpOpIn;cases ho:ops[i]? with
  |none=>rw[ho]at b;exact zJ9 n hd d _ _ _ b
  |some o=>
   rw[ho]at b;simp only at b⊢;split at b
   ·next hw=>rw[qPr hw];exact Oper.wpIn_mono (fun a w=>zJ9 n hd d _ a w) (qFi n (hd i o ho) (b.resolve_right (fun h=>zGa h.2)))
   ·next hw=>rw[qPt hw];exact⟨fun _ _=>trivial,zJ9 n hd d _ _ _ b⟩
theorem zRk {f n:Nat} {a:Act} {w:qy} (e:P.follows .mixedOrders=yD) (hd:zJu ops=yD) (h:wpAny P .any ops (zDy Q) ops.size (Array.replicate ops.size yE) a w.drew):(Code.region f ops yD).wpIn Fence.wide n P Q a w:=by
 refine wpIn_region_any e (zJ9 n (fun i o hi c d=> ?_) _ _ _ _ h);have b:=(qUf.1 hd) o (Array.mem_of_getElem? hi);rw[d]at b;cases b
theorem zIq {i k:Nat} {a:Act} {w:qy} (hd:zJu ops=yD) (D:List Nat) (S:qy->Prop) (b:List Nat) (n:Nat) (d:P.follows .mixedOrders=yD) (e:ops.size=n) (f:Region.noSelect ops=yD) (g:ops.toList.map (zC .any)=b) (c:zD ops ops.toList b ops.toList b 0=yD)
  (h:At_ P .any ops (zDy Q) D S b n 0 a w.drew):(Code.region i ops yD).wpIn Fence.wide k P Q a w:=
 zRk d hd (zP2 D S b n e f g c h)
theorem zRh {D:List Nat} {S:qy->Prop} {b:List Nat} {a:Act} {w:qy} {f L:Nat} (c:zA1 L b 0=[]) (h:Q .normal a w):At_ P md ops (zDy Q) D S b f L a w:=qA5 c h
end
end Kit
namespace Cache
variable {b:Int}
structure Hd where
 blk:Int
 st:Int
 txt:ByteArray
deriving Inhabited
structure Sh where
 room:Int
 clock:Int
 held:List Hd
def zero:Sh:=⟨0,0,[]⟩
abbrev qIf:Int:=1099511627776
def qId (l:List Hd):Prop:=l.Pairwise fun x y=>x.blk<y.blk
def Apart (l:List Hd):Prop:=l.Pairwise fun x y=>x.st≠y.st
def Good (a:Int) (l:List Hd):Prop:=(∀h∈l,0<=h.blk/\1<=h.st/\h.st<=a)/\qId l/\Apart l
def Right (c:Sh):Prop:=1<=c.room/\c.room<=64/\0<=c.clock/\c.clock<=qIf/\(kG c.held:Int)<=c.room/\Good c.clock c.held
open Classical in
@[irreducible] noncomputable def right (c:Sh):Bool:=yF (Right c)
theorem zIu (c:Sh):right c=yD↔Right c:=by unfold right;simp
theorem zGw (c:Sh):right c=yE↔¬Right c:=by unfold right;simp
theorem zL5 {α:Type} (k:α->Int):∀(l m:List α),l.Perm m->(l.Pairwise fun x y=>k x<k y)->(m.Pairwise fun x y=>k x<k y)->l=m
 |[],m,hp,_,_=>by have:=hp.symm.eq_nil;exact this.symm
 |x::l,m,hp,hl,hm=>by
  cases m with
  |nil=>exact absurd hp.eq_nil zm
  |cons y m=>
   rw[qQ1]at hl hm;have a:x=y:=by
    have d:x∈y::m:=hp.subset zm;have e:y∈x::l:=hp.symm.subset zm;rcases qP7.1 d with h|h
    ·exact h
    ·rcases qP7.1 e with c|c
     ·exact c.symm
     ·have:=hl.1 y c;have:=hm.1 x h;omega
   subst a;rw[zL5 k l m ((List.perm_cons x).1 hp) hl.2 hm.2]
def put (h:Hd):List Hd->List Hd
 |[]=>[h]
 |x::r=>if x.blk<h.blk then x::put h r else if x.blk=h.blk then h::r else h::x::r
def drop (b:Int) (l:List Hd):List Hd:=l.filter fun x=>decide (x.blk≠b)
def find (b:Int) (l:List Hd):Option Hd:=l.find? fun x=>decide (x.blk=b)
theorem qI1 {l:List Hd} {x:Hd}:x∈drop b l↔x∈l/\x.blk≠b:=by unfold drop;simp
theorem qId.drop {l:List Hd} (h:qId l) (b:Int):qId (drop b l):=List.Pairwise.filter _ h
theorem qId.tail {x:Hd} {l:List Hd} (h:qId (x::l)):qId l:=(qQ1.1 h).2
theorem qId.head {x:Hd} {l:List Hd} (h:qId (x::l)):∀y∈l,x.blk<y.blk:=(qQ1.1 h).1
theorem qIs (h:Hd):∀(l:List Hd),qId l->∀x,x∈put h l↔x=h\/(x∈l/\x.blk≠h.blk)
 |[],_,x=>by simp[put]
 |y::r,hr,x=>by
  have a:=qIs h r hr.tail x;unfold put;split
  ·rename_i h1
   rw[qP7,a,qP7];constructor
   ·rintro(rfl|rfl|⟨h2,h3⟩)
    ·exact .inr ⟨.inl rfl,za⟩
    ·exact .inl rfl
    ·exact .inr ⟨.inr h2,h3⟩
   ·rintro(rfl|⟨rfl|h2,h3⟩)
    ·exact .inr (.inl rfl)
    ·exact .inl rfl
    ·exact .inr (.inr ⟨h2,h3⟩)
  ·split
   ·rename_i h1 h2
    rw[qP7,qP7];constructor
    ·rintro(rfl|h3)
     ·exact .inl rfl
     ·have:=hr.head x h3;exact .inr ⟨.inr h3,za⟩
    ·rintro(rfl|⟨rfl|h3,h4⟩)
     ·exact .inl rfl
     ·exact absurd h2 h4
     ·exact .inr h3
   ·rename_i h1 h2
    rw[qP7,qP7];constructor
    ·rintro(rfl|rfl|h3)
     ·exact .inl rfl
     ·exact .inr ⟨.inl rfl,h2⟩
     ·have:=hr.head x h3;exact .inr ⟨.inr h3,za⟩
    ·rintro(rfl|⟨h3,h4⟩)
     ·exact .inl rfl
     ·exact .inr h3
theorem qId.put {l:List Hd} (a:qId l) (h:Hd):qId (put h l):=by
 induction l with
 |nil=>simp[Cache.put,qId]
 |cons y r ih=>
  unfold Cache.put;split
  ·rename_i h1
   refine qQ1.2 ⟨fun x c=> ?_,ih a.tail⟩;rcases(qIs h r a.tail x).1 c with rfl|⟨h2,_⟩
   ·exact h1
   ·exact a.head x h2
  ·split
   ·rename_i h1 h2
    exact qQ1.2 ⟨fun x c=>by have:=a.head x c;omega,a.tail⟩
   ·rename_i h1 h2
    refine qQ1.2 ⟨fun x c=> ?_,a⟩;rcases qP7.1 c with rfl|c
    ·omega
    ·have:=a.head x c;omega
theorem qIu (h:Hd):∀l:List Hd,qId l->(kG (put h l)=kG l/\∃x∈l,x.blk=h.blk)\/(kG (put h l)=kG l+1/\∀x∈l,x.blk≠h.blk)
 |[],_=> .inr ⟨rfl,fun x a=>by cases a⟩
 |y::r,hr=>by
  unfold put;split
  ·rename_i h1
   rcases qIu h r hr.tail with⟨c,x,a,d⟩|⟨c,d⟩
   ·exact .inl ⟨by simp[c],x,List.mem_cons_of_mem _ a,d⟩
   ·refine .inr ⟨by simp[c],fun x a=> ?_⟩;rcases qP7.1 a with rfl|a
    ·omega
    ·exact d x a
  ·split
   ·rename_i h1 h2
    exact .inl ⟨rfl,y,zm,h2⟩
   ·rename_i h1 h2
    refine .inr ⟨rfl,fun x a=> ?_⟩;rcases qP7.1 a with rfl|a
    ·exact h2
    ·have:=hr.head x a;omega
theorem qIb {l:List Hd} {h:Hd} (e:find b l=qw h):h∈l/\h.blk=b:=by
 unfold find at e;exact⟨List.mem_of_find?_eq_some e,by simpa using List.find?_some e⟩
theorem qJ6 {l:List Hd} (e:find b l=qx):∀x∈l,x.blk≠b:=by
 unfold find at e;rw[List.find?_eq_none]at e;intro x a h;exact e x a (by simpa using h)
theorem qIr {l:List Hd} {h:Hd} (d:qId l) (a:h∈l) (e:h.blk=b):find b l=qw h:=by
 induction l with
 |nil=>cases a
 |cons y r ih=>
  unfold find;rw[List.find?_cons];by_cases c:y.blk=b
  ·rw[qP9 c];rcases qP7.1 a with rfl|a
   ·rfl
   ·have:=d.head h a;omega
  ·rw[qP1 c];rcases qP7.1 a with rfl|a
   ·exact absurd e c
   ·exact ih d.tail a
def ord (l:List Hd):List Hd:=l.mergeSort fun x y=>decide (y.st<=x.st)
theorem qJd (l:List Hd):(ord l).Perm l:=List.mergeSort_perm _ _
theorem qL6 (l:List Hd) (h:Apart l):(ord l).Pairwise fun x y=>y.st<x.st:=by
 have d:(ord l).Pairwise fun x y=>decide (y.st<=x.st)=yD:=List.pairwise_mergeSort (fun a b c d e=>by simp at d e⊢;omega) (fun a b=>zq) l;have e:(ord l).Pairwise fun x y=>x.st≠y.st:=(qUj (fun h=>qQ2 h) (qJd l)).2 h;exact(d.and e).imp fun⟨a,b⟩=>by simp at a;omega
theorem qN5 {l m:List Hd} (h:Apart l) (a:m.Perm l) (c:m.Pairwise fun x y=>y.st<x.st):m=ord l:=
 zL5 (fun x=> -x.st) m (ord l) (a.trans (qJd l).symm) (c.imp fun h=>za) ((qL6 l h).imp fun h=>za)
theorem qJr (l:List Hd):kG (ord l)=kG l:=(qJd l).length_eq
open Classical in
noncomputable def order (c:Sh):List Int:=if right c=yD then(ord c.held).map Hd.blk else[]
def after (c:Sh) (l:List Hd) (b:Int) (t:ByteArray):Sh:=⟨c.room,c.clock+1,put ⟨b,c.clock+1,t⟩ l⟩
noncomputable def take (c:Sh) (b:Int):ByteArray×Sh×Int:=
 if right c=yD then
  match find b c.held with
  |none=>(⟨#[]⟩,zero,5)
  |some h=>if c.clock=qIf then(⟨#[]⟩,zero,4)else(h.txt,after c c.held b h.txt,0)
 else(⟨#[]⟩,zero,1)
noncomputable def goes (c:Sh) (b:Int):Int:=if(find b c.held).isNone=yD/\(kG c.held:Int)=c.room then(order c).getLastD (-1)else-1
noncomputable def keep (c:Sh) (b:Int) (t:ByteArray):Int×Sh×Int:=
 if right c=yD/\0<=b then
  if c.clock=qIf then(0,zero,4)else(goes c b,after c (drop (goes c b) c.held) b t,0)
 else(0,zero,1)
theorem qI9 (l:List Hd) (b:Int) (h:∀x∈l,x.blk≠b):drop b l=l:=by
 unfold drop;rw[List.filter_eq_self];intro x a;simpa using h x a
end Cache
namespace Cache
open Go.Maps (Keyed int_keyed keyOf_int_mk)
variable {a:Option yB} {w:qy}
theorem zBw {k:IntKind} {a b:Int} (h:a=b):Ending.returned (qV k a)=qp (qV k b):=by rw[h]
theorem zQi {a b:Bool} (h:a=b):Ending.returned (qc a)=qp (qc b):=by rw[h]
abbrev TH:yA:=212
abbrev TS:yA:=36
abbrev hcells (h:Hd):List qz:=[qV qj h.blk,qV qj h.st,qW h.txt]
def qIg (w:qy) (a:Option yB) (l:List Hd):Prop:=∀j h,l[j]? =qw h->∃b off,a=qw ⟨b,off,qx⟩/\w.cell? ⟨b,off+j*3,qx⟩=qw (qV qj h.blk)/\w.cell? ⟨b,off+j*3+1,qx⟩=qw (qV qj h.st)/\w.cell? ⟨b,off+j*3+2,qx⟩=qw (qW h.txt)
theorem qIg.below {w':qy} {l:List Hd} {B:Nat} (h:qIg w a l) (d:yI B w w') (k:B=w.heap.size):qIg w' a l:=by
 subst k;intro j x n;obtain⟨b,c,m,f,g,i⟩:=h j x n;have e:b<w.heap.size:=qQk f;exact⟨b,c,m,by rw[d.cell (p:=⟨b,c+j*3,qx⟩) e];exact f,by rw[d.cell (p:=⟨b,c+j*3+1,qx⟩) e];exact g,by rw[d.cell (p:=⟨b,c+j*3+2,qx⟩) e];exact i⟩
theorem qIg.nil (w:qy) (a:Option yB):qIg w a []:=by intro j h b;simp at b
theorem qIg.take {l:List Hd} (h:qIg w a l) (n:Nat):qIg w a (l.take n):=by
 intro j x b;refine h j x ?_;rw[qSb]at b;split at b
 ·exact b
 ·cases b
theorem qIg.at_ {l:List Hd} (h:qIg w a l) (j:Nat) (i:j<kG l):∃b c,a=qw ⟨b,c,qx⟩/\b<w.heap.size/\w.cell? ⟨b,c+j*3,qx⟩=qw (qV qj l[j].blk)/\w.cell? ⟨b,c+j*3+1,qx⟩=qw (qV qj l[j].st)/\w.cell? ⟨b,c+j*3+2,qx⟩=qw (qW l[j].txt):=by
 obtain⟨b,c,g,d,e,f⟩:=h j l[j] (qPu i);exact⟨b,c,g,qQk d,d,e,f⟩
def zC7 (c:Sh) (a:Option yB) (k:Nat):qz:= .agg #[qV qj c.room,qV qj c.clock,qX a (kG c.held) k]
abbrev Lk (x:Int):Lit:= .int .i64 x
abbrev DW:=DataW Unit
abbrev yes:DW:= .lit (.bool yD)
abbrev seen (xs:List Int):DW:=Go.Maps.setOf yes (xs.map Lk)
theorem keyed (t:yA) (h:prog.underlying t=qw (.int qj)):Keyed yG t:=int_keyed h
theorem qJn {x:Int} (b: -9223372036854775808<=x) (c:x<=9223372036854775807):keyOf yG 3 (qV qj x)=qw (Lk x):=by
 exact keyOf_int_mk underlying3 (WalkArith.wf_i64 ⟨b,c⟩)
theorem qJ3 (x:Int):WideAt.IsKeyLit (Lk x):=by trivial
theorem qM8 (x y:Int):(Lk x).sameKey (Lk y)=yF (x=y):=by
 rw[qSg,qRl];constructor
 ·intro h;by_cases e:x=y
  ·exact e
  ·have:=Go.Maps.sameKey_ne (a:=Lk x) (b:=Lk y) (fun h=>e (by injection h));rw[this]at h;cases h
 ·rintro rfl;rcases h:(Lk x).sameKey (Lk x)with _|_
  ·have f:=Go.Maps.has_put_same (D:=(.map []:DW)) Go.Maps.isMap_empty (qJ3 x) yes;have c:=Go.Maps.has_setOf yes (Lk x) [Lk x] (fun y d=>by rw[qRm]at d;subst d;exact qJ3 x);rw[show Go.Maps.setOf yes [Lk x]=(.map []:DW).put (Lk x) yes from rfl,f]at c;simp[h]at c
  ·rfl
theorem qLz (xs:List Int):Go.Maps.IsMap (seen xs):=(Go.Maps.tidy_setOf yes _ (fun x b=>by obtain⟨y,_,rfl⟩:=qQf.1 b;exact qJ3 y)).isMap
theorem qKo (xs:List Int) (x:Int):seen (xs++[x])=(seen xs).put (Lk x) yes:=by
 unfold seen;rw[qQd,qQa,qSq,Go.Maps.setOf_snoc]
theorem qM6 {α:Type} {M:List α->Prop} (b:M []) (c:∀l x,M l->M (l++[x])) (l:List α):M l:=by
 rw[<-List.reverse_reverse l]
 induction l.reverse with
 |nil=>exact b
 |cons x r ih=>rw[List.reverse_cons];exact c _ _ ih
theorem qN1 (x:Int) (z:DW):∀xs,(seen xs).atKey (Lk x) z=if x∈xs then yes else z:=by
 intro xs;refine qM6 (M:=fun xs=>(seen xs).atKey (Lk x) z=if x∈xs then yes else z) rfl (fun l y c=> ?_) xs;rw[qKo];by_cases h:y=x
 ·subst h;rw[Go.Maps.atKey_put_same (qLz l) (qJ3 y),qPr zm]
 ·rw[Go.Maps.atKey_put_other (fun e=>h (by injection e with _ e;exact e.symm)),c];by_cases b:x∈l
  ·rw[qPr b,qPr (by simp[b])]
  ·rw[qPt b,qPt (by simp[b,qQ2 h])]
theorem qLg {e:yA} (b:prog.underlying e=qw .bool) {v:qz} {x:Bool} {c:List MemPlace} (h:plainElem (H:=Unit) yG e v=qw (.lit (.bool x),c)):v=qc x:=by
 unfold plainElem at h;rw[b]at h;cases v<;>simp at h;rw[h.1]
theorem qMn {b n:Nat} {xs:List Int} (h:w.ownsMap yG 3 (plainElem yG 4) b n (seen xs)) (x:Int) (d: -9223372036854775808<=x) (e:x<=9223372036854775807):
  (Instr.lookup 275 (.map (qw b)) (qV qj x) yE).run yG w= .ok (qc (yF (x∈xs))) w:=by
 obtain⟨v,g,f,hv⟩:=h.lookup (keyed _ underlying3) underlying275 (show(zeroValue 4).run yG w= .ok (qc yE) w from zf) (plainElem_bool underlying4 yE) (qJn d e);rw[f];rw[qN1]at hv;by_cases c:x∈xs
 ·rw[qPr c]at hv;rw[qLg underlying4 hv,qP9 c]
 ·rw[qPt c]at hv;rw[qLg underlying4 hv,qP1 c]
end Cache
namespace Cache
variable {w:qy} {B n c:Nat} {a:Option yB}
def flat (l:List Hd):List qz:=l.flatMap hcells
theorem qKd (x:Hd):flat [x]=hcells x:=by simp[flat]
theorem zKo (l m:List Hd):flat (l++m)=flat l++flat m:=by simp[flat]
theorem qMr (l:List Hd) (x:Hd):flat (l++[x])=flat l++hcells x:=by rw[zKo,qKd]
theorem zBg:∀l:List Hd,kG (flat l)=kG l*3
 |[]=>rfl
 |x::l=>by
  have:=zBg l;show(hcells x++flat l).length=_;rw[qPx,this];simp;omega
theorem flat_get:∀(l:List Hd) (j:Nat) (h:Hd),l[j]? =qw h->(flat l)[j*3]? =qw (qV qj h.blk)/\(flat l)[j*3+1]? =qw (qV qj h.st)/\(flat l)[j*3+2]? =qw (qW h.txt)
 |[],j,h,e=>by simp at e
 |x::l,0,h,e=>by
  simp at e;subst e;exact⟨rfl,rfl,rfl⟩
 |x::l,j+1,h,e=>by
  have d:=flat_get l j h (by simpa using e);have b:(j+1)*3=j*3+3:=za
  rw[b];exact d
theorem zPj (l:List Hd):∀u∈flat l,u.oneCell'=yD:=by
 intro u b;unfold flat at b;obtain⟨x,_,d⟩:=List.mem_flatMap.1 b;simp at d;rcases d with rfl|rfl|rfl<;>rfl
def qI (w:qy) (B:Nat) (a:Option yB) (n c:Nat) (l:List Hd):Prop:=w.ownsRow B TH 3 (qX a n c) n (flat l)
theorem qI.len {l:List Hd} (h:qI w B a n c l):kG l=n:=by
 have b:=h.1;rw[zBg]at b;omega
theorem qI.start (w:qy) (B:Nat):qI w B qx 0 0 []:=World.ownsRow_nil w B TH 3
theorem qI.alloc {l:List Hd} (h:qI w B a n c l) (o:Obj):qI (w.alloc o) B a n c l:=World.ownsRow.alloc h o
theorem qI.below {w':qy} {D:Nat} {l:List Hd} (h:qI w B a n c l) (o:yI D w w') (p:w.heap.size<=D):qI w' B a n c l:=by
 obtain⟨m,j⟩:=h;refine⟨m,?_⟩;rcases j with j|⟨g,i,d,hv,f,k,r⟩
 ·exact .inl j
 ·refine .inr ⟨g,i,d,hv,f,?_,r⟩;have b:g<w.heap.size:=by
   rcases qP8 g w.heap.size with b|e
   ·exact b
   ·rw[qRj e]at k;cases k
  rw[o.block g za,k]
theorem qI.base {B':Nat} {l:List Hd} (h:qI w B a n c l) (j:B'<=B):qI w B' a n c l:=by
 obtain⟨f,e⟩:=h;refine⟨f,?_⟩;rcases e with e|⟨g,d,b,hv,i,r⟩
 ·exact .inl e
 ·exact .inr ⟨g,d,b,hv,za,r⟩
theorem qI.block {l:List Hd} (h:qI w B a n c l):∀k,(Value.slice a n c).ownBlock=qw k->B<=k:=fun k b=>(World.ownsRow.lt h k b).1
theorem qI.at_ {l:List Hd} (h:qI w B a n c l) (p:0<n):∃g,a=qw ⟨g,0,qx⟩/\B<=g/\g<w.heap.size/\n<=c:=by
 obtain⟨o,f⟩:=h;rcases f with⟨_,f⟩|⟨g,k,m,hv,j,i,e,_⟩
 ·omega
 ·injection hv with ha hn' hc
  subst ha hc;refine⟨g,rfl,j,?_,e⟩;rcases qP8 g w.heap.size with d|b
  ·exact d
  ·rw[qRj b]at i;cases i
theorem qI.src {l:List Hd} (h:qI w B a n c l):qIg w a l:=by
 intro j x d;have o:=h.len;have m:j<kG l:=by
  rcases qP8 j (kG l) with b|b
  ·exact b
  ·rw[qQp b]at d;cases d
 obtain⟨g,k,_,_,_⟩:=h.at_ za;subst k;obtain⟨e,f,i⟩:=flat_get l j x d;refine⟨g,0,rfl,?_,?_,?_⟩
 ·rw[qQc,qTk h _ za,e]
 ·rw[qQc,qTk h _ za,f]
 ·rw[qQc,qTk h _ za,i]
theorem addr_add (b off i:Nat):(⟨b,off,qx⟩:yB).add i=⟨b,off+i,qx⟩:=by
 unfold Addr.add;split<;>simp_all
theorem zT2 (l:List Hd) (i:Nat) (u:qz) (h:(flat l)[i]? =qw u):∃x,l[i/3]? =qw x/\(hcells x)[i%3]? =qw u:=by
 induction l generalizing i with
 |nil=>simp[flat]at h
 |cons y r ih=>
  change (hcells y++flat r)[i]? =qw u at h;rw[List.getElem?_append]at h;split at h
  ·rename_i hi
   have a:i<3:=by simpa using hi
   exact⟨y,by rw[Nat.div_eq_of_lt a];rfl,by rw[qRg a];exact h⟩
  ·rename_i hi
   have a:3<=i:=by simpa using hi
   obtain⟨x,d,b⟩:=ih (i-3) (by simpa using h);refine⟨x,?_,?_⟩
   ·rw[show i/3=(i-3)/3+1 by omega];simpa using d
   ·rw[show i%3=(i-3)%3 by omega];exact b
theorem qIg.cells {b off:Nat} {l:List Hd} (h:qIg w (qw ⟨b,off,qx⟩) l):∀i u,(flat l)[i]? =qw u->w.cell? ((⟨b,off,qx⟩:yB).add i)=qw u:=by
 intro i u m;obtain⟨x,o,d⟩:=zT2 l i u m;obtain⟨b',p,e,f,g,j⟩:=h _ x o;injection e with e
 injection e with hb ho
 subst hb ho;rw[addr_add];have hd:=Nat.div_add_mod i 3;have q:i%3<3:=qRd _ za;rcases hk:i%3 with _|_|_|k
 ·rw[hk]at d hd;simp at d;subst d;rw[show off+i=off+i/3*3 by omega];exact f
 ·rw[hk]at d hd;simp at d;subst d;rw[show off+i=off+i/3*3+1 by omega];exact g
 ·rw[hk]at d hd;simp at d;subst d;rw[show off+i=off+i/3*3+2 by omega];exact j
 ·omega
theorem qNx:(prog.info? TH).map (fun i=>(i.zero,i.size,i.bytes))=qw (qw (.agg #[qV qj 0,qV qj 0,qW ⟨#[]⟩]),3,32):=zf
theorem qI.app {ty:yA} {l:List Hd} (h:qI w B a n c l)
  (x:Option yB) (m s:Nat) (q:List Hd) (L:qIg w x q) (F:kG q=m) (O:x=qx->m=0/\s=0) (S:n+m<=100000) (K:B<=w.heap.size):
  ∃a' c' w',(Builtin.append_ #[34,34] ty #[qX a n c,qX x m s]).run yG w= .ok (qX a' (n+m) c') w'/\qI w' B a' (n+m) c' (l++q)/\w.grownBy w' (Value.ownBlock (qX a n c)):=by
 obtain⟨i,hi,f,o,e⟩:=qR0 qNx;have d:∀{v:qz} {w':qy} {k:Nat} {M:List qz},w'.ownsRow B TH 3 v k M->∃a' c',v=qX a' k c':=by
  intro v w' k M hv;rcases Joins.ownsRow_forms hv with⟨rfl,rfl⟩|⟨g,R,rfl⟩
  ·exact⟨_,_,rfl⟩
  ·exact⟨_,_,rfl⟩
 cases x with
 |none=>
  obtain⟨rfl,rfl⟩:=O rfl;have G:q=[]:=qQz F;subst G;refine⟨a,c,w,run_append_owned_none (P:=yG) (w:=w) B 34 ty TH i 3 underlying34 hi _ n (flat l) h,by simpa using h,⟨rfl,rfl,rfl,Nat.le_refl _,fun _ _ _=>rfl⟩⟩
 |some y=>
  by_cases N:m=0
  ·subst N;have G:q=[]:=qQz F;subst G;obtain⟨v',w',H,r,z,_⟩:=run_append_own (P:=yG) w B 34 ty TH i _ 3 32 underlying34 hi f o e rfl za _ n (flat l) h y 0 s [] rfl (fun j u I=>by simp at I) (fun u I=>by simp at I) (by unfold maxLen;omega) za K;obtain⟨a',c',rfl⟩:=d r;exact⟨a',c',w',H,by rw[qQ3]at r⊢;exact r,z⟩
  ·obtain⟨b,p,t,_⟩:=L 0 q[0] (qPu za);injection t with t
   subst t;obtain⟨v',w',H,r,z,_⟩:=run_append_own (P:=yG) w B 34 ty TH i _ 3 32 underlying34 hi f o e rfl za _ n (flat l) h ⟨b,p,qx⟩ m s (flat q) (by rw[zBg,F]) L.cells (zPj _) (by unfold maxLen;omega) za K;obtain⟨a',c',rfl⟩:=d r;exact⟨a',c',w',H,by unfold qI;rw[zKo];exact r,z⟩
end Cache
end Go.Proofs.YtppnakkaljbmbaaGreatDoor
