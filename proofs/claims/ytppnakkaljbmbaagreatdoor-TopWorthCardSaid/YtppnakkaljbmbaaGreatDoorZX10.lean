/- Steps of a proof; no condition beyond what each states. -/
import Derived.Test.YtppnakkaljbmbaaGreatDoorZX00
import Derived.Test.YtppnakkaljbmbaaGreatDoorZX09
set_option linter.unusedVariables false
set_option linter.unusedSimpArgs false
set_option maxRecDepth 100000
set_option maxHeartbeats 8000000
open List renaming length->kG
open Go.Proofs.YtppnakkaljbmbaaGreatDoor.Kit renaming Own->yg
open Go.RowKit
open Go.Proofs.Tryz
open Go.Value renaming int->qV,string->qW,slice->qX,pointer->qY,tuple->qZ,bool->qc
open Go.IntKind renaming i64->qj,u8->ql
open Go.Obj renaming cells->qm
open Go.Ending renaming returned->qp
open Option renaming some->qw,none->qx
open Go renaming World->qy,Value->qz,TypeId->yA,Addr->yB,Calls->yC
open Bool renaming true->yD,false->yE
open Decidable renaming decide->yF
open Go.Proofs.Tryz renaming prog->yG
open Go.RowKit renaming Hid->yH,Below->yI
open List renaming range->yK
open Go.RowKit.Below renaming refl->yN
namespace Go.Proofs.YtppnakkaljbmbaaGreatDoor
namespace Bk
open Ch Hf Bt
def zA0 (t:Nat->List Nat) (m:List Nat) (p n:Nat):List Bool:=(List.range' p n).flatMap fun q=>word (t (q/10)) (m.getD q 0)
theorem zJa (t:Nat->List Nat) (m:List Nat) (p n:Nat):zA0 t m p (n+1)=word (t (p/10)) (m.getD p 0)++zA0 t m (p+1) n:=by
 unfold zA0;rw[List.range'_succ,qSl]
theorem body_add (t:Nat->List Nat) (m:List Nat) (p a b:Nat):zA0 t m p (a+b)=zA0 t m p a++zA0 t m (p+a) b:=by
 unfold zA0;rw[<-List.range'_append_1,List.flatMap_append]
theorem zMw (t:Nat->List Nat) (m:List Nat) (i:Nat):∀(k j:Nat),j+k<=10->10*i+j+k<=kG m->zA0 t m (10*i+j) k=(((m.drop (10*i+j)).take k).flatMap (word (t i)))
 |0,j,_,_=>by simp[zA0]
 |k+1,j,h1,h2=>by
  have hd:m.drop (10*i+j)=m[10*i+j]::m.drop (10*i+j+1):=qSa za;rw[zJa,show 10*i+j+1=10*i+(j+1)by omega,zMw t m i k (j+1) za za,hd,qSk,qSl];rw[show(10*i+j)/10=i by omega,qPw,qPu za];rfl
def zNp (t:Nat->List Nat) (m:List Nat) (n:Nat):List Bool:=(yK n).flatMap fun i=>((grp m).getD i []).flatMap (word (t i))
theorem zXy (t:Nat->List Nat) (m:List Nat) (n:Nat):zNp t m (n+1)=zNp t m n++((grp m).getD n []).flatMap (word (t n)):=by
 unfold zNp;rw[qQu,List.flatMap_append];simp
theorem zOx (t:Nat->List Nat) (m:List Nat):∀n,n<=kG (grp m)->zNp t m n=zA0 t m 0 (min (10*n) (kG m))
 |0,_=>by simp[zNp,zA0]
 |n+1,h=>by
  rw[zBx]at h;have d:=zOx t m n (by rw[zBx];omega);have b:=zJy m n za;rw[zXy,d,qPw,b,qQ4];obtain⟨k,c⟩:∃k,min (10*(n+1)) (kG m)=10*n+k:=⟨min (10*(n+1)) (kG m)-10*n,za⟩;rw[c,show min (10*n) (kG m)=10*n by omega,body_add,qQc];congr 1;have:=zMw t m n k 0 za za;rw[qRh]at this;rw[this];congr 1;apply qRt;intro j;rw[qSb,qSb];by_cases a:j<k
  ·rw[qPr a,qPr za]
  ·rw[qPt a];split
   ·rw[List.getElem?_drop,qQp za]
   ·rfl
end Bk
namespace Crc
def poly:BitVec 32:=79764919#32
def top:BitVec 32:=2147483648#32
@[irreducible] def U (x:BitVec 32):Int:=(x.toNat:Int)
theorem zN0 (x:BitVec 32):0<=U x:=by unfold U;omega
theorem zN1 (x:BitVec 32):U x<4294967296:=by unfold U;have:=x.isLt;omega
theorem qHo {a b:BitVec 32} (h:U a=U b):a=b:=by
 unfold U at h;exact BitVec.eq_of_toNat_eq za
theorem qHp (a b:BitVec 32):(U a==U b)=(a==b):=by
 rw[qSg,qSr,qSr];exact⟨qHo,fun h=>by rw[h]⟩
theorem zPr (a b:BitVec 32):bits .xor .u32 (U a) (U b)=U (a^^^b):=by
 unfold U;rw[u32_xor_nat _ _ a.isLt b.isLt,BitVec.toNat_xor]
theorem qH1 (a b:BitVec 32):bits .or .u32 (U a) (U b)=U (a|||b):=by
 unfold U;rw[u32_or_nat _ _ a.isLt b.isLt,BitVec.toNat_or]
theorem qHq (a b:BitVec 32):bits .and .u32 (U a) (U b)=U (a&&&b):=by
 unfold U;rw[u32_and_nat _ _ a.isLt b.isLt,BitVec.toNat_and]
theorem zVw (a:BitVec 32):U a*(2:Int)%(4294967296:Int)=U (a<<<1):=by
 unfold U;rw[qUh,Nat.shiftLeft_eq];simp
theorem qGn (a:BitVec 32):U a*(256:Int)%(4294967296:Int)=U (a<<<8):=by
 unfold U;rw[qUh,Nat.shiftLeft_eq];simp
theorem qEg (a:BitVec 32):U a/(2147483648:Int)=U (a>>>31):=by
 unfold U;rw[qUi,qT3];simp
theorem zTt (a:BitVec 32):a.msb=yF (2147483648<=a.toNat):=by
 rw[BitVec.msb_eq_decide]
def rot (a:BitVec 32):BitVec 32:=(a<<<1)|||(a>>>31)
def qHx (a:BitVec 32):BitVec 32:=(a>>>1)|||(a<<<31)
theorem qGo:(79764919:Int)=U poly:=by unfold U;rfl
theorem qGp:(4294967295:Int)=U (BitVec.allOnes 32):=by unfold U;rfl
def st (c:BitVec 32):BitVec 32:=if c.msb then(c<<<1)^^^poly else c<<<1
def it:Nat->BitVec 32->BitVec 32
 |0,c=>c
 |n+1,c=>st (it n c)
theorem qE2 (a b:BitVec 32):st (a^^^b)=st a^^^st b:=by
 unfold st;rw[BitVec.msb_xor,BitVec.shiftLeft_xor_distrib];cases a.msb<;>cases b.msb<;>simp
 ·ac_rfl
 ·ac_rfl
 ·rw[show a<<<1^^^poly^^^(b<<<1^^^poly)=(a<<<1^^^b<<<1)^^^(poly^^^poly)from by ac_rfl,BitVec.xor_self,BitVec.xor_zero]
theorem zRa (n:Nat) (a b:BitVec 32):it n (a^^^b)=it n a^^^it n b:=by
 induction n with
 |zero=>rfl
 |succ n ih=>rw[it,it,it,ih,qE2]
def bit (b:Bool):BitVec 32:=if b then top else 0#32
def up (c:BitVec 32) (b:Bool):BitVec 32:=st (c^^^bit b)
theorem qE1 (a:BitVec 32) (h:a.msb=yD):bits .xor .u32 (U a*(2:Int)%(4294967296:Int)) (79764919:Int)=U (st a):=by
 unfold st;rw[qPr h,zVw,qGo,zPr]
theorem qG2 (a:BitVec 32) (h:a.msb=yE):U a*(2:Int)%(4294967296:Int)=U (st a):=by
 unfold st;rw[qPt (by rw[h];decide),zVw]
theorem zNz (a:BitVec 32):(bits .and .u32 (U a) (2147483648:Int)==0)= !a.msb:=by
 have h:(2147483648:Int)=U top:=by unfold U;rfl
 have b:(0:Int)=U 0#32:=by unfold U;rfl
 rw[h,qHq,b,qHp,zTt];have e:(a&&&top).toNat=a.toNat/2^31%2*2^31:=by rw[BitVec.toNat_and];exact nat_bit 31 a.toNat
 have d:=a.isLt;rw[qSg,qSr];constructor
 ·intro h;rw[h]at e;have c:a.toNat/2^31%2*2^31=0:=by rw[<-e];rfl
  simp;omega
 ·intro h;apply BitVec.eq_of_toNat_eq;rw[e];simp at h⊢;omega
theorem qEh (i:Nat) (h:i<256):(i:Int)*(16777216:Int)=U (BitVec.ofNat 32 i<<<24):=by
 unfold U;rw[qUh,BitVec.toNat_ofNat,qRg (a:=i) za,Nat.shiftLeft_eq,qRg za];omega
def wide (x:BitVec 8):BitVec 32:=(x.setWidth 32)<<<24
def tk (c:BitVec 32) (x:BitVec 8):BitVec 32:=it 8 (c^^^wide x)
theorem qFv (n:Nat):∀(c:BitVec 32),c.toNat*2^n<4294967296->it n c=c<<<n:=by
 induction n with
 |zero=>intro c _;simp[it]
 |succ n ih=>
  intro c a;have b:(2:Nat)^(n+1)=2*2^n:=by rw[qRq,qRo]
  rw[b]at a;have e:c.toNat*2^n*2<4294967296:=by rw[qTc,qRo (2^n)];exact a
  rw[it,ih c za];unfold st;have d:(c<<<n).msb=yE:=by
   rw[zTt,qUh,Nat.shiftLeft_eq,qRg za];simp;omega
  rw[d];simp only[Bool.false_eq_true,if_false];rw[<-BitVec.shiftLeft_add]
def tab (i:Nat):BitVec 32:=it 8 (BitVec.ofNat 32 i<<<24)
theorem qEq (c:BitVec 32) (x:BitVec 8):tk c x=(c<<<8)^^^tab ((c>>>24).toNat^^^x.toNat):=by
 have f:BitVec.ofNat 32 ((c>>>24).toNat^^^x.toNat)=(c>>>24)^^^x.setWidth 32:=by
  apply BitVec.eq_of_toNat_eq;rw[BitVec.toNat_xor,BitVec.toNat_ofNat,BitVec.toNat_setWidth,qRg (a:=x.toNat) (by have:=x.isLt;omega)];exact qRg (Nat.xor_lt_two_pow (n:=32) (c>>>24).isLt (by have:=x.isLt;omega))
 unfold tk tab;rw[f,BitVec.shiftLeft_xor_distrib,zRa,zRa,wide,<-BitVec.xor_assoc];congr 1;have d:c=((c>>>24)<<<24)^^^(c&&&16777215#32):=by
  apply BitVec.eq_of_getLsbD_eq;intro i hi;simp only[BitVec.getLsbD_xor,BitVec.getLsbD_shiftLeft,BitVec.getLsbD_ushiftRight,BitVec.getLsbD_and];by_cases h:i<24
  ·have b:(16777215#32).getLsbD i=yD:=by
    have:∀j:Fin 24,(16777215#32).getLsbD j.val=yD:=z8
    exact this ⟨i,h⟩
   simp[h,b]
  ·have b:(16777215#32).getLsbD i=yE:=by
    have:∀j:Fin 32,¬j.val<24->(16777215#32).getLsbD j.val=yE:=z8
    exact this ⟨i,hi⟩ h
   have:24+(i-24)=i:=za
   rw[b,this];simp[h,hi]
 have b:it 8 (c&&&16777215#32)=c<<<8:=by
  rw[qFv 8]
  ·apply BitVec.eq_of_getLsbD_eq;intro i hi;simp only[BitVec.getLsbD_shiftLeft,BitVec.getLsbD_and];by_cases h:i<8
   ·simp[h]
   ·have:∀j:Fin 24,(16777215#32).getLsbD j.val=yD:=z8
    have e:=this ⟨i-8,za⟩;simp only at e;rw[e];simp
  ·have e:(c&&&16777215#32).toNat<2^24:=by
    rw[BitVec.toNat_and];exact Nat.and_lt_two_pow _ z8
   omega
 conv=>lhs;rw[d,zRa,b]
 rw[BitVec.xor_comm]
theorem qHn (a:BitVec 32):bits .xor .u32 IntKind.u32.max (U a)=U (~~~ a):=by
 rw[show IntKind.u32.max=U (BitVec.allOnes 32)from qGp,zPr,BitVec.allOnes_xor]
@[irreducible] def look (X:BitVec 32) (x:UInt8):Nat:=(X>>>24).toNat^^^x.toNat
theorem qDb (X:BitVec 32) (x:UInt8):look X x<256:=by
 unfold look;refine Nat.xor_lt_two_pow (n:=8) ?_ ?_
 ·rw[qUi,qT3];have:=X.isLt;omega
 ·have:=x.toNat_lt;omega
theorem zXi (X:BitVec 32) (x:UInt8):bits .xor ql (U X/(16777216:Int)) (x.toNat:Int)=(look X x:Int):=by
 unfold look U;have e:((X.toNat:Int)/(16777216:Int))=(((X>>>24).toNat:Nat):Int):=by
  rw[qUi,qT3];omega
 rw[e,u8_xor_nat _ _ (by rw[qUi,qT3];have:=X.isLt;omega) (by have:=x.toNat_lt;omega)]
theorem qDa (X:BitVec 32) (x:UInt8):bits .xor .u32 (U X*(256:Int)%(4294967296:Int)) (U (tab (look X x)))=U (tk X x.toBitVec):=by
 rw[qGn,zPr,qEq];unfold look;rfl
def feeds (c:BitVec 32) (l:List UInt8):BitVec 32:=l.foldl (fun c x=>tk c x.toBitVec) c
def more (c:BitVec 32) (l:List UInt8):BitVec 32:= ~~~ feeds (~~~ c) l
def sum (l:List UInt8):BitVec 32:=more 0#32 l
theorem zI6 (c:BitVec 32) (a b:List UInt8):feeds c (a++b)=feeds (feeds c a) b:=by
 unfold feeds;rw[qTe]
theorem zVb (c:BitVec 32) (l:List UInt8) (x:UInt8):feeds c (l++[x])=tk (feeds c l) x.toBitVec:=by
 rw[zI6];rfl
theorem zSo (c:BitVec 32) (a b:List UInt8):more c (a++b)=more (more c a) b:=by
 unfold more;rw[zI6,BitVec.not_not]
theorem sum_append (a b:List UInt8):sum (a++b)=more (sum a) b:=zSo _ a b
end Crc
namespace Us
open Bt Zr
def zCo (l:List Nat) (k i:Nat):List Bool:=(yK i).map fun j=>decide (k*16+j∈l)
theorem zQh (l:List Nat) (k i:Nat):kG (zCo l k i)=i:=by simp[zCo]
theorem zWy (l:List Nat) (k i:Nat):zCo l k (i+1)=zCo l k i++[yF (k*16+i∈l)]:=by simp[zCo,qQu]
def zCc (l:List Nat) (k:Nat):Nat:=val (zCo l k 16)
theorem zM9 (l:List Nat) (k i:Nat) (h:i<=16):val (zCo l k i)<65536:=by
 have a:=zEy (zCo l k i);rw[zQh]at a;have b:2^i<=2^16:=qR8 za h;omega
theorem or_one (v:Nat) (hv:v<1000000):bits .or .u64 ((v:Int)*2) 1=(v:Int)*2+1:=by
 have h:=or_bit v za yD;rw[zNw,show(true.toNat)=1 from rfl]at h;rw[show IntKind.u64.wrap ((v:Int)*2)=(v:Int)*2 from qSh _ ⟨za,za⟩,show IntKind.u64.wrap ((128:Int)/128)=1 from rfl]at h;rw[h];omega
theorem zJm (l:List Nat) (k:Nat) (z:k<16) (w:qy):
  yC yG 99 #[.agg (cellsOf 256 (has l)),qV qj (k:Int)] w fun e w'=>e=qp (qV .u64 (zCc l k:Int))/\yI w.heap.size w w':=by
 obtain⟨B,p⟩:=zB w.heap.size;have c:Arr (w.alloc (qm (cellsOf 256 (has l)) TS)) B TS 256 (has l):=by
  show _=_;rw[<-p];show(w.heap.push _)[w.heap.size]? =_;simp
 obtain⟨W,n⟩:=zB (w.alloc (qm (cellsOf 256 (has l)) TS));have d:yI B w W:=by rw[<-n,<-p];exact(yN _ _).alloc (qPq _) _
 rw[n]at c;obtain⟨h,g⟩:=yQ c d;obtain⟨y,f⟩:=zB (cellsOf 256 (has l));rw[f]at n⊢;rw[p];clear c d f;go_enter func99,ntmps99;go_wp2;clear n;go_loopw [4,6] (fun v i wr=>∃j:Nat,j<=16/\i=qV qj j/\v=qV .u64 (val (zCo l k j):Nat)/\wr=W) (fun _ i _=>16-(intOf i).toNat)
 case atStart=>exact⟨0,za,rfl,rfl,rfl⟩
 case round=>
  obtain⟨j,s,rfl,rfl,rfl⟩:=hrel;by_cases u:j<16
  ·have hv:=zM9 l k j s;have r:=h.out.cell (k*16+j) za;unfold has at r;have a:=zWy l k j;by_cases o:k*16+j∈l
   ·rw[qP9 o]at r a;have b:=yP (val (zCo l k (j+1))=val (zCo l k j)*2+1) (by rw[a,zEh];rfl);obtain⟨q,m⟩:=zB (val (zCo l k j));rw[m]at hv b⊢;have t:=or_one q za;have x:=zH t;clear o a m;go_wp2;go_roundw
    case rel=>exact⟨j+1,za,by go_num,by rw[b.out];push_cast;rfl,trivial⟩
    case measure=>simp only[intOf];omega
   ·rw[qP1 o]at r a;have b:=yP (val (zCo l k (j+1))=val (zCo l k j)*2) (by rw[a,zEh];simp);obtain⟨q,m⟩:=zB (val (zCo l k j));rw[m]at hv b⊢;clear o a m;go_wp2;go_roundw
    case rel=>exact⟨j+1,za,by go_num,by rw[b.out];push_cast;rfl,trivial⟩
    case measure=>simp only[intOf];omega
  ·obtain rfl:j=16:=za
   go_wp2;go_ret;exact⟨rfl,g.out⟩
end Us
namespace Zr
open Front Ix Bt
variable {now n B:Nat} {w w0 w':qy} {m m':List Bool}
theorem zQ4 (n:Nat) (c:2<=n) (d:n<=258) (w:qy):
  yC yG 95 #[qV qj (n:Int)] w fun e w'=>e=qp (qc yD)/\w'=w:=by
 have a:decide ((2:Int)<=(n:Int))=yD:=qP9 za;have b:decide ((n:Int)<=258)=yD:=qP9 za;go_enter func95,ntmps95;go_wp2;go_ret;exact⟨rfl,rfl⟩
theorem zJw (n:Nat) (c:1<=n) (d:n<=20) (w:qy):
  yC yG 97 #[qV qj (n:Int)] w fun e w'=>e=qp (qc yD)/\w'=w:=by
 have a:decide ((1:Int)<=(n:Int))=yD:=qP9 za;have b:decide ((n:Int)<=20)=yD:=qP9 za;go_enter func97,ntmps97;go_wp2;go_ret;exact⟨rfl,rfl⟩
theorem zX9 (n:Nat) (a:1<=n) (b:n<=20) (w:qy):
  yC yG 96 #[ival n] w fun e w'=>e=qp (qc ((fun _=>yE) n))/\w'=w:=by
 have HM:=zH (zJw n a b w);go_enter func96,ntmps96;go_wp2_with fail;(with_reducible refine HM.out.mono ?_);rintro e w2 ⟨rfl,rfl⟩;go_wp2;go_ret;exact⟨rfl,rfl⟩
theorem zP1 (h:now<n):steps now n=[yD,yE]++steps (now+1) n:=by
 unfold steps;rw[show n-now=n-(now+1)+1 by omega,show now-n=0 by omega,show now+1-n=0 by omega,qSo,qS0];simp
theorem zL3 (h:n<now):steps now n=[yD,yD]++steps (now-1) n:=by
 unfold steps;rw[show n-now=0 by omega,show n-(now-1)=0 by omega,show now-n=now-1-n+1 by omega,qSo,qS0];simp
theorem zK1 (n:Nat):steps n n=[yE]:=by unfold steps;simp
theorem qB1:num 2 2=[yD,yE]:=z8
theorem qHf:num 3 2=[yD,yD]:=z8
theorem qB2:num 0 1=[yE]:=z8
theorem zA3 {u v x y:qz} {t:yA} (h:w.heap[B]? =qw (qm #[u,v] t)):((w.setCell ⟨B,0,qx⟩ x).setCell ⟨B,1,qx⟩ y).heap[B]? =qw (qm #[x,y] t):=
 setBlock 1 (setBlock 0 h)
structure HB (w0 w:qy) (B:Nat) (m:List Bool):Prop where
 blk:w.heap[B]? =qw (qm #[qW (pk m),qV qj (kG m:Int)] 51)
 below:yI B w0 w
theorem HB.set (h:HB w0 w B m) (b:yI w.heap.size w w'):HB w0 ((w'.setCell ⟨B,0,qx⟩ (qW (pk m'))).setCell ⟨B,1,qx⟩ (qV qj (kG m':Int))) B m':=by
 have a:=zAd h.blk;exact⟨zA3 ((b.block B a).trans h.blk),zCs (h.below.trans (b.mono za)) (qPq _)⟩
theorem HB.mid (h:HB w0 w B m) (b:yI w.heap.size w w'):HB w0 w' B m:=by
 have a:=zAd h.blk;exact⟨(b.block B a).trans h.blk,h.below.trans (b.mono za)⟩
theorem zRn (l:List Nat) (j now:Nat) (a:j<kG l):del now (l.drop j)=steps now l[j]++del l[j] (l.drop (j+1)):=by
 rw[qSa a,del]
theorem zD1 (m:List Bool) (v n:Nat) (g:m++num v n=m') {d:ByteArray} (hd:pk m=d) {k V N:Int} (c:(kG m:Int)=k) (b:(v:Int)=V) (a:(n:Int)=N) (hv:v<18446744073709551616) (h:n<=64) (f:kG m+n<=1000000) (w:qy):
  yC yG 24 #[.agg #[qW d,qV qj k],qV .u64 V,qV qj N] w fun e w'=>e=qp (qZ #[.agg #[qW (pk m'),qV qj (kG m':Int)],qV qj 0])/\yI w.heap.size w w':=by
 subst g hd c b a;exact zJo m v n w hv h f
theorem zLj (l:List Nat) (a:Option yB) (n c:Nat) (w:qy) (hn:kG l=n) (h2:2<=n) (a0:n<=258) (hs:Kit.Src w a (l.map ival)) (hl:∀x∈l,1<=x/\x<=20) (hd:kG (delta l)<=900000):
  yC yG 27 #[qX a n c] w fun e w'=>e=qp (qZ #[zAe (delta l),qV qj 0])/\yI w.heap.size w w':=by
 obtain⟨B,hB⟩:=zB w.heap.size;obtain⟨W,hW⟩:=zB (w.alloc (qm #[qW ⟨#[]⟩,qV qj 0] 51));have P:yI B w W:=by rw[<-hW,<-hB];exact(yN _ _).alloc (qPq _) _
 have hX:W.heap[B]? =qw (qm #[qW (pk []),qV qj (kG ([]:List Bool):Int)] 51):=by
  rw[<-hW,<-hB];show(w.heap.push _)[w.heap.size]? =_;simp;rfl
 obtain⟨H0,HM⟩:=yQ (HB.mk hX P) (zQ4 n h2 a0 W);have H:Kit.Src W a (l.map ival):=hs.below (by rw[hB];exact P);have HQ:=zH (zE5 (fun _=>yE) l 96 a n c W hn za H (zHw func96 rfl rfl) (fun x hx=>zX9 x (hl x hx).1 (hl x hx).2 W));rw[any_false]at HQ;have t:0<kG l:=za
 obtain⟨x0,u⟩:=zB (l[0]);obtain⟨b,off,rfl,e0⟩:=H 0 (ival x0) (by rw[qP2,qPu t,u];rfl);rw[qRh]at e0;have a1:1<=x0/\x0<=20:=by rw[<-u];exact hl _ (qQ t)
 have r:delta l=num x0 5++del x0 (l.drop 0):=by
  unfold delta;rw[<-u,qR3];congr 2<;>(rw[List.headD_eq_head?_getD,List.head?_eq_getElem?,qPu t];rfl)
 obtain⟨T,hT⟩:=zB (delta l);rw[hT]at hd r⊢;obtain⟨HS,HL,HN,HD,HT,HP⟩:=yU hs hl hn hd r (zD1 [] x0 5 (qQl _) (d:=⟨#[]⟩) rfl (k:=0) (N:=5) rfl rfl rfl za za zm W);unfold zAe;obtain⟨m0,O⟩:=zB (num x0 5);rw[O]at HP HT;obtain⟨y,z,Z,f1⟩:=zAf hX;rw[show pk []=⟨#[]⟩from rfl]at y;rw[show((kG ([]:List Bool):Nat):Int)=0 from rfl]at z;have HU:IntKind.u64.wrap (x0:Int)=(x0:Int):=by
  rw[show IntKind.u64.wrap (x0:Int)=(x0:Int)%18446744073709551616 from rfl];omega
 clear hs hl hn hd r u t H hT hX O;rw[hB];go_enter func27,ntmps27;go_wp2_with fail;(with_reducible refine HM.out.mono ?_);rintro e w2 ⟨rfl,rfl⟩;go_wp2_with fail;(with_reducible refine HQ.out.mono ?_);rintro e w2 ⟨rfl,rfl⟩;go_wp2_with fail;(with_reducible refine HP.out.mono ?_);rintro e w3 ⟨rfl,K⟩;clear y z Z f1 e0;obtain⟨y,z,Z,f1⟩:=zAf (H0.out.mid K).blk;have H4:=zH (H0.out.set (m':=m0) K);clear K hW;go_wp2;clear y z Z f1 HU;generalize ((w3.setCell ⟨B,0,qx⟩ (qW (pk m0))).setCell ⟨B,1,qx⟩ (qV qj (kG m0:Int)))=W4 at H4⊢;go_loopw [28,4] (fun i v wr=>∃(j f:Nat) (m:List Bool),j<=n/\i=qV qj j/\v=qV qj f/\f<=20/\yH (HB w wr B m)/\yH (T=m++del f (l.drop j))) (fun i _ _=>n-(intOf i).toNat)
 case atStart=>exact⟨0,x0,m0,za,rfl,rfl,za,H4,HT⟩
 case round=>
  clear H4 HT;obtain⟨j,f,m,hj,rfl,rfl,o,q,ht⟩:=hrel;by_cases X:j<n
  ·have F:j<kG l:=by rw[HN.out];exact X
   obtain⟨x,hx⟩:=zB (l[j]);obtain⟨b',a2,I,e0⟩:=(HS.out.below (w':=wr) (by rw[hB];exact q.out.below)) j (ival x) (by rw[qP2,qPu F,hx];rfl);injection I with I
   injection I with hb1 hb2 _
   subst hb1 hb2;have a4:1<=x/\x<=20:=by rw[<-hx];exact HL.out _ (qQ F)
   have L:=yP (T=m++(steps f x++del x (l.drop (j+1)))) (by rw[ht.out,zRn l j f F,hx]);clear ht hx;go_wp2;clear e0;go_loopw [4] (fun v wr=>∃(f:Nat) (m:List Bool),v=qV qj f/\f<=20/\yH (HB w wr B m)/\yH (T=m++(steps f x++del x (l.drop (j+1))))) (fun v _=>20-(intOf v).toNat)
   case atStart=>exact⟨f,m,rfl,o,q,L⟩
   case round=>
    clear L q o;obtain⟨f,m,rfl,o,q,ht⟩:=hrel;by_cases M:f<x
    ·have G:=zP1 M;obtain⟨m2,g⟩:=zB (m++[yD,yE]);have p:kG m+2<=1000000:=by have h1:=HD.out;rw[ht.out,qPx]at h1;omega
     obtain⟨hq,s⟩:=yQ (zD1 m 2 2 (m':=m2) (by rw[qB1,g]) (d:=pk m) rfl (k:=(kG m:Int)) (V:=2) (N:=2) rfl rfl rfl za za p wr) g;clear p g;obtain⟨y,z,Z,f1⟩:=zAf q.out.blk;go_wp2_with fail;(with_reducible refine hq.out.mono ?_);rintro e w4 ⟨rfl,h⟩;clear y z Z f1 hq;obtain⟨y,z,Z,f1⟩:=zAf (q.out.mid h).blk;have H5:=zH (q.out.set (m':=m2) h);clear h;go_wp2;clear y z Z f1;go_roundw
     case rel=>exact⟨f+1,m2,by go_num,za,H5,zH (by rw[ht.out,G,<-s.out];simp)⟩
     case measure=>simp[intOf];omega
    ·go_wp2;go_loopw [4] (fun v wr=>∃(f:Nat) (m:List Bool),v=qV qj f/\f<=20/\x<=f/\yH (HB w wr B m)/\yH (T=m++(steps f x++del x (l.drop (j+1))))) (fun v _=>(intOf v).toNat)
     case atStart=>exact⟨f,m,rfl,o,za,q,ht⟩
     case round=>
      clear ht q o M;obtain⟨f,m,rfl,o,a3,q,ht⟩:=hrel;by_cases Y:x<f
      ·have G:=zL3 Y;have S:((f-1:Nat):Int)=(f:Int)-1:=za
       obtain⟨m2,g⟩:=zB (m++[yD,yD]);have p:kG m+2<=1000000:=by have h1:=HD.out;rw[ht.out,qPx]at h1;omega
       obtain⟨hq,s⟩:=yQ (zD1 m 3 2 (m':=m2) (by rw[qHf,g]) (d:=pk m) rfl (k:=(kG m:Int)) (V:=3) (N:=2) rfl rfl rfl za za p wr) g;clear p g;obtain⟨y,z,Z,f1⟩:=zAf q.out.blk;go_wp2_with fail;(with_reducible refine hq.out.mono ?_);rintro e w4 ⟨rfl,h⟩;clear y z Z f1 hq;obtain⟨y,z,Z,f1⟩:=zAf (q.out.mid h).blk;have H5:=zH (q.out.set (m':=m2) h);clear h;go_wp2;clear y z Z f1;go_roundw
       case rel=>exact⟨f-1,m2,by rw[S];try go_num,za,za,H5,zH (by rw[ht.out,G,<-s.out];simp)⟩
       case measure=>simp[intOf];omega
      ·obtain rfl:f=x:=za
       obtain⟨m2,g⟩:=zB (m++[yE]);have p:kG m+1<=1000000:=by have h1:=HD.out;rw[ht.out,qPx]at h1;omega
       obtain⟨hq,s⟩:=yQ (zD1 m 0 1 (m':=m2) (by rw[qB2,g]) (d:=pk m) rfl (k:=(kG m:Int)) (V:=0) (N:=1) rfl rfl rfl za za p wr) g;clear p g;obtain⟨y,z,Z,f1⟩:=zAf q.out.blk;go_wp2_with fail;(with_reducible refine hq.out.mono ?_);rintro e w4 ⟨rfl,h⟩;clear y z Z f1 hq;obtain⟨y,z,Z,f1⟩:=zAf (q.out.mid h).blk;have H5:=zH (q.out.set (m':=m2) h);clear h;go_wp2;clear y z Z f1;go_roundw
       case rel=>exact⟨j+1,f,m2,za,by go_num,rfl,za,H5,zH (by rw[ht.out,zK1,<-s.out];simp)⟩
       case measure=>simp[intOf];omega
  ·obtain rfl:j=n:=za
   have R:T=m:=by rw[ht.out,qSw (by rw[HN.out];omega),del,qQ3]
   subst R;obtain⟨y,z,Z,f1⟩:=zAf q.out.blk;go_wp2
   try simp only[Exit.inBlock,Exit.then]
   exact qP5 (zEk rfl _ _ B _ _ _ rfl rfl (Bt.zCy y) (Bt.zCx z)) rfl ⟨rfl,zCs q.out.below (qPq _)⟩
end Zr
namespace Us
open Front Bt Zr Tn
theorem zQ3 (B:Nat) (m:List Bool) (v:Nat) (hv:v<65536) (s:kG m<=900000) (w0 w:qy) (h:HB w0 w B m):
  yC yG 98 #[qV .u64 (v:Int),qY (qw ⟨B,0,qx⟩)] w fun e w'=>e=qp (qZ #[])/\HB w0 w' B (m++num v 16)/\w.heap.size<=w'.heap.size/\∀k,k≠B->k<w.heap.size->w'.heap[k]? =w.heap[k]? :=by
 obtain⟨r,b⟩:=zB (m++num v 16);have l:=zH (zD1 m v 16 b (d:=pk m) rfl (k:=(kG m:Int)) (V:=(v:Int)) (N:=16) rfl rfl rfl za za za w);rw[b];have f:=zH h;obtain⟨n,o,g,i⟩:=zAf h.blk;clear h b;go_enter func98,ntmps98;go_wp2_with fail;(with_reducible refine l.out.mono ?_);rintro e t ⟨rfl,a⟩;clear n o g i l;obtain⟨n,o,g,i⟩:=zAf (f.out.mid a).blk;obtain⟨q,c⟩:=yQ (f.out.set (m':=r) a) a;clear a;go_wp2;go_end0;exact⟨rfl,q.out,by simp[World.setCell];exact c.out.size,fun k j p=>(zAa j).trans ((zAa j).trans (c.out.block k p))⟩
def zBr (l:List Nat) (k:Nat):List Bool:=(yK k).map fun j=>decide (zCc l j≠0)
theorem zOb (l:List Nat) (k:Nat):kG (zBr l k)=k:=by simp[zBr]
theorem zUo (l:List Nat) (k:Nat):zBr l (k+1)=zBr l k++[yF (zCc l k≠0)]:=by simp[zBr,qQu]
theorem zK3 (l:List Nat) (k:Nat) (h:k<=16):val (zBr l k)<65536:=by
 have a:=zEy (zBr l k);rw[zOb]at a;have b:2^k<=2^16:=qR8 za h;omega
def zB3 (l:List Nat) (k:Nat):List Bool:=(yK k).flatMap fun j=>if zCc l j≠0 then num (zCc l j) 16 else[]
theorem zFc (l:List Nat) (k:Nat):zB3 l (k+1)=zB3 l k++if zCc l k≠0 then num (zCc l k) 16 else[]:=by simp[zB3,qQu]
theorem zIt (l:List Nat):∀k,kG (zB3 l k)<=16*k
 |0=>by simp[zB3]
 |k+1=>by
  have:=zIt l k;rw[zFc,qPx];split
  ·rw[zAc];omega
  ·simp;omega
def zC2 (l:List Nat):List Bool:=num (val (zBr l 16)) 16++zB3 l 16
theorem zTv (s:ByteArray) (hs:s.size<=1000000) (w:qy):
  yC yG 28 #[qW s] w fun e w'=>e=qp (zAe (zC2 (bl s)))/\yI w.heap.size w w':=by
 have a6:∀(fn:Fn) (first a4:Array qz) (w:qy),(Instr.makeFunc fn first a4).run yG w= .ok (.func fn first a4) w:=fun _ _ _ _=>rfl;obtain⟨B,hB⟩:=zB w.heap.size;obtain⟨W,hW⟩:=zB (w.alloc (qm #[qW ⟨#[]⟩,qV qj 0] 51));have R:yI B w W:=by rw[<-hW,<-hB];exact(yN _ _).alloc (qPq _) _
 have hX:W.heap[B]? =qw (qm #[qW (pk []),qV qj (kG ([]:List Bool):Int)] 51):=by
  rw[<-hW,<-hB];show(w.heap.push _)[w.heap.size]? =_;simp;rfl
 obtain⟨H0,HO⟩:=yQ (HB.mk hX R) (zXe s hs W);obtain⟨l,hl⟩:=zB (bl s);rw[hl]at HO⊢;clear R hX hl;rw[hB];go_enter func28,ntmps28;go_wp2_with fail;(with_reducible refine HO.out.mono ?_);rintro e w2 ⟨rfl,X⟩;clear hW HO;have H2:=zH (H0.out.mid X);obtain⟨cs,c⟩:=zB (cellsOf 256 (has l));have j:cs.size=256:=by rw[<-c,cellsOf_size]
 have h:(prog.info? TS).map (·.size)=qw 256:=zf
 have O:zeroCells147.size=256:=zf
 have G:=run_storeCells_new (P:=yG) w2 TS zeroCells147 cs (by rw[j];exact h) (by rw[O,j]) (by rw[<-c];exact zT0 l 256);obtain⟨W3,n⟩:=zB (w2.alloc (qm cs TS));have Y:yI w2.heap.size w2 W3:=by rw[<-n];exact(yN _ _).alloc (qPq _) _
 have t:Arr W3 w2.heap.size TS 256 (has l):=by
  show _=_;rw[<-n,c];show(w2.heap.push _)[w2.heap.size]? =_;simp
 have H3:=zH (H2.out.mid Y);have a3:B<w2.heap.size:=zAd H2.out.blk;rw[n]at G;obtain⟨C,hC⟩:=zB w2.heap.size;rw[hC]at G t a3;obtain⟨I,M,H⟩:=yR t c h;have u:∀k:Nat,k<16->∀w,yC yG 99 #[.agg cs,qV qj (k:Int)] w fun e w'=>e=qp (qV .u64 (zCc l k:Int))/\yI w.heap.size w w':=fun k hk w=>by rw[<-c];exact zJm l k hk w
 have p:=zH u;rw[c];clear Y t X H2 H0 n O h c u;go_wp2;clear G hC;go_loopw [5,12] (fun v i wr=>∃k:Nat,k<=16/\i=qV qj k/\v=qV .u64 (val (zBr l k):Nat)/\yH (HB w wr B [])/\yH (Arr wr C TS 256 (has l))) (fun _ i _=>16-(intOf i).toNat)
 case atStart=>exact⟨0,za,rfl,rfl,H3,I⟩
 case round=>
  clear H3 I;obtain⟨k,hk,rfl,rfl,hh,b⟩:=hrel;by_cases F:k<16
  ·have hv:=zK3 l k hk;have a:=zUo l k;have hA:=b.out;unfold Arr at hA;rw[M.out]at hA;have g:=run_loadVar_row (P:=yG) wr C TS TS cs (0,0) (.array 256 4) hA underlying147 rfl (by rw[j];exact H.out);clear hA;go_wp2
   rename_i hK
   refine zGu rfl rfl g (hK _ _ ?_);clear g hK;go_wp2_with fail;(with_reducible refine(p.out k F wr).mono ?_);rintro e w4 ⟨rfl,d⟩;have H4:=zH (hh.out.mid d);have z:=yP (Arr w4 C TS 256 (has l)) ((d.block C b.out.lt).trans b.out);obtain⟨r,hr⟩:=zB (zCc l k);rw[hr]at a⊢;clear d hr;obtain⟨q,y⟩:=zB (val (zBr l k));rcases qQy r with h0|h0
   ·subst h0;have o:=yP (val (zBr l (k+1))=q*2) (by rw[a,zEh,y];simp);rw[y]at hv⊢;clear a y;go_wp2;go_roundw
    case rel=>exact⟨k+1,za,by go_num,by rw[o.out];push_cast;rfl,H4,z⟩
    case measure=>simp only[intOf];omega
   ·have hd:decide (r≠0)=yD:=qP9 za;rw[hd]at a;have o:=yP (val (zBr l (k+1))=q*2+1) (by rw[a,zEh,y];simp);rw[y]at hv⊢;have ho:=or_one q za;have hne:((r:Int)!=0)=yD:=zq
    clear a y hd;go_wp2;go_roundw
    case rel=>exact⟨k+1,za,by go_num,by rw[o.out];push_cast;rfl,H4,z⟩
    case measure=>simp only[intOf];omega
  ·obtain rfl:k=16:=za
   have hv:=zK3 l 16 za;obtain⟨q,y⟩:=zB (val (zBr l 16));rw[y]at hv⊢;have HM:=zH (zQ3 B [] q hv zm w wr hh.out);rw[qQl]at HM;have x:=b.out.lt;have a2:=zH y;clear y;go_wp2_with fail;(with_reducible refine HM.out.mono ?_);rintro e w4 ⟨rfl,L,Z,S⟩;have H4:=zH L;have z:=yP (Arr w4 C TS 256 (has l)) ((S C za x).trans b.out);clear L S Z HM;go_wp2;go_loopw [27] (fun i wr=>∃k:Nat,k<=16/\i=qV qj k/\yH (HB w wr B (num q 16++zB3 l k))/\yH (Arr wr C TS 256 (has l))) (fun i _=>16-(intOf i).toNat)
   case atStart=>exact⟨0,za,rfl,by rw[show zB3 l 0=[]from rfl,qQ3];exact H4,z⟩
   case round=>
    clear H4 z;obtain⟨k,hk,rfl,hh,b⟩:=hrel;by_cases F:k<16
    ·have a:=zFc l k;have a5:=zIt l k;have hA:=b.out;unfold Arr at hA;rw[M.out]at hA;have g:=run_loadVar_row (P:=yG) wr C TS TS cs (0,0) (.array 256 4) hA underlying147 rfl (by rw[j];exact H.out);clear hA;go_wp2
     rename_i hK
     refine zGu rfl rfl g (hK _ _ ?_);clear g hK;go_wp2_with fail;(with_reducible refine(p.out k F wr).mono ?_);rintro e w4 ⟨rfl,d⟩;have h4:=hh.out.mid d;have f:Arr w4 C TS 256 (has l):=(d.block C b.out.lt).trans b.out;have V:=zM9 l k 16 za;obtain⟨r,hr⟩:=zB (zCc l k);rw[show val (zCo l k 16)=r from hr]at V;rw[hr]at a⊢;clear d hr;rcases qQy r with h0|h0
     ·subst h0;rw[qPt zm,qQ3]at a;obtain⟨HS,H4,z⟩:=yR a h4 f;clear a h4 f;go_wp2;go_roundw
      case rel=>exact⟨k+1,za,by go_num,by rw[HS.out];exact H4,z⟩
      case measure=>simp only[intOf];omega
     ·rw[qPr za]at a;have HM:=zH (zQ3 B (num q 16++zB3 l k) r V (by rw[qPx,zAc];omega) w w4 h4);rw[qQw,<-a]at HM;have z:=zH f;have x:=f.lt;have hne:((r:Int)!=0)=yD:=zq
      clear a h4 f;go_wp2_with fail;(with_reducible refine HM.out.mono ?_);rintro e w5 ⟨rfl,N,a0,K⟩;have H5:=zH N;have A5:=yP (Arr w5 C TS 256 (has l)) ((K C za x).trans z.out);clear N K a0 HM;go_wp2;go_roundw
      case rel=>exact⟨k+1,za,by go_num,H5,A5⟩
      case measure=>simp only[intOf];omega
    ·obtain rfl:k=16:=za
     obtain⟨m,hm⟩:=zB (num q 16++zB3 l 16);rw[hm]at hh;have HM:=zH hm;obtain⟨y0,y1,f0,f1⟩:=zAf hh.out.blk;clear hm;go_wp2
     try simp only[Exit.inBlock,Exit.then]
     have hF:=hh.out.set (m':=m) (yN _ _);have a1:zC2 l=m:=by unfold zC2;rw[a2.out];exact HM.out
     rw[a1];exact qP5 (results_cell_row rfl _ _ B 51 _ (0,0) _ rfl hF.blk underlying51 rfl zf) rfl ⟨rfl,hF.below⟩
end Us
namespace Zr
open Bt
variable {s:ByteArray} {i:Nat}
def At (s:ByteArray) (i:Nat) (l:List Bool):Prop:=i+kG l<=8*s.size/\take s i (kG l)=l
theorem zKy (s:ByteArray) (i n k:Nat) (h:k<n):(take s i n)[k]? =qw (zBm s (i+k)):=by
 unfold take;rw[qP2,qSe h];rfl
theorem take_add (s:ByteArray) (i n m:Nat):take s i (n+m)=take s i n++take s (i+n) m:=by
 induction m with
 |zero=>simp[take]
 |succ m ih=>rw[<-qR2,zEz,ih,zEz,qQw,qR2]
theorem At.app {l m:List Bool}:At s i (l++m)↔At s i l/\At s (i+kG l) m:=by
 unfold At;rw[qPx,take_add];constructor
 ·rintro⟨b,c⟩;have a:=List.append_inj c (by rw[take_length]);exact⟨⟨za,a.1⟩,za,a.2⟩
 ·rintro⟨⟨_,b⟩,c,a⟩;exact⟨za,by rw[b,a]⟩
theorem At.val {n v:Nat} (h:At s i (num v n)) (hv:v<2^n):Bt.val (take s i n)=v:=by
 have a:=h.2;rw[zAc]at a;rw[a,zT,qRg hv]
theorem At.one {b:Bool} (h:At s i [b]):Bt.val (take s i 1)=b.toNat:=by
 have a:=h.2;rw[show[b].length=1 from rfl]at a;rw[a];simp[Bt.val]
def Rdr (w:qy) (R:Nat) (s:ByteArray) (i:Nat):Prop:=w.heap[R]? =qw (qm #[qW s,qV qj (i:Int)] 194)
structure Ch (R:Nat) (w w':qy):Prop where
 below:yI R w w'
 old:∀k,k≠R->w'.heap[k]? =w.heap[k]?
theorem Ch.refl (R:Nat) (w:qy):Ch R w w:=⟨yN _ _,fun _ _=>rfl⟩
theorem Ch.trans {R:Nat} {w w' a:qy} (h:Ch R w w') (g:Ch R w' a):Ch R w a:=⟨h.below.trans g.below,fun k b=>(g.old k b).trans (h.old k b)⟩
theorem zHq (R:Nat) (s:ByteArray) (i n:Nat) (g:n<=62) (hi:i+n<=8*s.size) (o:s.size<=100000000) (w:qy) (h:Rdr w R s i):
  yC yG 107 #[qY (qw ⟨R,0,qx⟩),qV qj (n:Int)] w fun e w'=>e=qp (qV qj (val (take s i n):Nat))/\Rdr w' R s (i+n)/\Ch R w w':=by
 have d:=zH (fun W=>(zB7 s i n za hi za W).mono (fun _ _ h=>(⟨h.1,h.2.symm⟩:_/\_)));have hv:=zEy (take s i n);rw[take_length]at hv;have b:(2:Nat)^n<=2^62:=qR8 za g;obtain⟨v,a⟩:=zB (val (take s i n));rw[a]at hv d⊢;have j:v<4611686018427387904:=za
 obtain⟨t,u,l,m⟩:=zAf h;have H:=zH h;have q:IntKind.i64.wrap (v:Int)=(v:Int):=qQb _ ⟨za,za⟩;have r:IntKind.i64.wrap ((i:Int)+(n:Int))=(i:Int)+(n:Int):=qQb _ ⟨za,za⟩;clear h a hv b;go_enter func107,ntmps107;go_wp2;go_quiet ((go_at_call 32;exact Calls.quiet_of_same (d.out _)));go_wp2;go_ret;refine⟨rfl,?_,?_⟩
 ·have:=setBlock (x:=qV qj ((i:Int)+(n:Int))) 1 (show(w.drewN nq).heap[R]? =_ from H.out);unfold Rdr;rw[this];simp
 ·refine⟨?_,fun k f=>zAa f⟩;have c:yI R w (w.drewN nq):=(yN R w).trans ⟨rfl,rfl,rfl,qPq _,fun _ _=>rfl⟩;exact c.setCell (p:=⟨R,1,qx⟩) (qPq _) _
theorem zC9 (R:Nat) (n:Nat) (a:1<=n) (b:n<=20) (w:qy):
  yC yG 106 #[qY (qw ⟨R,0,qx⟩),qV qj (n:Int)] w fun e w'=>e=qp (qV qj (n:Int))/\w'=w:=by
 have HM:=zH (zJw n a b w);go_enter func106,ntmps106;go_wp2_with fail;(with_reducible refine HM.out.mono ?_);rintro e w2 ⟨rfl,rfl⟩;go_wp2;go_ret;exact⟨rfl,rfl⟩
theorem zZn (R:Nat) (s:ByteArray) (i a x:Nat) (Z:s.size<=100000000) (W:1<=a) (X:a<=20) (g1:1<=x) (g2:x<=20) (w:qy) (h:Rdr w R s i) (ha:At s i (steps a x)):
  yC yG 108 #[qY (qw ⟨R,0,qx⟩),qV qj (a:Int)] w fun e w'=>e=qp (qV qj (x:Int))/\Rdr w' R s (i+kG (steps a x))/\Ch R w w':=by
 obtain⟨J,z⟩:=zB (i+kG (steps a x));rw[z];obtain⟨H0,A0,J0⟩:=yR h ha z;clear h ha z;go_enter func108,ntmps108;go_wp2;go_loopw [1] (fun v wr=>∃(a i:Nat),v=qV qj a/\1<=a/\a<=20/\yH (Rdr wr R s i)/\yH (At s i (steps a x))/\yH (i+kG (steps a x)=J)/\yH (Ch R w wr)) (fun v _=>(intOf v-x).natAbs)
 case atStart=>exact⟨a,i,rfl,W,X,H0,A0,J0,zH (Ch.refl _ _)⟩
 case round=>
  clear H0 A0 J0 W X;obtain⟨a,i,rfl,W,X,hr,hA,z,F⟩:=hrel;by_cases K:a=x
  ·subst K;have d:=hA.out;rw[zK1]at d;have l:=z.out;rw[zK1]at l;have q:=zH (zHq R s i 1 za d.1 Z wr hr.out);rw[d.one]at q;rw[show((1:Nat):Int)=1 from rfl,show((false.toNat:Nat):Int)=0 from rfl]at q;go_wp2_with fail;(with_reducible refine q.out.mono ?_);rintro e w2 ⟨rfl,f,j⟩;obtain⟨M,m,I⟩:=yR f (F.out.trans j) l;clear f j l d;go_wp2;go_ret;exact⟨rfl,by rw[<-I.out];exact M.out,m.out⟩
  ·obtain⟨b,y,k,g⟩:∃(b:Bool) (y:Nat),(y:Int)=(a:Int)+1-2*(b.toNat:Nat)/\steps a x=[yD,b]++steps y x/\1<=y/\y<=20/\((y:Int)-x).natAbs<((a:Int)-x).natAbs:=by
    rcases qP8 a x with G|a4
    ·exact⟨yE,a+1,zm,zP1 G,za,za,za⟩
    ·exact⟨yD,a-1,zq,zL3 za,za,za,za⟩
   obtain⟨g,o,t,n⟩:=g;have d:=hA.out;rw[g,show[yD,b]=[yD]++[b]from rfl,qQw]at d;obtain⟨S,p⟩:=At.app.1 d;obtain⟨V,P⟩:=At.app.1 p;rw[show[yD].length=1 from rfl]at V P;rw[show[b].length=1 from rfl]at P;have q:=zH (zHq R s i 1 za S.1 Z wr hr.out);rw[S.one]at q;rw[show((1:Nat):Int)=1 from rfl,show((true.toNat:Nat):Int)=1 from rfl]at q;obtain⟨A2,A3,O,H⟩:=yS V P g n;clear d S p V P g n;go_wp2_with fail;(with_reducible refine q.out.mono ?_);clear q;rintro e w2 ⟨rfl,f,j⟩;have q:=zH (zHq R s (i+1) 1 za A2.out.1 Z w2 f);rw[A2.out.one,show((1:Nat):Int)=1 from rfl]at q;have m:=zH (F.out.trans j);clear f j;obtain⟨c,Y⟩:∃c:Int,((b.toNat:Nat):Int)=c:=⟨_,rfl⟩;have a0:0<=c/\c<=1:=by rw[<-Y];cases b<;>simp
   rw[Y]at q k;clear Y;go_wp2_with fail;(with_reducible refine q.out.mono ?_);clear q;rintro e w3 ⟨rfl,u,B⟩;obtain⟨L,N,HF⟩:=yR u (m.out.trans B) (zC9 R y o t w3);rw[k]at HF;have r:=zH k;clear u B k;go_wp2_with fail;(with_reducible refine HF.out.mono ?_);rintro e w4 ⟨rfl,rfl⟩;go_wp2;go_roundw
   case rel=>exact⟨y,i+1+1,by rw[r.out],o,t,L,A3,zH (by rw[<-z.out,O.out,qPx];simp;omega),N⟩
   case measure=>simp only[intOf];rw[<-r.out];exact H.out
end Zr
namespace Zr
open Front Bt
variable {w w':qy} {n c B i:Nat} {p:Option yB} {l:List Nat} {s:ByteArray}
theorem zXt (p q r:yB) (w:qy):
  CallsD yG 105 #[qY (qw p),qY (qw q),qY (qw r)] .returning w fun e u' w'=>e=qp (qZ #[])/\u'= .returning/\w'=w:=by
 refine callsD_of_wpS func105 rfl fun a d b=> ?_;apply wpS_seq;apply wpS_region;simp[wpOpsS,go_sem,recoverD,b,ntmps105,Exit.thenS];refine wpS_of_wp ?_;go_wp2;cases a;simp_all [bodyPostS,results,results105]
structure TK (w:qy) (B:Nat) (p:Option yB) (n c:Nat) (l:List Nat) (s:ByteArray) (i:Nat):Prop where
 b0:Boxed w B 23 (qX p n c)
 b1:Boxed w (B+1) 3 (qV qj 0)
 b2:Boxed w (B+2) 26 (qV qj 0)
 rd:Rdr w (B+3) s i
 own:yg w (B+4) 3 p n c (l.map ival)
 size:B+4<=w.heap.size
theorem zJs {D:Nat} {e:yA} {a:Option yB} {xs:List qz} (h:yg w D e a n c xs) (q:∀k,D<=k->k<w.heap.size->w'.heap[k]? =w.heap[k]?):yg w' D e a n c xs:=by
 obtain⟨o,j⟩:=h;refine⟨o,?_⟩;rcases j with j|⟨g,f,d,hv,b,m,r⟩
 ·exact .inl j
 ·exact .inr ⟨g,f,d,hv,b,(q g b (zAd m)).trans m,r⟩
theorem TK.ch {b:Nat} (h:TK w B p n c l s i) (a:Ch (B+3) w w') (d:Rdr w' (B+3) s b):TK w' B p n c l s b:=
 ⟨(a.old B za).trans h.b0,(a.old (B+1) za).trans h.b1,(a.old (B+2) za).trans h.b2,d,zJs h.own (fun k e _=>a.old k za),qP4 h.size a.below.size⟩
theorem TK.push {m:qy} {f:Option yB} {d c':Nat} {l':List Nat} (h:TK w B p n c l s i) (g:yI w.heap.size w m) (q:yg w' (B+4) 3 f d c' (l'.map ival)) (j:m.grownBy w' (Value.ownBlock (qX p n c))):
  TK (w'.setCell ⟨B,0,qx⟩ (qX f d c')) B f d c' l' s i/\Boxed w' B 23 (qX p n c)/\yI B w (w'.setCell ⟨B,0,qx⟩ (qX f d c')):=by
 have u:=h.size;have t:=g.size;have b:=h.own.block;have a:∀k,k<B+4->w'.heap[k]? =w.heap[k]? :=fun k o=>(j.block k za (fun e=>by have:=b k e.symm;omega)).trans (g.block k za);have r:m.heap.size<=w'.heap.size:=j.size;refine⟨⟨?_,?_,?_,?_,?_,by simp[World.setCell];omega⟩,(a B za).trans h.b0,?_⟩
 ·exact Boxed.set (qX f d c') ((a B za).trans h.b0)
 ·exact(zAa za).trans ((a _ za).trans h.b1)
 ·exact(zAa za).trans ((a _ za).trans h.b2)
 ·exact(zAa za).trans ((a _ za).trans h.rd)
 ·exact zD4 q za _
 ·have:yI B w w':=(g.mono za).trans (Kit.zAq j za (fun k o=>by have:=b k o;omega));exact this.setCell (p:=⟨B,0,qx⟩) (qPq _) _
theorem zI7 (s:ByteArray) (at_:Nat) (l:List Nat) (n:Nat) (w:qy) (hn:kG l=n) (h2:2<=n) (ad:n<=258) (hs:s.size<=100000000) (hl:∀x∈l,1<=x/\x<=20) (z:At s at_ (delta l)):
  yC yG 35 #[qW s,qV qj (at_:Int),qV qj (n:Int)] w fun e w'=>∃a' c',e=qp (qZ #[qX a' n c',qV qj ((at_+kG (delta l):Nat):Int),qV qj 0])/\yg w' w.heap.size 3 a' n c' (l.map ival)/\yI w.heap.size w w':=by
 have ag:∀(fn:Fn) (first ac:Array qz) (w:qy),(Instr.makeFunc fn first ac).run yG w= .ok (.func fn first ac) w:=fun _ _ _ _=>rfl;obtain⟨B,hB⟩:=zB w.heap.size;have ae:=zH hB;obtain⟨W1,G⟩:=zB (w.alloc (qm #[qX qx 0 0] 23));obtain⟨W2,u⟩:=zB (W1.alloc (qm #[qV qj 0] 3));obtain⟨W3,H⟩:=zB (W2.alloc (qm #[qV qj 0] 26));obtain⟨y,K⟩:=zB (W3.alloc (qm #[qW s,qV qj (at_:Int)] 194));have z1:W1.heap.size=B+1:=by rw[<-G,zA,hB]
 have z2:W2.heap.size=B+2:=by rw[<-u,zA,z1]
 have z3:W3.heap.size=B+3:=by rw[<-H,zA,z2]
 have z4:y.heap.size=B+4:=by rw[<-K,zA,z3]
 have b1:yI B w W1:=by rw[<-G,<-hB];exact(yN _ _).alloc (qPq _) _
 have b2:yI (B+1) W1 W2:=by rw[<-u,<-z1];exact(yN _ _).alloc (qPq _) _
 have b3:yI (B+2) W2 W3:=by rw[<-H,<-z2];exact(yN _ _).alloc (qPq _) _
 have b4:yI (B+3) W3 y:=by rw[<-K,<-z3];exact(yN _ _).alloc (qPq _) _
 have new:∀(W:qy) (o:Obj),(W.alloc o).heap[W.heap.size]? =qw o:=fun W o=>by show(W.heap.push o)[W.heap.size]? =_;simp
 have c0:Boxed y B 23 (qX qx 0 0):=by
  show y.heap[B]? =_;rw[b4.block B za,b3.block B za,b2.block B za,<-G,<-hB];exact new _ _
 have c1:Boxed y (B+1) 3 (qV qj 0):=by
  show y.heap[B+1]? =_;rw[b4.block _ za,b3.block _ za,<-u,<-z1];exact new _ _
 have c2:Boxed y (B+2) 26 (qV qj 0):=by
  show y.heap[B+2]? =_;rw[b4.block _ za,<-H,<-z2];exact new _ _
 have c3:Rdr y (B+3) s at_:=by
  show y.heap[B+3]? =_;rw[<-K,<-z3];exact new _ _
 have K0:=zH (TK.mk (l:=[]) c0 c1 c2 c3 (Kit.Own.start _ _ _) za);have X:=yP (yI B w y) (((b1.trans (b2.mono za)).trans (b3.mono za)).trans (b4.mono za));have HM:=zH (zQ4 n h2 ad W3);have L:0<kG l:=za
 obtain⟨x0,N⟩:=zB (l.headD 0);have g:1<=x0/\x0<=20:=by
  rw[<-N,List.headD_eq_head?_getD,List.head?_eq_getElem?,qPu L];exact hl _ (qQ L)
 obtain⟨J,hJ⟩:=zB (at_+kG (delta l));rw[hJ];have m:=hJ;unfold delta at z m;rw[N]at z m;obtain⟨t,d⟩:=At.app.1 z;rw[zAc]at d;rw[qPx,zAc]at m;have HQ:=zH (zHq (B+3) s at_ 5 za (by have:=t.1;rwa[zAc]at this) hs y c3);rw[t.val (show x0<2^5 by omega),show((5:Nat):Int)=5 from rfl]at HQ;obtain⟨HA,HJ,HL,HN⟩:=yS d m hl hn;have af:(at_:Int)<=8*(s.size:Int):=by have:=t.1;omega
 clear b1 b2 b3 b4 c0 c1 c2 c3 new z t d hJ m hl hn N L;rw[hB];go_enter_defers func35,ntmps35;go_wp2_with fail;(with_reducible refine HM.out.mono ?_);rintro e w3 ⟨rfl,rfl⟩;go_wp2_with fail;clear G u H K z1 z2 z3 z4 hB;(with_reducible refine HQ.out.mono ?_);rintro e w5 ⟨rfl,V,P⟩;obtain⟨K5,a5,HF⟩:=yR (K0.out.ch P V) (X.out.trans (P.below.mono za)) (zC9 (B+3) x0 g.1 g.2 w5);clear V P;go_wp2_with fail;(with_reducible refine HF.out.mono ?_);rintro e w6 ⟨rfl,rfl⟩;go_wp2;clear K0 X HQ HF HM;go_loopw [28,10] (fun i v wr=>∃(j b q:Nat) (p:Option yB) (c:Nat),j<=n/\i=qV qj j/\v=qV qj b/\1<=b/\b<=20/\yH (TK wr B p j c (l.take j) s q)/\yH (At s q (del b (l.drop j)))/\yH (q+kG (del b (l.drop j))=J)/\yH (yI B w wr)) (fun i _ _=>n-(intOf i).toNat)
 case atStart=>exact⟨0,x0,at_+5,qx,0,za,rfl,rfl,g.1,g.2,K5,by rw[qR3];exact HA,by rw[qR3];exact zH (by have:=HJ.out;omega),a5⟩
 case round=>
  clear K5 HA HJ a5;obtain⟨j,b,q,p,c,hj,rfl,rfl,h1,a9,hk,a3,hJ,hb⟩:=hrel;by_cases a8:j<n
  ·have M:j<kG l:=by rw[HN.out];exact a8
   obtain⟨x,hx⟩:=zB (l[j]);have I:1<=x/\x<=20:=by rw[<-hx];exact HL.out _ (qQ M)
   have hd:=zRn l j b M;rw[hx]at hd;have z:=a3.out;rw[hd]at z;obtain⟨a1,a2⟩:=At.app.1 z;have Z:=hJ.out;rw[hd,qPx]at Z;have a0:l.take (j+1)=l.take j++[x]:=by rw[qQo M,hx]
   obtain⟨HQ,A2⟩:=yQ (zZn (B+3) s q b x hs h1 a9 I.1 I.2 wr hk.out.rd a1) a2;have J2:=yP (q+kG (steps b x)+kG (del x (l.drop (j+1)))=J) (by omega);have a7:=zH a0;clear hd z a1 a2 Z a0 hx a3 hJ;go_wp2_with fail;(with_reducible refine HQ.out.mono ?_);clear HQ;rintro e w2 ⟨rfl,Y,R⟩;have a:=hk.out.ch R Y;have aa:=zH (hb.out.trans (R.below.mono za));clear Y R;have d:yI w2.heap.size w2 (w2.alloc (qm #[qV qj (x:Int)] 3)):=(yN _ _).alloc (qPq _) _;have hz:=a.size;obtain⟨p3,c3,w3,ab,O,a4⟩:=Kit.Own.app (ty:=23) (w:=w2.alloc (qm #[qV qj (x:Int)] 3)) zNn (a.own.alloc _) (qw ⟨w2.heap.size,0,qx⟩) 1 1 [ival x] (Kit.zAs w2 _ 3) rfl (fun h=>by cases h) (zDr [x]) (by unfold maxLen;omega) za zq;rw[show(l.take j).map ival++[ival x]=(l.take (j+1)).map ival by rw[a7.out,qQd];rfl]at O;have r:=a.push d O a4;have y0:=a.b0.cell;have y1:=r.2.1.cell;have y2:=r.2.1.frozen;have y3:=a.b0.frozen;obtain⟨K3,a6⟩:=yQ r.1 (aa.out.trans r.2.2);clear a d O a4 r;go_wp2_with (at_builtin;refine Kit.zAr rfl (.tmp 33) (.tmp 35) 23 rfl rfl rfl ab ?_);go_roundw
   case rel=>exact⟨j+1,x,q+kG (steps b x),p3,c3,za,by go_num,rfl,I.1,I.2,K3,A2,J2,a6⟩
   case measure=>simp[intOf];omega
  ·obtain rfl:j=n:=za
   have hq:q=J:=by
    have:=hJ.out;rw[qSw (by rw[HN.out];omega),del]at this;simpa using this
   subst hq;have S:l.take j=l:=qQg (by rw[HN.out];omega);have a:=hk.out;rw[S]at a;have y0:=a.b0.cell;have g0:=a.b0.frozen;have y1:=a.b1.cell;have g1:=a.b1.frozen;have y2:=a.b2.cell;have g2:=a.b2.frozen;obtain⟨y3,y4,g3,g4⟩:=zAf a.rd;have K2:=zH a;clear a S;go_wp2;go_region;obtain⟨F,hF⟩:=zB ((((wr.setCell ⟨B,0,qx⟩ (qX p j c)).setCell ⟨B+1,0,qx⟩ (qV qj (q:Int))).setCell ⟨B+2,0,qx⟩ (qV qj 0)).drew);have q0:Boxed F B 23 (qX p j c):=by
    rw[<-hF];exact(zAa za).trans ((zAa za).trans (K2.out.b0.set (qX p j c)))
   have q1:Boxed F (B+1) 3 (qV qj (q:Int)):=by
    rw[<-hF];exact(zAa za).trans (Boxed.set (qV qj (q:Int)) ((zAa za).trans K2.out.b1))
   have q2:Boxed F (B+2) 26 (qV qj 0):=by
    rw[<-hF];exact Boxed.set (qV qj 0) ((zAa za).trans ((zAa za).trans K2.out.b2))
   have q3:yg F (B+4) 3 p j c (l.map ival):=by
    rw[<-hF];exact zJs K2.out.own (fun k h1 h2=>(zAa za).trans ((zAa za).trans (zAa za)))
   have q4:yI B w F:=by
    rw[<-hF];exact(((hb.out.setCell (p:=⟨B,0,qx⟩) (qPq _) _).setCell (p:=⟨B+1,0,qx⟩) zm _).setCell (p:=⟨B+2,0,qx⟩) zm _).drew
   rw[hF];have r0:=q0.cell;have r1:=q1.cell;have r2:=q2.cell;obtain⟨Q3,Q4⟩:=yQ (q3.base (B':=B) za) q4;clear y0 g0 y1 g1 y2 g2 y3 y4 g3 g4 K2 hF q0 q1 q2 q3 q4;go_wp2;refine leaves_cons (f:=105) (args:= #[qY (qw ⟨B,0,qx⟩),qY (qw ⟨B+1,0,qx⟩),qY (qw ⟨B+2,0,qx⟩)]) zm (by simp[go_sem]) ?_;refine(zXt ⟨B,0,qx⟩ ⟨B+1,0,qx⟩ ⟨B+2,0,qx⟩ F).mono ?_;rintro e u' ah ⟨rfl,rfl,rfl⟩;simp[Leaves,settle,results,results35,go_sem,r0,r1,r2];exact⟨p,c,⟨rfl,rfl⟩,Q3.out,Q4.out⟩
end Zr
end Go.Proofs.YtppnakkaljbmbaaGreatDoor
