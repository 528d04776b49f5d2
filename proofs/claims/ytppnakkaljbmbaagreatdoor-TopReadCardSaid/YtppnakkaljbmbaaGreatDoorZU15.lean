/- Steps of a proof; no condition beyond what each states. -/
import Derived.Test.YtppnakkaljbmbaaGreatDoorZU14
set_option linter.unusedVariables false
set_option linter.unusedSimpArgs false
set_option maxRecDepth 100000
set_option maxHeartbeats 8000000
namespace Go.Proofs.YtppnakkaljbmbaaGreatDoor
namespace Crc
def poly:BitVec 32:=79764919#32
def top:BitVec 32:=2147483648#32
@[irreducible] def U (x:BitVec 32):Int:=(x.toNat:Int)
theorem zN0 (x:BitVec 32):0<=U x:=by unfold U;omega
theorem zN1 (x:BitVec 32):U x<4294967296:=by unfold U;have:=x.isLt;omega
theorem qHo {a b:BitVec 32} (h:U a=U b):a=b:=by
 unfold U at h;exact BitVec.eq_of_toNat_eq (by omega)
theorem qHp (a b:BitVec 32):(U a==U b)=(a==b):=by
 rw[Bool.eq_iff_iff,beq_iff_eq,beq_iff_eq]
 exact⟨qHo,fun h=>by rw[h]⟩
theorem zPr (a b:BitVec 32):bits .xor .u32 (U a) (U b)=U (a^^^b):=by
 unfold U;rw[u32_xor_nat _ _ a.isLt b.isLt,BitVec.toNat_xor]
theorem qH1 (a b:BitVec 32):bits .or .u32 (U a) (U b)=U (a|||b):=by
 unfold U;rw[u32_or_nat _ _ a.isLt b.isLt,BitVec.toNat_or]
theorem qHq (a b:BitVec 32):bits .and .u32 (U a) (U b)=U (a&&&b):=by
 unfold U;rw[u32_and_nat _ _ a.isLt b.isLt,BitVec.toNat_and]
theorem zVw (a:BitVec 32):U a*(2:Int)%(4294967296:Int)=U (a<<<1):=by
 unfold U;rw[BitVec.toNat_shiftLeft,Nat.shiftLeft_eq];simp
theorem qGn (a:BitVec 32):U a*(256:Int)%(4294967296:Int)=U (a<<<8):=by
 unfold U;rw[BitVec.toNat_shiftLeft,Nat.shiftLeft_eq];simp
theorem qEg (a:BitVec 32):U a/(2147483648:Int)=U (a>>>31):=by
 unfold U;rw[BitVec.toNat_ushiftRight,Nat.shiftRight_eq_div_pow];simp
theorem zTt (a:BitVec 32):a.msb=decide (2147483648<=a.toNat):=by
 rw[BitVec.msb_eq_decide]
def rot (a:BitVec 32):BitVec 32:=(a<<<1)|||(a>>>31)
def qHx (a:BitVec 32):BitVec 32:=(a>>>1)|||(a<<<31)
theorem qGo:(79764919:Int)=U poly:=by unfold U;rfl
theorem qGp:(4294967295:Int)=U (BitVec.allOnes 32):=by unfold U;rfl
def st (c:BitVec 32):BitVec 32:=if c.msb then(c<<<1)^^^poly else c<<<1
def it:Nat->BitVec 32->BitVec 32
 |0,c=>c
 |n+1,c=>st (it n c)
theorem qE2 (a b:BitVec 32):st (a^^^b)=st a^^^st b:=by
 unfold st
 rw[BitVec.msb_xor,BitVec.shiftLeft_xor_distrib]
 cases a.msb<;>cases b.msb<;>simp
 ·ac_rfl
 ·ac_rfl
 ·rw[show a<<<1^^^poly^^^(b<<<1^^^poly)=(a<<<1^^^b<<<1)^^^(poly^^^poly)from by ac_rfl,BitVec.xor_self,BitVec.xor_zero]
theorem zRa (n:Nat) (a b:BitVec 32):it n (a^^^b)=it n a^^^it n b:=by
 induction n with
 |zero=>rfl
 |succ n ih=>rw[it,it,it,ih,qE2]
def bit (b:Bool):BitVec 32:=if b then top else 0#32
def up (c:BitVec 32) (b:Bool):BitVec 32:=st (c^^^bit b)
theorem qE1 (a:BitVec 32) (h:a.msb=true):bits .xor .u32 (U a*(2:Int)%(4294967296:Int)) (79764919:Int)=U (st a):=by
 unfold st;rw[if_pos h,zVw,qGo,zPr]
theorem qG2 (a:BitVec 32) (h:a.msb=false):U a*(2:Int)%(4294967296:Int)=U (st a):=by
 unfold st;rw[if_neg (by rw[h];decide),zVw]
theorem zNz (a:BitVec 32):(bits .and .u32 (U a) (2147483648:Int)==0)= !a.msb:=by
 have h:(2147483648:Int)=U top:=by unfold U;rfl
 have h0:(0:Int)=U 0#32:=by unfold U;rfl
 rw[h,qHq,h0,qHp,zTt]
 have e:(a&&&top).toNat=a.toNat/2^31%2*2^31:=by rw[BitVec.toNat_and];exact nat_bit 31 a.toNat
 have hl:=a.isLt
 rw[Bool.eq_iff_iff,beq_iff_eq]
 constructor
 ·intro h
  rw[h]at e
  have e2:a.toNat/2^31%2*2^31=0:=by rw[<-e];rfl
  simp;omega
 ·intro h
  apply BitVec.eq_of_toNat_eq
  rw[e]
  simp at h⊢
  omega
theorem qEh (i:Nat) (h:i<256):(i:Int)*(16777216:Int)=U (BitVec.ofNat 32 i<<<24):=by
 unfold U
 rw[BitVec.toNat_shiftLeft,BitVec.toNat_ofNat,Nat.mod_eq_of_lt (a:=i) (by omega),Nat.shiftLeft_eq,Nat.mod_eq_of_lt (by omega)]
 omega
def wide (x:BitVec 8):BitVec 32:=(x.setWidth 32)<<<24
def tk (c:BitVec 32) (x:BitVec 8):BitVec 32:=it 8 (c^^^wide x)
theorem qFv (n:Nat):∀(c:BitVec 32),c.toNat*2^n<4294967296->it n c=c<<<n:=by
 induction n with
 |zero=>intro c _;simp[it]
 |succ n ih=>
  intro c hc
  have h2:(2:Nat)^(n+1)=2*2^n:=by rw[Nat.pow_succ,Nat.mul_comm]
  rw[h2]at hc
  have hc':c.toNat*2^n*2<4294967296:=by rw[Nat.mul_assoc,Nat.mul_comm (2^n)];exact hc
  rw[it,ih c (by omega)]
  unfold st
  have hm:(c<<<n).msb=false:=by
   rw[zTt,BitVec.toNat_shiftLeft,Nat.shiftLeft_eq,Nat.mod_eq_of_lt (by omega)]
   simp;omega
  rw[hm]
  simp only[Bool.false_eq_true,if_false]
  rw[<-BitVec.shiftLeft_add]
def tab (i:Nat):BitVec 32:=it 8 (BitVec.ofNat 32 i<<<24)
theorem qEq (c:BitVec 32) (x:BitVec 8):tk c x=(c<<<8)^^^tab ((c>>>24).toNat^^^x.toNat):=by
 have hb:BitVec.ofNat 32 ((c>>>24).toNat^^^x.toNat)=(c>>>24)^^^x.setWidth 32:=by
  apply BitVec.eq_of_toNat_eq
  rw[BitVec.toNat_xor,BitVec.toNat_ofNat,BitVec.toNat_setWidth,Nat.mod_eq_of_lt (a:=x.toNat) (by have:=x.isLt;omega)]
  exact Nat.mod_eq_of_lt (Nat.xor_lt_two_pow (n:=32) (c>>>24).isLt (by have:=x.isLt;omega))
 unfold tk tab
 rw[hb,BitVec.shiftLeft_xor_distrib,zRa,zRa,wide,<-BitVec.xor_assoc]
 congr 1
 have hsplit:c=((c>>>24)<<<24)^^^(c&&&16777215#32):=by
  apply BitVec.eq_of_getLsbD_eq
  intro i hi
  simp only[BitVec.getLsbD_xor,BitVec.getLsbD_shiftLeft,BitVec.getLsbD_ushiftRight,BitVec.getLsbD_and]
  by_cases h:i<24
  ·have hlow:(16777215#32).getLsbD i=true:=by
    have:∀j:Fin 24,(16777215#32).getLsbD j.val=true:=by decide
    exact this ⟨i,h⟩
   simp[h,hlow]
  ·have hlow:(16777215#32).getLsbD i=false:=by
    have:∀j:Fin 32,¬j.val<24->(16777215#32).getLsbD j.val=false:=by decide
    exact this ⟨i,hi⟩ h
   have:24+(i-24)=i:=by omega
   rw[hlow,this]
   simp[h,hi]
 have hlow:it 8 (c&&&16777215#32)=c<<<8:=by
  rw[qFv 8]
  ·apply BitVec.eq_of_getLsbD_eq
   intro i hi
   simp only[BitVec.getLsbD_shiftLeft,BitVec.getLsbD_and]
   by_cases h:i<8
   ·simp[h]
   ·have:∀j:Fin 24,(16777215#32).getLsbD j.val=true:=by decide
    have h1:=this ⟨i-8,by omega⟩
    simp only at h1
    rw[h1];simp
  ·have h1:(c&&&16777215#32).toNat<2^24:=by
    rw[BitVec.toNat_and]
    exact Nat.and_lt_two_pow _ (by decide)
   omega
 conv=>lhs;rw[hsplit,zRa,hlow]
 rw[BitVec.xor_comm]
theorem qHn (a:BitVec 32):bits .xor .u32 IntKind.u32.max (U a)=U (~~~ a):=by
 rw[show IntKind.u32.max=U (BitVec.allOnes 32)from qGp,zPr,BitVec.allOnes_xor]
@[irreducible] def look (X:BitVec 32) (x:UInt8):Nat:=(X>>>24).toNat^^^x.toNat
theorem qDb (X:BitVec 32) (x:UInt8):look X x<256:=by
 unfold look
 refine Nat.xor_lt_two_pow (n:=8) ?_ ?_
 ·rw[BitVec.toNat_ushiftRight,Nat.shiftRight_eq_div_pow];have:=X.isLt;omega
 ·have:=x.toNat_lt;omega
theorem zXi (X:BitVec 32) (x:UInt8):bits .xor .u8 (U X/(16777216:Int)) (x.toNat:Int)=(look X x:Int):=by
 unfold look U
 have e:((X.toNat:Int)/(16777216:Int))=(((X>>>24).toNat:Nat):Int):=by
  rw[BitVec.toNat_ushiftRight,Nat.shiftRight_eq_div_pow];omega
 rw[e,u8_xor_nat _ _ (by rw[BitVec.toNat_ushiftRight,Nat.shiftRight_eq_div_pow];have:=X.isLt;omega) (by have:=x.toNat_lt;omega)]
theorem qDa (X:BitVec 32) (x:UInt8):bits .xor .u32 (U X*(256:Int)%(4294967296:Int)) (U (tab (look X x)))=U (tk X x.toBitVec):=by
 rw[qGn,zPr,qEq]
 unfold look
 rfl
def feeds (c:BitVec 32) (l:List UInt8):BitVec 32:=l.foldl (fun c x=>tk c x.toBitVec) c
def more (c:BitVec 32) (l:List UInt8):BitVec 32:= ~~~ feeds (~~~ c) l
def sum (l:List UInt8):BitVec 32:=more 0#32 l
theorem zI6 (c:BitVec 32) (a b:List UInt8):feeds c (a++b)=feeds (feeds c a) b:=by
 unfold feeds;rw[List.foldl_append]
theorem zVb (c:BitVec 32) (l:List UInt8) (x:UInt8):feeds c (l++[x])=tk (feeds c l) x.toBitVec:=by
 rw[zI6];rfl
theorem zSo (c:BitVec 32) (a b:List UInt8):more c (a++b)=more (more c a) b:=by
 unfold more;rw[zI6,BitVec.not_not]
theorem sum_append (a b:List UInt8):sum (a++b)=more (sum a) b:=zSo _ a b
end Crc
namespace Us
open Go.RowKit Front Bt Zr Tn
def zCo (l:List Nat) (k i:Nat):List Bool:=(List.range i).map fun j=>decide (k*16+j∈l)
theorem zQh (l:List Nat) (k i:Nat):(zCo l k i).length=i:=by simp[zCo]
theorem zWy (l:List Nat) (k i:Nat):zCo l k (i+1)=zCo l k i++[decide (k*16+i∈l)]:=by simp[zCo,List.range_succ]
def zCc (l:List Nat) (k:Nat):Nat:=val (zCo l k 16)
theorem zM9 (l:List Nat) (k i:Nat) (h:i<=16):val (zCo l k i)<65536:=by
 have h1:=zEy (zCo l k i)
 rw[zQh]at h1
 have h2:2^i<=2^16:=Nat.pow_le_pow_right (by omega) h
 omega
theorem or_one (v:Nat) (hv:v<1000000):bits .or .u64 ((v:Int)*2) 1=(v:Int)*2+1:=by
 have h:=or_bit v (by omega) true
 rw[zNw,show(true.toNat)=1 from rfl]at h
 rw[show IntKind.u64.wrap ((v:Int)*2)=(v:Int)*2 from IntWalk.u64_in _ ⟨by omega,by omega⟩,show IntKind.u64.wrap ((128:Int)/128)=1 from rfl]at h
 rw[h];omega
theorem zJm (l:List Nat) (k:Nat) (hk:k<16) (w:World):
  Calls Tryz.prog 99 #[.agg (cellsOf 256 (has l)),.int .i64 (k:Int)] w fun e w'=>e= .returned (.int .u64 (zCc l k:Int))/\Below w.heap.size w w':=by
 obtain⟨B,hB⟩:=zB w.heap.size
 have hA0:Arr (w.alloc (.cells (cellsOf 256 (has l)) TS)) B TS 256 (has l):=by
  show _=_
  rw[<-hB]
  show(w.heap.push _)[w.heap.size]? =_
  simp
 obtain⟨W,hW⟩:=zB (w.alloc (.cells (cellsOf 256 (has l)) TS))
 have hb0:Below B w W:=by rw[<-hW,<-hB];exact(Below.refl _ _).alloc (Nat.le_refl _) _
 rw[hW]at hA0
 have HA0:=zH hA0
 have HB0:=zH hb0
 obtain⟨cs,hcs⟩:=zB (cellsOf 256 (has l))
 rw[hcs]at hW⊢
 rw[hB]
 clear hA0 hb0 hcs
 go_enter Tryz.func99,Tryz.ntmps99
 go_wp2
 clear hW
 go_loopw [4,6] (fun v i wr=>∃j:Nat,j<=16/\i= .int .i64 j/\v= .int .u64 (val (zCo l k j):Nat)/\wr=W) (fun _ i _=>16-(intOf i).toNat)
 case atStart=>exact⟨0,by omega,rfl,rfl,rfl⟩
 case round=>
  obtain⟨j,hj,rfl,rfl,rfl⟩:=hrel
  by_cases hlt:j<16
  ·have hv:=zM9 l k j hj
   have x0:=HA0.out.cell (k*16+j) (by omega)
   unfold has at x0
   have hsx:=zWy l k j
   by_cases hm:k*16+j∈l
   ·rw[decide_eq_true hm]at x0 hsx
    have HNX:=zH (show val (zCo l k (j+1))=val (zCo l k j)*2+1 by rw[hsx,zEh];rfl)
    obtain⟨q,hq⟩:=zB (val (zCo l k j))
    rw[hq]at hv HNX⊢
    have ho:=or_one q (by omega)
    have HO:=zH ho
    clear hm hsx hq
    go_wp2
    go_roundw
    case rel=>exact⟨j+1,by omega,by go_num,by rw[HNX.out];push_cast;rfl,trivial⟩
    case measure=>simp only[intOf];omega
   ·rw[decide_eq_false hm]at x0 hsx
    have HNX:=zH (show val (zCo l k (j+1))=val (zCo l k j)*2 by rw[hsx,zEh];simp)
    obtain⟨q,hq⟩:=zB (val (zCo l k j))
    rw[hq]at hv HNX⊢
    clear hm hsx hq
    go_wp2
    go_roundw
    case rel=>exact⟨j+1,by omega,by go_num,by rw[HNX.out];push_cast;rfl,trivial⟩
    case measure=>simp only[intOf];omega
  ·obtain rfl:j=16:=by omega
   go_wp2
   go_ret
   exact⟨rfl,HB0.out⟩
end Us
namespace Zr
open Go.RowKit Front Ix Bt
variable {now n B:Nat} {w w0 w':World} {m m':List Bool}
theorem zQ4 (n:Nat) (h1:2<=n) (h2:n<=258) (w:World):
  Calls Tryz.prog 95 #[.int .i64 (n:Int)] w fun e w'=>e= .returned (.bool true)/\w'=w:=by
 have e1:decide ((2:Int)<=(n:Int))=true:=decide_eq_true (by omega)
 have e2:decide ((n:Int)<=258)=true:=decide_eq_true (by omega)
 go_enter Tryz.func95,Tryz.ntmps95
 go_wp2
 go_ret
 exact⟨rfl,rfl⟩
theorem zJw (n:Nat) (h1:1<=n) (h2:n<=20) (w:World):
  Calls Tryz.prog 97 #[.int .i64 (n:Int)] w fun e w'=>e= .returned (.bool true)/\w'=w:=by
 have e1:decide ((1:Int)<=(n:Int))=true:=decide_eq_true (by omega)
 have e2:decide ((n:Int)<=20)=true:=decide_eq_true (by omega)
 go_enter Tryz.func97,Tryz.ntmps97
 go_wp2
 go_ret
 exact⟨rfl,rfl⟩
theorem zX9 (n:Nat) (h1:1<=n) (h2:n<=20) (w:World):
  Calls Tryz.prog 96 #[ival n] w fun e w'=>e= .returned (.bool ((fun _=>false) n))/\w'=w:=by
 have HM:=zH (zJw n h1 h2 w)
 go_enter Tryz.func96,Tryz.ntmps96
 go_wp2_with fail
 (with_reducible refine HM.out.mono ?_)
 rintro e w2 ⟨rfl,rfl⟩
 go_wp2
 go_ret
 exact⟨rfl,rfl⟩
theorem zP1 (h:now<n):steps now n=[true,false]++steps (now+1) n:=by
 unfold steps
 rw[show n-now=n-(now+1)+1 by omega,show now-n=0 by omega,show now+1-n=0 by omega,List.replicate_succ,List.flatten_cons]
 simp
theorem zL3 (h:n<now):steps now n=[true,true]++steps (now-1) n:=by
 unfold steps
 rw[show n-now=0 by omega,show n-(now-1)=0 by omega,show now-n=now-1-n+1 by omega,List.replicate_succ,List.flatten_cons]
 simp
theorem zK1 (n:Nat):steps n n=[false]:=by unfold steps;simp
theorem qB1:num 2 2=[true,false]:=by decide
theorem qHf:num 3 2=[true,true]:=by decide
theorem qB2:num 0 1=[false]:=by decide
theorem zA3 {u v x y:Value} {t:TypeId} (h:w.heap[B]? =some (.cells #[u,v] t (0,0))):((w.setCell ⟨B,0,none⟩ x).setCell ⟨B,1,none⟩ y).heap[B]? =some (.cells #[x,y] t (0,0)):=
 setBlock 1 (setBlock 0 h)
structure HB (w0 w:World) (B:Nat) (m:List Bool):Prop where
 blk:w.heap[B]? =some (.cells #[.string (pk m),.int .i64 (m.length:Int)] 51 (0,0))
 below:Below B w0 w
theorem HB.set (h:HB w0 w B m) (hb:Below w.heap.size w w'):HB w0 ((w'.setCell ⟨B,0,none⟩ (.string (pk m'))).setCell ⟨B,1,none⟩ (.int .i64 (m'.length:Int))) B m':=by
 have hlt:=zAd h.blk
 exact⟨zA3 ((hb.block B hlt).trans h.blk),zCs (h.below.trans (hb.mono (by omega))) (Nat.le_refl _)⟩
theorem HB.mid (h:HB w0 w B m) (hb:Below w.heap.size w w'):HB w0 w' B m:=by
 have hlt:=zAd h.blk
 exact⟨(hb.block B hlt).trans h.blk,h.below.trans (hb.mono (by omega))⟩
theorem zRn (l:List Nat) (j now:Nat) (hj:j<l.length):del now (l.drop j)=steps now l[j]++del l[j] (l.drop (j+1)):=by
 rw[List.drop_eq_getElem_cons hj,del]
theorem zD1 (m:List Bool) (v n:Nat) (hm:m++num v n=m') {d:ByteArray} (hd:pk m=d) {k V N:Int} (hk:(m.length:Int)=k) (hV:(v:Int)=V) (hN:(n:Int)=N) (hv:v<18446744073709551616) (hn:n<=64) (hl:m.length+n<=1000000) (w:World):
  Calls Tryz.prog 24 #[.agg #[.string d,.int .i64 k],.int .u64 V,.int .i64 N] w fun e w'=>e= .returned (.tuple #[.agg #[.string (pk m'),.int .i64 (m'.length:Int)],.int .i64 0])/\Below w.heap.size w w':=by
 subst hm hd hk hV hN
 exact zJo m v n w hv hn hl
theorem zLj (l:List Nat) (a:Option Addr) (n c:Nat) (w:World) (hn:l.length=n) (h2:2<=n) (h258:n<=258) (hs:Kit.Src w a (l.map ival)) (hl:∀x∈l,1<=x/\x<=20) (hd:(delta l).length<=900000):
  Calls Tryz.prog 27 #[.slice a n c] w fun e w'=>e= .returned (.tuple #[zAe (delta l),.int .i64 0])/\Below w.heap.size w w':=by
 obtain⟨B,hB⟩:=zB w.heap.size
 obtain⟨W,hW⟩:=zB (w.alloc (.cells #[.string ⟨#[]⟩,.int .i64 0] 51))
 have hb0:Below B w W:=by rw[<-hW,<-hB];exact(Below.refl _ _).alloc (Nat.le_refl _) _
 have hX:W.heap[B]? =some (.cells #[.string (pk []),.int .i64 (([]:List Bool).length:Int)] 51 (0,0)):=by
  rw[<-hW,<-hB]
  show(w.heap.push _)[w.heap.size]? =_
  simp
  rfl
 have H0:=zH (HB.mk hX hb0)
 have HM:=zH (zQ4 n h2 h258 W)
 have hsW:Kit.Src W a (l.map ival):=hs.below (by rw[hB];exact hb0)
 have HQ:=zH (zE5 (fun _=>false) l 96 a n c W hn (by omega) hsW (zHw Tryz.func96 rfl rfl) (fun x hx=>zX9 x (hl x hx).1 (hl x hx).2 W))
 rw[any_false]at HQ
 have hl0:0<l.length:=by omega
 obtain⟨x0,hx0⟩:=zB (l[0])
 obtain⟨b,off,rfl,e0⟩:=hsW 0 (ival x0) (by rw[List.getElem?_map,List.getElem?_eq_getElem hl0,hx0];rfl)
 rw[Nat.add_zero]at e0
 have hx0l:1<=x0/\x0<=20:=by rw[<-hx0];exact hl _ (List.getElem_mem hl0)
 have hhead:delta l=num x0 5++del x0 (l.drop 0):=by
  unfold delta
  rw[<-hx0,List.drop_zero]
  congr 2<;>(rw[List.headD_eq_head?_getD,List.head?_eq_getElem?,List.getElem?_eq_getElem hl0];rfl)
 obtain⟨T,hT⟩:=zB (delta l)
 rw[hT]at hd hhead⊢
 have HS:=zH hs
 have HL:=zH hl
 have HN:=zH hn
 have HD:=zH hd
 have HT:=zH hhead
 have HP:=zH (zD1 [] x0 5 (List.nil_append _) (d:=⟨#[]⟩) rfl (k:=0) (N:=5) rfl rfl rfl (by omega) (by omega) (by simp) W)
 unfold zAe
 obtain⟨m0,hm0⟩:=zB (num x0 5)
 rw[hm0]at HP HT
 obtain⟨y0,y1,f0,f1⟩:=zAf hX
 rw[show pk []=⟨#[]⟩from rfl]at y0
 rw[show((([]:List Bool).length:Nat):Int)=0 from rfl]at y1
 have HU:IntKind.u64.wrap (x0:Int)=(x0:Int):=by
  rw[show IntKind.u64.wrap (x0:Int)=(x0:Int)%18446744073709551616 from rfl];omega
 clear hs hl hn hd hhead hx0 hl0 hsW hT hX hm0
 rw[hB]
 go_enter Tryz.func27,Tryz.ntmps27
 go_wp2_with fail
 (with_reducible refine HM.out.mono ?_)
 rintro e w2 ⟨rfl,rfl⟩
 go_wp2_with fail
 (with_reducible refine HQ.out.mono ?_)
 rintro e w2 ⟨rfl,rfl⟩
 go_wp2_with fail
 (with_reducible refine HP.out.mono ?_)
 rintro e w3 ⟨rfl,hb3⟩
 clear y0 y1 f0 f1 e0
 obtain⟨y0,y1,f0,f1⟩:=zAf (H0.out.mid hb3).blk
 have H4:=zH (H0.out.set (m':=m0) hb3)
 clear hb3 hW
 go_wp2
 clear y0 y1 f0 f1 HU
 generalize ((w3.setCell ⟨B,0,none⟩ (.string (pk m0))).setCell ⟨B,1,none⟩ (.int .i64 (m0.length:Int)))=W4 at H4⊢
 go_loopw [28,4] (fun i v wr=>∃(j now:Nat) (m:List Bool),j<=n/\i= .int .i64 j/\v= .int .i64 now/\now<=20/\RowKit.Hid (HB w wr B m)/\RowKit.Hid (T=m++del now (l.drop j))) (fun i _ _=>n-(intOf i).toNat)
 case atStart=>exact⟨0,x0,m0,by omega,rfl,rfl,by omega,H4,HT⟩
 case round=>
  clear H4 HT
  obtain⟨j,now,m,hj,rfl,rfl,hnow,hm,ht⟩:=hrel
  by_cases hlt:j<n
  ·have hjl:j<l.length:=by rw[HN.out];exact hlt
   obtain⟨x,hx⟩:=zB (l[j])
   obtain⟨b',off',hbo,e0⟩:=(HS.out.below (w':=wr) (by rw[hB];exact hm.out.below)) j (ival x) (by rw[List.getElem?_map,List.getElem?_eq_getElem hjl,hx];rfl)
   injection hbo with hbo
   injection hbo with hb1 hb2 _
   subst hb1 hb2
   have hxl:1<=x/\x<=20:=by rw[<-hx];exact HL.out _ (List.getElem_mem hjl)
   have HT2:=zH (show T=m++(steps now x++del x (l.drop (j+1)))by rw[ht.out,zRn l j now hjl,hx])
   clear ht hx
   go_wp2
   clear e0
   go_loopw [4] (fun v wr=>∃(now:Nat) (m:List Bool),v= .int .i64 now/\now<=20/\RowKit.Hid (HB w wr B m)/\RowKit.Hid (T=m++(steps now x++del x (l.drop (j+1))))) (fun v _=>20-(intOf v).toNat)
   case atStart=>exact⟨now,m,rfl,hnow,hm,HT2⟩
   case round=>
    clear HT2 hm hnow
    obtain⟨now,m,rfl,hnow,hm,ht⟩:=hrel
    by_cases hup:now<x
    ·have hdn:=zP1 hup
     obtain⟨m2,hm2⟩:=zB (m++[true,false])
     have hml:m.length+2<=1000000:=by have h1:=HD.out;rw[ht.out,List.length_append]at h1;omega
     have hq:=zH (zD1 m 2 2 (m':=m2) (by rw[qB1,hm2]) (d:=pk m) rfl (k:=(m.length:Int)) (V:=2) (N:=2) rfl rfl rfl (by omega) (by omega) hml wr)
     have HM2:=zH hm2
     clear hml hm2
     obtain⟨y0,y1,f0,f1⟩:=zAf hm.out.blk
     go_wp2_with fail
     (with_reducible refine hq.out.mono ?_)
     rintro e w4 ⟨rfl,hb4⟩
     clear y0 y1 f0 f1 hq
     obtain⟨y0,y1,f0,f1⟩:=zAf (hm.out.mid hb4).blk
     have H5:=zH (hm.out.set (m':=m2) hb4)
     clear hb4
     go_wp2
     clear y0 y1 f0 f1
     go_roundw
     case rel=>exact⟨now+1,m2,by go_num,by omega,H5,zH (by rw[ht.out,hdn,<-HM2.out];simp)⟩
     case measure=>simp[intOf];omega
    ·go_wp2
     go_loopw [4] (fun v wr=>∃(now:Nat) (m:List Bool),v= .int .i64 now/\now<=20/\x<=now/\RowKit.Hid (HB w wr B m)/\RowKit.Hid (T=m++(steps now x++del x (l.drop (j+1))))) (fun v _=>(intOf v).toNat)
     case atStart=>exact⟨now,m,rfl,hnow,by omega,hm,ht⟩
     case round=>
      clear ht hm hnow hup
      obtain⟨now,m,rfl,hnow,hge,hm,ht⟩:=hrel
      by_cases hdw:x<now
      ·have hdn:=zL3 hdw
       have hi1:((now-1:Nat):Int)=(now:Int)-1:=by omega
       obtain⟨m2,hm2⟩:=zB (m++[true,true])
       have hml:m.length+2<=1000000:=by have h1:=HD.out;rw[ht.out,List.length_append]at h1;omega
       have hq:=zH (zD1 m 3 2 (m':=m2) (by rw[qHf,hm2]) (d:=pk m) rfl (k:=(m.length:Int)) (V:=3) (N:=2) rfl rfl rfl (by omega) (by omega) hml wr)
       have HM2:=zH hm2
       clear hml hm2
       obtain⟨y0,y1,f0,f1⟩:=zAf hm.out.blk
       go_wp2_with fail
       (with_reducible refine hq.out.mono ?_)
       rintro e w4 ⟨rfl,hb4⟩
       clear y0 y1 f0 f1 hq
       obtain⟨y0,y1,f0,f1⟩:=zAf (hm.out.mid hb4).blk
       have H5:=zH (hm.out.set (m':=m2) hb4)
       clear hb4
       go_wp2
       clear y0 y1 f0 f1
       go_roundw
       case rel=>exact⟨now-1,m2,by rw[hi1];try go_num,by omega,by omega,H5,zH (by rw[ht.out,hdn,<-HM2.out];simp)⟩
       case measure=>simp[intOf];omega
      ·obtain rfl:now=x:=by omega
       obtain⟨m2,hm2⟩:=zB (m++[false])
       have hml:m.length+1<=1000000:=by have h1:=HD.out;rw[ht.out,List.length_append]at h1;omega
       have hq:=zH (zD1 m 0 1 (m':=m2) (by rw[qB2,hm2]) (d:=pk m) rfl (k:=(m.length:Int)) (V:=0) (N:=1) rfl rfl rfl (by omega) (by omega) hml wr)
       have HM2:=zH hm2
       clear hml hm2
       obtain⟨y0,y1,f0,f1⟩:=zAf hm.out.blk
       go_wp2_with fail
       (with_reducible refine hq.out.mono ?_)
       rintro e w4 ⟨rfl,hb4⟩
       clear y0 y1 f0 f1 hq
       obtain⟨y0,y1,f0,f1⟩:=zAf (hm.out.mid hb4).blk
       have H5:=zH (hm.out.set (m':=m2) hb4)
       clear hb4
       go_wp2
       clear y0 y1 f0 f1
       go_roundw
       case rel=>exact⟨j+1,now,m2,by omega,by go_num,rfl,by omega,H5,zH (by rw[ht.out,zK1,<-HM2.out];simp)⟩
       case measure=>simp[intOf];omega
  ·obtain rfl:j=n:=by omega
   have hend:T=m:=by rw[ht.out,List.drop_of_length_le (by rw[HN.out];omega),del,List.append_nil]
   subst hend
   obtain⟨y0,y1,f0,f1⟩:=zAf hm.out.blk
   go_wp2
   try simp only[Exit.inBlock,Exit.then]
   exact bodyPost_ret (zEk rfl _ _ B _ _ _ rfl rfl (Bt.zCy y0) (Bt.zCx y1)) rfl ⟨rfl,zCs hm.out.below (Nat.le_refl _)⟩
end Zr
namespace Us
open Go.RowKit Front Bt Zr Tn
theorem zQ3 (B:Nat) (m:List Bool) (v:Nat) (hv:v<65536) (hm:m.length<=900000) (w0 w:World) (h:HB w0 w B m):
  Calls Tryz.prog 98 #[.int .u64 (v:Int),.pointer (some ⟨B,0,none⟩)] w fun e w'=>e= .returned (.tuple #[])/\HB w0 w' B (m++num v 16)/\w.heap.size<=w'.heap.size/\∀k,k≠B->k<w.heap.size->w'.heap[k]? =w.heap[k]? :=by
 obtain⟨m2,hm2⟩:=zB (m++num v 16)
 have hq:=zH (zD1 m v 16 hm2 (d:=pk m) rfl (k:=(m.length:Int)) (V:=(v:Int)) (N:=16) rfl rfl rfl (by omega) (by omega) (by omega) w)
 rw[hm2]
 have HH:=zH h
 obtain⟨y0,y1,f0,f1⟩:=zAf h.blk
 clear h hm2
 go_enter Tryz.func98,Tryz.ntmps98
 go_wp2_with fail
 (with_reducible refine hq.out.mono ?_)
 rintro e w4 ⟨rfl,hb4⟩
 clear y0 y1 f0 f1 hq
 obtain⟨y0,y1,f0,f1⟩:=zAf (HH.out.mid hb4).blk
 have H5:=zH (HH.out.set (m':=m2) hb4)
 have H6:=zH hb4
 clear hb4
 go_wp2
 go_end0
 exact⟨rfl,H5.out,by simp[World.setCell];exact H6.out.size,fun k hk hlt=>(zAa hk).trans ((zAa hk).trans (H6.out.block k hlt))⟩
def zBr (l:List Nat) (k:Nat):List Bool:=(List.range k).map fun j=>decide (zCc l j≠0)
theorem zOb (l:List Nat) (k:Nat):(zBr l k).length=k:=by simp[zBr]
theorem zUo (l:List Nat) (k:Nat):zBr l (k+1)=zBr l k++[decide (zCc l k≠0)]:=by simp[zBr,List.range_succ]
theorem zK3 (l:List Nat) (k:Nat) (h:k<=16):val (zBr l k)<65536:=by
 have h1:=zEy (zBr l k)
 rw[zOb]at h1
 have h2:2^k<=2^16:=Nat.pow_le_pow_right (by omega) h
 omega
def zB3 (l:List Nat) (k:Nat):List Bool:=(List.range k).flatMap fun j=>if zCc l j≠0 then num (zCc l j) 16 else[]
theorem zFc (l:List Nat) (k:Nat):zB3 l (k+1)=zB3 l k++if zCc l k≠0 then num (zCc l k) 16 else[]:=by simp[zB3,List.range_succ]
theorem zIt (l:List Nat):∀k,(zB3 l k).length<=16*k
 |0=>by simp[zB3]
 |k+1=>by
  have:=zIt l k
  rw[zFc,List.length_append]
  split
  ·rw[zAc];omega
  ·simp;omega
def zC2 (l:List Nat):List Bool:=num (val (zBr l 16)) 16++zB3 l 16
theorem zTv (s:ByteArray) (hs:s.size<=1000000) (w:World):
  Calls Tryz.prog 28 #[.string s] w fun e w'=>e= .returned (zAe (zC2 (bl s)))/\Below w.heap.size w w':=by
 have hmf:∀(fn:Fn) (first cap:Array Value) (w:World),(Instr.makeFunc fn first cap).run Tryz.prog w= .ok (.func fn first cap) w:=fun _ _ _ _=>rfl
 obtain⟨B,hB⟩:=zB w.heap.size
 obtain⟨W,hW⟩:=zB (w.alloc (.cells #[.string ⟨#[]⟩,.int .i64 0] 51))
 have hb0:Below B w W:=by rw[<-hW,<-hB];exact(Below.refl _ _).alloc (Nat.le_refl _) _
 have hX:W.heap[B]? =some (.cells #[.string (pk []),.int .i64 (([]:List Bool).length:Int)] 51 (0,0)):=by
  rw[<-hW,<-hB]
  show(w.heap.push _)[w.heap.size]? =_
  simp
  rfl
 have H0:=zH (HB.mk hX hb0)
 have HO:=zH (zXe s hs W)
 obtain⟨l,hl⟩:=zB (bl s)
 rw[hl]at HO⊢
 clear hb0 hX hl
 rw[hB]
 go_enter Tryz.func28,Tryz.ntmps28
 go_wp2_with fail
 (with_reducible refine HO.out.mono ?_)
 rintro e w2 ⟨rfl,hb2⟩
 clear hW HO
 have H2:=zH (H0.out.mid hb2)
 obtain⟨cs,hcs⟩:=zB (cellsOf 256 (has l))
 have hsz:cs.size=256:=by rw[<-hcs,cellsOf_size]
 have hinf:(Tryz.prog.info? TS).map (·.size)=some 256:=by kernel_rfl
 have hz0:Tryz.zeroCells147.size=256:=by kernel_rfl
 have hst:=run_storeCells_new (P:=Tryz.prog) w2 TS Tryz.zeroCells147 cs (by rw[hsz];exact hinf) (by rw[hz0,hsz]) (by rw[<-hcs];exact zT0 l 256)
 obtain⟨W3,hW3⟩:=zB (w2.alloc (.cells cs TS))
 have hb3:Below w2.heap.size w2 W3:=by rw[<-hW3];exact(Below.refl _ _).alloc (Nat.le_refl _) _
 have hA3:Arr W3 w2.heap.size TS 256 (has l):=by
  show _=_
  rw[<-hW3,hcs]
  show(w2.heap.push _)[w2.heap.size]? =_
  simp
 have H3:=zH (H2.out.mid hb3)
 have hCB:B<w2.heap.size:=zAd H2.out.blk
 rw[hW3]at hst
 obtain⟨C,hC⟩:=zB w2.heap.size
 rw[hC]at hst hA3 hCB
 have HA3:=zH hA3
 have HCS:=zH hcs
 have HINF:=zH hinf
 have hrow:∀k:Nat,k<16->∀w,Calls Tryz.prog 99 #[.agg cs,.int .i64 (k:Int)] w fun e w'=>e= .returned (.int .u64 (zCc l k:Int))/\Below w.heap.size w w':=fun k hk w=>by rw[<-hcs];exact zJm l k hk w
 have HROW:=zH hrow
 rw[hcs]
 clear hb3 hA3 hb2 H2 H0 hW3 hz0 hinf hcs hrow
 go_wp2
 clear hst hC
 go_loopw [5,12] (fun v i wr=>∃k:Nat,k<=16/\i= .int .i64 k/\v= .int .u64 (val (zBr l k):Nat)/\RowKit.Hid (HB w wr B [])/\RowKit.Hid (Arr wr C TS 256 (has l))) (fun _ i _=>16-(intOf i).toNat)
 case atStart=>exact⟨0,by omega,rfl,rfl,H3,HA3⟩
 case round=>
  clear H3 HA3
  obtain⟨k,hk,rfl,rfl,hh,har⟩:=hrel
  by_cases hlt:k<16
  ·have hv:=zK3 l k hk
   have hsx:=zUo l k
   have hA:=har.out
   unfold Arr at hA
   rw[HCS.out]at hA
   have hld:=run_loadVar_row (P:=Tryz.prog) wr C TS TS cs (0,0) (.array 256 4) hA Tryz.underlying147 rfl (by rw[hsz];exact HINF.out)
   clear hA
   go_wp2
   rename_i hK
   refine zGu rfl rfl hld (hK _ _ ?_)
   clear hld hK
   go_wp2_with fail
   (with_reducible refine(HROW.out k hlt wr).mono ?_)
   rintro e w4 ⟨rfl,hb4⟩
   have H4:=zH (hh.out.mid hb4)
   have A4:=zH (show Arr w4 C TS 256 (has l)from(hb4.block C har.out.lt).trans har.out)
   obtain⟨r,hr⟩:=zB (zCc l k)
   rw[hr]at hsx⊢
   clear hb4 hr
   obtain⟨q,hq⟩:=zB (val (zBr l k))
   rcases Nat.eq_zero_or_pos r with h0|h0
   ·subst h0
    have HNX:=zH (show val (zBr l (k+1))=q*2 by rw[hsx,zEh,hq];simp)
    rw[hq]at hv⊢
    clear hsx hq
    go_wp2
    go_roundw
    case rel=>exact⟨k+1,by omega,by go_num,by rw[HNX.out];push_cast;rfl,H4,A4⟩
    case measure=>simp only[intOf];omega
   ·have hd:decide (r≠0)=true:=decide_eq_true (by omega)
    rw[hd]at hsx
    have HNX:=zH (show val (zBr l (k+1))=q*2+1 by rw[hsx,zEh,hq];simp)
    rw[hq]at hv⊢
    have ho:=or_one q (by omega)
    have hne:((r:Int)!=0)=true:=by simp;omega
    clear hsx hq hd
    go_wp2
    go_roundw
    case rel=>exact⟨k+1,by omega,by go_num,by rw[HNX.out];push_cast;rfl,H4,A4⟩
    case measure=>simp only[intOf];omega
  ·obtain rfl:k=16:=by omega
   have hv:=zK3 l 16 (by omega)
   obtain⟨q,hq⟩:=zB (val (zBr l 16))
   rw[hq]at hv⊢
   have HM:=zH (zQ3 B [] q hv (by simp) w wr hh.out)
   rw[List.nil_append]at HM
   have hCz:=har.out.lt
   have HQV:=zH hq
   clear hq
   go_wp2_with fail
   (with_reducible refine HM.out.mono ?_)
   rintro e w4 ⟨rfl,hh4,hsz4,hk4⟩
   have H4:=zH hh4
   have A4:=zH (show Arr w4 C TS 256 (has l)from(hk4 C (by omega) hCz).trans har.out)
   clear hh4 hk4 hsz4 HM
   go_wp2
   go_loopw [27] (fun i wr=>∃k:Nat,k<=16/\i= .int .i64 k/\RowKit.Hid (HB w wr B (num q 16++zB3 l k))/\RowKit.Hid (Arr wr C TS 256 (has l))) (fun i _=>16-(intOf i).toNat)
   case atStart=>exact⟨0,by omega,rfl,by rw[show zB3 l 0=[]from rfl,List.append_nil];exact H4,A4⟩
   case round=>
    clear H4 A4
    obtain⟨k,hk,rfl,hh,har⟩:=hrel
    by_cases hlt:k<16
    ·have hsx:=zFc l k
     have hlr:=zIt l k
     have hA:=har.out
     unfold Arr at hA
     rw[HCS.out]at hA
     have hld:=run_loadVar_row (P:=Tryz.prog) wr C TS TS cs (0,0) (.array 256 4) hA Tryz.underlying147 rfl (by rw[hsz];exact HINF.out)
     clear hA
     go_wp2
     rename_i hK
     refine zGu rfl rfl hld (hK _ _ ?_)
     clear hld hK
     go_wp2_with fail
     (with_reducible refine(HROW.out k hlt wr).mono ?_)
     rintro e w4 ⟨rfl,hb4⟩
     have h4:=hh.out.mid hb4
     have ha4:Arr w4 C TS 256 (has l):=(hb4.block C har.out.lt).trans har.out
     have hrl:=zM9 l k 16 (by omega)
     obtain⟨r,hr⟩:=zB (zCc l k)
     rw[show val (zCo l k 16)=r from hr]at hrl
     rw[hr]at hsx⊢
     clear hb4 hr
     rcases Nat.eq_zero_or_pos r with h0|h0
     ·subst h0
      rw[if_neg (by simp),List.append_nil]at hsx
      have HS:=zH hsx
      have H4:=zH h4
      have A4:=zH ha4
      clear hsx h4 ha4
      go_wp2
      go_roundw
      case rel=>exact⟨k+1,by omega,by go_num,by rw[HS.out];exact H4,A4⟩
      case measure=>simp only[intOf];omega
     ·rw[if_pos (by omega)]at hsx
      have HM:=zH (zQ3 B (num q 16++zB3 l k) r hrl (by rw[List.length_append,zAc];omega) w w4 h4)
      rw[List.append_assoc,<-hsx]at HM
      have A4:=zH ha4
      have hCz:=ha4.lt
      have hne:((r:Int)!=0)=true:=by simp;omega
      clear hsx h4 ha4
      go_wp2_with fail
      (with_reducible refine HM.out.mono ?_)
      rintro e w5 ⟨rfl,hh5,hsz5,hk5⟩
      have H5:=zH hh5
      have A5:=zH (show Arr w5 C TS 256 (has l)from(hk5 C (by omega) hCz).trans A4.out)
      clear hh5 hk5 hsz5 HM
      go_wp2
      go_roundw
      case rel=>exact⟨k+1,by omega,by go_num,H5,A5⟩
      case measure=>simp only[intOf];omega
    ·obtain rfl:k=16:=by omega
     obtain⟨m,hm⟩:=zB (num q 16++zB3 l 16)
     rw[hm]at hh
     have HM:=zH hm
     obtain⟨y0,y1,f0,f1⟩:=zAf hh.out.blk
     clear hm
     go_wp2
     try simp only[Exit.inBlock,Exit.then]
     have hF:=hh.out.set (m':=m) (Below.refl _ _)
     have hmap:zC2 l=m:=by unfold zC2;rw[HQV.out];exact HM.out
     rw[hmap]
     exact bodyPost_ret (results_cell_row rfl _ _ B 51 _ (0,0) _ rfl hF.blk Tryz.underlying51 rfl (by kernel_rfl)) rfl ⟨rfl,hF.below⟩
end Us
end Go.Proofs.YtppnakkaljbmbaaGreatDoor
