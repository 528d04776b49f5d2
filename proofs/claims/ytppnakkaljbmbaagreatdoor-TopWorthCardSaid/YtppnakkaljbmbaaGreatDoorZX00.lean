/- Steps of a proof; no condition beyond what each states. -/
import Derived.Lib.Hide
import Derived.KernelRfl
import Derived.Deep.RegionHeld
import Derived.Lib.SmallJoins
import Derived.StillTailTactics
set_option linter.unusedVariables false
set_option linter.unusedSimpArgs false
set_option maxRecDepth 100000
set_option maxHeartbeats 8000000
open List renaming length->kG
open Go.RowKit
open Go.Value renaming int->qV,slice->qX,pointer->qY
open Go.IntKind renaming i64->qj
open Go.Obj renaming cells->qm
open Go.Ending renaming returned->qp
open Option renaming some->qw,none->qx
open Go renaming World->qy,Value->qz,TypeId->yA,Addr->yB,Calls->yC,undef->yJ
open Bool renaming true->yD,false->yE
open Decidable renaming decide->yF
open Go.RowKit renaming Hid->yH,Below->yI
open List renaming range->yK
open Go.RowKit.Below renaming refl->yN
namespace Go.Proofs.YtppnakkaljbmbaaGreatDoor
theorem yP (p:Prop) (h:p):Go.RowKit.Hid p:=h
theorem yQ {a b:Prop} (c:a) (d:b):Go.RowKit.Hid a/\Go.RowKit.Hid b:=⟨c,d⟩
theorem yR {a b c:Prop} (d:a) (e:b) (f:c):Go.RowKit.Hid a/\Go.RowKit.Hid b/\Go.RowKit.Hid c:=⟨d,e,f⟩
theorem yS {a b c d:Prop} (e:a) (f:b) (g:c) (h:d):Go.RowKit.Hid a/\Go.RowKit.Hid b/\Go.RowKit.Hid c/\Go.RowKit.Hid d:=⟨e,f,g,h⟩
theorem yT {a b c d e:Prop} (f:a) (g:b) (h:c) (i:d) (j:e):Go.RowKit.Hid a/\Go.RowKit.Hid b/\Go.RowKit.Hid c/\Go.RowKit.Hid d/\Go.RowKit.Hid e:=⟨f,g,h,i,j⟩
theorem yU {a b c d e f:Prop} (g:a) (h:b) (i:c) (j:d) (k:e) (l:f):Go.RowKit.Hid a/\Go.RowKit.Hid b/\Go.RowKit.Hid c/\Go.RowKit.Hid d/\Go.RowKit.Hid e/\Go.RowKit.Hid f:=⟨g,h,i,j,k,l⟩
theorem yV {a b c d e f g:Prop} (h:a) (i:b) (j:c) (k:d) (l:e) (m:f) (n:g):Go.RowKit.Hid a/\Go.RowKit.Hid b/\Go.RowKit.Hid c/\Go.RowKit.Hid d/\Go.RowKit.Hid e/\Go.RowKit.Hid f/\Go.RowKit.Hid g:=⟨h,i,j,k,l,m,n⟩
theorem yX {a b c d e f g h:Prop} (i:a) (j:b) (k:c) (l:d) (m:e) (n:f) (o:g) (p:h):Go.RowKit.Hid a/\Go.RowKit.Hid b/\Go.RowKit.Hid c/\Go.RowKit.Hid d/\Go.RowKit.Hid e/\Go.RowKit.Hid f/\Go.RowKit.Hid g/\Go.RowKit.Hid h:=⟨i,j,k,l,m,n,o,p⟩
theorem yY {a b c d e f g h i:Prop} (j:a) (k:b) (l:c) (m:d) (n:e) (o:f) (p:g) (q:h) (r:i):Go.RowKit.Hid a/\Go.RowKit.Hid b/\Go.RowKit.Hid c/\Go.RowKit.Hid d/\Go.RowKit.Hid e/\Go.RowKit.Hid f/\Go.RowKit.Hid g/\Go.RowKit.Hid h/\Go.RowKit.Hid i:=⟨j,k,l,m,n,o,p,q,r⟩
theorem za {p:Prop} (h:p:=by omega):p:=h
theorem zf {p:Prop} (h:p:=by kernel_rfl):p:=h
theorem zh {p:Prop} (h:p:=by rfl):p:=h
theorem zm {p:Prop} (h:p:=by simp):p:=h
theorem zq {p:Prop} (h:p:=by simp;omega):p:=h
theorem z8 {p:Prop} (h:p:=by decide):p:=h
theorem zH {p:Prop} (h:p):yH p:=Lib.hid h
theorem zB {α:Type} (a:α):∃b,a=b:=⟨a,rfl⟩
abbrev qPq:= @Nat.le_refl
abbrev qPr:= @if_pos
abbrev qPs:= @congrArg
abbrev qPt:= @if_neg
abbrev qPu:= @List.getElem?_eq_getElem
abbrev qPv:= @Option.some.inj
abbrev qPw:= @List.getD_eq_getElem?_getD
abbrev qPx:= @List.length_append
abbrev qPy:= @List.set_cons_zero
abbrev qPz:= @List.setIfInBounds_toArray
abbrev qP0:= @List.set_cons_succ
abbrev qP1:= @decide_eq_false
abbrev qP2:= @List.getElem?_map
abbrev qP3:= @List.length_cons
abbrev qP4:= @Nat.le_trans
abbrev qP5:= @bodyPost_ret
abbrev qP6:= @Nat.le_of_lt
abbrev qP7:= @List.mem_cons
abbrev qP8:= @Nat.lt_or_ge
abbrev qP9:= @decide_eq_true
abbrev qQ:= @List.getElem_mem
abbrev qQa:= @List.map_cons
abbrev qQb:= @IntWalk.i64_in
abbrev qQc:= @Nat.zero_add
abbrev qQd:= @List.map_append
abbrev qQe:= @World.cell?_setCell_other
abbrev qQf:= @List.mem_map
abbrev qQg:= @List.take_of_length_le
abbrev qQh:= @List.length_take
abbrev qQi:= @List.length_map
abbrev qQj:= @callsIn_wide
abbrev qQk:= @block_lt_of_cell
abbrev qQl:= @List.nil_append
abbrev qQm:= @List.mem_range
abbrev qQn:= @List.length_drop
abbrev qQo:= @List.take_succ_eq_append_getElem
abbrev qQp:= @List.getElem?_eq_none
abbrev qQq:= @Nat.zero_le
abbrev qQr:= @List.cons_append
abbrev qQs:= @Array.getElem?_modify
abbrev qQt:= @Nat.add_mul
abbrev qQu:= @List.range_succ
abbrev qQv:= @Nat.lt_of_lt_of_le
abbrev qQw:= @List.append_assoc
abbrev qQx:= @List.length_nil
abbrev qQy:= @Nat.eq_zero_or_pos
abbrev qQz:= @List.eq_nil_of_length_eq_zero
abbrev qQ0:= @List.size_toArray
abbrev qQ1:= @List.pairwise_cons
abbrev qQ2:= @Ne.symm
abbrev qQ3:= @List.append_nil
abbrev qQ4:= @Option.getD_some
abbrev qQ5:= @Array.getElem?_eq_some_iff
abbrev qQ6:= @Nat.lt_succ_self
abbrev qQ7:= @Bool.and_eq_true
abbrev qQ8:= @List.length_range
abbrev qQ9:= @Array.replicate_succ
abbrev qR:= @Array.replicate_zero
abbrev qRa:= @List.push_toArray
abbrev qRb:= @List.append_toArray
abbrev qRc:= @List.sum_cons
abbrev qRd:= @Nat.mod_lt
abbrev qRe:= @World.cell?_of_block
abbrev qRf:= @Obj.cells.inj
abbrev qRg:= @Nat.mod_eq_of_lt
abbrev qRh:= @Nat.add_zero
abbrev qRi:= @World.cell?_setCell_same
abbrev qRj:= @Array.getElem?_eq_none
abbrev qRk:= @Sem.run_bind
abbrev qRl:= @decide_eq_true_eq
abbrev qRm:= @List.mem_singleton
abbrev qRn:= @Nat.one_mul
abbrev qRo:= @Nat.mul_comm
abbrev qRp:= @Nat.mul_le_mul_right
abbrev qRq:= @Nat.pow_succ
abbrev qRr:= @List.map_map
abbrev qRs:= @Option.map_some
abbrev qRt:= @List.ext_getElem?
abbrev qRu:= @Nat.le_succ
abbrev qRv:= @mem_ready
abbrev qRw:= @if_true
abbrev qRx:= @List.map_congr_left
abbrev qRy:= @World.ownsRow.kept
abbrev qRz:= @List.flatten_append
abbrev qR0:= @info_parts
abbrev qR1:= @List.length_set
abbrev qR2:= @Nat.add_assoc
abbrev qR3:= @List.drop_zero
abbrev qR4:= @World.grownBy_alloc
abbrev qR5:= @Nat.testBit_or
abbrev qR6:= @List.getElem?_append_left
abbrev qR7:= @List.length_singleton
abbrev qR8:= @Nat.pow_le_pow_right
abbrev qR9:= @List.take_append_drop
abbrev qSa:= @List.drop_eq_getElem_cons
abbrev qSb:= @List.getElem?_take
abbrev qSc:= @beq_eq_false_iff_ne
abbrev qSd:= @Int.tmod_eq_emod_of_nonneg
abbrev qSe:= @List.getElem?_range
abbrev qSf:= @List.pairwise_iff_getElem
abbrev qSg:= @Bool.eq_iff_iff
abbrev qSh:= @IntWalk.u64_in
abbrev qSi:= @List.mem_append
abbrev qSj:= @List.getElem?_eq_some_iff
abbrev qSk:= @List.take_succ_cons
abbrev qSl:= @List.flatMap_cons
abbrev qSm:= @run_storeVar_mid
abbrev qSn:= @List.length_pos_iff
abbrev qSo:= @List.replicate_succ
abbrev qSp:= @Sem.run_pure
abbrev qSq:= @List.map_nil
abbrev qSr:= @beq_iff_eq
abbrev qSs:= @Nat.add_sub_cancel
abbrev qSt:= @List.mem_of_getElem?
abbrev qSu:= @List.getElem_cons_succ
abbrev qSv:= @List.getElem?_set
abbrev qSw:= @List.drop_of_length_le
abbrev qSx:= @World.frozen?_setCell
abbrev qSy:= @results_none
abbrev qSz:= @List.nodup_cons
abbrev qS0:= @List.flatten_cons
abbrev qS1:= @List.getElem_toArray
abbrev qS2:= @ByteArray.size_extract
abbrev qS3:= @Result.andThen_ok
abbrev qS4:= @List.getElem?_append_right
abbrev qS5:= @Array.getElem?_toList
abbrev qS6:= @callsIn_of_wp
abbrev qS7:= @getElem!_pos
abbrev qS8:= @Lib.toList_data
abbrev qS9:= @List.getElem_cons_zero
abbrev qTa:= @Nat.one_shiftLeft
abbrev qTb:= @Nat.testBit_two_pow
abbrev qTc:= @Nat.mul_assoc
abbrev qTd:= @List.getElem_of_mem
abbrev qTe:= @List.foldl_append
abbrev qTf:= @UInt8.toNat_lt
abbrev qTg:= @List.take_length
abbrev qTh:= @List.filter_cons
abbrev qTi:= @wpAnyH_take
abbrev qTj:= @of_decide_eq_true
abbrev qTk:= @World.ownsRow.cellAt
abbrev qTl:= @run_underlying
abbrev qTm:= @List.foldl_cons
abbrev qTn:= @Nat.lt_trichotomy
abbrev qTo:= @World.frozen?_of_block
abbrev qTp:= @List.take_zero
abbrev qTq:= @Int.natCast_add
abbrev qTr:= @World.size_alloc
abbrev qTs:= @Nat.min_eq_left
abbrev qTt:= @List.Perm.refl
abbrev qTu:= @Bool.or_eq_true
abbrev qTv:= @List.mem_cons_self
abbrev qTw:= @List.nodup_range
abbrev qTx:= @List.map_take
abbrev qTy:= @Option.some.injEq
abbrev qTz:= @List.length_replicate
abbrev qT0:= @List.mem_filter
abbrev qT1:= @Nat.eq_of_beq_eq_true
abbrev qT2:= @Array.getElem?_eq_getElem
abbrev qT3:= @Nat.shiftRight_eq_div_pow
abbrev qT4:= @Int.eq_ofNat_of_zero_le
abbrev qT5:= @List.getElem?_set_ne
abbrev qT6:= @heap_setCell_same
abbrev qT7:= @IntKind.wrap_i64
abbrev qT8:= @List.not_mem_nil
abbrev qT9:= @Nat.mod_two_eq_zero_or_one
abbrev qU:= @Array.getD_eq_getD_getElem?
abbrev qUa:= @Nat.le_of_ble_eq_true
abbrev qUb:= @Sort.heap_grow_old
abbrev qUc:= @List.replicate_succ'
abbrev qUd:= @World.cell?_setCells_out
abbrev qUe:= @List.getElem?_take_of_lt
abbrev qUf:= @Array.all_eq_true_iff_forall_mem
abbrev qUg:= @List.mem_of_mem_take
abbrev qUh:= @BitVec.toNat_shiftLeft
abbrev qUi:= @BitVec.toNat_ushiftRight
abbrev qUj:= @List.Perm.pairwise_iff
abbrev qUk:= @List.mem_take_iff_getElem
abbrev qUl:= @List.eq_nil_iff_forall_not_mem
abbrev qUm:= @Array.getElem?_setIfInBounds
abbrev qUn:= @List.take_append_of_le_length
abbrev zP (b o:Nat):qz:=qY (qw ⟨b,o,qx⟩)
abbrev zI (n:Nat):qz:=qV qj (n:Int)
namespace Kit
variable {w w':qy} {a:Option yB} {xs:List qz} {B n c:Nat} {e:yA} {P:Program}
theorem zJ3 (len n:Nat) (N:Int) (b:N=(n:Int)):∃M:Nat,(if N<(len:Int)then N else(len:Int))=(M:Int)/\M<=len/\M<=n/\yH (M=min len n):=by
 subst b;refine⟨min len n,?_,za,za,rfl⟩;split<;>omega
theorem zRp (s:ByteArray) (n:Nat) (N:Int) (g:N=(n:Int)):∃(M:Nat) (t:ByteArray),(if N<(s.size:Int)then N else(s.size:Int))=(M:Int)/\M<=s.size/\s.extract 0 M=t/\t.size<=n/\yH (M=min s.size n):=by
 obtain⟨M,b,d,h,f⟩:=zJ3 s.size n N g;exact⟨M,_,b,d,rfl,by rw[qS2];omega,f⟩
def Src (w:qy) (a:Option yB) (xs:List qz):Prop:=∀j u,xs[j]? =qw u->∃b off,a=qw ⟨b,off,qx⟩/\w.cell? ⟨b,off+j,qx⟩=qw u
theorem addr_add (b off i:Nat):(⟨b,off,qx⟩:yB).add i=⟨b,off+i,qx⟩:=by
 unfold Addr.add;split<;>simp_all
theorem Src.below (h:Src w a xs) (g:yI w.heap.size w w'):Src w' a xs:=by
 intro j u i;obtain⟨b,c,f,d⟩:=h j u i;exact⟨b,c,f,by rw[g.cell (qQk d),d]⟩
theorem Src.nil (w:qy) (a:Option yB):Src w a []:=by intro j u b;simp at b
theorem Src.take (h:Src w a xs) (n:Nat):Src w a (xs.take n):=by
 intro j u b;refine h j u ?_;rw[qSb]at b;split at b
 ·exact b
 ·cases b
theorem zAs (w:qy) (v:qz) (t:yA):Src (w.alloc (qm #[v] t)) (qw ⟨w.heap.size,0,qx⟩) [v]:=by
 intro j u b
 match j,b with
 |0,b=>exact⟨_,_,rfl,by simp at b;subst b;simp⟩
def Own (w:qy) (B:Nat) (e:yA) (a:Option yB) (n c:Nat) (xs:List qz):Prop:=w.ownsRow B e 1 (qX a n c) n xs
theorem Own.len (h:Own w B e a n c xs):kG xs=n:=by
 have:=h.1;omega
theorem Own.start (w:qy) (B:Nat) (e:yA):Own w B e qx 0 0 []:=World.ownsRow_nil w B e 1
theorem Own.at_ (h:Own w B e a n c xs) (o:0<n):
  ∃g,a=qw ⟨g,0,qx⟩/\B<=g/\g<w.heap.size/\n<=c/\(∀j,j<n->w.cell? ⟨g,j,qx⟩=xs[j]?)/\(∀j,w.frozen? ⟨g,j,qx⟩=yE):=by
 have i:=h;obtain⟨_,l⟩:=h;rcases l with⟨_,s⟩|⟨g,p,q,hv,m,k,f,r,u,x⟩
 ·omega
 ·injection hv with ha o hc
  subst ha hc;refine⟨g,rfl,m,?_,f,fun j t=> ?_,fun j=> ?_⟩
  ·rcases qP8 g w.heap.size with d|b
   ·exact d
   ·rw[qRj b]at k;cases k
  ·exact qTk i j za
  ·exact World.ownsRow.frozenAt i j
theorem Own.src (h:Own w B e a n c xs):Src w a xs:=by
 intro j u d;have l:=h.len;have k:j<kG xs:=by
  rcases qP8 j (kG xs) with b|b
  ·exact b
  ·rw[qQp b]at d;cases d
 obtain⟨g,f,_,_,_,i,_⟩:=h.at_ za;exact⟨g,0,f,by rw[qQc,i j za,d]⟩
theorem Own.below {D:Nat} (h:Own w B e a n c xs) (o:yI D w w') (p:w.heap.size<=D):Own w' B e a n c xs:=by
 obtain⟨m,k⟩:=h;refine⟨m,?_⟩;rcases k with k|⟨g,j,d,hv,i,l,r⟩
 ·exact .inl k
 ·refine .inr ⟨g,j,d,hv,i,?_,r⟩;have b:g<w.heap.size:=by
   rcases qP8 g w.heap.size with b|f
   ·exact b
   ·rw[qRj f]at l;cases l
  rw[o.block g za,l]
theorem Own.alloc (h:Own w B e a n c xs) (o:Obj):Own (w.alloc o) B e a n c xs:=World.ownsRow.alloc h o
theorem Own.base {B':Nat} (h:Own w B e a n c xs) (k:B'<=B):Own w B' e a n c xs:=by
 obtain⟨i,f⟩:=h;refine⟨i,?_⟩;rcases f with f|⟨g,d,b,hv,j,r⟩
 ·exact .inl f
 ·exact .inr ⟨g,d,b,hv,za,r⟩
structure One (P:Program) (t e:yA) (bytes:Nat):Prop where
 ut:P.underlying t=qw (.slice e)
 row:∃z:qz,(P.info? e).map (fun i=>(i.zero,i.size,i.bytes))=qw (qw z,1,bytes)/\z.cells.size=1
theorem Own.app {bytes:Nat} {t ty:yA} (o:One P t e bytes) (h:Own w B e a n c xs)
  (x:Option yB) (m r:Nat) (q:List qz) (V:Src w x q) (O:kG q=m) (X:x=qx->m=0/\r=0) (L:∀u∈q,u.oneCell'=yD)
  (K:n+m<=maxLen) (H:(n+m)*bytes<=140737488355328) (I:B<=w.heap.size):
  ∃a' c' w',(Builtin.append_ #[t,t] ty #[qX a n c,qX x m r]).run P w= .ok (qX a' (n+m) c') w'/\Own w' B e a' (n+m) c' (xs++q)/\w.grownBy w' (Value.ownBlock (qX a n c)):=by
 obtain⟨z,Y,l⟩:=o.row;obtain⟨i,hi,f,p,d⟩:=qR0 Y;have b:∀{v:qz} {w':qy} {k:Nat} {G:List qz},w'.ownsRow B e 1 v k G->∃a' c',v=qX a' k c':=by
  intro v w' k G hv;rcases Joins.ownsRow_forms hv with⟨rfl,rfl⟩|⟨g,a0,rfl⟩
  ·exact⟨_,_,rfl⟩
  ·exact⟨_,_,rfl⟩
 cases x with
 |none=>
  obtain⟨rfl,rfl⟩:=X rfl;have R:q=[]:=qQz O;subst R;refine⟨a,c,w,run_append_owned_none (P:=P) (w:=w) B t ty e i 1 o.ut hi _ n xs h,by simpa using h,⟨rfl,rfl,rfl,Nat.le_refl _,fun _ _ _=>rfl⟩⟩
 |some y=>
  obtain⟨v',w',S,F,N,_⟩:=run_append_own (P:=P) w B t ty e i z 1 bytes o.ut hi f p d l za _ n xs h y m r q za
   (fun j u W=>by
    obtain⟨b',Z,s,M⟩:=V j u W;injection s with s
    subst s;rw[addr_add];exact M) L K H I
  obtain⟨a',c',rfl⟩:=b F;exact⟨a',c',w',S,F,N⟩
theorem zAr {b:Array Oper} {rest:List Oper} {o:Oper} {a:Act} {Q:Exit->Act->qy->Prop} (j:Region.wanted o (yielded b a.tmps)=yD) (s x:Operand) (t:yA)
  (f:o.op= .call {callee:= .builtin .append,args:= #[s,x],argTypes:= #[t,t]}) {v y v':qz} (i:a.eval s=v) (k:a.eval x=y)
  (g:(Builtin.append_ #[t,t] o.type #[v,y]).run P w= .ok v' w') (h:wpList P b Q rest (a.put o.dst v') w'):wpList P b Q (o::rest) a w:=by
 refine BigFrame.wpList_want j fun K d=> ?_;unfold Oper.wp execOp;simp only[f,resolve,invoke,builtin,qRk,qSp,qS3,List.map_toArray,qQa,qSq,i,k,g];exact d _ _ h
theorem zAq {v:qz} (d:w.grownBy w' (Value.ownBlock v)) (b:B<=w.heap.size) (hv:∀k,v.ownBlock=qw k->B<=k):yI B w w':=
 (yN _ _).grown d b hv
theorem Own.block (h:Own w B e a n c xs):∀k,(Value.slice a n c).ownBlock=qw k->B<=k:=by
 intro k b;exact(World.ownsRow.lt h k b).1
theorem Own.set {g:Nat} (h:Own w B e (qw ⟨g,0,qx⟩) n c xs) (j:Nat) (u:qz) (q:j<n):Own (w.setCell ⟨g,j,qx⟩ u) B e (qw ⟨g,0,qx⟩) n c (xs.set j u):=by
 obtain⟨k,i⟩:=h;refine⟨by rw[qR1];exact k,?_⟩;rcases i with⟨i,_⟩|⟨g',p,a,hv,b,l,f,d,m,o⟩
 ·cases i
 ·injection hv with ha hn hc
  injection ha with ha
  injection ha with ha
  subst ha hc;refine .inr ⟨g,c,a.setIfInBounds j u,rfl,b,?_,f,d,by simpa using m,?_⟩
  ·simp[World.setCell,qQs,l]
  ·rw[<-o];simp[List.take_set]
end Kit
namespace Kit
section
variable {P:Program} {ops:Array Oper} {Q:Exit->Act->qy->Prop} {md:Region.Mode}
theorem zX7 {c:Nat} {a:Act} {w:qy} (b:P.follows .mixedOrders=yD) (h:wpAny P .any ops Q ops.size (Array.replicate ops.size yE) a w.drew):(Code.region c ops yD).wp P Q a w:=
 wp_region_any b h
theorem zBc (i:Nat) {o:Oper} (v:qz) {d:Nat} {b:Array Bool} {a:Act} {w:qy} (hi:ops[i]? =qw o) (j:Region.noSelect ops=yD) (f:Region.free md ops b i=yD)
  (g:(Region.ready md ops b).contains i=yD) (e:∀c a w,Q (.panic c) (a.put o.dst v) w->Q (.panic c) a w) (k:Region.wanted o (yielded ops a.tmps)=yD) (hv:∀w,(execOp a.eval o).run P w= .ok (.value v) w)
  (h:wpAny P md ops Q d (b.setIfInBounds i yD) (a.put o.dst v) w):wpAny P md ops Q (d+1) b a w:=
 wpAny_take hi j f g e (.inl ⟨k,hv⟩) h
theorem zJ1 (i:Nat) {o:Oper} {c:Nat} {b:Array Bool} {a:Act} {w:qy} (hi:ops[i]? =qw o) (e:Region.ready md ops b=[i]) (f:Region.wanted o (yielded ops a.tmps)=yD)
  (h:Oper.wp P o a w (wpAny P md ops Q c (b.setIfInBounds i yD)) Q):wpAny P md ops Q (c+1) b a w:=
 wpAny_ready e zm (AllReady.cons hi (fun K d=>by rw[qPr f];exact Oper.wp_mono d h) AllReady.nil)
theorem zRl {o:Oper} {a:Act} {w:qy} {K:Act->qy->Prop} (f:FuncId) (args:Array qz) (v:qz) {R:qy->Prop}
  (c:(execOp a.eval o).run P w= .ok (.enter f args) w) (g:yC P f args w fun e b=>e=qp v/\R b) (h:∀w',R w'->K (a.put o.dst v) w'):Oper.wp P o a w K Q:=by
 unfold Oper.wp;rw[c,Oper.upon_enter];refine g.mono fun e b i=> ?_;obtain⟨rfl,d⟩:=i;exact h _ d
theorem zJ0 {o:Oper} {a:Act} {w w':qy} {K:Act->qy->Prop} (v:qz) (b:(execOp a.eval o).run P w= .ok (.value v) w') (h:K (a.put o.dst v) w'):Oper.wp P o a w K Q:=by
 unfold Oper.wp;rw[b,Oper.upon_value];exact h
end
theorem zHb {P:Program} {ρ:Operand->qz} {o:Oper} {w w':qy} (s x:Operand) (t:yA) {v y v':qz} (a:o.op= .call {callee:= .builtin .append,args:= #[s,x],argTypes:= #[t,t]})
  (c:ρ s=v) (d:ρ x=y) (b:(Builtin.append_ #[t,t] o.type #[v,y]).run P w= .ok v' w'):(execOp ρ o).run P w= .ok (.value v') w':=by
 unfold execOp;simp only[a,resolve,invoke,builtin,qRk,qSp,qS3,List.map_toArray,qQa,qSq,c,d,b]
end Kit
namespace Kit
section
variable {P:Program} {ops:Array Oper} {w:qy} {Q:Act->Prop} {a:Act} {o:Oper} {rest:List Oper}
end
section
variable {P:Program} {ops:Array Oper} {w w':qy} {Q:Exit->Act->qy->Prop} {a:Act} {o:Oper} {rest:List Oper}
theorem zHa {ρ:Operand->qz} {t:yA} {x y:Operand} {p:yB} {v:qz} (b:o.op= .store t x y) (d:ρ x=qY (qw p)) (e:ρ y=v) (c:(storeVar t p v).run P w= .ok () w'):(execOp ρ o).run P w= .ok .skip w':=by
 unfold execOp;simp only[b,d,e,Instr.storeAt,Instr.sureAddr,qRk,qSp,qS3,c]
end
theorem zAw {P:Program} {ρ:Operand->qz} {o:Oper} {t e:yA} {x y:Operand} {g n c k sz:Nat} (b:o.op= .indexAddr t x y) (f:ρ x=qX (qw ⟨g,0,qx⟩) n c) (h:ρ y=qV qj (k:Int)) (j:k<n)
  (d:P.underlying t=qw (.slice e)) (i:∀w,(sizeOf e).run P w= .ok sz w) (w:qy):(execOp ρ o).run P w= .ok (.value (qY (qw ⟨g,k*sz,qx⟩))) w:=by
 have a:(0:Int)<=(k:Int)/\(k:Int)<(n:Int):=⟨za,za⟩;unfold execOp;simp[b,f,h,Instr.indexAt,asIntOf,qRk,qTl d,a,i,Kit.addr_add];omega
theorem qCt {P:Program} {ρ:Operand->qz} {o:Oper} {t e:yA} {x y:Operand} {g off n c k sz:Nat} (b:o.op= .indexAddr t x y) (f:ρ x=qX (qw ⟨g,off,qx⟩) n c) (h:ρ y=qV qj (k:Int)) (j:k<n)
  (d:P.underlying t=qw (.slice e)) (i:∀w,(sizeOf e).run P w= .ok sz w) (w:qy):(execOp ρ o).run P w= .ok (.value (qY (qw ⟨g,off+k*sz,qx⟩))) w:=by
 have a:(0:Int)<=(k:Int)/\(k:Int)<(n:Int):=⟨za,za⟩;unfold execOp;simp[b,f,h,Instr.indexAt,asIntOf,qRk,qTl d,a,i,Kit.addr_add];omega
theorem zBo {P:Program} {ρ:Operand->qz} {o:Oper} {t e:yA} {x y:Operand} {g n c k:Nat} (b:o.op= .indexAddr t x y) (f:ρ x=qX (qw ⟨g,0,qx⟩) n c) (h:ρ y=qV qj (k:Int)) (a:k<n)
  (d:P.underlying t=qw (.slice e)) (i:∀w,(sizeOf e).run P w= .ok 1 w) (w:qy):(execOp ρ o).run P w= .ok (.value (qY (qw ⟨g,k,qx⟩))) w:=by
 have:=zAw (P:=P) (sz:=1) b f h a d i w;rwa[Nat.mul_one]at this
theorem zM7 {P:Program} {ρ:Operand->qz} {o:Oper} {t:yA} {x:Operand} {p:yB} {v:qz} {w:qy} (a:o.op= .load t x) (c:ρ x=qY (qw p)) (b:(loadVar t p).run P w= .ok v w):(execOp ρ o).run P w= .ok (.value v) w:=by
 unfold execOp;simp[a,c,Instr.loadAt,Instr.sureAddr,b]
theorem zAg {P:Program} {t:yA} {p:yB} {v:qz} {w:qy} (d:w.cell? p=qw v) (a:(P.info? t).map (·.size)=qw 1) (c:(isAgg t).run P w= .ok yE w):(loadVar t p).run P w= .ok v w:=by
 cases hq:P.info? t with
 |none=>simp[hq]at a
 |some i=>
  have b:i.size=1:=by simpa [hq]using a
  simp[loadVar,sizeOf,typeInfo,hq,b,go_sem,d,c]
theorem zDa {P:Program} {ρ:Operand->qz} {o:Oper} {w a w2:qy} {n:Nat} (h:(execOp ρ o).run P w= .ok (.value (qY (qw ⟨w.heap.size,0,qx⟩))) a) (c:w.heap.size=n) (b:a=w2):(execOp ρ o).run P w= .ok (.value (qY (qw ⟨n,0,qx⟩))) w2:=by
 subst c b;exact h
theorem zM6 {P:Program} {ρ:Operand->qz} {o:Oper} {t u:yA} {x y:Operand} {k:IntKind} {m n r:Int} (a:o.op= .binOp .sub t x y u) (c:ρ x=qV k m) (d:ρ y=qV k n) (b:k.wrap (m-n)=r) (w:qy):(execOp ρ o).run P w= .ok (.value (qV k r)) w:=by
 unfold execOp;simp[a,c,d,go_sem,b]
theorem qCv {P:Program} {ρ:Operand->qz} {o:Oper} {t u:yA} {x y:Operand} {k:IntKind} {m n r:Int} (a:o.op= .binOp .add t x y u) (c:ρ x=qV k m) (d:ρ y=qV k n) (b:k.wrap (m+n)=r) (w:qy):(execOp ρ o).run P w= .ok (.value (qV k r)) w:=by
 unfold execOp;simp[a,c,d,go_sem,b]
theorem zDs {P:Program} {t:yA} {p:yB} {v k:qz} {w:qy} (g:w.cell? p=qw k) (h:w.frozen? p=yE) (a:(P.info? t).map (·.size)=qw 1) (b:v.oneCell'=yD) (c:v.cells= #[v]):(storeVar t p v).run P w= .ok () (w.setCell p v):=by
 cases hq:P.info? t with
 |none=>simp[hq]at a
 |some i=>
  have j:i.size=1:=by simpa [hq]using a
  have d:(store p v).run P w= .ok () (w.setCell p v):=by rw[run_store P w p v _ b];simp[go_sem,g,h]
  have e:(storeCells p [v]).run P w= .ok () (w.setCell p v):=by simp[go_sem,d]
  have f:(sizeOf t).run P w= .ok 1 w:=by simp[sizeOf,typeInfo,hq,j,go_sem]
  unfold storeVar;rw[c];simp[qRk,f,e]
end Kit
namespace Kit
section
variable {P:Program} {ops:Array Oper} {md:Region.Mode} {w:qy}
structure Inv (md:Region.Mode) (ops:Array Oper) (listed0 listed:Array Bool):Prop where
 size:listed.size=ops.size
 closed:∀j oj,ops[j]? =qw oj->listed.getD j yE=yD->∀e∈oj.after,Region.binds md e=yD->listed.getD e.on yE=yD
 more:∀j,listed0.getD j yE=yD->listed.getD j yE=yD
theorem Inv.set {h f:Array Bool} {i:Nat} (g:Inv md ops h f) (hi:i∈Region.ready md ops f):Inv md ops h (f.setIfInBounds i yD):=by
 obtain⟨_,o,c,b⟩:=qRv.1 hi;refine⟨by simp[g.size],fun j n d m e l k=> ?_,fun j d=>getD_set_true (g.more j d)⟩;by_cases a:i=j
 ·subst a;have:n=o:=qPv (d.symm.trans c);subst this;exact getD_set_true (b e l k)
 ·rw[getD_set_ne yE a]at m;exact getD_set_true (g.closed j n d m e l k)
def zC (md:Region.Mode) (o:Oper):Nat:=o.after.foldl (fun m e=>if Region.binds md e then m|||(1<<<e.on)else m) 0
theorem zOz (md:Region.Mode):∀(l:List Edge) (m k:Nat),(l.foldl (fun m e=>if Region.binds md e then m|||(1<<<e.on)else m) m).testBit k=(m.testBit k||l.any fun e=>Region.binds md e&&e.on==k)
 |[],m,k=>by simp
 |e::l,m,k=>by
  rw[qTm,zOz md l _ k,List.any_cons];cases hb:Region.binds md e with
  |false=>simp
  |true=>
   rw[qPr rfl,qR5,qTa,qTb,show yF (e.on=k)=(e.on==k)from rfl];simp[Bool.or_assoc]
theorem zEx (o:Oper) (k:Nat):(zC md o).testBit k=yD↔∃e∈o.after,Region.binds md e=yD/\e.on=k:=by
 unfold zC;rw[<-Array.foldl_toList,zOz,Nat.zero_testBit,Bool.false_or,List.any_eq_true];constructor
 ·rintro⟨e,a,h⟩;simp only[qQ7,qSr]at h;exact⟨e,by simpa using a,h.1,h.2⟩
 ·rintro⟨e,a,b,c⟩;exact⟨e,by simpa using a,by rw[b,c];simp⟩
def zG2 (L i:Nat):Bool:= !(Nat.beq (Nat.land (Nat.shiftRight L i) 1) 0)
theorem zFt (L i:Nat):zG2 L i=L.testBit i:=by
 unfold zG2;rw[show Nat.land (Nat.shiftRight L i) 1=(L>>>i)&&&1 from rfl,Nat.and_one_is_mod,Nat.testBit,Nat.and_comm,Nat.and_one_is_mod];rcases qT9 (L>>>i)with h|h<;>rw[h]<;>rfl
def inB (m L:Nat):Bool:=Nat.beq (Nat.land m L) m
theorem zH6 {m L:Nat}:inB m L=yD↔∀k,m.testBit k=yD->L.testBit k=yD:=by
 unfold inB;constructor
 ·intro h k a;have h:(m&&&L)=m:=qT1 h;rw[<-h,Nat.testBit_and]at a;simp only[qQ7]at a;exact a.2
 ·intro h;have e:(m&&&L)=m:= ?_
  ·show Nat.beq (m&&&L) m=yD;rw[e];exact Nat.beq_refl m
  apply Nat.eq_of_testBit_eq;intro k;rw[Nat.testBit_and];cases hm:m.testBit k with
  |false=>rfl
  |true=>rw[h k hm];rfl
def zA1 (L:Nat):List Nat->Nat->List Nat
 |[],_=>[]
 |m::r,i=>cond (zG2 L i) (zA1 L r (i+1)) (cond (inB m L) (i::zA1 L r (i+1)) (zA1 L r (i+1)))
theorem zDd (L:Nat):∀(f:List Nat) (i j:Nat),j∈zA1 L f i↔i<=j/\L.testBit j=yE/\∃m,f[j-i]? =qw m/\inB m L=yD
 |[],i,j=>by simp[zA1]
 |m::r,i,j=>by
  have g:=zDd L r (i+1) j;have step:i+1<=j->(m::r)[j-i]? =r[j-(i+1)]? :=fun h=>by rw[show j-i=(j-(i+1))+1 by omega];rfl
  have a:j∈zA1 L (m::r) i↔(j=i/\L.testBit i=yE/\inB m L=yD)\/j∈zA1 L r (i+1):=by
   rw[zA1,zFt];cases hb:L.testBit i with
   |true=>simp
   |false=>
    cases hm:inB m L with
    |false=>simp
    |true=>simp
  rw[a,g];constructor
  ·rintro(⟨rfl,d,b⟩|⟨d,b,m',c,e⟩)
   ·exact⟨qPq _,d,m,zm,b⟩
   ·exact⟨za,b,m',by rw[step d];exact c,e⟩
  ·rintro⟨d,b,m',c,e⟩;rcases qP8 i j with h|h
   ·exact .inr ⟨h,b,m',by rw[<-step h];exact c,e⟩
   ·obtain rfl:i=j:=za
    simp at c;subst c;exact .inl ⟨rfl,b,e⟩
def zEv:List Nat->Nat->Nat->Nat
 |[],_,acc=>acc
 |m::r,t,acc=>zEv r (t+1) (cond (Nat.beq (Nat.land m acc) 0) acc (Nat.lor acc (Nat.shiftLeft 1 t)))
structure Facts (md:Region.Mode) (ops:Array Oper) (ms:List Nat):Prop where
 sel:Region.noSelect ops=yD
 wait:ops.toList.map (zC md)=ms
 apart:∀(i j:Nat) (oi oj:Oper),ops[i]? =qw oi->ops[j]? =qw oj->i≠j->(zC md oj).testBit i=yE->(zC md oi).testBit j=yE->oi.apart ops oj=yD
def zJb (ops:Array Oper) (a:Nat) (x:Oper) (i:Nat):List Oper->List Nat->Nat->Bool
 |y::r,my::s,j=>(cond (Nat.beq i j) true (cond (zG2 my i) true (cond (zG2 a j) true (x.apart ops y))))&&zJb ops a x i r s (j+1)
 |_,_,_=>true
def zD (ops:Array Oper) (b:List Oper) (a:List Nat):List Oper->List Nat->Nat->Bool
 |x::r,mx::s,i=>zJb ops mx x i b a 0&&zD ops b a r s (i+1)
 |_,_,_=>true
theorem zKw (b:Nat) (x:Oper) (i:Nat):∀(r:List Oper) (s:List Nat) (j:Nat),zJb ops b x i r s j=yD->∀k y a,r[k]? =qw y->s[k]? =qw a->i≠j+k->a.testBit i=yE->b.testBit (j+k)=yE->x.apart ops y=yD
 |[],_,_,_,k,y,a,h,_,_,_,_=>by simp at h
 |_::_,[],_,_,k,y,a,_,h,_,_,_=>by simp at h
 |y0::r,m0::s,j,h,k,y,a,hy,hm,hne,h1,h2=>by
  rw[zJb,qQ7]at h;cases k with
  |zero=>
   simp at hy hm;subst hy hm;have c:=h.1;rw[zFt,zFt,h1,show b.testBit j=yE from h2,show Nat.beq i j=yE from by cases hb:Nat.beq i j with|false=>rfl|true=>exact absurd (qT1 hb) za]at c;exact c
  |succ k=>
   exact zKw b x i r s (j+1) h.2 k y a (by simpa using hy) (by simpa using hm) za h1 (by rw[show j+1+k=j+(k+1)by omega];exact h2)
theorem zIk (c:List Oper) (b:List Nat):∀(r:List Oper) (s:List Nat) (i:Nat),zD ops c b r s i=yD->∀k x a,r[k]? =qw x->s[k]? =qw a->zJb ops a x (i+k) c b 0=yD
 |[],_,_,_,k,x,a,h,_=>by simp at h
 |_::_,[],_,_,k,x,a,_,h=>by simp at h
 |x0::r,m0::s,i,h,k,x,a,hx,hm=>by
  rw[zD,qQ7]at h;cases k with
  |zero=>simp at hx hm;subst hx hm;exact h.1
  |succ k=>
   have:=zIk c b r s (i+1) h.2 k x a (by simpa using hx) (by simpa using hm);rwa[show i+1+k=i+(k+1)by omega]at this
theorem Facts.mk' {a:List Nat} (n:Region.noSelect ops=yD) (c:ops.toList.map (zC md)=a) (l:zD ops ops.toList a ops.toList a 0=yD):Facts md ops a:=by
 refine⟨n,c,fun i j b d hi m hne h k=> ?_⟩;have e:ops.toList[i]? =qw b:=by simpa using hi
 have f:ops.toList[j]? =qw d:=by simpa using m
 have o:a[i]? =qw (zC md b):=by rw[<-c,qP2,e];rfl
 have p:a[j]? =qw (zC md d):=by rw[<-c,qP2,f];rfl
 have g:=zIk ops.toList a ops.toList a 0 l i b _ e o;rw[qQc]at g;exact zKw _ b i ops.toList a 0 g j d _ f p za h (by rw[qQc];exact k)
theorem Facts.at_ {a:List Nat} (F:Facts md ops a) {i m:Nat} (h:a[i]? =qw m):∃o,ops[i]? =qw o/\zC md o=m:=by
 rw[<-F.wait,qP2]at h;cases ho:ops.toList[i]? with
 |none=>rw[ho]at h;cases h
 |some o=>rw[ho]at h;exact⟨o,by simpa using ho,Option.some.inj h⟩
theorem Facts.get {a:List Nat} (F:Facts md ops a) {i:Nat} {o:Oper} (h:ops[i]? =qw o):a[i]? =qw (zC md o):=by
 rw[<-F.wait,List.getElem?_map,show ops.toList[i]? =qw o by simpa using h];rfl
structure Cor (md:Region.Mode) (ops:Array Oper) (listed:Array Bool) (L:Nat):Prop where
 inv:Inv md ops listed listed
 bit:∀j,listed.getD j yE=L.testBit j
theorem Cor.ready {n:List Nat} (F:Facts md ops n) {l:Array Bool} {L:Nat} (c:Cor md ops l L) (j:Nat):j∈Region.ready md ops l↔j∈zA1 L n 0:=by
 rw[qRv,zDd];constructor
 ·rintro⟨g,o,f,a⟩;refine⟨qQq _,by rw[<-c.bit];exact getD_both g,zC md o,F.get f,?_⟩;rw[zH6];intro k p;obtain⟨e,i,h,rfl⟩:=(zEx o k).1 p;rw[<-c.bit];exact a e i h
 ·rintro⟨_,g,m,q,b⟩;obtain⟨o,f,rfl⟩:=F.at_ q;have d:j<ops.size:=(qQ5.1 f).1;refine⟨getD_in (by rw[c.inv.size];exact d) (by rw[c.bit];exact g),o,f,fun e i h=> ?_⟩;rw[c.bit];exact zH6.1 b _ ((zEx o _).2 ⟨e,i,h,rfl⟩)
theorem Cor.set {b:Array Bool} {L:Nat} (c:Cor md ops b L) {i:Nat} (hi:i∈Region.ready md ops b):Cor md ops (b.setIfInBounds i yD) (L|||1<<<i):=by
 have h:=c.inv.set hi;obtain⟨_,o,d,_⟩:=qRv.1 hi;have a:i<ops.size:=(qQ5.1 d).1;refine⟨⟨h.size,h.closed,fun _ h=>h⟩,fun j=> ?_⟩;rw[qR5,qTa,qTb];by_cases e:i=j
 ·subst e;have:i<(b.setIfInBounds i yD).size:=by simp[c.inv.size,a]
  simp[qU,c.inv.size,a]
 ·rw[getD_set_ne yE e,c.bit];simp[e]
theorem Cor.free {s:List Nat} (F:Facts md ops s) {k:Array Bool} {L:Nat} (c:Cor md ops k L) {i:Nat} {g:Oper} (hi:ops[i]? =qw g) (r:i∈Region.ready md ops k):
  ∀j f,ops[j]? =qw f->j≠i->k.getD j yD=yE->(∀e∈f.after,Region.binds md e=yD->e.on≠i)->g.apart ops f=yD:=by
 intro j f q hne p o;refine F.apart i j g f hi q (qQ2 hne) ?_ ?_
 ·cases h:(zC md f).testBit i with
  |false=>rfl
  |true=>
   obtain⟨e,m,l,a⟩:=(zEx f i).1 h;exact absurd a (o e m l)
 ·cases h:(zC md g).testBit j with
  |false=>rfl
  |true=>
   obtain⟨e,m,l,a⟩:=(zEx g j).1 h;obtain⟨_,t,d,b⟩:=qRv.1 r;have:t=g:=qPv (d.symm.trans hi);subst this;have n:=b e m l;rw[a,getD_both p]at n;cases n
theorem meets {m a:Nat} (h:Nat.beq (Nat.land m a) 0=yE):∃k,m.testBit k=yD/\a.testBit k=yD:=by
 have c:(m&&&a)≠0:=by
  intro e;rw[show Nat.land m a=(m&&&a)from rfl,e]at h;cases h
 obtain⟨k,b⟩:=Nat.exists_testBit_of_ne_zero c;rw[Nat.testBit_and,qQ7]at b;exact⟨k,b⟩
theorem zIb {s:List Nat} (F:Facts md ops s) {q:Array Bool} {L:Nat} (c:Cor md ops q L) (i:Nat):∀(B:List Nat) (t p:Nat),(∀k,B[k]? =s[t+k]?)->
  (∀k,p.testBit k=yD->L.testBit k=yE/\(k=i\/k∉Region.ready md ops q))->∀k,(zEv B t p).testBit k=yD->L.testBit k=yE/\(k=i\/k∉Region.ready md ops q)
 |[],t,p,_,h,k,hk=>h k hk
 |m::r,t,p,hms,h,k,hk=>by
  have H:s[t]? =qw m:=by have:=hms 0;simpa using this.symm
  have z:∀k,r[k]? =s[t+1+k]? :=fun k=>by have:=hms (k+1);rw[show t+1+k=t+(k+1)by omega];simpa using this
  obtain⟨o,y,I⟩:=F.at_ H;rw[zEv]at hk;cases hb:Nat.beq (Nat.land m p) 0 with
  |true=>
   rw[hb]at hk;exact zIb F c i r (t+1) p z h k hk
  |false=>
   rw[hb]at hk;refine zIb F c i r (t+1) _ z (fun j u=> ?_) k hk;rw[cond_false,show Nat.lor p (Nat.shiftLeft 1 t)=p|||1<<<t from rfl,qR5,qTa,qTb,qTu,qRl]at u;rcases u with u|rfl
   ·exact h j u
   ·obtain⟨d,b,l⟩:=meets hb;have a:=(h d l).1;rw[<-I]at b;obtain⟨e,x,f,rfl⟩:=(zEx o d).1 b;rw[<-c.bit]at a;refine⟨?_,.inr fun G=> ?_⟩
    ·rw[<-c.bit];cases hl:q.getD t yE with
     |false=>rfl
     |true=>rw[c.inv.closed t o y hl e x f]at a;cases a
    ·obtain⟨_,K,n,g⟩:=qRv.1 G;have:K=o:=qPv (n.symm.trans y);subst this;rw[g e x f]at a;cases a
theorem zRm {a:List Nat} (F:Facts md ops a) {b:Array Bool} {L:Nat} (c:Cor md ops b L) {i:Nat} (hi:L.testBit i=yE) (t:Nat) (e:(zEv a 0 (Nat.shiftLeft 1 i)).testBit t=yD):t=i\/t∉Region.ready md ops b:=by
 refine(zIb F c i a 0 (Nat.shiftLeft 1 i) (fun k=>by rw[qQc]) (fun k d=> ?_) t e).2;rw[show Nat.shiftLeft 1 i=1<<<i from rfl,qTa,qTb,qRl]at d;subst d;exact⟨hi,.inl rfl⟩
def zBj:List Nat->Nat
 |[]=>0
 |i::l=>Nat.lor (Nat.shiftLeft 1 i) (zBj l)
theorem zHz:∀(l:List Nat) (k:Nat),(zBj l).testBit k=yD↔k∈l
 |[],k=>by simp[zBj]
 |i::l,k=>by
  rw[zBj,show Nat.lor (Nat.shiftLeft 1 i) (zBj l)=1<<<i|||zBj l from rfl,qR5,qTa,qTb,qTu,zHz l k];simp[eq_comm]
def zMn (a:List Nat) (L M:Nat) (is:List Nat):Bool:=is.all fun i=>let d:=zEv a 0 (Nat.shiftLeft 1 i);(yK (kG a)).all fun t=>zG2 L t||zG2 M t||zG2 d t
theorem Facts.len {a:List Nat} (F:Facts md ops a):kG a=ops.size:=by rw[<-F.wait];simp
theorem zMm {h:List Nat} (F:Facts md ops h) {is:List Nat} {L0 L:Nat} {f:Array Bool} (l:zMn h L0 (zBj is) is=yD) (c:Cor md ops f L) (m:∀k,L0.testBit k=yD->L.testBit k=yD) {i:Nat} (g:i∈is) (hi:L.testBit i=yE):
  ∀j∈Region.ready md ops f,j∈is:=by
 intro j e;have a:j<ops.size:=by
  obtain⟨_,o,n,_⟩:=qRv.1 e;exact(qQ5.1 n).1
 have b:=List.all_eq_true.1 (List.all_eq_true.1 l i g) j (qQm.2 (by rw[F.len];exact a));simp only[qTu,zFt]at b;rcases b with(b|b)|b
 ·have d:=getD_both (qRv.1 e).1;rw[c.bit,m j b]at d;cases d
 ·exact(zHz is j).1 b
 ·rcases zRm F c hi j b with rfl|d
  ·exact g
  ·exact absurd e d
def zC5 (P:Program) (md:Region.Mode) (ops:Array Oper) (Q:Exit->Act->qy->Prop) (D:List Nat) (S:qy->Prop):Nat->Array Bool->Act->qy->Prop
 |0,listed,a,w=>Region.ready md ops listed=[]/\Q .normal a w
 |fuel+1,listed,a,w=>
  (Region.ready md ops listed=[]->Q .normal a w)/\
  ∀i∈Region.ready md ops listed,wpOp P ops Q i (fun a' w'=>(w'=w\/D.contains i=yD\/S w')/\zC5 P md ops Q D S fuel (listed.setIfInBounds i yD) a' w') a w
theorem zLw {Q:Exit->Act->qy->Prop} {D:List Nat} {S:qy->Prop}:∀(b:Nat) (c:Array Bool) (a:Act) (w:qy),zC5 P md ops Q D S b c a w->wpAny P md ops Q b c a w
 |0,_,_,_,h=>h
 |b+1,_,_,_,h=>⟨h.1,fun i hi=>wpOp_mono (fun a' w' d=>zLw b _ a' w' d.2) (h.2 i hi)⟩
theorem zIm {K:List Nat} (F:Facts md ops K) {Q:Exit->Act->qy->Prop} {D:List Nat} {S S0:qy->Prop} {i:Nat} {y:Oper} {v:qz} (hi:ops[i]? =qw y)
  (V:∀c a w,Q (.panic c) (a.put y.dst v) w->Q (.panic c) a w) (R:∀(j:Nat) (w w':qy),(zEv K 0 (Nat.shiftLeft 1 i)).testBit j=yE\/j=i->(w'=w\/D.contains j=yD\/S w')->S0 w->S0 w'):
  ∀(t:Nat) (r:Array Bool) (L:Nat) (a:Act) (w:qy),Cor md ops r L->i∈Region.ready md ops r->YieldsIf P ops S0 y v a->S0 w->
   zC5 P md ops Q D S t (r.setIfInBounds i yD) (a.put y.dst v) w->zC5 P md ops Q D S (t+1) r a w:=by
 have g:=Region.noSelect_spec F.sel;intro t
 induction t with
 |zero=>
  intro r L a w u q I G H;refine⟨fun h=>(by rw[h]at q;cases q),fun j s=> ?_⟩;by_cases d:j=i
  ·subst d;exact I.wpOp hi G ⟨.inl rfl,H⟩
  ·have:=ready_mono s d;rw[H.1]at this;cases this
 |succ t ih=>
  intro r L a w u q I G H;have k:=getD_both (qRv.1 q).1;refine⟨fun h=>(by rw[h]at q;cases q),fun j s=> ?_⟩;by_cases d:j=i
  ·subst d;exact I.wpOp hi G ⟨.inl rfl,H⟩
  ·have z:=H.2 j (ready_mono s d);obtain⟨n,N,f,l⟩:=qRv.1 s;have m:∀e∈N.after,Region.binds md e=yD->e.on≠i:=fun e X W O=>by
    have z:=l e X W;rw[O,k]at z;cases z
   have p:(zEv K 0 (Nat.shiftLeft 1 i)).testBit j=yE\/j=i:=by
    cases h:(zEv K 0 (Nat.shiftLeft 1 i)).testBit j with
    |false=>exact .inl rfl
    |true=>
     rcases zRm F u (by rw[<-u.bit];exact k) j h with x|x
     ·exact .inr x
     ·exact absurd s x
   have x:=wpOp_putIf f (u.free F hi q j N f d n m) (fun M b=>g i y M b hi) (fun M b=>g j N M b f) V I z;refine wpOp_mono (fun a' w' B=> ?_) x;have o:S0 w':=R j w w' p B.2.1 G;refine⟨B.2.1,ih (r.setIfInBounds j yD) _ a' w' (u.set s) (ready_mono q (qQ2 d)) B.1 o ?_⟩;rw[Array.setIfInBounds_comm _ _ d];exact B.2.2
def wpM (P:Program) (md:Region.Mode) (ops:Array Oper) (w:qy) (is:List Nat) (L:Array Bool->Act->Prop):Nat->Array Bool->Act->Prop
 |0,listed,a=>L listed a
 |f+1,listed,a=>Region.ready md ops listed≠[]/\∀i∈Region.ready md ops listed,i∈is/\stOp P ops w i (wpM P md ops w is L f (listed.setIfInBounds i true)) a
theorem zKd {S:qy->Prop} {D is:List Nat} {g:Nat} {L:Array Bool->Act->Prop} {c:Exit->Act->qy->Prop} (d:∀b a,L b a->zC5 P md ops c D S g b a w):
  ∀(f:Nat) (b:Array Bool) (a:Act),wpM P md ops w is L f b a->zC5 P md ops c D S (f+g) b a w
 |0,b,a,h=>by rw[qQc];exact d _ _ h
 |f+1,b,a,h=>by
  rw[show f+1+g=(f+g)+1 by omega];exact⟨fun j=>absurd j h.1,fun i hi=>wpOp_of_stOp (fun a' e=>⟨.inl rfl,zKd d f _ a' e⟩) (h.2 i hi).2⟩
theorem zV6 {N:List Nat} (F:Facts md ops N) {is:List Nat} {L0:Nat} {i:Nat} {z:Oper} {v:qz} {Lq:Array Bool->Act->Prop} (hi:ops[i]? =qw z)
  (M:zMn N L0 (zBj is) is=yD) (I:i∈is) (O:∀q a,Lq q a->∀j∈Region.ready md ops q,j∉is):
  ∀(f:Nat) (q:Array Bool) (L:Nat) (a:Act),Cor md ops q L->(∀k,L0.testBit k=yD->L.testBit k=yD)->i∈Region.ready md ops q->YieldsAt P ops w z v a->
   wpM P md ops w is Lq f (q.setIfInBounds i yD) (a.put z.dst v)->wpM P md ops w is Lq (f+1) q a:=by
 have m:=Region.noSelect_spec F.sel;intro f
 induction f with
 |zero=>
  intro q L a s x r y H;have g:=getD_both (qRv.1 r).1;refine⟨fun h=>(by rw[h]at r;cases r),fun j t=> ?_⟩;have d:=zMm F M s x I (by rw[<-s.bit];exact g) j t;refine⟨d,?_⟩;by_cases c:j=i
  ·subst c;exact y.stOp hi H
  ·exact absurd d (O _ _ H j (ready_mono t c))
 |succ f ih=>
  intro q L a s x r y H;have g:=getD_both (qRv.1 r).1;refine⟨fun h=>(by rw[h]at r;cases r),fun j t=> ?_⟩;have d:=zMm F M s x I (by rw[<-s.bit];exact g) j t;refine⟨d,?_⟩;by_cases c:j=i
  ·subst c;exact y.stOp hi H
  ·have u:=(H.2 j (ready_mono t c)).2;obtain⟨p,G,l,n⟩:=qRv.1 t;have o:∀e∈G.after,Region.binds md e=yD->e.on≠i:=fun e W V R=>by
    have u:=n e W V;rw[R,g]at u;cases u
   have S:=stOp_put l (s.free F hi r j G l c p o) (fun B b=>m i z B b hi) (fun B b=>m j G B b l) y u;refine stOp_mono (fun a' K=>ih (q.setIfInBounds j yD) _ a' (s.set t) (fun k X=>by rw[qR5,x k X,Bool.true_or]) (ready_mono r (qQ2 c)) K.1 ?_) S;rw[Array.setIfInBounds_comm _ _ c];exact K.2
def zE9 (a:List Nat):List Nat->Nat->Bool
 |[],_=>true
 |i::l,L=> !(zG2 L i)&&(match a[i]? with
   |some m=>inB m L
   |none=>false)&&zE9 a l (Nat.lor L (Nat.shiftLeft 1 i))
def zWw:List Nat->Array Bool->Array Bool
 |[],listed=>listed
 |i::l,listed=>zWw l (listed.setIfInBounds i true)
def phs (P:Program) (ops:Array Oper) (w:qy) (K:Act->Prop):List Nat->Act->Prop
 |[],a=>K a
 |i::l,a=>stOp P ops w i (phs P ops w K l) a
theorem zOs {a:List Nat} (F:Facts md ops a) {d:Array Bool} {L i:Nat} {l:List Nat} (c:Cor md ops d L) (h:zE9 a (i::l) L=yD):i∈Region.ready md ops d/\zE9 a l (L|||1<<<i)=yD:=by
 simp only[zE9,qQ7,Bool.not_eq_true',zFt]at h;refine⟨(c.ready F i).2 ((zDd L a 0 i).2 ⟨qQq _,h.1.1,?_⟩),h.2⟩;have b:=h.1.2;split at b
 ·rename_i m hm;exact⟨m,hm,b⟩
 ·cases b
theorem zS9 {o:List Nat} (F:Facts md ops o) {is:List Nat} {L0 g:Nat} {Lq:Array Bool->Act->Prop} (r:zMn o L0 (zBj is) is=yD) (hd:∀i∈is,g.testBit i=yD):
  ∀(l:List Nat) (e:Array Bool) (L:Nat) (a:Act),(∀i∈l,i∈is)->(L|||zBj l)=g->Cor md ops e L->(∀k,L0.testBit k=yD->L.testBit k=yD)->zE9 o l L=yD->
  phs P ops w (fun a'=>Lq (zWw l e) a') l a->wpM P md ops w is (fun m a'=>Cor md ops m g/\Lq m a') (kG l) e a
 |[],e,L,a,_,f,c,_,_,h=>by
  have:L=g:=by simpa [zBj]using f
  subst this;exact⟨c,h⟩
 |i::l,e,L,a,hm,f,c,hm0,hB,h=>by
  obtain⟨b,d⟩:=zOs F c hB;obtain⟨_,y,p,_⟩:=qRv.1 b;obtain⟨v,x,t⟩:=yieldsAt_of_stOp p h;refine zV6 F p r (hm i zm) (fun m a' u j n s=> ?_) (kG l) e L a c hm0 b x
   (zS9 F r hd l _ _ _ (fun j n=>hm j (by simp[n])) ?_ (c.set b) (fun k f=>by rw[qR5,hm0 k f,Bool.true_or]) d t)
  ·have q:=getD_both (qRv.1 n).1;rw[u.1.bit,hd j s]at q;cases q
  ·rw[<-f,zBj,show Nat.lor (Nat.shiftLeft 1 i) (zBj l)=1<<<i|||zBj l from rfl,Nat.or_assoc]
theorem zQv {K b:Act->Prop}:∀(l:List Nat) (_:∀a,K a->b a) (a:Act),phs P ops w K l a->phs P ops w b l a
 |[],h,a,hp=>h a hp
 |i::l,h,a,hp=>stOp_mono (fun a' c=>zQv l h a' c) hp
structure At_ (P:Program) (md:Region.Mode) (ops:Array Oper) (Q:Exit->Act->qy->Prop) (D:List Nat) (S:qy->Prop) (ms:List Nat) (f L:Nat) (a:Act) (w:qy):Prop where
 out:Facts md ops ms->∀listed,Cor md ops listed L->zC5 P md ops Q D S f listed a w
structure Ph (P:Program) (ops:Array Oper) (w:qy) (K:Act->Prop) (l:List Nat) (a:Act):Prop where
 out:phs P ops w K l a
theorem phase {S:qy->Prop} {D:List Nat} {b:List Nat} (is:List Nat) (f:Nat) (e:Nat) {n L:Nat} {a:Act} {Q:Exit->Act->qy->Prop} (q:kG is+f=n) (o:zMn b L (zBj is) is=yD) (p:zE9 b is L=yD)
  (g:(L|||zBj is)=e) (h:Ph P ops w (fun a'=>At_ P md ops Q D S b f e a' w) is a):At_ P md ops Q D S b n L a w:=by
 subst q;refine⟨fun F l c=> ?_⟩;have H:=zS9 (P:=P) (w:=w) F (Lq:=fun d a'=>Cor md ops d e->zC5 P md ops Q D S f d a' w) o (fun i hi=>by rw[<-g,qR5,(zHz is i).2 hi,Bool.or_true]) is l L a (fun i h=>h) g c (fun k h=>h) p ?_
 ·exact zKd (fun d a' j=>j.2 j.1) _ _ _ H
 ·refine zQv is ?_ a h.out;intro a' m c';exact m.out F _ c'
theorem qH4 {K:Act->Prop} {a:Act} (h:K a):Ph P ops w K [] a:=⟨h⟩
theorem zZ1 {K:Act->Prop} {a:Act} {i:Nat} {l:List Nat} {o:Oper} (d:Option Tmp) (v:qz) (hi:ops[i]? =qw o) (hd:o.dst=d) (b:Region.wanted o (yielded ops a.tmps)=yD) (hv:(execOp a.eval o).run P w= .ok (.value v) w) (h:Ph P ops w K l (a.put d v)):Ph P ops w K (i::l) a:=by
 subst hd;refine⟨?_⟩;show stOp P ops w i (phs P ops w K l) a;unfold stOp;simp only[hi,b,qRw];unfold Oper.still;rw[hv];exact⟨rfl,h.out⟩
theorem zZ2 {K:Act->Prop} {a:Act} {i:Nat} {l:List Nat} {o:Oper} (d:Option Tmp) (f:FuncId) (args:Array qz) (v:qz) (hi:ops[i]? =qw o) (hd:o.dst=d) (g:Region.wanted o (yielded ops a.tmps)=yD) (hv:(execOp a.eval o).run P w= .ok (.enter f args) w)
  (c:yC P f args w fun e b=>e=qp v/\b=w) (h:Ph P ops w K l (a.put d v)):Ph P ops w K (i::l) a:=by
 subst hd;refine⟨?_⟩;show stOp P ops w i (phs P ops w K l) a;unfold stOp;simp only[hi,g,qRw];unfold Oper.still;rw[hv];exact⟨rfl,v,c,h.out⟩
end
section
variable {P:Program} {ops:Array Oper} {md:Region.Mode} {w w':qy} {S:qy->Prop} {D ms:List Nat} {Q:Exit->Act->qy->Prop}
theorem zQo {a:Array Bool} {L i:Nat} (F:Facts md ops ms) (c:Cor md ops a L) (b:zE9 ms [i] L=yD):i∈Region.ready md ops a:=(zOs F c b).1
def zZa (ms:List Nat) (D:List Nat) (i:Nat):Bool:=D.all fun d=>zG2 (zEv ms 0 (Nat.shiftLeft 1 i)) d&& !(Nat.beq d i)
theorem qHh {i:Nat} (c:zZa ms D i=yD) (j:Nat) (w w':qy) (a:(zEv ms 0 (Nat.shiftLeft 1 i)).testBit j=yE\/j=i) (h:w'=w\/D.contains j=yD\/S w') (d:S w):S w':=by
 rcases h with rfl|h|h
 ·exact d
 ·have b:=List.all_eq_true.1 c j (by simpa using h);simp only[qQ7,zFt,Bool.not_eq_true']at b;rcases a with a|a
  ·rw[a]at b;cases b.1
  ·subst a;have:=b.2;rw[show Nat.beq j j=yD from Nat.beq_refl j]at this;cases this
 ·exact h
theorem qGy (i:Nat) {o:Oper} (d:Option Tmp) (v:qz) (e:Nat) {f L:Nat} {a:Act} (hi:ops[i]? =qw o) (hd:o.dst=d) (j:zZa ms D i=yD) (n:zE9 ms [i] L=yD) (k:(L|||1<<<i)=e)
  (l:∀c a w,Q (.panic c) (a.put o.dst v) w->Q (.panic c) a w) (p:Region.wanted o (yielded ops a.tmps)=yD) (hv:∀w,S w->(execOp a.eval o).run P w= .ok (.value v) w) (m:S w)
  (h:At_ P md ops Q D S ms f e (a.put d v) w):At_ P md ops Q D S ms (f+1) L a w:=by
 subst hd;subst k;refine⟨fun F g c=> ?_⟩;have b:=zQo F c n;exact zIm F (S0:=S) hi l (qHh j) f g L a w c b (.inl ⟨p,hv⟩) m (h.out F _ (c.set b))
theorem qG6 (i:Nat) {o:Oper} (d:Option Tmp) (v:qz) (e:Nat) {f L:Nat} {a:Act} (hi:ops[i]? =qw o) (hd:o.dst=d) (l:zE9 ms [i] L=yD) (j:(L|||1<<<i)=e)
  (k:∀c a w,Q (.panic c) (a.put o.dst v) w->Q (.panic c) a w) (m:Region.wanted o (yielded ops a.tmps)=yD) (hv:∀w,(execOp a.eval o).run P w= .ok (.value v) w)
  (h:At_ P md ops Q D S ms f e (a.put d v) w):At_ P md ops Q D S ms (f+1) L a w:=by
 subst hd;subst j;refine⟨fun F g c=> ?_⟩;have b:=zQo F c l;exact zIm F (S0:=fun _=>True) hi k (fun _ _ _ _ _ _=>trivial) f g L a w c b (.inl ⟨m,fun w _=>hv w⟩) trivial (h.out F _ (c.set b))
theorem zGk {a:Array Bool} {L i:Nat} (F:Facts md ops ms) (c:Cor md ops a L) (b:zA1 L ms 0=[i]):i∈Region.ready md ops a/\∀j∈Region.ready md ops a,j=i:=
 ⟨(c.ready F i).2 (by rw[b];simp),fun j d=>by have:=(c.ready F j).1 d;rw[b]at this;simpa using this⟩
theorem zVs {i:Nat} {f:Nat} {b:Array Bool} {a:Act} (c:i∈Region.ready md ops b/\∀j∈Region.ready md ops b,j=i)
  (h:wpOp P ops Q i (fun a' w'=>(w'=w\/D.contains i=yD\/S w')/\zC5 P md ops Q D S f (b.setIfInBounds i yD) a' w') a w):zC5 P md ops Q D S (f+1) b a w:=
 ⟨fun d=>(by rw[d]at c;cases c.1),fun j e=>(by obtain rfl:=c.2 j e;exact h)⟩
theorem zLe (i:Nat) {o:Oper} (d:Option Tmp) (v:qz) (b:Nat) {f L:Nat} {a:Act} (k:zA1 L ms 0=[i]) (g:(L|||1<<<i)=b) (hi:ops[i]? =qw o) (hd:o.dst=d) (l:Region.wanted o (yielded ops a.tmps)=yD) (hv:(execOp a.eval o).run P w= .ok (.value v) w') (j:w'=w\/D.contains i=yD\/S w')
  (h:At_ P md ops Q D S ms f b (a.put d v) w'):At_ P md ops Q D S ms (f+1) L a w:=by
 subst hd;subst g;refine⟨fun F m c=> ?_⟩;have e:=zGk F c k;refine zVs e ?_;unfold wpOp;simp only[hi,l,qRw];left;unfold Oper.wp;rw[hv];exact⟨j,h.out F _ (c.set e.1)⟩
theorem qHc (i:Nat) {o:Oper} (d:Option Tmp) (b:Nat) {f L:Nat} {a:Act} (k:zA1 L ms 0=[i]) (g:(L|||1<<<i)=b) (hi:ops[i]? =qw o) (hd:o.dst=d) (l:Region.wanted o (yielded ops a.tmps)=yD) (hv:(execOp a.eval o).run P w= .ok .skip w') (j:w'=w\/D.contains i=yD\/S w')
  (h:At_ P md ops Q D S ms f b (a.put d yJ) w'):At_ P md ops Q D S ms (f+1) L a w:=by
 subst hd;subst g;refine⟨fun F m c=> ?_⟩;have e:=zGk F c k;refine zVs e ?_;unfold wpOp;simp only[hi,l,qRw];left;unfold Oper.wp;rw[hv];exact⟨j,h.out F _ (c.set e.1)⟩
theorem qCf (i:Nat) {o:Oper} (d:Option Tmp) (g:FuncId) (args:Array qz) (v:qz) (b:Nat) {f L:Nat} {a:Act} {R:qy->Prop} (p:zA1 L ms 0=[i]) (m:(L|||1<<<i)=b) (hi:ops[i]? =qw o) (hd:o.dst=d) (q:Region.wanted o (yielded ops a.tmps)=yD)
  (hv:(execOp a.eval o).run P w= .ok (.enter g args) w) (n:yC P g args w fun e l=>e=qp v/\R l) (h:∀w',R w'->(w'=w\/D.contains i=yD\/S w')/\At_ P md ops Q D S ms f b (a.put d v) w'):At_ P md ops Q D S ms (f+1) L a w:=by
 subst hd;subst m;refine⟨fun F r c=> ?_⟩;have j:=zGk F c p;refine zVs j ?_;unfold wpOp;simp only[hi,q,qRw];left;refine zRl g args v hv n (fun w' k=>⟨(h w' k).1,(h w' k).2.out F _ (c.set j.1)⟩)
theorem qHm (i:Nat) {o:Oper} (d:Option Tmp) (g:FuncId) (args:Array qz) (b:Nat) {f L:Nat} {a:Act} {R:Ending->qy->Prop} (r:zA1 L ms 0=[i]) (m:(L|||1<<<i)=b) (hi:ops[i]? =qw o) (hd:o.dst=d) (s:Region.wanted o (yielded ops a.tmps)=yD)
  (hv:(execOp a.eval o).run P w= .ok (.enter g args) w) (p:yC P g args w R) (h:∀e w',R e w'->∃v,e=qp v/\(w'=w\/D.contains i=yD\/S w')/\At_ P md ops Q D S ms f b (a.put d v) w'):At_ P md ops Q D S ms (f+1) L a w:=by
 subst hd;subst m;refine⟨fun F t c=> ?_⟩;have j:=zGk F c r;refine zVs j ?_;unfold wpOp;simp only[hi,s,qRw];left;unfold Oper.wp;rw[hv,Oper.upon_enter];refine p.mono fun e k q=> ?_;obtain⟨v,rfl,n,l⟩:=h e k q;exact⟨n,l.out F _ (c.set j.1)⟩
structure zEp (P:Program) (md:Region.Mode) (ops:Array Oper) (Q:Exit->Act->qy->Prop) (D:List Nat) (S:qy->Prop) (ms:List Nat) (f L:Nat) (a:Act) (w:qy) (i:Nat):Prop where
 out:∃(o:Oper) (v:qz) (w':qy),ops[i]? =qw o/\Region.wanted o (yielded ops a.tmps)=yD/\(execOp a.eval o).run P w= .ok (.value v) w'/\(w'=w\/D.contains i=yD\/S w')/\At_ P md ops Q D S ms f (L|||1<<<i) (a.put o.dst v) w'
theorem zFb {i:Nat} {o:Oper} (d:Option Tmp) (v:qz) (b:Nat) {f L:Nat} {a:Act} (c:(L|||1<<<i)=b) (hi:ops[i]? =qw o) (hd:o.dst=d) (g:Region.wanted o (yielded ops a.tmps)=yD) (hv:(execOp a.eval o).run P w= .ok (.value v) w') (e:w'=w\/D.contains i=yD\/S w')
  (h:At_ P md ops Q D S ms f b (a.put d v) w'):zEp P md ops Q D S ms f L a w i:=by
 subst c hd;exact⟨o,v,w',hi,g,hv,e,h⟩
theorem qB3 (d:List Nat) {f L:Nat} {a:Act} (g:zA1 L ms 0=d) (hne:d≠[]) (h:∀i∈d,zEp P md ops Q D S ms f L a w i):At_ P md ops Q D S ms (f+1) L a w:=by
 refine⟨fun F k c=>⟨fun l=> ?_,fun j e=> ?_⟩⟩
 ·match d,hne with
  |i::_,_=>
   have b:i∈Region.ready md ops k:=(c.ready F i).2 (by rw[g];simp);rw[l]at b;cases b
 ·have b:=(c.ready F j).1 e;rw[g]at b;obtain⟨o,v,w',hi,p,hv,n,m⟩:=(h j b).out;unfold wpOp;simp only[hi,p,qRw];left;unfold Oper.wp;rw[hv];exact⟨n,m.out F _ (c.set e)⟩
theorem zY4 (i j:Nat) {f L:Nat} {a:Act} (d:zA1 L ms 0=[i,j]) (hi:zEp P md ops Q D S ms f L a w i) (c:zEp P md ops Q D S ms f L a w j):At_ P md ops Q D S ms (f+1) L a w:=
 qB3 [i,j] d zm (fun k b=>by
  rcases qP7.1 b with rfl|b
  ·exact hi
  ·obtain rfl:=qRm.1 b;exact c)
theorem qEr (i j k:Nat) {f L:Nat} {a:Act} (e:zA1 L ms 0=[i,j,k]) (hi:zEp P md ops Q D S ms f L a w i) (c:zEp P md ops Q D S ms f L a w j) (d:zEp P md ops Q D S ms f L a w k):At_ P md ops Q D S ms (f+1) L a w:=
 qB3 [i,j,k] e zm (fun x b=>by
  rcases qP7.1 b with rfl|b
  ·exact hi
  ·rcases qP7.1 b with rfl|b
   ·exact c
   ·obtain rfl:=qRm.1 b;exact d)
theorem At_.cast {f L:Nat} {a a':Act} (h:At_ P md ops Q D S ms f L a' w) (e:a=a'):At_ P md ops Q D S ms f L a w:=e▸h
theorem Cor.start:Cor md ops (Array.replicate ops.size yE) 0:=by
 refine⟨⟨zm,fun j a _ h=> ?_,fun _ h=>h⟩,fun j=> ?_⟩
 ·rw[getD_replicate_false]at h;cases h
 ·rw[getD_replicate_false,Nat.zero_testBit]
theorem zP2 {a:Act} (D:List Nat) (S:qy->Prop) (ms:List Nat) (n:Nat) (c:ops.size=n) (d:Region.noSelect ops=yD) (e:ops.toList.map (zC md)=ms) (b:zD ops ops.toList ms ops.toList ms 0=yD)
  (h:At_ P md ops Q D S ms n 0 a w):wpAny P md ops Q ops.size (Array.replicate ops.size yE) a w:=by
 subst c;exact zLw _ _ _ _ (h.out (Facts.mk' d e b) _ Cor.start)
theorem qE0 {g:Nat} {a:Act} (D:List Nat) (S:qy->Prop) (ms:List Nat) (n:Nat) (c:P.follows .mixedOrders=yD) (d:ops.size=n) (e:Region.noSelect ops=yD) (f:ops.toList.map (zC .any)=ms) (b:zD ops ops.toList ms ops.toList ms 0=yD)
  (h:At_ P .any ops Q D S ms n 0 a w.drew):(Code.region g ops yD).wp P Q a w:=
 wp_region_any c (zP2 D S ms n d e f b h)
theorem qA5 {a:Act} {f L:Nat} (g:zA1 L ms 0=[]) (h:Q .normal a w):At_ P md ops Q D S ms f L a w:=by
 refine⟨fun F d c=> ?_⟩;have b:Region.ready md ops d=[]:=by
  apply qUl.2;intro j e;have:=(c.ready F j).1 e;rw[g]at this;cases this
 cases f with
 |zero=>exact⟨b,h⟩
 |succ f=>exact⟨fun _=>h,by rw[b];simp⟩
end
end Kit
namespace Kit
section
variable {P:Program} {ops:Array Oper} {md:Region.Mode} {Q:Exit->Act->qy->Prop} {D:List Nat} {S:qy->Prop} {ms:List Nat} {w:qy}
theorem qH5 (i:Nat) {o:Oper} (d:Option Tmp) (g:FuncId) (args:Array qz) (v:qz) (b:Nat) {f L:Nat} {a:Act} (l:zA1 L ms 0=[i]) (j:(L|||1<<<i)=b) (hi:ops[i]? =qw o) (hd:o.dst=d) (m:Region.wanted o (yielded ops a.tmps)=yD)
  (hv:(execOp a.eval o).run P w= .ok (.enter g args) w) (k:yC P g args w fun e c=>e=qp v/\c=w) (h:At_ P md ops Q D S ms f b (a.put d v) w):At_ P md ops Q D S ms (f+1) L a w:=
 qCf i d g args v b l j hi hd m hv k (fun w' e=>by subst e;exact⟨.inl rfl,h⟩)
end
end Kit
section
section
open Kit
section
variable {P:Program} {ops:Array Oper} {md:Region.Mode} {w w':qy} {S:qy->Prop} {D ms:List Nat} {Q:Exit->Act->qy->Prop} {K:Act->Prop} {a:Act} {i:Nat} {l:List Nat} {n L:Nat} {id:Nat}
def opA (ops:Array Oper) (i:Nat):Oper:=(ops[i]?).getD default
def zUq:Option Tmp->Option Tmp->Bool
 |some a,some b=>Nat.beq a b
 |none,none=>true
 |_,_=>false
def okA (ops:Array Oper) (i:Nat) (d:Option Tmp) (b:Array qz):Bool:=match ops[i]? with
 |some o=>zUq o.dst d&&Region.wanted o (yielded ops b)
 |none=>false
theorem zZe {x y:Option Tmp} (h:zUq x y=yD):x=y:=by
 cases x<;>cases y<;>simp_all [zUq]
theorem zB0 {d:Option Tmp} {b:Array qz} (h:okA ops i d b=yD):ops[i]? =qw (opA ops i)/\(opA ops i).dst=d/\Region.wanted (opA ops i) (yielded ops b)=yD:=by
 unfold okA at h;unfold opA;split at h
 ·rename_i o ho
  rw[qQ7]at h;rw[ho];exact⟨rfl,zZe h.1,h.2⟩
 ·cases h
theorem zt (d:Tmp) (v:qz) (hv:(execOp a.eval (opA ops i)).run P w= .ok (.value v) w) (h:Ph P ops w K l (a.put (qw d) v)) (b:okA ops i (qw d) a.tmps=yD:=by kernel_rfl):Ph P ops w K (i::l) a:=
 zZ1 (qw d) v (zB0 b).1 (zB0 b).2.1 (zB0 b).2.2 hv h
theorem zk (d:Tmp) (v:qz) (h:Ph P ops w K l (a.put (qw d) v)) (b:okA ops i (qw d) a.tmps=yD:=by kernel_rfl) (hv:(execOp a.eval (opA ops i)).run P w= .ok (.value v) w:=by kernel_rfl):Ph P ops w K (i::l) a:=zt d v hv h b
theorem zn (h:K a):Ph P ops w K [] a:=⟨h⟩
def phB (ms is:List Nat) (n L:Nat):Bool:=Nat.ble (kG is) n&&zMn ms L (zBj is) is&&zE9 ms is L
theorem zp (is:List Nat) (h:Ph P ops w (fun a'=>At_ P md ops Q D S ms (n-kG is) (L|||zBj is) a' w) is a) (b:phB ms is n L=yD:=by kernel_rfl):At_ P md ops Q D S ms n L a w:=by
 unfold phB at b;simp only[qQ7]at b;exact phase is (n-kG is) _ (by have:=qUa b.1.1;omega) b.1.2 b.2 rfl h
def puB (ops:Array Oper) (i:Nat) (d:Option Tmp) (b:Array qz) (ms:List Nat) (n L:Nat):Bool:=okA ops i d b&&zE9 ms [i] L&&Nat.blt 0 n
theorem qFb {d:Option Tmp} {b:Array qz} (h:puB ops i d b ms n L=yD):okA ops i d b=yD/\zE9 ms [i] L=yD/\n=n-1+1:=by
 unfold puB at h;simp only[qQ7]at h;exact⟨h.1.1,h.1.2,by have:0<n:=qUa h.2;omega⟩
theorem zv (i:Nat) (d:Tmp) (v:qz) (hv:∀w,(execOp a.eval (opA ops i)).run P w= .ok (.value v) w) (h:At_ P md ops Q D S ms (n-1) (L|||1<<<i) (a.put (qw d) v) w) (j:puB ops i (qw d) a.tmps ms n L=yD:=by kernel_rfl)
  (g:∀c a w,Q (.panic c) (a.put (opA ops i).dst v) w->Q (.panic c) a w:=by intro _ _ _ h;exact h):At_ P md ops Q D S ms n L a w:=by
 obtain⟨b,e,f⟩:=qFb j;rw[f];exact qG6 i (qw d) v _ (zB0 b).1 (zB0 b).2.1 e rfl g (zB0 b).2.2 hv h
theorem zu (i:Nat) (d:Tmp) (v:qz) (h:At_ P md ops Q D S ms (n-1) (L|||1<<<i) (a.put (qw d) v) w) (e:puB ops i (qw d) a.tmps ms n L=yD:=by kernel_rfl) (hv:∀w,(execOp a.eval (opA ops i)).run P w= .ok (.value v) w:=by intro w;kernel_rfl)
  (b:∀c a w,Q (.panic c) (a.put (opA ops i).dst v) w->Q (.panic c) a w:=by intro _ _ _ h;exact h):At_ P md ops Q D S ms n L a w:=zv i d v hv h e b
theorem zy (i:Nat) (d:Tmp) (v:qz) (hv:∀w,S w->(execOp a.eval (opA ops i)).run P w= .ok (.value v) w) (k:S w) (h:At_ P md ops Q D S ms (n-1) (L|||1<<<i) (a.put (qw d) v) w) (m:puB ops i (qw d) a.tmps ms n L=yD:=by kernel_rfl) (g:zZa ms D i=yD:=by kernel_rfl)
  (j:∀c a w,Q (.panic c) (a.put (opA ops i).dst v) w->Q (.panic c) a w:=by intro _ _ _ h;exact h):At_ P md ops Q D S ms n L a w:=by
 obtain⟨b,e,f⟩:=qFb m;rw[f];exact qGy i (qw d) v _ (zB0 b).1 (zB0 b).2.1 g e rfl j (zB0 b).2.2 hv k h
def isL:List Nat->Nat->Bool
 |[j],i=>Nat.beq j i
 |_,_=>false
theorem qHz:∀{l:List Nat} {i:Nat},isL l i=yD->l=[i]
 |[j],i,h=>by rw[qT1 h]
 |[],_,h=>by cases h
 |_::_::_,_,h=>by cases h
def oB (ops:Array Oper) (i:Nat) (d:Option Tmp) (b:Array qz) (ms:List Nat) (n L:Nat):Bool:=okA ops i d b&&isL (zA1 L ms 0) i&&Nat.blt 0 n
theorem oB_ {d:Option Tmp} {b:Array qz} (h:oB ops i d b ms n L=yD):okA ops i d b=yD/\zA1 L ms 0=[i]/\n=n-1+1:=by
 unfold oB at h;simp only[qQ7]at h;exact⟨h.1.1,qHz h.1.2,by have:0<n:=qUa h.2;omega⟩
theorem zo (i:Nat) (d:Tmp) (v:qz) (hv:(execOp a.eval (opA ops i)).run P w= .ok (.value v) w') (f:w'=w\/D.contains i=yD\/S w') (h:At_ P md ops Q D S ms (n-1) (L|||1<<<i) (a.put (qw d) v) w') (g:oB ops i (qw d) a.tmps ms n L=yD:=by kernel_rfl):At_ P md ops Q D S ms n L a w:=by
 obtain⟨b,c,e⟩:=oB_ g;rw[e];exact zLe i (qw d) v _ c rfl (zB0 b).1 (zB0 b).2.1 (zB0 b).2.2 hv f h
theorem zw (i:Nat) (d:Option Tmp) (hv:(execOp a.eval (opA ops i)).run P w= .ok .skip w') (f:w'=w\/D.contains i=yD\/S w') (h:At_ P md ops Q D S ms (n-1) (L|||1<<<i) (a.put d yJ) w') (g:oB ops i d a.tmps ms n L=yD:=by kernel_rfl):At_ P md ops Q D S ms n L a w:=by
 obtain⟨b,c,e⟩:=oB_ g;rw[e];exact qHc i d _ c rfl (zB0 b).1 (zB0 b).2.1 (zB0 b).2.2 hv f h
theorem zc (i:Nat) (d:Tmp) (g:FuncId) (args:Array qz) (v:qz) {R:qy->Prop} (k:yC P g args w fun e c=>e=qp v/\R c) (h:∀w',R w'->(w'=w\/D.contains i=yD\/S w')/\At_ P md ops Q D S ms (n-1) (L|||1<<<i) (a.put (qw d) v) w')
  (m:oB ops i (qw d) a.tmps ms n L=yD:=by kernel_rfl) (hv:(execOp a.eval (opA ops i)).run P w= .ok (.enter g args) w:=by kernel_rfl):At_ P md ops Q D S ms n L a w:=by
 obtain⟨b,f,j⟩:=oB_ m;rw[j];exact qCf i (qw d) g args v _ f rfl (zB0 b).1 (zB0 b).2.1 (zB0 b).2.2 hv k h
theorem zx (i:Nat) (d:Tmp) (g:FuncId) (args:Array qz) {R:Ending->qy->Prop} (j:yC P g args w R) (h:∀e w',R e w'->∃v,e=qp v/\(w'=w\/D.contains i=yD\/S w')/\At_ P md ops Q D S ms (n-1) (L|||1<<<i) (a.put (qw d) v) w')
  (k:oB ops i (qw d) a.tmps ms n L=yD:=by kernel_rfl) (hv:(execOp a.eval (opA ops i)).run P w= .ok (.enter g args) w:=by kernel_rfl):At_ P md ops Q D S ms n L a w:=by
 obtain⟨b,c,f⟩:=oB_ k;rw[f];exact qHm i (qw d) g args _ c rfl (zB0 b).1 (zB0 b).2.1 (zB0 b).2.2 hv j h
theorem zd (i:Nat) (d:Tmp) (g:FuncId) (args:Array qz) (v:qz) (c:yC P g args w fun e b=>e=qp v/\b=w) (h:At_ P md ops Q D S ms (n-1) (L|||1<<<i) (a.put (qw d) v) w)
  (f:oB ops i (qw d) a.tmps ms n L=yD:=by kernel_rfl) (hv:(execOp a.eval (opA ops i)).run P w= .ok (.enter g args) w:=by kernel_rfl):At_ P md ops Q D S ms n L a w:=
 zc i d g args v c (fun w' e=>by subst e;exact⟨.inl rfl,h⟩) f hv
theorem zS (D:List Nat) (S:qy->Prop) (ms:List Nat) (n:Nat) (h:At_ P .any ops Q D S ms n 0 a w.drew) (c:P.follows .mixedOrders=yD:=by kernel_rfl) (d:ops.size=n:=by kernel_rfl) (e:Region.noSelect ops=yD:=by kernel_rfl) (f:ops.toList.map (zC .any)=ms:=by kernel_rfl)
  (b:zD ops ops.toList ms ops.toList ms 0=yD:=by kernel_rfl):(Code.region id ops yD).wp P Q a w:=qE0 D S ms n c d e f b h
theorem zE (h:Q .normal a w) (b:zA1 L ms 0=[]:=by kernel_rfl):At_ P md ops Q D S ms n L a w:=qA5 b h
variable {ρ:Operand->qz} {o:Oper} {p:yB} {v:qz}
theorem zl (t:yA) (x:Tmp) (c:(loadVar t p).run P w= .ok v w) (b:o.op= .load t (.tmp x):=by kernel_rfl) (d:ρ (.tmp x)=qY (qw p):=by kernel_rfl):(execOp ρ o).run P w= .ok (.value v) w:=zM7 b d c
theorem zr (t:yA) (x y:Tmp) (c:(storeVar t p v).run P w= .ok () w') (b:o.op= .store t (.tmp x) (.tmp y):=by kernel_rfl) (d:ρ (.tmp x)=qY (qw p):=by kernel_rfl) (e:ρ (.tmp y)=v:=by kernel_rfl):(execOp ρ o).run P w= .ok .skip w':=zHa b d e c
end
end
end
end Go.Proofs.YtppnakkaljbmbaaGreatDoor
