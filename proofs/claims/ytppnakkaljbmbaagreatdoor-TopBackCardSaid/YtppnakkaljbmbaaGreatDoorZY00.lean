/- Steps of a proof; no condition beyond what each states. -/
import Derived.Lib.Hide
import Derived.KernelRfl
import Derived.Deep.DeepCutAuto
import Derived.Deep.RegionHeld
import Derived.Deep.WholeRow
import Derived.Lib.Hide
import Derived.Lib.Small
import Derived.Lib.SmallJoins
import Derived.LoopIn
import Derived.LoopNIn
import Derived.OwnWalkIn
import Derived.RangeFuncBox
import Derived.Shelf.SlSortCmp.QuietGrown
import Derived.Sort.LotA
import Derived.Sort.QuietIn
import Derived.StillTailTactics
import Derived.Test.YtppnakkaljbmbaaGreatDoorProg
import Derived.WalkLawsBesides
import Derived.WalkSpells
set_option linter.unusedVariables false
set_option linter.unusedSimpArgs false
set_option maxRecDepth 100000
set_option maxHeartbeats 8000000
open List renaming length->kN
open Go.RowKit
open Go.Proofs.Tryz
open Go.Value renaming int->qX,string->qY,slice->qZ,pointer->qc,tuple->qg,bool->qh
open Go.IntKind renaming i64->qm,u8->qo
open Go.Obj renaming cells->qp,deferred->qw
open Go.Ending renaming returned->qx
open Or renaming inr->qy,inl->qz
open Option renaming some->yA,none->yB
open Go renaming World->yC,Value->yD,TypeId->yE,Addr->yF,Calls->yG,undef->yN
open Bool renaming true->yH,false->yI
open Decidable renaming decide->yJ
open Go.Proofs.Tryz renaming prog->yK
open Go.RowKit renaming Hid->yL,Below->yM
open List renaming range->yO
open Go.World renaming cell?->yQ
open Go.RowKit.Below renaming refl->yR
namespace Go.Proofs.YtppnakkaljbmbaaGreatDoor
instance:Coe Nat Go.Value:=⟨fun n=>.int .i64 (n:Int)⟩
instance:Coe Int Go.Value:=⟨fun n=>.int .i64 n⟩
theorem yT (p:Prop) (h:p):Go.RowKit.Hid p:=h
theorem yU {a b:Prop} (c:a) (d:b):Go.RowKit.Hid a/\Go.RowKit.Hid b:=⟨c,d⟩
theorem yV {a b c:Prop} (d:a) (e:b) (f:c):Go.RowKit.Hid a/\Go.RowKit.Hid b/\Go.RowKit.Hid c:=⟨d,e,f⟩
theorem yX {a b c d:Prop} (e:a) (f:b) (g:c) (h:d):Go.RowKit.Hid a/\Go.RowKit.Hid b/\Go.RowKit.Hid c/\Go.RowKit.Hid d:=⟨e,f,g,h⟩
theorem yY {a b c d e:Prop} (f:a) (g:b) (h:c) (i:d) (j:e):Go.RowKit.Hid a/\Go.RowKit.Hid b/\Go.RowKit.Hid c/\Go.RowKit.Hid d/\Go.RowKit.Hid e:=⟨f,g,h,i,j⟩
theorem yZ {a b c d e f:Prop} (g:a) (h:b) (i:c) (j:d) (k:e) (l:f):Go.RowKit.Hid a/\Go.RowKit.Hid b/\Go.RowKit.Hid c/\Go.RowKit.Hid d/\Go.RowKit.Hid e/\Go.RowKit.Hid f:=⟨g,h,i,j,k,l⟩
theorem yg {a b c d e f g:Prop} (h:a) (i:b) (j:c) (k:d) (l:e) (m:f) (n:g):Go.RowKit.Hid a/\Go.RowKit.Hid b/\Go.RowKit.Hid c/\Go.RowKit.Hid d/\Go.RowKit.Hid e/\Go.RowKit.Hid f/\Go.RowKit.Hid g:=⟨h,i,j,k,l,m,n⟩
theorem yh {a b c d e f g h:Prop} (i:a) (j:b) (k:c) (l:d) (m:e) (n:f) (o:g) (p:h):Go.RowKit.Hid a/\Go.RowKit.Hid b/\Go.RowKit.Hid c/\Go.RowKit.Hid d/\Go.RowKit.Hid e/\Go.RowKit.Hid f/\Go.RowKit.Hid g/\Go.RowKit.Hid h:=⟨i,j,k,l,m,n,o,p⟩
theorem yj {a b c d e f g h i:Prop} (j:a) (k:b) (l:c) (m:d) (n:e) (o:f) (p:g) (q:h) (r:i):Go.RowKit.Hid a/\Go.RowKit.Hid b/\Go.RowKit.Hid c/\Go.RowKit.Hid d/\Go.RowKit.Hid e/\Go.RowKit.Hid f/\Go.RowKit.Hid g/\Go.RowKit.Hid h/\Go.RowKit.Hid i:=⟨j,k,l,m,n,o,p,q,r⟩
instance:Coe Go.World Nat:=⟨fun w=>w.heap.size⟩
theorem za {p:Prop} (h:p:=by omega):p:=h
theorem zf {p:Prop} (h:p:=by kernel_rfl):p:=h
theorem zh {p:Prop} (h:p:=by rfl):p:=h
theorem zm {p:Prop} (h:p:=by simp):p:=h
theorem zq {p:Prop} (h:p:=by simp;omega):p:=h
theorem z8 {p:Prop} (h:p:=by simp only[intOf];omega):p:=h
theorem qV {p:Prop} (h:p:=by simp[intOf];omega):p:=h
theorem qW {p:Prop} (h:p:=by decide):p:=h
theorem zH {p:Prop} (h:p):yL p:=Lib.hid h
theorem zB {α:Type} (a:α):∃b,a=b:=⟨a,rfl⟩
abbrev qPq:= @Nat.le_refl
abbrev qPr:= @if_pos
abbrev qPs:= @congrArg
abbrev qPt:= @if_neg
abbrev qPu:= @List.getElem?_eq_getElem
abbrev qPv:= @Option.some.inj
abbrev qPw:= @List.set_cons_zero
abbrev qPx:= @List.setIfInBounds_toArray
abbrev qPy:= @List.set_cons_succ
abbrev qPz:= @List.getD_eq_getElem?_getD
abbrev qP0:= @List.length_append
abbrev qP1:= @decide_eq_false
abbrev qP2:= @Nat.le_trans
abbrev qP3:= @List.getElem?_map
abbrev qP4:= @List.length_cons
abbrev qP5:= @bodyPost_ret
abbrev qP6:= @List.mem_cons
abbrev qP7:= @Nat.le_of_lt
abbrev qP8:= @Nat.lt_or_ge
abbrev qP9:= @List.getElem_mem
abbrev qQ:= @decide_eq_true
abbrev qQa:= @IntWalk.i64_in
abbrev qQb:= @List.map_append
abbrev qQc:= @List.take_of_length_le
abbrev qQd:= @Nat.zero_add
abbrev qQe:= @List.map_cons
abbrev qQf:= @World.cell?_setCell_other
abbrev qQg:= @List.mem_map
abbrev qQh:= @List.length_take
abbrev qQi:= @callsIn_wide
abbrev qQj:= @List.length_map
abbrev qQk:= @block_lt_of_cell
abbrev qQl:= @Nat.zero_le
abbrev qQm:= @List.nil_append
abbrev qQn:= @List.mem_range
abbrev qQo:= @List.length_drop
abbrev qQp:= @List.take_succ_eq_append_getElem
abbrev qQq:= @List.getElem?_eq_none
abbrev qQr:= @List.append_assoc
abbrev qQs:= @List.cons_append
abbrev qQt:= @Array.getElem?_modify
abbrev qQu:= @Nat.add_mul
abbrev qQv:= @List.append_nil
abbrev qQw:= @List.range_succ
abbrev qQx:= @Nat.lt_of_lt_of_le
abbrev qQy:= @List.length_nil
abbrev qQz:= @Nat.eq_zero_or_pos
abbrev qQ0:= @List.eq_nil_of_length_eq_zero
abbrev qQ1:= @Bool.and_eq_true
abbrev qQ2:= @List.size_toArray
abbrev qQ3:= @List.pairwise_cons
abbrev qQ4:= @Ne.symm
abbrev qQ5:= @Option.getD_some
abbrev qQ6:= @Obj.cells.inj
abbrev qQ7:= @Array.getElem?_eq_some_iff
abbrev qQ8:= @Nat.lt_succ_self
abbrev qQ9:= @List.length_range
abbrev qR:= @Array.replicate_succ
abbrev qRa:= @Array.replicate_zero
abbrev qRb:= @List.push_toArray
abbrev qRc:= @List.append_toArray
abbrev qRd:= @List.sum_cons
abbrev qRe:= @List.mem_singleton
abbrev qRf:= @Nat.mod_lt
abbrev qRg:= @World.cell?_of_block
abbrev qRh:= @Nat.mod_eq_of_lt
abbrev qRi:= @Nat.add_zero
abbrev qRj:= @World.cell?_setCell_same
abbrev qRk:= @Array.getElem?_eq_none
abbrev qRl:= @Sem.run_bind
abbrev qRm:= @decide_eq_true_eq
abbrev qRn:= @Nat.one_mul
abbrev qRo:= @Nat.mul_comm
abbrev qRp:= @Nat.mul_le_mul_right
abbrev qRq:= @Nat.pow_succ
abbrev qRr:= @List.map_map
abbrev qRs:= @Option.map_some
abbrev qRt:= @List.ext_getElem?
abbrev qRu:= @Nat.le_succ
abbrev qRv:= @info_parts
abbrev qRw:= @mem_ready
abbrev qRx:= @if_true
abbrev qRy:= @List.map_congr_left
abbrev qRz:= @World.ownsRow.kept
abbrev qR0:= @List.flatten_append
abbrev qR1:= @List.drop_zero
abbrev qR2:= @List.length_set
abbrev qR3:= @Nat.add_assoc
abbrev qR4:= @World.grownBy_alloc
abbrev qR5:= @List.take_succ_cons
abbrev qR6:= @Nat.testBit_or
abbrev qR7:= @List.getElem?_append_left
abbrev qR8:= @List.length_singleton
abbrev qR9:= @Nat.pow_le_pow_right
abbrev qSa:= @List.take_append_drop
abbrev qSb:= @List.drop_eq_getElem_cons
abbrev qSc:= @List.getElem?_take
abbrev qSd:= @beq_eq_false_iff_ne
abbrev qSe:= @List.getElem?_range
abbrev qSf:= @List.pairwise_iff_getElem
abbrev qSg:= @Bool.eq_iff_iff
abbrev qSh:= @IntWalk.u64_in
abbrev qSi:= @List.mem_append
abbrev qSj:= @List.getElem?_eq_some_iff
abbrev qSk:= @List.flatMap_cons
abbrev qSl:= @run_storeVar_mid
abbrev qSm:= @List.length_pos_iff
abbrev qSn:= @List.replicate_succ
abbrev qSo:= @Sem.run_pure
abbrev qSp:= @List.map_nil
abbrev qSq:= @beq_iff_eq
abbrev qSr:= @Nat.add_sub_cancel
abbrev qSs:= @List.mem_of_getElem?
abbrev qSt:= @List.getElem_cons_succ
abbrev qSu:= @List.getElem?_set
abbrev qSv:= @List.drop_of_length_le
abbrev qSw:= @World.frozen?_setCell
abbrev qSx:= @results_none
abbrev qSy:= @List.nodup_cons
abbrev qSz:= @List.flatten_cons
abbrev qS0:= @List.getElem_toArray
abbrev qS1:= @ByteArray.size_extract
abbrev qS2:= @Result.andThen_ok
abbrev qS3:= @List.getElem?_append_right
abbrev qS4:= @Array.getElem?_toList
abbrev qS5:= @Int.tmod_eq_emod_of_nonneg
abbrev qS6:= @List.take_zero
abbrev qS7:= @List.take_length
abbrev qS8:= @callsIn_of_wp
abbrev qS9:= @getElem!_pos
abbrev qTa:= @Lib.toList_data
abbrev qTb:= @List.getElem_cons_zero
abbrev qTc:= @Nat.one_shiftLeft
abbrev qTd:= @Nat.testBit_two_pow
abbrev qTe:= @Nat.eq_of_beq_eq_true
abbrev qTf:= @Nat.mul_assoc
abbrev qTg:= @List.getElem_of_mem
abbrev qTh:= @List.foldl_append
abbrev qTi:= @UInt8.toNat_lt
abbrev qTj:= @Nat.min_eq_left
abbrev qTk:= @List.filter_cons
abbrev qTl:= @wpAnyH_take
abbrev qTm:= @of_decide_eq_true
abbrev qTn:= @World.ownsRow.cellAt
abbrev qTo:= @run_underlying
abbrev qTp:= @List.foldl_cons
abbrev qTq:= @Nat.lt_trichotomy
abbrev qTr:= @World.frozen?_of_block
abbrev qTs:= @Int.natCast_add
abbrev qTt:= @World.size_alloc
abbrev qTu:= @List.Perm.refl
abbrev qTv:= @Bool.or_eq_true
abbrev qTw:= @List.mem_cons_self
abbrev qTx:= @List.nodup_range
abbrev qTy:= @List.map_take
abbrev qTz:= @Option.some.injEq
abbrev qT0:= @List.length_replicate
abbrev qT1:= @List.mem_filter
abbrev qT2:= @Nat.le_of_ble_eq_true
abbrev qT3:= @Array.getElem?_eq_getElem
abbrev qT4:= @Nat.shiftRight_eq_div_pow
abbrev qT5:= @Int.eq_ofNat_of_zero_le
abbrev qT6:= @List.getElem?_set_ne
abbrev qT7:= @heap_setCell_same
abbrev qT8:= @IntKind.wrap_i64
abbrev qT9:= @List.not_mem_nil
abbrev qU:= @Nat.mod_two_eq_zero_or_one
abbrev qUa:= @Array.getD_eq_getD_getElem?
abbrev qUb:= @Sort.heap_grow_old
abbrev qUc:= @List.replicate_succ'
abbrev qUd:= @World.cell?_setCells_out
abbrev qUe:= @List.getElem?_take_of_lt
abbrev qUf:= @Array.all_eq_true_iff_forall_mem
abbrev qUg:= @List.mem_of_mem_take
abbrev qUh:= @BitVec.toNat_shiftLeft
abbrev qUi:= @BitVec.toNat_ushiftRight
abbrev qUj:= @List.Perm.pairwise_iff
abbrev qUk:= @List.mem_take_iff_getElem
abbrev qUl:= @List.eq_nil_iff_forall_not_mem
abbrev qUm:= @Array.getElem?_setIfInBounds
abbrev qUn:= @List.take_append_of_le_length
abbrev zP (b o:Nat):yD:=qc (yA ⟨b,o,yB⟩)
abbrev zI (n:Nat):yD:=qX qm (n:Int)
namespace Kit
variable {w w':yC} {a:Option yF} {xs:List yD} {B n c:Nat} {e:yE} {P:Program}
theorem zJ3 (len n:Nat) (N:Int) (b:N=(n:Int)):∃M:Nat,(if N<(len:Int)then N else(len:Int))=(M:Int)/\M<=len/\M<=n/\yL (M=min len n):=by
 subst b;refine⟨min len n,?_,za,za,rfl⟩;split<;>omega
theorem zRp (s:ByteArray) (n:Nat) (N:Int) (g:N=(n:Int)):∃(M:Nat) (t:ByteArray),(if N<(s.size:Int)then N else(s.size:Int))=(M:Int)/\M<=s.size/\s.extract 0 M=t/\t.size<=n/\yL (M=min s.size n):=by
 obtain⟨M,b,d,h,f⟩:=zJ3 s.size n N g;exact⟨M,_,b,d,rfl,by rw[qS1];omega,f⟩
def Src (w:yC) (a:Option yF) (xs:List yD):Prop:=∀j u,xs[j]? =yA u->∃b off,a=yA ⟨b,off,yB⟩/\w.cell? ⟨b,off+j,yB⟩=yA u
theorem addr_add (b off i:Nat):(⟨b,off,yB⟩:yF).add i=⟨b,off+i,yB⟩:=by
 unfold Addr.add;split<;>simp_all
theorem Src.below (h:Src w a xs) (g:yM w w w'):Src w' a xs:=by
 intro j u i;obtain⟨b,c,f,d⟩:=h j u i;exact⟨b,c,f,by rw[g.cell (qQk d),d]⟩
theorem Src.nil (w:yC) (a:Option yF):Src w a []:=by intro j u b;simp at b
theorem Src.take (h:Src w a xs) (n:Nat):Src w a (xs.take n):=by
 intro j u b;refine h j u ?_;rw[qSc]at b;split at b
 .exact b
 .cases b
theorem zAs (w:yC) (v:yD) (t:yE):Src (w.alloc (qp #[v] t)) (yA ⟨w,0,yB⟩) [v]:=by
 intro j u b
 match j,b with
 |0,b=>exact⟨_,_,rfl,by simp at b;subst b;simp⟩
def Own (w:yC) (B:Nat) (e:yE) (a:Option yF) (n c:Nat) (xs:List yD):Prop:=w.ownsRow B e 1 (qZ a n c) n xs
theorem Own.len (h:Own w B e a n c xs):kN xs=n:=by
 have:=h.1;omega
theorem Own.start (w:yC) (B:Nat) (e:yE):Own w B e yB 0 0 []:=World.ownsRow_nil w B e 1
theorem Own.at_ (h:Own w B e a n c xs) (o:0<n):
  ∃g,a=yA ⟨g,0,yB⟩/\B<=g/\g<w.heap.size/\n<=c/\(∀j,j<n->w.cell? ⟨g,j,yB⟩=xs[j]?)/\(∀j,w.frozen? ⟨g,j,yB⟩=yI):=by
 have i:=h;obtain⟨_,l⟩:=h;rcases l with⟨_,s⟩|⟨g,p,q,hv,m,k,f,r,u,x⟩
 .omega
 .injection hv with ha o hc
  subst ha hc;refine⟨g,rfl,m,?_,f,fun j t=> ?_,fun j=> ?_⟩
  .rcases qP8 g w.heap.size with d|b
   .exact d
   .rw[qRk b]at k;cases k
  .exact qTn i j za
  .exact World.ownsRow.frozenAt i j
theorem Own.src (h:Own w B e a n c xs):Src w a xs:=by
 intro j u d;have l:=h.len;have k:j<kN xs:=by
  rcases qP8 j (kN xs) with b|b
  .exact b
  .rw[qQq b]at d;cases d
 obtain⟨g,f,_,_,_,i,_⟩:=h.at_ za;exact⟨g,0,f,by rw[qQd,i j za,d]⟩
theorem Own.below {D:Nat} (h:Own w B e a n c xs) (o:yM D w w') (p:w.heap.size<=D):Own w' B e a n c xs:=by
 obtain⟨m,k⟩:=h;refine⟨m,?_⟩;rcases k with k|⟨g,j,d,hv,i,l,r⟩
 .exact qz k
 .refine qy ⟨g,j,d,hv,i,?_,r⟩;have b:g<w.heap.size:=by
   rcases qP8 g w.heap.size with b|f
   .exact b
   .rw[qRk f]at l;cases l
  rw[o.block g za,l]
theorem Own.alloc (h:Own w B e a n c xs) (o:Obj):Own (w.alloc o) B e a n c xs:=World.ownsRow.alloc h o
theorem Own.base {B':Nat} (h:Own w B e a n c xs) (k:B'<=B):Own w B' e a n c xs:=by
 obtain⟨i,f⟩:=h;refine⟨i,?_⟩;rcases f with f|⟨g,d,b,hv,j,r⟩
 .exact qz f
 .exact qy ⟨g,d,b,hv,za,r⟩
structure One (P:Program) (t e:yE) (bytes:Nat):Prop where
 ut:P.underlying t=yA (.slice e)
 row:∃z:yD,(P.info? e).map (fun i=>(i.zero,i.size,i.bytes))=yA (yA z,1,bytes)/\z.cells.size=1
theorem Own.app {bytes:Nat} {t ty:yE} (o:One P t e bytes) (h:Own w B e a n c xs)
  (x:Option yF) (m r:Nat) (q:List yD) (V:Src w x q) (O:kN q=m) (X:x=yB->m=0/\r=0) (L:∀u∈q,u.oneCell'=yH)
  (K:n+m<=maxLen) (H:(n+m)*bytes<=140737488355328) (I:B<=w.heap.size):
  ∃a' c' w',(Builtin.append_ #[t,t] ty #[qZ a n c,qZ x m r]).run P w= .ok (qZ a' (n+m) c') w'/\Own w' B e a' (n+m) c' (xs++q)/\w.grownBy w' (Value.ownBlock (qZ a n c)):=by
 obtain⟨z,Y,l⟩:=o.row;obtain⟨i,hi,f,p,d⟩:=qRv Y;have b:∀{v:yD} {w':yC} {k:Nat} {G:List yD},w'.ownsRow B e 1 v k G->∃a' c',v=qZ a' k c':=by
  intro v w' k G hv;rcases Joins.ownsRow_forms hv with⟨rfl,rfl⟩|⟨g,a0,rfl⟩
  .exact⟨_,_,rfl⟩
  .exact⟨_,_,rfl⟩
 cases x with
 |none=>
  obtain⟨rfl,rfl⟩:=X rfl;have R:q=[]:=qQ0 O;subst R;refine⟨a,c,w,run_append_owned_none (P:=P) (w:=w) B t ty e i 1 o.ut hi _ n xs h,by simpa using h,⟨rfl,rfl,rfl,Nat.le_refl _,fun _ _ _=>rfl⟩⟩
 |some y=>
  obtain⟨v',w',S,F,N,_⟩:=run_append_own (P:=P) w B t ty e i z 1 bytes o.ut hi f p d l za _ n xs h y m r q za
   (fun j u W=>by
    obtain⟨b',Z,s,M⟩:=V j u W;injection s with s
    subst s;rw[addr_add];exact M) L K H I
  obtain⟨a',c',rfl⟩:=b F;exact⟨a',c',w',S,F,N⟩
theorem zAr {b:Array Oper} {rest:List Oper} {o:Oper} {a:Act} {Q:Exit->Act->yC->Prop} (j:Region.wanted o (yielded b a.tmps)=yH) (s x:Operand) (t:yE)
  (f:o.op= .call {callee:= .builtin .append,args:= #[s,x],argTypes:= #[t,t]}) {v y v':yD} (i:a.eval s=v) (k:a.eval x=y)
  (g:(Builtin.append_ #[t,t] o.type #[v,y]).run P w= .ok v' w') (h:wpList P b Q rest (a.put o.dst v') w'):wpList P b Q (o::rest) a w:=by
 refine BigFrame.wpList_want j fun K d=> ?_;unfold Oper.wp execOp;simp only[f,resolve,invoke,builtin,qRl,qSo,qS2,List.map_toArray,qQe,qSp,i,k,g];exact d _ _ h
theorem zAq {v:yD} (d:w.grownBy w' (Value.ownBlock v)) (b:B<=w.heap.size) (hv:∀k,v.ownBlock=yA k->B<=k):yM B w w':=
 (yR _ _).grown d b hv
theorem Own.block (h:Own w B e a n c xs):∀k,(Value.slice a n c).ownBlock=yA k->B<=k:=by
 intro k b;exact(World.ownsRow.lt h k b).1
theorem Own.set {g:Nat} (h:Own w B e (yA ⟨g,0,yB⟩) n c xs) (j:Nat) (u:yD) (q:j<n):Own (w.setCell ⟨g,j,yB⟩ u) B e (yA ⟨g,0,yB⟩) n c (xs.set j u):=by
 obtain⟨k,i⟩:=h;refine⟨by rw[qR2];exact k,?_⟩;rcases i with⟨i,_⟩|⟨g',p,a,hv,b,l,f,d,m,o⟩
 .cases i
 .injection hv with ha hn hc
  injection ha with ha
  injection ha with ha
  subst ha hc;refine qy ⟨g,c,a.setIfInBounds j u,rfl,b,?_,f,d,by simpa using m,?_⟩
  .simp[World.setCell,qQt,l]
  .rw[<-o];simp[List.take_set]
end Kit
namespace Kit
section
variable {P:Program} {ops:Array Oper} {Q:Exit->Act->yC->Prop} {md:Region.Mode}
theorem zX7 {c:Nat} {a:Act} {w:yC} (b:P.follows .mixedOrders=yH) (h:wpAny P .any ops Q ops.size (Array.replicate ops.size yI) a w.drew):(Code.region c ops yH).wp P Q a w:=
 wp_region_any b h
theorem zBc (i:Nat) {o:Oper} (v:yD) {d:Nat} {b:Array Bool} {a:Act} {w:yC} (hi:ops[i]? =yA o) (j:Region.noSelect ops=yH) (f:Region.free md ops b i=yH)
  (g:(Region.ready md ops b).contains i=yH) (e:∀c a w,Q (.panic c) (a.put o.dst v) w->Q (.panic c) a w) (k:Region.wanted o (yielded ops a.tmps)=yH) (hv:∀w,(execOp a.eval o).run P w= .ok (.value v) w)
  (h:wpAny P md ops Q d (b.setIfInBounds i yH) (a.put o.dst v) w):wpAny P md ops Q (d+1) b a w:=
 wpAny_take hi j f g e (qz ⟨k,hv⟩) h
theorem zJ1 (i:Nat) {o:Oper} {c:Nat} {b:Array Bool} {a:Act} {w:yC} (hi:ops[i]? =yA o) (e:Region.ready md ops b=[i]) (f:Region.wanted o (yielded ops a.tmps)=yH)
  (h:Oper.wp P o a w (wpAny P md ops Q c (b.setIfInBounds i yH)) Q):wpAny P md ops Q (c+1) b a w:=
 wpAny_ready e zm (AllReady.cons hi (fun K d=>by rw[qPr f];exact Oper.wp_mono d h) AllReady.nil)
theorem zRl {o:Oper} {a:Act} {w:yC} {K:Act->yC->Prop} (f:FuncId) (args:Array yD) (v:yD) {R:yC->Prop}
  (c:(execOp a.eval o).run P w= .ok (.enter f args) w) (g:yG P f args w fun e b=>e=qx v/\R b) (h:∀w',R w'->K (a.put o.dst v) w'):Oper.wp P o a w K Q:=by
 unfold Oper.wp;rw[c,Oper.upon_enter];refine g.mono fun e b i=> ?_;obtain⟨rfl,d⟩:=i;exact h _ d
theorem zJ0 {o:Oper} {a:Act} {w w':yC} {K:Act->yC->Prop} (v:yD) (b:(execOp a.eval o).run P w= .ok (.value v) w') (h:K (a.put o.dst v) w'):Oper.wp P o a w K Q:=by
 unfold Oper.wp;rw[b,Oper.upon_value];exact h
end
theorem zHb {P:Program} {ρ:Operand->yD} {o:Oper} {w w':yC} (s x:Operand) (t:yE) {v y v':yD} (a:o.op= .call {callee:= .builtin .append,args:= #[s,x],argTypes:= #[t,t]})
  (c:ρ s=v) (d:ρ x=y) (b:(Builtin.append_ #[t,t] o.type #[v,y]).run P w= .ok v' w'):(execOp ρ o).run P w= .ok (.value v') w':=by
 unfold execOp;simp only[a,resolve,invoke,builtin,qRl,qSo,qS2,List.map_toArray,qQe,qSp,c,d,b]
end Kit
namespace Kit
section
variable {P:Program} {ops:Array Oper} {w:yC} {Q:Act->Prop} {a:Act} {o:Oper} {rest:List Oper}
end
section
variable {P:Program} {ops:Array Oper} {w w':yC} {Q:Exit->Act->yC->Prop} {a:Act} {o:Oper} {rest:List Oper}
theorem zHa {ρ:Operand->yD} {t:yE} {x y:Operand} {p:yF} {v:yD} (b:o.op= .store t x y) (d:ρ x=qc (yA p)) (e:ρ y=v) (c:(storeVar t p v).run P w= .ok () w'):(execOp ρ o).run P w= .ok .skip w':=by
 unfold execOp;simp only[b,d,e,Instr.storeAt,Instr.sureAddr,qRl,qSo,qS2,c]
end
theorem zAw {P:Program} {ρ:Operand->yD} {o:Oper} {t e:yE} {x y:Operand} {g n c k sz:Nat} (b:o.op= .indexAddr t x y) (f:ρ x=qZ (yA ⟨g,0,yB⟩) n c) (h:ρ y=qX qm (k:Int)) (j:k<n)
  (d:P.underlying t=yA (.slice e)) (i:∀w,(sizeOf e).run P w= .ok sz w) (w:yC):(execOp ρ o).run P w= .ok (.value (qc (yA ⟨g,k*sz,yB⟩))) w:=by
 have a:(0:Int)<=(k:Int)/\(k:Int)<(n:Int):=⟨za,za⟩;unfold execOp;simp[b,f,h,Instr.indexAt,asIntOf,qRl,qTo d,a,i,Kit.addr_add];omega
theorem qCt {P:Program} {ρ:Operand->yD} {o:Oper} {t e:yE} {x y:Operand} {g off n c k sz:Nat} (b:o.op= .indexAddr t x y) (f:ρ x=qZ (yA ⟨g,off,yB⟩) n c) (h:ρ y=qX qm (k:Int)) (j:k<n)
  (d:P.underlying t=yA (.slice e)) (i:∀w,(sizeOf e).run P w= .ok sz w) (w:yC):(execOp ρ o).run P w= .ok (.value (qc (yA ⟨g,off+k*sz,yB⟩))) w:=by
 have a:(0:Int)<=(k:Int)/\(k:Int)<(n:Int):=⟨za,za⟩;unfold execOp;simp[b,f,h,Instr.indexAt,asIntOf,qRl,qTo d,a,i,Kit.addr_add];omega
theorem zBo {P:Program} {ρ:Operand->yD} {o:Oper} {t e:yE} {x y:Operand} {g n c k:Nat} (b:o.op= .indexAddr t x y) (f:ρ x=qZ (yA ⟨g,0,yB⟩) n c) (h:ρ y=qX qm (k:Int)) (a:k<n)
  (d:P.underlying t=yA (.slice e)) (i:∀w,(sizeOf e).run P w= .ok 1 w) (w:yC):(execOp ρ o).run P w= .ok (.value (qc (yA ⟨g,k,yB⟩))) w:=by
 have:=zAw (P:=P) (sz:=1) b f h a d i w;rwa[Nat.mul_one]at this
theorem zK5 {P:Program} {ρ:Operand->yD} {o:Oper} {t e:yE} {x y:Operand} {g off n c k:Nat} (b:o.op= .indexAddr t x y) (f:ρ x=qZ (yA ⟨g,off,yB⟩) n c) (h:ρ y=qX qm (k:Int)) (a:k<n)
  (d:P.underlying t=yA (.slice e)) (i:∀w,(sizeOf e).run P w= .ok 1 w) (w:yC):(execOp ρ o).run P w= .ok (.value (qc (yA ⟨g,off+k,yB⟩))) w:=by
 have:=qCt (P:=P) (sz:=1) b f h a d i w;rwa[Nat.mul_one]at this
theorem zM7 {P:Program} {ρ:Operand->yD} {o:Oper} {t:yE} {x:Operand} {p:yF} {v:yD} {w:yC} (a:o.op= .load t x) (c:ρ x=qc (yA p)) (b:(loadVar t p).run P w= .ok v w):(execOp ρ o).run P w= .ok (.value v) w:=by
 unfold execOp;simp[a,c,Instr.loadAt,Instr.sureAddr,b]
theorem zAg {P:Program} {t:yE} {p:yF} {v:yD} {w:yC} (d:w.cell? p=yA v) (a:(P.info? t).map (·.size)=yA 1) (c:(isAgg t).run P w= .ok yI w):(loadVar t p).run P w= .ok v w:=by
 cases hq:P.info? t with
 |none=>simp[hq]at a
 |some i=>
  have b:i.size=1:=by simpa [hq]using a
  simp[loadVar,sizeOf,typeInfo,hq,b,go_sem,d,c]
theorem zDa {P:Program} {ρ:Operand->yD} {o:Oper} {w a w2:yC} {n:Nat} (h:(execOp ρ o).run P w= .ok (.value (qc (yA ⟨w,0,yB⟩))) a) (c:w.heap.size=n) (b:a=w2):(execOp ρ o).run P w= .ok (.value (qc (yA ⟨n,0,yB⟩))) w2:=by
 subst c b;exact h
theorem zM6 {P:Program} {ρ:Operand->yD} {o:Oper} {t u:yE} {x y:Operand} {k:IntKind} {m n r:Int} (a:o.op= .binOp .sub t x y u) (c:ρ x=qX k m) (d:ρ y=qX k n) (b:k.wrap (m-n)=r) (w:yC):(execOp ρ o).run P w= .ok (.value (qX k r)) w:=by
 unfold execOp;simp[a,c,d,go_sem,b]
theorem qCv {P:Program} {ρ:Operand->yD} {o:Oper} {t u:yE} {x y:Operand} {k:IntKind} {m n r:Int} (a:o.op= .binOp .add t x y u) (c:ρ x=qX k m) (d:ρ y=qX k n) (b:k.wrap (m+n)=r) (w:yC):(execOp ρ o).run P w= .ok (.value (qX k r)) w:=by
 unfold execOp;simp[a,c,d,go_sem,b]
theorem zDs {P:Program} {t:yE} {p:yF} {v k:yD} {w:yC} (g:w.cell? p=yA k) (h:w.frozen? p=yI) (a:(P.info? t).map (·.size)=yA 1) (b:v.oneCell'=yH) (c:v.cells= #[v]):(storeVar t p v).run P w= .ok () (w.setCell p v):=by
 cases hq:P.info? t with
 |none=>simp[hq]at a
 |some i=>
  have j:i.size=1:=by simpa [hq]using a
  have d:(store p v).run P w= .ok () (w.setCell p v):=by rw[run_store P w p v _ b];simp[go_sem,g,h]
  have e:(storeCells p [v]).run P w= .ok () (w.setCell p v):=by simp[go_sem,d]
  have f:(sizeOf t).run P w= .ok 1 w:=by simp[sizeOf,typeInfo,hq,j,go_sem]
  unfold storeVar;rw[c];simp[qRl,f,e]
end Kit
namespace Kit
section
variable {P:Program} {ops:Array Oper} {md:Region.Mode} {w:yC}
structure Inv (md:Region.Mode) (ops:Array Oper) (listed0 listed:Array Bool):Prop where
 size:listed.size=ops.size
 closed:∀j oj,ops[j]? =yA oj->listed.getD j yI=yH->∀e∈oj.after,Region.binds md e=yH->listed.getD e.on yI=yH
 more:∀j,listed0.getD j yI=yH->listed.getD j yI=yH
theorem Inv.set {h f:Array Bool} {i:Nat} (g:Inv md ops h f) (hi:i∈Region.ready md ops f):Inv md ops h (f.setIfInBounds i yH):=by
 obtain⟨_,o,c,b⟩:=qRw.1 hi;refine⟨by simp[g.size],fun j n d m e l k=> ?_,fun j d=>getD_set_true (g.more j d)⟩;by_cases a:i=j
 .subst a;have:n=o:=qPv (d.symm.trans c);subst this;exact getD_set_true (b e l k)
 .rw[getD_set_ne yI a]at m;exact getD_set_true (g.closed j n d m e l k)
def zC (md:Region.Mode) (o:Oper):Nat:=o.after.foldl (fun m e=>if Region.binds md e then m|||(1<<<e.on)else m) 0
theorem zOz (md:Region.Mode):∀(l:List Edge) (m k:Nat),(l.foldl (fun m e=>if Region.binds md e then m|||(1<<<e.on)else m) m).testBit k=(m.testBit k||l.any fun e=>Region.binds md e&&e.on==k)
 |[],m,k=>by simp
 |e::l,m,k=>by
  rw[qTp,zOz md l _ k,List.any_cons];cases hb:Region.binds md e with
  |false=>simp
  |true=>
   rw[qPr rfl,qR6,qTc,qTd,show yJ (e.on=k)=(e.on==k)from rfl];simp[Bool.or_assoc]
theorem zEx (o:Oper) (k:Nat):(zC md o).testBit k=yH↔∃e∈o.after,Region.binds md e=yH/\e.on=k:=by
 unfold zC;rw[<-Array.foldl_toList,zOz,Nat.zero_testBit,Bool.false_or,List.any_eq_true];constructor
 .rintro⟨e,a,h⟩;simp only[qQ1,qSq]at h;exact⟨e,by simpa using a,h.1,h.2⟩
 .rintro⟨e,a,b,c⟩;exact⟨e,by simpa using a,by rw[b,c];simp⟩
def zG2 (L i:Nat):Bool:= !(Nat.beq (Nat.land (Nat.shiftRight L i) 1) 0)
theorem zFt (L i:Nat):zG2 L i=L.testBit i:=by
 unfold zG2;rw[show Nat.land (Nat.shiftRight L i) 1=(L>>>i)&&&1 from rfl,Nat.and_one_is_mod,Nat.testBit,Nat.and_comm,Nat.and_one_is_mod];rcases qU (L>>>i)with h|h<;>rw[h]<;>rfl
def inB (m L:Nat):Bool:=Nat.beq (Nat.land m L) m
theorem zH6 {m L:Nat}:inB m L=yH↔∀k,m.testBit k=yH->L.testBit k=yH:=by
 unfold inB;constructor
 .intro h k a;have h:(m&&&L)=m:=qTe h;rw[<-h,Nat.testBit_and]at a;simp only[qQ1]at a;exact a.2
 .intro h;have e:(m&&&L)=m:= ?_
  .show Nat.beq (m&&&L) m=yH;rw[e];exact Nat.beq_refl m
  apply Nat.eq_of_testBit_eq;intro k;rw[Nat.testBit_and];cases hm:m.testBit k with
  |false=>rfl
  |true=>rw[h k hm];rfl
def zA1 (L:Nat):List Nat->Nat->List Nat
 |[],_=>[]
 |m::r,i=>cond (zG2 L i) (zA1 L r (i+1)) (cond (inB m L) (i::zA1 L r (i+1)) (zA1 L r (i+1)))
theorem zDd (L:Nat):∀(f:List Nat) (i j:Nat),j∈zA1 L f i↔i<=j/\L.testBit j=yI/\∃m,f[j-i]? =yA m/\inB m L=yH
 |[],i,j=>by simp[zA1]
 |m::r,i,j=>by
  have g:=zDd L r (i+1) j;have step:i+1<=j->(m::r)[j-i]? =r[j-(i+1)]? :=fun h=>by rw[show j-i=(j-(i+1))+1 by omega];rfl
  have a:j∈zA1 L (m::r) i↔(j=i/\L.testBit i=yI/\inB m L=yH)\/j∈zA1 L r (i+1):=by
   rw[zA1,zFt];cases hb:L.testBit i with
   |true=>simp
   |false=>
    cases hm:inB m L with
    |false=>simp
    |true=>simp
  rw[a,g];constructor
  .rintro(⟨rfl,d,b⟩|⟨d,b,m',c,e⟩)
   .exact⟨qPq _,d,m,zm,b⟩
   .exact⟨za,b,m',by rw[step d];exact c,e⟩
  .rintro⟨d,b,m',c,e⟩;rcases qP8 i j with h|h
   .exact qy ⟨h,b,m',by rw[<-step h];exact c,e⟩
   .obtain rfl:i=j:=za
    simp at c;subst c;exact qz ⟨rfl,b,e⟩
def zEv:List Nat->Nat->Nat->Nat
 |[],_,acc=>acc
 |m::r,t,acc=>zEv r (t+1) (cond (Nat.beq (Nat.land m acc) 0) acc (Nat.lor acc (Nat.shiftLeft 1 t)))
structure Facts (md:Region.Mode) (ops:Array Oper) (ms:List Nat):Prop where
 sel:Region.noSelect ops=yH
 wait:ops.toList.map (zC md)=ms
 apart:∀(i j:Nat) (oi oj:Oper),ops[i]? =yA oi->ops[j]? =yA oj->i≠j->(zC md oj).testBit i=yI->(zC md oi).testBit j=yI->oi.apart ops oj=yH
def zJb (ops:Array Oper) (a:Nat) (x:Oper) (i:Nat):List Oper->List Nat->Nat->Bool
 |y::r,my::s,j=>(cond (Nat.beq i j) true (cond (zG2 my i) true (cond (zG2 a j) true (x.apart ops y))))&&zJb ops a x i r s (j+1)
 |_,_,_=>true
def zD (ops:Array Oper) (b:List Oper) (a:List Nat):List Oper->List Nat->Nat->Bool
 |x::r,mx::s,i=>zJb ops mx x i b a 0&&zD ops b a r s (i+1)
 |_,_,_=>true
theorem zKw (b:Nat) (x:Oper) (i:Nat):∀(r:List Oper) (s:List Nat) (j:Nat),zJb ops b x i r s j=yH->∀k y a,r[k]? =yA y->s[k]? =yA a->i≠j+k->a.testBit i=yI->b.testBit (j+k)=yI->x.apart ops y=yH
 |[],_,_,_,k,y,a,h,_,_,_,_=>by simp at h
 |_::_,[],_,_,k,y,a,_,h,_,_,_=>by simp at h
 |y0::r,m0::s,j,h,k,y,a,hy,hm,hne,h1,h2=>by
  rw[zJb,qQ1]at h;cases k with
  |zero=>
   simp at hy hm;subst hy hm;have c:=h.1;rw[zFt,zFt,h1,show b.testBit j=yI from h2,show Nat.beq i j=yI from by cases hb:Nat.beq i j with|false=>rfl|true=>exact absurd (qTe hb) za]at c;exact c
  |succ k=>
   exact zKw b x i r s (j+1) h.2 k y a (by simpa using hy) (by simpa using hm) za h1 (by rw[show j+1+k=j+(k+1)by omega];exact h2)
theorem zIk (c:List Oper) (b:List Nat):∀(r:List Oper) (s:List Nat) (i:Nat),zD ops c b r s i=yH->∀k x a,r[k]? =yA x->s[k]? =yA a->zJb ops a x (i+k) c b 0=yH
 |[],_,_,_,k,x,a,h,_=>by simp at h
 |_::_,[],_,_,k,x,a,_,h=>by simp at h
 |x0::r,m0::s,i,h,k,x,a,hx,hm=>by
  rw[zD,qQ1]at h;cases k with
  |zero=>simp at hx hm;subst hx hm;exact h.1
  |succ k=>
   have:=zIk c b r s (i+1) h.2 k x a (by simpa using hx) (by simpa using hm);rwa[show i+1+k=i+(k+1)by omega]at this
theorem Facts.mk' {a:List Nat} (n:Region.noSelect ops=yH) (c:ops.toList.map (zC md)=a) (l:zD ops ops.toList a ops.toList a 0=yH):Facts md ops a:=by
 refine⟨n,c,fun i j b d hi m hne h k=> ?_⟩;have e:ops.toList[i]? =yA b:=by simpa using hi
 have f:ops.toList[j]? =yA d:=by simpa using m
 have o:a[i]? =yA (zC md b):=by rw[<-c,qP3,e];rfl
 have p:a[j]? =yA (zC md d):=by rw[<-c,qP3,f];rfl
 have g:=zIk ops.toList a ops.toList a 0 l i b _ e o;rw[qQd]at g;exact zKw _ b i ops.toList a 0 g j d _ f p za h (by rw[qQd];exact k)
theorem Facts.at_ {a:List Nat} (F:Facts md ops a) {i m:Nat} (h:a[i]? =yA m):∃o,ops[i]? =yA o/\zC md o=m:=by
 rw[<-F.wait,qP3]at h;cases ho:ops.toList[i]? with
 |none=>rw[ho]at h;cases h
 |some o=>rw[ho]at h;exact⟨o,by simpa using ho,Option.some.inj h⟩
theorem Facts.get {a:List Nat} (F:Facts md ops a) {i:Nat} {o:Oper} (h:ops[i]? =yA o):a[i]? =yA (zC md o):=by
 rw[<-F.wait,List.getElem?_map,show ops.toList[i]? =yA o by simpa using h];rfl
structure Cor (md:Region.Mode) (ops:Array Oper) (listed:Array Bool) (L:Nat):Prop where
 inv:Inv md ops listed listed
 bit:∀j,listed.getD j yI=L.testBit j
theorem Cor.ready {n:List Nat} (F:Facts md ops n) {l:Array Bool} {L:Nat} (c:Cor md ops l L) (j:Nat):j∈Region.ready md ops l↔j∈zA1 L n 0:=by
 rw[qRw,zDd];constructor
 .rintro⟨g,o,f,a⟩;refine⟨qQl _,by rw[<-c.bit];exact getD_both g,zC md o,F.get f,?_⟩;rw[zH6];intro k p;obtain⟨e,i,h,rfl⟩:=(zEx o k).1 p;rw[<-c.bit];exact a e i h
 .rintro⟨_,g,m,q,b⟩;obtain⟨o,f,rfl⟩:=F.at_ q;have d:j<ops.size:=(qQ7.1 f).1;refine⟨getD_in (by rw[c.inv.size];exact d) (by rw[c.bit];exact g),o,f,fun e i h=> ?_⟩;rw[c.bit];exact zH6.1 b _ ((zEx o _).2 ⟨e,i,h,rfl⟩)
theorem Cor.set {b:Array Bool} {L:Nat} (c:Cor md ops b L) {i:Nat} (hi:i∈Region.ready md ops b):Cor md ops (b.setIfInBounds i yH) (L|||1<<<i):=by
 have h:=c.inv.set hi;obtain⟨_,o,d,_⟩:=qRw.1 hi;have a:i<ops.size:=(qQ7.1 d).1;refine⟨⟨h.size,h.closed,fun _ h=>h⟩,fun j=> ?_⟩;rw[qR6,qTc,qTd];by_cases e:i=j
 .subst e;have:i<(b.setIfInBounds i yH).size:=by simp[c.inv.size,a]
  simp[qUa,c.inv.size,a]
 .rw[getD_set_ne yI e,c.bit];simp[e]
theorem Cor.free {s:List Nat} (F:Facts md ops s) {k:Array Bool} {L:Nat} (c:Cor md ops k L) {i:Nat} {g:Oper} (hi:ops[i]? =yA g) (r:i∈Region.ready md ops k):
  ∀j f,ops[j]? =yA f->j≠i->k.getD j yH=yI->(∀e∈f.after,Region.binds md e=yH->e.on≠i)->g.apart ops f=yH:=by
 intro j f q hne p o;refine F.apart i j g f hi q (qQ4 hne) ?_ ?_
 .cases h:(zC md f).testBit i with
  |false=>rfl
  |true=>
   obtain⟨e,m,l,a⟩:=(zEx f i).1 h;exact absurd a (o e m l)
 .cases h:(zC md g).testBit j with
  |false=>rfl
  |true=>
   obtain⟨e,m,l,a⟩:=(zEx g j).1 h;obtain⟨_,t,d,b⟩:=qRw.1 r;have:t=g:=qPv (d.symm.trans hi);subst this;have n:=b e m l;rw[a,getD_both p]at n;cases n
theorem meets {m a:Nat} (h:Nat.beq (Nat.land m a) 0=yI):∃k,m.testBit k=yH/\a.testBit k=yH:=by
 have c:(m&&&a)≠0:=by
  intro e;rw[show Nat.land m a=(m&&&a)from rfl,e]at h;cases h
 obtain⟨k,b⟩:=Nat.exists_testBit_of_ne_zero c;rw[Nat.testBit_and,qQ1]at b;exact⟨k,b⟩
theorem zIb {s:List Nat} (F:Facts md ops s) {q:Array Bool} {L:Nat} (c:Cor md ops q L) (i:Nat):∀(B:List Nat) (t p:Nat),(∀k,B[k]? =s[t+k]?)->
  (∀k,p.testBit k=yH->L.testBit k=yI/\(k=i\/k∉Region.ready md ops q))->∀k,(zEv B t p).testBit k=yH->L.testBit k=yI/\(k=i\/k∉Region.ready md ops q)
 |[],t,p,_,h,k,hk=>h k hk
 |m::r,t,p,hms,h,k,hk=>by
  have H:s[t]? =yA m:=by have:=hms 0;simpa using this.symm
  have z:∀k,r[k]? =s[t+1+k]? :=fun k=>by have:=hms (k+1);rw[show t+1+k=t+(k+1)by omega];simpa using this
  obtain⟨o,y,I⟩:=F.at_ H;rw[zEv]at hk;cases hb:Nat.beq (Nat.land m p) 0 with
  |true=>
   rw[hb]at hk;exact zIb F c i r (t+1) p z h k hk
  |false=>
   rw[hb]at hk;refine zIb F c i r (t+1) _ z (fun j u=> ?_) k hk;rw[cond_false,show Nat.lor p (Nat.shiftLeft 1 t)=p|||1<<<t from rfl,qR6,qTc,qTd,qTv,qRm]at u;rcases u with u|rfl
   .exact h j u
   .obtain⟨d,b,l⟩:=meets hb;have a:=(h d l).1;rw[<-I]at b;obtain⟨e,x,f,rfl⟩:=(zEx o d).1 b;rw[<-c.bit]at a;refine⟨?_,qy fun G=> ?_⟩
    .rw[<-c.bit];cases hl:q.getD t yI with
     |false=>rfl
     |true=>rw[c.inv.closed t o y hl e x f]at a;cases a
    .obtain⟨_,K,n,g⟩:=qRw.1 G;have:K=o:=qPv (n.symm.trans y);subst this;rw[g e x f]at a;cases a
theorem zRm {a:List Nat} (F:Facts md ops a) {b:Array Bool} {L:Nat} (c:Cor md ops b L) {i:Nat} (hi:L.testBit i=yI) (t:Nat) (e:(zEv a 0 (Nat.shiftLeft 1 i)).testBit t=yH):t=i\/t∉Region.ready md ops b:=by
 refine(zIb F c i a 0 (Nat.shiftLeft 1 i) (fun k=>by rw[qQd]) (fun k d=> ?_) t e).2;rw[show Nat.shiftLeft 1 i=1<<<i from rfl,qTc,qTd,qRm]at d;subst d;exact⟨hi,qz rfl⟩
def zBj:List Nat->Nat
 |[]=>0
 |i::l=>Nat.lor (Nat.shiftLeft 1 i) (zBj l)
theorem zHz:∀(l:List Nat) (k:Nat),(zBj l).testBit k=yH↔k∈l
 |[],k=>by simp[zBj]
 |i::l,k=>by
  rw[zBj,show Nat.lor (Nat.shiftLeft 1 i) (zBj l)=1<<<i|||zBj l from rfl,qR6,qTc,qTd,qTv,zHz l k];simp[eq_comm]
def zMn (a:List Nat) (L M:Nat) (is:List Nat):Bool:=is.all fun i=>let d:=zEv a 0 (Nat.shiftLeft 1 i);(yO (kN a)).all fun t=>zG2 L t||zG2 M t||zG2 d t
theorem Facts.len {a:List Nat} (F:Facts md ops a):kN a=ops.size:=by rw[<-F.wait];simp
theorem zMm {h:List Nat} (F:Facts md ops h) {is:List Nat} {L0 L:Nat} {f:Array Bool} (l:zMn h L0 (zBj is) is=yH) (c:Cor md ops f L) (m:∀k,L0.testBit k=yH->L.testBit k=yH) {i:Nat} (g:i∈is) (hi:L.testBit i=yI):
  ∀j∈Region.ready md ops f,j∈is:=by
 intro j e;have a:j<ops.size:=by
  obtain⟨_,o,n,_⟩:=qRw.1 e;exact(qQ7.1 n).1
 have b:=List.all_eq_true.1 (List.all_eq_true.1 l i g) j (qQn.2 (by rw[F.len];exact a));simp only[qTv,zFt]at b;rcases b with(b|b)|b
 .have d:=getD_both (qRw.1 e).1;rw[c.bit,m j b]at d;cases d
 .exact(zHz is j).1 b
 .rcases zRm F c hi j b with rfl|d
  .exact g
  .exact absurd e d
def zC5 (P:Program) (md:Region.Mode) (ops:Array Oper) (Q:Exit->Act->yC->Prop) (D:List Nat) (S:yC->Prop):Nat->Array Bool->Act->yC->Prop
 |0,listed,a,w=>Region.ready md ops listed=[]/\Q .normal a w
 |fuel+1,listed,a,w=>
  (Region.ready md ops listed=[]->Q .normal a w)/\
  ∀i∈Region.ready md ops listed,wpOp P ops Q i (fun a' w'=>(w'=w\/D.contains i=yH\/S w')/\zC5 P md ops Q D S fuel (listed.setIfInBounds i yH) a' w') a w
theorem zLw {Q:Exit->Act->yC->Prop} {D:List Nat} {S:yC->Prop}:∀(b:Nat) (c:Array Bool) (a:Act) (w:yC),zC5 P md ops Q D S b c a w->wpAny P md ops Q b c a w
 |0,_,_,_,h=>h
 |b+1,_,_,_,h=>⟨h.1,fun i hi=>wpOp_mono (fun a' w' d=>zLw b _ a' w' d.2) (h.2 i hi)⟩
theorem zIm {K:List Nat} (F:Facts md ops K) {Q:Exit->Act->yC->Prop} {D:List Nat} {S S0:yC->Prop} {i:Nat} {y:Oper} {v:yD} (hi:ops[i]? =yA y)
  (V:∀c a w,Q (.panic c) (a.put y.dst v) w->Q (.panic c) a w) (R:∀(j:Nat) (w w':yC),(zEv K 0 (Nat.shiftLeft 1 i)).testBit j=yI\/j=i->(w'=w\/D.contains j=yH\/S w')->S0 w->S0 w'):
  ∀(t:Nat) (r:Array Bool) (L:Nat) (a:Act) (w:yC),Cor md ops r L->i∈Region.ready md ops r->YieldsIf P ops S0 y v a->S0 w->
   zC5 P md ops Q D S t (r.setIfInBounds i yH) (a.put y.dst v) w->zC5 P md ops Q D S (t+1) r a w:=by
 have g:=Region.noSelect_spec F.sel;intro t
 induction t with
 |zero=>
  intro r L a w u q I G H;refine⟨fun h=>(by rw[h]at q;cases q),fun j s=> ?_⟩;by_cases d:j=i
  .subst d;exact I.wpOp hi G ⟨qz rfl,H⟩
  .have:=ready_mono s d;rw[H.1]at this;cases this
 |succ t ih=>
  intro r L a w u q I G H;have k:=getD_both (qRw.1 q).1;refine⟨fun h=>(by rw[h]at q;cases q),fun j s=> ?_⟩;by_cases d:j=i
  .subst d;exact I.wpOp hi G ⟨qz rfl,H⟩
  .have z:=H.2 j (ready_mono s d);obtain⟨n,N,f,l⟩:=qRw.1 s;have m:∀e∈N.after,Region.binds md e=yH->e.on≠i:=fun e X W O=>by
    have z:=l e X W;rw[O,k]at z;cases z
   have p:(zEv K 0 (Nat.shiftLeft 1 i)).testBit j=yI\/j=i:=by
    cases h:(zEv K 0 (Nat.shiftLeft 1 i)).testBit j with
    |false=>exact qz rfl
    |true=>
     rcases zRm F u (by rw[<-u.bit];exact k) j h with x|x
     .exact qy x
     .exact absurd s x
   have x:=wpOp_putIf f (u.free F hi q j N f d n m) (fun M b=>g i y M b hi) (fun M b=>g j N M b f) V I z;refine wpOp_mono (fun a' w' B=> ?_) x;have o:S0 w':=R j w w' p B.2.1 G;refine⟨B.2.1,ih (r.setIfInBounds j yH) _ a' w' (u.set s) (ready_mono q (qQ4 d)) B.1 o ?_⟩;rw[Array.setIfInBounds_comm _ _ d];exact B.2.2
def wpM (P:Program) (md:Region.Mode) (ops:Array Oper) (w:yC) (is:List Nat) (L:Array Bool->Act->Prop):Nat->Array Bool->Act->Prop
 |0,listed,a=>L listed a
 |f+1,listed,a=>Region.ready md ops listed≠[]/\∀i∈Region.ready md ops listed,i∈is/\stOp P ops w i (wpM P md ops w is L f (listed.setIfInBounds i true)) a
theorem zKd {S:yC->Prop} {D is:List Nat} {g:Nat} {L:Array Bool->Act->Prop} {c:Exit->Act->yC->Prop} (d:∀b a,L b a->zC5 P md ops c D S g b a w):
  ∀(f:Nat) (b:Array Bool) (a:Act),wpM P md ops w is L f b a->zC5 P md ops c D S (f+g) b a w
 |0,b,a,h=>by rw[qQd];exact d _ _ h
 |f+1,b,a,h=>by
  rw[show f+1+g=(f+g)+1 by omega];exact⟨fun j=>absurd j h.1,fun i hi=>wpOp_of_stOp (fun a' e=>⟨qz rfl,zKd d f _ a' e⟩) (h.2 i hi).2⟩
theorem zV6 {N:List Nat} (F:Facts md ops N) {is:List Nat} {L0:Nat} {i:Nat} {z:Oper} {v:yD} {Lq:Array Bool->Act->Prop} (hi:ops[i]? =yA z)
  (M:zMn N L0 (zBj is) is=yH) (I:i∈is) (O:∀q a,Lq q a->∀j∈Region.ready md ops q,j∉is):
  ∀(f:Nat) (q:Array Bool) (L:Nat) (a:Act),Cor md ops q L->(∀k,L0.testBit k=yH->L.testBit k=yH)->i∈Region.ready md ops q->YieldsAt P ops w z v a->
   wpM P md ops w is Lq f (q.setIfInBounds i yH) (a.put z.dst v)->wpM P md ops w is Lq (f+1) q a:=by
 have m:=Region.noSelect_spec F.sel;intro f
 induction f with
 |zero=>
  intro q L a s x r y H;have g:=getD_both (qRw.1 r).1;refine⟨fun h=>(by rw[h]at r;cases r),fun j t=> ?_⟩;have d:=zMm F M s x I (by rw[<-s.bit];exact g) j t;refine⟨d,?_⟩;by_cases c:j=i
  .subst c;exact y.stOp hi H
  .exact absurd d (O _ _ H j (ready_mono t c))
 |succ f ih=>
  intro q L a s x r y H;have g:=getD_both (qRw.1 r).1;refine⟨fun h=>(by rw[h]at r;cases r),fun j t=> ?_⟩;have d:=zMm F M s x I (by rw[<-s.bit];exact g) j t;refine⟨d,?_⟩;by_cases c:j=i
  .subst c;exact y.stOp hi H
  .have u:=(H.2 j (ready_mono t c)).2;obtain⟨p,G,l,n⟩:=qRw.1 t;have o:∀e∈G.after,Region.binds md e=yH->e.on≠i:=fun e W V R=>by
    have u:=n e W V;rw[R,g]at u;cases u
   have S:=stOp_put l (s.free F hi r j G l c p o) (fun B b=>m i z B b hi) (fun B b=>m j G B b l) y u;refine stOp_mono (fun a' K=>ih (q.setIfInBounds j yH) _ a' (s.set t) (fun k X=>by rw[qR6,x k X,Bool.true_or]) (ready_mono r (qQ4 c)) K.1 ?_) S;rw[Array.setIfInBounds_comm _ _ c];exact K.2
def zE9 (a:List Nat):List Nat->Nat->Bool
 |[],_=>true
 |i::l,L=> !(zG2 L i)&&(match a[i]? with
   |some m=>inB m L
   |none=>false)&&zE9 a l (Nat.lor L (Nat.shiftLeft 1 i))
def zWw:List Nat->Array Bool->Array Bool
 |[],listed=>listed
 |i::l,listed=>zWw l (listed.setIfInBounds i true)
def phs (P:Program) (ops:Array Oper) (w:yC) (K:Act->Prop):List Nat->Act->Prop
 |[],a=>K a
 |i::l,a=>stOp P ops w i (phs P ops w K l) a
theorem zOs {a:List Nat} (F:Facts md ops a) {d:Array Bool} {L i:Nat} {l:List Nat} (c:Cor md ops d L) (h:zE9 a (i::l) L=yH):i∈Region.ready md ops d/\zE9 a l (L|||1<<<i)=yH:=by
 simp only[zE9,qQ1,Bool.not_eq_true',zFt]at h;refine⟨(c.ready F i).2 ((zDd L a 0 i).2 ⟨qQl _,h.1.1,?_⟩),h.2⟩;have b:=h.1.2;split at b
 .rename_i m hm;exact⟨m,hm,b⟩
 .cases b
theorem zS9 {o:List Nat} (F:Facts md ops o) {is:List Nat} {L0 g:Nat} {Lq:Array Bool->Act->Prop} (r:zMn o L0 (zBj is) is=yH) (hd:∀i∈is,g.testBit i=yH):
  ∀(l:List Nat) (e:Array Bool) (L:Nat) (a:Act),(∀i∈l,i∈is)->(L|||zBj l)=g->Cor md ops e L->(∀k,L0.testBit k=yH->L.testBit k=yH)->zE9 o l L=yH->
  phs P ops w (fun a'=>Lq (zWw l e) a') l a->wpM P md ops w is (fun m a'=>Cor md ops m g/\Lq m a') (kN l) e a
 |[],e,L,a,_,f,c,_,_,h=>by
  have:L=g:=by simpa [zBj]using f
  subst this;exact⟨c,h⟩
 |i::l,e,L,a,hm,f,c,hm0,hB,h=>by
  obtain⟨b,d⟩:=zOs F c hB;obtain⟨_,y,p,_⟩:=qRw.1 b;obtain⟨v,x,t⟩:=yieldsAt_of_stOp p h;refine zV6 F p r (hm i zm) (fun m a' u j n s=> ?_) (kN l) e L a c hm0 b x
   (zS9 F r hd l _ _ _ (fun j n=>hm j (by simp[n])) ?_ (c.set b) (fun k f=>by rw[qR6,hm0 k f,Bool.true_or]) d t)
  .have q:=getD_both (qRw.1 n).1;rw[u.1.bit,hd j s]at q;cases q
  .rw[<-f,zBj,show Nat.lor (Nat.shiftLeft 1 i) (zBj l)=1<<<i|||zBj l from rfl,Nat.or_assoc]
theorem zQv {K b:Act->Prop}:∀(l:List Nat) (_:∀a,K a->b a) (a:Act),phs P ops w K l a->phs P ops w b l a
 |[],h,a,hp=>h a hp
 |i::l,h,a,hp=>stOp_mono (fun a' c=>zQv l h a' c) hp
structure At_ (P:Program) (md:Region.Mode) (ops:Array Oper) (Q:Exit->Act->yC->Prop) (D:List Nat) (S:yC->Prop) (ms:List Nat) (f L:Nat) (a:Act) (w:yC):Prop where
 out:Facts md ops ms->∀listed,Cor md ops listed L->zC5 P md ops Q D S f listed a w
structure Ph (P:Program) (ops:Array Oper) (w:yC) (K:Act->Prop) (l:List Nat) (a:Act):Prop where
 out:phs P ops w K l a
theorem phase {S:yC->Prop} {D:List Nat} {b:List Nat} (is:List Nat) (f:Nat) (e:Nat) {n L:Nat} {a:Act} {Q:Exit->Act->yC->Prop} (q:kN is+f=n) (o:zMn b L (zBj is) is=yH) (p:zE9 b is L=yH)
  (g:(L|||zBj is)=e) (h:Ph P ops w (fun a'=>At_ P md ops Q D S b f e a' w) is a):At_ P md ops Q D S b n L a w:=by
 subst q;refine⟨fun F l c=> ?_⟩;have H:=zS9 (P:=P) (w:=w) F (Lq:=fun d a'=>Cor md ops d e->zC5 P md ops Q D S f d a' w) o (fun i hi=>by rw[<-g,qR6,(zHz is i).2 hi,Bool.or_true]) is l L a (fun i h=>h) g c (fun k h=>h) p ?_
 .exact zKd (fun d a' j=>j.2 j.1) _ _ _ H
 .refine zQv is ?_ a h.out;intro a' m c';exact m.out F _ c'
theorem qH4 {K:Act->Prop} {a:Act} (h:K a):Ph P ops w K [] a:=⟨h⟩
theorem zZ1 {K:Act->Prop} {a:Act} {i:Nat} {l:List Nat} {o:Oper} (d:Option Tmp) (v:yD) (hi:ops[i]? =yA o) (hd:o.dst=d) (b:Region.wanted o (yielded ops a.tmps)=yH) (hv:(execOp a.eval o).run P w= .ok (.value v) w) (h:Ph P ops w K l (a.put d v)):Ph P ops w K (i::l) a:=by
 subst hd;refine⟨?_⟩;show stOp P ops w i (phs P ops w K l) a;unfold stOp;simp only[hi,b,qRx];unfold Oper.still;rw[hv];exact⟨rfl,h.out⟩
theorem zZ2 {K:Act->Prop} {a:Act} {i:Nat} {l:List Nat} {o:Oper} (d:Option Tmp) (f:FuncId) (args:Array yD) (v:yD) (hi:ops[i]? =yA o) (hd:o.dst=d) (g:Region.wanted o (yielded ops a.tmps)=yH) (hv:(execOp a.eval o).run P w= .ok (.enter f args) w)
  (c:yG P f args w fun e b=>e=qx v/\b=w) (h:Ph P ops w K l (a.put d v)):Ph P ops w K (i::l) a:=by
 subst hd;refine⟨?_⟩;show stOp P ops w i (phs P ops w K l) a;unfold stOp;simp only[hi,g,qRx];unfold Oper.still;rw[hv];exact⟨rfl,v,c,h.out⟩
end
section
variable {P:Program} {ops:Array Oper} {md:Region.Mode} {w w':yC} {S:yC->Prop} {D ms:List Nat} {Q:Exit->Act->yC->Prop}
theorem zQo {a:Array Bool} {L i:Nat} (F:Facts md ops ms) (c:Cor md ops a L) (b:zE9 ms [i] L=yH):i∈Region.ready md ops a:=(zOs F c b).1
def zZa (ms:List Nat) (D:List Nat) (i:Nat):Bool:=D.all fun d=>zG2 (zEv ms 0 (Nat.shiftLeft 1 i)) d&& !(Nat.beq d i)
theorem qHh {i:Nat} (c:zZa ms D i=yH) (j:Nat) (w w':yC) (a:(zEv ms 0 (Nat.shiftLeft 1 i)).testBit j=yI\/j=i) (h:w'=w\/D.contains j=yH\/S w') (d:S w):S w':=by
 rcases h with rfl|h|h
 .exact d
 .have b:=List.all_eq_true.1 c j (by simpa using h);simp only[qQ1,zFt,Bool.not_eq_true']at b;rcases a with a|a
  .rw[a]at b;cases b.1
  .subst a;have:=b.2;rw[show Nat.beq j j=yH from Nat.beq_refl j]at this;cases this
 .exact h
theorem qGy (i:Nat) {o:Oper} (d:Option Tmp) (v:yD) (e:Nat) {f L:Nat} {a:Act} (hi:ops[i]? =yA o) (hd:o.dst=d) (j:zZa ms D i=yH) (n:zE9 ms [i] L=yH) (k:(L|||1<<<i)=e)
  (l:∀c a w,Q (.panic c) (a.put o.dst v) w->Q (.panic c) a w) (p:Region.wanted o (yielded ops a.tmps)=yH) (hv:∀w,S w->(execOp a.eval o).run P w= .ok (.value v) w) (m:S w)
  (h:At_ P md ops Q D S ms f e (a.put d v) w):At_ P md ops Q D S ms (f+1) L a w:=by
 subst hd;subst k;refine⟨fun F g c=> ?_⟩;have b:=zQo F c n;exact zIm F (S0:=S) hi l (qHh j) f g L a w c b (qz ⟨p,hv⟩) m (h.out F _ (c.set b))
theorem qG6 (i:Nat) {o:Oper} (d:Option Tmp) (v:yD) (e:Nat) {f L:Nat} {a:Act} (hi:ops[i]? =yA o) (hd:o.dst=d) (l:zE9 ms [i] L=yH) (j:(L|||1<<<i)=e)
  (k:∀c a w,Q (.panic c) (a.put o.dst v) w->Q (.panic c) a w) (m:Region.wanted o (yielded ops a.tmps)=yH) (hv:∀w,(execOp a.eval o).run P w= .ok (.value v) w)
  (h:At_ P md ops Q D S ms f e (a.put d v) w):At_ P md ops Q D S ms (f+1) L a w:=by
 subst hd;subst j;refine⟨fun F g c=> ?_⟩;have b:=zQo F c l;exact zIm F (S0:=fun _=>True) hi k (fun _ _ _ _ _ _=>trivial) f g L a w c b (qz ⟨m,fun w _=>hv w⟩) trivial (h.out F _ (c.set b))
theorem zGk {a:Array Bool} {L i:Nat} (F:Facts md ops ms) (c:Cor md ops a L) (b:zA1 L ms 0=[i]):i∈Region.ready md ops a/\∀j∈Region.ready md ops a,j=i:=
 ⟨(c.ready F i).2 (by rw[b];simp),fun j d=>by have:=(c.ready F j).1 d;rw[b]at this;simpa using this⟩
theorem zVs {i:Nat} {f:Nat} {b:Array Bool} {a:Act} (c:i∈Region.ready md ops b/\∀j∈Region.ready md ops b,j=i)
  (h:wpOp P ops Q i (fun a' w'=>(w'=w\/D.contains i=yH\/S w')/\zC5 P md ops Q D S f (b.setIfInBounds i yH) a' w') a w):zC5 P md ops Q D S (f+1) b a w:=
 ⟨fun d=>(by rw[d]at c;cases c.1),fun j e=>(by obtain rfl:=c.2 j e;exact h)⟩
theorem zLe (i:Nat) {o:Oper} (d:Option Tmp) (v:yD) (b:Nat) {f L:Nat} {a:Act} (k:zA1 L ms 0=[i]) (g:(L|||1<<<i)=b) (hi:ops[i]? =yA o) (hd:o.dst=d) (l:Region.wanted o (yielded ops a.tmps)=yH) (hv:(execOp a.eval o).run P w= .ok (.value v) w') (j:w'=w\/D.contains i=yH\/S w')
  (h:At_ P md ops Q D S ms f b (a.put d v) w'):At_ P md ops Q D S ms (f+1) L a w:=by
 subst hd;subst g;refine⟨fun F m c=> ?_⟩;have e:=zGk F c k;refine zVs e ?_;unfold wpOp;simp only[hi,l,qRx];left;unfold Oper.wp;rw[hv];exact⟨j,h.out F _ (c.set e.1)⟩
theorem qHc (i:Nat) {o:Oper} (d:Option Tmp) (b:Nat) {f L:Nat} {a:Act} (k:zA1 L ms 0=[i]) (g:(L|||1<<<i)=b) (hi:ops[i]? =yA o) (hd:o.dst=d) (l:Region.wanted o (yielded ops a.tmps)=yH) (hv:(execOp a.eval o).run P w= .ok .skip w') (j:w'=w\/D.contains i=yH\/S w')
  (h:At_ P md ops Q D S ms f b (a.put d yN) w'):At_ P md ops Q D S ms (f+1) L a w:=by
 subst hd;subst g;refine⟨fun F m c=> ?_⟩;have e:=zGk F c k;refine zVs e ?_;unfold wpOp;simp only[hi,l,qRx];left;unfold Oper.wp;rw[hv];exact⟨j,h.out F _ (c.set e.1)⟩
theorem qCf (i:Nat) {o:Oper} (d:Option Tmp) (g:FuncId) (args:Array yD) (v:yD) (b:Nat) {f L:Nat} {a:Act} {R:yC->Prop} (p:zA1 L ms 0=[i]) (m:(L|||1<<<i)=b) (hi:ops[i]? =yA o) (hd:o.dst=d) (q:Region.wanted o (yielded ops a.tmps)=yH)
  (hv:(execOp a.eval o).run P w= .ok (.enter g args) w) (n:yG P g args w fun e l=>e=qx v/\R l) (h:∀w',R w'->(w'=w\/D.contains i=yH\/S w')/\At_ P md ops Q D S ms f b (a.put d v) w'):At_ P md ops Q D S ms (f+1) L a w:=by
 subst hd;subst m;refine⟨fun F r c=> ?_⟩;have j:=zGk F c p;refine zVs j ?_;unfold wpOp;simp only[hi,q,qRx];left;refine zRl g args v hv n (fun w' k=>⟨(h w' k).1,(h w' k).2.out F _ (c.set j.1)⟩)
theorem qHm (i:Nat) {o:Oper} (d:Option Tmp) (g:FuncId) (args:Array yD) (b:Nat) {f L:Nat} {a:Act} {R:Ending->yC->Prop} (r:zA1 L ms 0=[i]) (m:(L|||1<<<i)=b) (hi:ops[i]? =yA o) (hd:o.dst=d) (s:Region.wanted o (yielded ops a.tmps)=yH)
  (hv:(execOp a.eval o).run P w= .ok (.enter g args) w) (p:yG P g args w R) (h:∀e w',R e w'->∃v,e=qx v/\(w'=w\/D.contains i=yH\/S w')/\At_ P md ops Q D S ms f b (a.put d v) w'):At_ P md ops Q D S ms (f+1) L a w:=by
 subst hd;subst m;refine⟨fun F t c=> ?_⟩;have j:=zGk F c r;refine zVs j ?_;unfold wpOp;simp only[hi,s,qRx];left;unfold Oper.wp;rw[hv,Oper.upon_enter];refine p.mono fun e k q=> ?_;obtain⟨v,rfl,n,l⟩:=h e k q;exact⟨n,l.out F _ (c.set j.1)⟩
structure zEp (P:Program) (md:Region.Mode) (ops:Array Oper) (Q:Exit->Act->yC->Prop) (D:List Nat) (S:yC->Prop) (ms:List Nat) (f L:Nat) (a:Act) (w:yC) (i:Nat):Prop where
 out:∃(o:Oper) (v:yD) (w':yC),ops[i]? =yA o/\Region.wanted o (yielded ops a.tmps)=yH/\(execOp a.eval o).run P w= .ok (.value v) w'/\(w'=w\/D.contains i=yH\/S w')/\At_ P md ops Q D S ms f (L|||1<<<i) (a.put o.dst v) w'
theorem zFb {i:Nat} {o:Oper} (d:Option Tmp) (v:yD) (b:Nat) {f L:Nat} {a:Act} (c:(L|||1<<<i)=b) (hi:ops[i]? =yA o) (hd:o.dst=d) (g:Region.wanted o (yielded ops a.tmps)=yH) (hv:(execOp a.eval o).run P w= .ok (.value v) w') (e:w'=w\/D.contains i=yH\/S w')
  (h:At_ P md ops Q D S ms f b (a.put d v) w'):zEp P md ops Q D S ms f L a w i:=by
 subst c hd;exact⟨o,v,w',hi,g,hv,e,h⟩
theorem qB3 (d:List Nat) {f L:Nat} {a:Act} (g:zA1 L ms 0=d) (hne:d≠[]) (h:∀i∈d,zEp P md ops Q D S ms f L a w i):At_ P md ops Q D S ms (f+1) L a w:=by
 refine⟨fun F k c=>⟨fun l=> ?_,fun j e=> ?_⟩⟩
 .match d,hne with
  |i::_,_=>
   have b:i∈Region.ready md ops k:=(c.ready F i).2 (by rw[g];simp);rw[l]at b;cases b
 .have b:=(c.ready F j).1 e;rw[g]at b;obtain⟨o,v,w',hi,p,hv,n,m⟩:=(h j b).out;unfold wpOp;simp only[hi,p,qRx];left;unfold Oper.wp;rw[hv];exact⟨n,m.out F _ (c.set e)⟩
theorem zY4 (i j:Nat) {f L:Nat} {a:Act} (d:zA1 L ms 0=[i,j]) (hi:zEp P md ops Q D S ms f L a w i) (c:zEp P md ops Q D S ms f L a w j):At_ P md ops Q D S ms (f+1) L a w:=
 qB3 [i,j] d zm (fun k b=>by
  rcases qP6.1 b with rfl|b
  .exact hi
  .obtain rfl:=qRe.1 b;exact c)
theorem qEr (i j k:Nat) {f L:Nat} {a:Act} (e:zA1 L ms 0=[i,j,k]) (hi:zEp P md ops Q D S ms f L a w i) (c:zEp P md ops Q D S ms f L a w j) (d:zEp P md ops Q D S ms f L a w k):At_ P md ops Q D S ms (f+1) L a w:=
 qB3 [i,j,k] e zm (fun x b=>by
  rcases qP6.1 b with rfl|b
  .exact hi
  .rcases qP6.1 b with rfl|b
   .exact c
   .obtain rfl:=qRe.1 b;exact d)
theorem At_.cast {f L:Nat} {a a':Act} (h:At_ P md ops Q D S ms f L a' w) (e:a=a'):At_ P md ops Q D S ms f L a w:=e▸h
theorem Cor.start:Cor md ops (Array.replicate ops.size yI) 0:=by
 refine⟨⟨zm,fun j a _ h=> ?_,fun _ h=>h⟩,fun j=> ?_⟩
 .rw[getD_replicate_false]at h;cases h
 .rw[getD_replicate_false,Nat.zero_testBit]
theorem zP2 {a:Act} (D:List Nat) (S:yC->Prop) (ms:List Nat) (n:Nat) (c:ops.size=n) (d:Region.noSelect ops=yH) (e:ops.toList.map (zC md)=ms) (b:zD ops ops.toList ms ops.toList ms 0=yH)
  (h:At_ P md ops Q D S ms n 0 a w):wpAny P md ops Q ops.size (Array.replicate ops.size yI) a w:=by
 subst c;exact zLw _ _ _ _ (h.out (Facts.mk' d e b) _ Cor.start)
theorem qE0 {g:Nat} {a:Act} (D:List Nat) (S:yC->Prop) (ms:List Nat) (n:Nat) (c:P.follows .mixedOrders=yH) (d:ops.size=n) (e:Region.noSelect ops=yH) (f:ops.toList.map (zC .any)=ms) (b:zD ops ops.toList ms ops.toList ms 0=yH)
  (h:At_ P .any ops Q D S ms n 0 a w.drew):(Code.region g ops yH).wp P Q a w:=
 wp_region_any c (zP2 D S ms n d e f b h)
theorem qA5 {a:Act} {f L:Nat} (g:zA1 L ms 0=[]) (h:Q .normal a w):At_ P md ops Q D S ms f L a w:=by
 refine⟨fun F d c=> ?_⟩;have b:Region.ready md ops d=[]:=by
  apply qUl.2;intro j e;have:=(c.ready F j).1 e;rw[g]at this;cases this
 cases f with
 |zero=>exact⟨b,h⟩
 |succ f=>exact⟨fun _=>h,by rw[b];simp⟩
end
end Kit
namespace Kit
section
variable {P:Program} {ops:Array Oper} {md:Region.Mode} {Q:Exit->Act->yC->Prop} {D:List Nat} {S:yC->Prop} {ms:List Nat} {w:yC}
theorem qH5 (i:Nat) {o:Oper} (d:Option Tmp) (g:FuncId) (args:Array yD) (v:yD) (b:Nat) {f L:Nat} {a:Act} (l:zA1 L ms 0=[i]) (j:(L|||1<<<i)=b) (hi:ops[i]? =yA o) (hd:o.dst=d) (m:Region.wanted o (yielded ops a.tmps)=yH)
  (hv:(execOp a.eval o).run P w= .ok (.enter g args) w) (k:yG P g args w fun e c=>e=qx v/\c=w) (h:At_ P md ops Q D S ms f b (a.put d v) w):At_ P md ops Q D S ms (f+1) L a w:=
 qCf i d g args v b l j hi hd m hv k (fun w' e=>by subst e;exact⟨qz rfl,h⟩)
end
end Kit
section
section
open Kit
section
variable {P:Program} {ops:Array Oper} {md:Region.Mode} {w w':yC} {S:yC->Prop} {D ms:List Nat} {Q:Exit->Act->yC->Prop} {K:Act->Prop} {a:Act} {i:Nat} {l:List Nat} {n L:Nat} {id:Nat}
def opA (ops:Array Oper) (i:Nat):Oper:=(ops[i]?).getD default
def zUq:Option Tmp->Option Tmp->Bool
 |some a,some b=>Nat.beq a b
 |none,none=>true
 |_,_=>false
def okA (ops:Array Oper) (i:Nat) (d:Option Tmp) (b:Array yD):Bool:=match ops[i]? with
 |some o=>zUq o.dst d&&Region.wanted o (yielded ops b)
 |none=>false
theorem zZe {x y:Option Tmp} (h:zUq x y=yH):x=y:=by
 cases x<;>cases y<;>simp_all [zUq]
theorem zB0 {d:Option Tmp} {b:Array yD} (h:okA ops i d b=yH):ops[i]? =yA (opA ops i)/\(opA ops i).dst=d/\Region.wanted (opA ops i) (yielded ops b)=yH:=by
 unfold okA at h;unfold opA;split at h
 .rename_i o ho
  rw[qQ1]at h;rw[ho];exact⟨rfl,zZe h.1,h.2⟩
 .cases h
theorem zt (d:Tmp) (v:yD) (hv:(execOp a.eval (opA ops i)).run P w= .ok (.value v) w) (h:Ph P ops w K l (a.put (yA d) v)) (b:okA ops i (yA d) a.tmps=yH:=by kernel_rfl):Ph P ops w K (i::l) a:=
 zZ1 (yA d) v (zB0 b).1 (zB0 b).2.1 (zB0 b).2.2 hv h
theorem zk (d:Tmp) (v:yD) (h:Ph P ops w K l (a.put (yA d) v)) (b:okA ops i (yA d) a.tmps=yH:=by kernel_rfl) (hv:(execOp a.eval (opA ops i)).run P w= .ok (.value v) w:=by kernel_rfl):Ph P ops w K (i::l) a:=zt d v hv h b
theorem zn (h:K a):Ph P ops w K [] a:=⟨h⟩
def phB (ms is:List Nat) (n L:Nat):Bool:=Nat.ble (kN is) n&&zMn ms L (zBj is) is&&zE9 ms is L
theorem zp (is:List Nat) (h:Ph P ops w (fun a'=>At_ P md ops Q D S ms (n-kN is) (L|||zBj is) a' w) is a) (b:phB ms is n L=yH:=by kernel_rfl):At_ P md ops Q D S ms n L a w:=by
 unfold phB at b;simp only[qQ1]at b;exact phase is (n-kN is) _ (by have:=qT2 b.1.1;omega) b.1.2 b.2 rfl h
def puB (ops:Array Oper) (i:Nat) (d:Option Tmp) (b:Array yD) (ms:List Nat) (n L:Nat):Bool:=okA ops i d b&&zE9 ms [i] L&&Nat.blt 0 n
theorem qFb {d:Option Tmp} {b:Array yD} (h:puB ops i d b ms n L=yH):okA ops i d b=yH/\zE9 ms [i] L=yH/\n=n-1+1:=by
 unfold puB at h;simp only[qQ1]at h;exact⟨h.1.1,h.1.2,by have:0<n:=qT2 h.2;omega⟩
theorem zv (i:Nat) (d:Tmp) (v:yD) (hv:∀w,(execOp a.eval (opA ops i)).run P w= .ok (.value v) w) (h:At_ P md ops Q D S ms (n-1) (L|||1<<<i) (a.put (yA d) v) w) (j:puB ops i (yA d) a.tmps ms n L=yH:=by kernel_rfl)
  (g:∀c a w,Q (.panic c) (a.put (opA ops i).dst v) w->Q (.panic c) a w:=by intro _ _ _ h;exact h):At_ P md ops Q D S ms n L a w:=by
 obtain⟨b,e,f⟩:=qFb j;rw[f];exact qG6 i (yA d) v _ (zB0 b).1 (zB0 b).2.1 e rfl g (zB0 b).2.2 hv h
theorem zu (i:Nat) (d:Tmp) (v:yD) (h:At_ P md ops Q D S ms (n-1) (L|||1<<<i) (a.put (yA d) v) w) (e:puB ops i (yA d) a.tmps ms n L=yH:=by kernel_rfl) (hv:∀w,(execOp a.eval (opA ops i)).run P w= .ok (.value v) w:=by intro w;kernel_rfl)
  (b:∀c a w,Q (.panic c) (a.put (opA ops i).dst v) w->Q (.panic c) a w:=by intro _ _ _ h;exact h):At_ P md ops Q D S ms n L a w:=zv i d v hv h e b
theorem zy (i:Nat) (d:Tmp) (v:yD) (hv:∀w,S w->(execOp a.eval (opA ops i)).run P w= .ok (.value v) w) (k:S w) (h:At_ P md ops Q D S ms (n-1) (L|||1<<<i) (a.put (yA d) v) w) (m:puB ops i (yA d) a.tmps ms n L=yH:=by kernel_rfl) (g:zZa ms D i=yH:=by kernel_rfl)
  (j:∀c a w,Q (.panic c) (a.put (opA ops i).dst v) w->Q (.panic c) a w:=by intro _ _ _ h;exact h):At_ P md ops Q D S ms n L a w:=by
 obtain⟨b,e,f⟩:=qFb m;rw[f];exact qGy i (yA d) v _ (zB0 b).1 (zB0 b).2.1 g e rfl j (zB0 b).2.2 hv k h
def isL:List Nat->Nat->Bool
 |[j],i=>Nat.beq j i
 |_,_=>false
theorem qHz:∀{l:List Nat} {i:Nat},isL l i=yH->l=[i]
 |[j],i,h=>by rw[qTe h]
 |[],_,h=>by cases h
 |_::_::_,_,h=>by cases h
def oB (ops:Array Oper) (i:Nat) (d:Option Tmp) (b:Array yD) (ms:List Nat) (n L:Nat):Bool:=okA ops i d b&&isL (zA1 L ms 0) i&&Nat.blt 0 n
theorem oB_ {d:Option Tmp} {b:Array yD} (h:oB ops i d b ms n L=yH):okA ops i d b=yH/\zA1 L ms 0=[i]/\n=n-1+1:=by
 unfold oB at h;simp only[qQ1]at h;exact⟨h.1.1,qHz h.1.2,by have:0<n:=qT2 h.2;omega⟩
theorem zo (i:Nat) (d:Tmp) (v:yD) (hv:(execOp a.eval (opA ops i)).run P w= .ok (.value v) w') (f:w'=w\/D.contains i=yH\/S w') (h:At_ P md ops Q D S ms (n-1) (L|||1<<<i) (a.put (yA d) v) w') (g:oB ops i (yA d) a.tmps ms n L=yH:=by kernel_rfl):At_ P md ops Q D S ms n L a w:=by
 obtain⟨b,c,e⟩:=oB_ g;rw[e];exact zLe i (yA d) v _ c rfl (zB0 b).1 (zB0 b).2.1 (zB0 b).2.2 hv f h
theorem zw (i:Nat) (d:Option Tmp) (hv:(execOp a.eval (opA ops i)).run P w= .ok .skip w') (f:w'=w\/D.contains i=yH\/S w') (h:At_ P md ops Q D S ms (n-1) (L|||1<<<i) (a.put d yN) w') (g:oB ops i d a.tmps ms n L=yH:=by kernel_rfl):At_ P md ops Q D S ms n L a w:=by
 obtain⟨b,c,e⟩:=oB_ g;rw[e];exact qHc i d _ c rfl (zB0 b).1 (zB0 b).2.1 (zB0 b).2.2 hv f h
theorem zc (i:Nat) (d:Tmp) (g:FuncId) (args:Array yD) (v:yD) {R:yC->Prop} (k:yG P g args w fun e c=>e=qx v/\R c) (h:∀w',R w'->(w'=w\/D.contains i=yH\/S w')/\At_ P md ops Q D S ms (n-1) (L|||1<<<i) (a.put (yA d) v) w')
  (m:oB ops i (yA d) a.tmps ms n L=yH:=by kernel_rfl) (hv:(execOp a.eval (opA ops i)).run P w= .ok (.enter g args) w:=by kernel_rfl):At_ P md ops Q D S ms n L a w:=by
 obtain⟨b,f,j⟩:=oB_ m;rw[j];exact qCf i (yA d) g args v _ f rfl (zB0 b).1 (zB0 b).2.1 (zB0 b).2.2 hv k h
theorem zx (i:Nat) (d:Tmp) (g:FuncId) (args:Array yD) {R:Ending->yC->Prop} (j:yG P g args w R) (h:∀e w',R e w'->∃v,e=qx v/\(w'=w\/D.contains i=yH\/S w')/\At_ P md ops Q D S ms (n-1) (L|||1<<<i) (a.put (yA d) v) w')
  (k:oB ops i (yA d) a.tmps ms n L=yH:=by kernel_rfl) (hv:(execOp a.eval (opA ops i)).run P w= .ok (.enter g args) w:=by kernel_rfl):At_ P md ops Q D S ms n L a w:=by
 obtain⟨b,c,f⟩:=oB_ k;rw[f];exact qHm i (yA d) g args _ c rfl (zB0 b).1 (zB0 b).2.1 (zB0 b).2.2 hv j h
theorem zd (i:Nat) (d:Tmp) (g:FuncId) (args:Array yD) (v:yD) (c:yG P g args w fun e b=>e=qx v/\b=w) (h:At_ P md ops Q D S ms (n-1) (L|||1<<<i) (a.put (yA d) v) w)
  (f:oB ops i (yA d) a.tmps ms n L=yH:=by kernel_rfl) (hv:(execOp a.eval (opA ops i)).run P w= .ok (.enter g args) w:=by kernel_rfl):At_ P md ops Q D S ms n L a w:=
 zc i d g args v c (fun w' e=>by subst e;exact⟨qz rfl,h⟩) f hv
theorem zS (D:List Nat) (S:yC->Prop) (ms:List Nat) (n:Nat) (h:At_ P .any ops Q D S ms n 0 a w.drew) (c:P.follows .mixedOrders=yH:=by kernel_rfl) (d:ops.size=n:=by kernel_rfl) (e:Region.noSelect ops=yH:=by kernel_rfl) (f:ops.toList.map (zC .any)=ms:=by kernel_rfl)
  (b:zD ops ops.toList ms ops.toList ms 0=yH:=by kernel_rfl):(Code.region id ops yH).wp P Q a w:=qE0 D S ms n c d e f b h
theorem zE (h:Q .normal a w) (b:zA1 L ms 0=[]:=by kernel_rfl):At_ P md ops Q D S ms n L a w:=qA5 b h
variable {ρ:Operand->yD} {o:Oper} {p:yF} {v:yD}
theorem zl (t:yE) (x:Tmp) (c:(loadVar t p).run P w= .ok v w) (b:o.op= .load t (.tmp x):=by kernel_rfl) (d:ρ (.tmp x)=qc (yA p):=by kernel_rfl):(execOp ρ o).run P w= .ok (.value v) w:=zM7 b d c
theorem zr (t:yE) (x y:Tmp) (c:(storeVar t p v).run P w= .ok () w') (b:o.op= .store t (.tmp x) (.tmp y):=by kernel_rfl) (d:ρ (.tmp x)=qc (yA p):=by kernel_rfl) (e:ρ (.tmp y)=v:=by kernel_rfl):(execOp ρ o).run P w= .ok .skip w':=zHa b d e c
end
end
end
section
section
open Kit
section
variable {P:Program} {ops:Array Oper} {md:Region.Mode} {w w':yC} {S:yC->Prop} {D ms:List Nat} {Q:Exit->Act->yC->Prop} {a:Act} {i:Nat} {n L:Nat}
structure zVy (P:Program) (md:Region.Mode) (ops:Array Oper) (Q:Exit->Act->yC->Prop) (D:List Nat) (S:yC->Prop) (ms:List Nat) (n L:Nat) (a:Act) (w:yC) (i:Nat):Prop where
 out:∀(_:Facts md ops ms) (listed:Array Bool) (_:Cor md ops listed L) (_:i∈Region.ready md ops listed),wpOp P ops Q i (fun a' w'=>(w'=w\/D.contains i=yH\/S w')/\zC5 P md ops Q D S (n-1) (listed.setIfInBounds i yH) a' w') a w
theorem yv (d:Tmp) (v:yD) (hv:(execOp a.eval (opA ops i)).run P w= .ok (.value v) w') (b:w'=w\/D.contains i=yH\/S w') (h:At_ P md ops Q D S ms (n-1) (L|||1<<<i) (a.put (yA d) v) w') (f:okA ops i (yA d) a.tmps=yH:=by kernel_rfl):zVy P md ops Q D S ms n L a w i:=by
 obtain⟨hi,hd,g⟩:=zB0 f;refine⟨fun F j c e=> ?_⟩;unfold wpOp;simp only[hi,g,qRx];left;unfold Oper.wp;rw[hv];rw[<-hd]at h;exact⟨b,h.out F _ (c.set e)⟩
theorem yc (d:Tmp) (g:FuncId) (args:Array yD) {R:Ending->yC->Prop} (k:yG P g args w R) (h:∀e w',R e w'->∃v,e=qx v/\(w'=w\/D.contains i=yH\/S w')/\At_ P md ops Q D S ms (n-1) (L|||1<<<i) (a.put (yA d) v) w')
  (o:okA ops i (yA d) a.tmps=yH:=by kernel_rfl) (hv:(execOp a.eval (opA ops i)).run P w= .ok (.enter g args) w:=by kernel_rfl):zVy P md ops Q D S ms n L a w i:=by
 obtain⟨hi,hd,p⟩:=zB0 o;refine⟨fun F q c m=> ?_⟩;unfold wpOp;simp only[hi,p,qRx];left;unfold Oper.wp;rw[hv,Oper.upon_enter];refine k.mono fun e f l=> ?_;obtain⟨v,rfl,j,b⟩:=h e f l;rw[<-hd]at b;exact⟨j,b.out F _ (c.set m)⟩
def qEo (L:Nat) (ms:List Nat) (i j n:Nat):Bool:=(match zA1 L ms 0 with|[x,y]=>Nat.beq x i&&Nat.beq y j|_=>yI)&&Nat.blt 0 n
theorem y2 (i j:Nat) (hi:zVy P md ops Q D S ms n L a w i) (m:zVy P md ops Q D S ms n L a w j) (d:qEo L ms i j n=yH:=by kernel_rfl):At_ P md ops Q D S ms n L a w:=by
 unfold qEo at d;rw[qQ1]at d;have o:n=n-1+1:=by have:0<n:=qT2 d.2;omega
 have h:zA1 L ms 0=[i,j]:=by
  have b:=d.1;split at b
  .rename_i x y e
   rw[qQ1]at b;rw[e,qTe b.1,qTe b.2]
  .cases b
 refine⟨fun F f c=> ?_⟩;rw[o];refine⟨fun l=> ?_,fun k g=> ?_⟩
 .have b:i∈Region.ready md ops f:=(c.ready F i).2 (by rw[h];simp);rw[l]at b;cases b
 .have b:=(c.ready F k).1 g;rw[h]at b;rcases qP6.1 b with rfl|b
  .exact hi.out F f c g
  .obtain rfl:=qRe.1 b;exact m.out F f c g
end
end
end
namespace Kit
structure Lay (α:Type) where
 k:Nat
 pos:0<k
 cl:α->List yD
 len:∀x,kN (cl x)=k
 one:∀x,∀u∈cl x,u.oneCell'=yH
section
variable {α:Type} (L:Lay α)
def flat (l:List α):List yD:=l.flatMap L.cl
theorem zKo (l m:List α):flat L (l++m)=flat L l++flat L m:=by simp[flat]
theorem zGp (x:α) (l:List α):flat L (x::l)=L.cl x++flat L l:=rfl
theorem zBg:∀l:List α,kN (flat L l)=kN l*L.k
 |[]=>by simp[flat]
 |x::l=>by
  rw[zGp,qP0,L.len,zBg l,qP4,qQu,qRn];omega
theorem flat_get:∀(l:List α) (j:Nat) (x:α),l[j]? =yA x->∀i,i<L.k->(flat L l)[j*L.k+i]? =(L.cl x)[i]?
 |[],j,x,e,i,hi=>by simp at e
 |y::l,0,x,e,i,hi=>by
  simp at e;subst e;rw[zGp,Nat.zero_mul,qQd,qR7 (by rw[L.len];exact hi)]
 |y::l,j+1,x,e,i,hi=>by
  have b:=flat_get l j x (by simpa using e) i hi;have a:=L.len y;rw[zGp,qS3 (by rw[a,qQu];omega),a];rw[show(j+1)*L.k+i-L.k=j*L.k+i by rw[qQu];omega];exact b
theorem zPj (l:List α):∀u∈flat L l,u.oneCell'=yH:=by
 intro u a;unfold flat at a;obtain⟨x,_,b⟩:=List.mem_flatMap.1 a;exact L.one x u b
theorem zT2:∀(l:List α) (i:Nat) (u:yD),(flat L l)[i]? =yA u->∃x,l[i/L.k]? =yA x/\(L.cl x)[i%L.k]? =yA u
 |[],i,u,h=>by simp[flat]at h
 |y::r,i,u,h=>by
  rw[zGp,List.getElem?_append,L.len]at h;have c:=L.pos;split at h
  .rename_i hi
   exact⟨y,by rw[Nat.div_eq_of_lt hi];rfl,by rw[qRh hi];exact h⟩
  .rename_i hi
   obtain⟨x,b,a⟩:=zT2 r (i-L.k) u h;obtain⟨d,rfl⟩:∃d,i=d+L.k:=⟨i-L.k,za⟩;rw[qSr]at b a;exact⟨x,by rw[Nat.add_div_right _ c];simpa using b,by rw[Nat.add_mod_right];exact a⟩
def Rd (w:yC) (a:Option yF) (l:List α):Prop:=∀j x,l[j]? =yA x->∃b off,a=yA ⟨b,off,yB⟩/\∀i,i<L.k->w.cell? ⟨b,off+j*L.k+i,yB⟩=(L.cl x)[i]?
variable {L}
theorem qAs (w:yC) (o:Obj):(w.alloc o).heap[w.heap.size]? =yA o:=by
 show(w.heap.push o)[w.heap.size]? =yA o;simp
theorem Rd.nil (w:yC) (a:Option yF):Rd L w a []:=by intro j x h;simp at h
theorem Rd.below {w w':yC} {a:Option yF} {l:List α} {B:Nat} (h:Rd L w a l) (g:yM B w w') (e:B=w.heap.size):Rd L w' a l:=by
 intro j x m;obtain⟨b,c,f,k⟩:=h j x m;refine⟨b,c,f,fun i hi=> ?_⟩;have d:=k i hi;rw[g.cell (p:=⟨b,c+j*L.k+i,yB⟩)]
 .exact d
 .rw[e];rw[qPu (by rw[L.len];exact hi)]at d;exact qQk d
theorem Rd.take {w:yC} {a:Option yF} {l:List α} (h:Rd L w a l) (n:Nat):Rd L w a (l.take n):=by
 intro j x b;refine h j x ?_;rw[qSc]at b;split at b
 .exact b
 .cases b
theorem Rd.at_ {w:yC} {a:Option yF} {l:List α} (h:Rd L w a l) (j:Nat) (c:j<kN l):∃b off,a=yA ⟨b,off,yB⟩/\∀i,i<L.k->w.cell? ⟨b,off+j*L.k+i,yB⟩=(L.cl l[j])[i]? :=h j l[j] (qPu c)
theorem Rd.cells {w:yC} {b off:Nat} {l:List α} (h:Rd L w (yA ⟨b,off,yB⟩) l):∀i u,(flat L l)[i]? =yA u->w.cell? ((⟨b,off,yB⟩:yF).add i)=yA u:=by
 intro i u f;obtain⟨x,g,e⟩:=zT2 L l i u f;obtain⟨b',j,a,d⟩:=h _ x g;injection a with a
 injection a with hb ho
 subst hb ho;rw[addr_add];have c:=d (i%L.k) (qRf _ L.pos);rw[e]at c;have hd:=Nat.div_add_mod i L.k;rw[qRo]at hd;rw[show off+i=off+i/L.k*L.k+i%L.k by omega];exact c
def Own' (L:Lay α) (w:yC) (B:Nat) (e:yE) (a:Option yF) (n c:Nat) (l:List α):Prop:=w.ownsRow B e L.k (qZ a n c) n (flat L l)
theorem Own'.len {w:yC} {B:Nat} {e:yE} {a:Option yF} {n c:Nat} {l:List α} (h:Own' L w B e a n c l):kN l=n:=by
 have b:=h.1;rw[zBg]at b;exact Nat.eq_of_mul_eq_mul_right L.pos b
theorem Own'.start (w:yC) (B:Nat) (e:yE):Own' L w B e yB 0 0 []:=World.ownsRow_nil w B e L.k
theorem Own'.alloc {w:yC} {B:Nat} {e:yE} {a:Option yF} {n c:Nat} {l:List α} (h:Own' L w B e a n c l) (o:Obj):Own' L (w.alloc o) B e a n c l:=World.ownsRow.alloc h o
theorem Own'.below {w w':yC} {B D:Nat} {e:yE} {a:Option yF} {n c:Nat} {l:List α} (h:Own' L w B e a n c l) (p:yM D w w') (q:w.heap.size<=D):Own' L w' B e a n c l:=by
 obtain⟨o,k⟩:=h;refine⟨o,?_⟩;rcases k with k|⟨g,j,d,hv,i,m,r⟩
 .exact qz k
 .refine qy ⟨g,j,d,hv,i,?_,r⟩;have b:g<w.heap.size:=by
   rcases qP8 g w.heap.size with b|f
   .exact b
   .rw[qRk f]at m;cases m
  rw[p.block g za,m]
theorem Own'.base {w:yC} {B B':Nat} {e:yE} {a:Option yF} {n c:Nat} {l:List α} (h:Own' L w B e a n c l) (k:B'<=B):Own' L w B' e a n c l:=by
 obtain⟨i,f⟩:=h;refine⟨i,?_⟩;rcases f with f|⟨g,d,b,hv,j,r⟩
 .exact qz f
 .exact qy ⟨g,d,b,hv,za,r⟩
theorem Own'.block {w:yC} {B:Nat} {e:yE} {a:Option yF} {n c:Nat} {l:List α} (h:Own' L w B e a n c l):∀k,(Value.slice a n c).ownBlock=yA k->B<=k:=fun k b=>(World.ownsRow.lt h k b).1
theorem Own'.at_ {w:yC} {B:Nat} {e:yE} {a:Option yF} {n c:Nat} {l:List α} (h:Own' L w B e a n c l) (q:0<n):∃g,a=yA ⟨g,0,yB⟩/\B<=g/\g<w.heap.size/\n<=c:=by
 obtain⟨p,i⟩:=h;rcases i with⟨_,i⟩|⟨g,m,o,hv,k,j,f,_⟩
 .omega
 .injection hv with ha hn' hc
  subst ha hc;refine⟨g,rfl,k,?_,f⟩;rcases qP8 g w.heap.size with d|b
  .exact d
  .rw[qRk b]at j;cases j
theorem Own'.rd {w:yC} {B:Nat} {e:yE} {a:Option yF} {n c:Nat} {l:List α} (h:Own' L w B e a n c l):Rd L w a l:=by
 intro j x d;have m:=h.len;have k:j<kN l:=by
  rcases qP8 j (kN l) with b|b
  .exact b
  .rw[qQq b]at d;cases d
 obtain⟨g,f,_,_,_⟩:=h.at_ za;subst f;refine⟨g,0,rfl,fun i hi=> ?_⟩;rw[qQd,qTn h _,flat_get L l j x d i hi];have:(j+1)*L.k<=n*L.k:=qRp _ za;rw[qQu]at this;omega
structure zVx (P:Program) (t e:yE) (k bytes:Nat):Prop where
 ut:P.underlying t=yA (.slice e)
 row:∃z:yD,(P.info? e).map (fun i=>(i.zero,i.size,i.bytes))=yA (yA z,k,bytes)/\z.cells.size=k
theorem Own'.app {P:Program} {w:yC} {B bytes:Nat} {t ty e:yE} {a:Option yF} {n c:Nat} {l:List α} (o:zVx P t e L.k bytes) (h:Own' L w B e a n c l)
  (x:Option yF) (m H:Nat) (q:List α) (X:Rd L w x q) (M:kN q=m) (hx:x=yB->m=0/\H=0) (W:n+m<=maxLen) (S:(n+m)*bytes<=140737488355328) (V:B<=w.heap.size):
  ∃a' c' w',(Builtin.append_ #[t,t] ty #[qZ a n c,qZ x m H]).run P w= .ok (qZ a' (n+m) c') w'/\Own' L w' B e a' (n+m) c' (l++q)/\w.grownBy w' (Value.ownBlock (qZ a n c)):=by
 obtain⟨z,hz,r⟩:=o.row;obtain⟨i,hi,p,s,f⟩:=qRv hz;have d:∀{v:yD} {w':yC} {k:Nat} {Y:List yD},w'.ownsRow B e L.k v k Y->∃a' c',v=qZ a' k c':=by
  intro v w' k Y hv;rcases hv.2 with⟨rfl,hy⟩|⟨g,a0,a1,rfl,_⟩
  .subst hy;exact⟨_,_,rfl⟩
  .exact⟨_,_,rfl⟩
 cases x with
 |none=>
  obtain⟨rfl,rfl⟩:=hx rfl;have N:q=[]:=qQ0 M;subst N;refine⟨a,c,w,run_append_owned_none (P:=P) (w:=w) B t ty e i L.k o.ut hi _ n (flat L l) h,by simpa using h,⟨rfl,rfl,rfl,Nat.le_refl _,fun _ _ _=>rfl⟩⟩
 |some y=>
  by_cases Z:m=0
  .subst Z;have N:q=[]:=qQ0 M;subst N;obtain⟨v',w',O,G,K,_⟩:=run_append_own (P:=P) w B t ty e i z L.k bytes o.ut hi p s f r L.pos _ n (flat L l) h y 0 H [] zm (fun j u R=>by simp at R) (fun u R=>by simp at R) W S V;obtain⟨a',c',rfl⟩:=d G;exact⟨a',c',w',O,by rw[qQv]at G⊢;exact G,K⟩
  .obtain⟨b,F,I,_⟩:=X 0 q[0] (qPu za);injection I with I
   subst I;obtain⟨v',w',O,G,K,_⟩:=run_append_own (P:=P) w B t ty e i z L.k bytes o.ut hi p s f r L.pos _ n (flat L l) h ⟨b,F,yB⟩ m H (flat L q) (by rw[zBg,M]) X.cells (zPj L _) W S V;obtain⟨a',c',rfl⟩:=d G;exact⟨a',c',w',O,by unfold Own';rw[zKo];exact G,K⟩
theorem zFo (w:yC) (x:α) (t:yE):Rd L (w.alloc (qp (L.cl x).toArray t)) (yA ⟨w,0,yB⟩) [x]:=by
 intro j y a
 match j,a with
 |0,a=>
  simp at a;subst a;refine⟨_,_,rfl,fun i hi=> ?_⟩;have h:(w.alloc (qp (L.cl x).toArray t)).heap[w.heap.size]? =yA (qp (L.cl x).toArray t):=qAs w _;simp only[Nat.zero_mul,qQd,yQ,h];simp
theorem zNf (w:yC) (l:List α) (t:yE) (B:Nat) (a:B<=w.heap.size) (b:kN l<=maxLen):Own' L (w.alloc (qp (flat L l).toArray t)) B t (yA ⟨w,0,yB⟩) (kN l) (kN l) l:=by
 have:=World.ownsRow_lit (base:=B) (size:=L.k) (e:=t) w (flat L l).toArray (kN l) a b (by rw[qQ2,zBg]);exact this
end
end Kit
namespace Kit
section
variable {α:Type} {L:Lay α}
theorem zT1 (l:List α) (j:Nat) (h:j/L.k<kN l):(flat L l)[j]? =(L.cl l[j/L.k])[j%L.k]? :=by
 have a:=flat_get L l (j/L.k) l[j/L.k] (qPu h) (j%L.k) (qRf _ L.pos);rw[qRo,Nat.div_add_mod]at a;exact a
def spl (a:Array yD):Nat->List yD->Array yD
 |_,[]=>a
 |o,v::r=>spl (a.setIfInBounds o v) (o+1) r
theorem zP7:∀(b:List yD) (a:Array yD) (o:Nat),(spl a o b).size=a.size
 |[],_,_=>rfl
 |v::r,a,o=>by rw[spl,zP7 r];simp
theorem zM5:∀(b:List yD) (a:Array yD) (o j:Nat),(j<o\/o+kN b<=j)->(spl a o b)[j]? =a[j]?
 |[],_,_,_,_=>rfl
 |v::r,a,o,j,h=>by
  rw[qP4]at h;rw[spl,zM5 r _ _ _ za,qUm,qPt za]
theorem zWt:∀(b:List yD) (a:Array yD) (o j:Nat),j<kN b->o+kN b<=a.size->(spl a o b)[o+j]? =b[j]?
 |[],_,_,_,h,_=>by simp at h
 |v::r,a,o,0,h,hs=>by
  rw[qP4]at hs;rw[spl,zM5 r _ _ _ (qz za),qUm,qRi,qPr rfl,qPr za];rfl
 |v::r,a,o,j+1,h,hs=>by
  rw[qP4]at h hs;rw[spl,show o+(j+1)=o+1+j by omega,zWt r _ _ j za zq];rfl
theorem zDl:∀(b:List yD) (w:yC) (g o:Nat) (a:Array yD) (t:yE) (f:Nat×Nat),w.heap[g]? =yA (qp a t f)->(w.setCells g o b).heap[g]? =yA (qp (spl a o b) t f)
 |[],_,_,_,_,_,_,h=>h
 |v::r,w,g,o,a,t,f,h=>zDl r _ g (o+1) _ t f (by simp[World.setCell,qQt,h])
theorem zAo:∀(b:List yD) (w:yC) (g o k:Nat),k≠g->(w.setCells g o b).heap[k]? =w.heap[k]?
 |[],_,_,_,_,_=>rfl
 |v::r,w,g,o,k,h=>by
  have a:g≠k:=fun e=>h e.symm;show((w.setCell ⟨g,o,yB⟩ v).setCells g (o+1) r).heap[k]? =_;rw[zAo r _ g (o+1) k h];simp[World.setCell,qQt,a]
theorem size_setCells:∀(a:List yD) (w:yC) (g o:Nat),(w.setCells g o a).heap.size=w.heap.size
 |[],_,_,_=>rfl
 |v::r,w,g,o=>by
  show((w.setCell ⟨g,o,yB⟩ v).setCells g (o+1) r).heap.size=_;rw[size_setCells r];simp[World.setCell]
theorem below_setCells {B:Nat}:∀(a:List yD) {w w':yC} (g o:Nat),yM B w w'->B<=g->yM B w (w'.setCells g o a)
 |[],_,_,_,_,h,_=>h
 |v::r,w,w',g,o,h,hg=>below_setCells r g (o+1) (h.setCell (p:=⟨g,o,none⟩) hg v) hg
theorem qA3 (m:List α) (i:Nat) (x:α) (hi:i<kN m) (j:Nat):(flat L (m.set i x))[j]? =if i*L.k<=j/\j<i*L.k+L.k then(L.cl x)[j-i*L.k]? else(flat L m)[j]? :=by
 have b:=L.pos;have hd:=Nat.div_add_mod j L.k;have g:=qRf j b;rw[qRo]at hd;rcases qP8 (j/L.k) (kN m) with h|h
 .rw[zT1 _ j (by simpa using h),zT1 _ j h];by_cases e:i=j/L.k
  .subst e;rw[qPr za];rw[List.getElem_set_self];congr 1;omega
  .rw[qPt,List.getElem_set_ne e];rintro⟨a,c⟩;apply e;have d:i<=j/L.k:=(Nat.le_div_iff_mul_le b).2 a;have f:j/L.k<i+1:=(Nat.div_lt_iff_lt_mul b).2 (by rw[qQu,qRn];exact c);omega
 .have a:kN m*L.k<=j:=(Nat.le_div_iff_mul_le b).1 h;have c:(i+1)*L.k<=kN m*L.k:=qRp _ hi;rw[qQu,qRn]at c;rw[if_neg za,List.getElem?_eq_none (by rw[zBg];simpa using a),List.getElem?_eq_none (by rw[zBg];exact a)]
theorem Own'.set {P:Program} {w:yC} {B:Nat} {e:yE} {g n c:Nat} {m:List α} (h:Own' L w B e (yA ⟨g,0,yB⟩) n c m) (F:(P.info? e).map (·.size)=yA L.k) (i:Nat) (hi:i<n) (x:α):
  (storeVar e ⟨g,i*L.k,yB⟩ (.agg (L.cl x).toArray)).run P w= .ok () (w.setCells g (i*L.k) (L.cl x))/\Own' L (w.setCells g (i*L.k) (L.cl x)) B e (yA ⟨g,0,yB⟩) n c (m.set i x):=by
 have b:=h.len;have p:(i+1)*L.k<=n*L.k:=qRp _ hi;rw[qQu,qRn]at p;have f:(L.cl x).toArray.size=L.k:=by rw[qQ2,L.len]
 have I:kN (flat L m)=n*L.k:=by rw[zBg,b]
 refine⟨?_,?_⟩
 .refine run_storeVar_mid (P:=P) w g (i*L.k) e (L.cl x).toArray (fun j k=> ?_) (by rw[F,f]) (by rw[Array.all_eq_true_iff_forall_mem];intro u z;exact L.one x u (by simpa using z));rw[f]at k;refine⟨?_,World.ownsRow.frozenAt h _⟩;rw[qTn h _ za,qPu za];rfl
 .obtain⟨K,r⟩:=h;rcases r with⟨r,_⟩|⟨g',H,a,hv,l,t,d,o,s,y⟩
  .cases r
  .injection hv with ha hn q
   injection ha with ha
   injection ha with ha
   subst ha q;have G:n*L.k<=c*L.k:=qRp _ d;refine⟨by rw[zBg,qR2,b],qy ⟨g,c,spl a (i*L.k) (L.cl x),rfl,l,zDl _ _ _ _ _ _ _ t,d,o,by rw[zP7];exact s,?_⟩⟩;apply qRt;intro j;rw[qA3 m i x za j,<-y,qSc,qSc,qS4,qS4];by_cases k:j<n*L.k
   .rw[qPr k,qPr k];by_cases q:i*L.k<=j/\j<i*L.k+L.k
    .rw[qPr q];have:=zWt (L.cl x) a (i*L.k) (j-i*L.k) (by rw[L.len];omega) (by rw[L.len,s];omega);rw[show i*L.k+(j-i*L.k)=j by omega]at this;simpa using this
    .rw[qPt q];have:=zM5 (L.cl x) a (i*L.k) j (by rw[L.len];omega);simpa using this
   .rw[qPt k,qPt k,qPt za]
theorem zHe {P:Program} {w:yC} {b off:Nat} {e:yE} {x:α} (d:∀i,i<L.k->w.cell? ⟨b,off+i,yB⟩=(L.cl x)[i]?) (g:∀w,(sizeOf e).run P w= .ok L.k w) (c:∀w,(isAgg e).run P w= .ok yH w):
  (loadVar e ⟨b,off,yB⟩).run P w= .ok (.agg (L.cl x).toArray) w:=by
 have a:=run_loadCells_list (P:=P) w ⟨b,off,yB⟩ (L.cl x) (fun j v hv=>by
  have f:j<L.k:=by
   rcases qP8 j (kN (L.cl x)) with h|h
   .rwa[L.len]at h
   .rw[qQq h]at hv;cases hv
  rw[addr_add,d j f,hv])
 rw[L.len]at a;simp[loadVar,qRl,c,g,a]
theorem Rd.ld {P:Program} {w:yC} {b off:Nat} {e:yE} {l:List α} (h:Rd L w (yA ⟨b,off,yB⟩) l) (i:Nat) (hi:i<kN l) (f:∀w,(sizeOf e).run P w= .ok L.k w) (c:∀w,(isAgg e).run P w= .ok yH w):
  (loadVar e ⟨b,off+i*L.k,yB⟩).run P w= .ok (.agg (L.cl l[i]).toArray) w:=by
 obtain⟨b',g,a,d⟩:=h i l[i] (qPu hi);injection a with a
 injection a with h1 h2 _
 subst h1 h2;exact zHe d f c
end
end Kit
namespace St
open Go.Lib Go.Sort Go.Proofs
theorem qFh (x y:Int) (b:Nat) (w:yC) (i:w.cell? ⟨b,0,yB⟩=yA (qX qm x)) (k:w.cell? ⟨b,1,yB⟩=yA (qX qm y)):
  yG yK 183 #[qZ (yA ⟨b,0,yB⟩) 2 2] w fun e w'=>e=qx (qX qm (if x=0 then y else x))/\w'=w:=by
 obtain⟨l,m⟩:=yU i k;clear i k;obtain⟨v,hv⟩:=zB ((if x=0 then y else x));rw[hv];have g:=zH hv;clear hv;go_enter func183,ntmps183;go_wp2;go_loopg [8] 2 (fun s t wr=>∃(j:Nat),t=qX qm j/\j<=2/\2-j<=s/\(0<j->x=0)/\(1<j->y=0)/\wr=w)
 case atStart=>exact⟨0,rfl,za,za,fun h=>za,fun h=>za,rfl⟩
 case round=>
  obtain⟨j,rfl,z,u,p,q,rfl⟩:=hrel;by_cases n:j=0
  .subst n;have c0:=l.out;by_cases a:x=0
   .subst a;go_wp2;go_roundg 1
    case measure=>exact za
    case rel=>exact⟨1,by go_num,za,za,by first|trivial|(intro _;rfl)|(intro h;omega),by first|trivial|(intro _;rfl)|(intro h;omega),by first|rfl|trivial⟩
   .have r:(x==0)=yI:=by rw[qSd];exact a
    have d:(x !=0)=yH:=by simp[a]
    go_wp2;go_ret;exact⟨by rw[<-g.out,qPt a];rfl,rfl⟩
  .have a:=p za;subst a;have f:y=v:=by rw[<-g.out,qPr rfl]
   subst f;clear g;by_cases o:j=1
   .subst o;have c1:=m.out;by_cases c:y=0
    .subst c;go_wp2;go_roundg 0
     case measure=>exact za
     case rel=>exact⟨2,by go_num,za,za,by first|trivial|(intro _;rfl)|(intro h;omega),by first|trivial|(intro _;rfl)|(intro h;omega),by first|rfl|trivial⟩
    .have r:(y==0)=yI:=by rw[qSd];exact c
     have d:(y !=0)=yH:=by simp[c]
     go_wp2;go_ret;exact⟨rfl,rfl⟩
   .obtain rfl:j=2:=za
    have c:=q za;subst c;go_wp2;go_ret;exact⟨rfl,rfl⟩
end St
namespace St
open Go.Lib Go.Sort Go.Proofs
variable {w w':yC} {b:Nat}
def Grn (w w':yC):Prop:=∃q os,w'=grow (w.drewN q) os
theorem Grn.refl (w:yC):Grn w w:=⟨0,#[],by rw[grow_empty];rfl⟩
theorem Grn.drew (w:yC):Grn w w.drew:=⟨1,#[],by rw[grow_empty];rfl⟩
theorem Grn.alloc (w:yC) (o:Obj):Grn w (w.alloc o):=⟨0,#[o],by rw[alloc_eq_grow];rfl⟩
theorem Grn.trans {c w2:yC} (h:Grn w c) (g:Grn c w2):Grn w w2:=by
 obtain⟨q,os,rfl⟩:=h;obtain⟨r,a,rfl⟩:=g;exact⟨q+r,os++a,by show grow (grow ((w.drewN q).drewN r) os) a=_;rw[grow_grow,World.drewN_drewN]⟩
theorem Grn.cell (h:Grn w w') {a:yF} {v:yD} (c:w.cell? a=yA v):w'.cell? a=yA v:=by
 obtain⟨q,os,rfl⟩:=h;exact cell_grown (qQk c) c q os
theorem Grn.size (h:Grn w w'):w.heap.size<=w'.heap.size:=by
 obtain⟨q,os,rfl⟩:=h;rw[size_grow];exact Nat.le_add_right _ _
theorem Grn.block (h:Grn w w') (k:Nat) (a:k<w.heap.size):w'.heap[k]? =w.heap[k]? :=by
 obtain⟨q,os,rfl⟩:=h;exact qUb _ _ a
theorem Grn.below (h:Grn w w'):yM w w w':=by
 obtain⟨q,os,rfl⟩:=h;refine⟨rfl,rfl,rfl,?_,fun k a=>qUb _ _ a⟩;rw[size_grow];exact Nat.le_add_right _ _
structure RK where
 s:ByteArray
 N:Nat
 n:Nat
 c:Nat
 m:Nat
abbrev TR:yE:=221
def RL:Kit.Lay RK where
 k:=3
 pos:=za
 cl:=fun r=>[qY r.s,qZ (yA ⟨r.N,0,yB⟩) r.n r.c,qX qm (r.m:Int)]
 len:=fun _=>rfl
 one:=fun p v hv=>by
  simp at hv;rcases hv with rfl|rfl|rfl<;>rfl
def rv (r:RK):yD:= .agg #[qY r.s,qZ (yA ⟨r.N,0,yB⟩) r.n r.c,qX qm (r.m:Int)]
abbrev zNa (r:RK):Obj:=qp #[qY r.s,qZ (yA ⟨r.N,0,yB⟩) r.n r.c,qX qm (r.m:Int)] TR
structure RB (w:yC) (b:Nat) (r:RK):Prop where
 c0:w.cell? ⟨b,0,yB⟩=yA (qY r.s)
 c1:w.cell? ⟨b,1,yB⟩=yA (qZ (yA ⟨r.N,0,yB⟩) r.n r.c)
 c2:w.cell? ⟨b,2,yB⟩=yA (qX qm (r.m:Int))
theorem RB.new (w:yC) (r:RK):RB (w.alloc (zNa r)) w.heap.size r:=by
 refine⟨?_,?_,?_⟩<;>simp
theorem RB.grn {r:RK} (h:RB w b r) (g:Grn w w'):RB w' b r:=⟨g.cell h.c0,g.cell h.c1,g.cell h.c2⟩
theorem RB.l0 {r:RK} (h:RB w b r):(loadVar 9 ⟨b,0,yB⟩).run yK w= .ok (qY r.s) w:=Kit.zAg h.c0 zf zf
theorem RB.l1 {r:RK} (h:RB w b r):(loadVar 23 ⟨b,1,yB⟩).run yK w= .ok (qZ (yA ⟨r.N,0,yB⟩) r.n r.c) w:=Kit.zAg h.c1 zf zf
theorem RB.l2 {r:RK} (h:RB w b r):(loadVar 3 ⟨b,2,yB⟩).run yK w= .ok (qX qm (r.m:Int)) w:=Kit.zAg h.c2 zf zf
theorem RB.ld {r:RK} (h:RB w b r):(loadVar TR ⟨b,0,yB⟩).run yK w= .ok (rv r) w:=by
 refine Kit.zHe (L:=RL) (x:=r) (fun i hi=> ?_) (fun w=>zf) (fun w=>zf)
 match i,hi with
 |0,_=>exact h.c0
 |1,_=>exact h.c1
 |2,_=>exact h.c2
theorem zE4 {p:yF} {v:Int} (h:w.cell? p=yA (qX qm v)):(loadVar 3 p).run yK w= .ok (qX qm v) w:=Kit.zAg h zf zf
theorem qCs {P:Program} {ρ:Operand->yD} {o:Oper} {t u:yE} {x y:Operand} {k:IntKind} {m n r:Int} (c:o.op= .binOp .rem t x y u) (e:ρ x=qX k m) (f:ρ y=qX k n) (a:n≠0) (d:m.tmod n=r) (w:yC):(execOp ρ o).run P w= .ok (.value (qX k r)) w:=by
 unfold execOp;simp[c,e,f,go_sem,a,d]
theorem qGj (r:RK) (k:Nat) (v:Int) (w:yC) (d:r.s.size=r.n) (i:0<r.n) (z:r.n<=1000000) (u:r.m<=2000000) (s:k<r.n) (j:w.cell? ⟨r.N,(k+r.m)%r.n,yB⟩=yA (qX qm v)):
  yG yK 184 #[rv r,k] w fun e w'=>e=qx (qX qm v)/\Grn w w':=by
 have l:(k+r.m)%r.n<r.n:=qRf _ i;obtain⟨HB,h⟩:=yU ((RB.new w r).grn (Grn.drew _)) ((Grn.alloc w (zNa r)).trans (Grn.drew _));have o:=zH (zE4 (h.out.cell j));have m:=yT (IntKind.i64.wrap ((k:Int)+(r.m:Int))=((k+r.m:Nat):Int)) (by rw[qQa _ za];omega);have HM:=yT (((k+r.m:Nat):Int).tmod (r.s.size:Int)=(((k+r.m)%r.n:Nat):Int)) (by rw[d,qS5 za];omega)
 have q:=yT ((r.s.size:Int)≠0) (by rw[d];omega);have p:=zH l;obtain⟨B,f⟩:=zB w.heap.size;have F:=zH d;rw[f]at HB;have a:=zH f;clear l d j f i z u s;unfold rv;go_enter func184,ntmps184;go_wp2;rw[a.out];refine zS [] (fun _=>True) [0,1,0,0,8,20,0,64,128,256,544,1026,2048,8191] 14<|zp [0,1,2,3,4,5,6,7,8,9,10,11,12,13]<|zk 5 (zP B 1)<|zt 6 (qZ (yA ⟨r.N,0,yB⟩) r.n r.c) (zl 23 5 (HB.out.l1))<|zk 7 (zI k)<|zk 8 (zP B 2)<|zt 9 (qX qm (r.m:Int)) (zl 3 8 (HB.out.l2))<|zt 10 (qX qm ((k+r.m:Nat):Int)) (Kit.qCv (x:= .tmp 7) (y:= .tmp 9) rfl zf zf m.out _)<|zk 11 (zP B 0)<|zk 12 (zP B 0)<|zt 13 (qY r.s) (zl 9 12 (HB.out.l0))<|zk 14 (qX qm (r.s.size:Int))<|zt 15 (qX qm (((k+r.m)%r.n:Nat):Int)) (qCs (x:= .tmp 10) (y:= .tmp 14) rfl zf zf q.out HM.out _)<|zt 16 (qc (yA ⟨r.N,(k+r.m)%r.n,yB⟩)) (Kit.zBo (t:=23) (x:=(.tmp 6)) (y:=(.tmp 15)) (g:=r.N) (n:=r.n) (c:=r.c) (k:=(k+r.m)%r.n) rfl zf zf p.out underlying23 (fun _=>sizeOf3 _) _)<|zt 17 (qX qm v) (zl 3 16 (o.out))<|zk 4 (qX qm v)<|zn<|zE<| ?_
 simp only[zP,zI,Act.put,qPx,qPw,qPy];go_wp2;go_ret;exact⟨rfl,h.out⟩
end St
namespace Tn
variable {s l o v:List Nat} {f:Nat->Nat}
def cyc (s:List Nat) (k:Nat):Nat:=s.getD (k%kN s) 0
def C (s:List Nat):Nat->Nat->Nat
 |0,_=>0
 |m+1,k=>C s m k*256+cyc s (k+m)
def Bytes (s:List Nat):Prop:=∀x∈s,x<256
theorem zHi (h:Bytes s) (k:Nat):cyc s k<256:=by
 unfold cyc;rw[qPz];cases hk:s[k%kN s]? with
 |none=>simp
 |some x=>exact h x (qSs hk)
theorem zNt (s:List Nat) (k:Nat):cyc s (k+kN s)=cyc s k:=by unfold cyc;rw[Nat.add_mod_right]
theorem zJe (h:Bytes s):∀m k,C s m k<256^m
 |0,_=>by simp[C]
 |m+1,k=>by
  have:=zJe h m k;have:=zHi h (k+m);simp only[C,qRq];omega
theorem zUd (s:List Nat):∀m k,C s (m+1) k=cyc s k*256^m+C s m (k+1)
 |0,k=>by simp[C]
 |m+1,k=>by
  have a:=zUd s m k;rw[C,a,C,qRq];rw[qQu,qTf,qR3,show k+(m+1)=k+1+m by omega]
theorem zKa (s:List Nat) (m n k:Nat):C s (m+n) k=C s m k*256^n+C s n (k+m):=by
 induction n with
 |zero=>simp[C]
 |succ n ih=>
  show C s (m+n) k*256+_=_;show C s (m+n) k*256+cyc s (k+(m+n))=_;rw[ih,C,qRq,qQu,qTf,qR3,show k+(m+n)=k+m+n by omega]
theorem zUc (s:List Nat):∀m k,C s m (k+kN s)=C s m k
 |0,_=>rfl
 |m+1,k=>by
  rw[C,C,zUc s m k,show k+kN s+m=k+m+kN s by omega,zNt]
theorem zV0 (s:List Nat) (m k:Nat):C s m (k%kN s)=C s m k:=by
 have h:∀q r,C s m (r+q*kN s)=C s m r:=by
  intro q r
  induction q with
  |zero=>simp
  |succ q ih=>rw[Nat.succ_mul,<-qR3,zUc,ih]
 conv=>rhs;rw[<-Nat.mod_add_div k (kN s),qRo]
 rw[h]
theorem qGs (h:Bytes s) (m a b:Nat):C s (m+m) a<C s (m+m) b↔C s m a<C s m b\/(C s m a=C s m b/\C s m (a+m)<C s m (b+m)):=by
 rw[zKa,zKa];have e:=zJe h m (a+m);have g:=zJe h m (b+m);generalize C s m (a+m)=x at*;generalize C s m (b+m)=y at*;generalize C s m a=u at*;generalize C s m b=v at*;generalize 256^m=K at*;rcases qTq u v with c|c|c
 .have:(u+1)*K<=v*K:=qRp _ c;rw[qQu,qRn]at this;exact⟨fun _=>qz c,fun _=>za⟩
 .subst c;constructor
  .intro d;exact qy ⟨rfl,za⟩
  .rintro(d|⟨_,d⟩)
   .omega
   .omega
 .have:(v+1)*K<=u*K:=qRp _ c;rw[qQu,qRn]at this;constructor
  .intro d;omega
  .rintro(d|⟨d,_⟩)<;>omega
theorem qEk (h:Bytes s) (a b:Nat) (e:C s (kN s) a=C s (kN s) b):∀j,cyc s (a+j)=cyc s (b+j):=by
 have d:∀m,C s m a=C s m b->∀j,j<m->cyc s (a+j)=cyc s (b+j):=by
  intro m
  induction m with
  |zero=>intro _ j p;omega
  |succ m ih=>
   intro e j p;have q:=zHi h (a+m);have r:=zHi h (b+m);simp only[C]at e;rcases qP8 j m with g|g
   .exact ih za j g
   .obtain rfl:j=m:=za
    omega
 intro j;rcases qQz (kN s) with i|i
 .have:∀k,cyc s k=0:=by intro k;unfold cyc;rw[qPz,qQq za];rfl
  rw[this,this]
 .have g:=d _ e (j%kN s) (qRf _ i);have n:∀c,cyc s (c+j%kN s)=cyc s (c+j):=by
   intro c;unfold cyc;rw[Nat.add_mod,Nat.mod_mod,<-Nat.add_mod]
  rw[n,n]at g;exact g
theorem qGt (h:Bytes s) (a b:Nat) (e:C s (kN s) a=C s (kN s) b) (m:Nat):C s m a=C s m b:=by
 induction m with
 |zero=>rfl
 |succ m ih=>rw[C,C,ih,qEk h a b e]
theorem qBw (h:Bytes s) (m a b:Nat) (i:kN s<=m):C s m a<C s m b↔C s (kN s) a<C s (kN s) b:=by
 obtain⟨d,rfl⟩:∃d,m=kN s+d:=⟨m-kN s,za⟩;rcases qTq (C s (kN s) a) (C s (kN s) b)with c|c|c
 .refine⟨fun _=>c,fun _=> ?_⟩;rw[zKa,zKa];have g:=zJe h d (a+kN s);generalize C s (kN s) a=u at*;generalize C s (kN s) b=v at*;have:(u+1)*256^d<=v*256^d:=qRp _ c;rw[qQu,qRn]at this;omega
 .have:=qGt h a b c (kN s+d);omega
 .refine⟨fun e=> ?_,fun e=>za⟩;rw[zKa,zKa]at e;have g:=zJe h d (b+kN s);generalize C s (kN s) a=u at*;generalize C s (kN s) b=v at*;have:(v+1)*256^d<=u*256^d:=qRp _ c;rw[qQu,qRn]at this;omega
def By (f:Nat->Nat) (l:List Nat):Prop:=l.Pairwise fun a b=>f a<f b\/(f a=f b/\a<b)
theorem By.one:∀{l m:List Nat},l.Perm m->By f l->By f m->l=m
 |[],m,hp,_,_=>hp.symm.eq_nil.symm▸rfl
 |x::l,m,hp,hl,hm=>by
  cases m with
  |nil=>exact absurd hp.length_eq zm
  |cons y m=>
   obtain⟨b,c⟩:=qQ3.1 hl;obtain⟨d,g⟩:=qQ3.1 hm;have e:x=y:=by
    rcases qP6.1 (hp.mem_iff.1 (qTw))with e|h
    .exact e
    .rcases qP6.1 (hp.mem_iff.2 (qTw (a:=y) (l:=m)))with e|i
     .exact e.symm
     .have j:=b y i;have k:=d x h;omega
   subst e;rw[By.one (hp.cons_inv) c g]
theorem By.congr {g:Nat->Nat} (h:∀a∈l,∀b∈l,(f a<f b↔g a<g b)) (e:By f l):By g l:=by
 unfold By at*;refine List.Pairwise.imp_of_mem (fun{a b} c d i=> ?_) e;have j:=h a c b d;have k:=h b d a c;omega
structure Order (s:List Nat) (o:List Nat):Prop where
 perm:o.Perm (yO (kN s))
 by_:By (C s (kN s)) o
theorem Order.one {p:List Nat} (a:Order s o) (b:Order s p):o=p:=By.one (a.perm.trans b.perm.symm) a.by_ b.by_
theorem zL5:∀{l m:List Nat},l.Perm m->l.Pairwise (·<=·)->m.Pairwise (·<=·)->l=m
 |[],m,hp,_,_=>hp.symm.eq_nil.symm▸rfl
 |x::l,m,hp,hl,hm=>by
  cases m with
  |nil=>exact absurd hp.length_eq zm
  |cons y m=>
   obtain⟨b,c⟩:=qQ3.1 hl;obtain⟨d,g⟩:=qQ3.1 hm;have e:x=y:=by
    rcases qP6.1 (hp.mem_iff.1 (qTw))with e|h
    .exact e
    .rcases qP6.1 (hp.mem_iff.2 (qTw (a:=y) (l:=m)))with e|i
     .exact e.symm
     .have j:=b y i;have k:=d x h;omega
   subst e;rw[zL5 (hp.cons_inv) c g]
def back (n x:Nat):Nat:=x%256*256^(n-1)+x/256
theorem zYm (h:Bytes s) (d:0<kN s) (k:Nat):back (kN s) (C s (kN s) (k+1))=C s (kN s) k:=by
 obtain⟨n,a⟩:∃n,kN s=n+1:=⟨kN s-1,za⟩;have e:=zHi h (k+1+n);have b:C s (kN s) (k+1)=C s n (k+1)*256+cyc s k:=by
  rw[a,C,show k+1+n=k+kN s by omega,zNt]
 have c:C s (kN s) k=cyc s k*256^n+C s n (k+1):=by rw[a,zUd]
 have g:=zHi h k;rw[b,c,back,a];rw[show(C s n (k+1)*256+cyc s k)%256=cyc s k by omega,show(C s n (k+1)*256+cyc s k)/256=C s n (k+1)by omega,qSr]
theorem qBk {n x y:Nat} (b:x<256^n) (c:y<256^n) (d:0<n) (e:back n x=back n y):x=y:=by
 obtain⟨m,rfl⟩:∃m,n=m+1:=⟨n-1,za⟩;unfold back at e;rw[qSr]at e;rw[qRq]at b c;have g:x/256<256^m:=za
 have i:y/256<256^m:=za
 have a:x%256=y%256:=by
  rcases qTq (x%256) (y%256)with h|h|h
  .have:(x%256+1)*256^m<=y%256*256^m:=qRp _ h;rw[qQu,qRn]at this;omega
  .exact h
  .have:(y%256+1)*256^m<=x%256*256^m:=qRp _ h;rw[qQu,qRn]at this;omega
 rw[a]at e;omega
def lastOf (s o:List Nat):List Nat:=o.map fun k=>cyc s (k+kN s-1)
theorem zSa (h:Bytes s) (b:0<kN s) (k:Nat):C s (kN s) k%256=cyc s (k+kN s-1):=by
 obtain⟨n,a⟩:∃n,kN s=n+1:=⟨kN s-1,za⟩;have c:=zHi h (k+n);rw[a,C,show k+(n+1)-1=k+n by omega];omega
structure Vec (l v:List Nat):Prop where
 perm:v.Perm (yO (kN l))
 by_:By (fun i=>l.getD i 0) v
theorem Vec.one {u:List Nat} (a:Vec l v) (b:Vec l u):v=u:=By.one (a.perm.trans b.perm.symm) a.by_ b.by_
theorem zW0 (n:Nat) (b:0<n):((yO n).map fun k=>(k+1)%n).Perm (yO n):=by
 obtain⟨m,rfl⟩:∃m,n=m+1:=⟨n-1,za⟩;have e:((yO (m+1)).map fun k=>(k+1)%(m+1))=(yO m).map Nat.succ++[0]:=by
  rw[qQw,qQb];congr 1
  .refine qRy fun k a=> ?_;have:=qQn.1 a;exact qRh za
  .simp
 rw[e,List.range_succ_eq_map];exact List.perm_append_singleton _ _
theorem qAe (l:List Nat):(yO (kN l)).map (fun i=>l.getD i 0)=l:=by
 apply qRt;intro i;rw[qP3];rcases qP8 i (kN l) with h|h
 .rw[qSe h,qPu h];simp[qPz,qPu h]
 .rw[List.getElem?_eq_none h,List.getElem?_eq_none (by simpa using h)];rfl
theorem zYu (O:Bytes s) (K:0<kN s) (N:Order s o) (hv:Vec (lastOf s o) v) (j:Nat) (hj:j<kN s):
  back (kN s) (C s (kN s) (o.getD (v.getD j 0) 0))=C s (kN s) (o.getD j 0):=by
 obtain⟨R,q⟩:=zB (o.map (C s (kN s)));have u:kN o=kN s:=by rw[N.perm.length_eq,qQ9]
 have d:kN R=kN s:=by rw[<-q,qQj,u]
 have c:lastOf s o=R.map (·%256):=by
  rw[<-q,qRr];refine qRy fun k _=> ?_;exact(zSa O K k).symm
 have p:R.Pairwise (·<=·):=by
  rw[<-q,List.pairwise_map];refine N.by_.imp fun{a b} h=> ?_;omega
 have f:∀x∈R,x<256^kN s:=by
  intro x W;rw[<-q]at W;obtain⟨k,_,rfl⟩:=qQg.1 W;exact zJe O _ _
 have a0:kN v=kN s:=by rw[hv.perm.length_eq,qQ9,c,qQj,d]
 obtain⟨B,M⟩:=zB (v.map (fun i=>back (kN s) (R.getD i 0)));have l:∀i,i<kN s->(R.map (·%256)).getD i 0=R.getD i 0%256:=by
  intro i hi;simp[qPz,qPu (show i<kN R by omega)]
 have g:∀i∈v,i<kN s:=by
  intro i hi;have:=qQn.1 (hv.perm.mem_iff.1 hi);rw[c,qQj,d]at this;exact this
 have F:B.Pairwise (·<=·):=by
  rw[<-M,List.pairwise_map];have n:=hv.by_;rw[c]at n;refine List.Pairwise.imp_of_mem (fun{a b} ha hb h=> ?_) n;have z:=g a ha;have L:=g b hb;simp only at h;rw[l a z,l b L]at h;have X:R.getD a 0<256^kN s:=by
   simp only[qPz,qPu (show a<kN R by omega),qQ5];exact f _ (qP9 _)
  have Y:R.getD b 0<256^kN s:=by
   simp only[qPz,qPu (show b<kN R by omega),qQ5];exact f _ (qP9 _)
  have I:a<b->R.getD a 0<=R.getD b 0:=by
   intro e;simp only[qPz,qPu (show a<kN R by omega),qPu (show b<kN R by omega),qQ5];exact qSf.1 p a b za za e
  generalize R.getD a 0=x at*;generalize R.getD b 0=y at*;unfold back;obtain⟨m,V⟩:∃m,kN s=m+1:=⟨kN s-1,za⟩;rw[V,qRq]at X Y;rw[V,qSr];rcases h with h|⟨h,e⟩
  .have:(x%256+1)*256^m<=y%256*256^m:=qRp _ h;rw[qQu,qRn]at this;omega
  .rw[h];have:=I e;omega
 have w:B.Perm R:=by
  have z:B.Perm ((yO (kN s)).map fun i=>back (kN s) (R.getD i 0)):=by
   rw[<-M];have:=hv.perm;rw[c,qQj,d]at this;exact this.map _
  have L:((yO (kN s)).map fun i=>back (kN s) (R.getD i 0))=R.map (back (kN s)):=by
   conv=>rhs;rw[<-qAe R,qRr,d]
   rfl
  rw[L]at z;refine z.trans ?_;have P:R.Perm ((yO (kN s)).map (C s (kN s))):=by rw[<-q];exact N.perm.map _
  have Z:((yO (kN s)).map (C s (kN s))).Perm ((yO (kN s)).map fun k=>C s (kN s) (k+1)):=by
   have:=(zW0 (kN s) K).map (C s (kN s));rw[qRr]at this;refine this.symm.trans ?_;rw[show((yO (kN s)).map (C s (kN s)∘fun k=>(k+1)%kN s))=(yO (kN s)).map fun k=>C s (kN s) (k+1)from qRy fun k _=>zV0 s _ _]
  have S:=(P.trans Z).map (back (kN s));rw[qRr,show((yO (kN s)).map (back (kN s)∘fun k=>C s (kN s) (k+1)))=(yO (kN s)).map (C s (kN s))from qRy fun k _=>zYm O K k]at S;exact S.trans P.symm
 have G:=zL5 w F p;have H:v.getD j 0∈v:=by
  simp only[qPz,qPu (show j<kN v by omega),qQ5];exact qP9 _
 have r:∀i,i<kN s->R.getD i 0=C s (kN s) (o.getD i 0):=by
  intro i hi;rw[<-q];simp[qPz,qPu (show i<kN o by omega)]
 have t:B.getD j 0=back (kN s) (R.getD (v.getD j 0) 0):=by
  rw[<-M];simp[qPz,qPu (show j<kN v by omega)]
 rw[<-r _ (g _ H),<-r j hj,<-t,G]
def walk (v:List Nat) (o:Nat):Nat->Nat
 |0=>o
 |i+1=>v.getD (walk v o i) 0
theorem zN4 (c:Bytes s) (d:0<kN s) (e:Order s o) (hv:Vec (lastOf s o) v) (g:Nat) (j:g<kN s) (k:o.getD g 0=0):
  ∀i,walk v g i<kN s/\C s (kN s) (o.getD (walk v g i) 0)=C s (kN s) i
 |0=>⟨j,by show C s (kN s) (o.getD g 0)=_;rw[k]⟩
 |i+1=>by
  obtain⟨m,n⟩:=zN4 c d e hv g j k i;have h:=zYu c d e hv _ m;have b:kN o=kN s:=by rw[e.perm.length_eq,qQ9]
  have a:kN (lastOf s o)=kN s:=by unfold lastOf;rw[qQj,b]
  have p:kN v=kN s:=by rw[hv.perm.length_eq,qQ9,a]
  refine⟨?_,?_⟩
  .show v.getD (walk v g i) 0<_;simp only[qPz,qPu (show walk v g i<kN v by omega),qQ5];have:=qQn.1 (hv.perm.mem_iff.1 (qP9 (show walk v g i<kN v by omega)));rw[a]at this;exact this
  .rw[n,<-zYm c d i]at h;exact qBk (zJe c _ _) (zJe c _ _) d h
theorem zYl (b:Bytes s) (a:0<kN s) (c:Order s o) (hv:Vec (lastOf s o) v) (g:Nat) (h:g<kN s) (j:o.getD g 0=0) (i:Nat) (hi:i<kN s):
  (lastOf s o).getD (walk v g (i+1)) 0=s.getD i 0:=by
 obtain⟨m,d⟩:=zN4 b a c hv g h j (i+1);have k:kN o=kN s:=by rw[c.perm.length_eq,qQ9]
 have e:(lastOf s o).getD (walk v g (i+1)) 0=C s (kN s) (o.getD (walk v g (i+1)) 0)%256:=by
  unfold lastOf;rw[zSa b a];simp[qPz,qPu (show walk v g (i+1)<kN o by omega)]
 rw[e,d,zSa b a,show i+1+kN s-1=i+kN s by omega,zNt];unfold cyc;rw[qRh hi]
end Tn
namespace Tn
variable {f:Nat->Nat}
def leB (f:Nat->Nat) (a b:Nat):Bool:=yJ (f a<f b)||(f a==f b&&yJ (a<=b))
theorem zH4 {a b:Nat}:leB f a b=yH↔f a<f b\/(f a=f b/\a<=b):=by simp[leB]
def sorted (f:Nat->Nat) (n:Nat):List Nat:=(yO n).mergeSort (leB f)
theorem sorted_perm (f:Nat->Nat) (n:Nat):(sorted f n).Perm (yO n):=List.mergeSort_perm _ _
theorem zGc (f:Nat->Nat) (n:Nat):By f (sorted f n):=by
 have d:(sorted f n).Pairwise (fun a b=>leB f a b=yH):=List.pairwise_mergeSort (fun a b c d e=>by rw[zH4]at*;omega) (fun a b=>by rw[qTv,zH4,zH4];omega) _;have e:(sorted f n).Nodup:=(sorted_perm f n).nodup_iff.2 qTx;unfold By;refine List.Pairwise.imp₂ (fun a b g h=> ?_) d e;rw[zH4]at g;omega
theorem zCn (f:Nat->Nat) (n:Nat):kN (sorted f n)=n:=by rw[(sorted_perm f n).length_eq,qQ9]
def zHx (s:List Nat):List Nat:=sorted (C s (kN s)) (kN s)
theorem zD5 (s:List Nat):Order s (zHx s):=⟨sorted_perm _ _,zGc _ _⟩
theorem Order.eq {s o:List Nat} (h:Order s o):o=zHx s:=h.one (zD5 s)
def zA7 (l:List Nat):List Nat:=sorted (fun i=>l.getD i 0) (kN l)
theorem zCl (l:List Nat):Vec l (zA7 l):=⟨sorted_perm _ _,zGc _ _⟩
theorem zVf {p q:Nat->Bool} (h:∀x,p x=yH->q x=yH->False):∀l:List Nat,l.countP (fun x=>p x||q x)=l.countP p+l.countP q
 |[]=>rfl
 |x::r=>by
  rw[List.countP_cons,List.countP_cons,List.countP_cons,zVf h r];cases hp:p x<;>cases hq:q x<;>simp[hp,hq]<;>try omega
  exact absurd hq (by have:=h x hp;simpa using this)
def A (l:List Nat) (c:Nat):Nat:=(yO (kN l)).countP fun j=>decide (l.getD j 0<c)
def E (l:List Nat) (i c:Nat):Nat:=(yO i).countP fun j=>l.getD j 0==c
theorem zYq (l:List Nat) (c:Nat):E l 0 c=0:=rfl
theorem zR9 (l:List Nat) (i c:Nat):E l (i+1) c=E l i c+if l.getD i 0=c then 1 else 0:=by
 unfold E;rw[qQw,List.countP_append,List.countP_singleton];simp
theorem qGu (l:List Nat):A l 0=0:=by
 unfold A;rw[List.countP_eq_zero];intro x _;simp
theorem qGv (l:List Nat) (c:Nat):A l (c+1)=A l c+E l (kN l) c:=by
 unfold A E;rw[<-zVf (fun x a b=>by simp at a b;omega)];congr 1;funext j;rw[qSg];simp;omega
theorem qH2 (l:List Nat) (i c:Nat):E l i c<=i:=by
 unfold E;have:=List.countP_le_length (p:=fun j=>l.getD j 0==c) (l:=yO i);rwa[qQ9]at this
theorem qH3 (l:List Nat) (c:Nat):A l c<=kN l:=by
 unfold A;have:=List.countP_le_length (p:=fun j=>decide (l.getD j 0<c)) (l:=yO (kN l));rwa[qQ9]at this
def pos (l:List Nat) (i:Nat):Nat:=A l (l.getD i 0)+E l i (l.getD i 0)
def bef (l:List Nat) (i j:Nat):Bool:=yJ (l.getD j 0<l.getD i 0)||(l.getD j 0==l.getD i 0&&yJ (j<i))
theorem zW4 (l:List Nat) (i:Nat) (hi:i<=kN l):pos l i=(yO (kN l)).countP (bef l i):=by
 unfold bef;rw[zVf (fun x a c=>by simp at a c;omega)];unfold pos A;congr 1;have e:yO (kN l)=yO i++List.range' i (kN l-i):=by
  rw[List.range_eq_range',List.range_eq_range',show kN l=i+(kN l-i)by omega,<-List.range'_append_1];simp
 rw[e,List.countP_append];have a:(List.range' i (kN l-i)).countP (fun j=>l.getD j 0==l.getD i 0&&yJ (j<i))=0:=by
  rw[List.countP_eq_zero];intro x b;have:=(List.mem_range'_1.1 b).1;simp;omega
 rw[a,qRi];unfold E;refine List.countP_congr fun x b=> ?_;have:=qQn.1 b;simp;omega
theorem zKv:∀(v:List Nat) (p:Nat) (b:p<kN v),By f v->v.countP (fun j=>decide (f j<f v[p])||(f j==f v[p]&&yJ (j<v[p])))=p
 |[],p,b,_=>by simp at b
 |x::r,0,b,h=>by
  obtain⟨c,e⟩:=qQ3.1 h;rw[List.countP_eq_zero];intro y d;rcases qP6.1 d with rfl|d
  .simp
  .have:=c y d;simp;omega
 |x::r,p+1,b,h=>by
  obtain⟨c,e⟩:=qQ3.1 h;have a:p<kN r:=by simpa using b
  have:=zKv r p a e;have g:=c r[p] (qP9 a);rw[List.countP_cons];simp only[qSt];rw[this];have:(yJ (f x<f r[p])||(f x==f r[p]&&yJ (x<r[p])))=yH:=zq
  rw[qPr this]
theorem zJf (l:List Nat) (p:Nat) (d:p<kN l):pos l ((zA7 l).getD p 0)=p:=by
 have c:kN (zA7 l)=kN l:=zCn _ _;have a:p<kN (zA7 l):=za
 have b:=(zCl l).perm.mem_iff.1 (qP9 a);rw[show(zA7 l).getD p 0=(zA7 l)[p]by simp[qPz,qPu a]];rw[zW4 l _ (qP7 (qQn.1 b)),<-(zCl l).perm.countP_eq];exact zKv (f:=fun i=>l.getD i 0) (zA7 l) p a (zCl l).by_
theorem qFc (l:List Nat) (i:Nat) (hi:i<kN l):pos l i<kN l:=by
 have a:=(zCl l).perm.mem_iff.2 (qQn.2 hi);obtain⟨p,b,e⟩:=qTg a;have c:kN (zA7 l)=kN l:=zCn _ _;have:=zJf l p za;rw[show(zA7 l).getD p 0=(zA7 l)[p]by simp[qPz,qPu b],e]at this;omega
theorem qEl (l o:List Nat) (g:kN o=kN l) (h:∀i,i<kN l->o.getD (pos l i) 0=i):o=zA7 l:=by
 have hv:kN (zA7 l)=kN l:=zCn _ _;apply List.ext_getElem za;intro p d c;have e:=qQn.1 ((zCl l).perm.mem_iff.1 (qP9 c));have a:=zJf l p za;have b:=h _ e;rw[show(zA7 l).getD p 0=(zA7 l)[p]by simp[qPz,qPu c]]at a;rw[a]at b;rw[<-b];simp[qPz,qPu d]
theorem qC0 (l:List Nat) (i j:Nat) (hi:i<kN l) (g:j<kN l) (e:pos l i=pos l j):i=j:=by
 obtain⟨p,h,a⟩:=qTg ((zCl l).perm.mem_iff.2 (qQn.2 hi));obtain⟨q,k,b⟩:=qTg ((zCl l).perm.mem_iff.2 (qQn.2 g));have hv:kN (zA7 l)=kN l:=zCn _ _;have c:=zJf l p za;have d:=zJf l q za;rw[show(zA7 l).getD p 0=(zA7 l)[p]by simp[qPz,qPu h],a]at c;rw[show(zA7 l).getD q 0=(zA7 l)[q]by simp[qPz,qPu k],b]at d;have:p=q:=za
 subst this;rw[<-a,<-b]
end Tn
namespace Tn
variable {s o:List Nat} {f K:Nat->Nat} {M m p q n:Nat}
theorem qCe (a b:Int):Lib.compareInt a b<0↔a<b:=by
 unfold Lib.compareInt;split
 .rename_i h;constructor<;>intro _<;>omega
 .split
  .rename_i h1 h2;constructor<;>intro _<;>omega
  .rename_i h1 h2;constructor<;>intro _<;>omega
theorem zNv (a b:Int):Lib.compareInt a b=0↔a=b:=by
 unfold Lib.compareInt;split
 .rename_i h;constructor<;>intro _<;>omega
 .split
  .rename_i h1 h2;constructor<;>intro _<;>omega
  .rename_i h1 h2;constructor<;>intro _<;>omega
def cf2 (n m:Nat) (f:Nat->Nat) (i j:Nat):Int:=if Lib.compareInt (f i:Int) (f j:Int)=0 then Lib.compareInt (f ((i+m)%n):Int) (f ((j+m)%n):Int)else Lib.compareInt (f i:Int) (f j:Int)
theorem zYi (n m:Nat) (f:Nat->Nat) (i j:Nat):cf2 n m f i j<0↔f i<f j\/(f i=f j/\f ((i+m)%n)<f ((j+m)%n)):=by
 unfold cf2;have a:=zNv (f i:Int) (f j:Int);split
 .rename_i h
  rw[qCe];have:=a.1 h;omega
 .rename_i h
  rw[qCe];have:(f i:Int)≠(f j:Int):=fun e=>h (a.2 e);omega
theorem qBe (n m:Nat) (f:Nat->Nat) (i j:Nat):cf2 n m f i j=0↔f i=f j/\f ((i+m)%n)=f ((j+m)%n):=by
 unfold cf2;have a:=zNv (f i:Int) (f j:Int);split
 .rename_i h
  rw[zNv];have:=a.1 h;omega
 .rename_i h
  constructor
  .intro e;exact absurd e h
  .intro e;exact absurd (a.2 za) h
def Rk (s:List Nat) (f:Nat->Nat) (M:Nat):Prop:=∀a b,a<kN s->b<kN s->(f a<f b↔C s M a<C s M b)
theorem Rk.eq (h:Rk s f M) {a b:Nat} (c:a<kN s) (d:b<kN s):f a=f b↔C s M a=C s M b:=by
 have e:=h a b c d;have g:=h b a d c;omega
def up1 (m:Nat):Nat:=max m 1
def up2 (m:Nat):Nat:=max (2*m) 1
theorem zUr (r:Bytes s) (h:Rk s f (up1 m)) (i j:Nat) (hi:i<kN s) (a:j<kN s):cf2 (kN s) m f i j<0↔C s (up2 m) i<C s (up2 m) j:=by
 rw[zYi];have d:0<kN s:=za
 have b:=h i j hi a;have e:=h.eq hi a;have c:=h ((i+m)%kN s) ((j+m)%kN s) (qRf _ d) (qRf _ d);rw[zV0,zV0]at c;by_cases l:m=0
 .subst l;simp only[up1,up2,qRi]at*;rw[qRh hi,qRh a];rw[show max (2*0) 1=max 0 1 from rfl,<-b];omega
 .have g:up1 m=m:=by unfold up1;omega
  have k:up2 m=m+m:=by unfold up2;omega
  rw[g]at b e c;rw[k,qGs r,b,e,c]
theorem qCw (b:Bytes s) (h:Rk s f (up1 m)) (i j:Nat) (hi:i<kN s) (a:j<kN s):cf2 (kN s) m f i j=0↔C s (up2 m) i=C s (up2 m) j:=by
 have c:=zUr b h i j hi a;have d:=zUr b h j i a hi;rw[zYi]at c d;rw[qBe];omega
theorem zZo (h:∀k,k<kN s->f k=s.getD k 0):Rk s f (up1 0):=by
 intro a b c d;have e:∀k,k<kN s->C s (up1 0) k=s.getD k 0:=fun k g=>by
  show C s 0 k*256+cyc s (k+0)=_;rw[C,Nat.zero_mul,qQd,qRi];unfold cyc;rw[qRh g]
 rw[h a c,h b d,e a c,e b d]
def rkP (K:Nat->Nat) (o:List Nat):Nat->Nat
 |0=>0
 |p+1=>rkP K o p+if K (o.getD p 0)=K (o.getD (p+1) 0)then 0 else 1
theorem By.getD (h:By K o) (b:p<q) (a:q<kN o):K (o.getD p 0)<=K (o.getD q 0):=by
 unfold By at h;rw[qSf]at h;have c:=h p q za a b;rw[qPz,qPz,qPu a,qPu (show p<kN o by omega)];simp only[qQ5];omega
theorem zWz (K:Nat->Nat) (o:List Nat):∀p,rkP K o p<=p
 |0=>qPq _
 |p+1=>by have:=zWz K o p;rw[rkP];split<;>omega
theorem zK6 (h:By K o) (p:Nat):∀d,p+d<kN o->rkP K o p<=rkP K o (p+d)/\(rkP K o p=rkP K o (p+d)↔K (o.getD p 0)=K (o.getD (p+d) 0))
 |0,_=>by simp
 |d+1,hd=>by
  obtain⟨a,b⟩:=zK6 h p d za;have c:K (o.getD p 0)<=K (o.getD (p+d) 0):=by
   rcases qQz d with e|e
   .subst e;exact qPq _
   .exact h.getD za za
  have g:=h.getD (p:=p+d) (q:=p+(d+1)) za hd;have e:rkP K o (p+(d+1))=rkP K o (p+d)+if K (o.getD (p+d) 0)=K (o.getD (p+(d+1)) 0)then 0 else 1:=rfl
  rw[e];split
  .rename_i h5;omega
  .rename_i h5;omega
theorem qF (h:By K o) (p q:Nat) (e:p<kN o) (g:q<kN o):rkP K o p<rkP K o q↔K (o.getD p 0)<K (o.getD q 0):=by
 rcases qP8 p q with a|a
 .obtain⟨c,d⟩:=zK6 h p (q-p) za;rw[show p+(q-p)=q by omega]at c d;have:=h.getD a g;omega
 .obtain⟨c,d⟩:=zK6 h q (p-q) za;rw[show q+(p-q)=p by omega]at c d;rcases qP8 q p with b|b
  .have:=h.getD b e;omega
  .have:p=q:=za
   subst this;omega
theorem zTn (b:o.Perm (yO n)) (a:Nat) (d:a<n):∃p,p<kN o/\o.getD p 0=a:=by
 have c:a∈o:=b.mem_iff.2 (qQn.2 d);obtain⟨p,b,e⟩:=qTg c;exact⟨p,b,by rw[qPz,qPu b];exact e⟩
theorem zNc (b:o.Perm (yO n)) (p:Nat) (h:p<kN o):o.getD p 0<n:=by
 have a:o.getD p 0∈o:=by
  rw[qPz,qPu h];exact qP9 h
 exact qQn.1 (b.mem_iff.1 a)
theorem zOo (d:o.Nodup) (b:p<kN o) (c:q<kN o) (e:o[p]=o[q]):p=q:=by
 have h:=qSf.1 d;rcases qTq p q with a|a|a
 .exact absurd e (h p q b c a)
 .exact a
 .exact absurd e.symm (h q p c b a)
theorem zQw (d:o.Perm (yO n)) (a:p<kN o) (b:q<kN o) (e:o.getD p 0=o.getD q 0):p=q:=by
 have c:o.Nodup:=d.nodup_iff.2 qTx;rw[qPz,qPz,qPu a,qPu b]at e;exact zOo c a b e
theorem qCx {F:Nat->Nat} (e:o.Perm (yO (kN s))) (i:By (C s M) o) (hF:∀p,p<kN o->F (o.getD p 0)=rkP (C s M) o p):Rk s F M:=by
 intro a b h g;obtain⟨p,c,rfl⟩:=zTn e a h;obtain⟨q,d,rfl⟩:=zTn e b g;rw[hF p c,hF q d];exact qF i p q c d
theorem qCy (g:Bytes s) (e:o.Perm (yO (kN s))) (d:By (C s M) o) (c:kN s<=M):o=zHx s:=
 (Order.eq ⟨e,d.congr (fun a _ b _=>qBw g M a b c)⟩)
end Tn
namespace St
open Go.Sort
variable {α:Type} [Inhabited α]
structure Ord (lt t:α->α->Bool) (I:α->Nat):Prop where
 swo:SWO t
 ask:∀x y,I x<I y->lt y x=t y x
variable {lt t:α->α->Bool} {I:α->Nat}
theorem zXr (h:Ord lt t I) (a:Nat):∀(j:Nat) (d:Array α),j<d.size->(∀k,a<=k->k<j->I d[k]! <I d[j]!)->insInner lt a j d=insInner t a j d
 |0,d,_,_=>rfl
 |j+1,d,hj,hk=>by
  unfold insInner;by_cases b:a<=j
  .rw[h.ask _ _ (hk j b za)];split
   .refine zXr h a j _ (by rw[size_swp];omega) (fun k c e=> ?_);rw[swp_other _ _ _ _ za za,swp_right _ _ _ za];exact hk k c za
   .rfl
  .rw[qP1 za,Bool.false_and,Bool.false_and,qPt zm,qPt zm]
theorem zTy (h:Ord lt t I) (a b:Nat):∀(n i:Nat) (d:Array α),b-i=n->a<i->b<=d.size->SortedIn t a i d->(∀f k,a<=f->f<k->i<=k->k<b->I d[f]! <I d[k]!)->insOuter lt a b i d=insOuter t a b i d
 |0,i,d,hn,hai,hb,_,_=>by rw[insOuter,qPt za,insOuter,qPt za]
 |n+1,i,d,hn,hai,hb,hs,hk=>by
  have r:insOuter lt a b i d=insOuter lt a b (i+1) (insInner lt a i d):=by rw[insOuter,qPr za]
  have s:insOuter t a b i d=insOuter t a b (i+1) (insInner t a i d):=by rw[insOuter,qPr za]
  rw[r,s];rw[zXr h a i d za (fun k e g=>hk k i e g (qPq _) za)];have e:=insInner_spec h.swo swp_permIn permIn_refl permIn_trans a (i+1) i (qQ8 i) i d za (qPq _) za ⟨fun p q m o z _ F=>hs p q m o za,fun q e g=>za⟩;refine zTy h a b n (i+1) _ za za (by rw[e.1.1];exact hb) e.2 (fun f k g u w l=> ?_);rw[e.1.2.1 k (qy w)];by_cases c:i+1<=f
  .rw[e.1.2.1 f (qy c)];exact hk f k g u za l
  .exact permIn_all d _ a (i+1) (fun x=>I x<I d[k]!) za e.1 (fun j y B=>hk j k y za za l) f g za
theorem qAq (h:Ord lt t I) (d:Array α) (a b:Nat) (m:a<=b) (l:b<=d.size) (p:∀c k,a<=c->c<k->k<b->I d[c]! <I d[k]!):
  PermIn a b d (insertionSort lt d a b)/\SortedIn t a b (insertionSort lt d a b):=by
 have e:insertionSort lt d a b=insertionSort t d a b:=
  zTy h a b _ (a+1) d rfl za l (fun i j f g n=>za) (fun c k f g n o=>p c k f g o)
 rw[e];exact insertionSort_holds h.swo d a b m l
structure Shl (d:Array α) (a k:Nat) (dk:Array α):Prop where
 perm:PermIn a (k+1) d dk
 left:∀q,a<=q->q<k->dk[q]! =d[q+1]!
 it:dk[k]! =d[a]!
theorem Shl.start (d:Array α) (a:Nat):Shl d a a d:=⟨permIn_refl _ _ _,fun q b c=>za,rfl⟩
theorem Shl.step {d dk:Array α} {a k:Nat} (h:Shl d a k dk) (b:a<=k) (g:k+1<d.size):Shl d a (k+1) (swp dk k (k+1)):=by
 have i:=h.perm.1;refine⟨permIn_trans _ _ _ _ _ (permIn_mono _ _ _ _ _ _ (qPq _) (qRu _) za h.perm) (swp_permIn _ _ _ _ _ b za za za za),fun q c f=> ?_,?_⟩
 .by_cases e:q=k
  .subst e;rw[swp_left _ _ _ za za,h.perm.2.1 _ (qy (qPq _))]
  .rw[swp_other _ _ _ _ e za];exact h.left q c za
 .rw[swp_right _ _ _ za];exact h.it
structure Shr (d:Array α) (m k:Nat) (dk:Array α):Prop where
 perm:PermIn k (m+1) d dk
 right:∀q,k<q->q<=m->dk[q]! =d[q-1]!
 it:dk[k]! =d[m]!
theorem Shr.start (d:Array α) (m:Nat):Shr d m m d:=⟨permIn_refl _ _ _,fun q a b=>za,rfl⟩
theorem Shr.step {d dk:Array α} {m k:Nat} (h:Shr d m (k+1) dk) (b:k+1<=m) (f:m<d.size):Shr d m k (swp dk (k+1) k):=by
 have g:=h.perm.1;refine⟨permIn_trans _ _ _ _ _ (permIn_mono _ _ _ _ _ _ (qRu _) (qPq _) za h.perm) (swp_permIn _ _ _ _ _ za za za za za),fun q c a=> ?_,?_⟩
 .by_cases e:q=k+1
  .subst e;rw[swp_left _ _ _ za za,h.perm.2.1 _ (qz za)];rfl
  .rw[swp_other _ _ _ _ e za];exact h.right q za a
 .rw[swp_right _ _ _ za];exact h.it
structure Pre (t:α->α->Bool) (I:α->Nat) (a m b:Nat) (d:Array α):Prop where
 l:SortedIn t a m d
 r:SortedIn t m b d
 i:∀p q,a<=p->p<m->m<=q->q<b->I d[p]! <I d[q]!
theorem zZ9 (h:Ord lt t I) {d dk:Array α} {a b i:Nat} (g:Pre t I a (a+1) b d) (hi:a+1<=i) (w:i<=b) (u:b<=d.size)
  (r:∀q,a+1<=q->q<i->lt d[q]! d[a]! =yH) (s:i<b->lt d[i]! d[a]! =yI) (f:Shl d a (i-1) dk):PermIn a b d dk/\SortedIn t a b dk:=by
 have x:=f.perm.1;have c:=permIn_mono _ _ _ _ _ _ (qPq a) (show i-1+1<=b by omega) u f.perm;refine⟨c,fun p q k l j=> ?_⟩;have up:∀q,i<=q->q<b->t d[q]! d[a]! =yI:=by
  intro q n j;have m:t d[i]! d[a]! =yI:=by rw[<-h.ask _ _ (g.i a i (qPq _) za za za)];exact s za
  by_cases e:q=i
  .subst e;exact m
  .exact h.swo.ntrans _ _ _ (g.r i q za za j) m
 have dn:∀q,a+1<=q->q<i->t d[a]! d[q]! =yI:=by
  intro q n o;refine h.swo.asymmA ?_;rw[<-h.ask _ _ (g.i a q (qPq _) za za za)];exact r q n o
 by_cases c1:q<i-1
 .rw[f.left q za c1,f.left p k za];exact g.r (p+1) (q+1) za za za
 .by_cases c2:q=i-1
  .subst c2;rw[f.it,f.left p k l];exact dn (p+1) za za
  .rw[f.perm.2.1 q (qy za)];by_cases c3:p<i-1
   .rw[f.left p k c3];exact g.r (p+1) q za za j
   .by_cases c4:p=i-1
    .subst c4;rw[f.it];exact up q za j
    .rw[f.perm.2.1 p (qy za)];exact g.r p q za l j
theorem zXd (h:Ord lt t I) {d dk:Array α} {a m i:Nat} (f:Pre t I a m (m+1) d) (hi:a<=i) (u:i<=m) (x:m<d.size)
  (r:∀q,a<=q->q<i->lt d[m]! d[q]! =yI) (s:i<m->lt d[m]! d[i]! =yH) (c:Shr d m i dk):PermIn a (m+1) d dk/\SortedIn t a (m+1) dk:=by
 have y:=c.perm.1;have b:=permIn_mono _ _ _ _ _ _ hi (qPq (m+1)) za c.perm;refine⟨b,fun p q g j w=> ?_⟩;have dn:∀q,a<=q->q<i->t d[m]! d[q]! =yI:=by
  intro q k n;rw[<-h.ask _ _ (f.i q m k za za za)];exact r q k n
 have up:∀q,i<=q->q<m->t d[q]! d[m]! =yI:=by
  intro q k o;have l:t d[i]! d[m]! =yI:=by
   refine h.swo.asymmA ?_;rw[<-h.ask _ _ (f.i i m hi za za za)];exact s za
  by_cases e:q=i
  .subst e;exact l
  .exact h.swo.ntrans _ _ _ (f.l i q hi za o) l
 by_cases c1:q<i
 .rw[c.perm.2.1 q (qz c1),c.perm.2.1 p (qz za)];exact f.l p q g j za
 .by_cases c2:q=i
  .subst c2;rw[c.it,c.perm.2.1 p (qz j)];exact dn p g j
  .rw[c.right q za za];by_cases c3:p<i
   .rw[c.perm.2.1 p (qz c3)];exact f.l p (q-1) g za za
   .by_cases c4:p=i
    .subst c4;rw[c.it];exact up (q-1) za za
    .rw[c.right p za za];exact f.l (p-1) (q-1) za za za
structure Rot (d:Array α) (a m b:Nat) (d':Array α):Prop where
 perm:PermIn a b d d'
 l:∀q,a<=q->q<a+(b-m)->d'[q]! =d[q+(m-a)]!
 r:∀q,a+(b-m)<=q->q<b->d'[q]! =d[q-(b-m)]!
structure Mid (d:Array α) (a m b i j:Nat) (dk:Array α):Prop where
 perm:PermIn a b d dk
 out:∀d',PermIn a b d d'->(∀q,q<m-i\/m+j<=q->d'[q]! =dk[q]!)->(∀q,m-i<=q->q<m-i+j->d'[q]! =dk[q+i]!)->(∀q,m-i+j<=q->q<m+j->d'[q]! =dk[q-j]!)->Rot d a m b d'
theorem Mid.start (d:Array α) {a m b:Nat} (i:a<=m) (j:m<=b):Mid d a m b (m-a) (b-m) d:=by
 refine⟨permIn_refl _ _ _,fun d' h k c e=>⟨h,fun q f g=>c q za za,fun q f g=>e q za za⟩⟩
structure Swr (d:Array α) (a b n:Nat) (d':Array α):Prop where
 size:d'.size=d.size
 out:∀q,¬(a<=q/\q<a+n)->¬(b<=q/\q<b+n)->d'[q]! =d[q]!
 l:∀q,q<n->d'[a+q]! =d[b+q]!
 r:∀q,q<n->d'[b+q]! =d[a+q]!
 perm:∀lo hi,lo<=a->b+n<=hi->hi<=d.size->PermIn lo hi d d'
theorem Swr.start (d:Array α) (a b:Nat):Swr d a b 0 d:=⟨rfl,fun _ _ _=>rfl,fun q h=>za,fun q h=>za,fun _ _ _ _ _=>permIn_refl _ _ _⟩
theorem Swr.step {d d':Array α} {a b n:Nat} (h:Swr d a b n d') (k:a+n<b) (l:b+n<d.size):Swr d a b (n+1) (swp d' (a+n) (b+n)):=by
 have j:=h.size;refine⟨by rw[size_swp];exact j,fun q c f=> ?_,fun q i=> ?_,fun q i=> ?_,fun lo hi c f g=> ?_⟩
 .rw[swp_other _ _ _ _ za za];exact h.out q za za
 .by_cases e:q=n
  .subst e;rw[swp_left _ _ _ za za];exact h.out _ za za
  .rw[swp_other _ _ _ _ za za];exact h.l q za
 .by_cases e:q=n
  .subst e;rw[swp_right _ _ _ za];exact h.out _ za za
  .rw[swp_other _ _ _ _ za za];exact h.r q za
 .exact permIn_trans _ _ _ _ _ (h.perm lo hi c za g) (swp_permIn _ _ _ _ _ za za za za za)
theorem Mid.more {d dk g:Array α} {a m b i j:Nat} (h:Mid d a m b i j dk) (hi:a<=m-i) (u:i<=m) (p:m+j<=b) (w:b<=d.size) (s:j<i) (e:Swr dk (m-i) m j g):Mid d a m b (i-j) j g:=by
 have x:=h.perm.1;refine⟨permIn_trans _ _ _ _ _ h.perm (e.perm a b hi p za),fun d' r k l n=>h.out d' r (fun q f=> ?_) (fun q o f=> ?_) (fun q o f=> ?_)⟩
 .rw[k q za];exact e.out q za za
 .rw[k q za];have:=e.l (q-(m-i)) za;rw[show m-i+(q-(m-i))=q by omega,show m+(q-(m-i))=q+i by omega]at this;exact this
 .by_cases c:q<m-(i-j)+j
  .rw[l q za c];have:=e.r (q+(i-j)-m) za;rw[show m+(q+(i-j)-m)=q+(i-j)by omega,show m-i+(q+(i-j)-m)=q-j by omega]at this;exact this
  .rw[n q za f];exact e.out (q-j) za za
theorem Mid.less {d dk f:Array α} {a m b i j:Nat} (h:Mid d a m b i j dk) (hi:a<=m-i) (s:i<=m) (w:m+j<=b) (u:b<=d.size) (r:i<j) (e:Swr dk (m-i) (m+j-i) i f):Mid d a m b i (j-i) f:=by
 have x:=h.perm.1;refine⟨permIn_trans _ _ _ _ _ h.perm (e.perm a b hi za za),fun d' p g n o=>h.out d' p (fun q l=> ?_) (fun q k l=> ?_) (fun q k l=> ?_)⟩
 .rw[g q za];exact e.out q za za
 .by_cases c:q<m-i+(j-i)
  .rw[n q k c];exact e.out (q+i) za za
  .rw[o q za za];have:=e.l (q-(j-i)-(m-i)) za;rw[show m-i+(q-(j-i)-(m-i))=q-(j-i)by omega,show m+j-i+(q-(j-i)-(m-i))=q+i by omega]at this;exact this
 .rw[g q za];have:=e.r (q-(m+j-i)) za;rw[show m+j-i+(q-(m+j-i))=q by omega,show m-i+(q-(m+j-i))=q-j by omega]at this;exact this
theorem Mid.last {d dk e:Array α} {a m b i:Nat} (h:Mid d a m b i i dk) (hi:a<=m-i) (k:i<=m) (j:m+i<=b) (l:b<=d.size) (c:Swr dk (m-i) m i e):Rot d a m b e:=by
 have n:=h.perm.1;refine h.out e (permIn_trans _ _ _ _ _ h.perm (c.perm a b hi j za)) (fun q f=>c.out q za za) (fun q g f=> ?_) (fun q g f=> ?_)
 .have:=c.l (q-(m-i)) za;rw[show m-i+(q-(m-i))=q by omega,show m+(q-(m-i))=q+i by omega]at this;exact this
 .have:=c.r (q-m) za;rw[show m+(q-m)=q by omega,show m-i+(q-m)=q-i by omega]at this;exact this
structure Half (t:α->α->Bool) (I:α->Nat) (a s mid e b:Nat) (d:Array α):Prop where
 one:Pre t I a s mid d
 two:Pre t I mid e b d
 le:∀p q,a<=p->p<mid->mid<=q->q<b->t d[q]! d[p]! =yI
theorem half (h:Ord lt t I) {d d':Array α} {a m b s e mid:Nat} (f:Pre t I a m b d) (has:a<=s) (R:s<=m) (N:m<=e) (M:e<=b) (S:b<=d.size) (L:s+e=mid+m)
  (F:a<s->e<b->lt d[e]! d[s-1]! =yI) (G:s<m->m<e->lt d[e-1]! d[s]! =yH) (r:Rot d s m e d'):Half t I a s mid e b d':=by
 have lo:∀p,p<s->d'[p]! =d[p]! :=fun p f=>r.perm.2.1 p (qz f);have hi:∀p,e<=p->d'[p]! =d[p]! :=fun p f=>r.perm.2.1 p (qy f);have u:∀p,s<=p->p<mid->d'[p]! =d[p+(m-s)]! :=fun p l n=>r.l p l za;have o:∀p,mid<=p->p<e->d'[p]! =d[p-(e-m)]! :=fun p l n=>r.r p za n;have K:∀p q,s<=p->p<m->m<=q->q<e->t d[p]! d[q]! =yI:=by
  intro p q l z n P;have w:t d[s]! d[e-1]! =yI:=by
   refine h.swo.asymmA ?_;rw[<-h.ask _ _ (f.i s (e-1) has za za za)];exact G za za
  have x:t d[p]! d[s]! =yI:=by
   by_cases c:p=s
   .subst c;exact h.swo.irrefl _
   .exact f.l s p has za z
  have y:t d[e-1]! d[q]! =yI:=by
   by_cases c:q=e-1
   .subst c;exact h.swo.irrefl _
   .exact f.r q (e-1) n za za
  exact h.swo.ntrans _ _ _ (h.swo.ntrans _ _ _ x w) y
 have H:∀p q,a<=p->p<s->e<=q->q<b->t d[q]! d[p]! =yI:=by
  intro p q l O n B;have w:t d[e]! d[s-1]! =yI:=by
   rw[<-h.ask _ _ (f.i (s-1) e za za za za)];exact F za za
  have x:t d[q]! d[e]! =yI:=by
   by_cases c:q=e
   .subst c;exact h.swo.irrefl _
   .exact f.r e q za za B
  have y:t d[s-1]! d[p]! =yI:=by
   by_cases c:p=s-1
   .subst c;exact h.swo.irrefl _
   .exact f.l p (s-1) l za za
  exact h.swo.ntrans _ _ _ (h.swo.ntrans _ _ _ x w) y
 refine⟨⟨fun p q g j i=> ?_,fun p q g j i=> ?_,fun p q g j i k=> ?_⟩,⟨fun p q g j i=> ?_,fun p q g j i=> ?_,fun p q g j i k=> ?_⟩,fun p q g j i k=> ?_⟩
 .rw[lo p za,lo q i];exact f.l p q g j za
 .rw[u p g za,u q za i];exact f.r _ _ za za za
 .rw[lo p j,u q i k];exact f.i _ _ g za za za
 .rw[o p g za,o q za i];exact f.l _ _ za za za
 .rw[hi p g,hi q za];exact f.r _ _ za j i
 .rw[o p g j,hi q i];exact f.i _ _ za za za k
 .by_cases c1:p<s
  .rw[lo p c1];by_cases c2:q<e
   .rw[o q i c2];exact f.l _ _ g za za
   .rw[hi q za];exact H p q g c1 za k
  .rw[u p za j];by_cases c2:q<e
   .rw[o q i c2];exact K _ _ za za za za
   .rw[hi q za];exact f.r _ _ za za k
theorem Rot.none (d:Array α) {a m b:Nat} (h:a=m\/m=b) (f:a<=m) (g:m<=b):Rot d a m b d:=by
 refine⟨permIn_refl _ _ _,fun q c e=> ?_,fun q c e=> ?_⟩
 .rcases h with h|h
  .rw[show q+(m-a)=q by omega]
  .omega
 .rcases h with h|h
  .omega
  .rw[show q-(b-m)=q by omega]
theorem Pre.done {a m b:Nat} {d:Array α} (h:Pre t I a m b d) (e:m<=a\/b<=m):SortedIn t a b d:=by
 intro p q f c g;rcases e with e|e
 .exact h.r p q za c g
 .exact h.l p q f c za
theorem Half.first {a s mid e b:Nat} {d d':Array α} (h:Half t I a s mid e b d) (w:b<=d.size) (o:a<=mid) (r:mid<=b) (u:mid<=e) (j:PermIn a mid d d'):Pre t I mid e b d'/\∀p q,a<=p->p<mid->mid<=q->q<b->t d'[q]! d'[p]! =yI:=by
 have hi:∀p,mid<=p->d'[p]! =d[p]! :=fun p n=>j.2.1 p (qy n);refine⟨⟨fun p q c g f=> ?_,fun p q c g f=> ?_,fun p q c g f i=> ?_⟩,fun p q c g f i=> ?_⟩
 .rw[hi p c,hi q za];exact h.two.l p q c g f
 .rw[hi p za,hi q za];exact h.two.r p q c g f
 .rw[hi p c,hi q za];exact h.two.i p q c g f i
 .rw[hi q f];exact permIn_all d d' a mid (fun x=>t d[q]! x=yI) za j (fun k l m=>h.le k q l m f i) p c g
theorem both {a mid b:Nat} {d d':Array α} (n:b<=d.size) (r:a<=mid) (s:mid<=b) (i:SortedIn t a mid d) (h:∀p q,a<=p->p<mid->mid<=q->q<b->t d[q]! d[p]! =yI) (g:PermIn mid b d d') (j:SortedIn t mid b d'):SortedIn t a b d':=by
 have lo:∀p,p<mid->d'[p]! =d[p]! :=fun p o=>g.2.1 p (qz o);intro p q c e f;by_cases c1:q<mid
 .rw[lo q c1,lo p za];exact i p q c e c1
 .by_cases c2:p<mid
  .rw[lo p c2];exact permIn_all d d' mid b (fun x=>t x d[p]! =yI) n g (fun k l m=>h p k c c2 l m) q za f
  .exact j p q za e f
def Mul (s c:Nat):Prop:=∃k,c=k*s
theorem Mul.zero (s:Nat):Mul s 0:=⟨0,zm⟩
theorem Mul.next {s c:Nat} (h:Mul s c):Mul s (c+s):=by obtain⟨k,rfl⟩:=h;exact⟨k+1,by rw[qQu,qRn]⟩
theorem Mul.two {s c:Nat} (h:Mul (2*s) c):Mul s c:=by obtain⟨k,rfl⟩:=h;exact⟨k*2,by rw[qTf]⟩
theorem Mul.far {s c a:Nat} (h:Mul s c) (g:Mul s a) (b:c≠a):c+s<=a\/a+s<=c:=by
 obtain⟨k,rfl⟩:=h;obtain⟨l,rfl⟩:=g;rcases qP8 k l with h|h
 .left;have:=qRp s h;rw[Nat.succ_mul]at this;omega
 .rcases qP8 l k with h|h
  .right;have:=qRp s h;rw[Nat.succ_mul]at this;omega
  .exact absurd (by rw[show k=l by omega]) b
def Blk (t:α->α->Bool) (n s lo hi:Nat) (d:Array α):Prop:=∀c,Mul s c->lo<=c->c<hi->SortedIn t c (min (c+s) n) d
def Fst (I:α->Nat) (n s:Nat) (d:Array α):Prop:=∀c,Mul s c->∀p q,p<c->c<=q->q<n->I d[p]! <I d[q]!
theorem Fst.two {n s:Nat} {d:Array α} (h:Fst I n s d):Fst I n (2*s) d:=fun c a=>h c a.two
theorem Fst.perm {n s a b:Nat} {d d':Array α} (h:Fst I n s d) (w:Mul s a) (y:a<=b) (B:b<=a+s) (z:b<=n) (F:n<=d.size) (e:PermIn a b d d'):Fst I n s d':=by
 intro c f p q g i j;have m:b<=d.size:=za
 rcases qP8 a c with o|o
 .have l:a+s<=c:=by rcases f.far w za with l|l<;>omega
  rw[e.2.1 q (qy za)];by_cases c1:a<=p/\p<b
  .exact permIn_all d d' a b (fun x=>I x<I d[q]!) m e (fun k r u=>h c f k q za i j) p c1.1 c1.2
  .rw[e.2.1 p za];exact h c f p q g i j
 .rw[e.2.1 p (qz za)];by_cases c1:a<=q/\q<b
  .exact permIn_all d d' a b (fun x=>I d[p]! <I x) m e (fun k r u=>h c f p k g za za) q c1.1 c1.2
  .rw[e.2.1 q za];exact h c f p q g i j
theorem SortedIn.keep {a b:Nat} {d d':Array α} (h:SortedIn t a b d) (e:∀p,a<=p->p<b->d'[p]! =d[p]!):SortedIn t a b d':=by
 intro p q c g f;rw[e p c za,e q za f];exact h p q c g f
theorem Blk.more {n s a b:Nat} {d d':Array α} (h:Blk t n s 0 a d) (j:Mul s a) (r:0<s) (k:b=min (a+s) n) (l:PermIn a b d d') (hd:SortedIn t a b d'):Blk t n s 0 (a+s) d':=by
 intro c g i m;by_cases e:c=a
 .subst e;rw[<-k];exact hd
 .have o:c+s<=a:=by rcases g.far j e with f|f<;>omega
  exact SortedIn.keep (h c g i za) (fun p q f=>l.2.1 p (qz za))
structure Lev (t:α->α->Bool) (I:α->Nat) (n s a:Nat) (d:Array α):Prop where
 mul:Mul (2*s) a
 fst:Fst I n (2*s) d
 fst1:∀c,Mul s c->∀p q,a<=p->p<c->c<=q->q<n->I d[p]! <I d[q]!
 two:Blk t n (2*s) 0 a d
 one:Blk t n s a n d
theorem Lev.start {n s:Nat} {d:Array α} (a:Fst I n s d) (e:Blk t n s 0 n d):Lev t I n s 0 d:=
 ⟨Mul.zero _,a.two,fun c b p q _ f g i=>a c b p q f g i,fun c b _ h=>za,e⟩
theorem Lev.pre {n s a b:Nat} {d:Array α} (h:Lev t I n s a d) (m:b=min (a+2*s) n) (o:a+s<=b) (r:0<s) (g:a+s<n):Pre t I a (a+s) b d:=by
 have c:=h.mul.two;have e:=h.one a c (qPq _) za;have f:=h.one (a+s) c.next za g
 rw[show min (a+s) n=a+s by omega]at e;rw[show min (a+s+s) n=b by omega]at f;exact⟨e,f,fun p q i j k l=>h.fst1 (a+s) c.next p q i j k za⟩
theorem Lev.more {n s a b:Nat} {d d':Array α} (h:Lev t I n s a d) (m:b=min (a+2*s) n) (j:a<=b) (u:0<s) (o:n<=d.size) (e:PermIn a b d d') (hd:SortedIn t a b d'):Lev t I n s (a+2*s) d':=by
 refine⟨h.mul.next,h.fst.perm h.mul j za za o e,fun c g p q k f l i=> ?_,h.two.more h.mul za m e hd,fun c g k f=> ?_⟩
 .rw[e.2.1 p (qy za),e.2.1 q (qy za)];exact h.fst1 c g p q za f l i
 .exact SortedIn.keep (h.one c g za f) (fun p i r=>e.2.1 p (qy za))
theorem Lev.tail {n s a:Nat} {d:Array α} (h:Lev t I n s a d) (u:0<s) (r:n<=a+s):Lev t I n s (a+2*s) d:=by
 refine⟨h.mul.next,h.fst,fun c b p q f g k l=>za,fun c b f g=> ?_,fun c b f g=>za⟩;by_cases e:c=a
 .subst e;by_cases j:c<n
  .have:=h.one c h.mul.two (qPq _) j;rw[show min (c+s) n=n by omega]at this;rw[show min (c+2*s) n=n by omega];exact this
  .intro p q i m o;omega
 .have k:c+2*s<=a:=by rcases b.far h.mul e with i|i<;>omega
  exact h.two c b f za
theorem Lev.end_ {n s a:Nat} {d:Array α} (h:Lev t I n s a d) (g:n<=a):Fst I n (2*s) d/\Blk t n (2*s) 0 n d:=⟨h.fst,fun c e b f=>h.two c e b za⟩
theorem Blk.all {n s:Nat} {d:Array α} (h:Blk t n s 0 n d) (f:n<=s):SortedIn t 0 n d:=by
 by_cases a:0<n
 .have:=h 0 (Mul.zero _) (qPq _) a;rw[show min (0+s) n=n by omega]at this;exact this
 .intro p q b c e;omega
end St
namespace Bt
def mk8 (f:Nat->Bool):Nat:=(f 0).toNat*128+(f 1).toNat*64+(f 2).toNat*32+(f 3).toNat*16+(f 4).toNat*8+(f 5).toNat*4+(f 6).toNat*2+(f 7).toNat
theorem qFo (f:Nat->Bool):mk8 f<256:=by
 unfold mk8;have:∀b:Bool,b.toNat<=1:=qW
 have a:=this (f 0);have c:=this (f 1);have d:=this (f 2);have e:=this (f 3);have g:=this (f 4);have h:=this (f 5);have i:=this (f 6);have j:=this (f 7);omega
theorem zDv {f g:Nat->Bool} (h:∀j,j<8->f j=g j):mk8 f=mk8 g:=by
 unfold mk8;rw[h 0 za,h 1 za,h 2 za,h 3 za,h 4 za,h 5 za,h 6 za,h 7 za]
def zNi (a b c d e f g h:Bool):Nat:=a.toNat*128+b.toNat*64+c.toNat*32+d.toNat*16+e.toNat*8+f.toNat*4+g.toNat*2+h.toNat
def zU0 (a b c d e f g h:Bool):Nat->Bool
 |0=>a|1=>b|2=>c|3=>d|4=>e|5=>f|6=>g|7=>h|_=>false
theorem zXf (f:Nat->Bool):mk8 f=zNi (f 0) (f 1) (f 2) (f 3) (f 4) (f 5) (f 6) (f 7):=rfl
def zVm (x j:Nat):Bool:=x/2^(7-j)%2==1
theorem zVl:∀a b c d e f g h:Bool,∀j:Fin 8,zVm (zNi a b c d e f g h) j.val=zU0 a b c d e f g h j.val:=by decide+kernel
theorem qBi (f:Nat->Bool) (j:Nat) (a:j<8):zVm (mk8 f) j=f j:=by
 rw[zXf,zVl _ _ _ _ _ _ _ _ ⟨j,a⟩]
 match j,a with
 |0,_=>rfl
 |1,_=>rfl
 |2,_=>rfl
 |3,_=>rfl
 |4,_=>rfl
 |5,_=>rfl
 |6,_=>rfl
 |7,_=>rfl
def zCa (l:List Bool) (k:Nat):Nat:=mk8 fun j=>l.getD (k*8+j) yI
theorem zEo (l:List Bool) (k:Nat):zCa l k<256:=qFo _
def zA2 (n:Nat):Nat:=(n+7)/8
def pkL (l:List Bool):List UInt8:=(yO (zA2 (kN l))).map fun k=>UInt8.ofNat (zCa l k)
def pk (l:List Bool):ByteArray:=⟨(pkL l).toArray⟩
theorem zFe (l:List Bool):kN (pkL l)=zA2 (kN l):=by simp[pkL]
theorem zDu (l:List Bool):(pk l).size=zA2 (kN l):=by
 show(pkL l).toArray.size=_;rw[qQ2,zFe]
theorem ofNat_toNat {n:Nat} (h:n<256):(UInt8.ofNat n).toNat=n:=by
 rw[UInt8.toNat_ofNat',qRh h]
theorem zFz (l:List Bool) (k:Nat) (a:k<zA2 (kN l)):(pkL l)[k]? =yA (UInt8.ofNat (zCa l k)):=by
 simp[pkL,a]
def zBm (s:ByteArray) (i:Nat):Bool:=zVm (s.data.getD (i/8) 0).toNat (i%8)
theorem zGo (l:List Bool) (i:Nat) (hi:i<8*(pk l).size):zBm (pk l) i=l.getD i yI:=by
 rw[zDu]at hi;have a:i/8<zA2 (kN l):=za
 unfold zBm;have h:(pk l).data.getD (i/8) 0=UInt8.ofNat (zCa l (i/8)):=by
  show(pkL l).toArray.getD (i/8) 0=_;rw[qUa,List.getElem?_toArray,zFz l _ a];rfl
 rw[h,ofNat_toNat (zEo _ _)];unfold zCa;rw[qBi _ _ (qRf _ za)];rw[show i/8*8+i%8=i by omega]
theorem zF5 (l:List Bool) (b:Bool) (i:Nat) (h:i<kN l):(l++[b]).getD i yI=l.getD i yI:=by
 simp[qPz,qR7 h]
theorem zI3 (l:List Bool) (b:Bool):(l++[b]).getD (kN l) yI=b:=by
 simp[qPz]
theorem zDe (l:List Bool) (i:Nat) (h:kN l<=i):l.getD i yI=yI:=by
 simp[qPz,qQq h]
theorem zMk (l:List Bool) (i:Nat):(l++[yI]).getD i yI=l.getD i yI:=by
 rcases qTq i (kN l) with h|h|h
 .exact zF5 _ _ _ h
 .rw[h,zI3,zDe _ _ (qPq _)]
 .rw[zDe _ _ zq,zDe _ _ za]
theorem zCr (l:List Bool) (k:Nat):zCa (l++[yI]) k=zCa l k:=zDv fun j _=>zMk l _
theorem zW6 (l:List Bool):pkL (l++[yI])=if kN l%8=0 then pkL l++[0]else pkL l:=by
 unfold pkL;rw[qP0,qR8];simp only[zCr];split
 .rename_i h
  have e:zA2 (kN l+1)=zA2 (kN l)+1:=by unfold zA2;omega
  rw[e,qQw,qQb];congr 1;have a:zCa l (zA2 (kN l))=0:=by
   have:zCa l (zA2 (kN l))=mk8 fun _=>yI:=zDv fun j b=>zDe _ _ (by unfold zA2;omega);rw[this];rfl
  simp[a]
 .rename_i h
  have e:zA2 (kN l+1)=zA2 (kN l):=by unfold zA2;omega
  rw[e]
theorem zZ8:∀a b c d e f g h:Bool,∀j:Fin 8,zU0 a b c d e f g h j.val=yI->(zNi a b c d e f g h)|||(128>>>j.val)=mk8 (fun i=>if i=j.val then yH else zU0 a b c d e f g h i):=by decide+kernel
theorem qFn (f:Nat->Bool) (r:Nat) (a:r<8) (h:f r=yI):mk8 f|||(128>>>r)=mk8 (fun i=>if i=r then yH else f i):=by
 have e:∀i,i<8->zU0 (f 0) (f 1) (f 2) (f 3) (f 4) (f 5) (f 6) (f 7) i=f i:=by
  intro i hi
  match i,hi with
  |0,_=>rfl
  |1,_=>rfl
  |2,_=>rfl
  |3,_=>rfl
  |4,_=>rfl
  |5,_=>rfl
  |6,_=>rfl
  |7,_=>rfl
 rw[zXf,zZ8 _ _ _ _ _ _ _ _ ⟨r,a⟩ (by rw[e r a];exact h)];refine zDv fun i hi=> ?_;simp only;split
 .rfl
 .exact e i hi
theorem zZy (l:List Bool):pkL (l++[yH])=(pkL (l++[yI])).set (kN l/8) (UInt8.ofNat (zCa l (kN l/8)|||(128>>>(kN l%8)))):=by
 apply qRt;intro k;have g:zA2 (kN l+1)=kN l/8+1:=by unfold zA2;omega
 rw[qSu];have d:∀b,kN (pkL (l++[b]))=kN l/8+1:=by intro b;rw[zFe,qP0,qR8,g]
 rcases qP8 k (kN l/8+1)with c|c
 .have a:∀b,k<zA2 (kN (l++[b])):=by intro b;rw[qP0,qR8,g];exact c
  rw[zFz _ _ (a yH),zFz _ _ (a yI),d];by_cases e:kN l/8=k
  .subst e;rw[qPr rfl,qPr c];congr 2;unfold zCa;rw[qFn (fun j=>l.getD (kN l/8*8+j) yI) (kN l%8) (qRf _ za) (zDe _ _ za)];refine zDv fun j i=> ?_;by_cases f:j=kN l%8
   .subst f;rw[show kN l/8*8+kN l%8=kN l by omega,zI3];simp
   .simp only[f,if_false];rcases qP8 (kN l/8*8+j) (kN l) with h|h
    .exact zF5 _ _ _ h
    .rw[zDe _ _ h,zDe _ _ zq]
  .rw[qPt e,zCr];congr 2;refine zDv fun j i=>zF5 _ _ _ za
 .rw[qQq (by rw[d];exact c),d];rw[qPt za,qQq (by rw[d];exact c)]
def num (v n:Nat):List Bool:=(yO n).map fun i=>v.testBit (n-1-i)
theorem zAc (v n:Nat):kN (num v n)=n:=by simp[num]
def val (l:List Bool):Nat:=l.foldl (fun a b=>a*2+b.toNat) 0
theorem zEh (l:List Bool) (b:Bool):val (l++[b])=val l*2+b.toNat:=by simp[val]
theorem zJg:∀(l:List Bool) (a:Nat),l.foldl (fun a b=>a*2+b.toNat) a=a*2^kN l+val l
 |[],a=>by simp[val]
 |b::l,a=>by
  have h:val (b::l)=(0*2+b.toNat)*2^kN l+val l:=by rw[<-zJg l (0*2+b.toNat)];rfl
  rw[qTp,zJg l (a*2+b.toNat),h,qP4,qRq,qQu];simp[qTf,qRo,qR3]
theorem zKx (b:Bool) (l:List Bool):val (b::l)=b.toNat*2^kN l+val l:=by
 rw[val,qTp,zJg];simp
theorem val_append (l m:List Bool):val (l++m)=val l*2^kN m+val m:=by
 rw[val,qTh,zJg];rfl
theorem zEy:∀l:List Bool,val l<2^kN l
 |[]=>by simp[val]
 |b::l=>by
  have a:=zEy l;rw[zKx,qP4,qRq];cases b
  .simp;omega
  .simp;omega
theorem qAb (v n:Nat):num v (n+1)=num (v/2) n++[v.testBit 0]:=by
 unfold num;rw[qQw,qQb];congr 1
 .refine qRy fun i hi=> ?_;have:=qQn.1 hi;rw[Nat.testBit_div_two];congr 1;omega
 .simp
theorem zT (v n:Nat):val (num v n)=v%2^n:=by
 induction n generalizing v with
 |zero=>simp[num,val,Nat.mod_one]
 |succ n ih=>
  rw[qAb,zEh,ih,Nat.testBit_zero];have h:(yJ (v%2=1)).toNat=v%2:=by
   rcases qU v with h|h<;>simp[h]
  rw[h,qRq];have a:=Nat.div_add_mod v 2;have b:=Nat.mod_mul_right_div_self;rw[qRo (2^n) 2,Nat.mod_mul];omega
end Bt
namespace Bt
theorem zBw {k:IntKind} {a b:Int} (h:a=b):Ending.returned (qX k a)=qx (qX k b):=by rw[h]
@[irreducible] def bv (b:Bool):Int:=if b then 128 else 0
theorem zNw:bv yH=128:=by unfold bv;rfl
theorem zRv:bv yI=0:=by unfold bv;rfl
theorem qCg (b:Bool):(bv b !=0)=b:=by cases b<;>simp[zNw,zRv]
theorem zNz:∀x:Fin 256,∀k:Fin 8,bits .and qo ((x.val:Int)*2^k.val%256) 128=if zVm x.val k.val then 128 else 0:=by decide+kernel
theorem zRf (s:ByteArray) (k:Nat) (h:k<s.size):s.data.getD k 0=s[k]:=by
 rw[qUa];have a:k<s.data.size:=h;rw[qT3 a];rfl
theorem qEe (s:ByteArray) (i:Nat) (h:i/8<s.size):bits .and qo ((s[i/8].toNat:Int)*2^(i%8)%256) 128=bv (zBm s i):=by
 have a:=zNz ⟨s[i/8].toNat,qTi _⟩ ⟨i%8,qRf _ za⟩;rw[a];unfold zBm bv;rw[zRf s _ h]
theorem zNy (s:ByteArray) (i:Nat) (hi:i<8*s.size) (f:s.size<=1000000000) (w:yC):
  yG yK 104 #[qY s,i] w fun e w'=>e=qx (qX qo (bv (zBm s i)))/\w=w':=by
 have a:i/8<s.size:=za
 have b:(i:Int).tdiv 8=((i/8:Nat):Int):=rfl;have c:(i:Int).tmod 8=((i%8:Nat):Int):=rfl;have d:i%8<8:=qRf _ za;have HB:=zH (qEe s i a);go_enter func104,ntmps104;go_wp2;go_ret;exact⟨zBw HB.out,rfl⟩
theorem qGf (s:ByteArray) (a:Int) (i:Nat) (e:a=(i:Int)) (hi:i<8*s.size) (b:s.size<=1000000000) (w:yC):
  yG yK 104 #[qY s,qX qm a] w fun e w'=>e=qx (qX qo (bv (zBm s i)))/\w=w':=by
 subst e;exact zNy s i hi b w
abbrev zAe (l:List Bool):yD:= .agg #[qY (pk l),qX qm (kN l:Int)]
theorem zGf (l:List Bool) (F:kN l<=1000000) (w:yC):
  yG yK 156 #[zAe l] w fun e w'=>e=qx (qh yH)/\yM w w w':=by
 obtain⟨n,p⟩:=zB (kN l);obtain⟨d,hd⟩:=zB (pk l);have b:d.size=zA2 n:=by rw[<-hd,<-p,zDu]
 have s:∀i,n<=i->i<8*d.size->zBm d i=yI:=by
  intro i H t;rw[<-hd]at t⊢;rw[zGo l i t,zDe l i za]
 have y:=zH s;unfold zAe;rw[p,hd];rw[p]at F;unfold zA2 at b;have h:d.size<=1000000000:=za
 have c:((n:Int)%8=0/\((d.size:Int)!=(n:Int)/8)=yI)\/((n:Int)%8=1/\((d.size:Int)!=(n:Int)/8+1)=yI)\/((1<(n:Int)%8)/\((d.size:Int)!=(n:Int)/8+1)=yI):=by
  simp only[bne_eq_false_iff_eq];omega
 have k:=zH b;clear s b hd p;obtain⟨o,a⟩:=zB (w.alloc (qp #[qY d,n] 51));have x:yM w w o:=by rw[<-a];exact(yR _ _).alloc (qPq _) _
 obtain⟨B,u⟩:=zB w.heap.size;have c0:o.cell? ⟨B,0,yB⟩=yA (qY d):=by rw[<-a,<-u];simp
 have c1:o.cell? ⟨B,1,yB⟩=yA (qX qm (n:Int)):=by rw[<-a,<-u];simp
 have HB:=zH x;clear x;rcases c with⟨q,r⟩|⟨q,r⟩|⟨q,r⟩
 all_goals
  go_enter func156,ntmps156;go_wp2;clear q r;go_loopw [3] (fun i wr=>∃j:Nat,n<=j/\j<=8*d.size/\i=qX qm j/\o=wr) (fun i _=>8*d.size-(intOf i).toNat)
  case atStart=>exact⟨n,qPq _,by have:=k.out;omega,rfl,by first|rfl|exact a.symm⟩
  case round=>
   obtain⟨j,m,I,rfl,G⟩:=hrel;subst G;by_cases f:j<8*d.size
   .obtain⟨z,g⟩:=yU (y.out j m f) (zNy d j f h);go_wp2_with fail;(with_reducible refine(g.out _).mono ?_);rintro e w2 ⟨rfl,rfl⟩;have K:(bv (zBm d j)!=0)=yI:=by rw[z.out];exact qCg yI
    go_wp2;go_roundw
    case rel=>exact⟨j+1,za,za,by go_num,trivial⟩
    case measure=>exact qV
   .go_wp2;go_ret;exact⟨rfl,HB.out⟩
def take (s:ByteArray) (i n:Nat):List Bool:=(yO n).map fun j=>zBm s (i+j)
theorem take_length (s:ByteArray) (i n:Nat):kN (take s i n)=n:=by simp[take]
theorem zEz (s:ByteArray) (i n:Nat):take s i (n+1)=take s i n++[zBm s (i+n)]:=by
 unfold take;rw[qQw,qQb];rfl
theorem or_bit (v:Nat) (hv:v<9223372036854775808) (b:Bool):bits .or .u64 (IntKind.u64.wrap ((v:Int)*2)) (IntKind.u64.wrap (bv b/128))=((v*2+b.toNat:Nat):Int):=by
 have a:IntKind.u64.wrap ((v:Int)*2)=((v*2:Nat):Int):=by rw[qSh _ ⟨za,za⟩];omega
 have c:IntKind.u64.wrap (bv b/128)=((b.toNat:Nat):Int):=by cases b<;>simp[zNw,zRv]<;>exact qSh _ ⟨za,za⟩
 rw[a,c,u64_or_nat _ _ za (by cases b<;>simp)];congr 1;cases b
 .simp
 .show v*2|||1=v*2+1
  apply Nat.eq_of_testBit_eq;intro i;cases i with
  |zero=>simp[Nat.testBit_zero]
  |succ i=>rw[qR6,Nat.testBit_succ,Nat.testBit_succ,Nat.testBit_succ];simp;congr 1;omega
theorem zB7 (s:ByteArray) (i n:Nat) (q:n<=64) (hi:i+n<=8*s.size) (l:s.size<=1000000000) (w:yC):
  yG yK 32 #[qY s,i,n] w fun e w'=>e=qx (qg #[qX .u64 (val (take s i n):Nat),qX qm 0])/\w=w':=by
 have c:decide ((n:Int)<0)=yI:=qP1 za;have d:decide ((64:Int)<(n:Int))=yI:=qP1 za;have f:decide ((i:Int)<0)=yI:=qP1 za;have g:decide (8*(s.size:Int)-(n:Int)<(i:Int))=yI:=qP1 za;go_enter func32,ntmps32;go_wp2;clear c d f g;go_loopw [6,29] (fun v k wr=>∃j:Nat,j<=n/\k=qX qm j/\v=qX .u64 (val (take s i j):Nat)/\w=wr) (fun _ k _=>n-(intOf k).toNat)
 case atStart=>exact⟨0,za,rfl,rfl,rfl⟩
 case round=>
  obtain⟨j,p,rfl,rfl,m⟩:=hrel;subst m;by_cases o:j<n
  .have a:=zH (qGf s ((i:Int)+(j:Int)) (i+j) za za l);go_wp2_with fail;(with_reducible refine(a.out _).mono ?_);rintro e w2 ⟨rfl,rfl⟩;have hv:val (take s i j)<9223372036854775808:=by
    have h:=zEy (take s i j);rw[take_length]at h;exact qQx h (qP2 (qR9 za (show j<=63 by omega)) qW)
   have b:=zH (or_bit _ hv (zBm s (i+j)));clear hv;go_wp2;go_roundw
   case rel=>exact⟨j+1,za,by go_num,by rw[b.out,zEz,zEh],trivial⟩
   case measure=>exact qV
  .obtain rfl:n=j:=za
   go_wp2;go_ret2;exact⟨rfl,rfl⟩
end Bt
namespace Kit
structure Cls (w:yC) where
 til:yC
 below:yM w w til
instance (w:World):Nonempty (Cls w):=⟨⟨w,Below.refl _ _⟩⟩
def zAe (x:UInt8):yD:=qX qo (x.toNat:Int)
theorem zG (l:List UInt8):∀u∈l.map zAe,u.oneCell'=yH:=by
 intro u a;obtain⟨x,_,rfl⟩:=qQg.1 a;rfl
theorem Src.text {P:Program} {w:yC} {a:Option yF} {l:List UInt8} {n c:Nat} {src dst e:yE} (h:Src w a (l.map zAe)) (p:kN l=n)
  (i:P.underlying src=yA (.slice e)) (g:P.underlying e=yA (.int qo)) (hd:P.underlying dst=yA .string):
  (convert src dst (qZ a n c)).run P w= .ok (qY ⟨l.toArray⟩) w:=by
 subst p;cases a with
 |none=>
  have o:l=[]:=by
   cases l with
   |nil=>rfl
   |cons x l=>obtain⟨b,d,f,_⟩:=h 0 (zAe x) rfl;cases f
  subst o;rw[run_convert_bytes_string w src dst e _ _ _ i g hd];simp[Conv.bytesToString];rfl
 |some y=>
  refine run_convert_bytes_back w src dst e y c l i g hd ?_;intro j m;obtain⟨b,d,f,k⟩:=h j (zAe l[j]) (by rw[qP3,qPu m];rfl);injection f with f
  subst f;rw[addr_add];exact k
end Kit
namespace Bt
variable {w w' U:yC} {B i n c R g:Nat} {u t e:yE} {v x:yD} {a:Option yF} {l:List Bool} {xs:List yD} {y:Operand} {P:Program} {ρ:Operand->yD} {o:Oper}
abbrev TB:yE:=5
abbrev TW:yE:=262
theorem zNh:Kit.One yK 109 TB 1:=⟨underlying109,qX qo 0,zf,rfl⟩
theorem setBlock {u:yD} (i:Nat) (h:w.heap[B]? =yA (qp #[u,v] t)):(w.setCell ⟨B,i,yB⟩ x).heap[B]? =yA (qp (#[u,v].setIfInBounds i x) t):=by
 simp[World.setCell,qQt,h]
theorem zAa {k:Nat} (h:k≠B):(w.setCell ⟨B,i,yB⟩ x).heap[k]? =w.heap[k]? :=by
 have b:B≠k:=fun e=>h e.symm;simp[World.setCell,qQt,b]
theorem zB1 (w:yC) (r i:Nat) (u:yD):w.grownBy (w.setCell ⟨r,i,yB⟩ u) (yA r):=
 ⟨rfl,rfl,rfl,zm,fun k b hne=>zAa (fun e=>hne (by rw[e]))⟩
theorem zD4 {r:Nat} {l:List yD} (h:Kit.Own w B e a n c l) (b:r<B) (u:yD):Kit.Own (w.setCell ⟨r,i,yB⟩ u) B e a n c l:=
 qRz h (zB1 w r i u) (qy fun e=>by have:=h.block r e;omega)
theorem zAf {u:yD} (h:w.heap[B]? =yA (qp #[u,v] t)):w.cell? ⟨B,0,yB⟩=yA u/\w.cell? ⟨B,1,yB⟩=yA v/\w.frozen? ⟨B,0,yB⟩=yI/\w.frozen? ⟨B,1,yB⟩=yI:=by
 refine⟨by simp[yQ,h],by simp[yQ,h],by simp[World.frozen?,h],by simp[World.frozen?,h]⟩
structure Wr (w:yC) (R:Nat) (a:Option yF) (c:Nat) (l:List Bool):Prop where
 blk:w.heap[R]? =yA (qp #[qZ a (kN (pkL l)) c,qX qm (kN l:Int)] TW)
 own:Kit.Own w (R+1) TB a (kN (pkL l)) c ((pkL l).map Kit.zAe)
theorem Wr.lt (h:Wr w R a c l):R<w.heap.size:=by
 rcases qP8 R w.heap.size with d|b
 .exact d
 .have:=h.blk;rw[qRk b]at this;cases this
structure Step (w w':yC) (R:Nat):Prop where
 old:∀k,k<w.heap.size->k≠R->(∀cs f,w.heap[k]?≠yA (qp cs TB f))->w'.heap[k]? =w.heap[k]?
 below:yM R w w'
theorem Step.refl (w:yC) (R:Nat):Step w w R:=⟨fun k _ _ _=>rfl,yR _ _⟩
theorem Step.trans {b:yC} (h:Step w w' R) (g:Step w' b R):Step w b R:=by
 refine⟨fun k d j m=> ?_,h.below.trans g.below⟩;have p:=h.old k d j m;rw[g.old k (qQx d h.below.size) j (fun q f=>by rw[p];exact m q f),p]
theorem Step.drew (h:Step w w' R):Step w w'.drew R:=⟨h.old,h.below.drew⟩
theorem zA (w:yC) (o:Obj):(w.alloc o).heap.size=w.heap.size+1:=by show(w.heap.push o).size=_;simp
theorem zLa (h:Kit.Own w B e (yA ⟨g,0,yB⟩) n c xs):∃b f,w.heap[g]? =yA (qp b e f):=by
 rcases h.2 with⟨d,_⟩|⟨g',k,m,hv,_,j,_⟩
 .cases d
 .injection hv with hv
  injection hv with hv
  injection hv with hv
  subst hv;exact⟨_,_,j⟩
theorem zZ7 (h:Kit.Own w B e a n c xs):∀k,a.map Addr.block=yA k->∃j f,w.heap[k]? =yA (qp j e f):=by
 intro k b;rcases h.2 with⟨d,_⟩|⟨g',p,q,hv,_,m,_⟩
 .injection d with d
  subst d;cases b
 .injection hv with hv
  subst hv;injection b with b
  have b:g'=k:=b;subst b;exact⟨_,_,m⟩
theorem zGj (h:Kit.Own w B e a n c xs):(Value.slice a n c).ownBlock=a.map Addr.block:=by
 cases a<;>rfl
theorem zTg:∀r:Fin 8,∀x:Fin 256,bits .or qo (x.val:Int) (128/2^r.val)=((x.val|||(128>>>r.val):Nat):Int):=by decide+kernel
structure Mid (U:yC) (R:Nat) (a:Option yF) (c:Nat) (l:List Bool):Prop where
 blk:U.heap[R]? =yA (qp #[qZ a (kN l/8+1) c,qX qm (kN l:Int)] TW)
 own:Kit.Own U (R+1) TB a (kN l/8+1) c ((pkL (l++[yI])).map Kit.zAe)
theorem zGd (l:List Bool) (b:Bool):kN (pkL (l++[b]))=kN l/8+1:=by
 rw[zFe,qP0,qR8];unfold zA2;omega
theorem zQ8 (l:List Bool) (b:Bool):(kN (l++[b]):Int)=(kN l:Int)+1:=by rw[qP0];simp
theorem Mid.zero (h:Mid U R a c l):Wr (U.setCell ⟨R,1,yB⟩ (qX qm ((kN l:Int)+1))) R a c (l++[yI]):=by
 refine⟨?_,?_⟩
 .rw[setBlock 1 h.blk,zGd,zQ8];rfl
 .rw[zGd];exact zD4 h.own (qQ8 _) _
theorem Mid.one (h:Mid U R (yA ⟨g,0,yB⟩) c l) (x:Int) (j:x=((zCa l (kN l/8)|||(128>>>(kN l%8)):Nat):Int)):
  Wr ((U.setCell ⟨g,kN l/8,yB⟩ (qX qo x)).setCell ⟨R,1,yB⟩ (qX qm ((kN l:Int)+1))) R (yA ⟨g,0,yB⟩) c (l++[yH]):=by
 obtain⟨g',b,k,_,_,_,_⟩:=h.own.at_ (Nat.succ_pos _);injection b with b
 injection b with b
 subst b;refine⟨?_,?_⟩
 .rw[setBlock 1 (u:=qZ (yA ⟨g,0,yB⟩) (kN l/8+1) c) (v:=qX qm (kN l:Int)) (t:=TW) (by rw[zAa za];exact h.blk),zGd,zQ8];rfl
 .rw[zGd];refine zD4 ?_ (qQ8 _) _;have d:=h.own.set (kN l/8) (qX qo x) (qQ8 _);rw[zZy,List.map_set];have e:Kit.zAe (UInt8.ofNat (zCa l (kN l/8)|||(128>>>(kN l%8))))=qX qo x:=by
   unfold Kit.zAe;rw[ofNat_toNat,j];have:=zEo l (kN l/8);have f:128>>>(kN l%8)<256:=by rw[qT4];exact Nat.lt_of_le_of_lt (Nat.div_le_self _ _) za
   exact Nat.or_lt_two_pow (n:=8) this f
  rw[e];exact d
theorem Step.one {y:yD} (h:Kit.Own U B TB (yA ⟨g,0,yB⟩) n c xs) (q:R<g):Step U ((U.setCell ⟨g,i,yB⟩ x).setCell ⟨R,1,yB⟩ y) R:=by
 refine⟨fun k p j b=> ?_,((yR R U).setCell (by show R<=g;omega) _).setCell (qPq _) _⟩;rw[zAa j,zAa (fun e=>by
  obtain⟨d,f,m⟩:=zLa h;rw[e]at b;exact b d f m)]
theorem Step.zero {y:yD}:Step U (U.setCell ⟨R,1,yB⟩ y) R:=
 ⟨fun k d b f=>zAa b,(yR R U).setCell (qPq _) _⟩
theorem Wr.drew (h:Wr U R a c l):Wr U.drew R a c l:=⟨h.blk,h.own⟩
theorem Mid.drew (h:Mid U R a c l):Mid U.drew R a c l:=⟨h.blk,h.own⟩
theorem qO7 {x:Operand} (b:o.op= .binOp .rem t x y u) (d:ρ x=qX qm (n:Int)) (f:ρ y=qX qm 8) (j:n<=1000000) (w:yC):(execOp ρ o).run P w= .ok (.value (qX qm ((n%8:Nat):Int))) w:=by
 have h:Int.tmod (n:Int) 8=((n%8:Nat):Int):=by rw[qS5 za];rfl
 unfold execOp;simp[b,d,f,go_sem,h]
theorem qO8 {x:Operand} (f:o.op= .binOp .shr t x y u) (h:ρ x=qX qo 128) (j:ρ y=qX qm ((n%8:Nat):Int)) (w:yC):(execOp ρ o).run P w= .ok (.value (qX qo (128/2^(n%8)))) w:=by
 have b:(0:Int)<=(n:Int)%8:=za
 have d:((n:Int)%8).toNat=n%8:=za
 unfold execOp;simp[f,h,j,go_sem,b,d]
theorem qO9 {x:Operand} {X Z Y:Int} (d:o.op= .binOp .or t x y u) (f:ρ x=qX qo X) (h:ρ y=qX qo Z) (b:bits .or qo X Z=Y) (w:yC):(execOp ρ o).run P w= .ok (.value (qX qo Y)) w:=by
 subst b;unfold execOp;simp[d,f,h,go_sem]
theorem zPu (R:Nat) (a:Option yF) (c:Nat) (l:List Bool) (b:Bool) (w:yC) (hw:Wr w R a c l) (hl:kN l<=1000000):
  yG yK 157 #[qc (yA ⟨R,0,yB⟩),qh b] w fun e w'=>e=qx (qg #[])/\∃a' c',Wr w' R a' c' (l++[b])/\Step w w' R:=by
 obtain⟨n,hn⟩:=zB (kN l);have hk:=zFe l;have hf:=zW6 l;obtain⟨k,a4⟩:=zB (kN (pkL l));have ad:=hw.lt;obtain⟨x0,x1,f0,f1⟩:=zAf hw.blk;have hB:=hw.blk;have hO:=hw.own;rw[a4]at x0 hB hO;rw[hn]at x1 hl hB;have M:k=zA2 n:=by rw[<-a4,hk,hn]
 unfold zA2 at M;have z:=zH hn;have ae:0<=(n:Int):=za
 have af:IntKind.i64.wrap ((n:Int)+1)=(n:Int)+1:=qQa _ ⟨za,za⟩;by_cases h8:n%8=0
 .have hm:((n:Int)%8==0)=yH:=by rw[qSq];omega
  obtain⟨W1,L⟩:=zB (w.alloc (qp #[qX qo 0] TB));obtain⟨S,hS⟩:=zB w.heap.size;have ag:W1.heap.size=S+1:=by rw[<-L,zA,hS]
  have N:Kit.Own W1 (R+1) TB a k c ((pkL l).map Kit.zAe):=by rw[<-L];exact hO.alloc _
  obtain⟨a1,c1,w2,a3,a7,H⟩:=Kit.Own.app (ty:=109) (w:=W1) (n:=k) zNh N (yA ⟨S,0,yB⟩) 1 1 [qX qo 0] (by rw[<-L,<-hS];exact Kit.zAs w (qX qo 0) TB) rfl (fun h=>by cases h) (by intro u hu;simp at hu;subst hu;rfl) (by unfold maxLen;omega) za za;rw[zGj N]at H;have a6:a.map Addr.block≠yA R:=fun e=>by
   have:=hO.block R (by rw[zGj hO];exact e);omega
  have bw:yM S w W1:=by rw[<-L,<-hS];exact(yR _ _).alloc (qPq _) _
  have O:W1.heap[R]? =yA (qp #[qZ a k c,n] TW):=(bw.block R za).trans hB;have a0:w2.heap[R]? =yA (qp #[qZ a k c,n] TW):=(H.block R za (fun e=>a6 e.symm)).trans O;obtain⟨y0,y1,e0,e1⟩:=zAf O;obtain⟨z0,z1,d0,d1⟩:=zAf a0;obtain⟨U,hU⟩:=zB (w2.setCell ⟨R,0,yB⟩ (qZ a1 (k+1) c1));have a5:U.heap[R]? =yA (qp #[qZ a1 (k+1) c1,n] TW):=by rw[<-hU];exact setBlock 0 a0
  have o:Mid U R a1 c1 l:=by
   refine⟨?_,?_⟩
   .rw[a5,hn,show n/8+1=k+1 by omega]
   .rw[hn,show n/8+1=k+1 by omega,hf,qPr (by rw[hn];exact h8),qQb,<-hU];exact zD4 a7 (qQ8 _) _
  have G:Step w U R:=by
   refine⟨fun q h1 h2 h3=> ?_,?_⟩
   .rw[<-hU,zAa h2,H.block q za (fun e=> ?_),bw.block q za];obtain⟨cs,f,hc⟩:=zZ7 hO q e.symm;exact h3 cs f hc
   .rw[<-hU];exact((bw.mono za).trans ((yR R W1).grown H za (fun q hq=>by have:=hO.block q (by rw[zGj hO];exact hq);omega))).setCell (qPq _) _
  obtain⟨v0,v1,t0,t1⟩:=zAf o.blk;rw[hn]at v0 v1;obtain⟨i,I⟩:=yU o G;clear o G hk hf hB hO hw M N a7 H a6 bw O a0 a5;cases b with
  |false=>
   go_enter func157,ntmps157;go_wp2_with (at_builtin;refine Kit.zAr rfl (.tmp 14) (.tmp 15) 109 rfl rfl rfl a3 ?_);go_end0;exact⟨rfl,a1,c1,by have h:=i.out.zero;rwa[z.out]at h,I.out.trans Step.zero⟩
  |true=>
   obtain⟨g,a2,a9,a8,_,p,B⟩:=i.out.own.at_ (Nat.succ_pos _);obtain⟨m,j⟩:=zB (n/8);have d:U.cell? ⟨g,m,yB⟩=yA (qX qo ((zCa l m:Nat):Int)):=by
    rw[p m (by rw[z.out,j];exact qQ8 _),qP3,zFz _ _ (by rw[qP0,z.out,qR8];unfold zA2;omega),zCr];show yA (Kit.zAe _)=_;unfold Kit.zAe;rw[ofNat_toNat (zEo _ _)]
   have F:U.frozen? ⟨g,m,yB⟩=yI:=B m;rw[z.out,j]at p;rw[j]at v0;obtain⟨X,hX⟩:=zB (zCa l m);rw[hX]at d;have W:X<256:=by rw[<-hX];exact zEo _ _
   obtain⟨Y,hY⟩:=zB (bits .or qo (X:Int) (128/2^(n%8)));have s:Y=((X|||(128>>>(n%8)):Nat):Int):=by rw[<-hY];exact zTg ⟨n%8,qRf _ za⟩ ⟨X,W⟩
   obtain⟨HY,HX⟩:=yU s hX;have r:R≠g:=za
   have ab:(0:Int)<=(m:Int):=za
   have aa:(m:Int)<((m+1:Nat):Int):=za
   have H8:=zH j;have ac:m<=1000000:=za
   subst a2;clear p B s hX j;go_enter func157,ntmps157;clear h8;have Z:=zH hY;have V:=yT (IntKind.i64.wrap (((m+1:Nat):Int)-1)=(m:Int)) (by rw[qQa _ ⟨za,za⟩];omega);obtain⟨LS,LN,LX,K⟩:=yX (Kit.zAg (P:=yK) (t:=109) (w:=U.drew) v0 zf zf) (Kit.zAg (P:=yK) (t:=3) (w:=U.drew) v1 zf zf) (Kit.zAg (P:=yK) (t:=5) (w:=U.drew) d zf zf) (Kit.zDs (P:=yK) (t:=5) (w:=U.drew) (v:=qX qo Y) d F zf rfl rfl);clear hY;go_upto_region 3 with(at_builtin;refine Kit.zAr rfl (.tmp 14) (.tmp 15) 109 rfl rfl rfl a3 ?_);clear hm d F;refine zS [] (fun _=>True) [0,1,2,4,0,16,32,64,128,256,520,1024,0,4096,8192,16384,32768,65536,133120,524287,1048575] 21<|zp [0,1,2,3,4,5,6,7,8,9,10,11,12,13,14,15,16,17,18,19]<|zk 20 (zP R 0)<|zk 21 (zP R 0)<|zk 22 (zP R 0)<|zt 23 (qZ (yA ⟨g,0,yB⟩) ((m+1:Nat)) c1) (zl 109 22 (LS.out))<|zk 24 (zP R 0)<|zk 25 (zP R 0)<|zk 26 (zP R 0)<|zt 27 (qZ (yA ⟨g,0,yB⟩) ((m+1:Nat)) c1) (zl 109 26 (LS.out))<|zk 28 (qX qm ((m+1:Nat):Int))<|zt 29 (zI m) (Kit.zM6 (x:= .tmp 28) (y:= .const (qX qm 1)) (t:=3) (u:=3) zf zf zf V.out _)<|zt 30 (zP g m) (Kit.zBo (t:=109) (x:= .tmp 23) (y:= .tmp 29) (g:=g) (n:=m+1) (c:=c1) (k:=m) zf zf zf (qQ8 _) underlying109 (fun _=>sizeOf5 _) _)<|zt 31 (qX qo (X:Int)) (zl 5 30 (LX.out))<|zk 32 (zP R 0)<|zk 33 (zP R 0)<|zk 34 (zP R 1)<|zt 35 (zI n) (zl 3 34 (LN.out))<|zt 36 (qX qm ((n%8:Nat):Int)) (qO7 (x:= .tmp 35) (y:= .const (qX qm 8)) (t:=3) (u:=3) zf zf zf hl _)<|zt 37 (qX qo (128/2^(n%8))) (qO8 (x:= .const (qX qo 128)) (y:= .tmp 36) (t:=5) (u:=3) zf zf zf _)<|zt 38 (qX qo Y) (qO9 (x:= .tmp 31) (y:= .tmp 37) (t:=5) (u:=5) zf zf zf Z.out _)<|zt 39 (zP g m) (Kit.zBo (t:=109) (x:= .tmp 23) (y:= .tmp 29) (g:=g) (n:=m+1) (c:=c1) (k:=m) zf zf zf (qQ8 _) underlying109 (fun _=>sizeOf5 _) _)<|zn<|zw 20 yB (zr 5 39 38 (K.out)) (qy (qy trivial))<|zE<| ?_
   simp only[zP,zI,Act.put,qPx,qPw,qPy];have u0:(U.drew.setCell ⟨g,m,yB⟩ (qX qo Y)).cell? ⟨R,1,yB⟩=yA (qX qm (n:Int)):=(qRg (zAa r)).trans v1;have u1:(U.drew.setCell ⟨g,m,yB⟩ (qX qo Y)).frozen? ⟨R,1,yB⟩=yI:=(qTr (zAa r)).trans t1;go_wp2;go_end0;have h1:=i.out.one Y (by rw[z.out,H8.out,HX.out];exact HY.out);rw[z.out,H8.out]at h1;exact⟨rfl,_,_,h1.drew,(I.out.trans (Step.one i.out.own za)).drew⟩
 .have hm:((n:Int)%8==0)=yI:=by rw[qSd];omega
  have o:Mid w R a c l:=by
   refine⟨?_,?_⟩
   .rw[hB,hn,show n/8+1=k by omega]
   .rw[hn,show n/8+1=k by omega,hf,qPt (by rw[hn];exact h8)];exact hO
  have G:=Step.refl w R;obtain⟨v0,v1,t0,t1⟩:=zAf o.blk;rw[hn]at v0 v1;obtain⟨i,I⟩:=yU o G;clear o G hk hf hB hO hw M;cases b with
  |false=>
   go_enter func157,ntmps157;go_wp2_with (fail);go_end0;exact⟨rfl,a,c,by have h:=i.out.zero;rwa[z.out]at h,I.out.trans Step.zero⟩
  |true=>
   obtain⟨g,a2,a9,a8,_,p,B⟩:=i.out.own.at_ (Nat.succ_pos _);obtain⟨m,j⟩:=zB (n/8);have d:w.cell? ⟨g,m,yB⟩=yA (qX qo ((zCa l m:Nat):Int)):=by
    rw[p m (by rw[z.out,j];exact qQ8 _),qP3,zFz _ _ (by rw[qP0,z.out,qR8];unfold zA2;omega),zCr];show yA (Kit.zAe _)=_;unfold Kit.zAe;rw[ofNat_toNat (zEo _ _)]
   have F:w.frozen? ⟨g,m,yB⟩=yI:=B m;rw[z.out,j]at p;rw[j]at v0;obtain⟨X,hX⟩:=zB (zCa l m);rw[hX]at d;have W:X<256:=by rw[<-hX];exact zEo _ _
   obtain⟨Y,hY⟩:=zB (bits .or qo (X:Int) (128/2^(n%8)));have s:Y=((X|||(128>>>(n%8)):Nat):Int):=by rw[<-hY];exact zTg ⟨n%8,qRf _ za⟩ ⟨X,W⟩
   obtain⟨HY,HX⟩:=yU s hX;have r:R≠g:=za
   have ab:(0:Int)<=(m:Int):=za
   have aa:(m:Int)<((m+1:Nat):Int):=za
   have H8:=zH j;have ac:m<=1000000:=za
   subst a2;clear p B s hX j;go_enter func157,ntmps157;clear h8;have Z:=zH hY;have V:=yT (IntKind.i64.wrap (((m+1:Nat):Int)-1)=(m:Int)) (by rw[qQa _ ⟨za,za⟩];omega);obtain⟨LS,LN,LX,K⟩:=yX (Kit.zAg (P:=yK) (t:=109) (w:=w.drew) v0 zf zf) (Kit.zAg (P:=yK) (t:=3) (w:=w.drew) v1 zf zf) (Kit.zAg (P:=yK) (t:=5) (w:=w.drew) d zf zf) (Kit.zDs (P:=yK) (t:=5) (w:=w.drew) (v:=qX qo Y) d F zf rfl rfl);clear hY;go_upto_region 3 with(fail);clear hm d F;refine zS [] (fun _=>True) [0,1,2,4,0,16,32,64,128,256,520,1024,0,4096,8192,16384,32768,65536,133120,524287,1048575] 21<|zp [0,1,2,3,4,5,6,7,8,9,10,11,12,13,14,15,16,17,18,19]<|zk 20 (zP R 0)<|zk 21 (zP R 0)<|zk 22 (zP R 0)<|zt 23 (qZ (yA ⟨g,0,yB⟩) ((m+1:Nat)) c) (zl 109 22 (LS.out))<|zk 24 (zP R 0)<|zk 25 (zP R 0)<|zk 26 (zP R 0)<|zt 27 (qZ (yA ⟨g,0,yB⟩) ((m+1:Nat)) c) (zl 109 26 (LS.out))<|zk 28 (qX qm ((m+1:Nat):Int))<|zt 29 (zI m) (Kit.zM6 (x:= .tmp 28) (y:= .const (qX qm 1)) (t:=3) (u:=3) zf zf zf V.out _)<|zt 30 (zP g m) (Kit.zBo (t:=109) (x:= .tmp 23) (y:= .tmp 29) (g:=g) (n:=m+1) (c:=c) (k:=m) zf zf zf (qQ8 _) underlying109 (fun _=>sizeOf5 _) _)<|zt 31 (qX qo (X:Int)) (zl 5 30 (LX.out))<|zk 32 (zP R 0)<|zk 33 (zP R 0)<|zk 34 (zP R 1)<|zt 35 (zI n) (zl 3 34 (LN.out))<|zt 36 (qX qm ((n%8:Nat):Int)) (qO7 (x:= .tmp 35) (y:= .const (qX qm 8)) (t:=3) (u:=3) zf zf zf hl _)<|zt 37 (qX qo (128/2^(n%8))) (qO8 (x:= .const (qX qo 128)) (y:= .tmp 36) (t:=5) (u:=3) zf zf zf _)<|zt 38 (qX qo Y) (qO9 (x:= .tmp 31) (y:= .tmp 37) (t:=5) (u:=5) zf zf zf Z.out _)<|zt 39 (zP g m) (Kit.zBo (t:=109) (x:= .tmp 23) (y:= .tmp 29) (g:=g) (n:=m+1) (c:=c) (k:=m) zf zf zf (qQ8 _) underlying109 (fun _=>sizeOf5 _) _)<|zn<|zw 20 yB (zr 5 39 38 (K.out)) (qy (qy trivial))<|zE<| ?_
   simp only[zP,zI,Act.put,qPx,qPw,qPy];have u0:(w.drew.setCell ⟨g,m,yB⟩ (qX qo Y)).cell? ⟨R,1,yB⟩=yA (qX qm (n:Int)):=(qRg (zAa r)).trans v1;have u1:(w.drew.setCell ⟨g,m,yB⟩ (qX qo Y)).frozen? ⟨R,1,yB⟩=yI:=(qTr (zAa r)).trans t1;go_wp2;go_end0;have h1:=i.out.one Y (by rw[z.out,H8.out,HX.out];exact HY.out);rw[z.out,H8.out]at h1;exact⟨rfl,_,_,h1.drew,(I.out.trans (Step.one i.out.own za)).drew⟩
end Bt
namespace Bt
variable {w w':yC} {R:Nat}
theorem Wr.below {D:Nat} {a:Option yF} {c:Nat} {l:List Bool} (h:Wr w R a c l) (b:yM D w w') (d:D=w.heap.size):Wr w' R a c l:=by
 subst d;exact⟨(b.block R h.lt).trans h.blk,h.own.below b (qPq _)⟩
theorem Step.of_below (a:yM w w w') (c:R<=w.heap.size):Step w w' R:=⟨fun k b _ _=>a.block k b,a.mono c⟩
theorem qF3 (m:List Bool) (j:Nat) (a:j<kN m):zBm (pk m) j=m[j]:=by
 rw[zGo m j (by rw[zDu];unfold zA2;omega)];simp[qPz,qPu a]
theorem take_one {α:Type} (m:List α) (j:Nat) (a:j<kN m):m.take (j+1)=m.take j++[m[j]]:=by
 rw[List.take_add_one,qPu a];rfl
theorem zN3 (R:Nat) (a:Option yF) (c:Nat) (l m:List Bool) (w:yC) (hw:Wr w R a c l) (hl:kN l+kN m<=1000000):
  yG yK 87 #[qc (yA ⟨R,0,yB⟩),zAe m] w fun e w'=>e=qx (qg #[])/\∃a' c',Wr w' R a' c' (l++m)/\Step w w' R:=by
 obtain⟨n,hn⟩:=zB (kN m);obtain⟨d,hd⟩:=zB (pk m);obtain⟨HN,HD⟩:=yU hn hd;have hR:=hw.lt;have a4:n<=8*d.size:=by rw[<-hd,<-hn,zDu];unfold zA2;omega
 have a1:d.size<=1000000000:=by rw[<-hd,zDu];unfold zA2;omega
 have h:=zH (fun w'=>zGf m za w');unfold zAe at h⊢;rw[hn,hd]at h⊢;obtain⟨q,g⟩:=zB (w.alloc (qp #[qY d,n] 51));obtain⟨X,hX⟩:=zB w.heap.size;have o:yM w w q:=by rw[<-g];exact(yR _ _).alloc (qPq _) _
 have a5:q.heap.size=X+1:=by rw[<-g,zA,hX]
 have r:q.heap[X]? =yA (qp #[qY d,n] 51):=by
  rw[<-g,<-hX];show(w.heap.push _)[w.heap.size]? =_;simp
 obtain⟨u,x⟩:=yU (hw.below o rfl) (Step.of_below o (qP7 hR));have P:R≠X:=za
 have K:R<=q.heap.size:=za
 have H:=zH r;obtain⟨x0,x1,z,f1⟩:=zAf r;clear hn hd hw o r;go_enter func87,ntmps87;go_wp2_with fail;clear g hX;have hq:=zH (h.out q);(with_reducible refine hq.out.mono ?_);clear hq;rintro e w1 ⟨rfl,y⟩;obtain⟨a3,V,p⟩:=yV (u.out.below y rfl) (x.out.trans (Step.of_below y K)) ((y.block X za).trans H.out);have Z:X<w1.heap.size:=by have:=y.size;omega
 clear x0 x1 z f1 u x H y;obtain⟨x0,x1,z,f1⟩:=zAf p.out;go_wp2;clear x0 x1 z f1;go_loopw [12] (fun i wr=>∃j:Nat,j<=n/\i=qX qm j/\yL (∃a' c',Wr wr R a' c' (l++m.take j))/\yL (Step w1 wr R)) (fun i _=>n-(intOf i).toNat)
 case atStart=>exact⟨0,za,rfl,zH ⟨a,c,by rw[qS6,qQv];exact a3.out⟩,zH (Step.refl _ _)⟩
 case round=>
  obtain⟨j,hj,rfl,I,k⟩:=hrel;by_cases M:j<n
  .obtain⟨a',c',b⟩:=I.out;have N:=zH b;have G:wr.heap[X]? =yA (qp #[qY d,n] 51):=(k.out.old X Z (qQ4 P) (fun cs f e=>by rw[p.out]at e;injection e with e;injection e with _ e _;exact absurd e qW)).trans p.out;obtain⟨x0,x1,z,f1⟩:=zAf G;have O:=zH (zNy d j za a1);have F:j<kN m:=by rw[HN.out];exact M
   have hg:zBm d j=m[j]:=by rw[<-HD.out];exact qF3 m j F
   have hz:(bv (zBm d j)!=0)=m[j]:=by rw[qCg,hg]
   have W:=zH (take_one m j F);have S:=yT (kN (l++m.take j)<=1000000) (by rw[qP0,qQh];omega);clear G b hg;go_wp2_with fail;(with_reducible refine(O.out _).mono ?_);rintro e w2 ⟨rfl,rfl⟩;go_wp2_with fail;clear hz x0 x1 z f1;have hq:=zH (zPu R a' c' (l++m.take j) m[j] wr N.out S.out);(with_reducible refine hq.out.mono ?_);clear hq;rintro e w3 ⟨rfl,a2,c2,t,B⟩;have Y:=yT (∃a' c',Wr w3 R a' c' (l++m.take (j+1))) ⟨a2,c2,by rw[W.out,<-qQr];exact t⟩;have a0:=zH (k.out.trans B);clear t B;go_wp2;go_roundw
   case rel=>exact⟨j+1,za,by go_num,Y,a0⟩
   case measure=>exact qV
  .obtain⟨a',c',b⟩:=I.out;have s:m.take j=m:=qQc (by rw[HN.out];omega);rw[s]at b;have L:=yT ((∃a' c',Wr wr R a' c' (l++m))/\Step w wr R) ⟨⟨a',c',b⟩,V.out.trans k.out⟩;clear b s;go_wp2;go_end0;obtain⟨⟨a',c',h1⟩,h2⟩:=L.out;exact⟨rfl,a',c',h1,h2⟩
theorem and_one (v k:Nat) (hv:v<18446744073709551616):(bits .and .u64 ((v:Int)/2^k) 1==1)=v.testBit k:=by
 have e:(v:Int)/2^k=((v/2^k:Nat):Int):=by simp
 rw[e,show(1:Int)=((1:Nat):Int)from rfl,u64_and_nat _ _ (Nat.lt_of_le_of_lt (Nat.div_le_self _ _) hv) za,Nat.and_one_is_mod,Nat.testBit_eq_decide_div_mod_eq];rw[qSg,qSq,qRm];omega
theorem qFk (v n j:Nat) (a:j<kN (num v n)):(num v n)[j]=v.testBit (n-1-j):=by simp[num]
theorem zYr (R:Nat) (a:Option yF) (c:Nat) (l:List Bool) (v n:Nat) (hv:v<18446744073709551616) (O:n<=64) (w:yC) (y:Wr w R a c l) (N:kN l+n<=1000000):
  yG yK 88 #[qc (yA ⟨R,0,yB⟩),qX .u64 (v:Int),n] w fun e w'=>e=qx (qg #[])/\∃a' c',Wr w' R a' c' (l++num v n)/\Step w w' R:=by
 have G:decide ((n:Int)<0)=yI:=qP1 za;have H:decide ((64:Int)<(n:Int))=yI:=qP1 za;have hi:IntKind.i64.wrap ((n:Int)-1)=(n:Int)-1:=qQa _ ⟨za,za⟩;have z:=zH y;clear y;go_enter func88,ntmps88;go_wp2;clear G H hi;go_loopw [6] (fun i wr=>∃j:Nat,j<=n/\i=qX qm ((n:Int)-1-(j:Int))/\yL (∃a' c',Wr wr R a' c' (l++(num v n).take j))/\yL (Step w wr R)) (fun i _=>(intOf i+1).toNat)
 case atStart=>exact⟨0,za,zm,zH ⟨a,c,by rw[qS6,qQv];exact z.out⟩,zH (Step.refl _ _)⟩
 case round=>
  obtain⟨j,M,rfl,k,g⟩:=hrel;obtain⟨i,hi⟩:∃i:Int,(n:Int)-1-(j:Int)=i:=⟨_,rfl⟩;rw[hi];by_cases o:j<n
  .obtain⟨a',c',b⟩:=k.out;have p:=zH b;have x:j<kN (num v n):=by rw[zAc];exact o
   have s:=zH (take_one (num v n) j x);have r:=yT (kN (l++(num v n).take j)<=1000000) (by rw[qP0,qQh];omega);have B:0<=i:=za
   have I:(bits .and .u64 ((v:Int)/2^i.toNat) 1==1)=(num v n)[j]:=by rw[and_one v _ hv,qFk];congr 1;omega
   have L:IntKind.i64.wrap (i-1)=i-1:=qQa _ ⟨za,za⟩;go_wp2_with fail;clear I;have q:=zH (zPu R a' c' (l++(num v n).take j) (num v n)[j] wr p.out r.out);(with_reducible refine q.out.mono ?_);clear q;rintro e K ⟨rfl,F,c2,f,h⟩;have t:=yT (∃a' c',Wr K R a' c' (l++(num v n).take (j+1))) ⟨F,c2,by rw[s.out,<-qQr];exact f⟩;have u:=zH (g.out.trans h);clear f h;go_wp2;go_roundw
   case rel=>exact⟨j+1,za,by rw[<-hi];congr 1;omega,t,u⟩
   case measure=>exact qV
  .obtain⟨a',c',b⟩:=k.out;have d:(num v n).take j=num v n:=qQc (by rw[zAc];omega);rw[d]at b;have B:¬0<=i:=za
   have m:=zH b;clear b d;go_wp2;go_end0;exact⟨rfl,⟨a',c',m.out⟩,g.out⟩
end Bt
namespace Bt
theorem zRd (p q:yF) (w:yC):
  CallsD yK 155 #[qc (yA p),qc (yA q)] .returning w fun e u' w'=>e=qx (qg #[])/\u'= .returning/\w'=w:=by
 refine callsD_of_wpS func155 rfl fun a c b=> ?_;apply wpS_seq;apply wpS_region;simp[wpOpsS,go_sem,recoverD,b,ntmps155,Exit.thenS];refine wpS_of_wp ?_;go_wp2;cases a;simp_all [bodyPostS,results,results155]
theorem qAk (N O S:yF) (l:List Bool) (hl:kN l<=1000000) (w:yC)
  (H:∀W R,w.heap.size<=R->yM w w W->Wr W R yB 0 []->yG yK 86 #[qc (yA ⟨R,0,yB⟩),qc (yA N),qc (yA O),qc (yA S)] W fun e w'=>e=qx (qg #[])/\∃a' c',Wr w' R a' c' l/\Step W w' R):
  yG yK 85 #[.func (.func 86) #[] #[qc (yA N),qc (yA O),qc (yA S)]] w fun e w'=>e=qx (qg #[zAe l,qX qm 0])/\yM w w w':=by
 have a1:∀(fn:Fn) (first K:Array yD) (w:yC),(Instr.makeFunc fn first K).run yK w= .ok (.func fn first K) w:=fun _ _ _ _=>rfl;obtain⟨B,r⟩:=zB w.heap.size;have k:=zH r;obtain⟨t,d⟩:=zB (w.alloc (qp #[qY ⟨#[]⟩,qX qm 0] 51));obtain⟨x,b⟩:=zB (t.alloc (qp #[qX qm 0] 26));obtain⟨q,h⟩:=zB (x.alloc (qp #[qZ yB 0 0,qX qm 0] TW));have z:t.heap.size=B+1:=by rw[<-d,zA,r]
 have z2:x.heap.size=B+2:=by rw[<-b,zA,z]
 have z3:q.heap.size=B+3:=by rw[<-h,zA,z2]
 have L:yM B w t:=by rw[<-d,<-r];exact(yR _ _).alloc (qPq _) _
 have G:yM (B+1) t x:=by rw[<-b,<-z];exact(yR _ _).alloc (qPq _) _
 have y:yM (B+2) x q:=by rw[<-h,<-z2];exact(yR _ _).alloc (qPq _) _
 have new:∀(W:yC) (o:Obj),(W.alloc o).heap[W.heap.size]? =yA o:=fun W o=>by show(W.heap.push o)[W.heap.size]? =_;simp
 have c1:q.heap[B]? =yA (qp #[qY ⟨#[]⟩,qX qm 0] 51):=by
  rw[y.block B za,G.block B za,<-d,<-r];exact new _ _
 have c2:q.heap[B+1]? =yA (qp #[qX qm 0] 26):=by
  rw[y.block (B+1) za,<-b,<-z];exact new _ _
 have c3:q.heap[B+2]? =yA (qp #[qZ yB 0 0,qX qm 0] TW):=by
  rw[<-h,<-z2];exact new _ _
 have a:yM B w q:=(L.trans (G.mono za)).trans (y.mono za);have j:Wr q (B+2) yB 0 []:=⟨c3,Kit.Own.start _ _ _⟩;obtain⟨Z,HB,V,X⟩:=yX (H q (B+2) za (by rw[r];exact a) j) a c1 c2;clear H L G y c1 c2 c3 j a new;go_enter_defers func85,ntmps85;go_wp2_with fail;clear d b h z z2 r;(with_reducible refine Z.out.mono ?_);rintro e s ⟨rfl,a4,k4,i,g⟩;have M:s.heap[B]? =yA (qp #[qY ⟨#[]⟩,qX qm 0] 51):=(g.below.block B za).trans V.out;have I:s.heap[B+1]? =yA (qp #[qX qm 0] 26):=(g.below.block (B+1) za).trans X.out;have m:=zH (HB.out.trans (g.below.mono za));have a0:=Kit.Src.text (P:=yK) (n:=kN (pkL l)) (c:=k4) (src:=109) (dst:=9) i.own.src rfl underlying109 underlying5 underlying9;obtain⟨x0,x1,f0,f1⟩:=zAf i.blk;obtain⟨y0,y1,g0,g1⟩:=zAf M;have u0:s.cell? ⟨B+1,0,yB⟩=yA (qX qm 0):=by simp[yQ,I]
 have v0:s.frozen? ⟨B+1,0,yB⟩=yI:=by simp[World.frozen?,I]
 clear i g M I;obtain⟨F,hF⟩:=zB (((s.setCell ⟨B,0,yB⟩ (qY ⟨(pkL l).toArray⟩)).setCell ⟨B,1,yB⟩ (qX qm (kN l:Int))).setCell ⟨B+1,0,yB⟩ (qX qm 0));have r0:F.cell? ⟨B,0,yB⟩=yA (qY ⟨(pkL l).toArray⟩):=by
  rw[<-hF,qQf _ _ _ _ (by intro e;injection e with e1 _ _;omega),qQf _ _ _ _ (by intro e;injection e with _ e2 _;omega)];exact qRj _ _ _ y0
 have r1:F.cell? ⟨B,1,yB⟩=yA (qX qm (kN l:Int)):=by
  rw[<-hF,qQf _ _ _ _ (by intro e;injection e with e1 _ _;omega)];refine qRj _ _ _ (u:=qX qm 0) ?_;rw[qQf _ _ _ _ (by intro e;injection e with _ e2 _;omega)];exact y1
 have r2:F.cell? ⟨B+1,0,yB⟩=yA (qX qm 0):=by
  rw[<-hF];refine qRj _ _ _ (u:=qX qm 0) ?_;rw[qQf _ _ _ _ (by intro e;injection e with e1 _ _;omega),qQf _ _ _ _ (by intro e;injection e with e1 _ _;omega)];exact u0
 have Y:=yT (yM B w F) (by rw[<-hF];exact((m.out.setCell (p:=⟨B,0,yB⟩) (qPq _) _).setCell (p:=⟨B,1,yB⟩) (qPq _) _).setCell (p:=⟨B+1,0,yB⟩) (qRu _) _);go_wp2;refine leaves_cons (f:=155) (args:= #[qc (yA ⟨B,0,yB⟩),qc (yA ⟨B+1,0,yB⟩)]) zm (by simp[go_sem]) ?_;refine(zRd ⟨B,0,yB⟩ ⟨B+1,0,yB⟩ F).mono ?_;rintro e u' a2 ⟨rfl,rfl,rfl⟩;have q0:(Value.agg #[qY ⟨(pkL l).toArray⟩,qX qm (kN l:Int)])=zAe l:=by simp[zAe,pk]
 simp[Leaves,settle,results,results85,go_sem,r0,r1,r2,q0];rw[k.out];exact Y.out
theorem qAl (N:yF) (l:List Bool) (hl:kN l<=1000000) (w:yC)
  (H:∀W R,w.heap.size<=R->yM w w W->Wr W R yB 0 []->yG yK 103 #[qc (yA ⟨R,0,yB⟩),qc (yA N)] W fun e w'=>e=qx (qg #[])/\∃a' c',Wr w' R a' c' l/\Step W w' R):
  yG yK 85 #[.func (.func 103) #[] #[qc (yA N)]] w fun e w'=>e=qx (qg #[zAe l,qX qm 0])/\yM w w w':=by
 have a1:∀(fn:Fn) (first K:Array yD) (w:yC),(Instr.makeFunc fn first K).run yK w= .ok (.func fn first K) w:=fun _ _ _ _=>rfl;obtain⟨B,r⟩:=zB w.heap.size;have k:=zH r;obtain⟨t,d⟩:=zB (w.alloc (qp #[qY ⟨#[]⟩,qX qm 0] 51));obtain⟨x,b⟩:=zB (t.alloc (qp #[qX qm 0] 26));obtain⟨q,h⟩:=zB (x.alloc (qp #[qZ yB 0 0,qX qm 0] TW));have z:t.heap.size=B+1:=by rw[<-d,zA,r]
 have z2:x.heap.size=B+2:=by rw[<-b,zA,z]
 have z3:q.heap.size=B+3:=by rw[<-h,zA,z2]
 have L:yM B w t:=by rw[<-d,<-r];exact(yR _ _).alloc (qPq _) _
 have G:yM (B+1) t x:=by rw[<-b,<-z];exact(yR _ _).alloc (qPq _) _
 have y:yM (B+2) x q:=by rw[<-h,<-z2];exact(yR _ _).alloc (qPq _) _
 have new:∀(W:yC) (o:Obj),(W.alloc o).heap[W.heap.size]? =yA o:=fun W o=>by show(W.heap.push o)[W.heap.size]? =_;simp
 have c1:q.heap[B]? =yA (qp #[qY ⟨#[]⟩,qX qm 0] 51):=by
  rw[y.block B za,G.block B za,<-d,<-r];exact new _ _
 have c2:q.heap[B+1]? =yA (qp #[qX qm 0] 26):=by
  rw[y.block (B+1) za,<-b,<-z];exact new _ _
 have c3:q.heap[B+2]? =yA (qp #[qZ yB 0 0,qX qm 0] TW):=by
  rw[<-h,<-z2];exact new _ _
 have a:yM B w q:=(L.trans (G.mono za)).trans (y.mono za);have j:Wr q (B+2) yB 0 []:=⟨c3,Kit.Own.start _ _ _⟩;obtain⟨X,HB,O,S⟩:=yX (H q (B+2) za (by rw[r];exact a) j) a c1 c2;clear H L G y c1 c2 c3 j a new;go_enter_defers func85,ntmps85;go_wp2_with fail;clear d b h z z2 r;(with_reducible refine X.out.mono ?_);rintro e s ⟨rfl,a4,Y,i,g⟩;have M:s.heap[B]? =yA (qp #[qY ⟨#[]⟩,qX qm 0] 51):=(g.below.block B za).trans O.out;have I:s.heap[B+1]? =yA (qp #[qX qm 0] 26):=(g.below.block (B+1) za).trans S.out;have m:=zH (HB.out.trans (g.below.mono za));have a0:=Kit.Src.text (P:=yK) (n:=kN (pkL l)) (c:=Y) (src:=109) (dst:=9) i.own.src rfl underlying109 underlying5 underlying9;obtain⟨x0,x1,f0,f1⟩:=zAf i.blk;obtain⟨y0,y1,g0,g1⟩:=zAf M;have u0:s.cell? ⟨B+1,0,yB⟩=yA (qX qm 0):=by simp[yQ,I]
 have v0:s.frozen? ⟨B+1,0,yB⟩=yI:=by simp[World.frozen?,I]
 clear i g M I;obtain⟨F,hF⟩:=zB (((s.setCell ⟨B,0,yB⟩ (qY ⟨(pkL l).toArray⟩)).setCell ⟨B,1,yB⟩ (qX qm (kN l:Int))).setCell ⟨B+1,0,yB⟩ (qX qm 0));have Z:F.cell? ⟨B,0,yB⟩=yA (qY ⟨(pkL l).toArray⟩):=by
  rw[<-hF,qQf _ _ _ _ (by intro e;injection e with e1 _ _;omega),qQf _ _ _ _ (by intro e;injection e with _ e2 _;omega)];exact qRj _ _ _ y0
 have r1:F.cell? ⟨B,1,yB⟩=yA (qX qm (kN l:Int)):=by
  rw[<-hF,qQf _ _ _ _ (by intro e;injection e with e1 _ _;omega)];refine qRj _ _ _ (u:=qX qm 0) ?_;rw[qQf _ _ _ _ (by intro e;injection e with _ e2 _;omega)];exact y1
 have r2:F.cell? ⟨B+1,0,yB⟩=yA (qX qm 0):=by
  rw[<-hF];refine qRj _ _ _ (u:=qX qm 0) ?_;rw[qQf _ _ _ _ (by intro e;injection e with e1 _ _;omega),qQf _ _ _ _ (by intro e;injection e with e1 _ _;omega)];exact u0
 have V:=yT (yM B w F) (by rw[<-hF];exact((m.out.setCell (p:=⟨B,0,yB⟩) (qPq _) _).setCell (p:=⟨B,1,yB⟩) (qPq _) _).setCell (p:=⟨B+1,0,yB⟩) (qRu _) _);go_wp2;refine leaves_cons (f:=155) (args:= #[qc (yA ⟨B,0,yB⟩),qc (yA ⟨B+1,0,yB⟩)]) zm (by simp[go_sem]) ?_;refine(zRd ⟨B,0,yB⟩ ⟨B+1,0,yB⟩ F).mono ?_;rintro e u' a2 ⟨rfl,rfl,rfl⟩;have q0:(Value.agg #[qY ⟨(pkL l).toArray⟩,qX qm (kN l:Int)])=zAe l:=by simp[zAe,pk]
 simp[Leaves,settle,results,results85,go_sem,Z,r1,r2,q0];rw[k.out];exact V.out
end Bt
namespace Bt
variable {w w':yC} {u x y:yD} {t:yE} {r:Nat}
theorem zEb {B:Nat} (h:w.heap[B]? =yA (qp #[u] t)):w.cell? ⟨B,0,yB⟩=yA u/\w.frozen? ⟨B,0,yB⟩=yI:=
 ⟨by simp[yQ,h],by simp[World.frozen?,h]⟩
theorem Step.keep {R k:Nat} {d:Array yD} (h:Step w w' R) (g:k≠R) (c:w.heap[k]? =yA (qp d t)) (i:t≠TB):w'.heap[k]? =yA (qp d t):=by
 have a:k<w.heap.size:=by
  rcases qP8 k w.heap.size with a|b
  .exact a
  .rw[qRk b]at c;cases c
 exact(h.old k a g (fun d f e=>by rw[c]at e;injection e with e;injection e with _ e _;exact i e)).trans c
theorem zEk {f:Func} {p u:Tmp} (h:f.results= #[.cell p 51,.tmp u]) (tmps:Array yD) (w:yC) (r:Nat) (e x y:yD) (g:tmps.getD p yN=qc (yA ⟨r,0,yB⟩)) (c:tmps.getD u yN=e)
  (a:w.cell? ⟨r,0,yB⟩=yA x) (b:w.cell? ⟨r,1,yB⟩=yA y):(results f tmps).run yK w= .ok (qg #[.agg #[x,y],e]) w:=by
 have d:(loadVar 51 ⟨r,0,yB⟩).run yK w= .ok (.agg #[x,y]) w:=by simp[loadVar,go_sem,a,b]
 rw[results_cell_tmp h,g,c];simp[asAddr,d,Result.andThen]
theorem zCy (h:w.cell? ⟨r,0,yB⟩=yA u):((w.setCell ⟨r,0,yB⟩ x).setCell ⟨r,1,yB⟩ y).cell? ⟨r,0,yB⟩=yA x:=by
 rw[qQf _ _ _ _ (by intro e;injection e with _ e2 _;omega)];exact qRj _ _ _ h
theorem zCx (h:w.cell? ⟨r,1,yB⟩=yA u):((w.setCell ⟨r,0,yB⟩ x).setCell ⟨r,1,yB⟩ y).cell? ⟨r,1,yB⟩=yA y:=
 qRj _ _ _ (u:=u) (by rw[qQf _ _ _ _ (by intro e;injection e with _ e2 _;omega)];exact h)
theorem zCs {D:Nat} (h:yM D w w') (a:D<=r):yM D w ((w'.setCell ⟨r,0,yB⟩ x).setCell ⟨r,1,yB⟩ y):=
 (h.setCell (p:=⟨r,0,yB⟩) a _).setCell (p:=⟨r,1,yB⟩) a _
theorem zZt (R i j l:Nat) (m:List Bool) (v n:Nat) (w:yC) (q:Wr w R yB 0 []) (hv:v<18446744073709551616) (O:n<=64) (N:kN m+n<=1000000)
  (r1:i≠R) (P:j≠R) (S:l≠R)
  (h:w.heap[i]? =yA (qp #[qY (pk m),qX qm (kN m:Int)] 51))
  (o:w.heap[j]? =yA (qp #[qX .u64 (v:Int)] 64))
  (p:w.heap[l]? =yA (qp #[n] 3)):
  yG yK 86 #[qc (yA ⟨R,0,yB⟩),qc (yA ⟨i,0,yB⟩),qc (yA ⟨j,0,yB⟩),qc (yA ⟨l,0,yB⟩)] w fun e w'=>e=qx (qg #[])/\∃a' c',Wr w' R a' c' (m++num v n)/\Step w w' R:=by
 have HB:=zH (zN3 R yB 0 [] m w q zq);obtain⟨d,hd⟩:=zB (pk m);unfold zAe at HB;rw[hd]at h HB;obtain⟨k,M⟩:=zB (kN m);rw[M]at h HB;obtain⟨W,X,K,L⟩:=zAf h;obtain⟨s,z⟩:=yU o p;clear h o p q hd;go_enter func86,ntmps86;go_wp2_with fail;(with_reducible refine HB.out.mono ?_);rintro e V ⟨rfl,H,c1,b,a⟩;rw[qQm]at b;obtain⟨y0,Z⟩:=zEb (a.keep P s.out qW);obtain⟨z0,Y⟩:=zEb (a.keep S z.out qW);obtain⟨B,F⟩:=yU (zYr R H c1 m v n hv O V b N) a;clear b a W X K L;go_wp2_with fail;(with_reducible refine B.out.mono ?_);rintro e w2 ⟨rfl,I,c2,f,c⟩;obtain⟨G,g⟩:=yU f (F.out.trans c);clear f c;go_wp2;go_end0;exact⟨rfl,I,c2,G.out,g.out⟩
theorem zJo (m:List Bool) (v n:Nat) (w:yC) (hv:v<18446744073709551616) (X:n<=64) (V:kN m+n<=1000000):
  yG yK 24 #[zAe m,qX .u64 (v:Int),n] w fun e w'=>e=qx (qg #[zAe (m++num v n),qX qm 0])/\yM w w w':=by
 have a0:∀(fn:Fn) (first K:Array yD) (w:yC),(Instr.makeFunc fn first K).run yK w= .ok (.func fn first K) w:=fun _ _ _ _=>rfl;obtain⟨B,z⟩:=zB w.heap.size;obtain⟨l,b⟩:=zB (w.alloc (qp #[qY (pk m),qX qm (kN m:Int)] 51));obtain⟨p,a⟩:=zB (l.alloc (qp #[qX .u64 (v:Int)] 64));obtain⟨q,d⟩:=zB (p.alloc (qp #[n] 3));obtain⟨j,c⟩:=zB (q.alloc (qp #[qY ⟨#[]⟩,qX qm 0] 51));have F:l.heap.size=B+1:=by rw[<-b,zA,z]
 have z2:p.heap.size=B+2:=by rw[<-a,zA,F]
 have G:q.heap.size=B+3:=by rw[<-d,zA,z2]
 have z4:j.heap.size=B+4:=by rw[<-c,zA,G]
 have M:yM B w l:=by rw[<-b,<-z];exact(yR _ _).alloc (qPq _) _
 have H:yM (B+1) l p:=by rw[<-a,<-F];exact(yR _ _).alloc (qPq _) _
 have s:yM (B+2) p q:=by rw[<-d,<-z2];exact(yR _ _).alloc (qPq _) _
 have k:yM (B+3) q j:=by rw[<-c,<-G];exact(yR _ _).alloc (qPq _) _
 have new:∀(W:yC) (o:Obj),(W.alloc o).heap[W.heap.size]? =yA o:=fun W o=>by show(W.heap.push o)[W.heap.size]? =_;simp
 have c1:j.heap[B]? =yA (qp #[qY (pk m),qX qm (kN m:Int)] 51):=by
  rw[k.block B za,s.block B za,H.block B za,<-b,<-z];exact new _ _
 have c2:j.heap[B+1]? =yA (qp #[qX .u64 (v:Int)] 64):=by
  rw[k.block (B+1) za,s.block (B+1) za,<-a,<-F];exact new _ _
 have c3:j.heap[B+2]? =yA (qp #[n] 3):=by
  rw[k.block (B+2) za,<-d,<-z2];exact new _ _
 have c4:j.heap[B+3]? =yA (qp #[qY ⟨#[]⟩,qX qm 0] 51):=by
  rw[<-c,<-G];exact new _ _
 have f:yM B w j:=((M.trans (H.mono za)).trans (s.mono za)).trans (k.mono za);have i:kN (num v n)=n:=by simp[num]
 have L:=zH (qAk ⟨B,0,yB⟩ ⟨B+1,0,yB⟩ ⟨B+2,0,yB⟩ (m++num v n) (by rw[qP0,i];omega) j (fun W R hR I O=>
  zZt R B (B+1) (B+2) m v n W O hv X V za za za ((I.block B za).trans c1) ((I.block (B+1) za).trans c2) ((I.block (B+2) za).trans c3)))
 have HB:=yT (∀w',yM j j w'->yM B w w') fun w' h=>f.trans (h.mono za);have S:=yT (∀w',yM j j w'->w'.heap[B+3]? =yA (qp #[qY ⟨#[]⟩,qX qm 0] 51)) fun w' h=>(h.block (B+3) za).trans c4;clear M H s k c1 c2 c3 c4 f new;unfold zAe at L⊢;rw[z];go_enter func24,ntmps24;go_wp2_with fail;clear b a d c F z2 G z4;(with_reducible refine L.out.mono ?_);rintro e N ⟨rfl,g⟩;have P:=zH (HB.out N g);obtain⟨Y,Z,g0,g1⟩:=zAf (S.out N g);clear g;go_wp2
 try simp only[Exit.inBlock,Exit.then]
 refine qP5 (zEk rfl _ _ (B+3) _ _ _ rfl rfl (zCy Y) (zCx Z)) rfl ⟨?_,zCs P.out za⟩;rw[qP0,i,qTs];rfl
end Bt
namespace Bt
variable {n B:Nat} {g h:Nat->yD} {w w':yC} {t ty:yE} {P:Program} {o:Oper} {a:Act} {K:Act->yC->Prop} {Q:Exit->Act->yC->Prop} {x:Operand} {v:yD} {f:Nat->Nat}
def cellsOf (n:Nat) (g:Nat->yD):Array yD:=(Array.range n).map g
theorem cellsOf_size (n:Nat) (g:Nat->yD):(cellsOf n g).size=n:=by simp[cellsOf]
theorem zCe (n:Nat) (g:Nat->yD) (k:Nat) (h:k<n):(cellsOf n g)[k]? =yA (g k):=by simp[cellsOf,h]
def upd (g:Nat->yD) (k:Nat) (v:yD):Nat->yD:=fun j=>if j=k then v else g j
theorem upd_same (g:Nat->yD) (k:Nat) (v:yD):upd g k v k=v:=by simp[upd]
theorem zWa (g:Nat->yD) (k j:Nat) (v:yD) (h:j≠k):upd g k v j=g j:=by simp[upd,h]
theorem cellsOf_set (n:Nat) (g:Nat->yD) (k:Nat) (v:yD):(cellsOf n g).setIfInBounds k v=cellsOf n (upd g k v):=by
 apply Array.ext_getElem?;intro j;rw[qUm];by_cases b:j<n
 .rw[zCe n g j b,zCe n _ j b];by_cases e:k=j
  .subst e;rw[qPr rfl,qPr (by rw[cellsOf_size];exact b),upd_same]
  .rw[qPt e,zWa _ _ _ _ (fun h=>e h.symm)]
 .rw[qRk (by rw[cellsOf_size];omega),qRk (by rw[cellsOf_size];omega)];by_cases e:k=j
  .subst e;rw[qPr rfl,qPt (by rw[cellsOf_size];exact b)]
  .rw[qPt e]
theorem zDm (e:∀k,k<n->g k=h k):cellsOf n g=cellsOf n h:=by
 apply Array.ext_getElem?;intro j;by_cases b:j<n
 .rw[zCe n g j b,zCe n h j b,e j b]
 .rw[qRk (by rw[cellsOf_size];omega),qRk (by rw[cellsOf_size];omega)]
def Arr (w:yC) (B:Nat) (t:yE) (n:Nat) (g:Nat->yD):Prop:=w.heap[B]? =yA (qp (cellsOf n g) t)
theorem Arr.cell (h:Arr w B t n g) (k:Nat) (b:k<n):w.cell? ⟨B,k,yB⟩=yA (g k):=by
 simp[yQ,show w.heap[B]? =_ from h,zCe n g k b]
theorem Arr.free (h:Arr w B t n g) (k:Nat):w.frozen? ⟨B,k,yB⟩=yI:=by
 simp[World.frozen?,show w.heap[B]? =_ from h]
theorem Arr.set (h:Arr w B t n g) (k:Nat) (v:yD):Arr (w.setCell ⟨B,k,yB⟩ v) B t n (upd g k v):=by
 unfold Arr;rw[<-cellsOf_set];simp[World.setCell,qQt,show w.heap[B]? =_ from h]
theorem Arr.congr (a:Arr w B t n g) (e:∀k,k<n->g k=h k):Arr w B t n h:=by
 unfold Arr;rw[<-zDm e];exact a
theorem Arr.lt (h:Arr w B t n g):B<w.heap.size:=(qQ7.1 h).1
theorem zGu (b:o.op= .load ty x) {g:yF} (d:a.eval x=qc (yA g))
  (c:(loadVar ty g).run P w= .ok v w) (h:K (a.put o.dst v) w):o.wp P a w K Q:=by
 unfold Oper.wp execOp;simp only[b,d,Instr.loadAt,Instr.sureAddr,qRl,qSo,qS2,c];exact h
theorem zPs {y:Operand} (b:o.op= .store ty x y) {g:yF} (d:a.eval x=qc (yA g)) (e:a.eval y=v)
  (c:(storeVar ty g v).run P w= .ok () w') (h:K (a.put o.dst yN) w'):o.wp P a w K Q:=by
 unfold Oper.wp execOp;simp only[b,d,e,Instr.storeAt,Instr.sureAddr,qRl,qSo,qS2,c];exact h
theorem zE2 (w:yC) (g:Nat) (t:yE) (c b:Array yD) (e:w.heap[g]? =yA (qp c t)) (i:b.size=c.size) (d:b.all (·.oneCell')=yH):
  (storeCells ⟨g,0,yB⟩ b.toList).run P w= .ok () (w.setRow g b):=by
 have:=run_storeCells_at (P:=P) g 0 t b.toList 0 c w e zq (fun v hv=>(Array.all_eq_true_iff_forall_mem.1 d) v (by simpa using hv));rw[this];congr 2;apply Array.ext';simp[i,qSv]
theorem zE8 {e:yE} (j:P.underlying t=yA (.array n e)) (d:∀w,(isAgg e).run P w= .ok yI w) (l:∀w,(sizeOf e).run P w= .ok 1 w) (b:Array yD) (k:Nat) (v:yD) (m:k<n) (i:b[k]? =yA v) (w:yC):
  (Instr.index t (.agg b) (qX qm (k:Int))).run P w= .ok v w:=by
 have c:(0:Int)<=(k:Int)/\(k:Int)<(n:Int):=⟨za,za⟩;simp[Instr.index,asIntOf,qRl,qTo j,c,l,part,d,i];omega
def zAm (w:yC) (B:Nat) (t:yE) (n:Nat) (f:Nat->Nat):Prop:=Arr w B t n fun j=>qX qm (f j:Int)
def zAy (f:Nat->Nat) (k v:Nat):Nat->Nat:=fun j=>if j=k then v else f j
theorem zCj (f:Nat->Nat) (k v:Nat):zAy f k v k=v:=by simp[zAy]
theorem zBb (f:Nat->Nat) (k v j:Nat) (h:j≠k):zAy f k v j=f j:=by simp[zAy,h]
theorem zAm.cell (h:zAm w B t n f) (k:Nat) (b:k<n):w.cell? ⟨B,k,yB⟩=yA (qX qm (f k:Int)):=Arr.cell h k b
theorem zAm.free (h:zAm w B t n f) (k:Nat):w.frozen? ⟨B,k,yB⟩=yI:=Arr.free h k
theorem zAm.set (h:zAm w B t n f) (k v:Nat) {V:Int} (b:V=(v:Int)):zAm (w.setCell ⟨B,k,yB⟩ (qX qm V)) B t n (zAy f k v):=by
 subst b;refine(Arr.set h k (qX qm (v:Int))).congr (fun j _=> ?_);unfold upd zAy;by_cases e:j=k
 .simp[e]
 .simp[e]
theorem zAm.congr {g:Nat->Nat} (a:zAm w B t n f) (e:∀k,k<n->f k=g k):zAm w B t n g:=Arr.congr a (fun k b=>by rw[e k b])
theorem zAm.keep (h:zAm w B t n f) (e:w'.heap[B]? =w.heap[B]?):zAm w' B t n f:=e.trans h
theorem zAm.lt (h:zAm w B t n f):B<w.heap.size:=Arr.lt h
theorem zAm.zeros (B:Nat) (w:yC) (n:Nat) (t:yE) (b:w.heap.size=B):zAm (w.alloc (qp (cellsOf n (fun _=>qX qm 0)) t)) B t n (fun _=>0):=by
 show _=_;rw[<-b];show(w.heap.push _)[w.heap.size]? =_;simp
end Bt
namespace Bt
variable {w w':yC} {a:Option yF} {ls:List (List Bool)}
def LB:Kit.Lay (List Bool) where
 k:=2
 pos:=za
 cl m:=[qY (pk m),qX qm (kN m:Int)]
 len _:=rfl
 one m:=by simp[Value.oneCell']
theorem zQ2 {g o:Nat} (h:w'.heap[g]? =w.heap[g]?):w'.cell? ⟨g,o,yB⟩=w.cell? ⟨g,o,yB⟩:=by simp[yQ,h]
structure RdB (w:yC) (a:Option yF) (ls:List (List Bool)):Prop where
 rd:Kit.Rd LB w a ls
 ty:∀p,a=yA p->∃cs f,w.heap[p.block]? =yA (qp cs 51 f)
theorem zGz {k:Nat} {o:Obj} (h:w.heap[k]? =yA o):k<w.heap.size:=by
 rcases qP8 k w.heap.size with b|a
 .exact b
 .rw[qRk a]at h;cases h
theorem RdB.below {D:Nat} (h:RdB w a ls) (b:yM D w w') (e:D=w.heap.size):RdB w' a ls:=by
 subst e;refine⟨h.rd.below b rfl,fun p g=> ?_⟩;obtain⟨d,f,c⟩:=h.ty p g;exact⟨d,f,(b.block _ (zGz c)).trans c⟩
theorem RdB.step {R:Nat} (h:RdB w a ls) (o:Step w w' R) (n:∀p,a=yA p->p.block≠R):RdB w' a ls:=by
 have l:∀p,a=yA p->w'.heap[p.block]? =w.heap[p.block]? :=by
  intro p g;obtain⟨k,f,d⟩:=h.ty p g;exact o.old _ (zGz d) (n p g) (fun k f e=>by rw[d]at e;injection e with e;injection e with _ e _;exact absurd e qW)
 refine⟨fun j x q=> ?_,fun p g=> ?_⟩
 .obtain⟨b,c,m,d⟩:=h.rd j x q;exact⟨b,c,m,fun i hi=>(zQ2 (l _ m)).trans (d i hi)⟩
 .obtain⟨k,f,d⟩:=h.ty p g;exact⟨k,f,(l p g).trans d⟩
theorem RdB.at_ (h:RdB w a ls) (j:Nat) (f:j<kN ls):
  ∃b c,a=yA ⟨b,c,yB⟩/\w.cell? ⟨b,c+j*2,yB⟩=yA (qY (pk ls[j]))/\w.cell? ⟨b,c+j*2+1,yB⟩=yA (qX qm (ls[j].length:Int)):=by
 obtain⟨b,c,e,d⟩:=h.rd.at_ j f;exact⟨b,c,e,d 0 qW,d 1 qW⟩
theorem zX1 (ls:List (List Bool)) (j:Nat) (b:j<kN ls):(ls.take (j+1)).flatten=(ls.take j).flatten++ls[j]:=by
 rw[take_one ls j b,qR0];simp
theorem qD3 (ls:List (List Bool)) (j:Nat):(ls.take j).flatten.length<=kN ls.flatten:=by
 conv=>rhs;rw[<-qSa j ls]
 rw[qR0,qP0];omega
theorem qBf (R Q:Nat) (a:Option yF) (n c:Nat) (ls:List (List Bool)) (w:yC) (Y:Wr w R yB 0 []) (W:kN ls=n) (hc:n<=c) (a0:n<=1000000000) (X:RdB w a ls) (P:∀p,a=yA p->p.block≠R) (S:kN ls.flatten<=1000000)
  (r1:Q≠R) (q:w.heap[Q]? =yA (qp #[qZ a n c] 70)):
  yG yK 103 #[qc (yA ⟨R,0,yB⟩),qc (yA ⟨Q,0,yB⟩)] w fun e w'=>e=qx (qg #[])/\∃a' c',Wr w' R a' c' ls.flatten/\Step w w' R:=by
 obtain⟨K,z⟩:=zEb q;obtain⟨HW,L,HS,Z,HL⟩:=yY Y W X P S;clear q Y W X P S;go_enter func103,ntmps103;go_wp2;clear K z;go_loopw [7] (fun i wr=>∃j:Nat,j<=n/\i=qX qm j/\yL (∃a' c',Wr wr R a' c' (ls.take j).flatten)/\yL (Step w wr R)) (fun i _=>n-(intOf i).toNat)
 case atStart=>exact⟨0,za,rfl,zH ⟨yB,0,by rw[qS6];exact HW.out⟩,zH (Step.refl _ _)⟩
 case round=>
  obtain⟨j,hj,rfl,l,f⟩:=hrel;by_cases u:j<n
  .obtain⟨a',c',d⟩:=l.out;have t:j<kN ls:=by rw[L.out];exact u
   obtain⟨b,off,rfl,M,N⟩:=(HS.out.step f.out Z.out).at_ j t;have g:=zH (zX1 ls j t);have r:=yT ((ls.take j).flatten.length+ls[j].length<=1000000) (by have q:=qD3 ls (j+1);have h2:=HL.out;rw[g.out,qP0]at q;omega);obtain⟨m,V⟩:=zB (ls[j]);rw[V]at M N g r;clear V;obtain⟨y,h⟩:=zB (wr.alloc (qp #[qY (pk m),qX qm (kN m:Int)] 51));have k:yM wr wr y:=by rw[<-h];exact(yR _ _).alloc (qPq _) _
   obtain⟨x,G⟩:=yU (d.below k rfl) (f.out.trans (Step.of_below k (qP7 d.lt)));have O:y.heap[wr.heap.size]? =yA (qp #[qY (pk m),qX qm (kN m:Int)] 51):=by
    rw[<-h];show(wr.heap.push _)[wr.heap.size]? =_;simp
   obtain⟨K,x1,z,f1⟩:=zAf O;have I:=zH (zN3 R a' c' (ls.take j).flatten m y x.out r.out);unfold zAe at I;clear d k O;go_wp2_with fail;clear M N K x1 z f1 h;(with_reducible refine I.out.mono ?_);clear I;rintro e w2 ⟨rfl,a2,c2,o,s⟩;have F:=yT (∃a' c',Wr w2 R a' c' (ls.take (j+1)).flatten) ⟨a2,c2,by rw[g.out];exact o⟩;have B:=zH (G.out.trans s);clear o s;go_wp2;go_roundw
   case rel=>exact⟨j+1,za,by go_num,F,B⟩
   case measure=>exact qV
  .obtain rfl:j=n:=za
   obtain⟨a',c',d⟩:=l.out;rw[qQc (by rw[L.out];omega)]at d;have H:=zH d;clear d l;go_wp2;go_end0;exact⟨rfl,a',c',H.out,f.out⟩
theorem zFs (a:Option yF) (n c:Nat) (ls:List (List Bool)) (w:yC) (L:kN ls=n) (V:n<=c) (N:n<=1000000000) (F:RdB w a ls) (y:kN ls.flatten<=1000000):
  yG yK 31 #[qZ a n c] w fun e w'=>e=qx (qg #[zAe ls.flatten,qX qm 0])/\yM w w w':=by
 have Z:∀(fn:Fn) (first G:Array yD) (w:yC),(Instr.makeFunc fn first G).run yK w= .ok (.func fn first G) w:=fun _ _ _ _=>rfl;obtain⟨B,r⟩:=zB w.heap.size;obtain⟨s,g⟩:=zB (w.alloc (qp #[qZ a n c] 70));obtain⟨q,b⟩:=zB (s.alloc (qp #[qY ⟨#[]⟩,qX qm 0] 51));have t:s.heap.size=B+1:=by rw[<-g,zA,r]
 have z2:q.heap.size=B+2:=by rw[<-b,zA,t]
 have H:yM B w s:=by rw[<-g,<-r];exact(yR _ _).alloc (qPq _) _
 have x:yM (B+1) s q:=by rw[<-b,<-t];exact(yR _ _).alloc (qPq _) _
 have new:∀(W:yC) (o:Obj),(W.alloc o).heap[W.heap.size]? =yA o:=fun W o=>by show(W.heap.push o)[W.heap.size]? =_;simp
 have c1:q.heap[B]? =yA (qp #[qZ a n c] 70):=by
  rw[x.block B za,<-g,<-r];exact new _ _
 have c2:q.heap[B+1]? =yA (qp #[qY ⟨#[]⟩,qX qm 0] 51):=by
  rw[<-b,<-t];exact new _ _
 have j:yM B w q:=H.trans (x.mono za);have m:RdB q a ls:=F.below j r.symm;have l:∀p,a=yA p->p.block<B:=fun p z=>by
  obtain⟨cs,f,h⟩:=F.ty p z;rw[<-r];exact zGz h
 have u:=zH (qAl ⟨B,0,yB⟩ ls.flatten y q (fun W R hR I O=>
  qBf R B a n c ls W O L V N (m.below I rfl) (fun p z=>by have:=l p z;omega) y za ((I.block B za).trans c1)))
 have HB:=yT (∀w',yM q q w'->yM B w w') fun w' h=>j.trans (h.mono za);have S:=yT (∀w',yM q q w'->w'.heap[B+1]? =yA (qp #[qY ⟨#[]⟩,qX qm 0] 51)) fun w' h=>(h.block (B+1) za).trans c2;clear H x c1 c2 j new F m l L y;unfold zAe at u⊢;obtain⟨d,hd⟩:=zB (pk ls.flatten);obtain⟨k,K⟩:∃k:Int,(kN ls.flatten:Int)=k:=⟨_,rfl⟩;rw[hd,K]at u⊢;clear hd K;rw[r];go_enter func31,ntmps31;go_wp2_with fail;clear g b t z2;(with_reducible refine u.out.mono ?_);rintro e M ⟨rfl,i⟩;have P:=zH (HB.out M i);obtain⟨X,Y,g0,g1⟩:=zAf (S.out M i);clear i;go_wp2
 try simp only[Exit.inBlock,Exit.then]
 exact qP5 (zEk rfl _ _ (B+1) _ _ _ rfl rfl (zCy X) (zCx Y)) rfl ⟨rfl,zCs P.out za⟩
end Bt
namespace Rg
open Go.Shelf
variable {C:Nat->yE->Prop} {A B W W' w:yC} {l gf:Nat} {o o':Obj} {P:Program} {g:Operand} {ps:Array Tmp} {assign body:Code} {Q:Exit->Act->yC->Prop} {a:Act} {lb:Array yD}
attribute [local go_sem] Oper.semAt_some
theorem putObj_size (W:yC) (l:Nat) (o:Obj):(W.putObj l o).heap.size=W.heap.size:=by simp[World.putObj]
def Sc (C:Nat->yE->Prop) (W W':yC):Prop:=W.heap.size<=W'.heap.size/\∀k b t f,W.heap[k]? =yA (qp b t f)->¬C k t->W'.heap[k]? =yA (qp b t f)
theorem Sc.refl (C:Nat->yE->Prop) (W:yC):Sc C W W:=⟨qPq _,fun _ _ _ _ h _=>h⟩
theorem Sc.trans {D:yC} (h:Sc C A B) (g:Sc C B D):Sc C A D:=⟨qP2 h.1 g.1,fun k b t f d c=>g.2 k b t f (h.2 k b t f d c) c⟩
theorem Sc.mono {D:Nat->yE->Prop} (h:Sc C A B) (hd:∀k t,C k t->D k t):Sc D A B:=⟨h.1,fun k b t f d c=>h.2 k b t f d (fun e=>c (hd k t e))⟩
theorem Sc.below (h:yM A A B):Sc C A B:=⟨h.size,fun k d t f c _=>(h.block k (by
 rcases qP8 k A.heap.size with b|a
 .exact b
 .rw[qRk a]at c;cases c)).trans c⟩
theorem Sc.left (e:W.heap[l]? =yA o) (i:o.isCells=yI) (h:Sc C (W.putObj l o') W'):Sc C W W':=by
 refine⟨by have:=h.1;rwa[putObj_size]at this,fun k c t f b d=>h.2 k c t f ?_ d⟩;rw[World.putObj_heap_other]
 .exact b
 .rintro rfl;rw[e]at b;obtain rfl:=qPv b;cases i
theorem Sc.right (i:W'.heap[l]? =yA o) (j:o.isCells=yI) (h:Sc C W W'):Sc C W (W'.putObj l o'):=by
 refine⟨by rw[putObj_size];exact h.1,fun k c t f e d=> ?_⟩;have b:=h.2 k c t f e d;rw[World.putObj_heap_other]
 .exact b
 .rintro rfl;rw[i]at b;obtain rfl:=qPv b;cases j
def qBt {α:Type} (P:Program) (gf:Nat) (lb:Array yD) (E:α->yC->Array yD->Prop) (R:yC->yC->Prop) (C:Nat->yE->Prop) (S:List α) (W:yC):Prop:=
 ∀(l:Nat) (J c:List α->yC->Prop),(∀pre A B,J pre A->R A B->J pre B)->
  (∀pre x b d,J pre b->E x b d->pre++[x]<+:S->YieldAt Fence.wide 1 P l d b fun e W'=>
   (e=qx (qh yH)/\J (pre++[x]) W'/\Sc C b W')\/(e=qx (qh yI)/\c (pre++[x]) W'))->
  J [] W->CallsIn Fence.wide 2 P gf (#[.func (.yield l) #[] #[]]++lb) W fun e W'=>(∃v,e=qx v)/\(J S W'\/∃pre,pre<+:S/\c pre W')
def qBh {α:Type} (C:Nat->yE->Prop) (I:List α->yC->Prop) (b:Code->List α->yC->Prop) (xs:List α) (W:yC):Exit->Act->yC->Prop
 | .normal,_,W'=>KeepsOthers W W'/\Sc C W W'/\I xs W'
 | .ret,_,W'=>KeepsOthers W W'/\b .ret xs W'
 |_,_,_=>False
theorem zL9 {α:Type}
  (hg:a.eval g= .func (.func gf) #[] lb) (eg:∀args w,(callFunc gf args).run P w= .ok (.enter gf args) w) (E:α->yC->Array yD->Prop) (R:yC->yC->Prop) (C:Nat->yE->Prop) (S:List α) (hR:∀A B,R A B->KeepsOthers A B)
  (ah:∀x W q,E x W q->q.size=ps.size) (hE:∀x W l o o' q,W.heap[l]? =yA o->o.isCells=yI->E x W q->E x (W.putObj l o') q)
  (aa:∀W,yM w w W->qBt P gf lb E R C S W)
  (I:List α->yC->Prop) (Ix:Code->List α->yC->Prop)
  (hI:∀pre W l o o',w.heap.size<=l->W.heap[l]? =yA o->o.isCells=yI->I pre W->I pre (W.putObj l o'))
  (a5:∀c pre W l o o',w.heap.size<=l->W.heap[l]? =yA o->o.isCells=yI->Ix c pre W->Ix c pre (W.putObj l o'))
  (ab:∀pre A B,I pre A->R A B->I pre B) (h0:∀o o',I [] ((w.alloc o).alloc o')) (Jn:List α->α->Array yD->Act->yC->Prop)
  (ad:∀pre x q ac W l o o',w.heap.size<=l->W.heap[l]? =yA o->o.isCells=yI->Jn pre x q ac W->Jn pre x q ac (W.putObj l o'))
  (a6:∀(l:Nat) (pre:List α) (x:α) (W:yC) (q:Array yD) (K:Act->yC->Prop),w.heap.size<W.heap.size->I pre W->E x W q->(∀ac Wc,KeepsOthers W Wc->Sc C W Wc->Jn pre x q ac Wc->K ac Wc)->
   assign.wpIn (Fence.wide.inRound l) 1 P (Exit.then K (fun _ _ _=>False)) {tmps:=(ps.zip q).foldl (fun t (p,v)=>t.setIfInBounds p v) a.tmps,defers:=[]} W)
  (a7:∀(l:Nat) (pre:List α) (x:α) (W:yC) (q:Array yD) (ac:Act),w.heap.size<W.heap.size->Jn pre x q ac W->pre++[x]<+:S->body.wpIn (Fence.wide.inRound l) 1 P (qBh C I Ix (pre++[x]) W) ac W)
  (a8:∀(D:Nat) (W:yC),w.heap.size<=D->I S W->W.heap[D]? =yA (qw (yA []))->Q .normal {a with defers:={target:= .collected D,args:= #[]}::a.defers} W)
  (a9:∀(D:Nat) (c:Code) (pre:List α) (W:yC),w.heap.size<=D->pre<+:S->Ix c pre W->W.heap[D]? =yA (qw (yA []))->c.wpIn Fence.wide 3 P Q {a with defers:={target:= .collected D,args:= #[]}::a.defers} W):
  (Code.rangeFunc g ps assign body).wpIn Fence.wide 3 P Q a w:=by
 refine wpIn_rangeFunc ?_;intro fn ae;obtain⟨b,d⟩:∃b:LoopState->Option Code->Loop,b=fun st pe=>{state:=st,pending:=pe,fn,tmps:=a.tmps,params:=ps,assign,body,defers:=w.heap.size}:=⟨_,rfl⟩;obtain⟨W1,k⟩:=zB ((w.alloc (qw (yA []))).alloc (.loop (b .ready yB)));have Z:W1.heap[w.heap.size+1]? =yA (.loop (b .ready yB)):=by
  rw[<-k];have:=World.alloc_heap_new (w.alloc (qw (yA []))) (.loop (b .ready yB));rwa[qTt]at this
 have a2:W1.heap[w.heap.size]? =yA (qw (yA [])):=by
  rw[<-k];exact(Below.heap_alloc _ _ _ zm).trans (World.alloc_heap_new w _)
 have V:yM w w W1:=by rw[<-k];exact((yR _ w).alloc (qPq _) _).alloc zm _
 refine⟨w.heap.size+1,[{target:= .collected w.heap.size,args:= #[]}],W1,{target:= .fn (.func gf) lb,args:= #[.func (.yield (w.heap.size+1)) #[] #[]]},W1,gf,
  #[.func (.yield (w.heap.size+1)) #[] #[]]++lb,W1,?_,?_,?_,?_,fun _=>za,?_⟩
 .rw[<-k,d];exact run_enterLoop_outer _ _ _ _ _
 .simp only[resolve,hg];simp[go_sem]
 .intro f' ai;trivial
 .simp[invoke,go_sem,eg]
 .refine(aa W1 V (w.heap.size+1)
   (fun pre W=>I pre W/\W.heap[w.heap.size+1]? =yA (.loop (b .ready yB))/\W.heap[w.heap.size]? =yA (qw (yA [])))
   (fun pre W=>∃c,Ix c pre W/\W.heap[w.heap.size+1]? =yA (.loop (b .done (yA c)))/\W.heap[w.heap.size]? =yA (qw (yA [])))
   (fun pre A B hs h=>⟨ab pre A B hs.1 h,(hR _ _ h).same _ _ hs.2.1 rfl,(hR _ _ h).same _ _ hs.2.2 rfl⟩)
   ?_ ⟨by rw[<-k];exact h0 _ _,Z,a2⟩).mono ?_
  .rintro pre x W q ⟨hi,y,hk⟩ H M;have u:w.heap.size+1<W.heap.size:=(qQ7.1 y).1;have hy:=run_yield (P:=P) (args:=q) y (by rw[d];exact ah _ _ _ H);rw[d]at hy;refine⟨fn,_,assign,body,hy,roundIn_of_wpIn ae (a6 _ pre x W q _ za hi H (fun ac Wc a4 ag af=>⟨_,run_beginRound (a4.same _ _ y rfl) (by rw[d]),?_⟩))⟩;have O:=y;have X:=hk;have y:=a4.same _ _ O rfl;have hk:=a4.same _ _ X rfl;have u:w.heap.size+1<Wc.heap.size:=(qQ7.1 y).1;obtain⟨W2,j⟩:=zB (Wc.putObj (w.heap.size+1) (.loop {b .ready yB with state:= .busy}));have G:W2.heap[w.heap.size+1]? =yA (.loop {b .ready yB with state:= .busy}):=by rw[<-j];exact World.putObj_heap_same u
   have N:W2.heap[w.heap.size]? =yA (qw (yA [])):=by rw[<-j];exact(World.putObj_heap_other za).trans hk
   have a1:w.heap.size<W2.heap.size:=by have:=(qQ7.1 G).1;omega
   have Y:Jn pre x q ac W2:=by rw[<-j];exact ad _ _ _ _ _ _ _ _ za y rfl af
   have s:body.wpIn (Fence.wide.inRound (w.heap.size+1)) 1 P _ ac W2:=a7 (w.heap.size+1) pre x W2 q ac a1 Y M;rw[j];refine wpIn_mono s ?_;have F:∀(z:Option Code) (W3:yC),KeepsOthers W2 W3->
     (Instr.endRound (w.heap.size+1) z).run P W3= .ok (qh z.isNone) (W3.putObj (w.heap.size+1) (.loop (b (if z.isNone then .ready else .done) z)))/\
     W3.heap[w.heap.size+1]? =yA (.loop {b .ready yB with state:= .busy})/\
     (W3.putObj (w.heap.size+1) (.loop (b (if z.isNone then .ready else .done) z))).heap[w.heap.size+1]? =yA (.loop (b (if z.isNone then .ready else .done) z))/\
     (W3.putObj (w.heap.size+1) (.loop (b (if z.isNone then .ready else .done) z))).heap[w.heap.size]? =yA (qw (yA [])):=fun z W3 i=>by
    have f:=i.same _ _ G rfl;have:=run_endRound (P:=P) z f;rw[d]at this⊢;exact⟨this,by rw[d]at f;exact f,World.putObj_heap_same (qQ7.1 f).1,(World.putObj_heap_other za).trans (i.same _ _ N rfl)⟩
   rintro e a3 W3 hp;cases e with
   |normal=>
    obtain⟨i,L,r⟩:=hp;obtain⟨hr,f,m,n⟩:=F yB W3 i;exact⟨_,_,hr,qz ⟨rfl,⟨hI _ _ _ _ _ za f rfl r,m,n⟩,ag.trans (Sc.right f rfl (Sc.left y rfl (by rw[j];exact L)))⟩⟩
   |ret=>
    obtain⟨i,r⟩:=hp;obtain⟨hr,f,m,n⟩:=F (yA .ret) W3 i;exact⟨_,_,hr,qy ⟨rfl,.ret,a5 _ _ _ _ _ _ za f rfl r,m,n⟩⟩
   |exit id=>exact hp.elim
   |goto t=>exact hp.elim
   |panic ch=>exact hp.elim
   |outgrown=>exact hp.elim
  .rintro e W2 ⟨⟨v,rfl⟩,(⟨hi,y,hk⟩|⟨pre,a0,c,hi,y,hk⟩)⟩
   .exact⟨yB,_,by have:=run_endLoop (P:=P) y (by rw[d];simp);rw[d]at this;exact this,a8 _ _ (qPq _) (hI _ _ _ _ _ za y rfl hi) ((World.putObj_heap_other za).trans hk)⟩
   .exact⟨yA c,_,by have:=run_endLoop (P:=P) y (by rw[d];simp);rw[d]at this;exact this,a9 _ c pre _ (qPq _) a0 (a5 _ _ _ _ _ _ za y rfl hi) ((World.putObj_heap_other za).trans hk)⟩
abbrev Sb (C:Nat->Prop) (W W':yC):Prop:=Sc (fun k _=>C k) W W'
abbrev zR7 {α:Type} (P:Program) (gf:Nat) (lb:Array yD) (E:α->yC->Array yD->Prop) (R:yC->yC->Prop) (C:Nat->Prop) (S:List α) (W:yC):Prop:=qBt P gf lb E R (fun k _=>C k) S W
abbrev zJ6 {α:Type} (C:Nat->Prop) (I:List α->yC->Prop) (Ix:Code->List α->yC->Prop) (xs:List α) (W:yC):Exit->Act->yC->Prop:=qBh (fun k _=>C k) I Ix xs W
theorem zDt {α:Type}
  (X:a.eval g= .func (.func gf) #[] lb) (L:∀args w,(callFunc gf args).run P w= .ok (.enter gf args) w) (E:α->yC->Array yD->Prop) (R:yC->yC->Prop) (C:Nat->Prop) (S:List α) (V:∀A B,R A B->KeepsOthers A B)
  (H:∀x W b,E x W b->b.size=ps.size) (n:∀x W l o o' b,W.heap[l]? =yA o->o.isCells=yI->E x W b->E x (W.putObj l o') b)
  (z:∀W,yM w w W->zR7 P gf lb E R C S W)
  (I:List α->yC->Prop) (d:Code->List α->yC->Prop)
  (q:∀pre W l o o',w.heap.size<=l->W.heap[l]? =yA o->o.isCells=yI->I pre W->I pre (W.putObj l o'))
  (G:∀c pre W l o o',w.heap.size<=l->W.heap[l]? =yA o->o.isCells=yI->d c pre W->d c pre (W.putObj l o'))
  (F:∀pre A B,I pre A->R A B->I pre B) (M:∀o o',I [] ((w.alloc o).alloc o')) (i:Array yD->Act)
  (r:∀(l:Nat) (x:α) (W:yC) (b:Array yD) (K:Act->yC->Prop),E x W b->K (i b) W->
   assign.wpIn (Fence.wide.inRound l) 1 P (Exit.then K (fun _ _ _=>False)) {tmps:=(ps.zip b).foldl (fun t (p,v)=>t.setIfInBounds p v) a.tmps,defers:=[]} W)
  (s:∀(l:Nat) (pre:List α) (x:α) (W:yC) (b:Array yD),w.heap.size<W.heap.size->I pre W->E x W b->pre++[x]<+:S->body.wpIn (Fence.wide.inRound l) 1 P (zJ6 C I d (pre++[x]) W) (i b) W)
  (u:∀(D:Nat) (W:yC),w.heap.size<=D->I S W->W.heap[D]? =yA (qw (yA []))->Q .normal {a with defers:={target:= .collected D,args:= #[]}::a.defers} W)
  (y:∀(D:Nat) (c:Code) (pre:List α) (W:yC),w.heap.size<=D->pre<+:S->d c pre W->W.heap[D]? =yA (qw (yA []))->c.wpIn Fence.wide 3 P Q {a with defers:={target:= .collected D,args:= #[]}::a.defers} W):
  (Code.rangeFunc g ps assign body).wpIn Fence.wide 3 P Q a w:=
 zL9 X L E R (fun k _=>C k) S V H n z I d q G F M (fun pre x b f W=>f=i b/\I pre W/\E x W b)
  (fun pre x b f W l o o' N j m h=>⟨h.1,q pre W l o o' N j m h.2.1,n x W l o o' b j m h.2.2⟩)
  (fun l pre x W b K _ hi e O=>r l x W b K e (O _ _ (KeepsOthers.refl _) (Sc.refl _ _) ⟨rfl,hi,e⟩))
  (fun l pre x W b f hw Y Z=>by obtain⟨rfl,hi,e⟩:=Y;exact s l pre x W b hw hi e Z) u y
end Rg
end Go.Proofs.YtppnakkaljbmbaaGreatDoor
