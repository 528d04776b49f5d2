/- Steps of a proof; no condition beyond what each states. -/
import Derived.Lib.Hide
import Derived.Deep.RegionHeld
import Derived.Lib.SmallJoins
import Derived.StillTailTactics
set_option linter.unusedVariables false
set_option linter.unusedSimpArgs false
set_option maxRecDepth 100000
set_option maxHeartbeats 8000000
namespace Go.Proofs.YtppnakkaljbmbaaGreatDoor
theorem zH {p:Prop} (h:p):Go.RowKit.Hid p:=Lib.hid h
theorem zB {α:Type} (a:α):∃b,a=b:=⟨a,rfl⟩
abbrev zP (b o:Nat):Value:= .pointer (some ⟨b,o,none⟩)
abbrev zI (n:Nat):Value:= .int .i64 (n:Int)
namespace Kit
open Go.RowKit
variable {w w':World} {a:Option Addr} {xs:List Value} {B n c:Nat} {e:TypeId} {P:Program}
theorem zJ3 (len n:Nat) (N:Int) (hN:N=(n:Int)):∃M:Nat,(if N<(len:Int)then N else(len:Int))=(M:Int)/\M<=len/\M<=n/\RowKit.Hid (M=min len n):=by
 subst hN
 refine⟨min len n,?_,by omega,by omega,rfl⟩
 split<;>omega
theorem zRp (s:ByteArray) (n:Nat) (N:Int) (hN:N=(n:Int)):∃(M:Nat) (t:ByteArray),(if N<(s.size:Int)then N else(s.size:Int))=(M:Int)/\M<=s.size/\s.extract 0 M=t/\t.size<=n/\RowKit.Hid (M=min s.size n):=by
 obtain⟨M,h1,h2,h3,h4⟩:=zJ3 s.size n N hN
 exact⟨M,_,h1,h2,rfl,by rw[ByteArray.size_extract];omega,h4⟩
def Src (w:World) (a:Option Addr) (xs:List Value):Prop:=∀j u,xs[j]? =some u->∃b off,a=some ⟨b,off,none⟩/\w.cell? ⟨b,off+j,none⟩=some u
theorem addr_add (b off i:Nat):(⟨b,off,none⟩:Addr).add i=⟨b,off+i,none⟩:=by
 unfold Addr.add;split<;>simp_all
theorem Src.below (h:Src w a xs) (hb:Below w.heap.size w w'):Src w' a xs:=by
 intro j u hu
 obtain⟨b,off,ha,hc⟩:=h j u hu
 exact⟨b,off,ha,by rw[hb.cell (block_lt_of_cell hc),hc]⟩
theorem Src.nil (w:World) (a:Option Addr):Src w a []:=by intro j u hu;simp at hu
theorem Src.take (h:Src w a xs) (n:Nat):Src w a (xs.take n):=by
 intro j u hu
 refine h j u ?_
 rw[List.getElem?_take]at hu
 split at hu
 ·exact hu
 ·cases hu
theorem zAs (w:World) (v:Value) (t:TypeId):Src (w.alloc (.cells #[v] t)) (some ⟨w.heap.size,0,none⟩) [v]:=by
 intro j u hu
 match j,hu with
 |0,hu=>exact⟨_,_,rfl,by simp at hu;subst hu;simp⟩
def Own (w:World) (B:Nat) (e:TypeId) (a:Option Addr) (n c:Nat) (xs:List Value):Prop:=w.ownsRow B e 1 (.slice a n c) n xs
theorem Own.len (h:Own w B e a n c xs):xs.length=n:=by
 have:=h.1;omega
theorem Own.start (w:World) (B:Nat) (e:TypeId):Own w B e none 0 0 []:=World.ownsRow_nil w B e 1
theorem Own.at_ (h:Own w B e a n c xs) (hn:0<n):
  ∃g,a=some ⟨g,0,none⟩/\B<=g/\g<w.heap.size/\n<=c/\(∀j,j<n->w.cell? ⟨g,j,none⟩=xs[j]?)/\(∀j,w.frozen? ⟨g,j,none⟩=false):=by
 have h0:=h
 obtain⟨_,h1⟩:=h
 rcases h1 with⟨_,h2⟩|⟨g,cap,cur,hv,hb,hg,hnc,hcm,hs,ht⟩
 ·omega
 ·injection hv with ha hn hc
  subst ha hc
  refine⟨g,rfl,hb,?_,hnc,fun j hj=> ?_,fun j=> ?_⟩
  ·rcases Nat.lt_or_ge g w.heap.size with hlt|hge
   ·exact hlt
   ·rw[Array.getElem?_eq_none hge]at hg;cases hg
  ·exact World.ownsRow.cellAt h0 j (by omega)
  ·exact World.ownsRow.frozenAt h0 j
theorem Own.src (h:Own w B e a n c xs):Src w a xs:=by
 intro j u hu
 have hl:=h.len
 have hj:j<xs.length:=by
  rcases Nat.lt_or_ge j xs.length with h1|h1
  ·exact h1
  ·rw[List.getElem?_eq_none h1]at hu;cases hu
 obtain⟨g,ha,_,_,_,hc,_⟩:=h.at_ (by omega)
 exact⟨g,0,ha,by rw[Nat.zero_add,hc j (by omega),hu]⟩
theorem Own.below {D:Nat} (h:Own w B e a n c xs) (hb:Below D w w') (hD:w.heap.size<=D):Own w' B e a n c xs:=by
 obtain⟨h1,h2⟩:=h
 refine⟨h1,?_⟩
 rcases h2 with h2|⟨g,cap,cur,hv,hbg,hg,r⟩
 ·exact .inl h2
 ·refine .inr ⟨g,cap,cur,hv,hbg,?_,r⟩
  have hlt:g<w.heap.size:=by
   rcases Nat.lt_or_ge g w.heap.size with hlt|hge
   ·exact hlt
   ·rw[Array.getElem?_eq_none hge]at hg;cases hg
  rw[hb.block g (by omega),hg]
theorem Own.alloc (h:Own w B e a n c xs) (o:Obj):Own (w.alloc o) B e a n c xs:=World.ownsRow.alloc h o
theorem Own.base {B':Nat} (h:Own w B e a n c xs) (hB:B'<=B):Own w B' e a n c xs:=by
 obtain⟨h1,h2⟩:=h
 refine⟨h1,?_⟩
 rcases h2 with h2|⟨g,cap,cur,hv,hbg,r⟩
 ·exact .inl h2
 ·exact .inr ⟨g,cap,cur,hv,by omega,r⟩
structure One (P:Program) (t e:TypeId) (bytes:Nat):Prop where
 ut:P.underlying t=some (.slice e)
 row:∃z:Value,(P.info? e).map (fun i=>(i.zero,i.size,i.bytes))=some (some z,1,bytes)/\z.cells.size=1
theorem Own.app {bytes:Nat} {t ty:TypeId} (o:One P t e bytes) (h:Own w B e a n c xs)
  (x:Option Addr) (m cx:Nat) (news:List Value) (hs:Src w x news) (hm:news.length=m) (hx:x=none->m=0/\cx=0) (h1:∀u∈news,u.oneCell'=true)
  (h63:n+m<=maxLen) (hbytes:(n+m)*bytes<=140737488355328) (hbase:B<=w.heap.size):
  ∃a' c' w',(Builtin.append_ #[t,t] ty #[.slice a n c,.slice x m cx]).run P w= .ok (.slice a' (n+m) c') w'/\Own w' B e a' (n+m) c' (xs++news)/\w.grownBy w' (Value.ownBlock (.slice a n c)):=by
 obtain⟨z,hz,hzs⟩:=o.row
 obtain⟨i,hi,hz0,hz1,hz2⟩:=info_parts hz
 have form:∀{v:Value} {w':World} {k:Nat} {ys:List Value},w'.ownsRow B e 1 v k ys->∃a' c',v= .slice a' k c':=by
  intro v w' k ys hv
  rcases Joins.ownsRow_forms hv with⟨rfl,rfl⟩|⟨g,cap,rfl⟩
  ·exact⟨_,_,rfl⟩
  ·exact⟨_,_,rfl⟩
 cases x with
 |none=>
  obtain⟨rfl,rfl⟩:=hx rfl
  have hn:news=[]:=List.eq_nil_of_length_eq_zero hm
  subst hn
  refine⟨a,c,w,run_append_owned_none (P:=P) (w:=w) B t ty e i 1 o.ut hi _ n xs h,by simpa using h,⟨rfl,rfl,rfl,Nat.le_refl _,fun _ _ _=>rfl⟩⟩
 |some y=>
  obtain⟨v',w',hr,ho,hg,_⟩:=run_append_own (P:=P) w B t ty e i z 1 bytes o.ut hi hz0 hz1 hz2 hzs (by omega) _ n xs h y m cx news (by omega)
   (fun j u hu=>by
    obtain⟨b',off',ha,hc⟩:=hs j u hu
    injection ha with ha
    subst ha
    rw[addr_add];exact hc) h1 h63 hbytes hbase
  obtain⟨a',c',rfl⟩:=form ho
  exact⟨a',c',w',hr,ho,hg⟩
theorem zAr {ops:Array Oper} {rest:List Oper} {o:Oper} {a:Act} {Q:Exit->Act->World->Prop} (hw:Region.wanted o (yielded ops a.tmps)=true) (s x:Operand) (t:TypeId)
  (ho:o.op= .call {callee:= .builtin .append,args:= #[s,x],argTypes:= #[t,t]}) {v y v':Value} (hs:a.eval s=v) (hx:a.eval x=y)
  (hr:(Builtin.append_ #[t,t] o.type #[v,y]).run P w= .ok v' w') (h:wpList P ops Q rest (a.put o.dst v') w'):wpList P ops Q (o::rest) a w:=by
 refine BigFrame.wpList_want hw fun K hK=> ?_
 unfold Oper.wp execOp
 simp only[ho,resolve,invoke,builtin,Sem.run_bind,Sem.run_pure,Result.andThen_ok,List.map_toArray,List.map_cons,List.map_nil,hs,hx,hr]
 exact hK _ _ h
theorem zAq {v:Value} (hg:w.grownBy w' (Value.ownBlock v)) (hB:B<=w.heap.size) (hv:∀k,v.ownBlock=some k->B<=k):Below B w w':=
 (Below.refl _ _).grown hg hB hv
theorem Own.block (h:Own w B e a n c xs):∀k,(Value.slice a n c).ownBlock=some k->B<=k:=by
 intro k hk
 exact(World.ownsRow.lt h k hk).1
theorem Own.set {g:Nat} (h:Own w B e (some ⟨g,0,none⟩) n c xs) (j:Nat) (u:Value) (hj:j<n):Own (w.setCell ⟨g,j,none⟩ u) B e (some ⟨g,0,none⟩) n c (xs.set j u):=by
 obtain⟨h1,h2⟩:=h
 refine⟨by rw[List.length_set];exact h1,?_⟩
 rcases h2 with⟨h2,_⟩|⟨g',cap,cur,hv,hbg,hg,hnc,hcm,hs,ht⟩
 ·cases h2
 ·injection hv with ha hn hc
  injection ha with ha
  injection ha with ha
  subst ha hc
  refine .inr ⟨g,c,cur.setIfInBounds j u,rfl,hbg,?_,hnc,hcm,by simpa using hs,?_⟩
  ·simp[World.setCell,Array.getElem?_modify,hg]
  ·rw[<-ht]
   simp[List.take_set]
end Kit
namespace Kit
open Go.RowKit
section
variable {P:Program} {ops:Array Oper} {Q:Exit->Act->World->Prop} {md:Region.Mode}
theorem zX7 {id:Nat} {a:Act} {w:World} (hm:P.follows .mixedOrders=true) (h:wpAny P .any ops Q ops.size (Array.replicate ops.size false) a w.drew):(Code.region id ops true).wp P Q a w:=
 wp_region_any hm h
theorem zBc (i:Nat) {o:Oper} (v:Value) {fuel:Nat} {listed:Array Bool} {a:Act} {w:World} (hi:ops[i]? =some o) (hs:Region.noSelect ops=true) (hf:Region.free md ops listed i=true)
  (hr:(Region.ready md ops listed).contains i=true) (hQ:∀c a w,Q (.panic c) (a.put o.dst v) w->Q (.panic c) a w) (hw:Region.wanted o (yielded ops a.tmps)=true) (hv:∀w,(execOp a.eval o).run P w= .ok (.value v) w)
  (h:wpAny P md ops Q fuel (listed.setIfInBounds i true) (a.put o.dst v) w):wpAny P md ops Q (fuel+1) listed a w:=
 wpAny_take hi hs hf hr hQ (.inl ⟨hw,hv⟩) h
theorem zJ1 (i:Nat) {o:Oper} {fuel:Nat} {listed:Array Bool} {a:Act} {w:World} (hi:ops[i]? =some o) (hr:Region.ready md ops listed=[i]) (hw:Region.wanted o (yielded ops a.tmps)=true)
  (h:Oper.wp P o a w (wpAny P md ops Q fuel (listed.setIfInBounds i true)) Q):wpAny P md ops Q (fuel+1) listed a w:=
 wpAny_ready hr (by simp) (AllReady.cons hi (fun K hK=>by rw[if_pos hw];exact Oper.wp_mono hK h) AllReady.nil)
theorem zRl {o:Oper} {a:Act} {w:World} {K:Act->World->Prop} (f:FuncId) (args:Array Value) (v:Value) {R:World->Prop}
  (hrun:(execOp a.eval o).run P w= .ok (.enter f args) w) (hc:Calls P f args w fun e w''=>e= .returned v/\R w'') (h:∀w',R w'->K (a.put o.dst v) w'):Oper.wp P o a w K Q:=by
 unfold Oper.wp
 rw[hrun,Oper.upon_enter]
 refine hc.mono fun e w'' hh=> ?_
 obtain⟨rfl,hR⟩:=hh
 exact h _ hR
theorem zJ0 {o:Oper} {a:Act} {w w':World} {K:Act->World->Prop} (v:Value) (hrun:(execOp a.eval o).run P w= .ok (.value v) w') (h:K (a.put o.dst v) w'):Oper.wp P o a w K Q:=by
 unfold Oper.wp
 rw[hrun,Oper.upon_value]
 exact h
end
theorem zHb {P:Program} {ρ:Operand->Value} {o:Oper} {w w':World} (s x:Operand) (t:TypeId) {v y v':Value} (ho:o.op= .call {callee:= .builtin .append,args:= #[s,x],argTypes:= #[t,t]})
  (hs:ρ s=v) (hx:ρ x=y) (hr:(Builtin.append_ #[t,t] o.type #[v,y]).run P w= .ok v' w'):(execOp ρ o).run P w= .ok (.value v') w':=by
 unfold execOp
 simp only[ho,resolve,invoke,builtin,Sem.run_bind,Sem.run_pure,Result.andThen_ok,List.map_toArray,List.map_cons,List.map_nil,hs,hx,hr]
end Kit
namespace Kit
open Go.RowKit
section
variable {P:Program} {ops:Array Oper} {w:World} {Q:Act->Prop} {a:Act} {o:Oper} {rest:List Oper}
end
section
variable {P:Program} {ops:Array Oper} {w w':World} {Q:Exit->Act->World->Prop} {a:Act} {o:Oper} {rest:List Oper}
theorem zHa {ρ:Operand->Value} {t:TypeId} {x y:Operand} {p:Addr} {v:Value} (ho:o.op= .store t x y) (hx:ρ x= .pointer (some p)) (hy:ρ y=v) (hr:(storeVar t p v).run P w= .ok () w'):(execOp ρ o).run P w= .ok .skip w':=by
 unfold execOp
 simp only[ho,hx,hy,Instr.storeAt,Instr.sureAddr,Sem.run_bind,Sem.run_pure,Result.andThen_ok,hr]
end
theorem zAw {P:Program} {ρ:Operand->Value} {o:Oper} {t e:TypeId} {x y:Operand} {g n c k sz:Nat} (ho:o.op= .indexAddr t x y) (hx:ρ x= .slice (some ⟨g,0,none⟩) n c) (hy:ρ y= .int .i64 (k:Int)) (hk:k<n)
  (hu:P.underlying t=some (.slice e)) (hz:∀w,(sizeOf e).run P w= .ok sz w) (w:World):(execOp ρ o).run P w= .ok (.value (.pointer (some ⟨g,k*sz,none⟩))) w:=by
 have h1:(0:Int)<=(k:Int)/\(k:Int)<(n:Int):=⟨by omega,by omega⟩
 unfold execOp
 simp[ho,hx,hy,Instr.indexAt,asIntOf,Sem.run_bind,run_underlying hu,h1,hz,Kit.addr_add]
 omega
theorem qCt {P:Program} {ρ:Operand->Value} {o:Oper} {t e:TypeId} {x y:Operand} {g off n c k sz:Nat} (ho:o.op= .indexAddr t x y) (hx:ρ x= .slice (some ⟨g,off,none⟩) n c) (hy:ρ y= .int .i64 (k:Int)) (hk:k<n)
  (hu:P.underlying t=some (.slice e)) (hz:∀w,(sizeOf e).run P w= .ok sz w) (w:World):(execOp ρ o).run P w= .ok (.value (.pointer (some ⟨g,off+k*sz,none⟩))) w:=by
 have h1:(0:Int)<=(k:Int)/\(k:Int)<(n:Int):=⟨by omega,by omega⟩
 unfold execOp
 simp[ho,hx,hy,Instr.indexAt,asIntOf,Sem.run_bind,run_underlying hu,h1,hz,Kit.addr_add]
 omega
theorem zBo {P:Program} {ρ:Operand->Value} {o:Oper} {t e:TypeId} {x y:Operand} {g n c k:Nat} (ho:o.op= .indexAddr t x y) (hx:ρ x= .slice (some ⟨g,0,none⟩) n c) (hy:ρ y= .int .i64 (k:Int)) (hk:k<n)
  (hu:P.underlying t=some (.slice e)) (hz:∀w,(sizeOf e).run P w= .ok 1 w) (w:World):(execOp ρ o).run P w= .ok (.value (.pointer (some ⟨g,k,none⟩))) w:=by
 have:=zAw (P:=P) (sz:=1) ho hx hy hk hu hz w
 rwa[Nat.mul_one]at this
theorem zK5 {P:Program} {ρ:Operand->Value} {o:Oper} {t e:TypeId} {x y:Operand} {g off n c k:Nat} (ho:o.op= .indexAddr t x y) (hx:ρ x= .slice (some ⟨g,off,none⟩) n c) (hy:ρ y= .int .i64 (k:Int)) (hk:k<n)
  (hu:P.underlying t=some (.slice e)) (hz:∀w,(sizeOf e).run P w= .ok 1 w) (w:World):(execOp ρ o).run P w= .ok (.value (.pointer (some ⟨g,off+k,none⟩))) w:=by
 have:=qCt (P:=P) (sz:=1) ho hx hy hk hu hz w
 rwa[Nat.mul_one]at this
theorem zM7 {P:Program} {ρ:Operand->Value} {o:Oper} {t:TypeId} {x:Operand} {p:Addr} {v:Value} {w:World} (ho:o.op= .load t x) (hx:ρ x= .pointer (some p)) (hr:(loadVar t p).run P w= .ok v w):(execOp ρ o).run P w= .ok (.value v) w:=by
 unfold execOp
 simp[ho,hx,Instr.loadAt,Instr.sureAddr,hr]
theorem zAg {P:Program} {t:TypeId} {p:Addr} {v:Value} {w:World} (hc:w.cell? p=some v) (hz:(P.info? t).map (·.size)=some 1) (ha:(isAgg t).run P w= .ok false w):(loadVar t p).run P w= .ok v w:=by
 cases hq:P.info? t with
 |none=>simp[hq]at hz
 |some i=>
  have h1:i.size=1:=by simpa [hq]using hz
  simp[loadVar,sizeOf,typeInfo,hq,h1,go_sem,hc,ha]
theorem zDa {P:Program} {ρ:Operand->Value} {o:Oper} {w w1 w2:World} {n:Nat} (h:(execOp ρ o).run P w= .ok (.value (.pointer (some ⟨w.heap.size,0,none⟩))) w1) (hz:w.heap.size=n) (hw:w1=w2):(execOp ρ o).run P w= .ok (.value (.pointer (some ⟨n,0,none⟩))) w2:=by
 subst hz hw;exact h
theorem zM6 {P:Program} {ρ:Operand->Value} {o:Oper} {t u:TypeId} {x y:Operand} {k:IntKind} {m n r:Int} (ho:o.op= .binOp .sub t x y u) (hx:ρ x= .int k m) (hy:ρ y= .int k n) (hr:k.wrap (m-n)=r) (w:World):(execOp ρ o).run P w= .ok (.value (.int k r)) w:=by
 unfold execOp
 simp[ho,hx,hy,go_sem,hr]
theorem qCv {P:Program} {ρ:Operand->Value} {o:Oper} {t u:TypeId} {x y:Operand} {k:IntKind} {m n r:Int} (ho:o.op= .binOp .add t x y u) (hx:ρ x= .int k m) (hy:ρ y= .int k n) (hr:k.wrap (m+n)=r) (w:World):(execOp ρ o).run P w= .ok (.value (.int k r)) w:=by
 unfold execOp
 simp[ho,hx,hy,go_sem,hr]
theorem zDs {P:Program} {t:TypeId} {p:Addr} {v v0:Value} {w:World} (hc:w.cell? p=some v0) (hf:w.frozen? p=false) (hz:(P.info? t).map (·.size)=some 1) (h1:v.oneCell'=true) (h2:v.cells= #[v]):(storeVar t p v).run P w= .ok () (w.setCell p v):=by
 cases hq:P.info? t with
 |none=>simp[hq]at hz
 |some i=>
  have hs:i.size=1:=by simpa [hq]using hz
  have h3:(store p v).run P w= .ok () (w.setCell p v):=by rw[run_store P w p v _ h1];simp[go_sem,hc,hf]
  have h5:(storeCells p [v]).run P w= .ok () (w.setCell p v):=by simp[go_sem,h3]
  have h6:(sizeOf t).run P w= .ok 1 w:=by simp[sizeOf,typeInfo,hq,hs,go_sem]
  unfold storeVar
  rw[h2]
  simp[Sem.run_bind,h6,h5]
end Kit
namespace Kit
open Go.RowKit
section
variable {P:Program} {ops:Array Oper} {md:Region.Mode} {w:World}
structure Inv (md:Region.Mode) (ops:Array Oper) (listed0 listed:Array Bool):Prop where
 size:listed.size=ops.size
 closed:∀j oj,ops[j]? =some oj->listed.getD j false=true->∀e∈oj.after,Region.binds md e=true->listed.getD e.on false=true
 more:∀j,listed0.getD j false=true->listed.getD j false=true
theorem Inv.set {listed0 listed:Array Bool} {i:Nat} (inv:Inv md ops listed0 listed) (hi:i∈Region.ready md ops listed):Inv md ops listed0 (listed.setIfInBounds i true):=by
 obtain⟨_,oi,hoi,hall⟩:=mem_ready.1 hi
 refine⟨by simp[inv.size],fun j oj hj hl e he hb=> ?_,fun j hj=>getD_set_true (inv.more j hj)⟩
 by_cases hij:i=j
 ·subst hij
  have:oj=oi:=Option.some.inj (hj.symm.trans hoi)
  subst this
  exact getD_set_true (hall e he hb)
 ·rw[getD_set_ne false hij]at hl
  exact getD_set_true (inv.closed j oj hj hl e he hb)
def zC (md:Region.Mode) (o:Oper):Nat:=o.after.foldl (fun m e=>if Region.binds md e then m|||(1<<<e.on)else m) 0
theorem zOz (md:Region.Mode):∀(l:List Edge) (m k:Nat),(l.foldl (fun m e=>if Region.binds md e then m|||(1<<<e.on)else m) m).testBit k=(m.testBit k||l.any fun e=>Region.binds md e&&e.on==k)
 |[],m,k=>by simp
 |e::l,m,k=>by
  rw[List.foldl_cons,zOz md l _ k,List.any_cons]
  cases hb:Region.binds md e with
  |false=>simp
  |true=>
   rw[if_pos rfl,Nat.testBit_or,Nat.one_shiftLeft,Nat.testBit_two_pow,show decide (e.on=k)=(e.on==k)from rfl]
   simp[Bool.or_assoc]
theorem zEx (o:Oper) (k:Nat):(zC md o).testBit k=true↔∃e∈o.after,Region.binds md e=true/\e.on=k:=by
 unfold zC
 rw[<-Array.foldl_toList,zOz,Nat.zero_testBit,Bool.false_or,List.any_eq_true]
 constructor
 ·rintro⟨e,he,h⟩
  simp only[Bool.and_eq_true,beq_iff_eq]at h
  exact⟨e,by simpa using he,h.1,h.2⟩
 ·rintro⟨e,he,h1,h2⟩
  exact⟨e,by simpa using he,by rw[h1,h2];simp⟩
def zG2 (L i:Nat):Bool:= !(Nat.beq (Nat.land (Nat.shiftRight L i) 1) 0)
theorem zFt (L i:Nat):zG2 L i=L.testBit i:=by
 unfold zG2
 rw[show Nat.land (Nat.shiftRight L i) 1=(L>>>i)&&&1 from rfl,Nat.and_one_is_mod,Nat.testBit,Nat.and_comm,Nat.and_one_is_mod]
 rcases Nat.mod_two_eq_zero_or_one (L>>>i)with h|h<;>rw[h]<;>rfl
def inB (m L:Nat):Bool:=Nat.beq (Nat.land m L) m
theorem zH6 {m L:Nat}:inB m L=true↔∀k,m.testBit k=true->L.testBit k=true:=by
 unfold inB
 constructor
 ·intro h k hk
  have h:(m&&&L)=m:=Nat.eq_of_beq_eq_true h
  rw[<-h,Nat.testBit_and]at hk
  simp only[Bool.and_eq_true]at hk
  exact hk.2
 ·intro h
  have e:(m&&&L)=m:= ?_
  ·show Nat.beq (m&&&L) m=true
   rw[e];exact Nat.beq_refl m
  apply Nat.eq_of_testBit_eq
  intro k
  rw[Nat.testBit_and]
  cases hm:m.testBit k with
  |false=>rfl
  |true=>rw[h k hm];rfl
def zA1 (L:Nat):List Nat->Nat->List Nat
 |[],_=>[]
 |m::r,i=>cond (zG2 L i) (zA1 L r (i+1)) (cond (inB m L) (i::zA1 L r (i+1)) (zA1 L r (i+1)))
theorem zDd (L:Nat):∀(ms:List Nat) (i j:Nat),j∈zA1 L ms i↔i<=j/\L.testBit j=false/\∃m,ms[j-i]? =some m/\inB m L=true
 |[],i,j=>by simp[zA1]
 |m::r,i,j=>by
  have ih:=zDd L r (i+1) j
  have step:i+1<=j->(m::r)[j-i]? =r[j-(i+1)]? :=fun h=>by rw[show j-i=(j-(i+1))+1 by omega];rfl
  have key:j∈zA1 L (m::r) i↔(j=i/\L.testBit i=false/\inB m L=true)\/j∈zA1 L r (i+1):=by
   rw[zA1,zFt]
   cases hb:L.testBit i with
   |true=>simp
   |false=>
    cases hm:inB m L with
    |false=>simp
    |true=>simp
  rw[key,ih]
  constructor
  ·rintro(⟨rfl,h1,h2⟩|⟨h1,h2,m',h3,h4⟩)
   ·exact⟨Nat.le_refl _,h1,m,by simp,h2⟩
   ·exact⟨by omega,h2,m',by rw[step h1];exact h3,h4⟩
  ·rintro⟨h1,h2,m',h3,h4⟩
   rcases Nat.lt_or_ge i j with h|h
   ·exact .inr ⟨h,h2,m',by rw[<-step h];exact h3,h4⟩
   ·obtain rfl:i=j:=by omega
    simp at h3
    subst h3
    exact .inl ⟨rfl,h2,h4⟩
def zEv:List Nat->Nat->Nat->Nat
 |[],_,acc=>acc
 |m::r,t,acc=>zEv r (t+1) (cond (Nat.beq (Nat.land m acc) 0) acc (Nat.lor acc (Nat.shiftLeft 1 t)))
structure Facts (md:Region.Mode) (ops:Array Oper) (ms:List Nat):Prop where
 sel:Region.noSelect ops=true
 wait:ops.toList.map (zC md)=ms
 apart:∀(i j:Nat) (oi oj:Oper),ops[i]? =some oi->ops[j]? =some oj->i≠j->(zC md oj).testBit i=false->(zC md oi).testBit j=false->oi.apart ops oj=true
def zJb (ops:Array Oper) (mx:Nat) (x:Oper) (i:Nat):List Oper->List Nat->Nat->Bool
 |y::r,my::s,j=>(cond (Nat.beq i j) true (cond (zG2 my i) true (cond (zG2 mx j) true (x.apart ops y))))&&zJb ops mx x i r s (j+1)
 |_,_,_=>true
def zD (ops:Array Oper) (ys:List Oper) (ms:List Nat):List Oper->List Nat->Nat->Bool
 |x::r,mx::s,i=>zJb ops mx x i ys ms 0&&zD ops ys ms r s (i+1)
 |_,_,_=>true
theorem zKw (mx:Nat) (x:Oper) (i:Nat):∀(r:List Oper) (s:List Nat) (j:Nat),zJb ops mx x i r s j=true->∀k y my,r[k]? =some y->s[k]? =some my->i≠j+k->my.testBit i=false->mx.testBit (j+k)=false->x.apart ops y=true
 |[],_,_,_,k,y,my,h,_,_,_,_=>by simp at h
 |_::_,[],_,_,k,y,my,_,h,_,_,_=>by simp at h
 |y0::r,m0::s,j,h,k,y,my,hy,hm,hne,h1,h2=>by
  rw[zJb,Bool.and_eq_true]at h
  cases k with
  |zero=>
   simp at hy hm
   subst hy hm
   have h3:=h.1
   rw[zFt,zFt,h1,show mx.testBit j=false from h2,show Nat.beq i j=false from by cases hb:Nat.beq i j with|false=>rfl|true=>exact absurd (Nat.eq_of_beq_eq_true hb) (by omega)]at h3
   exact h3
  |succ k=>
   exact zKw mx x i r s (j+1) h.2 k y my (by simpa using hy) (by simpa using hm) (by omega) h1 (by rw[show j+1+k=j+(k+1)by omega];exact h2)
theorem zIk (ys:List Oper) (ms:List Nat):∀(r:List Oper) (s:List Nat) (i:Nat),zD ops ys ms r s i=true->∀k x mx,r[k]? =some x->s[k]? =some mx->zJb ops mx x (i+k) ys ms 0=true
 |[],_,_,_,k,x,mx,h,_=>by simp at h
 |_::_,[],_,_,k,x,mx,_,h=>by simp at h
 |x0::r,m0::s,i,h,k,x,mx,hx,hm=>by
  rw[zD,Bool.and_eq_true]at h
  cases k with
  |zero=>simp at hx hm;subst hx hm;exact h.1
  |succ k=>
   have:=zIk ys ms r s (i+1) h.2 k x mx (by simpa using hx) (by simpa using hm)
   rwa[show i+1+k=i+(k+1)by omega]at this
theorem Facts.mk' {ms:List Nat} (hs:Region.noSelect ops=true) (hw:ops.toList.map (zC md)=ms) (ha:zD ops ops.toList ms ops.toList ms 0=true):Facts md ops ms:=by
 refine⟨hs,hw,fun i j oi oj hi hj hne h1 h2=> ?_⟩
 have gi:ops.toList[i]? =some oi:=by simpa using hi
 have gj:ops.toList[j]? =some oj:=by simpa using hj
 have mi:ms[i]? =some (zC md oi):=by rw[<-hw,List.getElem?_map,gi];rfl
 have mj:ms[j]? =some (zC md oj):=by rw[<-hw,List.getElem?_map,gj];rfl
 have h3:=zIk ops.toList ms ops.toList ms 0 ha i oi _ gi mi
 rw[Nat.zero_add]at h3
 exact zKw _ oi i ops.toList ms 0 h3 j oj _ gj mj (by omega) h1 (by rw[Nat.zero_add];exact h2)
theorem Facts.at_ {ms:List Nat} (F:Facts md ops ms) {i m:Nat} (h:ms[i]? =some m):∃o,ops[i]? =some o/\zC md o=m:=by
 rw[<-F.wait,List.getElem?_map]at h
 cases ho:ops.toList[i]? with
 |none=>rw[ho]at h;cases h
 |some o=>rw[ho]at h;exact⟨o,by simpa using ho,Option.some.inj h⟩
theorem Facts.get {ms:List Nat} (F:Facts md ops ms) {i:Nat} {o:Oper} (h:ops[i]? =some o):ms[i]? =some (zC md o):=by
 rw[<-F.wait,List.getElem?_map,show ops.toList[i]? =some o by simpa using h];rfl
structure Cor (md:Region.Mode) (ops:Array Oper) (listed:Array Bool) (L:Nat):Prop where
 inv:Inv md ops listed listed
 bit:∀j,listed.getD j false=L.testBit j
theorem Cor.ready {ms:List Nat} (F:Facts md ops ms) {listed:Array Bool} {L:Nat} (c:Cor md ops listed L) (j:Nat):j∈Region.ready md ops listed↔j∈zA1 L ms 0:=by
 rw[mem_ready,zDd]
 constructor
 ·rintro⟨h1,o,ho,hall⟩
  refine⟨Nat.zero_le _,by rw[<-c.bit];exact getD_both h1,zC md o,F.get ho,?_⟩
  rw[zH6]
  intro k hk
  obtain⟨e,he,hb,rfl⟩:=(zEx o k).1 hk
  rw[<-c.bit]
  exact hall e he hb
 ·rintro⟨_,h1,m,hm,hin⟩
  obtain⟨o,ho,rfl⟩:=F.at_ hm
  have hjs:j<ops.size:=(Array.getElem?_eq_some_iff.1 ho).1
  refine⟨getD_in (by rw[c.inv.size];exact hjs) (by rw[c.bit];exact h1),o,ho,fun e he hb=> ?_⟩
  rw[c.bit]
  exact zH6.1 hin _ ((zEx o _).2 ⟨e,he,hb,rfl⟩)
theorem Cor.set {listed:Array Bool} {L:Nat} (c:Cor md ops listed L) {i:Nat} (hi:i∈Region.ready md ops listed):Cor md ops (listed.setIfInBounds i true) (L|||1<<<i):=by
 have h:=c.inv.set hi
 obtain⟨_,o,ho,_⟩:=mem_ready.1 hi
 have his:i<ops.size:=(Array.getElem?_eq_some_iff.1 ho).1
 refine⟨⟨h.size,h.closed,fun _ h=>h⟩,fun j=> ?_⟩
 rw[Nat.testBit_or,Nat.one_shiftLeft,Nat.testBit_two_pow]
 by_cases e:i=j
 ·subst e
  have:i<(listed.setIfInBounds i true).size:=by simp[c.inv.size,his]
  simp[Array.getD_eq_getD_getElem?,c.inv.size,his]
 ·rw[getD_set_ne false e,c.bit]
  simp[e]
theorem Cor.free {ms:List Nat} (F:Facts md ops ms) {listed:Array Bool} {L:Nat} (c:Cor md ops listed L) {i:Nat} {oi:Oper} (hi:ops[i]? =some oi) (hr:i∈Region.ready md ops listed):
  ∀j oj,ops[j]? =some oj->j≠i->listed.getD j true=false->(∀e∈oj.after,Region.binds md e=true->e.on≠i)->oi.apart ops oj=true:=by
 intro j oj hj hne hun hno
 refine F.apart i j oi oj hi hj (Ne.symm hne) ?_ ?_
 ·cases h:(zC md oj).testBit i with
  |false=>rfl
  |true=>
   obtain⟨e,he,hb,hon⟩:=(zEx oj i).1 h
   exact absurd hon (hno e he hb)
 ·cases h:(zC md oi).testBit j with
  |false=>rfl
  |true=>
   obtain⟨e,he,hb,hon⟩:=(zEx oi j).1 h
   obtain⟨_,o',ho',hall⟩:=mem_ready.1 hr
   have:o'=oi:=Option.some.inj (ho'.symm.trans hi)
   subst this
   have h2:=hall e he hb
   rw[hon,getD_both hun]at h2
   cases h2
theorem meets {m acc:Nat} (h:Nat.beq (Nat.land m acc) 0=false):∃k,m.testBit k=true/\acc.testBit k=true:=by
 have h1:(m&&&acc)≠0:=by
  intro e
  rw[show Nat.land m acc=(m&&&acc)from rfl,e]at h
  cases h
 obtain⟨k,hk⟩:=Nat.exists_testBit_of_ne_zero h1
 rw[Nat.testBit_and,Bool.and_eq_true]at hk
 exact⟨k,hk⟩
theorem zIb {ms0:List Nat} (F:Facts md ops ms0) {listed:Array Bool} {L:Nat} (c:Cor md ops listed L) (i:Nat):∀(ms:List Nat) (t acc:Nat),(∀k,ms[k]? =ms0[t+k]?)->
  (∀k,acc.testBit k=true->L.testBit k=false/\(k=i\/k∉Region.ready md ops listed))->∀k,(zEv ms t acc).testBit k=true->L.testBit k=false/\(k=i\/k∉Region.ready md ops listed)
 |[],t,acc,_,h,k,hk=>h k hk
 |m::r,t,acc,hms,h,k,hk=>by
  have hm:ms0[t]? =some m:=by have:=hms 0;simpa using this.symm
  have hr:∀k,r[k]? =ms0[t+1+k]? :=fun k=>by have:=hms (k+1);rw[show t+1+k=t+(k+1)by omega];simpa using this
  obtain⟨o,ho,hw⟩:=F.at_ hm
  rw[zEv]at hk
  cases hb:Nat.beq (Nat.land m acc) 0 with
  |true=>
   rw[hb]at hk
   exact zIb F c i r (t+1) acc hr h k hk
  |false=>
   rw[hb]at hk
   refine zIb F c i r (t+1) _ hr (fun j hj=> ?_) k hk
   rw[cond_false,show Nat.lor acc (Nat.shiftLeft 1 t)=acc|||1<<<t from rfl,Nat.testBit_or,Nat.one_shiftLeft,Nat.testBit_two_pow,Bool.or_eq_true,decide_eq_true_eq]at hj
   rcases hj with hj|rfl
   ·exact h j hj
   ·obtain⟨d,hd1,hd2⟩:=meets hb
    have hun:=(h d hd2).1
    rw[<-hw]at hd1
    obtain⟨e,he,hbi,rfl⟩:=(zEx o d).1 hd1
    rw[<-c.bit]at hun
    refine⟨?_,.inr fun hrd=> ?_⟩
    ·rw[<-c.bit]
     cases hl:listed.getD t false with
     |false=>rfl
     |true=>rw[c.inv.closed t o ho hl e he hbi]at hun;cases hun
    ·obtain⟨_,o',ho',hall⟩:=mem_ready.1 hrd
     have:o'=o:=Option.some.inj (ho'.symm.trans ho)
     subst this
     rw[hall e he hbi]at hun
     cases hun
theorem zRm {ms:List Nat} (F:Facts md ops ms) {listed:Array Bool} {L:Nat} (c:Cor md ops listed L) {i:Nat} (hi:L.testBit i=false) (t:Nat) (ht:(zEv ms 0 (Nat.shiftLeft 1 i)).testBit t=true):t=i\/t∉Region.ready md ops listed:=by
 refine(zIb F c i ms 0 (Nat.shiftLeft 1 i) (fun k=>by rw[Nat.zero_add]) (fun k hk=> ?_) t ht).2
 rw[show Nat.shiftLeft 1 i=1<<<i from rfl,Nat.one_shiftLeft,Nat.testBit_two_pow,decide_eq_true_eq]at hk
 subst hk
 exact⟨hi,.inl rfl⟩
def zBj:List Nat->Nat
 |[]=>0
 |i::l=>Nat.lor (Nat.shiftLeft 1 i) (zBj l)
theorem zHz:∀(l:List Nat) (k:Nat),(zBj l).testBit k=true↔k∈l
 |[],k=>by simp[zBj]
 |i::l,k=>by
  rw[zBj,show Nat.lor (Nat.shiftLeft 1 i) (zBj l)=1<<<i|||zBj l from rfl,Nat.testBit_or,Nat.one_shiftLeft,Nat.testBit_two_pow,Bool.or_eq_true,zHz l k]
  simp[eq_comm]
def zMn (ms:List Nat) (L M:Nat) (is:List Nat):Bool:=is.all fun i=>let d:=zEv ms 0 (Nat.shiftLeft 1 i);(List.range ms.length).all fun t=>zG2 L t||zG2 M t||zG2 d t
theorem Facts.len {ms:List Nat} (F:Facts md ops ms):ms.length=ops.size:=by rw[<-F.wait];simp
theorem zMm {ms:List Nat} (F:Facts md ops ms) {is:List Nat} {L0 L:Nat} {listed:Array Bool} (hg:zMn ms L0 (zBj is) is=true) (c:Cor md ops listed L) (hm:∀k,L0.testBit k=true->L.testBit k=true) {i:Nat} (him:i∈is) (hi:L.testBit i=false):
  ∀j∈Region.ready md ops listed,j∈is:=by
 intro j hj
 have hjs:j<ops.size:=by
  obtain⟨_,o,ho,_⟩:=mem_ready.1 hj
  exact(Array.getElem?_eq_some_iff.1 ho).1
 have h1:=List.all_eq_true.1 (List.all_eq_true.1 hg i him) j (List.mem_range.2 (by rw[F.len];exact hjs))
 simp only[Bool.or_eq_true,zFt]at h1
 rcases h1 with(h1|h1)|h1
 ·have h2:=getD_both (mem_ready.1 hj).1
  rw[c.bit,hm j h1]at h2
  cases h2
 ·exact(zHz is j).1 h1
 ·rcases zRm F c hi j h1 with rfl|h2
  ·exact him
  ·exact absurd hj h2
def zC5 (P:Program) (md:Region.Mode) (ops:Array Oper) (Q:Exit->Act->World->Prop) (D:List Nat) (S:World->Prop):Nat->Array Bool->Act->World->Prop
 |0,listed,a,w=>Region.ready md ops listed=[]/\Q .normal a w
 |fuel+1,listed,a,w=>
  (Region.ready md ops listed=[]->Q .normal a w)/\
  ∀i∈Region.ready md ops listed,wpOp P ops Q i (fun a' w'=>(w'=w\/D.contains i=true\/S w')/\zC5 P md ops Q D S fuel (listed.setIfInBounds i true) a' w') a w
theorem zLw {Q:Exit->Act->World->Prop} {D:List Nat} {S:World->Prop}:∀(fuel:Nat) (listed:Array Bool) (a:Act) (w:World),zC5 P md ops Q D S fuel listed a w->wpAny P md ops Q fuel listed a w
 |0,_,_,_,h=>h
 |fuel+1,_,_,_,h=>⟨h.1,fun i hi=>wpOp_mono (fun a' w' h'=>zLw fuel _ a' w' h'.2) (h.2 i hi)⟩
theorem zIm {ms:List Nat} (F:Facts md ops ms) {Q:Exit->Act->World->Prop} {D:List Nat} {S S0:World->Prop} {i:Nat} {oi:Oper} {v:Value} (hi:ops[i]? =some oi)
  (hQ:∀c a w,Q (.panic c) (a.put oi.dst v) w->Q (.panic c) a w) (hD:∀(j:Nat) (w w':World),(zEv ms 0 (Nat.shiftLeft 1 i)).testBit j=false\/j=i->(w'=w\/D.contains j=true\/S w')->S0 w->S0 w'):
  ∀(fuel:Nat) (listed:Array Bool) (L:Nat) (a:Act) (w:World),Cor md ops listed L->i∈Region.ready md ops listed->YieldsIf P ops S0 oi v a->S0 w->
   zC5 P md ops Q D S fuel (listed.setIfInBounds i true) (a.put oi.dst v) w->zC5 P md ops Q D S (fuel+1) listed a w:=by
 have hsel:=Region.noSelect_spec F.sel
 intro fuel
 induction fuel with
 |zero=>
  intro listed L a w inv hr hy hS H
  refine⟨fun h=>(by rw[h]at hr;cases hr),fun j hj=> ?_⟩
  by_cases hji:j=i
  ·subst hji;exact hy.wpOp hi hS ⟨.inl rfl,H⟩
  ·have:=ready_mono hj hji
   rw[H.1]at this
   cases this
 |succ fuel ih=>
  intro listed L a w inv hr hy hS H
  have hun:=getD_both (mem_ready.1 hr).1
  refine⟨fun h=>(by rw[h]at hr;cases hr),fun j hj=> ?_⟩
  by_cases hji:j=i
  ·subst hji;exact hy.wpOp hi hS ⟨.inl rfl,H⟩
  ·have h1:=H.2 j (ready_mono hj hji)
   obtain⟨hjun,oj,hoj,hall⟩:=mem_ready.1 hj
   have hnot:∀e∈oj.after,Region.binds md e=true->e.on≠i:=fun e he hb heq=>by
    have h1:=hall e he hb
    rw[heq,hun]at h1
    cases h1
   have hjD:(zEv ms 0 (Nat.shiftLeft 1 i)).testBit j=false\/j=i:=by
    cases h:(zEv ms 0 (Nat.shiftLeft 1 i)).testBit j with
    |false=>exact .inl rfl
    |true=>
     rcases zRm F inv (by rw[<-inv.bit];exact hun) j h with h2|h2
     ·exact .inr h2
     ·exact absurd hj h2
   have h2:=wpOp_putIf hoj (inv.free F hi hr j oj hoj hji hjun hnot) (fun cs b=>hsel i oi cs b hi) (fun cs b=>hsel j oj cs b hoj) hQ hy h1
   refine wpOp_mono (fun a' w' h3=> ?_) h2
   have hS':S0 w':=hD j w w' hjD h3.2.1 hS
   refine⟨h3.2.1,ih (listed.setIfInBounds j true) _ a' w' (inv.set hj) (ready_mono hr (Ne.symm hji)) h3.1 hS' ?_⟩
   rw[Array.setIfInBounds_comm _ _ hji]
   exact h3.2.2
def wpM (P:Program) (md:Region.Mode) (ops:Array Oper) (w:World) (is:List Nat) (L:Array Bool->Act->Prop):Nat->Array Bool->Act->Prop
 |0,listed,a=>L listed a
 |f+1,listed,a=>Region.ready md ops listed≠[]/\∀i∈Region.ready md ops listed,i∈is/\stOp P ops w i (wpM P md ops w is L f (listed.setIfInBounds i true)) a
theorem zKd {S:World->Prop} {D is:List Nat} {g:Nat} {L:Array Bool->Act->Prop} {Q':Exit->Act->World->Prop} (hL:∀listed a,L listed a->zC5 P md ops Q' D S g listed a w):
  ∀(f:Nat) (listed:Array Bool) (a:Act),wpM P md ops w is L f listed a->zC5 P md ops Q' D S (f+g) listed a w
 |0,listed,a,h=>by rw[Nat.zero_add];exact hL _ _ h
 |f+1,listed,a,h=>by
  rw[show f+1+g=(f+g)+1 by omega]
  exact⟨fun h0=>absurd h0 h.1,fun i hi=>wpOp_of_stOp (fun a' h'=>⟨.inl rfl,zKd hL f _ a' h'⟩) (h.2 i hi).2⟩
theorem zV6 {ms:List Nat} (F:Facts md ops ms) {is:List Nat} {L0:Nat} {i:Nat} {oi:Oper} {v:Value} {Lq:Array Bool->Act->Prop} (hi:ops[i]? =some oi)
  (hg:zMn ms L0 (zBj is) is=true) (him:i∈is) (hdone:∀listed a,Lq listed a->∀j∈Region.ready md ops listed,j∉is):
  ∀(f:Nat) (listed:Array Bool) (L:Nat) (a:Act),Cor md ops listed L->(∀k,L0.testBit k=true->L.testBit k=true)->i∈Region.ready md ops listed->YieldsAt P ops w oi v a->
   wpM P md ops w is Lq f (listed.setIfInBounds i true) (a.put oi.dst v)->wpM P md ops w is Lq (f+1) listed a:=by
 have hsel:=Region.noSelect_spec F.sel
 intro f
 induction f with
 |zero=>
  intro listed L a inv hm hr hy H
  have hun:=getD_both (mem_ready.1 hr).1
  refine⟨fun h=>(by rw[h]at hr;cases hr),fun j hj=> ?_⟩
  have hjm:=zMm F hg inv hm him (by rw[<-inv.bit];exact hun) j hj
  refine⟨hjm,?_⟩
  by_cases hji:j=i
  ·subst hji;exact hy.stOp hi H
  ·exact absurd hjm (hdone _ _ H j (ready_mono hj hji))
 |succ f ih=>
  intro listed L a inv hm hr hy H
  have hun:=getD_both (mem_ready.1 hr).1
  refine⟨fun h=>(by rw[h]at hr;cases hr),fun j hj=> ?_⟩
  have hjm:=zMm F hg inv hm him (by rw[<-inv.bit];exact hun) j hj
  refine⟨hjm,?_⟩
  by_cases hji:j=i
  ·subst hji;exact hy.stOp hi H
  ·have h1:=(H.2 j (ready_mono hj hji)).2
   obtain⟨hjun,oj,hoj,hall⟩:=mem_ready.1 hj
   have hnot:∀e∈oj.after,Region.binds md e=true->e.on≠i:=fun e he hb heq=>by
    have h1:=hall e he hb
    rw[heq,hun]at h1
    cases h1
   have h2:=stOp_put hoj (inv.free F hi hr j oj hoj hji hjun hnot) (fun cs b=>hsel i oi cs b hi) (fun cs b=>hsel j oj cs b hoj) hy h1
   refine stOp_mono (fun a' h3=>ih (listed.setIfInBounds j true) _ a' (inv.set hj) (fun k hk=>by rw[Nat.testBit_or,hm k hk,Bool.true_or]) (ready_mono hr (Ne.symm hji)) h3.1 ?_) h2
   rw[Array.setIfInBounds_comm _ _ hji]
   exact h3.2
def zE9 (ms:List Nat):List Nat->Nat->Bool
 |[],_=>true
 |i::l,L=> !(zG2 L i)&&(match ms[i]? with
   |some m=>inB m L
   |none=>false)&&zE9 ms l (Nat.lor L (Nat.shiftLeft 1 i))
def zWw:List Nat->Array Bool->Array Bool
 |[],listed=>listed
 |i::l,listed=>zWw l (listed.setIfInBounds i true)
def phs (P:Program) (ops:Array Oper) (w:World) (K:Act->Prop):List Nat->Act->Prop
 |[],a=>K a
 |i::l,a=>stOp P ops w i (phs P ops w K l) a
theorem zOs {ms:List Nat} (F:Facts md ops ms) {listed:Array Bool} {L i:Nat} {l:List Nat} (c:Cor md ops listed L) (h:zE9 ms (i::l) L=true):i∈Region.ready md ops listed/\zE9 ms l (L|||1<<<i)=true:=by
 simp only[zE9,Bool.and_eq_true,Bool.not_eq_true',zFt]at h
 refine⟨(c.ready F i).2 ((zDd L ms 0 i).2 ⟨Nat.zero_le _,h.1.1,?_⟩),h.2⟩
 have h2:=h.1.2
 split at h2
 ·rename_i m hm;exact⟨m,hm,h2⟩
 ·cases h2
theorem zS9 {ms:List Nat} (F:Facts md ops ms) {is:List Nat} {L0 LF:Nat} {Lq:Array Bool->Act->Prop} (hg:zMn ms L0 (zBj is) is=true) (hd:∀i∈is,LF.testBit i=true):
  ∀(l:List Nat) (listed:Array Bool) (L:Nat) (a:Act),(∀i∈l,i∈is)->(L|||zBj l)=LF->Cor md ops listed L->(∀k,L0.testBit k=true->L.testBit k=true)->zE9 ms l L=true->
  phs P ops w (fun a'=>Lq (zWw l listed) a') l a->wpM P md ops w is (fun listed' a'=>Cor md ops listed' LF/\Lq listed' a') l.length listed a
 |[],listed,L,a,_,hk,c,_,_,h=>by
  have:L=LF:=by simpa [zBj]using hk
  subst this
  exact⟨c,h⟩
 |i::l,listed,L,a,hm,hk,c,hm0,hB,h=>by
  obtain⟨hr',hB'⟩:=zOs F c hB
  obtain⟨_,oi,h0,_⟩:=mem_ready.1 hr'
  obtain⟨v,hy,hK⟩:=yieldsAt_of_stOp h0 h
  refine zV6 F h0 hg (hm i (by simp)) (fun listed' a' hL j hj hjm=> ?_) l.length listed L a c hm0 hr' hy
   (zS9 F hg hd l _ _ _ (fun j hj=>hm j (by simp[hj])) ?_ (c.set hr') (fun k hk=>by rw[Nat.testBit_or,hm0 k hk,Bool.true_or]) hB' hK)
  ·have h2:=getD_both (mem_ready.1 hj).1
   rw[hL.1.bit,hd j hjm]at h2
   cases h2
  ·rw[<-hk,zBj,show Nat.lor (Nat.shiftLeft 1 i) (zBj l)=1<<<i|||zBj l from rfl,Nat.or_assoc]
theorem zQv {K K':Act->Prop}:∀(l:List Nat) (_:∀a,K a->K' a) (a:Act),phs P ops w K l a->phs P ops w K' l a
 |[],h,a,hp=>h a hp
 |i::l,h,a,hp=>stOp_mono (fun a' h'=>zQv l h a' h') hp
structure At_ (P:Program) (md:Region.Mode) (ops:Array Oper) (Q:Exit->Act->World->Prop) (D:List Nat) (S:World->Prop) (ms:List Nat) (f L:Nat) (a:Act) (w:World):Prop where
 out:Facts md ops ms->∀listed,Cor md ops listed L->zC5 P md ops Q D S f listed a w
structure Ph (P:Program) (ops:Array Oper) (w:World) (K:Act->Prop) (l:List Nat) (a:Act):Prop where
 out:phs P ops w K l a
theorem phase {S:World->Prop} {D:List Nat} {ms:List Nat} (is:List Nat) (f:Nat) (LF:Nat) {n L:Nat} {a:Act} {Q:Exit->Act->World->Prop} (hn:is.length+f=n) (hg:zMn ms L (zBj is) is=true) (hl:zE9 ms is L=true)
  (hLF:(L|||zBj is)=LF) (h:Ph P ops w (fun a'=>At_ P md ops Q D S ms f LF a' w) is a):At_ P md ops Q D S ms n L a w:=by
 subst hn
 refine⟨fun F listed c=> ?_⟩
 have H:=zS9 (P:=P) (w:=w) F (Lq:=fun listed' a'=>Cor md ops listed' LF->zC5 P md ops Q D S f listed' a' w) hg (fun i hi=>by rw[<-hLF,Nat.testBit_or,(zHz is i).2 hi,Bool.or_true]) is listed L a (fun i h=>h) hLF c (fun k h=>h) hl ?_
 ·exact zKd (fun listed' a' hL=>hL.2 hL.1) _ _ _ H
 ·refine zQv is ?_ a h.out
  intro a' h' c'
  exact h'.out F _ c'
theorem qH4 {K:Act->Prop} {a:Act} (h:K a):Ph P ops w K [] a:=⟨h⟩
theorem zZ1 {K:Act->Prop} {a:Act} {i:Nat} {l:List Nat} {o:Oper} (d:Option Tmp) (v:Value) (hi:ops[i]? =some o) (hd:o.dst=d) (hw:Region.wanted o (yielded ops a.tmps)=true) (hv:(execOp a.eval o).run P w= .ok (.value v) w) (h:Ph P ops w K l (a.put d v)):Ph P ops w K (i::l) a:=by
 subst hd
 refine⟨?_⟩
 show stOp P ops w i (phs P ops w K l) a
 unfold stOp
 simp only[hi,hw,if_true]
 unfold Oper.still
 rw[hv]
 exact⟨rfl,h.out⟩
theorem zZ2 {K:Act->Prop} {a:Act} {i:Nat} {l:List Nat} {o:Oper} (d:Option Tmp) (f:FuncId) (args:Array Value) (v:Value) (hi:ops[i]? =some o) (hd:o.dst=d) (hw:Region.wanted o (yielded ops a.tmps)=true) (hv:(execOp a.eval o).run P w= .ok (.enter f args) w)
  (hc:Calls P f args w fun e w''=>e= .returned v/\w''=w) (h:Ph P ops w K l (a.put d v)):Ph P ops w K (i::l) a:=by
 subst hd
 refine⟨?_⟩
 show stOp P ops w i (phs P ops w K l) a
 unfold stOp
 simp only[hi,hw,if_true]
 unfold Oper.still
 rw[hv]
 exact⟨rfl,v,hc,h.out⟩
end
section
variable {P:Program} {ops:Array Oper} {md:Region.Mode} {w w':World} {S:World->Prop} {D ms:List Nat} {Q:Exit->Act->World->Prop}
theorem zQo {listed:Array Bool} {L i:Nat} (F:Facts md ops ms) (c:Cor md ops listed L) (hr:zE9 ms [i] L=true):i∈Region.ready md ops listed:=(zOs F c hr).1
def zZa (ms:List Nat) (D:List Nat) (i:Nat):Bool:=D.all fun d=>zG2 (zEv ms 0 (Nat.shiftLeft 1 i)) d&& !(Nat.beq d i)
theorem qHh {i:Nat} (hD:zZa ms D i=true) (j:Nat) (w w':World) (hj:(zEv ms 0 (Nat.shiftLeft 1 i)).testBit j=false\/j=i) (h:w'=w\/D.contains j=true\/S w') (hS:S w):S w':=by
 rcases h with rfl|h|h
 ·exact hS
 ·have h1:=List.all_eq_true.1 hD j (by simpa using h)
  simp only[Bool.and_eq_true,zFt,Bool.not_eq_true']at h1
  rcases hj with hj|hj
  ·rw[hj]at h1;cases h1.1
  ·subst hj
   have:=h1.2
   rw[show Nat.beq j j=true from Nat.beq_refl j]at this
   cases this
 ·exact h
theorem qGy (i:Nat) {o:Oper} (d:Option Tmp) (v:Value) (L':Nat) {f L:Nat} {a:Act} (hi:ops[i]? =some o) (hd:o.dst=d) (hD:zZa ms D i=true) (hr:zE9 ms [i] L=true) (hL:(L|||1<<<i)=L')
  (hQ:∀c a w,Q (.panic c) (a.put o.dst v) w->Q (.panic c) a w) (hw:Region.wanted o (yielded ops a.tmps)=true) (hv:∀w,S w->(execOp a.eval o).run P w= .ok (.value v) w) (hS:S w)
  (h:At_ P md ops Q D S ms f L' (a.put d v) w):At_ P md ops Q D S ms (f+1) L a w:=by
 subst hd
 subst hL
 refine⟨fun F listed c=> ?_⟩
 have hrd:=zQo F c hr
 exact zIm F (S0:=S) hi hQ (qHh hD) f listed L a w c hrd (.inl ⟨hw,hv⟩) hS (h.out F _ (c.set hrd))
theorem qG6 (i:Nat) {o:Oper} (d:Option Tmp) (v:Value) (L':Nat) {f L:Nat} {a:Act} (hi:ops[i]? =some o) (hd:o.dst=d) (hr:zE9 ms [i] L=true) (hL:(L|||1<<<i)=L')
  (hQ:∀c a w,Q (.panic c) (a.put o.dst v) w->Q (.panic c) a w) (hw:Region.wanted o (yielded ops a.tmps)=true) (hv:∀w,(execOp a.eval o).run P w= .ok (.value v) w)
  (h:At_ P md ops Q D S ms f L' (a.put d v) w):At_ P md ops Q D S ms (f+1) L a w:=by
 subst hd
 subst hL
 refine⟨fun F listed c=> ?_⟩
 have hrd:=zQo F c hr
 exact zIm F (S0:=fun _=>True) hi hQ (fun _ _ _ _ _ _=>trivial) f listed L a w c hrd (.inl ⟨hw,fun w _=>hv w⟩) trivial (h.out F _ (c.set hrd))
theorem zGk {listed:Array Bool} {L i:Nat} (F:Facts md ops ms) (c:Cor md ops listed L) (hr:zA1 L ms 0=[i]):i∈Region.ready md ops listed/\∀j∈Region.ready md ops listed,j=i:=
 ⟨(c.ready F i).2 (by rw[hr];simp),fun j hj=>by have:=(c.ready F j).1 hj;rw[hr]at this;simpa using this⟩
theorem zVs {i:Nat} {f:Nat} {listed:Array Bool} {a:Act} (hr:i∈Region.ready md ops listed/\∀j∈Region.ready md ops listed,j=i)
  (h:wpOp P ops Q i (fun a' w'=>(w'=w\/D.contains i=true\/S w')/\zC5 P md ops Q D S f (listed.setIfInBounds i true) a' w') a w):zC5 P md ops Q D S (f+1) listed a w:=
 ⟨fun h0=>(by rw[h0]at hr;cases hr.1),fun j hj=>(by obtain rfl:=hr.2 j hj;exact h)⟩
theorem zLe (i:Nat) {o:Oper} (d:Option Tmp) (v:Value) (L':Nat) {f L:Nat} {a:Act} (hr:zA1 L ms 0=[i]) (hL:(L|||1<<<i)=L') (hi:ops[i]? =some o) (hd:o.dst=d) (hw:Region.wanted o (yielded ops a.tmps)=true) (hv:(execOp a.eval o).run P w= .ok (.value v) w') (hS:w'=w\/D.contains i=true\/S w')
  (h:At_ P md ops Q D S ms f L' (a.put d v) w'):At_ P md ops Q D S ms (f+1) L a w:=by
 subst hd
 subst hL
 refine⟨fun F listed c=> ?_⟩
 have h1:=zGk F c hr
 refine zVs h1 ?_
 unfold wpOp
 simp only[hi,hw,if_true]
 left
 unfold Oper.wp
 rw[hv]
 exact⟨hS,h.out F _ (c.set h1.1)⟩
theorem qHc (i:Nat) {o:Oper} (d:Option Tmp) (L':Nat) {f L:Nat} {a:Act} (hr:zA1 L ms 0=[i]) (hL:(L|||1<<<i)=L') (hi:ops[i]? =some o) (hd:o.dst=d) (hw:Region.wanted o (yielded ops a.tmps)=true) (hv:(execOp a.eval o).run P w= .ok .skip w') (hS:w'=w\/D.contains i=true\/S w')
  (h:At_ P md ops Q D S ms f L' (a.put d undef) w'):At_ P md ops Q D S ms (f+1) L a w:=by
 subst hd
 subst hL
 refine⟨fun F listed c=> ?_⟩
 have h1:=zGk F c hr
 refine zVs h1 ?_
 unfold wpOp
 simp only[hi,hw,if_true]
 left
 unfold Oper.wp
 rw[hv]
 exact⟨hS,h.out F _ (c.set h1.1)⟩
theorem qCf (i:Nat) {o:Oper} (d:Option Tmp) (g:FuncId) (args:Array Value) (v:Value) (L':Nat) {f L:Nat} {a:Act} {R:World->Prop} (hr:zA1 L ms 0=[i]) (hL:(L|||1<<<i)=L') (hi:ops[i]? =some o) (hd:o.dst=d) (hw:Region.wanted o (yielded ops a.tmps)=true)
  (hv:(execOp a.eval o).run P w= .ok (.enter g args) w) (hc:Calls P g args w fun e w''=>e= .returned v/\R w'') (h:∀w',R w'->(w'=w\/D.contains i=true\/S w')/\At_ P md ops Q D S ms f L' (a.put d v) w'):At_ P md ops Q D S ms (f+1) L a w:=by
 subst hd
 subst hL
 refine⟨fun F listed c=> ?_⟩
 have h1:=zGk F c hr
 refine zVs h1 ?_
 unfold wpOp
 simp only[hi,hw,if_true]
 left
 refine zRl g args v hv hc (fun w' hR=>⟨(h w' hR).1,(h w' hR).2.out F _ (c.set h1.1)⟩)
theorem qHm (i:Nat) {o:Oper} (d:Option Tmp) (g:FuncId) (args:Array Value) (L':Nat) {f L:Nat} {a:Act} {R:Ending->World->Prop} (hr:zA1 L ms 0=[i]) (hL:(L|||1<<<i)=L') (hi:ops[i]? =some o) (hd:o.dst=d) (hw:Region.wanted o (yielded ops a.tmps)=true)
  (hv:(execOp a.eval o).run P w= .ok (.enter g args) w) (hc:Calls P g args w R) (h:∀e w',R e w'->∃v,e= .returned v/\(w'=w\/D.contains i=true\/S w')/\At_ P md ops Q D S ms f L' (a.put d v) w'):At_ P md ops Q D S ms (f+1) L a w:=by
 subst hd
 subst hL
 refine⟨fun F listed c=> ?_⟩
 have h1:=zGk F c hr
 refine zVs h1 ?_
 unfold wpOp
 simp only[hi,hw,if_true]
 left
 unfold Oper.wp
 rw[hv,Oper.upon_enter]
 refine hc.mono fun e w'' hh=> ?_
 obtain⟨v,rfl,hS,hA⟩:=h e w'' hh
 exact⟨hS,hA.out F _ (c.set h1.1)⟩
structure zEp (P:Program) (md:Region.Mode) (ops:Array Oper) (Q:Exit->Act->World->Prop) (D:List Nat) (S:World->Prop) (ms:List Nat) (f L:Nat) (a:Act) (w:World) (i:Nat):Prop where
 out:∃(o:Oper) (v:Value) (w':World),ops[i]? =some o/\Region.wanted o (yielded ops a.tmps)=true/\(execOp a.eval o).run P w= .ok (.value v) w'/\(w'=w\/D.contains i=true\/S w')/\At_ P md ops Q D S ms f (L|||1<<<i) (a.put o.dst v) w'
theorem zFb {i:Nat} {o:Oper} (d:Option Tmp) (v:Value) (L':Nat) {f L:Nat} {a:Act} (hL:(L|||1<<<i)=L') (hi:ops[i]? =some o) (hd:o.dst=d) (hw:Region.wanted o (yielded ops a.tmps)=true) (hv:(execOp a.eval o).run P w= .ok (.value v) w') (hS:w'=w\/D.contains i=true\/S w')
  (h:At_ P md ops Q D S ms f L' (a.put d v) w'):zEp P md ops Q D S ms f L a w i:=by
 subst hL hd
 exact⟨o,v,w',hi,hw,hv,hS,h⟩
theorem qB3 (rs:List Nat) {f L:Nat} {a:Act} (hr:zA1 L ms 0=rs) (hne:rs≠[]) (h:∀i∈rs,zEp P md ops Q D S ms f L a w i):At_ P md ops Q D S ms (f+1) L a w:=by
 refine⟨fun F listed c=>⟨fun h0=> ?_,fun j hj=> ?_⟩⟩
 ·match rs,hne with
  |i::_,_=>
   have h1:i∈Region.ready md ops listed:=(c.ready F i).2 (by rw[hr];simp)
   rw[h0]at h1
   cases h1
 ·have h1:=(c.ready F j).1 hj
  rw[hr]at h1
  obtain⟨o,v,w',hi,hw,hv,hS,hA⟩:=(h j h1).out
  unfold wpOp
  simp only[hi,hw,if_true]
  left
  unfold Oper.wp
  rw[hv]
  exact⟨hS,hA.out F _ (c.set hj)⟩
theorem zY4 (i j:Nat) {f L:Nat} {a:Act} (hr:zA1 L ms 0=[i,j]) (hi:zEp P md ops Q D S ms f L a w i) (hj:zEp P md ops Q D S ms f L a w j):At_ P md ops Q D S ms (f+1) L a w:=
 qB3 [i,j] hr (by simp) (fun k hk=>by
  rcases List.mem_cons.1 hk with rfl|hk
  ·exact hi
  ·obtain rfl:=List.mem_singleton.1 hk
   exact hj)
theorem qEr (i j k:Nat) {f L:Nat} {a:Act} (hr:zA1 L ms 0=[i,j,k]) (hi:zEp P md ops Q D S ms f L a w i) (hj:zEp P md ops Q D S ms f L a w j) (hk:zEp P md ops Q D S ms f L a w k):At_ P md ops Q D S ms (f+1) L a w:=
 qB3 [i,j,k] hr (by simp) (fun x hx=>by
  rcases List.mem_cons.1 hx with rfl|hx
  ·exact hi
  ·rcases List.mem_cons.1 hx with rfl|hx
   ·exact hj
   ·obtain rfl:=List.mem_singleton.1 hx
    exact hk)
theorem At_.cast {f L:Nat} {a a':Act} (h:At_ P md ops Q D S ms f L a' w) (e:a=a'):At_ P md ops Q D S ms f L a w:=e▸h
theorem Cor.start:Cor md ops (Array.replicate ops.size false) 0:=by
 refine⟨⟨by simp,fun j oj _ h=> ?_,fun _ h=>h⟩,fun j=> ?_⟩
 ·rw[getD_replicate_false]at h;cases h
 ·rw[getD_replicate_false,Nat.zero_testBit]
theorem zP2 {a:Act} (D:List Nat) (S:World->Prop) (ms:List Nat) (n:Nat) (hn:ops.size=n) (hs:Region.noSelect ops=true) (hw:ops.toList.map (zC md)=ms) (ha:zD ops ops.toList ms ops.toList ms 0=true)
  (h:At_ P md ops Q D S ms n 0 a w):wpAny P md ops Q ops.size (Array.replicate ops.size false) a w:=by
 subst hn
 exact zLw _ _ _ _ (h.out (Facts.mk' hs hw ha) _ Cor.start)
theorem qE0 {id:Nat} {a:Act} (D:List Nat) (S:World->Prop) (ms:List Nat) (n:Nat) (hm:P.follows .mixedOrders=true) (hn:ops.size=n) (hs:Region.noSelect ops=true) (hw:ops.toList.map (zC .any)=ms) (ha:zD ops ops.toList ms ops.toList ms 0=true)
  (h:At_ P .any ops Q D S ms n 0 a w.drew):(Code.region id ops true).wp P Q a w:=
 wp_region_any hm (zP2 D S ms n hn hs hw ha h)
theorem qA5 {a:Act} {f L:Nat} (hr:zA1 L ms 0=[]) (h:Q .normal a w):At_ P md ops Q D S ms f L a w:=by
 refine⟨fun F listed c=> ?_⟩
 have h1:Region.ready md ops listed=[]:=by
  apply List.eq_nil_iff_forall_not_mem.2
  intro j hj
  have:=(c.ready F j).1 hj
  rw[hr]at this
  cases this
 cases f with
 |zero=>exact⟨h1,h⟩
 |succ f=>exact⟨fun _=>h,by rw[h1];simp⟩
end
end Kit
end Go.Proofs.YtppnakkaljbmbaaGreatDoor
