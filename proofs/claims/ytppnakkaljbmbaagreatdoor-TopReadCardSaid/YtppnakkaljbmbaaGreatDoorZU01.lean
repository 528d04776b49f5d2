/- Steps of a proof; no condition beyond what each states. -/
import Derived.BigQuiet
import Derived.Deep.LoopGhost
import Derived.Lib.Hide
import Derived.Shelf.SlSortCmp.QuietGrown
import Derived.Test.YtppnakkaljbmbaaGreatDoorProg
import Derived.Test.YtppnakkaljbmbaaGreatDoorZU00
set_option linter.unusedVariables false
set_option linter.unusedSimpArgs false
set_option maxRecDepth 100000
set_option maxHeartbeats 8000000
namespace Go.Proofs.YtppnakkaljbmbaaGreatDoor
namespace Kit
open Go.RowKit
section
variable {P:Program} {ops:Array Oper} {md:Region.Mode} {Q:Exit->Act->World->Prop} {D:List Nat} {S:World->Prop} {ms:List Nat} {w:World}
theorem qH5 (i:Nat) {o:Oper} (d:Option Tmp) (g:FuncId) (args:Array Value) (v:Value) (L':Nat) {f L:Nat} {a:Act} (hr:zA1 L ms 0=[i]) (hL:(L|||1<<<i)=L') (hi:ops[i]? =some o) (hd:o.dst=d) (hw:Region.wanted o (yielded ops a.tmps)=true)
  (hv:(execOp a.eval o).run P w= .ok (.enter g args) w) (hc:Calls P g args w fun e w''=>e= .returned v/\w''=w) (h:At_ P md ops Q D S ms f L' (a.put d v) w):At_ P md ops Q D S ms (f+1) L a w:=
 qCf i d g args v L' hr hL hi hd hw hv hc (fun w' e=>by subst e;exact⟨.inl rfl,h⟩)
end
end Kit
section
section
open Go.RowKit Kit
section
variable {P:Program} {ops:Array Oper} {md:Region.Mode} {w w':World} {S:World->Prop} {D ms:List Nat} {Q:Exit->Act->World->Prop} {K:Act->Prop} {a:Act} {i:Nat} {l:List Nat} {n L:Nat} {id:Nat}
def opA (ops:Array Oper) (i:Nat):Oper:=(ops[i]?).getD default
def zUq:Option Tmp->Option Tmp->Bool
 |some a,some b=>Nat.beq a b
 |none,none=>true
 |_,_=>false
def okA (ops:Array Oper) (i:Nat) (d:Option Tmp) (ts:Array Value):Bool:=match ops[i]? with
 |some o=>zUq o.dst d&&Region.wanted o (yielded ops ts)
 |none=>false
theorem zZe {x y:Option Tmp} (h:zUq x y=true):x=y:=by
 cases x<;>cases y<;>simp_all [zUq]
theorem zB0 {d:Option Tmp} {ts:Array Value} (h:okA ops i d ts=true):ops[i]? =some (opA ops i)/\(opA ops i).dst=d/\Region.wanted (opA ops i) (yielded ops ts)=true:=by
 unfold okA at h
 unfold opA
 split at h
 ·rename_i o ho
  rw[Bool.and_eq_true]at h
  rw[ho]
  exact⟨rfl,zZe h.1,h.2⟩
 ·cases h
theorem zt (d:Tmp) (v:Value) (hv:(execOp a.eval (opA ops i)).run P w= .ok (.value v) w) (h:Ph P ops w K l (a.put (some d) v)) (hk:okA ops i (some d) a.tmps=true:=by kernel_rfl):Ph P ops w K (i::l) a:=
 zZ1 (some d) v (zB0 hk).1 (zB0 hk).2.1 (zB0 hk).2.2 hv h
theorem zk (d:Tmp) (v:Value) (h:Ph P ops w K l (a.put (some d) v)) (hk:okA ops i (some d) a.tmps=true:=by kernel_rfl) (hv:(execOp a.eval (opA ops i)).run P w= .ok (.value v) w:=by kernel_rfl):Ph P ops w K (i::l) a:=zt d v hv h hk
theorem zn (h:K a):Ph P ops w K [] a:=⟨h⟩
def phB (ms is:List Nat) (n L:Nat):Bool:=Nat.ble is.length n&&zMn ms L (zBj is) is&&zE9 ms is L
theorem zp (is:List Nat) (h:Ph P ops w (fun a'=>At_ P md ops Q D S ms (n-is.length) (L|||zBj is) a' w) is a) (hc:phB ms is n L=true:=by kernel_rfl):At_ P md ops Q D S ms n L a w:=by
 unfold phB at hc
 simp only[Bool.and_eq_true]at hc
 exact phase is (n-is.length) _ (by have:=Nat.le_of_ble_eq_true hc.1.1;omega) hc.1.2 hc.2 rfl h
def puB (ops:Array Oper) (i:Nat) (d:Option Tmp) (ts:Array Value) (ms:List Nat) (n L:Nat):Bool:=okA ops i d ts&&zE9 ms [i] L&&Nat.blt 0 n
theorem qFb {d:Option Tmp} {ts:Array Value} (h:puB ops i d ts ms n L=true):okA ops i d ts=true/\zE9 ms [i] L=true/\n=n-1+1:=by
 unfold puB at h
 simp only[Bool.and_eq_true]at h
 exact⟨h.1.1,h.1.2,by have:0<n:=Nat.le_of_ble_eq_true h.2;omega⟩
theorem zv (i:Nat) (d:Tmp) (v:Value) (hv:∀w,(execOp a.eval (opA ops i)).run P w= .ok (.value v) w) (h:At_ P md ops Q D S ms (n-1) (L|||1<<<i) (a.put (some d) v) w) (hk:puB ops i (some d) a.tmps ms n L=true:=by kernel_rfl)
  (hQ:∀c a w,Q (.panic c) (a.put (opA ops i).dst v) w->Q (.panic c) a w:=by intro _ _ _ h;exact h):At_ P md ops Q D S ms n L a w:=by
 obtain⟨h1,h2,h3⟩:=qFb hk
 rw[h3]
 exact qG6 i (some d) v _ (zB0 h1).1 (zB0 h1).2.1 h2 rfl hQ (zB0 h1).2.2 hv h
theorem zu (i:Nat) (d:Tmp) (v:Value) (h:At_ P md ops Q D S ms (n-1) (L|||1<<<i) (a.put (some d) v) w) (hk:puB ops i (some d) a.tmps ms n L=true:=by kernel_rfl) (hv:∀w,(execOp a.eval (opA ops i)).run P w= .ok (.value v) w:=by intro w;kernel_rfl)
  (hQ:∀c a w,Q (.panic c) (a.put (opA ops i).dst v) w->Q (.panic c) a w:=by intro _ _ _ h;exact h):At_ P md ops Q D S ms n L a w:=zv i d v hv h hk hQ
theorem zy (i:Nat) (d:Tmp) (v:Value) (hv:∀w,S w->(execOp a.eval (opA ops i)).run P w= .ok (.value v) w) (hS:S w) (h:At_ P md ops Q D S ms (n-1) (L|||1<<<i) (a.put (some d) v) w) (hk:puB ops i (some d) a.tmps ms n L=true:=by kernel_rfl) (hD:zZa ms D i=true:=by kernel_rfl)
  (hQ:∀c a w,Q (.panic c) (a.put (opA ops i).dst v) w->Q (.panic c) a w:=by intro _ _ _ h;exact h):At_ P md ops Q D S ms n L a w:=by
 obtain⟨h1,h2,h3⟩:=qFb hk
 rw[h3]
 exact qGy i (some d) v _ (zB0 h1).1 (zB0 h1).2.1 hD h2 rfl hQ (zB0 h1).2.2 hv hS h
def isL:List Nat->Nat->Bool
 |[j],i=>Nat.beq j i
 |_,_=>false
theorem qHz:∀{l:List Nat} {i:Nat},isL l i=true->l=[i]
 |[j],i,h=>by rw[Nat.eq_of_beq_eq_true h]
 |[],_,h=>by cases h
 |_::_::_,_,h=>by cases h
def oB (ops:Array Oper) (i:Nat) (d:Option Tmp) (ts:Array Value) (ms:List Nat) (n L:Nat):Bool:=okA ops i d ts&&isL (zA1 L ms 0) i&&Nat.blt 0 n
theorem oB_ {d:Option Tmp} {ts:Array Value} (h:oB ops i d ts ms n L=true):okA ops i d ts=true/\zA1 L ms 0=[i]/\n=n-1+1:=by
 unfold oB at h
 simp only[Bool.and_eq_true]at h
 exact⟨h.1.1,qHz h.1.2,by have:0<n:=Nat.le_of_ble_eq_true h.2;omega⟩
theorem zo (i:Nat) (d:Tmp) (v:Value) (hv:(execOp a.eval (opA ops i)).run P w= .ok (.value v) w') (hS:w'=w\/D.contains i=true\/S w') (h:At_ P md ops Q D S ms (n-1) (L|||1<<<i) (a.put (some d) v) w') (hk:oB ops i (some d) a.tmps ms n L=true:=by kernel_rfl):At_ P md ops Q D S ms n L a w:=by
 obtain⟨h1,h2,h3⟩:=oB_ hk
 rw[h3]
 exact zLe i (some d) v _ h2 rfl (zB0 h1).1 (zB0 h1).2.1 (zB0 h1).2.2 hv hS h
theorem zw (i:Nat) (d:Option Tmp) (hv:(execOp a.eval (opA ops i)).run P w= .ok .skip w') (hS:w'=w\/D.contains i=true\/S w') (h:At_ P md ops Q D S ms (n-1) (L|||1<<<i) (a.put d undef) w') (hk:oB ops i d a.tmps ms n L=true:=by kernel_rfl):At_ P md ops Q D S ms n L a w:=by
 obtain⟨h1,h2,h3⟩:=oB_ hk
 rw[h3]
 exact qHc i d _ h2 rfl (zB0 h1).1 (zB0 h1).2.1 (zB0 h1).2.2 hv hS h
theorem zc (i:Nat) (d:Tmp) (g:FuncId) (args:Array Value) (v:Value) {R:World->Prop} (hc:Calls P g args w fun e w''=>e= .returned v/\R w'') (h:∀w',R w'->(w'=w\/D.contains i=true\/S w')/\At_ P md ops Q D S ms (n-1) (L|||1<<<i) (a.put (some d) v) w')
  (hk:oB ops i (some d) a.tmps ms n L=true:=by kernel_rfl) (hv:(execOp a.eval (opA ops i)).run P w= .ok (.enter g args) w:=by kernel_rfl):At_ P md ops Q D S ms n L a w:=by
 obtain⟨h1,h2,h3⟩:=oB_ hk
 rw[h3]
 exact qCf i (some d) g args v _ h2 rfl (zB0 h1).1 (zB0 h1).2.1 (zB0 h1).2.2 hv hc h
theorem zx (i:Nat) (d:Tmp) (g:FuncId) (args:Array Value) {R:Ending->World->Prop} (hc:Calls P g args w R) (h:∀e w',R e w'->∃v,e= .returned v/\(w'=w\/D.contains i=true\/S w')/\At_ P md ops Q D S ms (n-1) (L|||1<<<i) (a.put (some d) v) w')
  (hk:oB ops i (some d) a.tmps ms n L=true:=by kernel_rfl) (hv:(execOp a.eval (opA ops i)).run P w= .ok (.enter g args) w:=by kernel_rfl):At_ P md ops Q D S ms n L a w:=by
 obtain⟨h1,h2,h3⟩:=oB_ hk
 rw[h3]
 exact qHm i (some d) g args _ h2 rfl (zB0 h1).1 (zB0 h1).2.1 (zB0 h1).2.2 hv hc h
theorem zd (i:Nat) (d:Tmp) (g:FuncId) (args:Array Value) (v:Value) (hc:Calls P g args w fun e w''=>e= .returned v/\w''=w) (h:At_ P md ops Q D S ms (n-1) (L|||1<<<i) (a.put (some d) v) w)
  (hk:oB ops i (some d) a.tmps ms n L=true:=by kernel_rfl) (hv:(execOp a.eval (opA ops i)).run P w= .ok (.enter g args) w:=by kernel_rfl):At_ P md ops Q D S ms n L a w:=
 zc i d g args v hc (fun w' e=>by subst e;exact⟨.inl rfl,h⟩) hk hv
theorem zS (D:List Nat) (S:World->Prop) (ms:List Nat) (n:Nat) (h:At_ P .any ops Q D S ms n 0 a w.drew) (hm:P.follows .mixedOrders=true:=by kernel_rfl) (hn:ops.size=n:=by kernel_rfl) (hs:Region.noSelect ops=true:=by kernel_rfl) (hw:ops.toList.map (zC .any)=ms:=by kernel_rfl)
  (ha:zD ops ops.toList ms ops.toList ms 0=true:=by kernel_rfl):(Code.region id ops true).wp P Q a w:=qE0 D S ms n hm hn hs hw ha h
theorem zE (h:Q .normal a w) (hr:zA1 L ms 0=[]:=by kernel_rfl):At_ P md ops Q D S ms n L a w:=qA5 hr h
variable {ρ:Operand->Value} {o:Oper} {p:Addr} {v:Value}
theorem zl (t:TypeId) (x:Tmp) (hr:(loadVar t p).run P w= .ok v w) (ho:o.op= .load t (.tmp x):=by kernel_rfl) (hx:ρ (.tmp x)= .pointer (some p):=by kernel_rfl):(execOp ρ o).run P w= .ok (.value v) w:=zM7 ho hx hr
theorem zr (t:TypeId) (x y:Tmp) (hr:(storeVar t p v).run P w= .ok () w') (ho:o.op= .store t (.tmp x) (.tmp y):=by kernel_rfl) (hx:ρ (.tmp x)= .pointer (some p):=by kernel_rfl) (hy:ρ (.tmp y)=v:=by kernel_rfl):(execOp ρ o).run P w= .ok .skip w':=zHa ho hx hy hr
end
end
end
namespace Kit
open Go.RowKit
structure Lay (α:Type) where
 k:Nat
 pos:0<k
 cl:α->List Value
 len:∀x,(cl x).length=k
 one:∀x,∀u∈cl x,u.oneCell'=true
section
variable {α:Type} (L:Lay α)
def flat (l:List α):List Value:=l.flatMap L.cl
theorem zKo (l m:List α):flat L (l++m)=flat L l++flat L m:=by simp[flat]
theorem zGp (x:α) (l:List α):flat L (x::l)=L.cl x++flat L l:=rfl
theorem zBg:∀l:List α,(flat L l).length=l.length*L.k
 |[]=>by simp[flat]
 |x::l=>by
  rw[zGp,List.length_append,L.len,zBg l,List.length_cons,Nat.add_mul,Nat.one_mul]
  omega
theorem flat_get:∀(l:List α) (j:Nat) (x:α),l[j]? =some x->∀i,i<L.k->(flat L l)[j*L.k+i]? =(L.cl x)[i]?
 |[],j,x,e,i,hi=>by simp at e
 |y::l,0,x,e,i,hi=>by
  simp at e;subst e
  rw[zGp,Nat.zero_mul,Nat.zero_add,List.getElem?_append_left (by rw[L.len];exact hi)]
 |y::l,j+1,x,e,i,hi=>by
  have ih:=flat_get l j x (by simpa using e) i hi
  have hl:=L.len y
  rw[zGp,List.getElem?_append_right (by rw[hl,Nat.add_mul];omega),hl]
  rw[show(j+1)*L.k+i-L.k=j*L.k+i by rw[Nat.add_mul];omega]
  exact ih
theorem zPj (l:List α):∀u∈flat L l,u.oneCell'=true:=by
 intro u hu
 unfold flat at hu
 obtain⟨x,_,hx⟩:=List.mem_flatMap.1 hu
 exact L.one x u hx
theorem zT2:∀(l:List α) (i:Nat) (u:Value),(flat L l)[i]? =some u->∃x,l[i/L.k]? =some x/\(L.cl x)[i%L.k]? =some u
 |[],i,u,h=>by simp[flat]at h
 |y::r,i,u,h=>by
  rw[zGp,List.getElem?_append,L.len]at h
  have hk:=L.pos
  split at h
  ·rename_i hi
   exact⟨y,by rw[Nat.div_eq_of_lt hi];rfl,by rw[Nat.mod_eq_of_lt hi];exact h⟩
  ·rename_i hi
   obtain⟨x,hx,hu⟩:=zT2 r (i-L.k) u h
   obtain⟨d,rfl⟩:∃d,i=d+L.k:=⟨i-L.k,by omega⟩
   rw[Nat.add_sub_cancel]at hx hu
   exact⟨x,by rw[Nat.add_div_right _ hk];simpa using hx,by rw[Nat.add_mod_right];exact hu⟩
def Rd (w:World) (a:Option Addr) (l:List α):Prop:=∀j x,l[j]? =some x->∃b off,a=some ⟨b,off,none⟩/\∀i,i<L.k->w.cell? ⟨b,off+j*L.k+i,none⟩=(L.cl x)[i]?
variable {L}
theorem qAs (w:World) (o:Obj):(w.alloc o).heap[w.heap.size]? =some o:=by
 show(w.heap.push o)[w.heap.size]? =some o
 simp
theorem Rd.below {w w':World} {a:Option Addr} {l:List α} {B:Nat} (h:Rd L w a l) (hb:Below B w w') (hB:B=w.heap.size):Rd L w' a l:=by
 intro j x hx
 obtain⟨b,off,ha,hc⟩:=h j x hx
 refine⟨b,off,ha,fun i hi=> ?_⟩
 have h1:=hc i hi
 rw[hb.cell (p:=⟨b,off+j*L.k+i,none⟩)]
 ·exact h1
 ·rw[hB]
  rw[List.getElem?_eq_getElem (by rw[L.len];exact hi)]at h1
  exact block_lt_of_cell h1
theorem Rd.take {w:World} {a:Option Addr} {l:List α} (h:Rd L w a l) (n:Nat):Rd L w a (l.take n):=by
 intro j x hx
 refine h j x ?_
 rw[List.getElem?_take]at hx
 split at hx
 ·exact hx
 ·cases hx
theorem Rd.at_ {w:World} {a:Option Addr} {l:List α} (h:Rd L w a l) (j:Nat) (hj:j<l.length):∃b off,a=some ⟨b,off,none⟩/\∀i,i<L.k->w.cell? ⟨b,off+j*L.k+i,none⟩=(L.cl l[j])[i]? :=h j l[j] (List.getElem?_eq_getElem hj)
theorem Rd.cells {w:World} {b off:Nat} {l:List α} (h:Rd L w (some ⟨b,off,none⟩) l):∀i u,(flat L l)[i]? =some u->w.cell? ((⟨b,off,none⟩:Addr).add i)=some u:=by
 intro i u hu
 obtain⟨x,hx,hc⟩:=zT2 L l i u hu
 obtain⟨b',off',ha,h0⟩:=h _ x hx
 injection ha with ha
 injection ha with hb ho
 subst hb ho
 rw[addr_add]
 have h1:=h0 (i%L.k) (Nat.mod_lt _ L.pos)
 rw[hc]at h1
 have hd:=Nat.div_add_mod i L.k
 rw[Nat.mul_comm]at hd
 rw[show off+i=off+i/L.k*L.k+i%L.k by omega]
 exact h1
def Own' (L:Lay α) (w:World) (B:Nat) (e:TypeId) (a:Option Addr) (n c:Nat) (l:List α):Prop:=w.ownsRow B e L.k (.slice a n c) n (flat L l)
theorem Own'.len {w:World} {B:Nat} {e:TypeId} {a:Option Addr} {n c:Nat} {l:List α} (h:Own' L w B e a n c l):l.length=n:=by
 have h1:=h.1
 rw[zBg]at h1
 exact Nat.eq_of_mul_eq_mul_right L.pos h1
theorem Own'.start (w:World) (B:Nat) (e:TypeId):Own' L w B e none 0 0 []:=World.ownsRow_nil w B e L.k
theorem Own'.alloc {w:World} {B:Nat} {e:TypeId} {a:Option Addr} {n c:Nat} {l:List α} (h:Own' L w B e a n c l) (o:Obj):Own' L (w.alloc o) B e a n c l:=World.ownsRow.alloc h o
theorem Own'.below {w w':World} {B D:Nat} {e:TypeId} {a:Option Addr} {n c:Nat} {l:List α} (h:Own' L w B e a n c l) (hb:Below D w w') (hD:w.heap.size<=D):Own' L w' B e a n c l:=by
 obtain⟨h1,h2⟩:=h
 refine⟨h1,?_⟩
 rcases h2 with h2|⟨g,cap,cur,hv,hbg,hg,r⟩
 ·exact .inl h2
 ·refine .inr ⟨g,cap,cur,hv,hbg,?_,r⟩
  have hlt:g<w.heap.size:=by
   rcases Nat.lt_or_ge g w.heap.size with hlt|hge
   ·exact hlt
   ·rw[Array.getElem?_eq_none hge]at hg;cases hg
  rw[hb.block g (by omega),hg]
theorem Own'.base {w:World} {B B':Nat} {e:TypeId} {a:Option Addr} {n c:Nat} {l:List α} (h:Own' L w B e a n c l) (hB:B'<=B):Own' L w B' e a n c l:=by
 obtain⟨h1,h2⟩:=h
 refine⟨h1,?_⟩
 rcases h2 with h2|⟨g,cap,cur,hv,hbg,r⟩
 ·exact .inl h2
 ·exact .inr ⟨g,cap,cur,hv,by omega,r⟩
theorem Own'.block {w:World} {B:Nat} {e:TypeId} {a:Option Addr} {n c:Nat} {l:List α} (h:Own' L w B e a n c l):∀k,(Value.slice a n c).ownBlock=some k->B<=k:=fun k hk=>(World.ownsRow.lt h k hk).1
theorem Own'.at_ {w:World} {B:Nat} {e:TypeId} {a:Option Addr} {n c:Nat} {l:List α} (h:Own' L w B e a n c l) (hn:0<n):∃g,a=some ⟨g,0,none⟩/\B<=g/\g<w.heap.size/\n<=c:=by
 obtain⟨h1,h2⟩:=h
 rcases h2 with⟨_,h2⟩|⟨g,cap,cur,hv,hb,hg,hnc,_⟩
 ·omega
 ·injection hv with ha hn' hc
  subst ha hc
  refine⟨g,rfl,hb,?_,hnc⟩
  rcases Nat.lt_or_ge g w.heap.size with hlt|hge
  ·exact hlt
  ·rw[Array.getElem?_eq_none hge]at hg;cases hg
theorem Own'.rd {w:World} {B:Nat} {e:TypeId} {a:Option Addr} {n c:Nat} {l:List α} (h:Own' L w B e a n c l):Rd L w a l:=by
 intro j x hx
 have hl:=h.len
 have hj:j<l.length:=by
  rcases Nat.lt_or_ge j l.length with h1|h1
  ·exact h1
  ·rw[List.getElem?_eq_none h1]at hx;cases hx
 obtain⟨g,ha,_,_,_⟩:=h.at_ (by omega)
 subst ha
 refine⟨g,0,rfl,fun i hi=> ?_⟩
 rw[Nat.zero_add,World.ownsRow.cellAt h _,flat_get L l j x hx i hi]
 have:(j+1)*L.k<=n*L.k:=Nat.mul_le_mul_right _ (by omega)
 rw[Nat.add_mul]at this
 omega
structure zVx (P:Program) (t e:TypeId) (k bytes:Nat):Prop where
 ut:P.underlying t=some (.slice e)
 row:∃z:Value,(P.info? e).map (fun i=>(i.zero,i.size,i.bytes))=some (some z,k,bytes)/\z.cells.size=k
theorem Own'.app {P:Program} {w:World} {B bytes:Nat} {t ty e:TypeId} {a:Option Addr} {n c:Nat} {l:List α} (o:zVx P t e L.k bytes) (h:Own' L w B e a n c l)
  (x:Option Addr) (m cx:Nat) (news:List α) (hs:Rd L w x news) (hm:news.length=m) (hx:x=none->m=0/\cx=0) (h63:n+m<=maxLen) (hbytes:(n+m)*bytes<=140737488355328) (hbase:B<=w.heap.size):
  ∃a' c' w',(Builtin.append_ #[t,t] ty #[.slice a n c,.slice x m cx]).run P w= .ok (.slice a' (n+m) c') w'/\Own' L w' B e a' (n+m) c' (l++news)/\w.grownBy w' (Value.ownBlock (.slice a n c)):=by
 obtain⟨z,hz,hzs⟩:=o.row
 obtain⟨i,hi,hz0,hz1,hz2⟩:=info_parts hz
 have form:∀{v:Value} {w':World} {k:Nat} {ys:List Value},w'.ownsRow B e L.k v k ys->∃a' c',v= .slice a' k c':=by
  intro v w' k ys hv
  rcases hv.2 with⟨rfl,hy⟩|⟨g,cap,cur,rfl,_⟩
  ·subst hy
   exact⟨_,_,rfl⟩
  ·exact⟨_,_,rfl⟩
 cases x with
 |none=>
  obtain⟨rfl,rfl⟩:=hx rfl
  have hn:news=[]:=List.eq_nil_of_length_eq_zero hm
  subst hn
  refine⟨a,c,w,run_append_owned_none (P:=P) (w:=w) B t ty e i L.k o.ut hi _ n (flat L l) h,by simpa using h,⟨rfl,rfl,rfl,Nat.le_refl _,fun _ _ _=>rfl⟩⟩
 |some y=>
  by_cases h0:m=0
  ·subst h0
   have hn:news=[]:=List.eq_nil_of_length_eq_zero hm
   subst hn
   obtain⟨v',w',hr,ho,hg,_⟩:=run_append_own (P:=P) w B t ty e i z L.k bytes o.ut hi hz0 hz1 hz2 hzs L.pos _ n (flat L l) h y 0 cx [] (by simp) (fun j u hu=>by simp at hu) (fun u hu=>by simp at hu) h63 hbytes hbase
   obtain⟨a',c',rfl⟩:=form ho
   exact⟨a',c',w',hr,by rw[List.append_nil]at ho⊢;exact ho,hg⟩
  ·obtain⟨b,off,hb,_⟩:=hs 0 news[0] (List.getElem?_eq_getElem (by omega))
   injection hb with hb
   subst hb
   obtain⟨v',w',hr,ho,hg,_⟩:=run_append_own (P:=P) w B t ty e i z L.k bytes o.ut hi hz0 hz1 hz2 hzs L.pos _ n (flat L l) h ⟨b,off,none⟩ m cx (flat L news) (by rw[zBg,hm]) hs.cells (zPj L _) h63 hbytes hbase
   obtain⟨a',c',rfl⟩:=form ho
   exact⟨a',c',w',hr,by unfold Own';rw[zKo];exact ho,hg⟩
theorem zFo (w:World) (x:α) (t:TypeId):Rd L (w.alloc (.cells (L.cl x).toArray t)) (some ⟨w.heap.size,0,none⟩) [x]:=by
 intro j y hj
 match j,hj with
 |0,hj=>
  simp at hj
  subst hj
  refine⟨_,_,rfl,fun i hi=> ?_⟩
  have h:(w.alloc (.cells (L.cl x).toArray t)).heap[w.heap.size]? =some (.cells (L.cl x).toArray t):=qAs w _
  simp only[Nat.zero_mul,Nat.zero_add,World.cell?,h]
  simp
theorem zNf (w:World) (l:List α) (t:TypeId) (B:Nat) (hB:B<=w.heap.size) (hm:l.length<=maxLen):Own' L (w.alloc (.cells (flat L l).toArray t)) B t (some ⟨w.heap.size,0,none⟩) l.length l.length l:=by
 have:=World.ownsRow_lit (base:=B) (size:=L.k) (e:=t) w (flat L l).toArray l.length hB hm (by rw[List.size_toArray,zBg])
 exact this
end
end Kit
namespace Kit
open Go.RowKit
section
variable {α:Type} {L:Lay α}
theorem zT1 (l:List α) (j:Nat) (h:j/L.k<l.length):(flat L l)[j]? =(L.cl l[j/L.k])[j%L.k]? :=by
 have h1:=flat_get L l (j/L.k) l[j/L.k] (List.getElem?_eq_getElem h) (j%L.k) (Nat.mod_lt _ L.pos)
 rw[Nat.mul_comm,Nat.div_add_mod]at h1
 exact h1
def spl (cur:Array Value):Nat->List Value->Array Value
 |_,[]=>cur
 |o,v::r=>spl (cur.setIfInBounds o v) (o+1) r
theorem zP7:∀(vs:List Value) (cur:Array Value) (o:Nat),(spl cur o vs).size=cur.size
 |[],_,_=>rfl
 |v::r,cur,o=>by rw[spl,zP7 r];simp
theorem zM5:∀(vs:List Value) (cur:Array Value) (o j:Nat),(j<o\/o+vs.length<=j)->(spl cur o vs)[j]? =cur[j]?
 |[],_,_,_,_=>rfl
 |v::r,cur,o,j,h=>by
  rw[List.length_cons]at h
  rw[spl,zM5 r _ _ _ (by omega),Array.getElem?_setIfInBounds,if_neg (by omega)]
theorem zWt:∀(vs:List Value) (cur:Array Value) (o j:Nat),j<vs.length->o+vs.length<=cur.size->(spl cur o vs)[o+j]? =vs[j]?
 |[],_,_,_,h,_=>by simp at h
 |v::r,cur,o,0,h,hs=>by
  rw[List.length_cons]at hs
  rw[spl,zM5 r _ _ _ (.inl (by omega)),Array.getElem?_setIfInBounds,Nat.add_zero,if_pos rfl,if_pos (by omega)]
  rfl
 |v::r,cur,o,j+1,h,hs=>by
  rw[List.length_cons]at h hs
  rw[spl,show o+(j+1)=o+1+j by omega,zWt r _ _ j (by omega) (by simp;omega)]
  rfl
theorem zDl:∀(vs:List Value) (w:World) (g o:Nat) (cur:Array Value) (t:TypeId) (f:Nat×Nat),w.heap[g]? =some (.cells cur t f)->(w.setCells g o vs).heap[g]? =some (.cells (spl cur o vs) t f)
 |[],_,_,_,_,_,_,h=>h
 |v::r,w,g,o,cur,t,f,h=>zDl r _ g (o+1) _ t f (by simp[World.setCell,Array.getElem?_modify,h])
theorem zAo:∀(vs:List Value) (w:World) (g o k:Nat),k≠g->(w.setCells g o vs).heap[k]? =w.heap[k]?
 |[],_,_,_,_,_=>rfl
 |v::r,w,g,o,k,h=>by
  have h':g≠k:=fun e=>h e.symm
  show((w.setCell ⟨g,o,none⟩ v).setCells g (o+1) r).heap[k]? =_
  rw[zAo r _ g (o+1) k h]
  simp[World.setCell,Array.getElem?_modify,h']
theorem size_setCells:∀(vs:List Value) (w:World) (g o:Nat),(w.setCells g o vs).heap.size=w.heap.size
 |[],_,_,_=>rfl
 |v::r,w,g,o=>by
  show((w.setCell ⟨g,o,none⟩ v).setCells g (o+1) r).heap.size=_
  rw[size_setCells r];simp[World.setCell]
theorem below_setCells {B:Nat}:∀(vs:List Value) {w w':World} (g o:Nat),Below B w w'->B<=g->Below B w (w'.setCells g o vs)
 |[],_,_,_,_,h,_=>h
 |v::r,w,w',g,o,h,hg=>below_setCells r g (o+1) (h.setCell (p:=⟨g,o,none⟩) hg v) hg
theorem qA3 (m:List α) (i:Nat) (x:α) (hi:i<m.length) (j:Nat):(flat L (m.set i x))[j]? =if i*L.k<=j/\j<i*L.k+L.k then(L.cl x)[j-i*L.k]? else(flat L m)[j]? :=by
 have hk:=L.pos
 have hd:=Nat.div_add_mod j L.k
 have hm:=Nat.mod_lt j hk
 rw[Nat.mul_comm]at hd
 rcases Nat.lt_or_ge (j/L.k) m.length with h|h
 ·rw[zT1 _ j (by simpa using h),zT1 _ j h]
  by_cases e:i=j/L.k
  ·subst e
   rw[if_pos (by omega)]
   rw[List.getElem_set_self]
   congr 1
   omega
  ·rw[if_neg,List.getElem_set_ne e]
   rintro⟨h1,h2⟩
   apply e
   have h3:i<=j/L.k:=(Nat.le_div_iff_mul_le hk).2 h1
   have h4:j/L.k<i+1:=(Nat.div_lt_iff_lt_mul hk).2 (by rw[Nat.add_mul,Nat.one_mul];exact h2)
   omega
 ·have h1:m.length*L.k<=j:=(Nat.le_div_iff_mul_le hk).1 h
  have h2:(i+1)*L.k<=m.length*L.k:=Nat.mul_le_mul_right _ hi
  rw[Nat.add_mul,Nat.one_mul]at h2
  rw[if_neg (by omega),List.getElem?_eq_none (by rw[zBg];simpa using h1),List.getElem?_eq_none (by rw[zBg];exact h1)]
theorem Own'.set {P:Program} {w:World} {B:Nat} {e:TypeId} {g n c:Nat} {m:List α} (h:Own' L w B e (some ⟨g,0,none⟩) n c m) (hz:(P.info? e).map (·.size)=some L.k) (i:Nat) (hi:i<n) (x:α):
  (storeVar e ⟨g,i*L.k,none⟩ (.agg (L.cl x).toArray)).run P w= .ok () (w.setCells g (i*L.k) (L.cl x))/\Own' L (w.setCells g (i*L.k) (L.cl x)) B e (some ⟨g,0,none⟩) n c (m.set i x):=by
 have hlen:=h.len
 have hik:(i+1)*L.k<=n*L.k:=Nat.mul_le_mul_right _ hi
 rw[Nat.add_mul,Nat.one_mul]at hik
 have hcl:(L.cl x).toArray.size=L.k:=by rw[List.size_toArray,L.len]
 have hfl:(flat L m).length=n*L.k:=by rw[zBg,hlen]
 refine⟨?_,?_⟩
 ·refine run_storeVar_mid (P:=P) w g (i*L.k) e (L.cl x).toArray (fun j hj=> ?_) (by rw[hz,hcl]) (by rw[Array.all_eq_true_iff_forall_mem];intro u hu;exact L.one x u (by simpa using hu))
  rw[hcl]at hj
  refine⟨?_,World.ownsRow.frozenAt h _⟩
  rw[World.ownsRow.cellAt h _ (by omega),List.getElem?_eq_getElem (by omega)]
  rfl
 ·obtain⟨h1,h2⟩:=h
  rcases h2 with⟨h2,_⟩|⟨g',cap,cur,hv,hbg,hg,hnc,hcm,hs,ht⟩
  ·cases h2
  ·injection hv with ha hn hc
   injection ha with ha
   injection ha with ha
   subst ha hc
   have hcap:n*L.k<=c*L.k:=Nat.mul_le_mul_right _ hnc
   refine⟨by rw[zBg,List.length_set,hlen],.inr ⟨g,c,spl cur (i*L.k) (L.cl x),rfl,hbg,zDl _ _ _ _ _ _ _ hg,hnc,hcm,by rw[zP7];exact hs,?_⟩⟩
   apply List.ext_getElem?
   intro j
   rw[qA3 m i x (by omega) j,<-ht,List.getElem?_take,List.getElem?_take,Array.getElem?_toList,Array.getElem?_toList]
   by_cases hj:j<n*L.k
   ·rw[if_pos hj,if_pos hj]
    by_cases hc:i*L.k<=j/\j<i*L.k+L.k
    ·rw[if_pos hc]
     have:=zWt (L.cl x) cur (i*L.k) (j-i*L.k) (by rw[L.len];omega) (by rw[L.len,hs];omega)
     rw[show i*L.k+(j-i*L.k)=j by omega]at this
     simpa using this
    ·rw[if_neg hc]
     have:=zM5 (L.cl x) cur (i*L.k) j (by rw[L.len];omega)
     simpa using this
   ·rw[if_neg hj,if_neg hj,if_neg (by omega)]
theorem zHe {P:Program} {w:World} {b off:Nat} {e:TypeId} {x:α} (hc:∀i,i<L.k->w.cell? ⟨b,off+i,none⟩=(L.cl x)[i]?) (hz:∀w,(sizeOf e).run P w= .ok L.k w) (ha:∀w,(isAgg e).run P w= .ok true w):
  (loadVar e ⟨b,off,none⟩).run P w= .ok (.agg (L.cl x).toArray) w:=by
 have h1:=run_loadCells_list (P:=P) w ⟨b,off,none⟩ (L.cl x) (fun j v hv=>by
  have hj:j<L.k:=by
   rcases Nat.lt_or_ge j (L.cl x).length with h|h
   ·rwa[L.len]at h
   ·rw[List.getElem?_eq_none h]at hv;cases hv
  rw[addr_add,hc j hj,hv])
 rw[L.len]at h1
 simp[loadVar,Sem.run_bind,ha,hz,h1]
theorem Rd.ld {P:Program} {w:World} {b off:Nat} {e:TypeId} {l:List α} (h:Rd L w (some ⟨b,off,none⟩) l) (i:Nat) (hi:i<l.length) (hz:∀w,(sizeOf e).run P w= .ok L.k w) (ha:∀w,(isAgg e).run P w= .ok true w):
  (loadVar e ⟨b,off+i*L.k,none⟩).run P w= .ok (.agg (L.cl l[i]).toArray) w:=by
 obtain⟨b',off',hb,hc⟩:=h i l[i] (List.getElem?_eq_getElem hi)
 injection hb with hb
 injection hb with h1 h2 _
 subst h1 h2
 exact zHe hc hz ha
end
end Kit
namespace St
open Go.RowKit Go.Lib Go.Sort Go.Proofs
theorem qFh (x y:Int) (b:Nat) (w:World) (h0:w.cell? ⟨b,0,none⟩=some (.int .i64 x)) (h1:w.cell? ⟨b,1,none⟩=some (.int .i64 y)):
  Calls Tryz.prog 183 #[.slice (some ⟨b,0,none⟩) 2 2] w fun e w'=>e= .returned (.int .i64 (if x=0 then y else x))/\w'=w:=by
 have C0:=zH h0
 have C1:=zH h1
 clear h0 h1
 obtain⟨v,hv⟩:=zB ((if x=0 then y else x))
 rw[hv]
 have HV:=zH hv
 clear hv
 go_enter Tryz.func183,Tryz.ntmps183
 go_wp2
 go_loopg [8] 2 (fun kx s8 wr=>∃(j:Nat),s8= .int .i64 j/\j<=2/\2-j<=kx/\(0<j->x=0)/\(1<j->y=0)/\wr=w)
 case atStart=>exact⟨0,rfl,by omega,by omega,fun h=>by omega,fun h=>by omega,rfl⟩
 case round=>
  obtain⟨j,rfl,hj,hkx,hx,hy,rfl⟩:=hrel
  by_cases e0:j=0
  ·subst e0
   have c0:=C0.out
   by_cases hx0:x=0
   ·subst hx0
    go_wp2
    go_roundg 1
    case measure=>omega
    case rel=>exact⟨1,by go_num,by omega,by omega,by first|trivial|(intro _;rfl)|(intro h;omega),by first|trivial|(intro _;rfl)|(intro h;omega),by first|rfl|trivial⟩
   ·have hz:(x==0)=false:=by rw[beq_eq_false_iff_ne];exact hx0
    have hz2:(x !=0)=true:=by simp[hx0]
    go_wp2
    go_ret
    exact⟨by rw[<-HV.out,if_neg hx0];rfl,rfl⟩
  ·have hx0:=hx (by omega)
   subst hx0
   have hvy:y=v:=by rw[<-HV.out,if_pos rfl]
   subst hvy
   clear HV
   by_cases e1:j=1
   ·subst e1
    have c1:=C1.out
    by_cases hy0:y=0
    ·subst hy0
     go_wp2
     go_roundg 0
     case measure=>omega
     case rel=>exact⟨2,by go_num,by omega,by omega,by first|trivial|(intro _;rfl)|(intro h;omega),by first|trivial|(intro _;rfl)|(intro h;omega),by first|rfl|trivial⟩
    ·have hz:(y==0)=false:=by rw[beq_eq_false_iff_ne];exact hy0
     have hz2:(y !=0)=true:=by simp[hy0]
     go_wp2
     go_ret
     exact⟨rfl,rfl⟩
   ·obtain rfl:j=2:=by omega
    have hy0:=hy (by omega)
    subst hy0
    go_wp2
    go_ret
    exact⟨rfl,rfl⟩
end St
namespace St
open Go.RowKit Go.Lib Go.Sort Go.Proofs
variable {w w':World} {b:Nat}
def Grn (w w':World):Prop:=∃q os,w'=grow (w.drewN q) os
theorem Grn.refl (w:World):Grn w w:=⟨0,#[],by rw[grow_empty];rfl⟩
theorem Grn.drew (w:World):Grn w w.drew:=⟨1,#[],by rw[grow_empty];rfl⟩
theorem Grn.alloc (w:World) (o:Obj):Grn w (w.alloc o):=⟨0,#[o],by rw[alloc_eq_grow];rfl⟩
theorem Grn.trans {w1 w2:World} (h:Grn w w1) (g:Grn w1 w2):Grn w w2:=by
 obtain⟨q,os,rfl⟩:=h
 obtain⟨r,ot,rfl⟩:=g
 exact⟨q+r,os++ot,by show grow (grow ((w.drewN q).drewN r) os) ot=_;rw[grow_grow,World.drewN_drewN]⟩
theorem Grn.cell (h:Grn w w') {a:Addr} {v:Value} (hc:w.cell? a=some v):w'.cell? a=some v:=by
 obtain⟨q,os,rfl⟩:=h
 exact cell_grown (block_lt_of_cell hc) hc q os
theorem Grn.size (h:Grn w w'):w.heap.size<=w'.heap.size:=by
 obtain⟨q,os,rfl⟩:=h
 rw[size_grow];exact Nat.le_add_right _ _
theorem Grn.block (h:Grn w w') (k:Nat) (hk:k<w.heap.size):w'.heap[k]? =w.heap[k]? :=by
 obtain⟨q,os,rfl⟩:=h
 exact Sort.heap_grow_old _ _ hk
theorem Grn.below (h:Grn w w'):Below w.heap.size w w':=by
 obtain⟨q,os,rfl⟩:=h
 refine⟨rfl,rfl,rfl,?_,fun k hk=>Sort.heap_grow_old _ _ hk⟩
 rw[size_grow];exact Nat.le_add_right _ _
structure RK where
 s:ByteArray
 N:Nat
 n:Nat
 c:Nat
 m:Nat
abbrev TR:TypeId:=221
def RL:Kit.Lay RK where
 k:=3
 pos:=by omega
 cl:=fun r=>[.string r.s,.slice (some ⟨r.N,0,none⟩) r.n r.c,.int .i64 (r.m:Int)]
 len:=fun _=>rfl
 one:=fun p v hv=>by
  simp at hv
  rcases hv with rfl|rfl|rfl<;>rfl
def rv (r:RK):Value:= .agg #[.string r.s,.slice (some ⟨r.N,0,none⟩) r.n r.c,.int .i64 (r.m:Int)]
abbrev zNa (r:RK):Obj:= .cells #[.string r.s,.slice (some ⟨r.N,0,none⟩) r.n r.c,.int .i64 (r.m:Int)] TR
structure RB (w:World) (b:Nat) (r:RK):Prop where
 c0:w.cell? ⟨b,0,none⟩=some (.string r.s)
 c1:w.cell? ⟨b,1,none⟩=some (.slice (some ⟨r.N,0,none⟩) r.n r.c)
 c2:w.cell? ⟨b,2,none⟩=some (.int .i64 (r.m:Int))
theorem RB.new (w:World) (r:RK):RB (w.alloc (zNa r)) w.heap.size r:=by
 refine⟨?_,?_,?_⟩<;>simp
theorem RB.grn {r:RK} (h:RB w b r) (g:Grn w w'):RB w' b r:=⟨g.cell h.c0,g.cell h.c1,g.cell h.c2⟩
theorem RB.l0 {r:RK} (h:RB w b r):(loadVar 9 ⟨b,0,none⟩).run Tryz.prog w= .ok (.string r.s) w:=Kit.zAg h.c0 (by kernel_rfl) (by kernel_rfl)
theorem RB.l1 {r:RK} (h:RB w b r):(loadVar 23 ⟨b,1,none⟩).run Tryz.prog w= .ok (.slice (some ⟨r.N,0,none⟩) r.n r.c) w:=Kit.zAg h.c1 (by kernel_rfl) (by kernel_rfl)
theorem RB.l2 {r:RK} (h:RB w b r):(loadVar 3 ⟨b,2,none⟩).run Tryz.prog w= .ok (.int .i64 (r.m:Int)) w:=Kit.zAg h.c2 (by kernel_rfl) (by kernel_rfl)
theorem RB.ld {r:RK} (h:RB w b r):(loadVar TR ⟨b,0,none⟩).run Tryz.prog w= .ok (rv r) w:=by
 refine Kit.zHe (L:=RL) (x:=r) (fun i hi=> ?_) (fun w=>by kernel_rfl) (fun w=>by kernel_rfl)
 match i,hi with
 |0,_=>exact h.c0
 |1,_=>exact h.c1
 |2,_=>exact h.c2
theorem zE4 {p:Addr} {v:Int} (h:w.cell? p=some (.int .i64 v)):(loadVar 3 p).run Tryz.prog w= .ok (.int .i64 v) w:=Kit.zAg h (by kernel_rfl) (by kernel_rfl)
theorem qCs {P:Program} {ρ:Operand->Value} {o:Oper} {t u:TypeId} {x y:Operand} {k:IntKind} {m n r:Int} (ho:o.op= .binOp .rem t x y u) (hx:ρ x= .int k m) (hy:ρ y= .int k n) (hn:n≠0) (hr:m.tmod n=r) (w:World):(execOp ρ o).run P w= .ok (.value (.int k r)) w:=by
 unfold execOp
 simp[ho,hx,hy,go_sem,hn,hr]
theorem qGj (r:RK) (k:Nat) (v:Int) (w:World) (hs:r.s.size=r.n) (h0:0<r.n) (hn:r.n<=1000000) (hm:r.m<=2000000) (hk:k<r.n) (hc:w.cell? ⟨r.N,(k+r.m)%r.n,none⟩=some (.int .i64 v)):
  Calls Tryz.prog 184 #[rv r,.int .i64 (k:Int)] w fun e w'=>e= .returned (.int .i64 v)/\Grn w w':=by
 have hq:(k+r.m)%r.n<r.n:=Nat.mod_lt _ h0
 have HB:=zH ((RB.new w r).grn (Grn.drew _))
 have G1:=zH ((Grn.alloc w (zNa r)).trans (Grn.drew _))
 have HC:=zH (zE4 (G1.out.cell hc))
 have HA:=zH (show IntKind.i64.wrap ((k:Int)+(r.m:Int))=((k+r.m:Nat):Int)by rw[IntWalk.i64_in _ (by omega)];omega)
 have HM:=zH (show((k+r.m:Nat):Int).tmod (r.s.size:Int)=(((k+r.m)%r.n:Nat):Int)by
  rw[hs,Int.tmod_eq_emod_of_nonneg (by omega)];omega)
 have HZ:=zH (show(r.s.size:Int)≠0 by rw[hs];omega)
 have HQ:=zH hq
 obtain⟨B,hB⟩:=zB w.heap.size
 have HS:=zH hs
 rw[hB]at HB
 have HBB:=zH hB
 clear hq hs hc hB h0 hn hm hk
 unfold rv
 go_enter Tryz.func184,Tryz.ntmps184
 go_wp2
 rw[HBB.out]
 refine zS [] (fun _=>True) [0,1,0,0,8,20,0,64,128,256,544,1026,2048,8191] 14<|zp [0,1,2,3,4,5,6,7,8,9,10,11,12,13]<|zk 5 (zP B 1)<|zt 6 (.slice (some ⟨r.N,0,none⟩) r.n r.c) (zl 23 5 (HB.out.l1))<|zk 7 (zI k)<|zk 8 (zP B 2)<|zt 9 (.int .i64 (r.m:Int)) (zl 3 8 (HB.out.l2))<|zt 10 (.int .i64 ((k+r.m:Nat):Int)) (Kit.qCv (x:= .tmp 7) (y:= .tmp 9) rfl (by kernel_rfl) (by kernel_rfl) HA.out _)<|zk 11 (zP B 0)<|zk 12 (zP B 0)<|zt 13 (.string r.s) (zl 9 12 (HB.out.l0))<|zk 14 (.int .i64 (r.s.size:Int))<|zt 15 (.int .i64 (((k+r.m)%r.n:Nat):Int)) (qCs (x:= .tmp 10) (y:= .tmp 14) rfl (by kernel_rfl) (by kernel_rfl) HZ.out HM.out _)<|zt 16 (.pointer (some ⟨r.N,(k+r.m)%r.n,none⟩)) (Kit.zBo (t:=23) (x:=(.tmp 6)) (y:=(.tmp 15)) (g:=r.N) (n:=r.n) (c:=r.c) (k:=(k+r.m)%r.n) rfl (by kernel_rfl) (by kernel_rfl) HQ.out Tryz.underlying23 (fun _=>Tryz.sizeOf3 _) _)<|zt 17 (.int .i64 v) (zl 3 16 (HC.out))<|zk 4 (.int .i64 v)<|zn<|zE<| ?_
 simp only[zP,zI,Act.put,List.setIfInBounds_toArray,List.set_cons_zero,List.set_cons_succ]
 go_wp2
 go_ret
 exact⟨rfl,G1.out⟩
end St
end Go.Proofs.YtppnakkaljbmbaaGreatDoor
