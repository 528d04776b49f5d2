/- Steps of a proof; no condition beyond what each states. -/
import Derived.BigQuiet
import Derived.Deep.LoopGhost
import Derived.Lib.Hide
import Derived.Lib.Small
import Derived.Shelf.SlSortCmp.QuietGrown
import Derived.Test.YtppnakkaljbmbaaGreatDoorProg
import Derived.Test.YtppnakkaljbmbaaGreatDoorZX00
set_option linter.unusedVariables false
set_option linter.unusedSimpArgs false
set_option maxRecDepth 100000
set_option maxHeartbeats 8000000
open List renaming length->kG
open Go.Proofs.YtppnakkaljbmbaaGreatDoor.Kit renaming zAg->yh
open Go.RowKit
open Go.Proofs.Tryz
open Go.Value renaming int->qV,string->qW,slice->qX,pointer->qY
open Go.IntKind renaming i64->qj
open Go.Obj renaming cells->qm
open Go.Ending renaming returned->qp
open Option renaming some->qw,none->qx
open Go renaming World->qy,Value->qz,TypeId->yA,Addr->yB,Calls->yC
open Bool renaming true->yD,false->yE
open Decidable renaming decide->yF
open Go.Proofs.Tryz renaming prog->yG
open Go.RowKit renaming Below->yI
open List renaming range->yK
open Go.World renaming cell?->yM
namespace Go.Proofs.YtppnakkaljbmbaaGreatDoor
section
section
open Kit
section
variable {P:Program} {ops:Array Oper} {md:Region.Mode} {w w':qy} {S:qy->Prop} {D ms:List Nat} {Q:Exit->Act->qy->Prop} {a:Act} {i:Nat} {n L:Nat}
structure zVy (P:Program) (md:Region.Mode) (ops:Array Oper) (Q:Exit->Act->qy->Prop) (D:List Nat) (S:qy->Prop) (ms:List Nat) (n L:Nat) (a:Act) (w:qy) (i:Nat):Prop where
 out:∀(_:Facts md ops ms) (listed:Array Bool) (_:Cor md ops listed L) (_:i∈Region.ready md ops listed),wpOp P ops Q i (fun a' w'=>(w'=w\/D.contains i=yD\/S w')/\zC5 P md ops Q D S (n-1) (listed.setIfInBounds i yD) a' w') a w
theorem yv (d:Tmp) (v:qz) (hv:(execOp a.eval (opA ops i)).run P w= .ok (.value v) w') (b:w'=w\/D.contains i=yD\/S w') (h:At_ P md ops Q D S ms (n-1) (L|||1<<<i) (a.put (qw d) v) w') (f:okA ops i (qw d) a.tmps=yD:=by kernel_rfl):zVy P md ops Q D S ms n L a w i:=by
 obtain⟨hi,hd,g⟩:=zB0 f;refine⟨fun F j c e=> ?_⟩;unfold wpOp;simp only[hi,g,qRw];left;unfold Oper.wp;rw[hv];rw[<-hd]at h;exact⟨b,h.out F _ (c.set e)⟩
theorem yc (d:Tmp) (g:FuncId) (args:Array qz) {R:Ending->qy->Prop} (k:yC P g args w R) (h:∀e w',R e w'->∃v,e=qp v/\(w'=w\/D.contains i=yD\/S w')/\At_ P md ops Q D S ms (n-1) (L|||1<<<i) (a.put (qw d) v) w')
  (o:okA ops i (qw d) a.tmps=yD:=by kernel_rfl) (hv:(execOp a.eval (opA ops i)).run P w= .ok (.enter g args) w:=by kernel_rfl):zVy P md ops Q D S ms n L a w i:=by
 obtain⟨hi,hd,p⟩:=zB0 o;refine⟨fun F q c m=> ?_⟩;unfold wpOp;simp only[hi,p,qRw];left;unfold Oper.wp;rw[hv,Oper.upon_enter];refine k.mono fun e f l=> ?_;obtain⟨v,rfl,j,b⟩:=h e f l;rw[<-hd]at b;exact⟨j,b.out F _ (c.set m)⟩
def qEo (L:Nat) (ms:List Nat) (i j n:Nat):Bool:=(match zA1 L ms 0 with|[x,y]=>Nat.beq x i&&Nat.beq y j|_=>yE)&&Nat.blt 0 n
theorem y2 (i j:Nat) (hi:zVy P md ops Q D S ms n L a w i) (m:zVy P md ops Q D S ms n L a w j) (d:qEo L ms i j n=yD:=by kernel_rfl):At_ P md ops Q D S ms n L a w:=by
 unfold qEo at d;rw[qQ7]at d;have o:n=n-1+1:=by have:0<n:=qUa d.2;omega
 have h:zA1 L ms 0=[i,j]:=by
  have b:=d.1;split at b
  ·rename_i x y e
   rw[qQ7]at b;rw[e,qT1 b.1,qT1 b.2]
  ·cases b
 refine⟨fun F f c=> ?_⟩;rw[o];refine⟨fun l=> ?_,fun k g=> ?_⟩
 ·have b:i∈Region.ready md ops f:=(c.ready F i).2 (by rw[h];simp);rw[l]at b;cases b
 ·have b:=(c.ready F k).1 g;rw[h]at b;rcases qP7.1 b with rfl|b
  ·exact hi.out F f c g
  ·obtain rfl:=qRm.1 b;exact m.out F f c g
end
end
end
namespace Kit
structure Lay (α:Type) where
 k:Nat
 pos:0<k
 cl:α->List qz
 len:∀x,kG (cl x)=k
 one:∀x,∀u∈cl x,u.oneCell'=yD
section
variable {α:Type} (L:Lay α)
def flat (l:List α):List qz:=l.flatMap L.cl
theorem zKo (l m:List α):flat L (l++m)=flat L l++flat L m:=by simp[flat]
theorem zGp (x:α) (l:List α):flat L (x::l)=L.cl x++flat L l:=rfl
theorem zBg:∀l:List α,kG (flat L l)=kG l*L.k
 |[]=>by simp[flat]
 |x::l=>by
  rw[zGp,qPx,L.len,zBg l,qP3,qQt,qRn];omega
theorem flat_get:∀(l:List α) (j:Nat) (x:α),l[j]? =qw x->∀i,i<L.k->(flat L l)[j*L.k+i]? =(L.cl x)[i]?
 |[],j,x,e,i,hi=>by simp at e
 |y::l,0,x,e,i,hi=>by
  simp at e;subst e;rw[zGp,Nat.zero_mul,qQc,qR6 (by rw[L.len];exact hi)]
 |y::l,j+1,x,e,i,hi=>by
  have b:=flat_get l j x (by simpa using e) i hi;have a:=L.len y;rw[zGp,qS4 (by rw[a,qQt];omega),a];rw[show(j+1)*L.k+i-L.k=j*L.k+i by rw[qQt];omega];exact b
theorem zPj (l:List α):∀u∈flat L l,u.oneCell'=yD:=by
 intro u a;unfold flat at a;obtain⟨x,_,b⟩:=List.mem_flatMap.1 a;exact L.one x u b
theorem zT2:∀(l:List α) (i:Nat) (u:qz),(flat L l)[i]? =qw u->∃x,l[i/L.k]? =qw x/\(L.cl x)[i%L.k]? =qw u
 |[],i,u,h=>by simp[flat]at h
 |y::r,i,u,h=>by
  rw[zGp,List.getElem?_append,L.len]at h;have c:=L.pos;split at h
  ·rename_i hi
   exact⟨y,by rw[Nat.div_eq_of_lt hi];rfl,by rw[qRg hi];exact h⟩
  ·rename_i hi
   obtain⟨x,b,a⟩:=zT2 r (i-L.k) u h;obtain⟨d,rfl⟩:∃d,i=d+L.k:=⟨i-L.k,za⟩;rw[qSs]at b a;exact⟨x,by rw[Nat.add_div_right _ c];simpa using b,by rw[Nat.add_mod_right];exact a⟩
def Rd (w:qy) (a:Option yB) (l:List α):Prop:=∀j x,l[j]? =qw x->∃b off,a=qw ⟨b,off,qx⟩/\∀i,i<L.k->w.cell? ⟨b,off+j*L.k+i,qx⟩=(L.cl x)[i]?
variable {L}
theorem qAs (w:qy) (o:Obj):(w.alloc o).heap[w.heap.size]? =qw o:=by
 show(w.heap.push o)[w.heap.size]? =qw o;simp
theorem Rd.nil (w:qy) (a:Option yB):Rd L w a []:=by intro j x h;simp at h
theorem Rd.below {w w':qy} {a:Option yB} {l:List α} {B:Nat} (h:Rd L w a l) (g:yI B w w') (e:B=w.heap.size):Rd L w' a l:=by
 intro j x m;obtain⟨b,c,f,k⟩:=h j x m;refine⟨b,c,f,fun i hi=> ?_⟩;have d:=k i hi;rw[g.cell (p:=⟨b,c+j*L.k+i,qx⟩)]
 ·exact d
 ·rw[e];rw[qPu (by rw[L.len];exact hi)]at d;exact qQk d
theorem Rd.take {w:qy} {a:Option yB} {l:List α} (h:Rd L w a l) (n:Nat):Rd L w a (l.take n):=by
 intro j x b;refine h j x ?_;rw[qSb]at b;split at b
 ·exact b
 ·cases b
theorem Rd.at_ {w:qy} {a:Option yB} {l:List α} (h:Rd L w a l) (j:Nat) (c:j<kG l):∃b off,a=qw ⟨b,off,qx⟩/\∀i,i<L.k->w.cell? ⟨b,off+j*L.k+i,qx⟩=(L.cl l[j])[i]? :=h j l[j] (qPu c)
theorem Rd.cells {w:qy} {b off:Nat} {l:List α} (h:Rd L w (qw ⟨b,off,qx⟩) l):∀i u,(flat L l)[i]? =qw u->w.cell? ((⟨b,off,qx⟩:yB).add i)=qw u:=by
 intro i u f;obtain⟨x,g,e⟩:=zT2 L l i u f;obtain⟨b',j,a,d⟩:=h _ x g;injection a with a
 injection a with hb ho
 subst hb ho;rw[addr_add];have c:=d (i%L.k) (qRd _ L.pos);rw[e]at c;have hd:=Nat.div_add_mod i L.k;rw[qRo]at hd;rw[show off+i=off+i/L.k*L.k+i%L.k by omega];exact c
def Own' (L:Lay α) (w:qy) (B:Nat) (e:yA) (a:Option yB) (n c:Nat) (l:List α):Prop:=w.ownsRow B e L.k (qX a n c) n (flat L l)
theorem Own'.len {w:qy} {B:Nat} {e:yA} {a:Option yB} {n c:Nat} {l:List α} (h:Own' L w B e a n c l):kG l=n:=by
 have b:=h.1;rw[zBg]at b;exact Nat.eq_of_mul_eq_mul_right L.pos b
theorem Own'.start (w:qy) (B:Nat) (e:yA):Own' L w B e qx 0 0 []:=World.ownsRow_nil w B e L.k
theorem Own'.alloc {w:qy} {B:Nat} {e:yA} {a:Option yB} {n c:Nat} {l:List α} (h:Own' L w B e a n c l) (o:Obj):Own' L (w.alloc o) B e a n c l:=World.ownsRow.alloc h o
theorem Own'.below {w w':qy} {B D:Nat} {e:yA} {a:Option yB} {n c:Nat} {l:List α} (h:Own' L w B e a n c l) (p:yI D w w') (q:w.heap.size<=D):Own' L w' B e a n c l:=by
 obtain⟨o,k⟩:=h;refine⟨o,?_⟩;rcases k with k|⟨g,j,d,hv,i,m,r⟩
 ·exact .inl k
 ·refine .inr ⟨g,j,d,hv,i,?_,r⟩;have b:g<w.heap.size:=by
   rcases qP8 g w.heap.size with b|f
   ·exact b
   ·rw[qRj f]at m;cases m
  rw[p.block g za,m]
theorem Own'.base {w:qy} {B B':Nat} {e:yA} {a:Option yB} {n c:Nat} {l:List α} (h:Own' L w B e a n c l) (k:B'<=B):Own' L w B' e a n c l:=by
 obtain⟨i,f⟩:=h;refine⟨i,?_⟩;rcases f with f|⟨g,d,b,hv,j,r⟩
 ·exact .inl f
 ·exact .inr ⟨g,d,b,hv,za,r⟩
theorem Own'.block {w:qy} {B:Nat} {e:yA} {a:Option yB} {n c:Nat} {l:List α} (h:Own' L w B e a n c l):∀k,(Value.slice a n c).ownBlock=qw k->B<=k:=fun k b=>(World.ownsRow.lt h k b).1
theorem Own'.at_ {w:qy} {B:Nat} {e:yA} {a:Option yB} {n c:Nat} {l:List α} (h:Own' L w B e a n c l) (q:0<n):∃g,a=qw ⟨g,0,qx⟩/\B<=g/\g<w.heap.size/\n<=c:=by
 obtain⟨p,i⟩:=h;rcases i with⟨_,i⟩|⟨g,m,o,hv,k,j,f,_⟩
 ·omega
 ·injection hv with ha hn' hc
  subst ha hc;refine⟨g,rfl,k,?_,f⟩;rcases qP8 g w.heap.size with d|b
  ·exact d
  ·rw[qRj b]at j;cases j
theorem Own'.rd {w:qy} {B:Nat} {e:yA} {a:Option yB} {n c:Nat} {l:List α} (h:Own' L w B e a n c l):Rd L w a l:=by
 intro j x d;have m:=h.len;have k:j<kG l:=by
  rcases qP8 j (kG l) with b|b
  ·exact b
  ·rw[qQp b]at d;cases d
 obtain⟨g,f,_,_,_⟩:=h.at_ za;subst f;refine⟨g,0,rfl,fun i hi=> ?_⟩;rw[qQc,qTk h _,flat_get L l j x d i hi];have:(j+1)*L.k<=n*L.k:=qRp _ za;rw[qQt]at this;omega
structure zVx (P:Program) (t e:yA) (k bytes:Nat):Prop where
 ut:P.underlying t=qw (.slice e)
 row:∃z:qz,(P.info? e).map (fun i=>(i.zero,i.size,i.bytes))=qw (qw z,k,bytes)/\z.cells.size=k
theorem Own'.app {P:Program} {w:qy} {B bytes:Nat} {t ty e:yA} {a:Option yB} {n c:Nat} {l:List α} (o:zVx P t e L.k bytes) (h:Own' L w B e a n c l)
  (x:Option yB) (m H:Nat) (q:List α) (X:Rd L w x q) (M:kG q=m) (hx:x=qx->m=0/\H=0) (W:n+m<=maxLen) (S:(n+m)*bytes<=140737488355328) (V:B<=w.heap.size):
  ∃a' c' w',(Builtin.append_ #[t,t] ty #[qX a n c,qX x m H]).run P w= .ok (qX a' (n+m) c') w'/\Own' L w' B e a' (n+m) c' (l++q)/\w.grownBy w' (Value.ownBlock (qX a n c)):=by
 obtain⟨z,hz,r⟩:=o.row;obtain⟨i,hi,p,s,f⟩:=qR0 hz;have d:∀{v:qz} {w':qy} {k:Nat} {Y:List qz},w'.ownsRow B e L.k v k Y->∃a' c',v=qX a' k c':=by
  intro v w' k Y hv;rcases hv.2 with⟨rfl,hy⟩|⟨g,a0,a1,rfl,_⟩
  ·subst hy;exact⟨_,_,rfl⟩
  ·exact⟨_,_,rfl⟩
 cases x with
 |none=>
  obtain⟨rfl,rfl⟩:=hx rfl;have N:q=[]:=qQz M;subst N;refine⟨a,c,w,run_append_owned_none (P:=P) (w:=w) B t ty e i L.k o.ut hi _ n (flat L l) h,by simpa using h,⟨rfl,rfl,rfl,Nat.le_refl _,fun _ _ _=>rfl⟩⟩
 |some y=>
  by_cases Z:m=0
  ·subst Z;have N:q=[]:=qQz M;subst N;obtain⟨v',w',O,G,K,_⟩:=run_append_own (P:=P) w B t ty e i z L.k bytes o.ut hi p s f r L.pos _ n (flat L l) h y 0 H [] zm (fun j u R=>by simp at R) (fun u R=>by simp at R) W S V;obtain⟨a',c',rfl⟩:=d G;exact⟨a',c',w',O,by rw[qQ3]at G⊢;exact G,K⟩
  ·obtain⟨b,F,I,_⟩:=X 0 q[0] (qPu za);injection I with I
   subst I;obtain⟨v',w',O,G,K,_⟩:=run_append_own (P:=P) w B t ty e i z L.k bytes o.ut hi p s f r L.pos _ n (flat L l) h ⟨b,F,qx⟩ m H (flat L q) (by rw[zBg,M]) X.cells (zPj L _) W S V;obtain⟨a',c',rfl⟩:=d G;exact⟨a',c',w',O,by unfold Own';rw[zKo];exact G,K⟩
theorem zFo (w:qy) (x:α) (t:yA):Rd L (w.alloc (qm (L.cl x).toArray t)) (qw ⟨w.heap.size,0,qx⟩) [x]:=by
 intro j y a
 match j,a with
 |0,a=>
  simp at a;subst a;refine⟨_,_,rfl,fun i hi=> ?_⟩;have h:(w.alloc (qm (L.cl x).toArray t)).heap[w.heap.size]? =qw (qm (L.cl x).toArray t):=qAs w _;simp only[Nat.zero_mul,qQc,yM,h];simp
theorem zNf (w:qy) (l:List α) (t:yA) (B:Nat) (a:B<=w.heap.size) (b:kG l<=maxLen):Own' L (w.alloc (qm (flat L l).toArray t)) B t (qw ⟨w.heap.size,0,qx⟩) (kG l) (kG l) l:=by
 have:=World.ownsRow_lit (base:=B) (size:=L.k) (e:=t) w (flat L l).toArray (kG l) a b (by rw[qQ0,zBg]);exact this
end
end Kit
namespace Kit
section
variable {α:Type} {L:Lay α}
theorem zT1 (l:List α) (j:Nat) (h:j/L.k<kG l):(flat L l)[j]? =(L.cl l[j/L.k])[j%L.k]? :=by
 have a:=flat_get L l (j/L.k) l[j/L.k] (qPu h) (j%L.k) (qRd _ L.pos);rw[qRo,Nat.div_add_mod]at a;exact a
def spl (a:Array qz):Nat->List qz->Array qz
 |_,[]=>a
 |o,v::r=>spl (a.setIfInBounds o v) (o+1) r
theorem zP7:∀(b:List qz) (a:Array qz) (o:Nat),(spl a o b).size=a.size
 |[],_,_=>rfl
 |v::r,a,o=>by rw[spl,zP7 r];simp
theorem zM5:∀(b:List qz) (a:Array qz) (o j:Nat),(j<o\/o+kG b<=j)->(spl a o b)[j]? =a[j]?
 |[],_,_,_,_=>rfl
 |v::r,a,o,j,h=>by
  rw[qP3]at h;rw[spl,zM5 r _ _ _ za,qUm,qPt za]
theorem zWt:∀(b:List qz) (a:Array qz) (o j:Nat),j<kG b->o+kG b<=a.size->(spl a o b)[o+j]? =b[j]?
 |[],_,_,_,h,_=>by simp at h
 |v::r,a,o,0,h,hs=>by
  rw[qP3]at hs;rw[spl,zM5 r _ _ _ (.inl za),qUm,qRh,qPr rfl,qPr za];rfl
 |v::r,a,o,j+1,h,hs=>by
  rw[qP3]at h hs;rw[spl,show o+(j+1)=o+1+j by omega,zWt r _ _ j za zq];rfl
theorem zDl:∀(b:List qz) (w:qy) (g o:Nat) (a:Array qz) (t:yA) (f:Nat×Nat),w.heap[g]? =qw (qm a t f)->(w.setCells g o b).heap[g]? =qw (qm (spl a o b) t f)
 |[],_,_,_,_,_,_,h=>h
 |v::r,w,g,o,a,t,f,h=>zDl r _ g (o+1) _ t f (by simp[World.setCell,qQs,h])
theorem zAo:∀(b:List qz) (w:qy) (g o k:Nat),k≠g->(w.setCells g o b).heap[k]? =w.heap[k]?
 |[],_,_,_,_,_=>rfl
 |v::r,w,g,o,k,h=>by
  have a:g≠k:=fun e=>h e.symm;show((w.setCell ⟨g,o,qx⟩ v).setCells g (o+1) r).heap[k]? =_;rw[zAo r _ g (o+1) k h];simp[World.setCell,qQs,a]
theorem size_setCells:∀(a:List qz) (w:qy) (g o:Nat),(w.setCells g o a).heap.size=w.heap.size
 |[],_,_,_=>rfl
 |v::r,w,g,o=>by
  show((w.setCell ⟨g,o,qx⟩ v).setCells g (o+1) r).heap.size=_;rw[size_setCells r];simp[World.setCell]
theorem below_setCells {B:Nat}:∀(a:List qz) {w w':qy} (g o:Nat),yI B w w'->B<=g->yI B w (w'.setCells g o a)
 |[],_,_,_,_,h,_=>h
 |v::r,w,w',g,o,h,hg=>below_setCells r g (o+1) (h.setCell (p:=⟨g,o,none⟩) hg v) hg
theorem qA3 (m:List α) (i:Nat) (x:α) (hi:i<kG m) (j:Nat):(flat L (m.set i x))[j]? =if i*L.k<=j/\j<i*L.k+L.k then(L.cl x)[j-i*L.k]? else(flat L m)[j]? :=by
 have b:=L.pos;have hd:=Nat.div_add_mod j L.k;have g:=qRd j b;rw[qRo]at hd;rcases qP8 (j/L.k) (kG m) with h|h
 ·rw[zT1 _ j (by simpa using h),zT1 _ j h];by_cases e:i=j/L.k
  ·subst e;rw[qPr za];rw[List.getElem_set_self];congr 1;omega
  ·rw[qPt,List.getElem_set_ne e];rintro⟨a,c⟩;apply e;have d:i<=j/L.k:=(Nat.le_div_iff_mul_le b).2 a;have f:j/L.k<i+1:=(Nat.div_lt_iff_lt_mul b).2 (by rw[qQt,qRn];exact c);omega
 ·have a:kG m*L.k<=j:=(Nat.le_div_iff_mul_le b).1 h;have c:(i+1)*L.k<=kG m*L.k:=qRp _ hi;rw[qQt,qRn]at c;rw[if_neg za,List.getElem?_eq_none (by rw[zBg];simpa using a),List.getElem?_eq_none (by rw[zBg];exact a)]
theorem Own'.set {P:Program} {w:qy} {B:Nat} {e:yA} {g n c:Nat} {m:List α} (h:Own' L w B e (qw ⟨g,0,qx⟩) n c m) (F:(P.info? e).map (·.size)=qw L.k) (i:Nat) (hi:i<n) (x:α):
  (storeVar e ⟨g,i*L.k,qx⟩ (.agg (L.cl x).toArray)).run P w= .ok () (w.setCells g (i*L.k) (L.cl x))/\Own' L (w.setCells g (i*L.k) (L.cl x)) B e (qw ⟨g,0,qx⟩) n c (m.set i x):=by
 have b:=h.len;have p:(i+1)*L.k<=n*L.k:=qRp _ hi;rw[qQt,qRn]at p;have f:(L.cl x).toArray.size=L.k:=by rw[qQ0,L.len]
 have I:kG (flat L m)=n*L.k:=by rw[zBg,b]
 refine⟨?_,?_⟩
 ·refine run_storeVar_mid (P:=P) w g (i*L.k) e (L.cl x).toArray (fun j k=> ?_) (by rw[F,f]) (by rw[Array.all_eq_true_iff_forall_mem];intro u z;exact L.one x u (by simpa using z));rw[f]at k;refine⟨?_,World.ownsRow.frozenAt h _⟩;rw[qTk h _ za,qPu za];rfl
 ·obtain⟨K,r⟩:=h;rcases r with⟨r,_⟩|⟨g',H,a,hv,l,t,d,o,s,y⟩
  ·cases r
  ·injection hv with ha hn q
   injection ha with ha
   injection ha with ha
   subst ha q;have G:n*L.k<=c*L.k:=qRp _ d;refine⟨by rw[zBg,qR1,b],.inr ⟨g,c,spl a (i*L.k) (L.cl x),rfl,l,zDl _ _ _ _ _ _ _ t,d,o,by rw[zP7];exact s,?_⟩⟩;apply qRt;intro j;rw[qA3 m i x za j,<-y,qSb,qSb,qS5,qS5];by_cases k:j<n*L.k
   ·rw[qPr k,qPr k];by_cases q:i*L.k<=j/\j<i*L.k+L.k
    ·rw[qPr q];have:=zWt (L.cl x) a (i*L.k) (j-i*L.k) (by rw[L.len];omega) (by rw[L.len,s];omega);rw[show i*L.k+(j-i*L.k)=j by omega]at this;simpa using this
    ·rw[qPt q];have:=zM5 (L.cl x) a (i*L.k) j (by rw[L.len];omega);simpa using this
   ·rw[qPt k,qPt k,qPt za]
theorem zHe {P:Program} {w:qy} {b off:Nat} {e:yA} {x:α} (d:∀i,i<L.k->w.cell? ⟨b,off+i,qx⟩=(L.cl x)[i]?) (g:∀w,(sizeOf e).run P w= .ok L.k w) (c:∀w,(isAgg e).run P w= .ok yD w):
  (loadVar e ⟨b,off,qx⟩).run P w= .ok (.agg (L.cl x).toArray) w:=by
 have a:=run_loadCells_list (P:=P) w ⟨b,off,qx⟩ (L.cl x) (fun j v hv=>by
  have f:j<L.k:=by
   rcases qP8 j (kG (L.cl x)) with h|h
   ·rwa[L.len]at h
   ·rw[qQp h]at hv;cases hv
  rw[addr_add,d j f,hv])
 rw[L.len]at a;simp[loadVar,qRk,c,g,a]
theorem Rd.ld {P:Program} {w:qy} {b off:Nat} {e:yA} {l:List α} (h:Rd L w (qw ⟨b,off,qx⟩) l) (i:Nat) (hi:i<kG l) (f:∀w,(sizeOf e).run P w= .ok L.k w) (c:∀w,(isAgg e).run P w= .ok yD w):
  (loadVar e ⟨b,off+i*L.k,qx⟩).run P w= .ok (.agg (L.cl l[i]).toArray) w:=by
 obtain⟨b',g,a,d⟩:=h i l[i] (qPu hi);injection a with a
 injection a with h1 h2 _
 subst h1 h2;exact zHe d f c
end
end Kit
namespace St
open Go.Lib Go.Sort Go.Proofs
theorem qFh (x y:Int) (b:Nat) (w:qy) (i:w.cell? ⟨b,0,qx⟩=qw (qV qj x)) (k:w.cell? ⟨b,1,qx⟩=qw (qV qj y)):
  yC yG 183 #[qX (qw ⟨b,0,qx⟩) 2 2] w fun e w'=>e=qp (qV qj (if x=0 then y else x))/\w'=w:=by
 obtain⟨l,m⟩:=yQ i k;clear i k;obtain⟨v,hv⟩:=zB ((if x=0 then y else x));rw[hv];have g:=zH hv;clear hv;go_enter func183,ntmps183;go_wp2;go_loopg [8] 2 (fun s t wr=>∃(j:Nat),t=qV qj j/\j<=2/\2-j<=s/\(0<j->x=0)/\(1<j->y=0)/\wr=w)
 case atStart=>exact⟨0,rfl,za,za,fun h=>za,fun h=>za,rfl⟩
 case round=>
  obtain⟨j,rfl,z,u,p,q,rfl⟩:=hrel;by_cases n:j=0
  ·subst n;have c0:=l.out;by_cases a:x=0
   ·subst a;go_wp2;go_roundg 1
    case measure=>exact za
    case rel=>exact⟨1,by go_num,za,za,by first|trivial|(intro _;rfl)|(intro h;omega),by first|trivial|(intro _;rfl)|(intro h;omega),by first|rfl|trivial⟩
   ·have r:(x==0)=yE:=by rw[qSc];exact a
    have d:(x !=0)=yD:=by simp[a]
    go_wp2;go_ret;exact⟨by rw[<-g.out,qPt a];rfl,rfl⟩
  ·have a:=p za;subst a;have f:y=v:=by rw[<-g.out,qPr rfl]
   subst f;clear g;by_cases o:j=1
   ·subst o;have c1:=m.out;by_cases c:y=0
    ·subst c;go_wp2;go_roundg 0
     case measure=>exact za
     case rel=>exact⟨2,by go_num,za,za,by first|trivial|(intro _;rfl)|(intro h;omega),by first|trivial|(intro _;rfl)|(intro h;omega),by first|rfl|trivial⟩
    ·have r:(y==0)=yE:=by rw[qSc];exact c
     have d:(y !=0)=yD:=by simp[c]
     go_wp2;go_ret;exact⟨rfl,rfl⟩
   ·obtain rfl:j=2:=za
    have c:=q za;subst c;go_wp2;go_ret;exact⟨rfl,rfl⟩
end St
namespace St
open Go.Lib Go.Sort Go.Proofs
variable {w w':qy} {b:Nat}
def Grn (w w':qy):Prop:=∃q os,w'=grow (w.drewN q) os
theorem Grn.refl (w:qy):Grn w w:=⟨0,#[],by rw[grow_empty];rfl⟩
theorem Grn.drew (w:qy):Grn w w.drew:=⟨1,#[],by rw[grow_empty];rfl⟩
theorem Grn.alloc (w:qy) (o:Obj):Grn w (w.alloc o):=⟨0,#[o],by rw[alloc_eq_grow];rfl⟩
theorem Grn.trans {c w2:qy} (h:Grn w c) (g:Grn c w2):Grn w w2:=by
 obtain⟨q,os,rfl⟩:=h;obtain⟨r,a,rfl⟩:=g;exact⟨q+r,os++a,by show grow (grow ((w.drewN q).drewN r) os) a=_;rw[grow_grow,World.drewN_drewN]⟩
theorem Grn.cell (h:Grn w w') {a:yB} {v:qz} (c:w.cell? a=qw v):w'.cell? a=qw v:=by
 obtain⟨q,os,rfl⟩:=h;exact cell_grown (qQk c) c q os
theorem Grn.size (h:Grn w w'):w.heap.size<=w'.heap.size:=by
 obtain⟨q,os,rfl⟩:=h;rw[size_grow];exact Nat.le_add_right _ _
theorem Grn.block (h:Grn w w') (k:Nat) (a:k<w.heap.size):w'.heap[k]? =w.heap[k]? :=by
 obtain⟨q,os,rfl⟩:=h;exact qUb _ _ a
theorem Grn.below (h:Grn w w'):yI w.heap.size w w':=by
 obtain⟨q,os,rfl⟩:=h;refine⟨rfl,rfl,rfl,?_,fun k a=>qUb _ _ a⟩;rw[size_grow];exact Nat.le_add_right _ _
structure RK where
 s:ByteArray
 N:Nat
 n:Nat
 c:Nat
 m:Nat
abbrev TR:yA:=221
def RL:Kit.Lay RK where
 k:=3
 pos:=za
 cl:=fun r=>[qW r.s,qX (qw ⟨r.N,0,qx⟩) r.n r.c,qV qj (r.m:Int)]
 len:=fun _=>rfl
 one:=fun p v hv=>by
  simp at hv;rcases hv with rfl|rfl|rfl<;>rfl
def rv (r:RK):qz:= .agg #[qW r.s,qX (qw ⟨r.N,0,qx⟩) r.n r.c,qV qj (r.m:Int)]
abbrev zNa (r:RK):Obj:=qm #[qW r.s,qX (qw ⟨r.N,0,qx⟩) r.n r.c,qV qj (r.m:Int)] TR
structure RB (w:qy) (b:Nat) (r:RK):Prop where
 c0:w.cell? ⟨b,0,qx⟩=qw (qW r.s)
 c1:w.cell? ⟨b,1,qx⟩=qw (qX (qw ⟨r.N,0,qx⟩) r.n r.c)
 c2:w.cell? ⟨b,2,qx⟩=qw (qV qj (r.m:Int))
theorem RB.new (w:qy) (r:RK):RB (w.alloc (zNa r)) w.heap.size r:=by
 refine⟨?_,?_,?_⟩<;>simp
theorem RB.grn {r:RK} (h:RB w b r) (g:Grn w w'):RB w' b r:=⟨g.cell h.c0,g.cell h.c1,g.cell h.c2⟩
theorem RB.l0 {r:RK} (h:RB w b r):(loadVar 9 ⟨b,0,qx⟩).run yG w= .ok (qW r.s) w:=yh h.c0 zf zf
theorem RB.l1 {r:RK} (h:RB w b r):(loadVar 23 ⟨b,1,qx⟩).run yG w= .ok (qX (qw ⟨r.N,0,qx⟩) r.n r.c) w:=yh h.c1 zf zf
theorem RB.l2 {r:RK} (h:RB w b r):(loadVar 3 ⟨b,2,qx⟩).run yG w= .ok (qV qj (r.m:Int)) w:=yh h.c2 zf zf
theorem RB.ld {r:RK} (h:RB w b r):(loadVar TR ⟨b,0,qx⟩).run yG w= .ok (rv r) w:=by
 refine Kit.zHe (L:=RL) (x:=r) (fun i hi=> ?_) (fun w=>zf) (fun w=>zf)
 match i,hi with
 |0,_=>exact h.c0
 |1,_=>exact h.c1
 |2,_=>exact h.c2
theorem zE4 {p:yB} {v:Int} (h:w.cell? p=qw (qV qj v)):(loadVar 3 p).run yG w= .ok (qV qj v) w:=yh h zf zf
theorem qCs {P:Program} {ρ:Operand->qz} {o:Oper} {t u:yA} {x y:Operand} {k:IntKind} {m n r:Int} (c:o.op= .binOp .rem t x y u) (e:ρ x=qV k m) (f:ρ y=qV k n) (a:n≠0) (d:m.tmod n=r) (w:qy):(execOp ρ o).run P w= .ok (.value (qV k r)) w:=by
 unfold execOp;simp[c,e,f,go_sem,a,d]
theorem qGj (r:RK) (k:Nat) (v:Int) (w:qy) (d:r.s.size=r.n) (i:0<r.n) (z:r.n<=1000000) (u:r.m<=2000000) (s:k<r.n) (j:w.cell? ⟨r.N,(k+r.m)%r.n,qx⟩=qw (qV qj v)):
  yC yG 184 #[rv r,qV qj (k:Int)] w fun e w'=>e=qp (qV qj v)/\Grn w w':=by
 have l:(k+r.m)%r.n<r.n:=qRd _ i;obtain⟨HB,h⟩:=yQ ((RB.new w r).grn (Grn.drew _)) ((Grn.alloc w (zNa r)).trans (Grn.drew _));have o:=zH (zE4 (h.out.cell j));have m:=yP (IntKind.i64.wrap ((k:Int)+(r.m:Int))=((k+r.m:Nat):Int)) (by rw[qQb _ za];omega);have HM:=yP (((k+r.m:Nat):Int).tmod (r.s.size:Int)=(((k+r.m)%r.n:Nat):Int)) (by rw[d,qSd za];omega)
 have q:=yP ((r.s.size:Int)≠0) (by rw[d];omega);have p:=zH l;obtain⟨B,f⟩:=zB w.heap.size;have F:=zH d;rw[f]at HB;have a:=zH f;clear l d j f i z u s;unfold rv;go_enter func184,ntmps184;go_wp2;rw[a.out];refine zS [] (fun _=>True) [0,1,0,0,8,20,0,64,128,256,544,1026,2048,8191] 14<|zp [0,1,2,3,4,5,6,7,8,9,10,11,12,13]<|zk 5 (zP B 1)<|zt 6 (qX (qw ⟨r.N,0,qx⟩) r.n r.c) (zl 23 5 (HB.out.l1))<|zk 7 (zI k)<|zk 8 (zP B 2)<|zt 9 (qV qj (r.m:Int)) (zl 3 8 (HB.out.l2))<|zt 10 (qV qj ((k+r.m:Nat):Int)) (Kit.qCv (x:= .tmp 7) (y:= .tmp 9) rfl zf zf m.out _)<|zk 11 (zP B 0)<|zk 12 (zP B 0)<|zt 13 (qW r.s) (zl 9 12 (HB.out.l0))<|zk 14 (qV qj (r.s.size:Int))<|zt 15 (qV qj (((k+r.m)%r.n:Nat):Int)) (qCs (x:= .tmp 10) (y:= .tmp 14) rfl zf zf q.out HM.out _)<|zt 16 (qY (qw ⟨r.N,(k+r.m)%r.n,qx⟩)) (Kit.zBo (t:=23) (x:=(.tmp 6)) (y:=(.tmp 15)) (g:=r.N) (n:=r.n) (c:=r.c) (k:=(k+r.m)%r.n) rfl zf zf p.out underlying23 (fun _=>sizeOf3 _) _)<|zt 17 (qV qj v) (zl 3 16 (o.out))<|zk 4 (qV qj v)<|zn<|zE<| ?_
 simp only[zP,zI,Act.put,qPz,qPy,qP0];go_wp2;go_ret;exact⟨rfl,h.out⟩
end St
namespace Tn
variable {s l o v:List Nat} {f:Nat->Nat}
def cyc (s:List Nat) (k:Nat):Nat:=s.getD (k%kG s) 0
def C (s:List Nat):Nat->Nat->Nat
 |0,_=>0
 |m+1,k=>C s m k*256+cyc s (k+m)
def Bytes (s:List Nat):Prop:=∀x∈s,x<256
theorem zHi (h:Bytes s) (k:Nat):cyc s k<256:=by
 unfold cyc;rw[qPw];cases hk:s[k%kG s]? with
 |none=>simp
 |some x=>exact h x (qSt hk)
theorem zNt (s:List Nat) (k:Nat):cyc s (k+kG s)=cyc s k:=by unfold cyc;rw[Nat.add_mod_right]
theorem zJe (h:Bytes s):∀m k,C s m k<256^m
 |0,_=>by simp[C]
 |m+1,k=>by
  have:=zJe h m k;have:=zHi h (k+m);simp only[C,qRq];omega
theorem zUd (s:List Nat):∀m k,C s (m+1) k=cyc s k*256^m+C s m (k+1)
 |0,k=>by simp[C]
 |m+1,k=>by
  have a:=zUd s m k;rw[C,a,C,qRq];rw[qQt,qTc,qR2,show k+(m+1)=k+1+m by omega]
theorem zKa (s:List Nat) (m n k:Nat):C s (m+n) k=C s m k*256^n+C s n (k+m):=by
 induction n with
 |zero=>simp[C]
 |succ n ih=>
  show C s (m+n) k*256+_=_;show C s (m+n) k*256+cyc s (k+(m+n))=_;rw[ih,C,qRq,qQt,qTc,qR2,show k+(m+n)=k+m+n by omega]
theorem zUc (s:List Nat):∀m k,C s m (k+kG s)=C s m k
 |0,_=>rfl
 |m+1,k=>by
  rw[C,C,zUc s m k,show k+kG s+m=k+m+kG s by omega,zNt]
theorem zV0 (s:List Nat) (m k:Nat):C s m (k%kG s)=C s m k:=by
 have h:∀q r,C s m (r+q*kG s)=C s m r:=by
  intro q r
  induction q with
  |zero=>simp
  |succ q ih=>rw[Nat.succ_mul,<-qR2,zUc,ih]
 conv=>rhs;rw[<-Nat.mod_add_div k (kG s),qRo]
 rw[h]
theorem qGs (h:Bytes s) (m a b:Nat):C s (m+m) a<C s (m+m) b↔C s m a<C s m b\/(C s m a=C s m b/\C s m (a+m)<C s m (b+m)):=by
 rw[zKa,zKa];have e:=zJe h m (a+m);have g:=zJe h m (b+m);generalize C s m (a+m)=x at*;generalize C s m (b+m)=y at*;generalize C s m a=u at*;generalize C s m b=v at*;generalize 256^m=K at*;rcases qTn u v with c|c|c
 ·have:(u+1)*K<=v*K:=qRp _ c;rw[qQt,qRn]at this;exact⟨fun _=> .inl c,fun _=>za⟩
 ·subst c;constructor
  ·intro d;exact .inr ⟨rfl,za⟩
  ·rintro(d|⟨_,d⟩)
   ·omega
   ·omega
 ·have:(v+1)*K<=u*K:=qRp _ c;rw[qQt,qRn]at this;constructor
  ·intro d;omega
  ·rintro(d|⟨d,_⟩)<;>omega
theorem qEk (h:Bytes s) (a b:Nat) (e:C s (kG s) a=C s (kG s) b):∀j,cyc s (a+j)=cyc s (b+j):=by
 have d:∀m,C s m a=C s m b->∀j,j<m->cyc s (a+j)=cyc s (b+j):=by
  intro m
  induction m with
  |zero=>intro _ j p;omega
  |succ m ih=>
   intro e j p;have q:=zHi h (a+m);have r:=zHi h (b+m);simp only[C]at e;rcases qP8 j m with g|g
   ·exact ih za j g
   ·obtain rfl:j=m:=za
    omega
 intro j;rcases qQy (kG s) with i|i
 ·have:∀k,cyc s k=0:=by intro k;unfold cyc;rw[qPw,qQp za];rfl
  rw[this,this]
 ·have g:=d _ e (j%kG s) (qRd _ i);have n:∀c,cyc s (c+j%kG s)=cyc s (c+j):=by
   intro c;unfold cyc;rw[Nat.add_mod,Nat.mod_mod,<-Nat.add_mod]
  rw[n,n]at g;exact g
theorem qGt (h:Bytes s) (a b:Nat) (e:C s (kG s) a=C s (kG s) b) (m:Nat):C s m a=C s m b:=by
 induction m with
 |zero=>rfl
 |succ m ih=>rw[C,C,ih,qEk h a b e]
theorem qBw (h:Bytes s) (m a b:Nat) (i:kG s<=m):C s m a<C s m b↔C s (kG s) a<C s (kG s) b:=by
 obtain⟨d,rfl⟩:∃d,m=kG s+d:=⟨m-kG s,za⟩;rcases qTn (C s (kG s) a) (C s (kG s) b)with c|c|c
 ·refine⟨fun _=>c,fun _=> ?_⟩;rw[zKa,zKa];have g:=zJe h d (a+kG s);generalize C s (kG s) a=u at*;generalize C s (kG s) b=v at*;have:(u+1)*256^d<=v*256^d:=qRp _ c;rw[qQt,qRn]at this;omega
 ·have:=qGt h a b c (kG s+d);omega
 ·refine⟨fun e=> ?_,fun e=>za⟩;rw[zKa,zKa]at e;have g:=zJe h d (b+kG s);generalize C s (kG s) a=u at*;generalize C s (kG s) b=v at*;have:(v+1)*256^d<=u*256^d:=qRp _ c;rw[qQt,qRn]at this;omega
def By (f:Nat->Nat) (l:List Nat):Prop:=l.Pairwise fun a b=>f a<f b\/(f a=f b/\a<b)
theorem By.one:∀{l m:List Nat},l.Perm m->By f l->By f m->l=m
 |[],m,hp,_,_=>hp.symm.eq_nil.symm▸rfl
 |x::l,m,hp,hl,hm=>by
  cases m with
  |nil=>exact absurd hp.length_eq zm
  |cons y m=>
   obtain⟨b,c⟩:=qQ1.1 hl;obtain⟨d,g⟩:=qQ1.1 hm;have e:x=y:=by
    rcases qP7.1 (hp.mem_iff.1 (qTv))with e|h
    ·exact e
    ·rcases qP7.1 (hp.mem_iff.2 (qTv (a:=y) (l:=m)))with e|i
     ·exact e.symm
     ·have j:=b y i;have k:=d x h;omega
   subst e;rw[By.one (hp.cons_inv) c g]
theorem By.congr {g:Nat->Nat} (h:∀a∈l,∀b∈l,(f a<f b↔g a<g b)) (e:By f l):By g l:=by
 unfold By at*;refine List.Pairwise.imp_of_mem (fun{a b} c d i=> ?_) e;have j:=h a c b d;have k:=h b d a c;omega
structure Order (s:List Nat) (o:List Nat):Prop where
 perm:o.Perm (yK (kG s))
 by_:By (C s (kG s)) o
theorem Order.one {p:List Nat} (a:Order s o) (b:Order s p):o=p:=By.one (a.perm.trans b.perm.symm) a.by_ b.by_
theorem zL5:∀{l m:List Nat},l.Perm m->l.Pairwise (·<=·)->m.Pairwise (·<=·)->l=m
 |[],m,hp,_,_=>hp.symm.eq_nil.symm▸rfl
 |x::l,m,hp,hl,hm=>by
  cases m with
  |nil=>exact absurd hp.length_eq zm
  |cons y m=>
   obtain⟨b,c⟩:=qQ1.1 hl;obtain⟨d,g⟩:=qQ1.1 hm;have e:x=y:=by
    rcases qP7.1 (hp.mem_iff.1 (qTv))with e|h
    ·exact e
    ·rcases qP7.1 (hp.mem_iff.2 (qTv (a:=y) (l:=m)))with e|i
     ·exact e.symm
     ·have j:=b y i;have k:=d x h;omega
   subst e;rw[zL5 (hp.cons_inv) c g]
def back (n x:Nat):Nat:=x%256*256^(n-1)+x/256
theorem zYm (h:Bytes s) (d:0<kG s) (k:Nat):back (kG s) (C s (kG s) (k+1))=C s (kG s) k:=by
 obtain⟨n,a⟩:∃n,kG s=n+1:=⟨kG s-1,za⟩;have e:=zHi h (k+1+n);have b:C s (kG s) (k+1)=C s n (k+1)*256+cyc s k:=by
  rw[a,C,show k+1+n=k+kG s by omega,zNt]
 have c:C s (kG s) k=cyc s k*256^n+C s n (k+1):=by rw[a,zUd]
 have g:=zHi h k;rw[b,c,back,a];rw[show(C s n (k+1)*256+cyc s k)%256=cyc s k by omega,show(C s n (k+1)*256+cyc s k)/256=C s n (k+1)by omega,qSs]
theorem qBk {n x y:Nat} (b:x<256^n) (c:y<256^n) (d:0<n) (e:back n x=back n y):x=y:=by
 obtain⟨m,rfl⟩:∃m,n=m+1:=⟨n-1,za⟩;unfold back at e;rw[qSs]at e;rw[qRq]at b c;have g:x/256<256^m:=za
 have i:y/256<256^m:=za
 have a:x%256=y%256:=by
  rcases qTn (x%256) (y%256)with h|h|h
  ·have:(x%256+1)*256^m<=y%256*256^m:=qRp _ h;rw[qQt,qRn]at this;omega
  ·exact h
  ·have:(y%256+1)*256^m<=x%256*256^m:=qRp _ h;rw[qQt,qRn]at this;omega
 rw[a]at e;omega
def lastOf (s o:List Nat):List Nat:=o.map fun k=>cyc s (k+kG s-1)
theorem zSa (h:Bytes s) (b:0<kG s) (k:Nat):C s (kG s) k%256=cyc s (k+kG s-1):=by
 obtain⟨n,a⟩:∃n,kG s=n+1:=⟨kG s-1,za⟩;have c:=zHi h (k+n);rw[a,C,show k+(n+1)-1=k+n by omega];omega
structure Vec (l v:List Nat):Prop where
 perm:v.Perm (yK (kG l))
 by_:By (fun i=>l.getD i 0) v
theorem Vec.one {u:List Nat} (a:Vec l v) (b:Vec l u):v=u:=By.one (a.perm.trans b.perm.symm) a.by_ b.by_
theorem zW0 (n:Nat) (b:0<n):((yK n).map fun k=>(k+1)%n).Perm (yK n):=by
 obtain⟨m,rfl⟩:∃m,n=m+1:=⟨n-1,za⟩;have e:((yK (m+1)).map fun k=>(k+1)%(m+1))=(yK m).map Nat.succ++[0]:=by
  rw[qQu,qQd];congr 1
  ·refine qRx fun k a=> ?_;have:=qQm.1 a;exact qRg za
  ·simp
 rw[e,List.range_succ_eq_map];exact List.perm_append_singleton _ _
theorem qAe (l:List Nat):(yK (kG l)).map (fun i=>l.getD i 0)=l:=by
 apply qRt;intro i;rw[qP2];rcases qP8 i (kG l) with h|h
 ·rw[qSe h,qPu h];simp[qPw,qPu h]
 ·rw[List.getElem?_eq_none h,List.getElem?_eq_none (by simpa using h)];rfl
theorem zYu (O:Bytes s) (K:0<kG s) (N:Order s o) (hv:Vec (lastOf s o) v) (j:Nat) (hj:j<kG s):
  back (kG s) (C s (kG s) (o.getD (v.getD j 0) 0))=C s (kG s) (o.getD j 0):=by
 obtain⟨R,q⟩:=zB (o.map (C s (kG s)));have u:kG o=kG s:=by rw[N.perm.length_eq,qQ8]
 have d:kG R=kG s:=by rw[<-q,qQi,u]
 have c:lastOf s o=R.map (·%256):=by
  rw[<-q,qRr];refine qRx fun k _=> ?_;exact(zSa O K k).symm
 have p:R.Pairwise (·<=·):=by
  rw[<-q,List.pairwise_map];refine N.by_.imp fun{a b} h=> ?_;omega
 have f:∀x∈R,x<256^kG s:=by
  intro x W;rw[<-q]at W;obtain⟨k,_,rfl⟩:=qQf.1 W;exact zJe O _ _
 have a0:kG v=kG s:=by rw[hv.perm.length_eq,qQ8,c,qQi,d]
 obtain⟨B,M⟩:=zB (v.map (fun i=>back (kG s) (R.getD i 0)));have l:∀i,i<kG s->(R.map (·%256)).getD i 0=R.getD i 0%256:=by
  intro i hi;simp[qPw,qPu (show i<kG R by omega)]
 have g:∀i∈v,i<kG s:=by
  intro i hi;have:=qQm.1 (hv.perm.mem_iff.1 hi);rw[c,qQi,d]at this;exact this
 have F:B.Pairwise (·<=·):=by
  rw[<-M,List.pairwise_map];have n:=hv.by_;rw[c]at n;refine List.Pairwise.imp_of_mem (fun{a b} ha hb h=> ?_) n;have z:=g a ha;have L:=g b hb;simp only at h;rw[l a z,l b L]at h;have X:R.getD a 0<256^kG s:=by
   simp only[qPw,qPu (show a<kG R by omega),qQ4];exact f _ (qQ _)
  have Y:R.getD b 0<256^kG s:=by
   simp only[qPw,qPu (show b<kG R by omega),qQ4];exact f _ (qQ _)
  have I:a<b->R.getD a 0<=R.getD b 0:=by
   intro e;simp only[qPw,qPu (show a<kG R by omega),qPu (show b<kG R by omega),qQ4];exact qSf.1 p a b za za e
  generalize R.getD a 0=x at*;generalize R.getD b 0=y at*;unfold back;obtain⟨m,V⟩:∃m,kG s=m+1:=⟨kG s-1,za⟩;rw[V,qRq]at X Y;rw[V,qSs];rcases h with h|⟨h,e⟩
  ·have:(x%256+1)*256^m<=y%256*256^m:=qRp _ h;rw[qQt,qRn]at this;omega
  ·rw[h];have:=I e;omega
 have w:B.Perm R:=by
  have z:B.Perm ((yK (kG s)).map fun i=>back (kG s) (R.getD i 0)):=by
   rw[<-M];have:=hv.perm;rw[c,qQi,d]at this;exact this.map _
  have L:((yK (kG s)).map fun i=>back (kG s) (R.getD i 0))=R.map (back (kG s)):=by
   conv=>rhs;rw[<-qAe R,qRr,d]
   rfl
  rw[L]at z;refine z.trans ?_;have P:R.Perm ((yK (kG s)).map (C s (kG s))):=by rw[<-q];exact N.perm.map _
  have Z:((yK (kG s)).map (C s (kG s))).Perm ((yK (kG s)).map fun k=>C s (kG s) (k+1)):=by
   have:=(zW0 (kG s) K).map (C s (kG s));rw[qRr]at this;refine this.symm.trans ?_;rw[show((yK (kG s)).map (C s (kG s)∘fun k=>(k+1)%kG s))=(yK (kG s)).map fun k=>C s (kG s) (k+1)from qRx fun k _=>zV0 s _ _]
  have S:=(P.trans Z).map (back (kG s));rw[qRr,show((yK (kG s)).map (back (kG s)∘fun k=>C s (kG s) (k+1)))=(yK (kG s)).map (C s (kG s))from qRx fun k _=>zYm O K k]at S;exact S.trans P.symm
 have G:=zL5 w F p;have H:v.getD j 0∈v:=by
  simp only[qPw,qPu (show j<kG v by omega),qQ4];exact qQ _
 have r:∀i,i<kG s->R.getD i 0=C s (kG s) (o.getD i 0):=by
  intro i hi;rw[<-q];simp[qPw,qPu (show i<kG o by omega)]
 have t:B.getD j 0=back (kG s) (R.getD (v.getD j 0) 0):=by
  rw[<-M];simp[qPw,qPu (show j<kG v by omega)]
 rw[<-r _ (g _ H),<-r j hj,<-t,G]
def walk (v:List Nat) (o:Nat):Nat->Nat
 |0=>o
 |i+1=>v.getD (walk v o i) 0
theorem zN4 (c:Bytes s) (d:0<kG s) (e:Order s o) (hv:Vec (lastOf s o) v) (g:Nat) (j:g<kG s) (k:o.getD g 0=0):
  ∀i,walk v g i<kG s/\C s (kG s) (o.getD (walk v g i) 0)=C s (kG s) i
 |0=>⟨j,by show C s (kG s) (o.getD g 0)=_;rw[k]⟩
 |i+1=>by
  obtain⟨m,n⟩:=zN4 c d e hv g j k i;have h:=zYu c d e hv _ m;have b:kG o=kG s:=by rw[e.perm.length_eq,qQ8]
  have a:kG (lastOf s o)=kG s:=by unfold lastOf;rw[qQi,b]
  have p:kG v=kG s:=by rw[hv.perm.length_eq,qQ8,a]
  refine⟨?_,?_⟩
  ·show v.getD (walk v g i) 0<_;simp only[qPw,qPu (show walk v g i<kG v by omega),qQ4];have:=qQm.1 (hv.perm.mem_iff.1 (qQ (show walk v g i<kG v by omega)));rw[a]at this;exact this
  ·rw[n,<-zYm c d i]at h;exact qBk (zJe c _ _) (zJe c _ _) d h
theorem zYl (b:Bytes s) (a:0<kG s) (c:Order s o) (hv:Vec (lastOf s o) v) (g:Nat) (h:g<kG s) (j:o.getD g 0=0) (i:Nat) (hi:i<kG s):
  (lastOf s o).getD (walk v g (i+1)) 0=s.getD i 0:=by
 obtain⟨m,d⟩:=zN4 b a c hv g h j (i+1);have k:kG o=kG s:=by rw[c.perm.length_eq,qQ8]
 have e:(lastOf s o).getD (walk v g (i+1)) 0=C s (kG s) (o.getD (walk v g (i+1)) 0)%256:=by
  unfold lastOf;rw[zSa b a];simp[qPw,qPu (show walk v g (i+1)<kG o by omega)]
 rw[e,d,zSa b a,show i+1+kG s-1=i+kG s by omega,zNt];unfold cyc;rw[qRg hi]
end Tn
namespace Tn
variable {f:Nat->Nat}
def leB (f:Nat->Nat) (a b:Nat):Bool:=yF (f a<f b)||(f a==f b&&yF (a<=b))
theorem zH4 {a b:Nat}:leB f a b=yD↔f a<f b\/(f a=f b/\a<=b):=by simp[leB]
def sorted (f:Nat->Nat) (n:Nat):List Nat:=(yK n).mergeSort (leB f)
theorem sorted_perm (f:Nat->Nat) (n:Nat):(sorted f n).Perm (yK n):=List.mergeSort_perm _ _
theorem zGc (f:Nat->Nat) (n:Nat):By f (sorted f n):=by
 have d:(sorted f n).Pairwise (fun a b=>leB f a b=yD):=List.pairwise_mergeSort (fun a b c d e=>by rw[zH4]at*;omega) (fun a b=>by rw[qTu,zH4,zH4];omega) _;have e:(sorted f n).Nodup:=(sorted_perm f n).nodup_iff.2 qTw;unfold By;refine List.Pairwise.imp₂ (fun a b g h=> ?_) d e;rw[zH4]at g;omega
theorem zCn (f:Nat->Nat) (n:Nat):kG (sorted f n)=n:=by rw[(sorted_perm f n).length_eq,qQ8]
def zHx (s:List Nat):List Nat:=sorted (C s (kG s)) (kG s)
theorem zD5 (s:List Nat):Order s (zHx s):=⟨sorted_perm _ _,zGc _ _⟩
theorem Order.eq {s o:List Nat} (h:Order s o):o=zHx s:=h.one (zD5 s)
def zA7 (l:List Nat):List Nat:=sorted (fun i=>l.getD i 0) (kG l)
theorem zCl (l:List Nat):Vec l (zA7 l):=⟨sorted_perm _ _,zGc _ _⟩
theorem zVf {p q:Nat->Bool} (h:∀x,p x=yD->q x=yD->False):∀l:List Nat,l.countP (fun x=>p x||q x)=l.countP p+l.countP q
 |[]=>rfl
 |x::r=>by
  rw[List.countP_cons,List.countP_cons,List.countP_cons,zVf h r];cases hp:p x<;>cases hq:q x<;>simp[hp,hq]<;>try omega
  exact absurd hq (by have:=h x hp;simpa using this)
def A (l:List Nat) (c:Nat):Nat:=(yK (kG l)).countP fun j=>decide (l.getD j 0<c)
def E (l:List Nat) (i c:Nat):Nat:=(yK i).countP fun j=>l.getD j 0==c
theorem zYq (l:List Nat) (c:Nat):E l 0 c=0:=rfl
theorem zR9 (l:List Nat) (i c:Nat):E l (i+1) c=E l i c+if l.getD i 0=c then 1 else 0:=by
 unfold E;rw[qQu,List.countP_append,List.countP_singleton];simp
theorem qGu (l:List Nat):A l 0=0:=by
 unfold A;rw[List.countP_eq_zero];intro x _;simp
theorem qGv (l:List Nat) (c:Nat):A l (c+1)=A l c+E l (kG l) c:=by
 unfold A E;rw[<-zVf (fun x a b=>by simp at a b;omega)];congr 1;funext j;rw[qSg];simp;omega
theorem qH2 (l:List Nat) (i c:Nat):E l i c<=i:=by
 unfold E;have:=List.countP_le_length (p:=fun j=>l.getD j 0==c) (l:=yK i);rwa[qQ8]at this
theorem qH3 (l:List Nat) (c:Nat):A l c<=kG l:=by
 unfold A;have:=List.countP_le_length (p:=fun j=>decide (l.getD j 0<c)) (l:=yK (kG l));rwa[qQ8]at this
def pos (l:List Nat) (i:Nat):Nat:=A l (l.getD i 0)+E l i (l.getD i 0)
def bef (l:List Nat) (i j:Nat):Bool:=yF (l.getD j 0<l.getD i 0)||(l.getD j 0==l.getD i 0&&yF (j<i))
theorem zW4 (l:List Nat) (i:Nat) (hi:i<=kG l):pos l i=(yK (kG l)).countP (bef l i):=by
 unfold bef;rw[zVf (fun x a c=>by simp at a c;omega)];unfold pos A;congr 1;have e:yK (kG l)=yK i++List.range' i (kG l-i):=by
  rw[List.range_eq_range',List.range_eq_range',show kG l=i+(kG l-i)by omega,<-List.range'_append_1];simp
 rw[e,List.countP_append];have a:(List.range' i (kG l-i)).countP (fun j=>l.getD j 0==l.getD i 0&&yF (j<i))=0:=by
  rw[List.countP_eq_zero];intro x b;have:=(List.mem_range'_1.1 b).1;simp;omega
 rw[a,qRh];unfold E;refine List.countP_congr fun x b=> ?_;have:=qQm.1 b;simp;omega
theorem zKv:∀(v:List Nat) (p:Nat) (b:p<kG v),By f v->v.countP (fun j=>decide (f j<f v[p])||(f j==f v[p]&&yF (j<v[p])))=p
 |[],p,b,_=>by simp at b
 |x::r,0,b,h=>by
  obtain⟨c,e⟩:=qQ1.1 h;rw[List.countP_eq_zero];intro y d;rcases qP7.1 d with rfl|d
  ·simp
  ·have:=c y d;simp;omega
 |x::r,p+1,b,h=>by
  obtain⟨c,e⟩:=qQ1.1 h;have a:p<kG r:=by simpa using b
  have:=zKv r p a e;have g:=c r[p] (qQ a);rw[List.countP_cons];simp only[qSu];rw[this];have:(yF (f x<f r[p])||(f x==f r[p]&&yF (x<r[p])))=yD:=zq
  rw[qPr this]
theorem zJf (l:List Nat) (p:Nat) (d:p<kG l):pos l ((zA7 l).getD p 0)=p:=by
 have c:kG (zA7 l)=kG l:=zCn _ _;have a:p<kG (zA7 l):=za
 have b:=(zCl l).perm.mem_iff.1 (qQ a);rw[show(zA7 l).getD p 0=(zA7 l)[p]by simp[qPw,qPu a]];rw[zW4 l _ (qP6 (qQm.1 b)),<-(zCl l).perm.countP_eq];exact zKv (f:=fun i=>l.getD i 0) (zA7 l) p a (zCl l).by_
theorem qFc (l:List Nat) (i:Nat) (hi:i<kG l):pos l i<kG l:=by
 have a:=(zCl l).perm.mem_iff.2 (qQm.2 hi);obtain⟨p,b,e⟩:=qTd a;have c:kG (zA7 l)=kG l:=zCn _ _;have:=zJf l p za;rw[show(zA7 l).getD p 0=(zA7 l)[p]by simp[qPw,qPu b],e]at this;omega
theorem qEl (l o:List Nat) (g:kG o=kG l) (h:∀i,i<kG l->o.getD (pos l i) 0=i):o=zA7 l:=by
 have hv:kG (zA7 l)=kG l:=zCn _ _;apply List.ext_getElem za;intro p d c;have e:=qQm.1 ((zCl l).perm.mem_iff.1 (qQ c));have a:=zJf l p za;have b:=h _ e;rw[show(zA7 l).getD p 0=(zA7 l)[p]by simp[qPw,qPu c]]at a;rw[a]at b;rw[<-b];simp[qPw,qPu d]
theorem qC0 (l:List Nat) (i j:Nat) (hi:i<kG l) (g:j<kG l) (e:pos l i=pos l j):i=j:=by
 obtain⟨p,h,a⟩:=qTd ((zCl l).perm.mem_iff.2 (qQm.2 hi));obtain⟨q,k,b⟩:=qTd ((zCl l).perm.mem_iff.2 (qQm.2 g));have hv:kG (zA7 l)=kG l:=zCn _ _;have c:=zJf l p za;have d:=zJf l q za;rw[show(zA7 l).getD p 0=(zA7 l)[p]by simp[qPw,qPu h],a]at c;rw[show(zA7 l).getD q 0=(zA7 l)[q]by simp[qPw,qPu k],b]at d;have:p=q:=za
 subst this;rw[<-a,<-b]
end Tn
namespace Tn
variable {s o:List Nat} {f K:Nat->Nat} {M m p q n:Nat}
theorem qCe (a b:Int):Lib.compareInt a b<0↔a<b:=by
 unfold Lib.compareInt;split
 ·rename_i h;constructor<;>intro _<;>omega
 ·split
  ·rename_i h1 h2;constructor<;>intro _<;>omega
  ·rename_i h1 h2;constructor<;>intro _<;>omega
theorem zNv (a b:Int):Lib.compareInt a b=0↔a=b:=by
 unfold Lib.compareInt;split
 ·rename_i h;constructor<;>intro _<;>omega
 ·split
  ·rename_i h1 h2;constructor<;>intro _<;>omega
  ·rename_i h1 h2;constructor<;>intro _<;>omega
def cf2 (n m:Nat) (f:Nat->Nat) (i j:Nat):Int:=if Lib.compareInt (f i:Int) (f j:Int)=0 then Lib.compareInt (f ((i+m)%n):Int) (f ((j+m)%n):Int)else Lib.compareInt (f i:Int) (f j:Int)
theorem zYi (n m:Nat) (f:Nat->Nat) (i j:Nat):cf2 n m f i j<0↔f i<f j\/(f i=f j/\f ((i+m)%n)<f ((j+m)%n)):=by
 unfold cf2;have a:=zNv (f i:Int) (f j:Int);split
 ·rename_i h
  rw[qCe];have:=a.1 h;omega
 ·rename_i h
  rw[qCe];have:(f i:Int)≠(f j:Int):=fun e=>h (a.2 e);omega
theorem qBe (n m:Nat) (f:Nat->Nat) (i j:Nat):cf2 n m f i j=0↔f i=f j/\f ((i+m)%n)=f ((j+m)%n):=by
 unfold cf2;have a:=zNv (f i:Int) (f j:Int);split
 ·rename_i h
  rw[zNv];have:=a.1 h;omega
 ·rename_i h
  constructor
  ·intro e;exact absurd e h
  ·intro e;exact absurd (a.2 za) h
def Rk (s:List Nat) (f:Nat->Nat) (M:Nat):Prop:=∀a b,a<kG s->b<kG s->(f a<f b↔C s M a<C s M b)
theorem Rk.eq (h:Rk s f M) {a b:Nat} (c:a<kG s) (d:b<kG s):f a=f b↔C s M a=C s M b:=by
 have e:=h a b c d;have g:=h b a d c;omega
def up1 (m:Nat):Nat:=max m 1
def up2 (m:Nat):Nat:=max (2*m) 1
theorem zUr (r:Bytes s) (h:Rk s f (up1 m)) (i j:Nat) (hi:i<kG s) (a:j<kG s):cf2 (kG s) m f i j<0↔C s (up2 m) i<C s (up2 m) j:=by
 rw[zYi];have d:0<kG s:=za
 have b:=h i j hi a;have e:=h.eq hi a;have c:=h ((i+m)%kG s) ((j+m)%kG s) (qRd _ d) (qRd _ d);rw[zV0,zV0]at c;by_cases l:m=0
 ·subst l;simp only[up1,up2,qRh]at*;rw[qRg hi,qRg a];rw[show max (2*0) 1=max 0 1 from rfl,<-b];omega
 ·have g:up1 m=m:=by unfold up1;omega
  have k:up2 m=m+m:=by unfold up2;omega
  rw[g]at b e c;rw[k,qGs r,b,e,c]
theorem qCw (b:Bytes s) (h:Rk s f (up1 m)) (i j:Nat) (hi:i<kG s) (a:j<kG s):cf2 (kG s) m f i j=0↔C s (up2 m) i=C s (up2 m) j:=by
 have c:=zUr b h i j hi a;have d:=zUr b h j i a hi;rw[zYi]at c d;rw[qBe];omega
theorem zZo (h:∀k,k<kG s->f k=s.getD k 0):Rk s f (up1 0):=by
 intro a b c d;have e:∀k,k<kG s->C s (up1 0) k=s.getD k 0:=fun k g=>by
  show C s 0 k*256+cyc s (k+0)=_;rw[C,Nat.zero_mul,qQc,qRh];unfold cyc;rw[qRg g]
 rw[h a c,h b d,e a c,e b d]
def rkP (K:Nat->Nat) (o:List Nat):Nat->Nat
 |0=>0
 |p+1=>rkP K o p+if K (o.getD p 0)=K (o.getD (p+1) 0)then 0 else 1
theorem By.getD (h:By K o) (b:p<q) (a:q<kG o):K (o.getD p 0)<=K (o.getD q 0):=by
 unfold By at h;rw[qSf]at h;have c:=h p q za a b;rw[qPw,qPw,qPu a,qPu (show p<kG o by omega)];simp only[qQ4];omega
theorem zWz (K:Nat->Nat) (o:List Nat):∀p,rkP K o p<=p
 |0=>qPq _
 |p+1=>by have:=zWz K o p;rw[rkP];split<;>omega
theorem zK6 (h:By K o) (p:Nat):∀d,p+d<kG o->rkP K o p<=rkP K o (p+d)/\(rkP K o p=rkP K o (p+d)↔K (o.getD p 0)=K (o.getD (p+d) 0))
 |0,_=>by simp
 |d+1,hd=>by
  obtain⟨a,b⟩:=zK6 h p d za;have c:K (o.getD p 0)<=K (o.getD (p+d) 0):=by
   rcases qQy d with e|e
   ·subst e;exact qPq _
   ·exact h.getD za za
  have g:=h.getD (p:=p+d) (q:=p+(d+1)) za hd;have e:rkP K o (p+(d+1))=rkP K o (p+d)+if K (o.getD (p+d) 0)=K (o.getD (p+(d+1)) 0)then 0 else 1:=rfl
  rw[e];split
  ·rename_i h5;omega
  ·rename_i h5;omega
theorem qF (h:By K o) (p q:Nat) (e:p<kG o) (g:q<kG o):rkP K o p<rkP K o q↔K (o.getD p 0)<K (o.getD q 0):=by
 rcases qP8 p q with a|a
 ·obtain⟨c,d⟩:=zK6 h p (q-p) za;rw[show p+(q-p)=q by omega]at c d;have:=h.getD a g;omega
 ·obtain⟨c,d⟩:=zK6 h q (p-q) za;rw[show q+(p-q)=p by omega]at c d;rcases qP8 q p with b|b
  ·have:=h.getD b e;omega
  ·have:p=q:=za
   subst this;omega
theorem zTn (b:o.Perm (yK n)) (a:Nat) (d:a<n):∃p,p<kG o/\o.getD p 0=a:=by
 have c:a∈o:=b.mem_iff.2 (qQm.2 d);obtain⟨p,b,e⟩:=qTd c;exact⟨p,b,by rw[qPw,qPu b];exact e⟩
theorem zNc (b:o.Perm (yK n)) (p:Nat) (h:p<kG o):o.getD p 0<n:=by
 have a:o.getD p 0∈o:=by
  rw[qPw,qPu h];exact qQ h
 exact qQm.1 (b.mem_iff.1 a)
theorem zOo (d:o.Nodup) (b:p<kG o) (c:q<kG o) (e:o[p]=o[q]):p=q:=by
 have h:=qSf.1 d;rcases qTn p q with a|a|a
 ·exact absurd e (h p q b c a)
 ·exact a
 ·exact absurd e.symm (h q p c b a)
theorem zQw (d:o.Perm (yK n)) (a:p<kG o) (b:q<kG o) (e:o.getD p 0=o.getD q 0):p=q:=by
 have c:o.Nodup:=d.nodup_iff.2 qTw;rw[qPw,qPw,qPu a,qPu b]at e;exact zOo c a b e
theorem qCx {F:Nat->Nat} (e:o.Perm (yK (kG s))) (i:By (C s M) o) (hF:∀p,p<kG o->F (o.getD p 0)=rkP (C s M) o p):Rk s F M:=by
 intro a b h g;obtain⟨p,c,rfl⟩:=zTn e a h;obtain⟨q,d,rfl⟩:=zTn e b g;rw[hF p c,hF q d];exact qF i p q c d
theorem qCy (g:Bytes s) (e:o.Perm (yK (kG s))) (d:By (C s M) o) (c:kG s<=M):o=zHx s:=
 (Order.eq ⟨e,d.congr (fun a _ b _=>qBw g M a b c)⟩)
end Tn
end Go.Proofs.YtppnakkaljbmbaaGreatDoor
