/- Steps of a proof; no condition beyond what each states. -/
import Derived.Test.YtppnakkaljbmbaaGreatDoorZX00
import Derived.RangeFuncBound
import Derived.RangeFuncNested
import Derived.Sort.MapsRangeIn
import Derived.Test.YtppnakkaljbmbaaGreatDoorZX11
set_option linter.unusedVariables false
set_option linter.unusedSimpArgs false
set_option maxRecDepth 100000
set_option maxHeartbeats 8000000
open List renaming length->kG
open Go.Proofs.YtppnakkaljbmbaaGreatDoor.Cache renaming take->xH,keep->xK
open Go.RowKit
open Go.Proofs.Tryz
open Go.Value renaming int->qV,string->qW,slice->qX,pointer->qY,tuple->qZ,bool->qc
open Go.IntKind renaming i64->qj
open Go.Obj renaming cells->qm
open Go.Ending renaming returned->qp
open Option renaming some->qw,none->qx
open Go renaming World->qy,Value->qz,TypeId->yA,Addr->yB,Calls->yC,undef->yJ
open Bool renaming true->yD,false->yE
open Decidable renaming decide->yF
open Go.Proofs.Tryz renaming prog->yG
open Go.RowKit renaming Hid->yH,Below->yI
open List renaming range->yK
open Go.World renaming cell?->yM
open Go.RowKit.Below renaming refl->yN
namespace Go.Proofs.YtppnakkaljbmbaaGreatDoor
namespace Cache
variable {b n B:Nat} {w w':qy} {P:Program} {ops:Array Oper} {rest:List Oper} {o:Oper} {a:Act} {Q:Exit->Act->qy->Prop}
abbrev TD:yA:=416
def hdat (h:Hd):DW:= .agg [.lit (.int qj h.blk),.lit (.int qj h.st),.lit (.string h.txt.data.toList)]
def hval (h:Hd):qz:= .agg #[qV qj h.blk,qV qj h.st,qW h.txt]
theorem bytes_inj {s t:ByteArray} (h:s.data.toList=t.data.toList):s=t:=by
 have:s.data=t.data:=Array.toList_inj.1 h;cases s;cases t;simp at this;rw[this]
theorem qJu {x y:Hd} (h:hdat x=hdat y):x=y:=by
 cases x;cases y;unfold hdat at h;simp at h;obtain⟨c,d,e⟩:=h;have f:=bytes_inj (qPs Array.toList e);subst c d f;rfl
def qJh:qz->Option (DW×List MemPlace)
 | .agg cs=>match cs.toList with
  |[qV qj b,qV qj s,qW t]=>some (.agg [.lit (.int qj b),.lit (.int qj s),.lit (.string t.data.toList)],[])
  |_=>none
 |_=>none
theorem qJt (h:Hd):qJh (hval h)=qw (hdat h,[]):=rfl
theorem qJ4 {v:qz} {z:DW×List MemPlace} (h:qJh v=qw z):∃x:Hd,v=hval x/\z=(hdat x,[]):=by
 unfold qJh at h;split at h
 ·rename_i cs
  split at h
  ·rename_i b s t e
   refine⟨⟨b,s,t⟩,?_,?_⟩
   ·unfold hval;rw[show cs= #[qV qj b,qV qj s,qW t]from by apply Array.toList_inj.1;rw[e]]
   ·injection h with h;rw[<-h];rfl
  ·cases h
 ·cases h
theorem qNj {x y:Hd} (h:hval x=hval y):x=y:=by
 have c:=qJt x;rw[h,qJt y]at c;injection c with c
 injection c with c _
 exact(qJu c).symm
def qJe:Hd:=⟨0,0,⟨#[]⟩⟩
theorem qNn (l:List Hd) (i:qId l) (h:Hd) (b:Int):find b (put h l)=if b=h.blk then qw h else find b l:=by
 have g:=i.put h;have f:=qIs h l i;split
 ·rename_i e
  exact qIr g ((f h).2 (.inl rfl)) e.symm
 ·rename_i e
  cases hf:find b l with
  |some x=>
   obtain⟨d,c⟩:=qIb hf;exact qIr g ((f x).2 (.inr ⟨d,by rw[c];exact e⟩)) c
  |none=>
   cases hg:find b (put h l)with
   |none=>rfl
   |some x=>
    obtain⟨d,c⟩:=qIb hg;rcases(f x).1 d with rfl|⟨d,_⟩
    ·exact absurd c.symm e
    ·exact absurd c (qJ6 hf x d)
theorem qMs (l:List Hd) (g:qId l) (c b:Int):find b (drop c l)=if b=c then qx else find b l:=by
 split
 ·rename_i e
  cases hg:find b (drop c l)with
  |none=>rfl
  |some x=>
   obtain⟨f,d⟩:=qIb hg;exact absurd (d.trans e) (qI1.1 f).2
 ·rename_i e
  cases hf:find b l with
  |some x=>
   obtain⟨f,d⟩:=qIb hf;exact qIr (g.drop c) (qI1.2 ⟨f,by rw[d];exact e⟩) d
  |none=>
   cases hg:find b (drop c l)with
   |none=>rfl
   |some x=>
    obtain⟨f,d⟩:=qIb hg;exact absurd d (qJ6 hf x (qI1.1 f).1)
theorem drop_length (l:List Hd) (f:qId l) (b:Int):kG (drop b l)+(if(find b l).isSome=yD then 1 else 0)=kG l:=by
 induction l with
 |nil=>rfl
 |cons x r c=>
  have c:=c f.tail;by_cases h:x.blk=b
  ·have g:find b r=qx:=by
    cases hf:find b r with
    |none=>rfl
    |some y=>
     obtain⟨i,j⟩:=qIb hf;have:=f.head y i;omega
   have d:drop b (x::r)=drop b r:=by unfold drop;simp[h]
   have e:find b (x::r)=qw x:=by unfold find;simp[h]
   rw[g]at c;rw[d,e];simp at c⊢;omega
  ·have d:drop b (x::r)=x::drop b r:=by unfold drop;simp[h]
   have e:find b (x::r)=find b r:=by unfold find;simp[h]
   rw[d,e,qP3,qP3];omega
structure qIy (D:DW) (l:List Hd):Prop where
 rise:qId l
 at_:∀(b:Int) (z:DW),D.atKey (Lk b) z=(match find b l with|some h=>hdat h|none=>z)
 size:Go.Maps.size D=kG l
theorem qIy.start:qIy (.map []) []:=⟨by simp[qId],fun b z=>rfl,rfl⟩
theorem qIy.qLu {D:DW} {l:List Hd} (h:qIy D l) {b:Int} {x:Hd} (c:find b l=qw x) (z:DW):D.atKey (Lk b) z=hdat x:=by rw[h.at_,c]
theorem qIy.qLv {D:DW} {l:List Hd} (h:qIy D l) {b:Int} (c:find b l=qx) (z:DW):D.atKey (Lk b) z=z:=by rw[h.at_,c]
theorem qIy.has {D:DW} {l:List Hd} (h:qIy D l) (b:Int):Go.Maps.has D (Lk b)=(find b l).isSome:=by
 cases hf:find b l with
 |some x=>exact Go.Maps.has_true_of_atKey (y:=hdat x) (fun z=>h.qLu hf z)
 |none=>exact Go.Maps.has_false_of_atKey (fun z=>h.qLv hf z)
theorem zFm (l:List Hd) (d:qId l) (h:Hd):kG (put h l)=if(find h.blk l).isSome=yD then kG l else kG l+1:=by
 rcases qIu h l d with⟨e,x,g,c⟩|⟨e,f⟩
 ·rw[e,qIr d g c];rfl
 ·have:find h.blk l=qx:=by
   cases hf:find h.blk l with
   |none=>rfl
   |some y=>
    obtain⟨i,c⟩:=qIb hf;exact absurd c (f y i)
  rw[e,this];rfl
theorem qIy.put {D:DW} {l:List Hd} (h:qIy D l) (c:Go.Maps.Tidy D) (x:Hd):qIy (D.put (Lk x.blk) (hdat x)) (put x l):=by
 refine⟨h.rise.put x,fun b z=> ?_,?_⟩
 ·rw[qNn l h.rise];by_cases e:b=x.blk
  ·subst e;rw[qPr rfl,Go.Maps.atKey_put_same c.isMap (qJ3 _)]
  ·rw[qPt e,Go.Maps.atKey_put_other (fun e'=>e (by injection e' with _ e')),h.at_]
 ·rw[Go.Maps.size_put c,h.has,h.size,zFm l h.rise]
theorem qIy.drop {D:DW} {l:List Hd} (h:qIy D l) (f:Go.Maps.Tidy D) (c:Int):qIy (D.del (Lk c)) (drop c l):=by
 refine⟨h.rise.drop c,fun b z=> ?_,?_⟩
 ·rw[qMs l h.rise];by_cases e:b=c
  ·subst e;rw[qPr rfl,Go.Maps.atKey_del_same]
  ·rw[qPt e,Go.Maps.atKey_del_other (fun e'=>e (by injection e' with _ e')),h.at_]
 ·have d:=Go.Maps.size_del (k:=Lk c) f;have g:=drop_length l h.rise c;rw[h.has,h.size]at d;omega
abbrev dk:Go.Maps.Keyed yG 3:=keyed _ underlying3
def qIc (w:qy) (b n:Nat) (l:List Hd):Prop:=∃D:DW,w.ownsMap yG 3 qJh b n D/\qIy D l
theorem qIc.start (w:qy):qIc (w.alloc (.map #[] 0)) w.heap.size 0 []:=⟨_,World.ownsMap_made w yG 3 qJh,qIy.start⟩
theorem qIc.alloc {l:List Hd} (h:qIc w b n l) (o:Obj):qIc (w.alloc o) b n l:=by
 obtain⟨D,c,d⟩:=h;exact⟨D,c.alloc o,d⟩
theorem qIc.below {l:List Hd} (h:qIc w b n l) (g:yI B w w') (m:w.heap.size<=B):qIc w' b n l:=by
 obtain⟨D,c,e⟩:=h;have k:=c.lt;obtain⟨d,a,i,F,j,f⟩:=c;exact⟨D,⟨d,a,(g.block b za).trans i,F,j,f⟩,e⟩
theorem qIc.lt {l:List Hd} (h:qIc w b n l):b<w.heap.size:=by
 obtain⟨D,c,_⟩:=h;exact c.lt
theorem qM2 (w:qy):(zeroValue TH).run yG w= .ok (hval qJe) w:=zf
theorem qIc.look {l:List Hd} (h:qIc w b n l) (x:Int) (d: -9223372036854775808<=x) (e:x<=9223372036854775807):
  (Instr.lookup TD (.map (qw b)) (qV qj x) yD).run yG w= .ok (qZ #[hval ((find x l).getD qJe),qc (find x l).isSome]) w:=by
 obtain⟨D,f,hd⟩:=h;obtain⟨v,i,g,hv⟩:=f.look_ok dk underlying416 (qM2 w) (qJt qJe) (qJn d e);rw[g,hd.has];obtain⟨y,rfl,c⟩:=qJ4 hv;injection c with c _
 cases hf:find x l with
 |some z=>
  rw[hd.qLu hf]at c;rw[qJu c];rfl
 |none=>
  rw[hd.qLv hf]at c;rw[<-qJu c];rfl
theorem qIc.len {l:List Hd} (h:qIc w b n l) (ty:yA):(Builtin.len_ #[TD] ty #[.map (qw b)]).run yG w= .ok (qV qj (kG l)) w:=by
 obtain⟨D,c,hd⟩:=h;rw[c.len underlying416 ty,hd.size]
theorem qIc.store {l:List Hd} (h:qIc w b n l) (x:Hd) (d: -9223372036854775808<=x.blk) (e:x.blk<=9223372036854775807) (i:n<100000):
  ∃w',(Instr.mapUpdate TD (.map (qw b)) (qV qj x.blk) (hval x)).run yG w= .ok () w'/\qIc w' b (n+1) (put x l)/\w.mapTurned w' b:=by
 obtain⟨D,c,hd⟩:=h;obtain⟨w',f,a,g⟩:=c.store dk underlying416 (by unfold maxLen;omega) (qJn d e) (qJt x);exact⟨w',f,⟨_,a,hd.put (c.tidy dk) x⟩,g⟩
theorem qIc.del {l:List Hd} (h:qIc w b n l) (x:Int) (d: -9223372036854775808<=x) (e:x<=9223372036854775807) (ty:yA):
  ∃w',(Builtin.delete_ #[TD,3] ty #[.map (qw b),qV qj x]).run yG w= .ok (qZ #[]) w'/\qIc w' b n (drop x l)/\w.mapTurned w' b:=by
 obtain⟨D,c,hd⟩:=h;obtain⟨w',f,a,g⟩:=c.drop dk underlying416 (qJn d e) ty;exact⟨w',f,⟨_,a,hd.drop (c.tidy dk) x⟩,g⟩
theorem qI5 (h:w.mapTurned w' b) (e:B<=b) (d:B<=w.heap.size):yI B w w':=
 (yN _ _).grown h.grown d (fun k c=>by injection c with c;omega)
theorem qK0 (g:o.guard=qx) (m x v:Operand) (t:yA) (j:o.op= .mapUpdate t m x v)
  {c e d:qz} (i:a.eval m=c) (l:a.eval x=e) (hv:a.eval v=d) (k:(Instr.mapUpdate t c e d).run P w= .ok () w') (h:wpList P ops Q rest (a.put o.dst yJ) w'):wpList P ops Q (o::rest) a w:=by
 refine wpList_plain g fun K f=> ?_;unfold Oper.wp;simp[execOp,j,i,l,hv,k,Result.andThen];exact f _ _ h
theorem del_eq (f:o.guard=qx) (m x:Operand) (t k:yA)
  (i:o.op= .call {callee:= .builtin .delete,args:= #[m,x],argTypes:= #[t,k]}) {c d:qz} (g:a.eval m=c) (l:a.eval x=d) (j:(Builtin.delete_ #[t,k] o.type #[c,d]).run P w= .ok (qZ #[]) w')
  (h:wpList P ops Q rest (a.put o.dst (qZ #[])) w'):wpList P ops Q (o::rest) a w:=by
 refine wpList_plain f fun K e=> ?_;unfold Oper.wp;simp[execOp,i,resolve,invoke,builtin,g,l,j,Result.andThen];exact e _ _ h
end Cache
namespace Cache
def Pre (a:Int) (l:List Hd) (k:Nat):Prop:=Good a (l.take k)
theorem Pre.zero (a:Int) (l:List Hd):Pre a l 0:=by unfold Pre Good qId Apart;simp
def lastB (l:List Hd) (k:Nat):Int:=if h:0<k/\k<=kG l then(l[k-1]' za).blk else-1
theorem qKg (l:List Hd):lastB l 0= -1:=by unfold lastB;rw[dif_neg za]
theorem qL7 (l:List Hd) (k:Nat) (h:k<kG l):lastB l (k+1)=l[k].blk:=by unfold lastB;rw[dif_pos ⟨za,za⟩];rfl
theorem qLl (a:Int) (l:List Hd) (k:Nat) (h:Pre a l k) (b:k<=kG l): -1<=lastB l k:=by
 unfold lastB;split
 ·rename_i hh
  have:=(h.1 (l[k-1]' za) (qUk.2 ⟨k-1,za,rfl⟩)).1;omega
 ·omega
theorem qMl (l:List Hd) (x:Hd):qId (l++[x])↔qId l/\∀y∈l,y.blk<x.blk:=by unfold qId;rw[List.pairwise_append];simp
theorem qMe (l:List Hd) (x:Hd):Apart (l++[x])↔Apart l/\∀y∈l,y.st≠x.st:=by unfold Apart;rw[List.pairwise_append];simp
theorem zEz (l:List Hd) (k:Nat) (h:k<kG l):l.take (k+1)=l.take k++[l[k]]:=qQo h
theorem qMd (b:Int) (l:List Hd) (k:Nat) (h:Pre b l k) (c:k<=kG l):∀y∈l.take k,y.blk<=lastB l k:=by
 intro y f;obtain⟨i,hi,rfl⟩:=qUk.1 f;have a:0<k:=za
 unfold lastB;rw[dif_pos ⟨a,c⟩];by_cases e:i=k-1
 ·subst e;exact Int.le_refl _
 ·have d:qId (l.take k):=h.2.1;have:=qSf.1 d i (k-1) (by rw[qQh];omega) (by rw[qQh];omega) za;rw[List.getElem_take,List.getElem_take]at this;omega
theorem qNg (l:List Hd) (k:Nat) (b:k<=kG l) (a:0<k):∃y∈l.take k,y.blk=lastB l k:=by
 unfold lastB;rw[dif_pos ⟨a,b⟩];exact⟨_,qUk.2 ⟨k-1,za,rfl⟩,rfl⟩
theorem Pre.succ (d:Int) (l:List Hd) (k:Nat) (o:k<kG l) (h:Pre d l k):
  Pre d l (k+1)↔lastB l k<l[k].blk/\1<=l[k].st/\l[k].st<=d/\¬l[k].st∈(l.take k).map Hd.st:=by
 have q:=qLl d l k h za;have a:=qMd d l k h za;unfold Pre Good;rw[zEz l k o,qMl,qMe];obtain⟨g1,g2,g3⟩:=h;constructor
 ·rintro⟨j,f,g⟩;have i:=j l[k] (List.mem_append_right _ (qRm.2 rfl));refine⟨?_,i.2.1,i.2.2,?_⟩
  ·by_cases m:0<k
   ·obtain⟨y,c,e⟩:=qNg l k za m;rw[<-e];exact f.2 y c
   ·have b:k=0:=za
    subst b;have r:=i.1;rw[qKg];omega
  ·intro p;obtain⟨y,c,e⟩:=qQf.1 p;exact g.2 y c e
 ·rintro⟨j,f,g,n⟩;refine⟨fun y c=> ?_,⟨g2,fun y c=> ?_⟩,⟨g3,fun y c e=> ?_⟩⟩
  ·rcases qSi.1 c with c|c
   ·exact g1 y c
   ·rw[qRm]at c;subst c;exact⟨za,f,g⟩
  ·have:=a y c;omega
  ·exact n (qQf.2 ⟨y,c,e⟩)
theorem Pre.mono (a:Int) (l:List Hd) (k:Nat) (h:Good a l):Pre a l k:=
 ⟨fun x b=>h.1 x (qUg b),h.2.1.sublist (List.take_sublist _ _),h.2.2.sublist (List.take_sublist _ _)⟩
theorem Pre.all (a:Int) (l:List Hd) (k:Nat) (b:kG l<=k) (h:Pre a l k):Good a l:=by
 unfold Pre at h;rwa[qQg b]at h
theorem qL2 (c:Sh) (h:¬(1<=c.room/\c.room<=64/\0<=c.clock/\c.clock<=qIf/\(kG c.held:Int)<=c.room)):right c=yE:=by
 rw[zGw];intro a;exact h ⟨a.1,a.2.1,a.2.2.1,a.2.2.2.1,a.2.2.2.2.1⟩
theorem right_stop (c:Sh) (k:Nat) (h:¬Pre c.clock c.held k):right c=yE:=by
 rw[zGw];intro a;exact h (Pre.mono _ _ k a.2.2.2.2.2)
theorem qH6 (w:qy) (o:Obj):(w.alloc o).heap.size=w.heap.size+1:=by simp
def Seen (w:qy) (b n:Nat) (xs:List Int):Prop:=w.ownsMap yG 3 (plainElem (H:=Unit) yG 4) b n (seen xs)
theorem zGf (c:Sh) (a:Option yB) (a0:Nat) (w:qy) (hm:kG c.held<=maxLen) (hs:qIg w a c.held):
  yC yG 117 #[zC7 c a a0] w fun e w'=>e=qp (qc (right c))/\yI w.heap.size w w':=by
 obtain⟨f,d,l⟩:=c;unfold zC7;simp only at hs hm⊢;obtain⟨n,hn⟩:=zB (kG l);obtain⟨HS,Z⟩:=yQ hs hn;rw[hn]at hm⊢;unfold maxLen at hm;have a8:= @run_makeMap yG;clear hs hn;by_cases hh:1<=f/\f<=64/\0<=d/\d<=1099511627776/\(n:Int)<=f
 ·obtain⟨h1,h2,h3,h4,h5⟩:=hh;go_enter func117,ntmps117;go_wp2;go_loopw [4,37] (fun v i wr=>∃k:Nat,k<=n/\i=qV qj k/\v=qV qj (lastB l k)/\yH (Pre d l k)/\yH (Seen wr (w.heap.size+1) k ((l.take k).map Hd.st))/\yH (yI (w.heap.size+1) (w.alloc (qm #[qV qj f,qV qj d,qX a n a0] TS)) wr)) (fun _ i _=>n-(intOf i).toNat)
  case atStart=>exact⟨0,za,rfl,by rw[qKg],zH (Pre.zero _ _),zH (by have h:=World.ownsMap_made (w.alloc (qm #[qV qj f,qV qj d,qX a n a0] TS)) yG 3 (plainElem (H:=Unit) yG 4);rw[qH6]at h;exact h),zH ((yN _ _).alloc zm _)⟩
  case round=>
   obtain⟨k,hk,rfl,rfl,G,K,z⟩:=hrel;have c0:wr.cell? ⟨w.heap.size,1,qx⟩=qw (qV qj d):=by
    rw[z.out.cell (p:=⟨w.heap.size,1,qx⟩) zm];simp
   by_cases V:k<n
   ·have r:k<kG l:=by rw[Z.out];exact V
    have I:qIg wr a l:=HS.out.below (((yN _ _).alloc (qPq _) _).trans (z.out.mono za)) rfl;obtain⟨b,off,ha,a6,e0,e1,e2⟩:=I.at_ k r;subst ha;obtain⟨Y,m⟩:=zB (l[k].blk);obtain⟨st,t⟩:=zB (l[k].st);obtain⟨tx,L⟩:=zB (l[k].txt);rw[m]at e0;rw[t]at e1;rw[L]at e2;have F:=zH (Pre.succ d l k r G.out);obtain⟨M,j⟩:=zB (lastB l k);rw[j,m,t]at F;rw[j];obtain⟨P,R,a5⟩:=yR m t j;clear m t L j I;have hz:w.heap.size+1<=wr.heap.size:=by have h:=z.out.size;rw[qH6]at h;exact h
    have a9:w.heap.size<wr.heap.size:=hz;have aa:¬w.heap.size=wr.heap.size:=za
    have no:∀w':qy,yI w.heap.size w w'->¬(M<Y/\1<=st/\st<=d/\¬st∈(l.take k).map Hd.st)->Ending.returned (qc yE)=qp (qc (right ⟨f,d,l⟩))/\yI w.heap.size w w':=by
     intro w' a4 a3;exact⟨zQi (right_stop ⟨f,d,l⟩ (k+1) (fun h=>a3 (F.out.1 h))).symm,a4⟩
    have NO:=zH no;clear no;have O:yI w.heap.size w wr:=((yN _ _).alloc (qPq _) _).trans (z.out.mono za);have W:=zH O;clear O;have B:=zH (W.out.alloc za (qm #[qV qj Y,qV qj st,qW tx] TH));by_cases g1:M<Y
    ·by_cases g2:1<=st/\st<=d
     ·obtain⟨g2,g3⟩:=g2;have o:Seen (wr.alloc (qm #[qV qj Y,qV qj st,qW tx] TH)) (w.heap.size+1) k ((l.take k).map Hd.st):=World.ownsMap.alloc K.out _;have s:=qMn o st za za;have u:=qJn (x:=st) za za;obtain⟨HK,HO⟩:=yQ u o;clear u o;by_cases y:st∈(l.take k).map Hd.st
      ·rw[qP9 y]at s;have g:=zH (NO.out _ B.out (fun h=>h.2.2.2 y));clear y;go_wp2;go_ret;exact g.out
      ·rw[qP1 y]at s;have G4:=zH y;clear y;go_wp2_with (at_mapUpdate;refine wpList_mapUpdate_own _ rfl _ _ _ 275 rfl 3 4 (keyed _ underlying3) underlying275 (plainElem (H:=Unit) yG 4) (w.heap.size+1) k (seen ((l.take k).map Hd.st)) rfl HO.out (by unfold maxLen;omega) _ _ (Lk st) rfl rfl HK.out _ [] (plainElem_bool underlying4 yD) ?_;intro w1 a2 a1);obtain⟨S,X⟩:=yQ a2 a1;clear a2 a1;go_wp2;go_roundw
       case rel=>
        refine⟨k+1,za,by go_num,?_,zH (F.out.2 ⟨g1,g2,g3,G4.out⟩),?_,?_⟩
        ·rw[qL7 l k r,P.out]
        ·rw[zEz l k r,qQd,qQa,qSq,R.out];refine zH ?_;unfold Seen;rw[qKo];exact S.out
        ·exact zH (((z.out.alloc hz _)).grown X.out (by rw[qH6];omega) (fun q hq=>by injection hq with hq;omega))
       case measure=>simp[intOf];omega
     ·have g:=zH (NO.out _ B.out (fun h=>g2 ⟨h.2.1,h.2.2.1⟩));by_cases g5:1<=st
      ·have g6:¬st<=d:=fun h=>g2 ⟨g5,h⟩;clear g2;go_wp2;go_ret;exact g.out
      ·clear g2;go_wp2;go_ret;exact g.out
    ·have g:=zH (NO.out _ B.out (fun h=>g1 h.1));go_wp2;go_ret;exact g.out
   ·go_wp2;go_ret;refine⟨zQi ?_,?_⟩
    ·exact((zIu _).2 ⟨h1,h2,h3,h4,by simp only[Z.out];exact h5,Pre.all d l k (by rw[Z.out];omega) G.out⟩).symm
    ·exact((yN _ _).alloc (qPq _) _).trans (z.out.mono za)
 ·have N:right ⟨f,d,l⟩=yE:=qL2 _ (by simp only[Z.out];exact hh);rw[N];clear N;have a7:=hh;clear hh;go_enter func117,ntmps117;go_wp2
  all_goals first
   |(exfalso;omega)
   |(go_ret;exact⟨rfl,(Below.refl _ _).alloc (qPq _) _⟩)
end Cache
namespace Cache
theorem qK5 (x:Hd):∀l:List Hd,(∀y∈l,y.blk<x.blk)->put x l=l++[x]
 |[],_=>rfl
 |y::r,h=>by
  unfold put;rw[qPr (h y zm),qK5 x r (fun z a=>h z (by simp[a]))];rfl
def Wf (l:List Hd):Prop:=∀h∈l,-9223372036854775808<=h.blk/\h.blk<=9223372036854775807
theorem zXe (c:Sh) (a:Option yB) (K:Nat) (w:qy) (R:kG c.held<=1000) (N:qId c.held) (L:Wf c.held) (O:qIg w a c.held):
  yC yG 289 #[zC7 c a K] w fun e w'=>∃b,e=qp (.map (qw b))/\w.heap.size<=b/\qIc w' b (kG c.held) c.held/\yI w.heap.size w w':=by
 obtain⟨o,d,l⟩:=c;unfold zC7;simp only at O R N L⊢;obtain⟨n,M⟩:=zB (kG l);obtain⟨V,P,S,G⟩:=yS O M N L;rw[M]at R⊢;have a1:= @run_makeMap yG;clear O M N L;go_enter func289,ntmps289;go_wp2;go_loopw [10] (fun i wr=>∃k:Nat,k<=n/\i=qV qj k/\yH (qIc wr (w.heap.size+1) k (l.take k))/\yH (yI (w.heap.size+1) (w.alloc (qm #[qV qj o,qV qj d,qX a n K] TS)) wr)) (fun i _=>n-(intOf i).toNat)
 case atStart=>exact⟨0,za,rfl,zH (by have h:=qIc.start (w.alloc (qm #[qV qj o,qV qj d,qX a n K] TS));rw[qH6]at h;exact h),zH ((yN _ _).alloc zm _)⟩
 case round=>
  obtain⟨k,hk,rfl,t,z⟩:=hrel;have hz:w.heap.size+1<=wr.heap.size:=by have h:=z.out.size;rw[qH6]at h;exact h
  by_cases F:k<n
  ·have g:k<kG l:=by rw[P.out];exact F
   have p:qIg wr a l:=V.out.below (((yN _ _).alloc (qPq _) _).trans (z.out.mono za)) rfl;obtain⟨b,off,ha,a0,Y,Z,e2⟩:=p.at_ k g;subst ha;obtain⟨x,q⟩:=zB (l[k]);rw[q]at Y Z e2;have j:x∈l:=by rw[<-q];exact qQ _
   obtain⟨W,X⟩:=G.out x j;have m:put x (l.take k)=l.take (k+1):=by
    rw[zEz l k g,q];refine qK5 x _ (fun y hy=> ?_);obtain⟨i,hi,rfl⟩:=qUk.1 hy;rw[<-q];exact qSf.1 S.out i k za g za
   obtain⟨w1,s,f,r⟩:=(t.out.alloc (qm #[qV qj x.blk,qV qj x.st,qW x.txt] TH)).store x W X za;rw[m]at f;have u:yI (w.heap.size+1) (wr.alloc (qm #[qV qj x.blk,qV qj x.st,qW x.txt] TH)) w1:=qI5 r (qPq _) (by rw[qH6];omega);obtain⟨I,H⟩:=yQ f u;clear f u r m j q p;unfold hval at s;go_wp2_with (at_mapUpdate;refine qK0 rfl _ _ _ 416 rfl rfl rfl rfl s ?_);go_roundw
   case rel=>exact⟨k+1,za,by go_num,I,zH ((z.out.alloc hz _).trans H.out)⟩
   case measure=>simp[intOf];omega
  ·have B:k=n:=za
   subst B;go_wp2;go_ret;refine⟨_,rfl,za,?_,((yN _ _).alloc (qPq _) _).trans (z.out.mono za)⟩;have h:=t.out;rwa[qQg (by rw[P.out];omega)]at h
end Cache
namespace Cache
open Go.Shelf
variable {W:qy} {B n₀:Nat}
attribute [local go_sem] Oper.semAt_some
abbrev qIk (x:Hd):Obj:=qm #[qV qj x.blk,qV qj x.st,qW x.txt] TH
def qIo (W:qy) (B:Nat) (x:Hd):Prop:=W.heap[B]? =qw (qIk x)
theorem qIo.new (W:qy) (x:Hd):qIo (W.alloc (qIk x)) W.heap.size x:=World.alloc_heap_new W _
theorem qIo.own (B d:Nat) (x:Hd):OwnFrom d (fun(_:Unit) W=>qIo W B x):=fun s X Y row a g c=>by
 refine(g.block B (qQ5.1 a).1 (fun e=> ?_)).trans a;obtain⟨_,o,b,f⟩:=c B e.symm;rw[show X.heap[B]? =_ from a]at b;cases b;cases f
theorem qIo.alloc {x:Hd} (h:qIo W B x) (o:Obj):qIo (W.alloc o) B x:=(Below.heap_alloc W o B (qQ5.1 h).1).trans h
theorem qIo.at_ {x:Hd} (h:qIo W B x):W.cell? ⟨B,0,qx⟩=qw (qV qj x.blk)/\W.cell? ⟨B,1,qx⟩=qw (qV qj x.st)/\W.cell? ⟨B,2,qx⟩=qw (qW x.txt):=by
 refine⟨?_,?_,?_⟩<;>simp[yM,show W.heap[B]? =_ from h]
theorem qIo.lt {x:Hd} (h:qIo W B x):B<W.heap.size:=(qQ5.1 h).1
theorem qIo.src {x:Hd} (h:qIo W B x):qIg W (qw ⟨B,0,qx⟩) [x]:=by
 intro j y a
 match j,a with
 |0,a=>
  simp at a;subst a;obtain⟨b,c,d⟩:=h.at_;exact⟨B,0,rfl,b,c,d⟩
def KpW (n₀:Nat) (W W':qy):Prop:=yI n₀ W W'/\KeepsWalks W W'
theorem qLw (n n₀ Bs:Nat) (hn:1<=n) (a:Option yB) (m N:Nat) (l:List Hd) (Y:kG l=m) (a3:m<=100000) (w:qy) (M:qIg w a l) (a5:n₀<=w.heap.size) (O:∀b c,a=qw ⟨b,c,qx⟩->0<m->b<n₀) (Z:Bs<w.heap.size)
  (L:w.cell? ⟨Bs,0,qx⟩=qw (qX a m N)):
  SeqStopsK Fence.wide n yG 205 #[qY (qw ⟨Bs,0,qx⟩)] (fun x:Hd=> #[hval x]) (KpW n₀) (fun ys=>ys=l) (fun _=>True) m w:=by
 intro lp J Jx W q R a0 V P;refine qS6 func205 rfl trivial ?_ rfl;simp only[ntmps205,qQ0,qP3,qQx,Nat.reduceAdd,Nat.reduceSub,qQ9,qR,qRa,qRb,qQl,qQr];have a2:W.cell? ⟨Bs,0,qx⟩=qw (qX a m N):=by rw[q.cell (p:=⟨Bs,0,qx⟩) Z];exact L
 have t:qIg W a l:=M.below q rfl;have a4:n₀<=W.heap.size:=by have:=q.size;omega
 obtain⟨HS,HJ,HY,H0,HM,H⟩:=yU t R V P Y O;clear t R V P M a0 q L O Y;gi_wp2;gi_loopw [7] (fun i wr=>∃k:Nat,k<=m/\i=qV qj k/\yH (J (l.take k) wr)/\yH (yI n₀ W wr)/\W.heap.size<=wr.heap.size) (fun i _=>m-(intOf i).toNat)
 case atStart=>exact⟨0,za,rfl,H0,zH (yN _ _),qPq _⟩
 case round=>
  obtain⟨k,hk,rfl,o,y,hz⟩:=hrel;by_cases I:k<m
  ·have j:k<kG l:=by rw[HM.out];exact I
   obtain⟨x,z⟩:=zB (l[k]);obtain⟨b,c,X,c0,c1,c2⟩:=HS.out k x (by rw[qPu j,z]);have f:=H.out b c X za;subst X;have e0:wr.cell? ⟨b,c+k*3,qx⟩=qw (qV qj x.blk):=by rw[y.out.cell (p:=⟨b,c+k*3,qx⟩) f];exact c0
   have e1:wr.cell? ⟨b,c+k*3+1,qx⟩=qw (qV qj x.st):=by rw[y.out.cell (p:=⟨b,c+k*3+1,qx⟩) f];exact c1
   have e2:wr.cell? ⟨b,c+k*3+2,qx⟩=qw (qW x.txt):=by rw[y.out.cell (p:=⟨b,c+k*3+2,qx⟩) f];exact c2
   have a1:b<wr.heap.size:=qQk e0;clear c0 c1 c2;have g:J (l.take k) (wr.alloc (qIk x)):=HJ.out _ wr _ qx o.out (qR4 wr _ qx) (fun r e=>by cases e);obtain⟨fn,tmps,assign,body,hy,S⟩:=HY.out (l.take k) x (wr.alloc (qIk x)) g (by rw[qQh];omega);obtain⟨HR,HX⟩:=yQ S z;clear S z g;unfold hval at hy;gi_wp2;refine HR.out.mono ?_;rintro e W3 (⟨rfl,s,u⟩|⟨rfl,d⟩)
   ·obtain⟨K,B⟩:=yQ s u;clear s u;gi_wp2;go_roundw
    case rel=>
     refine⟨k+1,za,by go_num,?_,zH (y.out.trans (((yN _ wr).alloc za _).trans B.out.1)),?_⟩
     ·rw[zEz l k j,HX.out];exact K
     ·have h:=B.out.2.size;rw[qH6]at h;omega
    case measure=>simp[intOf];omega
   ·have G:=zH d;clear d;gi_wp2;refine qP5 (qSy rfl _ _ _) rfl ?_;exact⟨⟨_,rfl⟩,.inr ⟨_,trivial,G.out⟩⟩
  ·have F:k=m:=za
   subst F;gi_wp2;go_end0;refine⟨⟨_,rfl⟩,.inl ⟨_,rfl,?_⟩⟩;have h:=o.out;rwa[qQg (by rw[HM.out];omega)]at h
def Came (l:List Hd) (left:Lit->Bool) (a:List Hd):Prop:=a.Nodup/\∀h,h∈a↔(h∈l/\left (Lk h.blk)=yE)
theorem Came.start {D:DW} {l:List Hd} (hd:qIy D l):Came l (Go.Maps.has D) []:=by
 refine⟨List.nodup_nil,fun h=> ?_⟩;rw[hd.has];constructor
 ·intro a;cases a
 ·rintro⟨a,e⟩;rw[qIr hd.rise a rfl]at e;cases e
theorem Came.step {D:DW} {l m:List Hd} {left:Lit->Bool} (h:Came l left m) (hd:qIy D l) {x:Hd} {f:Int} (o:left (Lk f)=yD) (n:∀z,D.atKey (Lk f) z=hdat x):
  x.blk=f/\Came l (fun z=>left z&& !z.sameKey (Lk f)) (m++[x]):=by
 have i:find f l=qw x:=by
  have d:=n (.nil);rw[hd.at_]at d;cases i:find f l with
  |none=>rw[i]at d;cases d
  |some y=>rw[i]at d;rw[qJu d]
 obtain⟨r,g⟩:=qIb i;refine⟨g,?_⟩;subst g;have c:x∉m:=fun q=>by have:=((h.2 x).1 q).2;rw[o]at this;cases this
 refine⟨List.nodup_append.2 ⟨h.1,zm,fun a p b g=>by simp at g;subst g;exact fun e=>c (e▸p)⟩,fun y=> ?_⟩;show _↔y∈l/\(left (Lk y.blk)&& !(Lk y.blk).sameKey (Lk x.blk))=yE;rw[qSi,qRm,h.2 y,qM8];constructor
 ·rintro(⟨d,k⟩|rfl)
  ·exact⟨d,by rw[k];rfl⟩
  ·exact⟨r,zm⟩
 ·rintro⟨d,k⟩;by_cases e:y.blk=x.blk
  ·right;have j:=qIr hd.rise d e;rw[i]at j;injection j with j
   exact j.symm
  ·left;rw[qP1 e]at k;exact⟨d,by simpa using k⟩
theorem Came.done {l a:List Hd} {left:Lit->Bool} (h:Came l left a) (c:qId l) (b:∀k,left k=yE):a.Perm l:=by
 refine(List.perm_ext_iff_of_nodup h.1 ?_).2 (fun x=>by rw[h.2 x,b];simp);rw[List.nodup_iff_pairwise_ne];exact c.imp fun h e=>by rw[e]at h;omega
theorem qOn (a:qz) (b:Lit) (h:keyOf yG 3 a=qw b):∃x,a=qV qj x:=by
 obtain⟨x,rfl,_⟩:=Go.Maps.keyOf_int_inv underlying3 h;exact⟨x,rfl⟩
theorem qO1 {x:Int} {a:Lit} (h:keyOf yG 3 (qV qj x)=qw a):a=Lk x:=by
 obtain⟨y,e,rfl,_⟩:=Go.Maps.keyOf_int_inv underlying3 h;cases e;rfl
theorem qLj (n n₀ Bs b M:Nat) (hn:1<=n) (l:List Hd) (w:qy) (R:qIc w b M l) (ad:n₀<=w.heap.size) (a4:Bs<w.heap.size) (V:w.cell? ⟨Bs,0,qx⟩=qw (.map (qw b))):
  SeqStopsK Fence.wide n yG 347 #[qY (qw ⟨Bs,0,qx⟩)] (fun x:Hd=> #[hval x]) (KpW n₀) (fun ys=>ys.Perm l) (fun _=>True) (kG l) w:=by
 intro lp J Jx W L hJ a5 hY h0;refine qS6 func347 rfl trivial ?_ rfl;simp only[ntmps347,qQ0,qP3,qQx,Nat.reduceAdd,Nat.reduceSub,qQ9,qR,qRa,qRb,qQl,qQr];have aa:W.cell? ⟨Bs,0,qx⟩=qw (.map (qw b)):=by rw[L.cell (p:=⟨Bs,0,qx⟩) a4];exact V
 obtain⟨D,o,hd⟩:=R.below L (qPq _);have ac:n₀<=W.heap.size:=by have:=L.size;omega
 obtain⟨N,HY,H0,z⟩:=yS hJ hY h0 hd;clear hd hJ hY h0 a5 L V R;gi_wp2_with (first
  |(gi_at_range;refine wpListIn_range_own _ rfl _ 416 rfl 3 TH dk underlying416 qJh b M D rfl o ?_;intro w0 a3 a7 ae)
  |gi_in)
 gi_loopw [4] (fun _ wr=>∃(left:Lit->Bool) (cnt:Nat) (q:List Hd),yH (wr.ranges yG 3 qJh b W.heap.size M D left cnt)/\yH (kG q+cnt<=kG l)/\yH (Came l left q)/\yH (J q wr)) (fun _ wr=>wr.rangeLeft b W.heap.size)
 case atStart=>
  exact⟨_,_,[],zH a3,zH (by rw[z.out.size];simp),zH (Came.start z.out),zH (N.out [] W w0 qx H0.out a7 (fun r e=>by cases e))⟩
 case round=>
  obtain⟨left,cnt,q,c,g,hC,i⟩:=hrel;gi_wp2_with (first
   |(gi_at_next;refine wpListIn_next_ranges _ rfl _ rfl 3 dk qJh (Value.int qj) hval qOn (fun v y hv=>by obtain⟨x,e,_⟩:=qJ4 hv;exact⟨x,e⟩) b W.heap.size M _ _ _ rfl c.out ?_ ?_)
   |gi_in)
  ·intro ab a8;gi_wp2;go_end0;exact⟨⟨_,rfl⟩,.inl ⟨q,hC.out.done z.out.rise a8,i.out⟩⟩
  ·intro xk x kl yd yp w2 S X a1 hv Z Y a2 a0 a9 a6;have G:=qO1 X;subst G;obtain⟨x',O,P⟩:=qJ4 hv;have O:=qNj O;subst O;injection P with P _
   subst P;obtain⟨K,j⟩:=hC.out.step z.out a1 Z;subst K;have k:J q w2:=N.out q wr w2 (qw W.heap.size) i.out a0 (fun r e=>by cases e;exact⟨qPq _,c.out.iter_walk⟩);have a:J q (w2.alloc (qIk x)):=N.out _ w2 _ qx k (qR4 w2 _ qx) (fun r e=>by cases e);obtain⟨fn,tmps,assign,body,hy,hR⟩:=HY.out q x (w2.alloc (qIk x)) a (by have:=g.out;omega);obtain⟨HR,I,u,t,F⟩:=yT hR j c (Y.of_walks (KeepsWalks.alloc w2 (qIk x))) a2;have s:yH (kG (q++[x])+S<=kG l):=zH (by have:=g.out;simp;omega);clear a9 hR j c a2 k a Y X Z hv a1 a0 g;unfold hval at hy a6;gi_wp2;refine HR.out.mono ?_;rintro e W3 (⟨rfl,a,m⟩|⟨rfl,f⟩)
   ·have H:=zH a;have h:=t.out.of_walks m.2;have d:=zH h;clear a h m;gi_wp2;go_roundw
    case rel=>exact⟨_,S,q++[x],d,s,I,H⟩
    case measure=>rw[d.out.left_eq,u.out.out.left_eq];exact F.out
   ·have B:=zH f;clear f;gi_wp2;refine qP5 (qSy rfl _ _ _) rfl ?_;exact⟨⟨_,rfl⟩,.inr ⟨_,trivial,B.out⟩⟩
theorem qOz {A B C:qy} (h:KpW n₀ A B) (k:KpW n₀ B C):KpW n₀ A C:=⟨h.1.trans k.1,h.2.trans k.2⟩
theorem qO0 {w:qy} (e:n₀<=w.heap.size) (W:qy) (l:Nat) (o a:Obj) (d:w.heap.size<=l) (h:W.heap[l]? =qw o) (b:o.isCells=yE) (c:o.isWalk=yE):KpW n₀ W (W.putObj l a):=
 ⟨belowK_b e W l o a d h b c,walksK_b W l o a d h b c⟩
def Coll (n₀ B:Nat) (pre:List Hd) (W:qy):Prop:=∃v,Boxed W B 34 v/\W.ownsRow n₀ TH 3 v (kG pre) (flat pre)/\True
theorem qNr (n₀ B:Nat):Own (Coll n₀ B):=holdsRow_own n₀ B 34 TH 3 (fun pre:List Hd=>kG pre) (fun pre=>flat pre) (fun _ _=>True)
theorem qKx (g:Nat) (lb:Array qz) (S:List Hd->Prop) (N:Nat) (hN:N<=1000) (w:qy) (eg:∀args w,(callFunc g args).run yG w= .ok (.enter g args) w)
  (a1:SeqStopsK Fence.wide 2 yG g lb (fun x:Hd=> #[hval x]) (KpW w.heap.size) S (fun _=>True) N w):
  yC yG 260 #[qX qx 0 0,.func (.func g) #[] lb] w fun e w'=>∃a n c l,e=qp (qX a n c)/\S l/\qI w' w.heap.size a n c l/\yI w.heap.size w w':=by
 refine(qQj (n:=3)).1 ?_;refine callsIn_of_wp_marks func260 rfl trivial ?_ rfl;simp only[ntmps260,qQ0,qP3,qQx,Nat.reduceAdd,Nat.reduceSub,qQ9,qR,qRa,qRb,qQl,qQr];obtain⟨G,EG⟩:=yQ a1 eg;clear a1 eg;gi_wp2;have f:yI w.heap.size w (w.alloc (qm #[qX qx 0 0] 34)):=(yN _ _).alloc (qPq _) _;refine wpIn_rangeFunc_ownH (F:=Fence.wide) (n:=3) rfl za (gf:=g) (lb:=lb) rfl trivial EG.out G.out qOz (qO0 (by rw[qH6];omega)) f (fun _=>rfl)
  (fun pre W=>Coll w.heap.size w.heap.size pre W/\yI w.heap.size w W) (fun _ _ _=>False)
  (OwnFrom.and (Own.from (qNr _ _) _) (ownFrom_below (qPq _) (by rw[qH6];omega))) (fun _ _ _ _ _ hs _ _=>hs)
  ⟨⟨_,Boxed.new w _ _,by have h:=(qI.start w w.heap.size).alloc (qm #[qX qx 0 0] 34);exact h,trivial⟩,f⟩
  (fun x a' W=>∃Bx,w.heap.size+1<=Bx/\qIo W Bx x/\a'={tmps:= #[qX qx 0 0,.func (.func g) #[] lb,qY (qw ⟨w.heap.size,0,qx⟩),yJ,qX qx 0 0,qY (qw ⟨Bx,0,qx⟩),.func (.func g) #[] lb,hval x,yJ,yJ,yJ,yJ,yJ],defers:=[]})
  (fun x a'=>by
   rintro s X Y row ⟨Bx,h1,h2,h3⟩ hg Z;exact⟨Bx,h1,qIo.own Bx _ x () X Y row h2 hg Z,h3⟩) ?assign ?body ?done ?stop
 case assign=>
  rintro l pre x W K ⟨⟨v,hv,b,_⟩,q⟩ y;have ab:=hv.lt;unfold hval at*;gi_wp2;exact y _ _ ((KeepsOthers.alloc _ _).from _) ⟨(yN _ W).alloc q.size _,KeepsWalks.alloc _ _⟩ ⟨⟨v,hv.alloc _,b.alloc _,trivial⟩,q.alloc q.size _⟩ ⟨W.heap.size,za,qIo.new W x,rfl⟩
 case body=>
  rintro l pre x a' W hl ⟨r,Z⟩ ⟨⟨v,hv,b,_⟩,q⟩ ⟨Bx,a8,V,rfl⟩ a4;obtain⟨i0,hi,p,t,k⟩:=qR0 qNx;obtain⟨x0,x1,x2⟩:=V.at_;have I:=hv.cell;have ac:=hv.frozen;have a5:=hv.lt;have a6:=V.lt;have H:=yP (∀j u,(hcells x)[j]? =qw u->(W.alloc (qIk x)).cell? ((⟨W.heap.size,0,qx⟩:yB).add j)=qw u) (fun j u hu=>(qIo.new W x).src.cells j u (by rw[qKd];exact hu));obtain⟨d,i,HV,HB,HI,P,R,O⟩:=yX (b.alloc (qIk x)) b hv q hi p t k;clear b hv Z V hi p t k q f;unfold hval;gi_wp2_with (gi_at_builtin;refine wpListIn_append_own _ rfl _ _ 34 rfl w.heap.size TH i0 _ 3 32 underlying34 HI.out P.out R.out O.out rfl z8 _ _ _ rfl d.out ⟨W.heap.size,0,qx⟩ 1 1 (hcells x) rfl rfl H.out (by rw[<-qKd];exact zPj _) (by unfold maxLen;omega) za (by rw[qH6];omega) ?_;intro v' w1 a0 a2 _;obtain⟨g',a3,rfl⟩:=ownsRow_succ a0;obtain⟨o,M,L,m,B⟩:=HV.out.appended z8 i.out HB.out.size (qPq _) a0 a2;have a9:=o.cell;have aa:=o.frozen);exact⟨m.from _,⟨B,m.walks⟩,⟨_,M,by rw[qMr,qPx];exact L,trivial⟩,HB.out.trans B⟩
 case done=>
  rintro D ys W hD hS ⟨⟨v,hv,b,_⟩,q⟩ y;obtain⟨a',c',rfl⟩:∃a' c',v=qX a' (kG ys) c':=by
   rcases Joins.ownsRow_forms b with⟨rfl,h0⟩|⟨g,a7,rfl⟩
   ·rw[h0];exact⟨_,_,rfl⟩
   ·exact⟨_,_,rfl⟩
  have I:=hv.cell;obtain⟨HS,d,HB,z⟩:=yS hS b q y;clear hS b q f y;gi_wp2;refine⟨zm,.inl ⟨_,_,rfl,run_takeDeferred z.out,?_⟩⟩;exact⟨_,results_tmp rfl _ _ _,_,_,_,_,rfl,HS.out,ownsRow_putObj d.out _ z.out rfl,HB.out.trans (belowK_b (w:=w) (qPq _) W D _ _ (by rw[qH6]at hD;omega) z.out rfl rfl)⟩
 case stop=>
  rintro D c pre W _ _ h _;exact h.elim
end Cache
namespace Cache
open Go.Shelf
theorem zS5 (g:Nat) (lb:Array qz) (S:List Hd->Prop) (N:Nat) (o:N<=1000) (w:qy) (d:∀args w,(callFunc g args).run yG w= .ok (.enter g args) w)
  (b:SeqStopsK Fence.wide 2 yG g lb (fun x:Hd=> #[hval x]) (KpW w.heap.size) S (fun _=>True) N w):
  yC yG 203 #[.func (.func g) #[] lb] w fun e w'=>∃a n c l,e=qp (qX a n c)/\S l/\qI w' w.heap.size a n c l/\yI w.heap.size w w':=by
 have H:=zH (qKx g lb S N o w d b);clear d b;go_enter func203,ntmps203;go_wp2_with fail;refine H.out.mono ?_;rintro e p ⟨a,n,c,l,rfl,f,h,i⟩;obtain⟨j,k,m⟩:=yR f h i;clear f h i;go_wp2;go_ret;exact⟨a,n,c,l,rfl,j.out,k.out,m.out⟩
theorem qLx (a:Option yB) (n c:Nat) (w:qy):
  yC yG 166 #[qX a n c] w fun e w'=>e=qp (.func (.func 205) #[] #[qY (qw ⟨w.heap.size,0,qx⟩)])/\w'=w.alloc (qm #[qX a n c] 34):=by
 go_enter func166,ntmps166;go_wp2;go_ret;exact⟨rfl,rfl⟩
theorem qLk (b:Option Nat) (w:qy):
  yC yG 322 #[.map b] w fun e w'=>e=qp (.func (.func 347) #[] #[qY (qw ⟨w.heap.size,0,qx⟩)])/\w'=w.alloc (qm #[.map b] TD):=by
 go_enter func322,ntmps322;go_wp2;go_ret;exact⟨rfl,rfl⟩
abbrev TSo:yA:=208
theorem qMb (x:Hd) (w:qy):
  yC yG 164 #[hval x] w fun e w'=>e=qp (qV qj (wrap64 (-x.st)))/\w'=w.alloc (qIk x):=by
 obtain⟨a,xs,b⟩:=x;unfold hval qIk;simp only;go_enter func164,ntmps164;go_wp2;go_ret;exact⟨rfl,rfl⟩
theorem qLf (x:Hd) (w:qy):
  yC yG 346 #[hval x] w fun e w'=>e=qp (qV qj x.blk)/\w'=w.alloc (qIk x):=by
 obtain⟨a,xs,b⟩:=x;unfold hval qIk;simp only;go_enter func346,ntmps346;go_wp2;go_ret;exact⟨rfl,rfl⟩
end Cache
namespace Cache
variable {clock b:Int} {k n:Nat} {g:Nat->ByteArray}
theorem qK4 (h:Hd):∀(l:List Hd),qId l->(put h l).Perm (h::drop h.blk l)
 |[],_=>qTt _
 |x::r,hr=>by
  have hd:(∀y∈r,y.blk≠h.blk)->drop h.blk r=r:=fun c=>qI9 r h.blk c;unfold put;split
  ·rename_i h1
   rw[show drop h.blk (x::r)=x::drop h.blk r by unfold drop;rw[qTh,qPr zq]];exact(List.Perm.cons x (qK4 h r hr.tail)).trans (List.Perm.swap h x _)
  ·split
   ·rename_i h1 h2
    rw[show drop h.blk (x::r)=r by
     unfold drop;rw[qTh,qPt (by simp[h2])];exact hd (fun y a=>by have:=hr.head y a;omega)]
   ·rename_i h1 h2
    rw[show drop h.blk (x::r)=x::r by
     exact qI9 _ _ (fun y a=>by
      rcases qP7.1 a with rfl|a
      ·exact h2
      ·have:=hr.head y a;omega)]
theorem Apart.drop {l:List Hd} (h:Apart l) (b:Int):Apart (drop b l):=List.Pairwise.filter _ h
theorem qMf {l m:List Hd} (h:l.Perm m) (a:Apart m):Apart l:=(qUj (fun h=>qQ2 h) h).2 a
theorem Apart.put {l:List Hd} (a:Apart l) (d:qId l) (h:Hd) (c:∀x∈l,x.st≠h.st):Apart (put h l):=
 qMf (qK4 h l d) (qQ1.2 ⟨fun x e=>qQ2 (c x (qI1.1 e).1),a.drop _⟩)
theorem Good.put {l:List Hd} (j:Good clock l) (o:0<=clock) (b:Int) (i:0<=b) (t:ByteArray):Good (clock+1) (put ⟨b,clock+1,t⟩ l):=by
 obtain⟨d,c,h⟩:=j;refine⟨fun x a=> ?_,c.put _,h.put c _ (fun x a=> ?_)⟩
 ·rcases(qIs _ l c x).1 a with rfl|⟨a,_⟩
  ·exact⟨i,by show 1<=clock+1;omega,by show clock+1<=clock+1;omega⟩
  ·obtain⟨e,f,m⟩:=d x a;exact⟨e,f,za⟩
 ·have:=(d x a).2.2;show x.st≠clock+1;omega
theorem Good.drop {l:List Hd} (a:Good clock l) (b:Int):Good clock (drop b l):=
 ⟨fun x c=>a.1 x (qI1.1 c).1,a.2.1.drop b,a.2.2.drop b⟩
theorem qKa {c:Sh} (j:Right c) (l:c.clock<qIf) (g b:Int) (i:0<=b) (t:ByteArray) (a:(kG (put ⟨b,c.clock+1,t⟩ (drop g c.held)):Int)<=c.room):Right (after c (drop g c.held) b t):=by
 obtain⟨d,e,f,m,o,h⟩:=j;exact⟨d,e,by show 0<=c.clock+1;omega,by show c.clock+1<=qIf;omega,a,(h.drop g).put f b i t⟩
theorem qL5 (h:Hd) (l:List Hd) (a:qId l):kG (put h l)<=kG l+1:=by
 rcases qIu h l a with⟨e,_⟩|⟨e,_⟩<;>omega
theorem qI7 {c:Sh} (a:Right c):drop (-1) c.held=c.held:=qI9 _ _ (fun x d=>by have:=(a.2.2.2.2.2.1 x d).1;omega)
theorem qK7 {c:Sh} (a:Right c):order c=(ord c.held).map Hd.blk:=by unfold order;rw[qPr ((zIu c).2 a)]
theorem qLq {l:List Hd} {x:Hd}:x∈ord l↔x∈l:=(qJd l).mem_iff
theorem qMm {c:Sh} (a:Right c) (b:Int):b∈order c↔∃h,find b c.held=qw h:=by
 rw[qK7 a,qQf];constructor
 ·rintro⟨x,i,rfl⟩;exact⟨x,qIr a.2.2.2.2.2.2.1 (qLq.1 i) rfl⟩
 ·rintro⟨h,f⟩;obtain⟨d,e⟩:=qIb f;exact⟨h,qLq.2 d,e⟩
theorem qKq {c:Sh} (a:Right c):kG (order c)=kG c.held:=by rw[qK7 a,qQi,qJr]
theorem qKt {c:Sh} (h:¬(find b c.held=qx/\(kG c.held:Int)=c.room)):goes c b= -1:=by
 unfold goes;rw[qPt];rintro⟨a,d⟩;refine h ⟨?_,d⟩;cases hf:find b c.held with
 |none=>rfl
 |some x=>rw[hf]at a;cases a
theorem qMq {c:Sh} (a:Right c) (f:find b c.held=qx) (h:(kG c.held:Int)=c.room):∃hne:order c≠[],goes c b=(order c).getLast hne:=by
 have d:=qKq a;have hne:order c≠[]:=by
  intro e;rw[e]at d;simp at d;have:=a.1;omega
 refine⟨hne,?_⟩;unfold goes;rw[qPr ⟨by rw[f];rfl,h⟩,List.getLastD_eq_getLast?,List.getLast?_eq_some_getLast hne];rfl
theorem qNi {c:Sh} (f:Right c) (b:Int) (t:ByteArray):(kG (put ⟨b,c.clock+1,t⟩ (drop (goes c b) c.held)):Int)<=c.room:=by
 have i:=f.2.2.2.2.2.2.1;have l:=f.2.2.2.2.1;by_cases h:find b c.held=qx/\(kG c.held:Int)=c.room
 ·obtain⟨hne,m⟩:=qMq f h.1 h.2;have o:goes c b∈order c:=by rw[m];exact List.getLast_mem hne
  obtain⟨x,q⟩:=(qMm f _).1 o;obtain⟨d,a⟩:=qIb q;have u:kG (drop (goes c b) c.held)<kG c.held:=by
   unfold drop;refine List.length_filter_lt_length_iff_exists.2 ⟨x,d,by simp[a]⟩
  have:=qL5 ⟨b,c.clock+1,t⟩ _ (i.drop (goes c b));omega
 ·rw[qKt h,qI7 f];rcases qIu ⟨b,c.clock+1,t⟩ c.held i with⟨e,_⟩|⟨e,p⟩
  ·rw[e];exact l
  ·have:find b c.held=qx:=by
    cases hf:find b c.held with
    |none=>rfl
    |some x=>obtain⟨r,s⟩:=qIb hf;exact absurd s (p x r)
   have:¬(kG c.held:Int)=c.room:=fun j=>h ⟨this,j⟩;rw[e];omega
theorem qN9 {c:Sh} (d:Right c) (e:c.clock<qIf) (b:Int) (a:0<=b) (t:ByteArray):keep c b t=(goes c b,after c (drop (goes c b) c.held) b t,0):=by
 unfold keep;rw[qPr ⟨(zIu c).2 d,a⟩,qPt za]
theorem qL8 {c:Sh} (a:Right c) (d:c.clock<qIf) (b:Int) (e:0<=b) (t:ByteArray):Right (after c (drop (goes c b) c.held) b t):=qKa a d _ b e t (qNi a b t)
theorem take_len {c:Sh} (a:Right c) {h:Hd} (d:find b c.held=qw h) (t:ByteArray):(kG (put ⟨b,c.clock+1,t⟩ c.held):Int)<=c.room:=by
 obtain⟨i,j⟩:=qIb d;rcases qIu ⟨b,c.clock+1,t⟩ c.held a.2.2.2.2.2.2.1 with⟨e,_⟩|⟨e,f⟩
 ·rw[e];exact a.2.2.2.2.1
 ·exact absurd j (f h i)
theorem qLm {c:Sh} (a:Right c) {h:Hd} (d:find b c.held=qw h):0<=b:=by
 obtain⟨e,f⟩:=qIb d;rw[<-f];exact(a.2.2.2.2.2.1 h e).1
theorem qNz {c:Sh} (a:Right c) (e:c.clock<qIf) {h:Hd} (d:find b c.held=qw h):take c b=(h.txt,after c c.held b h.txt,0):=by
 unfold take;rw[qPr ((zIu c).2 a),d];simp only;rw[qPt za]
theorem qMh {c:Sh} (a:Right c) (d:find b c.held=qx):take c b=(⟨#[]⟩,zero,5):=by
 unfold take;rw[qPr ((zIu c).2 a),d]
theorem qLy {c:Sh} (a:Right c) (e:c.clock<qIf) {h:Hd} (d:find b c.held=qw h) (t:ByteArray):Right (after c c.held b t):=by
 have:=qKa a e (-1) b (qLm a d) t (by rw[qI7 a];exact take_len a d t);rwa[qI7 a]at this
theorem qKn {c:Sh} (a:Right c) (b:Int):((take c b).2.2=0/\∃h,find b c.held=qw h/\c.clock<qIf/\take c b=(h.txt,after c c.held b h.txt,0))\/((take c b).2.2≠0/\(find b c.held=qx\/c.clock=qIf)):=by
 cases hf:find b c.held with
 |none=>rw[qMh a hf];exact .inr ⟨z8,.inl rfl⟩
 |some h=>
  by_cases e:c.clock<qIf
  ·rw[qNz a e hf];exact .inl ⟨rfl,h,rfl,e,rfl⟩
  ·have f:=a.2.2.2.1;have d:c.clock=qIf:=za
   refine .inr ⟨?_,.inr d⟩;unfold take;rw[qPr ((zIu c).2 a),hf];simp only;rw[qPr d];decide
theorem qKs {c:Sh} (a:Right c) (b:Int) (d:0<=b) (t:ByteArray):((keep c b t).2.2=0/\c.clock<qIf/\(keep c b t).2.1=after c (drop (goes c b) c.held) b t)\/((keep c b t).2.2≠0/\c.clock=qIf):=by
 by_cases f:c.clock<qIf
 ·rw[qN9 a f b d t];exact .inl ⟨rfl,f,rfl⟩
 ·have h:=a.2.2.2.1;have e:c.clock=qIf:=za
  refine .inr ⟨?_,e⟩;unfold keep;rw[qPr ⟨(zIu c).2 a,d⟩,qPr e];decide
theorem qJq:∀(l:List Hd) (lo n:Int),qId l->(∀h∈l,lo<=h.blk/\h.blk<n)->lo<=n->(kG l:Int)<=n-lo
 |[],lo,n,_,_,h=>zq
 |x::l,lo,n,hr,hm,h=>by
  have c:=hm x zm;have:=qJq l (x.blk+1) n hr.tail (fun y a=>⟨by have:=hr.head y a;omega,(hm y (by simp[a])).2⟩) za;simp only[qP3];omega
def Has (c:Sh) (k:Nat):Prop:=∃h∈c.held,h.blk=(k:Int)
theorem qNk {c:Sh} (h:find (k:Int) c.held=qx):¬Has c k:=fun⟨x,d,a⟩=>qJ6 h x d a
theorem qLb {c:Sh} {x:Hd} (h:find (k:Int) c.held=qw x):Has c k:=⟨x,(qIb h).1,(qIb h).2⟩
theorem qLs {c:Sh} {l:List Hd} (e:qId l) (b:Nat) (t:ByteArray) (k:Nat):Has (after c l b t) k↔k=b\/∃h∈l,h.blk=(k:Int):=by
 unfold Has after;constructor
 ·rintro⟨x,a,d⟩;rcases(qIs _ l e x).1 a with rfl|⟨a,_⟩
  ·exact .inl (by simp only at d;omega)
  ·exact .inr ⟨x,a,d⟩
 ·rintro(rfl|⟨x,a,d⟩)
  ·exact⟨_,(qIs _ l e _).2 (.inl rfl),rfl⟩
  ·by_cases f:x.blk=(b:Int)
   ·exact⟨_,(qIs _ l e _).2 (.inl rfl),by simp only;omega⟩
   ·exact⟨x,(qIs _ l e _).2 (.inr ⟨a,f⟩),d⟩
structure SI (g:Nat->ByteArray) (n:Nat) (c:Sh):Prop where
 rgt:Right c
 held:∀h∈c.held,∃k:Nat,h.blk=(k:Int)/\k<n/\h.txt=g k
theorem SI.put {c:Sh} (h:SI g n c) {b:Nat} (d:b<n) (v:Int) (e:Right (after c (drop v c.held) b (g b))):SI g n (after c (drop v c.held) b (g b)):=by
 refine⟨e,fun x a=> ?_⟩;rcases(qIs _ _ (h.rgt.2.2.2.2.2.2.1.drop v) x).1 a with rfl|⟨a,_⟩
 ·exact⟨b,rfl,d,rfl⟩
 ·exact h.held x (qI1.1 a).1
theorem SI.take {c:Sh} (h:SI g n c) {b:Nat} (q:b<n) (o:(xH c (b:Int)).2.2=0):
  (xH c (b:Int)).1=g b/\SI g n (xH c (b:Int)).2.1/\(xH c (b:Int)).2.1.room=c.room/\(xH c (b:Int)).2.1.clock=c.clock+1/\(∀k,Has (xH c (b:Int)).2.1 k↔Has c k)/\Has c b/\(xH c (b:Int)).2.1.held.length=kG c.held:=by
 rcases qKn h.rgt (b:Int)with⟨_,x,f,s,r⟩|⟨p,_⟩
 ·obtain⟨l,y⟩:=qIb f;have w:x.txt=g b:=by
   obtain⟨k,z,_,m⟩:=h.held x l;have:k=b:=za
   rw[m,this]
  rw[r,w];have u:=qLy h.rgt s f (g b);have a:=h.rgt.2.2.2.2.2.2.1;have d:Right (after c (drop (-1) c.held) b (g b)):=by rw[qI7 h.rgt];exact u
  have j:=h.put q (-1) d;rw[qI7 h.rgt]at j;refine⟨rfl,j,rfl,rfl,fun k=> ?_,qLb f,?_⟩
  ·rw[qLs a];constructor
   ·rintro(rfl|i)
    ·exact qLb f
    ·exact i
   ·exact fun i=> .inr i
  ·rcases qIu ⟨(b:Int),c.clock+1,g b⟩ c.held a with⟨e,_⟩|⟨_,t⟩
   ·exact e
   ·exact absurd y (t x l)
 ·exact absurd o p
theorem SI.keep {c:Sh} (h:SI g n c) {b:Nat} (m:b<n) (j:(xK c (b:Int) (g b)).2.2=0):
  SI g n (xK c (b:Int) (g b)).2.1/\(xK c (b:Int) (g b)).2.1.room=c.room/\(xK c (b:Int) (g b)).2.1.clock=c.clock+1/\((n:Int)<=c.room->¬Has c b->(∀k,Has (xK c (b:Int) (g b)).2.1 k↔k=b\/Has c k)/\(xK c (b:Int) (g b)).2.1.held.length=kG c.held+1):=by
 rcases qKs h.rgt (b:Int) za (g b)with⟨_,q,o⟩|⟨l,_⟩
 ·rw[o];have a:=h.rgt.2.2.2.2.2.2.1;refine⟨h.put m _ (qL8 h.rgt q _ za _),rfl,rfl,fun y i=> ?_⟩;have r:=a.put ⟨(b:Int),c.clock+1,g b⟩;have d:kG (Cache.put ⟨(b:Int),c.clock+1,g b⟩ c.held)=kG c.held+1:=by
   rcases qIu ⟨(b:Int),c.clock+1,g b⟩ c.held a with⟨_,x,f,e⟩|⟨e,_⟩
   ·exact absurd ⟨x,f,e⟩ i
   ·exact e
  have s:=qJq _ 0 n r (fun x f=>by
   rcases(qIs _ _ a x).1 f with rfl|⟨f,_⟩
   ·exact⟨by simp only;omega,by simp only;omega⟩
   ·obtain⟨k,t,u,_⟩:=h.held x f;omega) za
  have p:goes c (b:Int)= -1:=qKt (fun w=>za);rw[p,qI7 h.rgt];exact⟨fun k=>qLs a b (g b) k,d⟩
 ·exact absurd j l
end Cache
namespace Kit
section
variable {P:Program} {ops:Array Oper} {Q:Exit->Act->qy->Prop} {md:Region.Mode} {D:List Nat} {S:qy->Prop} {ms:List Nat}
def zPp (n L:Nat):Nat:=kG ((yK n).filter fun i=> !L.testBit i)
theorem zQ9 {n L i:Nat} (hi:i<n) (m:L.testBit i=yE):zPp n L=zPp n (L|||1<<<i)+1:=by
 unfold zPp;have c:∀(l:List Nat),l.Nodup->i∈l->kG (l.filter fun j=> !L.testBit j)=kG (l.filter fun j=> !(L|||1<<<i).testBit j)+1:=by
  intro l
  induction l with
  |nil=>intro _ h;cases h
  |cons x l ih=>
   intro k g;have a:∀j,(L|||1<<<i).testBit j=(L.testBit j||yF (j=i)):=by
    intro j;rw[qR5,qTa,qTb];congr 1;exact decide_eq_decide.2 ⟨fun h=>h.symm,fun h=>h.symm⟩
   rcases qP7.1 g with rfl|g
   ·have f:i∉l:=(qSz.1 k).1;have b:(l.filter fun j=> !L.testBit j)=l.filter fun j=> !(L|||1<<<i).testBit j:=by
     refine List.filter_congr (fun j o=> ?_);have:j≠i:=fun e=>f (e▸o);rw[a,qP1 this,Bool.or_false]
    rw[qTh,qTh,a i,m,<-b];simp
   ·have:=ih (qSz.1 k).2 g;have d:x≠i:=fun e=>(qSz.1 k).1 (e▸g);rw[qTh,qTh,a x,qP1 d,Bool.or_false];split
    ·rw[qP3,qP3,this]
    ·exact this
 exact c _ qTw (qQm.2 hi)
def early (ms:List Nat):Bool:=(yK (kG ms)).all fun i=>decide ((ms.getD i 0)<2^i)
theorem qBp {L:Nat} (f:early ms=yD) (g:zA1 L ms 0=[]):∀i,i<kG ms->L.testBit i=yD:=by
 intro i
 induction i using Nat.strongRecOn with
 |_ i ih=>
  intro hi;cases hb:L.testBit i with
  |true=>rfl
  |false=>
   have c:=qPu hi;have d:ms[i]<2^i:=by
    have:=List.all_eq_true.1 f i (qQm.2 hi);rw[qPw,c]at this;simpa using this
   have:i∈zA1 L ms 0:=(zDd L ms 0 i).2 ⟨qQq _,hb,ms[i],by rw[Nat.sub_zero];exact c,zH6.2 (fun k b=>by
    have a:k<i:=by
     rcases qP8 k i with h|h
     ·exact h
     ·have e:ms[i]<2^k:=qQv d (qR8 za h);rw[Nat.testBit_lt_two_pow e]at b;cases b
    exact ih k a za)⟩
   rw[g]at this;cases this
theorem qAo (I:Nat->Act->qy->Prop) (t:early ms=yD)
  (r:∀L a w i m,I L a w->ms[i]? =qw m->L.testBit i=yE->(∀k,m.testBit k=yD->L.testBit k=yD)->∃o,ops[i]? =qw o/\Region.wanted o (yielded ops a.tmps)=yD/\Oper.wp P o a w (fun a' w'=>(w'=w\/D.contains i=yD\/S w')/\I (L|||1<<<i) a' w') Q)
  (q:∀L a w,I L a w->(∀i,i<kG ms->L.testBit i=yD)->Q .normal a w):
  ∀(f L:Nat) (a:Act) (w:qy),I L a w->zPp (kG ms) L=f->At_ P md ops Q D S ms f L a w:=by
 intro f
 induction f with
 |zero=>
  intro L a w p u;have hd:∀i,i<kG ms->L.testBit i=yD:=by
   intro i hi;cases g:L.testBit i with
   |true=>rfl
   |false=>have:=zQ9 hi g;omega
  refine qA5 ?_ (q L a w p hd);refine qUl.2 (fun j n=> ?_);obtain⟨_,g,m,l,_⟩:=(zDd L ms 0 j).1 n;have b:j<kG ms:=by
   rcases qP8 j (kG ms) with h|h
   ·exact h
   ·rw[List.getElem?_eq_none (by simpa using h)]at l;cases l
  rw[hd j b]at g;cases g
 |succ f ih=>
  intro L a w p u;refine⟨fun F z c=>⟨fun s=> ?_,fun j n=> ?_⟩⟩
  ·refine q L a w p (qBp t ?_);refine qUl.2 (fun j n=> ?_);have:=(c.ready F j).2 n;rw[s]at this;cases this
  ·obtain⟨_,g,m,l,d⟩:=(zDd L ms 0 j).1 ((c.ready F j).1 n);rw[Nat.sub_zero]at l;have b:j<kG ms:=by
    rcases qP8 j (kG ms) with h|h
    ·exact h
    ·rw[qQp h]at l;cases l
   obtain⟨o,x,y,e⟩:=r L a w j m p l g (zH6.1 d);unfold wpOp;simp only[x,y,qRw];left;refine Oper.wp_mono (fun a' w' h=> ?_) e;exact⟨h.1,(ih (L|||1<<<j) a' w' h.2 (by have:=zQ9 b g;omega)).out F _ (c.set n)⟩
end
end Kit
end Go.Proofs.YtppnakkaljbmbaaGreatDoor
