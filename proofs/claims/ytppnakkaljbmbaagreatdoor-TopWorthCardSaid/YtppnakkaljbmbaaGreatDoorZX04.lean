/- Steps of a proof; no condition beyond what each states. -/
import Derived.Test.YtppnakkaljbmbaaGreatDoorZX00
import Derived.Deep.WholeRow
import Derived.Laws.CopyOwn
import Derived.Lib.BytesEntry
import Derived.Test.YtppnakkaljbmbaaGreatDoorZX02
set_option linter.unusedVariables false
set_option linter.unusedSimpArgs false
set_option maxRecDepth 100000
set_option maxHeartbeats 8000000
open List renaming length->kG
open Go.Proofs.YtppnakkaljbmbaaGreatDoor.Kit renaming Src->yZ,Own->yg
open Go.RowKit
open Go.Proofs.Tryz
open Go.Value renaming int->qV,string->qW,slice->qX,pointer->qY,tuple->qZ,bool->qc
open Go.IntKind renaming i64->qj,u8->ql
open Go.Obj renaming cells->qm
open Go.Ending renaming returned->qp
open Option renaming some->qw,none->qx
open Go renaming World->qy,Value->qz,TypeId->yA,Addr->yB,Calls->yC,undef->yJ
open Bool renaming true->yD,false->yE
open Decidable renaming decide->yF
open Go.Proofs.Tryz renaming prog->yG
open Go.RowKit renaming Hid->yH,Below->yI
open List renaming range->yK,replicate->yL
open Go.RowKit.Below renaming refl->yN
namespace Go.Proofs.YtppnakkaljbmbaaGreatDoor
namespace Zr
open Bt
def digits (n:Nat):List Nat:=if h:n=0 then[]else(n-1)%2::digits ((n-1)/2)
termination_by n
decreasing_by omega
def number:List Nat->Nat
 |[]=>0
 |x::r=>2*number r+x+1
theorem zEu:digits 0=[]:=by unfold digits;rfl
theorem zFh {n:Nat} (h:0<n):digits n=(n-1)%2::digits ((n-1)/2):=by rw[digits,dif_neg za]
theorem zDk (n:Nat):number (digits n)=n:=by
 induction n using Nat.strongRecOn with
 |_ n ih=>
  rcases qQy n with h|h
  ·subst h;rw[zEu];rfl
  ·rw[zFh h,number,ih _ za];omega
theorem zD9 (n:Nat):∀x∈digits n,x<=1:=by
 induction n using Nat.strongRecOn with
 |_ n ih=>
  rcases qQy n with h|h
  ·subst h;rw[zEu];intro x a;cases a
  ·rw[zFh h];intro x a;rcases qP7.1 a with rfl|a
   ·omega
   ·exact ih _ za x a
theorem zIa (n:Nat):kG (digits n)<=n:=by
 induction n using Nat.strongRecOn with
 |_ n ih=>
  rcases qQy n with h|h
  ·subst h;rw[zEu];exact qPq _
  ·rw[zFh h,qP3];have:=ih ((n-1)/2) za;omega
def row (t:Nat):List Nat->Nat
 |[]=>0
 |x::r=>if x<=t then row t r+1 else 0
theorem zQe (t:Nat):∀l,row t l<=kG l
 |[]=>qPq _
 |x::r=>by have:=zQe t r;unfold row;split<;>rw[qP3]<;>omega
theorem zM8 (t:Nat):∀(l m:List Nat),(∀x∈l,x<=t)->row t (l++m)=kG l+row t m
 |[],m,_=>by simp
 |x::r,m,h=>by
  rw[qQr,row,qPr (h x zm),zM8 t r m (fun y a=>h y (by simp[a])),qP3];omega
def enc:Nat->List Nat->List Nat
 |k,[]=>digits k
 |k,0::r=>enc (k+1) r
 |k,(x+1)::r=>digits k++(x+2)::enc 0 r
theorem qD5 (l:List Nat):∀k,enc k l=match l.drop (row 0 l)with
  |[]=>digits (k+row 0 l)
  |x::r=>digits (k+row 0 l)++(x+1)::enc 0 r:=by
 induction l with
 |nil=>intro k;simp[enc,row]
 |cons x l ih=>
  intro k;cases x with
  |zero=>
   rw[enc,ih (k+1),row,qPr (qPq _),List.drop_succ_cons,show k+1+row 0 l=k+(row 0 l+1)by omega]
  |succ x=>
   rw[enc,row,qPt za,qR3];simp
def dec:Nat->List Nat->List Nat
 |0,_=>[]
 |f+1,m=>if m=[]then[]else
  yL (number (m.take (row 1 m))) 0++match m.drop (row 1 m)with
   |[]=>[]
   |x::r=>(x-1)::dec f r
theorem zJz:∀(l:List Nat) (k:Nat),kG (enc k l)<=k+kG l
 |[],k=>by rw[enc];exact zIa k
 |0::r,k=>by have:=zJz r (k+1);rw[enc,qP3];omega
 |(x+1)::r,k=>by
  have:=zJz r 0;have:=zIa k;rw[enc,qPx,qP3,qP3];omega
theorem zNs:∀(l:List Nat) (k f:Nat),kG (enc k l)<=f->dec f (enc k l)=yL k 0++l
 |[],k,f,h=>by
  rw[enc]at h⊢;cases f with
  |zero=>
   have a:=qQz (Nat.le_zero.1 h);have:=zDk k;rw[a]at this;have b:k=0:=by rw[<-this];rfl
   subst b;rfl
  |succ f=>
   rw[dec];split
   ·rename_i a
    have:=zDk k;rw[a]at this;have b:k=0:=by rw[<-this];rfl
    subst b;rfl
   ·have c:row 1 (digits k)=kG (digits k):=by
     have:=zM8 1 (digits k) [] (zD9 k);simpa [row]using this
    rw[c,qTg,zDk,List.drop_length]
 |0::r,k,f,h=>by
  rw[enc]at h⊢;rw[zNs r (k+1) f h,qUc];simp
 |(x+1)::r,k,f,h=>by
  rw[enc]at h⊢;rw[qPx,qP3]at h;obtain⟨f',rfl⟩:∃f',f=f'+1:=⟨f-1,za⟩;have c:row 1 (digits k++(x+2)::enc 0 r)=kG (digits k):=by
   rw[zM8 1 _ _ (zD9 k),row,qPt za];omega
  rw[dec,qPt zm,c,List.take_left' rfl,List.drop_left' rfl,zDk];simp only;rw[zNs r 0 f' za];simp
theorem zNq:∀(l:List Nat) (k:Nat) (b:Nat),(∀x∈l,x<b)->1<=b->∀y∈enc k l,y<=b
 |[],k,b,_,h1,y,a=>by rw[enc]at a;have:=zD9 k y a;omega
 |0::r,k,b,h,h1,y,a=>by rw[enc]at a;exact zNq r (k+1) b (fun x c=>h x (by simp[c])) h1 y a
 |(x+1)::r,k,b,h,h1,y,a=>by
  rw[enc]at a;rcases qSi.1 a with a|a
  ·have:=zD9 k y a;omega
  ·rcases qP7.1 a with rfl|a
   ·have:=h (x+1) zm;omega
   ·exact zNq r 0 b (fun z d=>h z (by simp[d])) h1 y a
theorem zRo:∀(f g:Nat) (m:List Nat),kG m<=f->f<=g->dec g m=dec f m
 |0,g,m,h,_=>by
  have a:=qQz (Nat.le_zero.1 h);subst a;cases g with
  |zero=>rfl
  |succ g=>simp[dec]
 |f+1,g,m,h,hg=>by
  obtain⟨g',rfl⟩:∃g',g=g'+1:=⟨g-1,za⟩;rw[dec,dec];split
  ·rfl
  ·congr 1
   match hm:m.drop (row 1 m)with
   |[]=>rfl
   |x::r=>
    simp only;have b:=qPs List.length hm;rw[qQn,qP3]at b;rw[zRo f g' r za za]
def steps (a n:Nat):List Bool:=(yL (n-a) [yD,yE]).flatten++(yL (a-n) [yD,yD]).flatten++[yE]
def del:Nat->List Nat->List Bool
 |_,[]=>[]
 |now,n::r=>steps now n++del n r
def delta (l:List Nat):List Bool:=num (l.headD 0) 5++del (l.headD 0) l
def qCp (p:List Nat) (at_:Nat):List Nat:=p.getD at_ 0::(p.take at_++p.drop (at_+1))
def unary (n:Nat):List Bool:=yL n yD++[yE]
def sel:List Nat->List Nat->List Bool
 |_,[]=>[]
 |p,c::r=>unary (p.idxOf c)++sel (qCp p (p.idxOf c)) r
end Zr
namespace Front
variable {c:UInt8}
abbrev T:=List UInt8
def right (l:T):Bool:=decide l.Nodup
def mtf (l:T) (c:UInt8):T:=c::l.erase c
def bring (l:T) (k:Nat):T:=l.getD k 0::l.eraseIdx k
def zEn (a s:T):T:=s.foldl mtf a
def zB4:T->T->List Nat
 |_,[]=>[]
 |a,c::s=>a.idxOf c::zB4 (mtf a c) s
def all (a s:T):Bool:=s.all fun c=>decide (c∈a)
def unp:T->List Nat->T
 |_,[]=>[]
 |a,k::l=>a.getD k 0::unp (bring a k) l
def unf (a:T) (l:List Nat):T:=l.foldl bring a
theorem zIu (l:T):right l=yD↔l.Nodup:=by simp[right]
theorem qL1 (l:T) (c:UInt8) (h:l.Nodup):right (l++[c])= !decide (c∈l):=by
 rw[qSg,zIu];rw[List.nodup_append];simp[h];constructor
 ·intro a d;exact a c d rfl
 ·intro a x e b;subst b;exact a e
theorem zTu {l:T} (h:c∈l) (x:UInt8):x∈mtf l c↔x∈l:=by
 unfold mtf;by_cases a:x=c
 ·subst a;simp[h]
 ·simp[a]
theorem zH2 {l:T} (h:c∈l):kG (mtf l c)=kG l:=by
 unfold mtf;rw[qP3,List.length_erase_of_mem h];have:=List.length_pos_of_mem h;omega
theorem erase_eq (l:T) (c:UInt8) (h:c∈l):l.erase c=l.eraseIdx (l.idxOf c):=by
 rw[List.erase_eq_eraseIdx_of_idxOf (i:=l.idxOf c) rfl]
theorem zMl (l:T) (c:UInt8) (h:c∈l):l.getD (l.idxOf c) 0=c:=by
 have a:=List.idxOf_lt_length_of_mem h;rw[List.getD,qPu a,qQ4,List.getElem_idxOf]
theorem zOq (l:T) (c:UInt8) (h:c∈l):mtf l c=bring l (l.idxOf c):=by
 unfold mtf bring;rw[zMl l c h,erase_eq l c h]
theorem zF6 (l:T) (k:Nat) (a:k<kG l):l.getD k 0∈l:=by
 rw[List.getD,qPu a,qQ4];exact qQ a
theorem zD6 (l:T) (k:Nat) (a:k<kG l):kG (bring l k)=kG l:=by
 unfold bring;rw[qP3,List.length_eraseIdx_of_lt a];omega
theorem all_cons (a:T) (c:UInt8) (s:T):all a (c::s)=(yF (c∈a)&&all a s):=rfl
theorem qBo (a s:T) (c:UInt8):all a (s++[c])=(all a s&&yF (c∈a)):=by simp[all]
theorem zUa (a s:T):all a s=yD↔∀c∈s,c∈a:=by simp[all]
theorem zK {a:T} (h:c∈a) (s:T):all (mtf a c) s=all a s:=by
 unfold all;congr 1;funext x;simp[zTu h]
theorem zX3 (a s:T) (c:UInt8):zEn a (s++[c])=mtf (zEn a s) c:=by unfold zEn;rw[qTe];rfl
theorem zKg:∀(a s t:T),zB4 a (s++t)=zB4 a s++zB4 (zEn a s) t
 |a,[],t=>rfl
 |a,c::s,t=>by rw[qQr,zB4,zB4,zKg (mtf a c) s t];rfl
theorem zW5 (a s:T) (c:UInt8):zB4 a (s++[c])=zB4 a s++[(zEn a s).idxOf c]:=by rw[zKg];rfl
theorem zDi:∀(a s:T),kG (zB4 a s)=kG s
 |_,[]=>rfl
 |a,c::s=>by rw[zB4,qP3,zDi (mtf a c) s];rfl
theorem zLi:∀(s a:T),all a s=yD->∀x,x∈zEn a s↔x∈a
 |[],a,_,x=>Iff.rfl
 |c::s,a,h,x=>by
  rw[all_cons,qQ7,qRl]at h;have b:=zLi s (mtf a c) (by rw[zK h.1];exact h.2) x;show x∈zEn (mtf a c) s↔_;rw[b,zTu h.1]
theorem zKp:∀(s a:T),all a s=yD->kG (zEn a s)=kG a
 |[],a,_=>rfl
 |c::s,a,h=>by
  rw[all_cons,qQ7,qRl]at h;show(zEn (mtf a c) s).length=_;rw[zKp s (mtf a c) (by rw[zK h.1];exact h.2),zH2 h.1]
theorem zPx:∀(s a:T),all a s=yD->unp a (zB4 a s)=s
 |[],_,_=>rfl
 |c::s,a,h=>by
  rw[all_cons,qQ7,qRl]at h;rw[zB4,unp,zMl a c h.1,<-zOq a c h.1,zPx s (mtf a c) (by rw[zK h.1];exact h.2)]
theorem zNb:∀(s a:T),all a s=yD->∀k∈zB4 a s,k<kG a
 |[],_,_,k,b=>by simp[zB4]at b
 |c::s,a,h,k,b=>by
  rw[all_cons,qQ7,qRl]at h;rw[zB4,qP7]at b;rcases b with rfl|b
  ·exact List.idxOf_lt_length_of_mem h.1
  ·have:=zNb s (mtf a c) (by rw[zK h.1];exact h.2) k b;rwa[zH2 h.1]at this
theorem zLy:∀(l m:List Nat) (a:T),unp a (l++m)=unp a l++unp (unf a l) m
 |[],m,a=>rfl
 |k::l,m,a=>by rw[qQr,unp,unp,zLy l m];rfl
theorem zY0 (a:T) (l:List Nat) (k:Nat):unp a (l++[k])=unp a l++[(unf a l).getD k 0]:=by rw[zLy];rfl
theorem zY2 (a:T) (l:List Nat) (k:Nat):unf a (l++[k])=bring (unf a l) k:=by unfold unf;rw[qTe];rfl
theorem zLz:∀(l:List Nat) (a:T),(∀k∈l,k<kG a)->kG (unf a l)=kG a
 |[],_,_=>rfl
 |k::l,a,h=>by
  have b:=h k zm;show(unf (bring a k) l).length=_;rw[zLz l (bring a k) (fun j d=>by rw[zD6 a k b];exact h j (by simp[d])),zD6 a k b]
theorem zLx:∀(l:List Nat) (a:T),kG (unp a l)=kG l
 |[],_=>rfl
 |k::l,a=>by rw[unp,qP3,zLx l];rfl
def qJw (a:T) (c:UInt8):T:=if kG a<30/\¬c∈a then a++[c]else a
def alpha (s:T):T:=s.foldl qJw []
theorem qLo {a:T} (c:UInt8) (h:a.Nodup):(qJw a c).Nodup:=by
 unfold qJw;split
 ·rename_i h1
  have:=(zIu (a++[c])).1 (by rw[qL1 a c h];simp[h1.2]);exact this
 ·exact h
theorem qM1 (a:T) (c:UInt8) (h:kG a<=30):kG (qJw a c)<=30:=by
 unfold qJw;split
 ·rw[qPx];simp;omega
 ·exact h
theorem qK:∀(s a:T),a.Nodup->(s.foldl qJw a).Nodup
 |[],_,h=>h
 |c::s,a,h=>qK s _ (qLo c h)
theorem qKu:∀(s a:T),kG a<=30->kG (s.foldl qJw a)<=30
 |[],_,h=>h
 |c::s,a,h=>qKu s _ (qM1 a c h)
theorem zS7 (s:T):(alpha s).Nodup:=qK s [] List.nodup_nil
theorem zPe (s:T):kG (alpha s)<=30:=qKu s [] zm
@[irreducible] def pk (c n:Int):Int:=if c<0 then-(c+1)%n else c%n
theorem qH (c n:Int) (h:1<=n):0<=pk c n:=by
 unfold pk;split<;>exact Int.emod_nonneg _ za
theorem qHa (c n:Int) (h:1<=n):pk c n<n:=by
 unfold pk;split<;>exact Int.emod_lt_of_pos _ za
def text (a:T) (b:List Int):T:=if a=[]then[]else b.map fun r=>a.getD (pk r (kG a:Int)).toNat 0
def zDp (l:T) (c:UInt8):Int:=if c∈l then(l.idxOf c:Int)else-1
theorem zGl (l:T) (k:Nat) (d:k<kG l):(l.take (k+1)).Nodup↔(l.take k).Nodup/\¬l[k]∈l.take k:=by
 rw[qQo d,List.nodup_append];simp;intro _;constructor
 ·intro a b;exact a _ b rfl
 ·intro a x f e;subst e;exact a f
theorem zGw (l:T) (k:Nat) (d:k<kG l) (h:l[k]∈l.take k):right l=yE:=by
 rw[Bool.eq_false_iff];intro a;rw[zIu]at a;have b:(l.take (k+1)).Nodup:=a.sublist (List.take_sublist _ _);exact((zGl l k d).1 b).2 h
def codeF (a s:T):Int:=if right a=yD then(if all a s=yD then 0 else 5)else 1
def zFw (a s:T):List Nat:=if codeF a s=0 then zB4 a s else[]
def zN (a s:T):T:=if codeF a s=0 then zEn a s else[]
theorem zYd (a s:T) (h:right a=yE):codeF a s=1:=by unfold codeF;rw[h];rfl
theorem zVg (a s:T) (h:right a=yD) (b:all a s=yE):codeF a s=5:=by unfold codeF;rw[h,b];rfl
theorem zRr (a s:T) (h:right a=yD) (b:all a s=yD):codeF a s=0:=by unfold codeF;rw[h,b];rfl
theorem zQm (a s:T) (h:codeF a s=0):zFw a s=zB4 a s:=by unfold zFw;rw[qPr h]
theorem zQl (a s:T) (h:¬codeF a s=0):zFw a s=[]:=by unfold zFw;rw[qPt h]
theorem qCz (a s:T) (h:codeF a s=0):zN a s=zEn a s:=by unfold zN;rw[qPr h]
theorem zQn (a s:T) (h:¬codeF a s=0):zN a s=[]:=by unfold zN;rw[qPt h]
def inR (n:Nat) (l:List Int):Bool:=l.all fun x=>decide (0<=x/\x<(n:Int))
def zBs (l:List Int):List Nat:=l.map Int.toNat
def zC3 (a:T) (l:List Int):Int:=if right a=yD then(if inR (kG a) l=yD then 0 else 5)else 1
def zIv (a:T) (l:List Int):T:=if zC3 a l=0 then unp a (zBs l)else[]
theorem zYe (a:T) (l:List Int) (h:right a=yE):zC3 a l=1:=by unfold zC3;rw[h];rfl
theorem zVh (a:T) (l:List Int) (h:right a=yD) (b:inR (kG a) l=yE):zC3 a l=5:=by unfold zC3;rw[h,b];rfl
theorem zRs (a:T) (l:List Int) (h:right a=yD) (b:inR (kG a) l=yD):zC3 a l=0:=by unfold zC3;rw[h,b];rfl
theorem zTj (a:T) (l:List Int) (h:zC3 a l=0):zIv a l=unp a (zBs l):=by unfold zIv;rw[qPr h]
theorem zK7 (a:T) (l:List Int) (h:¬zC3 a l=0):zIv a l=[]:=by unfold zIv;rw[qPt h]
theorem qAr (n:Nat) (l:List Int) (x:Int):inR n (l++[x])=(inR n l&&yF (0<=x/\x<(n:Int))):=by simp[inR]
theorem zNo (n:Nat) (l:List Int):inR n l=yD↔∀x∈l,0<=x/\x<(n:Int):=by simp[inR]
theorem zOp (l:List Int) (x:Int):zBs (l++[x])=zBs l++[x.toNat]:=by simp[zBs]
theorem qC8 (n:Nat) (l:List Int) (h:inR n l=yD):∀k∈zBs l,k<n:=by
 intro k a;obtain⟨x,b,rfl⟩:=qQf.1 a;have:=(zNo n l).1 h x b;omega
theorem qC7 (l:List Nat):zBs (l.map fun k:Nat=>(k:Int))=l:=by unfold zBs;rw[qRr];conv=>{rhs;rw[<-List.map_id l]};exact qRx fun x _=>by simp
theorem qF0 (n:Nat) (l:List Nat) (h:∀k∈l,k<n):inR n (l.map fun k:Nat=>(k:Int))=yD:=by
 rw[zNo];intro x b;obtain⟨k,a,rfl⟩:=qQf.1 b;have:=h k a;omega
end Front
namespace Front
theorem zBw {k:IntKind} {a b:Int} (h:a=b):Ending.returned (qV k a)=qp (qV k b):=by rw[h]
theorem zQi {a b:Bool} (h:a=b):Ending.returned (qc a)=qp (qc b):=by rw[h]
theorem zLo (x y:UInt8):((x.toNat:Int)==(y.toNat:Int))=yF (x=y):=by
 rw[qSg,qSr,qRl];exact⟨fun h=>UInt8.toNat_inj.1 za,fun h=>by rw[h]⟩
theorem zAl (s:ByteArray):kG s.data.toList=s.size:=by simp
theorem zLh (s:ByteArray) (k:Nat) (h:k<s.size):s.data.toList[k]'(by rw[zAl];exact h)=s[k]:=rfl
@[irreducible] def had (l:T) (i:Nat):qz:=qc (yF (UInt8.ofNat i∈l))
@[irreducible] def zEm (l:T):Array qz:=((yK 256).map (had l)).toArray
theorem zXw (l:T):(zEm l).size=256:=by simp[zEm]
theorem qAv (l:T) (x:UInt8):(zEm l)[x.toNat]? =qw (qc (yF (x∈l))):=by
 have:=x.toNat_lt;have h:x.toNat<256:=za
 simp[zEm,had,h]
theorem qAu (l:T) (x:UInt8):(zEm l).setIfInBounds x.toNat (qc yD)=zEm (l++[x]):=by
 apply Array.ext
 ·simp[zEm]
 ·intro i c a;have b:i<256:=by simpa [zEm]using a
  rw[Array.getElem_setIfInBounds]
  ·split
   ·rename_i h;subst h;simp[zEm,had]
   ·rename_i h
    have hne:¬UInt8.ofNat i=x:=by
     intro e;apply h;rw[<-e];simp;omega
    simp[zEm,had,hne]
  ·simpa [zEm]using b
theorem zV2 (w:qy):(zeroValue 146).run yG w= .ok (.agg (zEm [])) w:=by
 kernel_rfl
theorem zGf (s:ByteArray) (j:s.size<=maxLen) (w:qy):
  yC yG 111 #[qW s] w fun e w'=>e=qp (qc (right s.data.toList))/\yI w.heap.size w w':=by
 unfold maxLen at j;have p:=zV2;go_enter func111,ntmps111;go_wp2;go_loopw [7] (fun i wr=>∃k:Nat,k<=s.size/\i=qV qj k/\wr=w.alloc (qm (zEm (s.data.toList.take k)) 146)/\(s.data.toList.take k).Nodup) (fun i _=>s.size-(intOf i).toNat)
 case atStart=>exact⟨0,za,rfl,rfl,zm⟩
 case round=>
  obtain⟨k,o,rfl,rfl,b⟩:=hrel;have c:=zH b;clear b;by_cases a:k<s.size
  ·have g:=qAv (s.data.toList.take k) s[k];have n:=zXw (s.data.toList.take k);have m:(s[k].toNat:Int)<256:=by have:=s[k].toNat_lt;omega
   have l:(0:Int)<=(s[k].toNat:Int):=za
   by_cases d:s[k]∈s.data.toList.take k
   ·rw[qP9 d]at g;have f:=zH d;clear d;go_wp2;go_ret;exact⟨zQi (zGw _ k (by rw[zAl];exact a) f.out).symm,(yN _ _).alloc (qPq _) _⟩
   ·rw[qP1 d]at g;have f:=zH d;clear d;go_wp2;go_roundw
    case rel=>
     refine⟨k+1,za,by go_num,?_,(zGl _ k (by rw[zAl];exact a)).2 ⟨c.out,f.out⟩⟩;rw[qAu,qQo (by rw[zAl];exact a)];rfl
    case measure=>simp[intOf];omega
  ·go_wp2;go_ret;refine⟨zQi ?_,(yN _ _).alloc (qPq _) _⟩;have h:=c.out;rw[qQg (by rw[zAl];omega)]at h;exact((zIu _).2 h).symm
end Front
namespace Front
open Kit (zAe)
variable {w w' a b:qy} {g B:Nat} {row:Option Nat}
def Byt (w:qy) (g:Nat) (l:T):Prop:=g<w.heap.size/\(∀j,j<kG l->w.cell? ⟨g,j,qx⟩=qw (zAe (l.getD j 0)))/\∀j,j<kG l->w.frozen? ⟨g,j,qx⟩=yE
theorem Byt.below {l:T} (h:Byt w g l) (c:yI B w w') (e:g<B):Byt w' g l:=
 ⟨by have:=h.1;have:=c.size;omega,fun j d=>by rw[c.cell (p:=⟨g,j,qx⟩) e];exact h.2.1 j d,fun j d=>by rw[c.frozen (p:=⟨g,j,qx⟩) e];exact h.2.2 j d⟩
theorem Byt.grown {l:T} (h:Byt w g l) (d:w.grownBy w' row) (f:qw g≠row):Byt w' g l:=by
 have e:=d.block g h.1 f;exact⟨by have:=h.1;have:=d.size;omega,fun j c=>by rw[qRe (w:=w) (a:=⟨g,j,qx⟩) e];exact h.2.1 j c,fun j c=>by rw[qTo (w:=w) (a:=⟨g,j,qx⟩) e];exact h.2.2 j c⟩
theorem getD_at (l:T) (j:Nat) (h:j<kG l):l.getD j 0=l[j]:=by rw[List.getD,qPu h,qQ4]
theorem Byt.src {l:T} (h:Byt w g l):yZ w (qw ⟨g,0,qx⟩) (l.map zAe):=by
 intro j u d;rw[qP2]at d;obtain⟨x,e,rfl⟩:=Option.map_eq_some_iff.1 d;obtain⟨c,rfl⟩:=qSj.1 e;exact⟨g,0,rfl,by rw[qQc,<-getD_at l j c];exact h.2.1 j c⟩
theorem Byt.new (w:qy) (t:ByteArray) (c e:Nat):Byt (w.drew.alloc (qm (bytesRow t c) e ((bytesRow t c).size,(bytesRow t c).size+1))) w.heap.size t.data.toList:=by
 refine⟨zm,fun j d=> ?_,fun j d=> ?_⟩
 ·have h:=World.cell?_alloc_mark w.drew (bytesRow t c) e ((bytesRow t c).size,(bytesRow t c).size+1) j;have a:j<t.data.size:=by simpa using d
  refine Eq.trans h ?_;rw[bytesRow_at t c j a,getD_at _ j d];rfl
 ·have h:=World.frozen?_alloc_mark w.drew (bytesRow t c) e (bytesRow t c).size ((bytesRow t c).size+1) j;refine Eq.trans h ?_;have a:j<t.data.size:=by simpa using d
  have:t.data.size<=(bytesRow t c).size:=by unfold bytesRow;simp
  have f:¬(bytesRow t c).size<=j:=za
  simp[f]
theorem zH7 (w:qy) (row:Option Nat):w.grownBy w row:=⟨rfl,rfl,rfl,qPq _,fun _ _ _=>rfl⟩
theorem zCd {c:qy} (h:a.grownBy b row) (k:b.grownBy c row):a.grownBy c row:=
 ⟨k.os.trans h.os,k.tape.trans h.tape,k.output.trans h.output,qP4 h.size k.size,fun i hi d=>(k.block i (by have:=h.size;omega) d).trans (h.block i hi d)⟩
theorem zMj (h:a.grownBy b row):a.grownBy b.drew row:=⟨h.os,h.tape,h.output,h.size,h.block⟩
theorem zKm (h:a.grownBy b row) (o:Obj):a.grownBy (b.alloc o) row:=zCd h (qR4 b o row)
theorem zBv (w:qy) (g j:Nat) (v:qz):w.grownBy (w.setCell ⟨g,j,qx⟩ v) (qw g):=
 ⟨rfl,rfl,rfl,by simp[World.setCell],fun k d c=>Below.heap_setCell _ _ _ _ (fun e=>c (by rw[e]))⟩
theorem zFf (g:Nat):∀(c:List qz) (o:Nat) (w:qy),w.grownBy (w.setCells g o c) (qw g)
 |[],_,w=>zH7 w _
 |v::r,o,w=>zCd (zBv w g o v) (zFf g r (o+1) _)
theorem zCi (h:w.grownBy w' (qw g)) (e:B<=g) (d:B<=w.heap.size):yI B w w':=
 (yN _ _).grown h d (fun k c=>by injection c with c;omega)
theorem zRc (l:T) (c:UInt8):Lib.indexByte l c=zDp l c:=by
 induction l with
 |nil=>rfl
 |cons x l ih=>
  rw[Lib.indexByte];by_cases h:x=c
  ·subst h;unfold zDp;simp
  ·have j:(x==c)=yE:=by simpa using h
   rw[j];simp only[Bool.false_eq_true,if_false];rw[ih];by_cases d:c∈l
   ·have e:zDp l c=(l.idxOf c:Int):=by unfold zDp;rw[qPr d]
    have f:zDp (x::l) c=((l.idxOf c+1:Nat):Int):=by
     unfold zDp;rw[qPr (List.mem_cons_of_mem _ d),List.idxOf_cons,j];rfl
    have:((l.idxOf c:Int)== -1)=yE:=by simp
    rw[e,f,this];simp
   ·have e:zDp l c= -1:=by unfold zDp;rw[qPt d]
    have f:zDp (x::l) c= -1:=by
     unfold zDp;rw[qPt];intro k;rcases qP7.1 k with i|i
     ·exact h i.symm
     ·exact d i
    rw[e,f];rfl
theorem zRu (l:T):Lib.bytesOf (l.map fun x=>(x.toNat:Int))=l:=by
 unfold Lib.bytesOf;rw[qRr]
 conv=>rhs;rw[<-List.map_id l]
 apply qRx;intro x _;simp
theorem zOw (w:qy) (g n d:Nat) (l:T) (c:UInt8) (j:kG l=n) (h:Byt w g l):
  yC yG 201 #[qX (qw ⟨g,0,qx⟩) n d,qV ql (c.toNat:Int)] w fun e w'=>e=qp (qV qj (zDp l c))/\w=w':=by
 have a:=Lib.run_indexByteSlice (P:=yG) w g 0 n d (l.map fun x=>(x.toNat:Int)) (by rw[qQi];exact j) (fun i hi=>by
  rw[qQc,h.2.1 i za,getD_at l i za];have f:i<kG (l.map fun x=>(x.toNat:Int)):=by rw[qQi];omega
  rw[List.getD,qPu f,qQ4,List.getElem_map];rfl) (c.toNat:Int)
 rw[zRu,show((c.toNat:Int).toNat.toUInt8)=c from zm,zRc]at a;go_enter func201,ntmps201;go_wp2;rw[run_callFunc_extern func259 zf zf zf (e:=Extern.BytealgIndexByte.indexByte) zf,a];simp only[Result.andThen];rw[Oper.upon_value];go_wp2;go_ret;exact⟨rfl,rfl⟩
theorem copy_eq {P:Program} {c:Array Oper} {rest:List Oper} {o:Oper} {a:Act} {Q:Exit->Act->qy->Prop} (j:Region.wanted o (yielded c a.tmps)=yD) (s x:Operand) (t:yA)
  (e:o.op= .call {callee:= .builtin .copy,args:= #[s,x],argTypes:= #[t,t]}) {v y v':qz} (i:a.eval s=v) (k:a.eval x=y)
  (f:(Builtin.copy_ #[t,t] o.type #[v,y]).run P w= .ok v' w') (h:wpList P c Q rest (a.put o.dst v') w'):wpList P c Q (o::rest) a w:=by
 refine BigFrame.wpList_want j fun K d=> ?_;unfold Oper.wp execOp;simp only[e,resolve,invoke,builtin,qRk,qSp,qS3,List.map_toArray,qQa,qSq,i,k,f];exact d _ _ h
theorem zVj (l:T) (k:Nat) (e:k<kG l) (j:Nat) (d:j<kG l):(bring l k).getD j 0=if j=0 then l.getD k 0 else if j<=k then l.getD (j-1) 0 else l.getD j 0:=by
 unfold bring;by_cases c:j=0
 ·subst c;rw[qPr rfl];rfl
 ·obtain⟨i,rfl⟩:∃i,j=i+1:=⟨j-1,za⟩;have hi:i<kG (l.eraseIdx k):=by rw[List.length_eraseIdx_of_lt e];omega
  rw[qPt c];show(l.eraseIdx k).getD i 0=_;rw[getD_at _ i hi,List.getElem_eraseIdx];split
  ·rw[qPr za,getD_at _ _ za];rfl
  ·rw[qPt za,getD_at _ _ d]
theorem Byt.brought {l:T} (h:Byt w g l) (k:Nat) (d:k<kG l):
  Byt ((w.setCells g 1 ((l.take k).map zAe)).setCell ⟨g,0,qx⟩ (zAe (l.getD k 0))) g (bring l k):=by
 have n:=zD6 l k d;have p:w.heap.size<=((w.setCells g 1 ((l.take k).map zAe)).setCell ⟨g,0,qx⟩ (zAe (l.getD k 0))).heap.size:=by
  have:=(zFf g ((l.take k).map zAe) 1 w).size;simpa [World.setCell]using this
 refine⟨by have:=h.1;omega,fun j m=> ?_,fun j m=> ?_⟩
 ·rw[zVj l k d j za];have b:∀i (hi:i<kG ((l.take k).map zAe)),(w.setCells g 1 ((l.take k).map zAe)).cell? ⟨g,1+i,qx⟩=qw ((l.take k).map zAe)[i]:=by
   refine World.cell?_setCells_in g _ 1 w fun i hi=> ?_;have o:i<k:=by simp at hi;omega
   rw[h.2.1 (1+i) za];rfl
  by_cases c:j=0
  ·subst c;rw[qPr rfl];have f:(w.setCells g 1 ((l.take k).map zAe)).cell? ⟨g,0,qx⟩=qw (zAe (l.getD 0 0)):=by
    rw[qUd g _ 1 w ⟨g,0,qx⟩ (fun _ _=> .inl zm),h.2.1 0 za]
   exact qRi _ _ _ f
  ·rw[qPt c];rw[qQe _ _ _ _ (by intro e;injection e with _ e2 _;omega)];by_cases a:j<=k
   ·rw[qPr a];obtain⟨i,rfl⟩:∃i,j=1+i:=⟨j-1,za⟩;have hi:i<kG ((l.take k).map zAe):=zq
    rw[b i hi,List.getElem_map,List.getElem_take,show 1+i-1=i from za,getD_at l i za]
   ·rw[qPt a,qUd g _ 1 w ⟨g,j,qx⟩ (fun _ _=> .inr zq),h.2.1 j za]
 ·have e:((w.setCells g 1 ((l.take k).map zAe)).setCell ⟨g,0,qx⟩ (zAe (l.getD k 0))).frozen? ⟨g,j,qx⟩=w.frozen? ⟨g,j,qx⟩:=by
   rw[qSx,World.frozen?_setCells]
  rw[e];exact h.2.2 j za
theorem zDo (w:qy) (g n d:Nat) (l:T) (k:Nat) (r:kG l=n) (q:k<n) (h:Byt w g l) (ty:yA):
  ∃a,a=(if d=1 then(⟨g,0,qx⟩:yB)else⟨g,1,qx⟩)/\(n<=d->(Builtin.copy_ #[109,109] ty #[qX (qw a) (n-1) (d-1),qX (qw ⟨g,0,qx⟩) k d]).run yG w= .ok (goInt k) (w.setCells g 1 ((l.take k).map zAe))):=by
 refine⟨_,rfl,fun p=> ?_⟩;have c:(prog.info? 5).map (·.size)=qw 1:=zf
 by_cases i:k=0
 ·subst i;have:=run_copy_none (P:=yG) w 109 109 ty 5 (qw (if d=1 then(⟨g,0,qx⟩:yB)else⟨g,1,qx⟩)) (qw ⟨g,0,qx⟩) (n-1) (d-1) 0 d underlying109 c (by show Nat.min 0 _=0;simp);exact this
 ·rw[qPt za];have b:kG ((l.take k).map zAe)=k:=zq
  have:=run_copy_cells (P:=yG) w 109 109 ty 5 g 1 (n-1) (d-1) ⟨g,0,qx⟩ k d ((l.take k).map zAe) underlying109 c (by rw[b];show k=min k (n-1);omega)
   (fun j v f=>by
    obtain⟨b',o,e,m⟩:=(h.src) j v (by
     rw[qP2]at f⊢;rw[qSb]at f;split at f
     ·exact f
     ·cases f)
    injection e with e
    injection e with e1 e2
    subst e1 e2;rw[Kit.addr_add];exact m)
   (fun j f=>by rw[h.2.1 (1+j) za];rfl) (fun j f=>h.2.2 (1+j) za) (Kit.zG _)
  rw[b]at this;exact this
end Front
namespace Front
open Kit (zAe)
theorem zPy (w:qy) (g n q:Nat) (l:T) (k:Nat) (Y:kG l=n) (hk:k<n) (Z:n<=q) (hm:q<=maxLen) (I:Byt w g l):
  yC yG 112 #[.agg #[qX (qw ⟨g,0,qx⟩) n q],qV qj (k:Int)] w fun e w'=>e=qp (qV ql ((l.getD k 0).toNat:Int))/\Byt w' g (bring l k)/\w.grownBy w' (qw g):=by
 unfold maxLen at hm;have o:k<kG l:=za
 obtain⟨x,N⟩:=zB (l.getD k 0);have u:=I.below (B:=w.heap.size) ((yN _ _).alloc (qPq _) (qm #[qX (qw ⟨g,0,qx⟩) n q] 150)) I.1;have d:Byt (w.alloc (qm #[qX (qw ⟨g,0,qx⟩) n q] 150)).drew g l:=u;obtain⟨W,L⟩:∃W,W=(w.alloc (qm #[qX (qw ⟨g,0,qx⟩) n q] 150)).drew:=⟨_,rfl⟩;rw[<-L]at d;obtain⟨a,X,j⟩:=zDo W g n q l k Y hk d 3;have m:=j Z;clear j;obtain⟨R,O⟩:=yQ m X;clear m X;have s:=I.2.1 k o;have r:=d.brought k o;have f:(W.setCells g 1 ((l.take k).map zAe)).cell? ⟨g,0,qx⟩=qw (zAe (l.getD 0 0)):=by
  rw[qUd g _ 1 W ⟨g,0,qx⟩ (fun _ _=> .inl zm),d.2.1 0 za]
 have i:(W.setCells g 1 ((l.take k).map zAe)).frozen? ⟨g,0,qx⟩=yE:=by
  rw[World.frozen?_setCells];exact d.2.2 0 za
 have K:(W.setCells g 1 ((l.take k).map zAe)).cell? ⟨w.heap.size,0,qx⟩=qw (qX (qw ⟨g,0,qx⟩) n q):=by
  rw[qUd g _ 1 W ⟨w.heap.size,0,qx⟩ (fun h _=>by have:=I.1;simp only at h;omega),L];simp
 have a1:=I.1;rw[N]at s r;have a0:w.cell? ⟨g,k,qx⟩=qw (qV ql (x.toNat:Int)):=s;obtain⟨HB,S,z⟩:=yR r N L;obtain⟨V,M⟩:∃V,V=W.setCells g 1 ((l.take k).map zAe):=⟨_,rfl⟩;rw[<-M]at f i K;obtain⟨y,F,t,P⟩:=yS M f i K;clear I u d N s Y o r L M f i K;have i1:(1:Int)<=(n:Int):=za
 have i2:(k:Int)<(n:Int):=za
 have i3:(k:Int)<=(q:Int):=za
 have i4:(n:Int)<=(q:Int):=za
 have i5:(0:Int)<=(k:Int):=za
 by_cases p:q=1
 ·have G:n=1:=za
  have H:k=0:=za
  subst p G H;go_enter func112,ntmps112;go_wp2;refine wp_region_still_tail 7 zf zf ?_;simp only[qSk,qTp,List.drop_succ_cons,qR3];change wpStill _ _ ((w.alloc (qm #[qX (qw ⟨g,0,qx⟩) 1 _] 150)).drew) _ _ _
  repeat still_step
  try refine wpStill_nil ?_
  have b:=R.out;simp only[O.out,qRw,z.out]at b;refine copy_eq rfl (.tmp 13) (.tmp 17) 109 rfl rfl rfl b ?_;have c:=y.out;rw[z.out]at c;rw[<-c];clear b c;have f:=F.out;have i:=t.out;have K:=P.out;go_wp2;go_ret;refine⟨by rw[S.out];rfl,?_,?_⟩
  ·rw[y.out];exact HB.out
  ·rw[y.out,z.out];exact zCd (zMj (zKm (zH7 _ _) _)) (zCd (zFf g _ 1 _) (zBv _ g 0 _))
 ·go_enter func112,ntmps112;go_wp2;refine wp_region_still_tail 7 zf zf ?_;simp only[qSk,qTp,List.drop_succ_cons,qR3];change wpStill _ _ ((w.alloc (qm #[qX (qw ⟨g,0,qx⟩) n _] 150)).drew) _ _ _
  repeat still_step
  try refine wpStill_nil ?_
  have b:=R.out;rw[O.out,qPt p,z.out]at b;refine copy_eq rfl (.tmp 13) (.tmp 17) 109 rfl rfl rfl b ?_;have c:=y.out;rw[z.out]at c;rw[<-c];clear b c;have f:=F.out;have i:=t.out;have K:=P.out;go_wp2;go_ret;refine⟨by rw[S.out];rfl,?_,?_⟩
  ·rw[y.out];exact HB.out
  ·rw[y.out,z.out];exact zCd (zMj (zKm (zH7 _ _) _)) (zCd (zFf g _ 1 _) (zBv _ g 0 _))
end Front
namespace Front
open Kit (zAe)
variable {w w':qy} {row:Option Nat} {p:yB} {B n c:Nat} {e:yA} {a:Option yB} {xs:List qz}
abbrev ival (n:Nat):qz:=qV qj (n:Int)
theorem zDr (l:List Nat):∀u∈l.map ival,u.oneCell'=yD:=by
 intro u b;obtain⟨x,_,rfl⟩:=qQf.1 b;rfl
theorem zFn:Kit.One yG 23 3 8:=⟨underlying23,qV qj 0,zf,rfl⟩
theorem cell_grown {v:qz} (d:w.grownBy w' row) (b:w.cell? p=qw v) (h:qw p.block≠row):w'.cell? p=qw v:=by
 have e:=d.block p.block (qQk b) h;rw[qRe (w:=w) (a:=p) e];exact b
theorem zF7 (b:w.grownBy w' row) (d:p.block<w.heap.size) (h:qw p.block≠row):w'.frozen? p=w.frozen? p:=by
 have e:=b.block p.block d h;rw[qTo (w:=w) (a:=p) e]
theorem zIx {g:Nat} (h:yg w B e a n c xs) (o:w.grownBy w' (qw g)) (q:g<B):yg w' B e a n c xs:=by
 obtain⟨m,l⟩:=h;refine⟨m,?_⟩;rcases l with l|⟨g',k,f,hv,j,d,r⟩
 ·exact .inl l
 ·refine .inr ⟨g',k,f,hv,j,?_,r⟩;have b:g'<w.heap.size:=by
   rcases qP8 g' w.heap.size with b|i
   ·exact b
   ·rw[qRj i]at d;cases d
  rw[o.block g' b (by intro e;injection e with e;omega),d]
theorem zNd (h:yg w B e a n c xs) (g j:Nat) (v:qz) (b:g<B):yg (w.setCell ⟨g,j,qx⟩ v) B e a n c xs:=
 zIx h (zBv w g j v) b
structure Tel (w:qy) (b g n cp B:Nat) (l:T) (ps:List Nat):Prop where
 byt:Byt w g l
 len:kG l=n
 ncp:n<=cp
 cpm:cp<=maxLen
 gB:g<B
 bB:b<B
 ne:g≠b
 BB:B<=w.heap.size
 bytes:w.cell? ⟨b,0,qx⟩=qw (qX (qw ⟨g,0,qx⟩) n cp)
 places:∃a c,yg w B 3 a (kG ps) c (ps.map ival)/\w.cell? ⟨b,1,qx⟩=qw (qX a (kG ps) c)
 free:w.frozen? ⟨b,1,qx⟩=yE
theorem zY8 (w:qy) (b g n cp B D:Nat) (l:T) (z:List Nat) (x:UInt8) (h:Tel w b g n cp B l z) (aa:kG z<1000000) (a5:D<=g) (a4:D<=b):
  yC yG 150 #[qY (qw ⟨b,0,qx⟩),qV ql (x.toNat:Int)] w fun e w'=>
   (¬x∈l/\e=qp (qc yE)/\w=w')\/(x∈l/\e=qp (qc yD)/\Tel w' b g n cp B (mtf l x) (z++[l.idxOf x])/\yI D w w'):=by
 have H:=zH h;have a8:=h.bytes;have r:=h.len;by_cases hx:x∈l
 ·have hp:zDp l x=(l.idxOf x:Int):=by unfold zDp;rw[qPr hx]
  have I:=List.idxOf_lt_length_of_mem hx;obtain⟨k,hk⟩:=zB (l.idxOf x);rw[hk]at hp I;obtain⟨hP,HK,HX⟩:=yR hp hk hx;have R:k<n:=za
  obtain⟨a,c,i,Z⟩:=h.places;have S:b<w.heap.size:=by have:=h.bB;have:=h.BB;omega
  have a9:=h.byt.1;obtain⟨a1,c1,y,a2,t,d⟩:=Kit.Own.app (ty:=23) (w:=w.alloc (qm #[qV qj (k:Int)] 3)) zFn (i.alloc _) (qw ⟨w.heap.size,0,qx⟩) 1 1 [ival k] (Kit.zAs w _ 3) rfl (fun h=>by cases h) (fun u hu=>by rw[qRm]at hu;subst hu;rfl) (by unfold maxLen;omega) za (by have:=h.BB;simp;omega);have j:∀q,q<B->qw q≠(Value.slice a (kG z) c).ownBlock:=fun q hq e=>by have:=(i.block) q e.symm;omega
  have P:y.cell? ⟨b,1,qx⟩=qw (qX a (kG z) c):=cell_grown d (cell_grown (qR4 w _ qx) Z zm) (j b h.bB);have O:y.cell? ⟨b,0,qx⟩=qw (qX (qw ⟨g,0,qx⟩) n cp):=cell_grown d (cell_grown (qR4 w _ qx) h.bytes zm) (j b h.bB);have V:y.frozen? ⟨b,1,qx⟩=yE:=by
   rw[zF7 d zq (j b h.bB),zF7 (qR4 w _ qx) (by exact S) zm];exact h.free
  have m:Byt y g l:=(h.byt.grown (qR4 w _ qx) zm).grown d (j g h.gB);have p:Byt (y.setCell ⟨b,1,qx⟩ (qX a1 (kG z+1) c1)) g l:=m.grown (zBv y b 1 _) (fun e=>h.ne (by injection e));have G:(y.setCell ⟨b,1,qx⟩ (qX a1 (kG z+1) c1)).cell? ⟨b,0,qx⟩=qw (qX (qw ⟨g,0,qx⟩) n cp):=by
   rw[qQe _ _ _ _ (by intro e;injection e with _ e2 _;omega)];exact O
  have o:(y.setCell ⟨b,1,qx⟩ (qX a1 (kG z+1) c1)).cell? ⟨b,1,qx⟩=qw (qX a1 (kG z+1) c1):=qRi _ _ _ P;have M:(y.setCell ⟨b,1,qx⟩ (qX a1 (kG z+1) c1)).frozen? ⟨b,1,qx⟩=yE:=by rw[qSx];exact V
  have a6:w.heap.size<=y.heap.size:=by have:=d.size;simp at this;omega
  have F:yI D w (y.setCell ⟨b,1,qx⟩ (qX a1 (kG z+1) c1)):=by
   refine Below.trans ((yN _ _).alloc za _) (Below.trans ((yN _ _).grown d zq (fun q hq=>by have:=i.block q hq;have:=h.gB;omega)) (zCi (zBv y b 1 _) a4 za))
  have L:∀q,(Value.slice a1 (kG z+1) c1).ownBlock=qw q->B<=q:=t.block;obtain⟨HO,HG,a3,Y,N,W,a7⟩:=yV t G o M F p L;clear t G o M F p m L d j i r I hp hk hx h;go_enter func150,ntmps150;go_wp2_with fail;refine(zOw _ g n cp l x H.out.len H.out.byt).mono ?_;rintro e w2 ⟨rfl,rfl⟩;rw[hP.out];go_wp2_with (at_builtin;refine Kit.zAr rfl (.tmp 19) (.tmp 21) 23 rfl rfl rfl a2 ?_);refine(zPy _ g n cp l k H.out.len R H.out.ncp H.out.cpm W.out).mono ?_;rintro e w3 ⟨rfl,s,K⟩;obtain⟨X,f⟩:=yQ s K;clear s K;go_wp2;go_ret;have hne:qw b≠qw g:=fun e=>H.out.ne (by injection e with e;exact e.symm);have ab:=f.out.size;have a0:(y.setCell ⟨b,1,qx⟩ (qX a1 (kG z+1) c1)).heap.size=y.heap.size:=by simp[World.setCell]
  refine .inr ⟨HX.out,rfl,?_,N.out.trans (zCi f.out a5 (by have:=H.out.BB;have:=H.out.gB;omega))⟩;refine{byt:= ?_,len:= ?_,ncp:=H.out.ncp,cpm:=H.out.cpm,gB:=H.out.gB,bB:=H.out.bB,ne:=H.out.ne,BB:= ?_,bytes:= ?_,places:= ?_,free:= ?_}
  ·rw[zOq l x HX.out,HK.out];exact X.out
  ·rw[zH2 HX.out];exact H.out.len
  ·have:=H.out.BB;omega
  ·exact cell_grown f.out HG.out hne
  ·rw[qPx,qQd,HK.out];exact⟨a1,c1,zIx (zNd HO.out b 1 _ H.out.bB) f.out H.out.gB,cell_grown f.out a3.out hne⟩
  ·rw[zF7 f.out (by rw[a0];show b<_;omega) hne];exact Y.out
 ·have hp:zDp l x= -1:=by unfold zDp;rw[qPt hx]
  obtain⟨hP,HX⟩:=yQ hp hx;clear h r hp hx;go_enter func150,ntmps150;go_wp2_with fail;refine(zOw _ g n cp l x H.out.len H.out.byt).mono ?_;rintro e y ⟨rfl,rfl⟩;rw[hP.out];go_wp2;go_ret;exact .inl ⟨HX.out,rfl,rfl⟩
end Front
namespace Front
open Kit (zAe)
variable {w w':qy} {B n c r:Nat} {e:yA} {xs:List qz} {u x y:qz}
theorem zLb (h:yg w B e qx n c xs):c=0:=by
 rcases h.2 with⟨a,_⟩|⟨g,b,d,hv,_⟩
 ·injection a
 ·injection hv with ha;cases ha
def AdF (a:Option yB) (n c:Nat):Prop:=(a=qx/\n=0/\c=0)\/(n<=c/\c<=9223372036854775807/\∃b off,a=qw ⟨b,off,qx⟩)
theorem AdF.zIz {a:Option yB} (h:yg w B e a n c xs):AdF a n c:=by
 obtain⟨_,f⟩:=h;rcases f with⟨f,l⟩|⟨g,i,j,hv,k,m,d,b,_⟩
 ·injection f with f h4 h5
  exact .inl ⟨f,h4,h5⟩
 ·injection hv with ha _ hc
  subst ha hc;exact .inr ⟨d,by unfold maxLen at b;omega,g,0,rfl⟩
structure Two (w:qy) (r:Nat):Prop where
 c0:w.cell? ⟨r,0,qx⟩=qw (qX qx 0 0)
 c1:w.cell? ⟨r,1,qx⟩=qw (qX qx 0 0)
 f0:w.frozen? ⟨r,0,qx⟩=yE
 f1:w.frozen? ⟨r,1,qx⟩=yE
 lt:r<w.heap.size
theorem Two.below (h:Two w r) (a:yI B w w') (b:r<B):Two w' r:=
 ⟨by rw[a.cell (p:=⟨r,0,qx⟩) b];exact h.c0,by rw[a.cell (p:=⟨r,1,qx⟩) b];exact h.c1,by rw[a.frozen (p:=⟨r,0,qx⟩) b];exact h.f0,by rw[a.frozen (p:=⟨r,1,qx⟩) b];exact h.f1,by have:=h.lt;have:=a.size;omega⟩
theorem Two.new (w:qy):Two (w.alloc (qm #[qX qx 0 0,qX qx 0 0] 152)) w.heap.size:=
 ⟨zm,zm,zm,zm,zm⟩
theorem Below.set2 {D:Nat} (h:yI D w w') (a:D<=r) (b:D<=w.heap.size) (u v:qz):yI D w ((w'.setCell ⟨r,0,qx⟩ u).setCell ⟨r,1,qx⟩ v):=
 h.trans ((zCi (zBv w' r 0 u) a (by have:=h.size;omega)).trans (zCi (zBv _ r 1 v) a (by have:=h.size;simp[World.setCell];omega)))
theorem qAh (w:qy) (r:Nat) (x y:qz) (a:w.cell? ⟨r,0,qx⟩=qw x) (b:w.cell? ⟨r,1,qx⟩=qw y):(loadVar 152 ⟨r,0,qx⟩).run yG w= .ok (.agg #[x,y]) w:=by
 simp[loadVar,go_sem,a,b]
theorem zGx (tmps:Array qz) (w:qy) (r:Nat) (e x y:qz) (d:tmps.getD 4 yJ=qY (qw ⟨r,0,qx⟩)) (f:tmps.getD 5 yJ=e) (a:w.cell? ⟨r,0,qx⟩=qw x) (b:w.cell? ⟨r,1,qx⟩=qw y):
  (results f77 tmps).run yG w= .ok (qZ #[.agg #[x,y],e]) w:=by
 rw[results_cell_tmp rfl,d,f];simp[asAddr,qAh w r x y a b,Result.andThen]
theorem zCy (h:w.cell? ⟨r,0,qx⟩=qw u):((w.setCell ⟨r,0,qx⟩ x).setCell ⟨r,1,qx⟩ y).cell? ⟨r,0,qx⟩=qw x:=by
 rw[qQe _ _ _ _ (by intro e;injection e with _ e2 _;omega)];exact qRi _ _ _ h
theorem zCx (h:w.cell? ⟨r,1,qx⟩=qw u):((w.setCell ⟨r,0,qx⟩ x).setCell ⟨r,1,qx⟩ y).cell? ⟨r,1,qx⟩=qw y:=
 qRi _ _ _ (u:=u) (by rw[qQe _ _ _ _ (by intro e;injection e with _ e2 _;omega)];exact h)
def zR6 (a s:T) (w:qy) (e:Ending) (w':qy):Prop:=
 yI w.heap.size w w'/\
 ((right a=yE/\e=qp (qZ #[.agg #[qX qx 0 0,qX qx 0 0],qV qj 1]))\/
  (right a=yD/\all a s=yE/\e=qp (qZ #[.agg #[qX qx 0 0,qX qx 0 0],qV qj 5]))\/
  (right a=yD/\all a s=yD/\∃g b p c,e=qp (qZ #[.agg #[qX (qw ⟨g,0,qx⟩) (kG a) b,qX p (kG s) c],qV qj 0])/\
   Byt w' g (zEn a s)/\yZ w' p ((zB4 a s).map ival)/\(p=qx->c=0)/\AdF p (kG s) c))
theorem zHo (a s:ByteArray) (ha:a.size<=1000) (hs:s.size<=1000) (w:qy):
  yC yG 77 #[qW a,qW s] w (zR6 a.data.toList s.data.toList w):=by
 obtain⟨q,hA⟩:∃q,q=w.alloc (qm #[qX qx 0 0,qX qx 0 0] 152):=⟨_,rfl⟩;have d:=run_bytes_of_string (P:=yG) q 9 109 5 a underlying9 underlying109 underlying5;have I:=grownCap_ge q a.size 0 5;have O:=grownCap_le_maxLen q a.size 0 5 (by unfold maxLen;omega);have c:=Byt.new q a (grownCap q a.size 0 5) 5;obtain⟨z,t⟩:=zB (grownCap q a.size 0 5);rw[t]at d I O c;obtain⟨wB,hB⟩:=zB (q.drew.alloc (qm (bytesRow a z) 5 ((bytesRow a z).size,(bytesRow a z).size+1)));rw[hB]at d c;have V:q.heap.size=w.heap.size+1:=by rw[hA];simp
 have j:wB.heap.size=w.heap.size+2:=by
  rw[<-hB];show(q.heap.push _).size=_;rw[Array.size_push];omega
 rw[V]at d c;have K:Two q w.heap.size:=by rw[hA];exact Two.new w
 have L:yI w.heap.size w q:=by rw[hA];exact(yN _ _).alloc (qPq _) _
 have F:yI (w.heap.size+1) q wB:=by rw[<-hB];exact(yN _ _).drew.alloc (by show _<=q.heap.size;omega) _
 obtain⟨wC,hC⟩:∃wC,wC=wB.alloc (qm #[qX (qw ⟨w.heap.size+1,0,qx⟩) a.size z,qX qx 0 0] 152):=⟨_,rfl⟩;have a6:wC.heap.size=w.heap.size+3:=by
  rw[hC];show(wB.heap.push _).size=_;rw[Array.size_push];omega
 have o:yI (w.heap.size+1) q wC:=by rw[hC];exact F.alloc za _
 have N:=K.below o za;have m:Byt wC (w.heap.size+1) a.data.toList:=by rw[hC];exact c.grown (qR4 _ _ qx) zm
 have M:wC.cell? ⟨w.heap.size+2,0,qx⟩=qw (qX (qw ⟨w.heap.size+1,0,qx⟩) a.size z):=by rw[hC,<-j];simp
 have G:wC.cell? ⟨w.heap.size+2,1,qx⟩=qw (qX qx 0 0):=by rw[hC,<-j];simp
 have H:wC.frozen? ⟨w.heap.size+2,1,qx⟩=yE:=by rw[hC,<-j];simp
 obtain⟨HB,HA,X,Y,H0,H1,HF⟩:=yV o L m N M G H;have R:=d;clear o L m N M G H c F K hB t;subst hA;go_enter func77,ntmps77;go_wp2_with fail;rw[<-hC];refine(zGf a (by unfold maxLen;omega) _).mono ?_;rintro e w1 ⟨rfl,b1⟩;clear d R;have a0:=Y.out.below b1 za;have u:yI (w.heap.size+1) (w.alloc (qm #[qX qx 0 0,qX qx 0 0] 152)) w1:=HB.out.trans (b1.mono za);by_cases hr:right a.data.toList=yD
 ·rw[hr];have n:Tel w1 (w.heap.size+2) (w.heap.size+1) a.size z (w.heap.size+3) a.data.toList []:={
   byt:=X.out.below b1 za,len:=zAl a,ncp:=I,cpm:=O,gB:=by omega,bB:=by omega,ne:=za
   BB:=by have:=b1.size;omega
   bytes:=by rw[b1.cell (p:=⟨w.heap.size+2,0,qx⟩) (by show w.heap.size+2<_;omega)];exact H0.out
   places:=⟨qx,0,Kit.Own.start _ _ _,by rw[b1.cell (p:=⟨w.heap.size+2,1,qx⟩) (by show w.heap.size+2<_;omega)];exact H1.out⟩
   free:=by rw[b1.frozen (p:=⟨w.heap.size+2,1,qx⟩) (by show w.heap.size+2<_;omega)];exact HF.out}
  obtain⟨HT,HR⟩:=yQ n hr;clear n hr;go_wp2;go_loopw [18] (fun i wr=>∃k:Nat,k<=s.size/\i=qV qj k/\yH (Tel wr (w.heap.size+2) (w.heap.size+1) a.size z (w.heap.size+3) (zEn a.data.toList (s.data.toList.take k)) (zB4 a.data.toList (s.data.toList.take k)))/\yH (all a.data.toList (s.data.toList.take k)=yD)/\yI (w.heap.size+1) (w.alloc (qm #[qX qx 0 0,qX qx 0 0] 152)) wr) (fun i _=>s.size-(intOf i).toNat)
  case atStart=>exact⟨0,za,rfl,HT,zH rfl,u⟩
  case round=>
   obtain⟨k,hk,rfl,ht,b,hb⟩:=hrel;have B:=(Two.new w).below hb za;by_cases r:k<s.size
   ·have a5:kG (zB4 a.data.toList (s.data.toList.take k))=k:=by rw[zDi,qQh,zAl];omega
    go_wp2_with fail;refine(zY8 _ _ _ _ _ _ (w.heap.size+1) _ _ s[k] ht.out za za za).mono ?_;rintro e w2 (⟨Z,rfl,rfl⟩|⟨a1,rfl,W,a3⟩)
    ·obtain⟨e0,e1,e2,e3,e4⟩:=B;go_wp2;have S:all a.data.toList s.data.toList=yE:=by
      rw[Bool.eq_false_iff];intro h;rw[zUa]at h;exact Z ((zLi _ _ b.out _).2 (h _ (by rw[<-zLh s k r];exact qQ _)))
     refine qP5 (zGx _ _ w.heap.size _ _ _ rfl rfl (zCy e0) (zCx e1)) rfl ⟨HA.out.trans (Below.set2 (hb.mono za) (qPq _) za _ _),.inr (.inl ⟨HR.out,S,rfl⟩)⟩
    ·go_wp2;go_roundw
     case rel=>
      refine⟨k+1,za,by go_num,?_,?_,hb.trans a3⟩
      ·rw[qQo (by rw[zAl];exact r),zX3,zW5];exact zH W
      ·rw[qQo (by rw[zAl];exact r),qBo,b.out,Bool.true_and,qRl];exact zH ((zLi _ _ b.out _).1 a1)
     case measure=>simp[intOf];omega
   ·obtain rfl:k=s.size:=za
    obtain⟨e0,e1,e2,e3,e4⟩:=B;have l:s.data.toList.take s.size=s.data.toList:=qQg (by rw[zAl];omega);rw[l]at ht b;obtain⟨pa,pc,g,a4⟩:=ht.out.places;have a7:=ht.out.bytes;have x:kG (zB4 a.data.toList s.data.toList)=s.size:=by rw[zDi,zAl]
    rw[x]at a4 g;have f:=zH g;clear g x l;go_wp2
    try simp only[Exit.inBlock,Exit.then]
    have a2:wr.grownBy ((wr.setCell ⟨w.heap.size,0,qx⟩ (qX (qw ⟨w.heap.size+1,0,qx⟩) a.size z)).setCell ⟨w.heap.size,1,qx⟩ (qX pa s.size pc)) (qw w.heap.size):=zCd (zBv _ _ _ _) (zBv _ _ _ _);refine qP5 (zGx _ _ w.heap.size _ _ _ rfl rfl (zCy e0) (zCx e1)) rfl ⟨HA.out.trans (Below.set2 (hb.mono za) (qPq _) za _ _),.inr (.inr ⟨HR.out,b.out,w.heap.size+1,z,pa,pc,?_,?_,?_,fun h=>by subst h;exact zLb f.out,by rw[zAl];exact AdF.zIz f.out⟩)⟩
    ·rw[zAl,zAl];rfl
    ·exact ht.out.byt.grown a2 (by intro e;injection e with e;omega)
    ·exact(zNd (zNd f.out w.heap.size 0 _ za) w.heap.size 1 _ za).src
 ·rw[Bool.not_eq_true]at hr;rw[hr];obtain⟨e0,e1,e2,e3,e4⟩:=a0;go_wp2
  try simp only[Exit.inBlock,Exit.then]
  refine qP5 (zGx _ _ w.heap.size _ _ _ rfl rfl (zCy e0) (zCx e1)) rfl ⟨HA.out.trans (Below.set2 (u.mono za) (qPq _) za _ _),.inl ⟨hr,rfl⟩⟩
end Front
namespace Front
open Kit (zAe)
theorem zJj (w:qy) (p:Option yB) (l:List qz) (h:l=[]):yZ w p l:=by subst h;exact Kit.Src.nil w p
theorem zHn {a s:T} {w w':qy} {e:Ending} (h:zR6 a s w e w'):
  ∃A n q p m c,e=qp (qZ #[.agg #[qX A n q,qX p m c],qV qj (codeF a s)])/\n=kG (zN a s)/\m=kG (zFw a s)/\yZ w' A ((zN a s).map zAe)/\yZ w' p ((zFw a s).map ival)/\yI w.heap.size w w'/\(p=qx->c=0)/\AdF p m c:=by
 obtain⟨r,⟨l,rfl⟩|⟨l,o,rfl⟩|⟨l,o,g,q,p,c,rfl,f,b,d,had⟩⟩:=h
 ·have i:=zYd a s l;have j:=zQn a s (by rw[i];decide);have k:=zQl a s (by rw[i];decide);exact⟨qx,0,0,qx,0,0,by rw[i],by rw[j];rfl,by rw[k];rfl,zJj _ _ _ (by rw[j];rfl),zJj _ _ _ (by rw[k];rfl),r,fun _=>rfl,.inl ⟨rfl,rfl,rfl⟩⟩
 ·have i:=zVg a s l o;have j:=zQn a s (by rw[i];decide);have k:=zQl a s (by rw[i];decide);exact⟨qx,0,0,qx,0,0,by rw[i],by rw[j];rfl,by rw[k];rfl,zJj _ _ _ (by rw[j];rfl),zJj _ _ _ (by rw[k];rfl),r,fun _=>rfl,.inl ⟨rfl,rfl,rfl⟩⟩
 ·have i:=zRr a s l o;have j:=qCz a s i;have k:=zQm a s i;exact⟨_,kG a,q,p,kG s,c,by rw[i],by rw[j,zKp s a o],by rw[k,zDi],by rw[j];exact f.src,by rw[k];exact b,r,d,had⟩
theorem zMo (a s:ByteArray) (q:a.size<=1000) (t:s.size<=1000) (w:qy):
  yC yG 21 #[qW a,qW s] w (fun e w'=>∃p c,e=qp (qZ #[qX p (kG (zFw a.data.toList s.data.toList)) c,qV qj (codeF a.data.toList s.data.toList)])/\yZ w' p ((zFw a.data.toList s.data.toList).map ival)/\yI w.heap.size w w'/\(p=qx->c=0)/\AdF p (kG (zFw a.data.toList s.data.toList)) c):=by
 go_enter func21,ntmps21;go_wp2_with fail;refine(zHo a s q t w).mono ?_;intro e x h;obtain⟨A,n,u,p,m,c,rfl,r,i,o,j,k,b,had⟩:=zHn h;have l:=zH j;have g:=yP (AdF p (kG (zFw a.data.toList s.data.toList)) c) (by rw[<-i];exact had);obtain⟨HM,f⟩:=yQ i b;clear h o j r i b had;have d:=k.size;go_wp2;go_ret2;exact⟨p,c,by rw[<-HM.out];rfl,l.out.below ((yN _ _).alloc (qPq _) _),k.alloc d _,f.out,g.out⟩
end Front
end Go.Proofs.YtppnakkaljbmbaaGreatDoor
