/- Steps of a proof; no condition beyond what each states. -/
import Derived.Laws.CopyOwn
import Derived.Lib.BytesEntry
import Derived.RangeFuncCalls
import Derived.Test.YtppnakkaljbmbaaGreatDoorZY00
set_option linter.unusedVariables false
set_option linter.unusedSimpArgs false
set_option maxRecDepth 100000
set_option maxHeartbeats 8000000
open List renaming length->kN
open Go.Proofs.YtppnakkaljbmbaaGreatDoor.Kit renaming Src->yt,Own->yu,zAg->yw,Own'->yx,below_setCells->xA,zAe->xC,zAr->xG,zAo->xH,zAs->xM,zAw->xQ
open Go.RowKit
open Go.Proofs.Tryz
open Go.Value renaming int->qX,string->qY,slice->qZ,pointer->qc,tuple->qg,bool->qh
open Go.IntKind renaming i64->qm,u8->qo
open Go.Obj renaming cells->qp,deferred->qw
open Go.Ending renaming returned->qx
open Or renaming inr->qy,inl->qz
open Option renaming some->yA,none->yB
open Go renaming World->yC,Value->yD,TypeId->yE,Addr->yF,Calls->yG,undef->yN
open Bool renaming true->yH,false->yI
open Decidable renaming decide->yJ
open Go.Proofs.Tryz renaming prog->yK
open Go.RowKit renaming Hid->yL,Below->yM
open List renaming range->yO,replicate->yP
open Go.RowKit.Below renaming refl->yR
namespace Go.Proofs.YtppnakkaljbmbaaGreatDoor
namespace Zr
open Bt
def digits (n:Nat):List Nat:=if h:n=0 then[]else(n-1)%2::digits ((n-1)/2)
termination_by n
decreasing_by omega
def number:List Nat->Nat
 |[]=>0
 |x::r=>2*number r+x+1
theorem zEu:digits 0=[]:=by unfold digits;rfl
theorem zFh {n:Nat} (h:0<n):digits n=(n-1)%2::digits ((n-1)/2):=by rw[digits,dif_neg za]
theorem zDk (n:Nat):number (digits n)=n:=by
 induction n using Nat.strongRecOn with
 |_ n ih=>
  rcases qQz n with h|h
  .subst h;rw[zEu];rfl
  .rw[zFh h,number,ih _ za];omega
theorem zD9 (n:Nat):∀x∈digits n,x<=1:=by
 induction n using Nat.strongRecOn with
 |_ n ih=>
  rcases qQz n with h|h
  .subst h;rw[zEu];intro x a;cases a
  .rw[zFh h];intro x a;rcases qP6.1 a with rfl|a
   .omega
   .exact ih _ za x a
theorem zIa (n:Nat):kN (digits n)<=n:=by
 induction n using Nat.strongRecOn with
 |_ n ih=>
  rcases qQz n with h|h
  .subst h;rw[zEu];exact qPq _
  .rw[zFh h,qP4];have:=ih ((n-1)/2) za;omega
def row (t:Nat):List Nat->Nat
 |[]=>0
 |x::r=>if x<=t then row t r+1 else 0
theorem zQe (t:Nat):∀l,row t l<=kN l
 |[]=>qPq _
 |x::r=>by have:=zQe t r;unfold row;split<;>rw[qP4]<;>omega
theorem zM8 (t:Nat):∀(l m:List Nat),(∀x∈l,x<=t)->row t (l++m)=kN l+row t m
 |[],m,_=>by simp
 |x::r,m,h=>by
  rw[qQs,row,qPr (h x zm),zM8 t r m (fun y a=>h y (by simp[a])),qP4];omega
def enc:Nat->List Nat->List Nat
 |k,[]=>digits k
 |k,0::r=>enc (k+1) r
 |k,(x+1)::r=>digits k++(x+2)::enc 0 r
theorem qD5 (l:List Nat):∀k,enc k l=match l.drop (row 0 l)with
  |[]=>digits (k+row 0 l)
  |x::r=>digits (k+row 0 l)++(x+1)::enc 0 r:=by
 induction l with
 |nil=>intro k;simp[enc,row]
 |cons x l ih=>
  intro k;cases x with
  |zero=>
   rw[enc,ih (k+1),row,qPr (qPq _),List.drop_succ_cons,show k+1+row 0 l=k+(row 0 l+1)by omega]
  |succ x=>
   rw[enc,row,qPt za,qR1];simp
def dec:Nat->List Nat->List Nat
 |0,_=>[]
 |f+1,m=>if m=[]then[]else
  yP (number (m.take (row 1 m))) 0++match m.drop (row 1 m)with
   |[]=>[]
   |x::r=>(x-1)::dec f r
theorem zJz:∀(l:List Nat) (k:Nat),kN (enc k l)<=k+kN l
 |[],k=>by rw[enc];exact zIa k
 |0::r,k=>by have:=zJz r (k+1);rw[enc,qP4];omega
 |(x+1)::r,k=>by
  have:=zJz r 0;have:=zIa k;rw[enc,qP0,qP4,qP4];omega
theorem zNs:∀(l:List Nat) (k f:Nat),kN (enc k l)<=f->dec f (enc k l)=yP k 0++l
 |[],k,f,h=>by
  rw[enc]at h⊢;cases f with
  |zero=>
   have a:=qQ0 (Nat.le_zero.1 h);have:=zDk k;rw[a]at this;have b:k=0:=by rw[<-this];rfl
   subst b;rfl
  |succ f=>
   rw[dec];split
   .rename_i a
    have:=zDk k;rw[a]at this;have b:k=0:=by rw[<-this];rfl
    subst b;rfl
   .have c:row 1 (digits k)=kN (digits k):=by
     have:=zM8 1 (digits k) [] (zD9 k);simpa [row]using this
    rw[c,qS7,zDk,List.drop_length]
 |0::r,k,f,h=>by
  rw[enc]at h⊢;rw[zNs r (k+1) f h,qUc];simp
 |(x+1)::r,k,f,h=>by
  rw[enc]at h⊢;rw[qP0,qP4]at h;obtain⟨f',rfl⟩:∃f',f=f'+1:=⟨f-1,za⟩;have c:row 1 (digits k++(x+2)::enc 0 r)=kN (digits k):=by
   rw[zM8 1 _ _ (zD9 k),row,qPt za];omega
  rw[dec,qPt zm,c,List.take_left' rfl,List.drop_left' rfl,zDk];simp only;rw[zNs r 0 f' za];simp
theorem zNq:∀(l:List Nat) (k:Nat) (b:Nat),(∀x∈l,x<b)->1<=b->∀y∈enc k l,y<=b
 |[],k,b,_,h1,y,a=>by rw[enc]at a;have:=zD9 k y a;omega
 |0::r,k,b,h,h1,y,a=>by rw[enc]at a;exact zNq r (k+1) b (fun x c=>h x (by simp[c])) h1 y a
 |(x+1)::r,k,b,h,h1,y,a=>by
  rw[enc]at a;rcases qSi.1 a with a|a
  .have:=zD9 k y a;omega
  .rcases qP6.1 a with rfl|a
   .have:=h (x+1) zm;omega
   .exact zNq r 0 b (fun z d=>h z (by simp[d])) h1 y a
theorem zRo:∀(f g:Nat) (m:List Nat),kN m<=f->f<=g->dec g m=dec f m
 |0,g,m,h,_=>by
  have a:=qQ0 (Nat.le_zero.1 h);subst a;cases g with
  |zero=>rfl
  |succ g=>simp[dec]
 |f+1,g,m,h,hg=>by
  obtain⟨g',rfl⟩:∃g',g=g'+1:=⟨g-1,za⟩;rw[dec,dec];split
  .rfl
  .congr 1
   match hm:m.drop (row 1 m)with
   |[]=>rfl
   |x::r=>
    simp only;have b:=qPs List.length hm;rw[qQo,qP4]at b;rw[zRo f g' r za za]
def steps (a n:Nat):List Bool:=(yP (n-a) [yH,yI]).flatten++(yP (a-n) [yH,yH]).flatten++[yI]
def del:Nat->List Nat->List Bool
 |_,[]=>[]
 |now,n::r=>steps now n++del n r
def delta (l:List Nat):List Bool:=num (l.headD 0) 5++del (l.headD 0) l
def qCp (p:List Nat) (at_:Nat):List Nat:=p.getD at_ 0::(p.take at_++p.drop (at_+1))
def unary (n:Nat):List Bool:=yP n yH++[yI]
def sel:List Nat->List Nat->List Bool
 |_,[]=>[]
 |p,c::r=>unary (p.idxOf c)++sel (qCp p (p.idxOf c)) r
end Zr
namespace Front
variable {c:UInt8}
abbrev T:=List UInt8
def right (l:T):Bool:=decide l.Nodup
def mtf (l:T) (c:UInt8):T:=c::l.erase c
def bring (l:T) (k:Nat):T:=l.getD k 0::l.eraseIdx k
def zEn (a s:T):T:=s.foldl mtf a
def zB4:T->T->List Nat
 |_,[]=>[]
 |a,c::s=>a.idxOf c::zB4 (mtf a c) s
def all (a s:T):Bool:=s.all fun c=>decide (c∈a)
def unp:T->List Nat->T
 |_,[]=>[]
 |a,k::l=>a.getD k 0::unp (bring a k) l
def unf (a:T) (l:List Nat):T:=l.foldl bring a
theorem zIu (l:T):right l=yH↔l.Nodup:=by simp[right]
theorem qL1 (l:T) (c:UInt8) (h:l.Nodup):right (l++[c])= !decide (c∈l):=by
 rw[qSg,zIu];rw[List.nodup_append];simp[h];constructor
 .intro a d;exact a c d rfl
 .intro a x e b;subst b;exact a e
theorem zTu {l:T} (h:c∈l) (x:UInt8):x∈mtf l c↔x∈l:=by
 unfold mtf;by_cases a:x=c
 .subst a;simp[h]
 .simp[a]
theorem zH2 {l:T} (h:c∈l):kN (mtf l c)=kN l:=by
 unfold mtf;rw[qP4,List.length_erase_of_mem h];have:=List.length_pos_of_mem h;omega
theorem erase_eq (l:T) (c:UInt8) (h:c∈l):l.erase c=l.eraseIdx (l.idxOf c):=by
 rw[List.erase_eq_eraseIdx_of_idxOf (i:=l.idxOf c) rfl]
theorem zMl (l:T) (c:UInt8) (h:c∈l):l.getD (l.idxOf c) 0=c:=by
 have a:=List.idxOf_lt_length_of_mem h;rw[List.getD,qPu a,qQ5,List.getElem_idxOf]
theorem zOq (l:T) (c:UInt8) (h:c∈l):mtf l c=bring l (l.idxOf c):=by
 unfold mtf bring;rw[zMl l c h,erase_eq l c h]
theorem zF6 (l:T) (k:Nat) (a:k<kN l):l.getD k 0∈l:=by
 rw[List.getD,qPu a,qQ5];exact qP9 a
theorem zD6 (l:T) (k:Nat) (a:k<kN l):kN (bring l k)=kN l:=by
 unfold bring;rw[qP4,List.length_eraseIdx_of_lt a];omega
theorem all_cons (a:T) (c:UInt8) (s:T):all a (c::s)=(yJ (c∈a)&&all a s):=rfl
theorem qBo (a s:T) (c:UInt8):all a (s++[c])=(all a s&&yJ (c∈a)):=by simp[all]
theorem zUa (a s:T):all a s=yH↔∀c∈s,c∈a:=by simp[all]
theorem zK {a:T} (h:c∈a) (s:T):all (mtf a c) s=all a s:=by
 unfold all;congr 1;funext x;simp[zTu h]
theorem zX3 (a s:T) (c:UInt8):zEn a (s++[c])=mtf (zEn a s) c:=by unfold zEn;rw[qTh];rfl
theorem zKg:∀(a s t:T),zB4 a (s++t)=zB4 a s++zB4 (zEn a s) t
 |a,[],t=>rfl
 |a,c::s,t=>by rw[qQs,zB4,zB4,zKg (mtf a c) s t];rfl
theorem zW5 (a s:T) (c:UInt8):zB4 a (s++[c])=zB4 a s++[(zEn a s).idxOf c]:=by rw[zKg];rfl
theorem zDi:∀(a s:T),kN (zB4 a s)=kN s
 |_,[]=>rfl
 |a,c::s=>by rw[zB4,qP4,zDi (mtf a c) s];rfl
theorem zLi:∀(s a:T),all a s=yH->∀x,x∈zEn a s↔x∈a
 |[],a,_,x=>Iff.rfl
 |c::s,a,h,x=>by
  rw[all_cons,qQ1,qRm]at h;have b:=zLi s (mtf a c) (by rw[zK h.1];exact h.2) x;show x∈zEn (mtf a c) s↔_;rw[b,zTu h.1]
theorem zKp:∀(s a:T),all a s=yH->kN (zEn a s)=kN a
 |[],a,_=>rfl
 |c::s,a,h=>by
  rw[all_cons,qQ1,qRm]at h;show(zEn (mtf a c) s).length=_;rw[zKp s (mtf a c) (by rw[zK h.1];exact h.2),zH2 h.1]
theorem zPx:∀(s a:T),all a s=yH->unp a (zB4 a s)=s
 |[],_,_=>rfl
 |c::s,a,h=>by
  rw[all_cons,qQ1,qRm]at h;rw[zB4,unp,zMl a c h.1,<-zOq a c h.1,zPx s (mtf a c) (by rw[zK h.1];exact h.2)]
theorem zNb:∀(s a:T),all a s=yH->∀k∈zB4 a s,k<kN a
 |[],_,_,k,b=>by simp[zB4]at b
 |c::s,a,h,k,b=>by
  rw[all_cons,qQ1,qRm]at h;rw[zB4,qP6]at b;rcases b with rfl|b
  .exact List.idxOf_lt_length_of_mem h.1
  .have:=zNb s (mtf a c) (by rw[zK h.1];exact h.2) k b;rwa[zH2 h.1]at this
theorem zLy:∀(l m:List Nat) (a:T),unp a (l++m)=unp a l++unp (unf a l) m
 |[],m,a=>rfl
 |k::l,m,a=>by rw[qQs,unp,unp,zLy l m];rfl
theorem zY0 (a:T) (l:List Nat) (k:Nat):unp a (l++[k])=unp a l++[(unf a l).getD k 0]:=by rw[zLy];rfl
theorem zY2 (a:T) (l:List Nat) (k:Nat):unf a (l++[k])=bring (unf a l) k:=by unfold unf;rw[qTh];rfl
theorem zLz:∀(l:List Nat) (a:T),(∀k∈l,k<kN a)->kN (unf a l)=kN a
 |[],_,_=>rfl
 |k::l,a,h=>by
  have b:=h k zm;show(unf (bring a k) l).length=_;rw[zLz l (bring a k) (fun j d=>by rw[zD6 a k b];exact h j (by simp[d])),zD6 a k b]
theorem zLx:∀(l:List Nat) (a:T),kN (unp a l)=kN l
 |[],_=>rfl
 |k::l,a=>by rw[unp,qP4,zLx l];rfl
def qJw (a:T) (c:UInt8):T:=if kN a<30/\¬c∈a then a++[c]else a
def alpha (s:T):T:=s.foldl qJw []
theorem qLo {a:T} (c:UInt8) (h:a.Nodup):(qJw a c).Nodup:=by
 unfold qJw;split
 .rename_i h1
  have:=(zIu (a++[c])).1 (by rw[qL1 a c h];simp[h1.2]);exact this
 .exact h
theorem qM1 (a:T) (c:UInt8) (h:kN a<=30):kN (qJw a c)<=30:=by
 unfold qJw;split
 .rw[qP0];simp;omega
 .exact h
theorem qK:∀(s a:T),a.Nodup->(s.foldl qJw a).Nodup
 |[],_,h=>h
 |c::s,a,h=>qK s _ (qLo c h)
theorem qKu:∀(s a:T),kN a<=30->kN (s.foldl qJw a)<=30
 |[],_,h=>h
 |c::s,a,h=>qKu s _ (qM1 a c h)
theorem zS7 (s:T):(alpha s).Nodup:=qK s [] List.nodup_nil
theorem zPe (s:T):kN (alpha s)<=30:=qKu s [] zm
@[irreducible] def pk (c n:Int):Int:=if c<0 then-(c+1)%n else c%n
theorem qH (c n:Int) (h:1<=n):0<=pk c n:=by
 unfold pk;split<;>exact Int.emod_nonneg _ za
theorem qHa (c n:Int) (h:1<=n):pk c n<n:=by
 unfold pk;split<;>exact Int.emod_lt_of_pos _ za
def text (a:T) (b:List Int):T:=if a=[]then[]else b.map fun r=>a.getD (pk r (kN a:Int)).toNat 0
def zDp (l:T) (c:UInt8):Int:=if c∈l then(l.idxOf c:Int)else-1
theorem zGl (l:T) (k:Nat) (d:k<kN l):(l.take (k+1)).Nodup↔(l.take k).Nodup/\¬l[k]∈l.take k:=by
 rw[qQp d,List.nodup_append];simp;intro _;constructor
 .intro a b;exact a _ b rfl
 .intro a x f e;subst e;exact a f
theorem zGw (l:T) (k:Nat) (d:k<kN l) (h:l[k]∈l.take k):right l=yI:=by
 rw[Bool.eq_false_iff];intro a;rw[zIu]at a;have b:(l.take (k+1)).Nodup:=a.sublist (List.take_sublist _ _);exact((zGl l k d).1 b).2 h
def codeF (a s:T):Int:=if right a=yH then(if all a s=yH then 0 else 5)else 1
def zFw (a s:T):List Nat:=if codeF a s=0 then zB4 a s else[]
def zN (a s:T):T:=if codeF a s=0 then zEn a s else[]
theorem zYd (a s:T) (h:right a=yI):codeF a s=1:=by unfold codeF;rw[h];rfl
theorem zVg (a s:T) (h:right a=yH) (b:all a s=yI):codeF a s=5:=by unfold codeF;rw[h,b];rfl
theorem zRr (a s:T) (h:right a=yH) (b:all a s=yH):codeF a s=0:=by unfold codeF;rw[h,b];rfl
theorem zQm (a s:T) (h:codeF a s=0):zFw a s=zB4 a s:=by unfold zFw;rw[qPr h]
theorem zQl (a s:T) (h:¬codeF a s=0):zFw a s=[]:=by unfold zFw;rw[qPt h]
theorem qCz (a s:T) (h:codeF a s=0):zN a s=zEn a s:=by unfold zN;rw[qPr h]
theorem zQn (a s:T) (h:¬codeF a s=0):zN a s=[]:=by unfold zN;rw[qPt h]
def inR (n:Nat) (l:List Int):Bool:=l.all fun x=>decide (0<=x/\x<(n:Int))
def zBs (l:List Int):List Nat:=l.map Int.toNat
def zC3 (a:T) (l:List Int):Int:=if right a=yH then(if inR (kN a) l=yH then 0 else 5)else 1
def zIv (a:T) (l:List Int):T:=if zC3 a l=0 then unp a (zBs l)else[]
theorem zYe (a:T) (l:List Int) (h:right a=yI):zC3 a l=1:=by unfold zC3;rw[h];rfl
theorem zVh (a:T) (l:List Int) (h:right a=yH) (b:inR (kN a) l=yI):zC3 a l=5:=by unfold zC3;rw[h,b];rfl
theorem zRs (a:T) (l:List Int) (h:right a=yH) (b:inR (kN a) l=yH):zC3 a l=0:=by unfold zC3;rw[h,b];rfl
theorem zTj (a:T) (l:List Int) (h:zC3 a l=0):zIv a l=unp a (zBs l):=by unfold zIv;rw[qPr h]
theorem zK7 (a:T) (l:List Int) (h:¬zC3 a l=0):zIv a l=[]:=by unfold zIv;rw[qPt h]
theorem qAr (n:Nat) (l:List Int) (x:Int):inR n (l++[x])=(inR n l&&yJ (0<=x/\x<(n:Int))):=by simp[inR]
theorem zNo (n:Nat) (l:List Int):inR n l=yH↔∀x∈l,0<=x/\x<(n:Int):=by simp[inR]
theorem zOp (l:List Int) (x:Int):zBs (l++[x])=zBs l++[x.toNat]:=by simp[zBs]
theorem qC8 (n:Nat) (l:List Int) (h:inR n l=yH):∀k∈zBs l,k<n:=by
 intro k a;obtain⟨x,b,rfl⟩:=qQg.1 a;have:=(zNo n l).1 h x b;omega
theorem qC7 (l:List Nat):zBs (l.map fun k:Nat=>(k:Int))=l:=by unfold zBs;rw[qRr];conv=>{rhs;rw[<-List.map_id l]};exact qRy fun x _=>by simp
theorem qF0 (n:Nat) (l:List Nat) (h:∀k∈l,k<n):inR n (l.map fun k:Nat=>(k:Int))=yH:=by
 rw[zNo];intro x b;obtain⟨k,a,rfl⟩:=qQg.1 b;have:=h k a;omega
end Front
namespace Front
theorem zBw {k:IntKind} {a b:Int} (h:a=b):Ending.returned (qX k a)=qx (qX k b):=by rw[h]
theorem zQi {a b:Bool} (h:a=b):Ending.returned (qh a)=qx (qh b):=by rw[h]
theorem zLo (x y:UInt8):((x.toNat:Int)==(y.toNat:Int))=yJ (x=y):=by
 rw[qSg,qSq,qRm];exact⟨fun h=>UInt8.toNat_inj.1 za,fun h=>by rw[h]⟩
theorem zAl (s:ByteArray):kN s.data.toList=s.size:=by simp
theorem zLh (s:ByteArray) (k:Nat) (h:k<s.size):s.data.toList[k]'(by rw[zAl];exact h)=s[k]:=rfl
@[irreducible] def had (l:T) (i:Nat):yD:=qh (yJ (UInt8.ofNat i∈l))
@[irreducible] def zEm (l:T):Array yD:=((yO 256).map (had l)).toArray
theorem zXw (l:T):(zEm l).size=256:=by simp[zEm]
theorem qAv (l:T) (x:UInt8):(zEm l)[x.toNat]? =yA (qh (yJ (x∈l))):=by
 have:=x.toNat_lt;have h:x.toNat<256:=za
 simp[zEm,had,h]
theorem qAu (l:T) (x:UInt8):(zEm l).setIfInBounds x.toNat (qh yH)=zEm (l++[x]):=by
 apply Array.ext
 .simp[zEm]
 .intro i c a;have b:i<256:=by simpa [zEm]using a
  rw[Array.getElem_setIfInBounds]
  .split
   .rename_i h;subst h;simp[zEm,had]
   .rename_i h
    have hne:¬UInt8.ofNat i=x:=by
     intro e;apply h;rw[<-e];simp;omega
    simp[zEm,had,hne]
  .simpa [zEm]using b
theorem zV2 (w:yC):(zeroValue 146).run yK w= .ok (.agg (zEm [])) w:=by
 kernel_rfl
theorem zGf (s:ByteArray) (j:s.size<=maxLen) (w:yC):
  yG yK 111 #[qY s] w fun e w'=>e=qx (qh (right s.data.toList))/\yM w w w':=by
 unfold maxLen at j;have p:=zV2;go_enter func111,ntmps111;go_wp2;go_loopw [7] (fun i wr=>∃k:Nat,k<=s.size/\i=qX qm k/\wr=w.alloc (qp (zEm (s.data.toList.take k)) 146)/\(s.data.toList.take k).Nodup) (fun i _=>s.size-(intOf i).toNat)
 case atStart=>exact⟨0,za,rfl,rfl,zm⟩
 case round=>
  obtain⟨k,o,rfl,rfl,b⟩:=hrel;have c:=zH b;clear b;by_cases a:k<s.size
  .have g:=qAv (s.data.toList.take k) s[k];have n:=zXw (s.data.toList.take k);have m:(s[k].toNat:Int)<256:=by have:=s[k].toNat_lt;omega
   have l:(0:Int)<=(s[k].toNat:Int):=za
   by_cases d:s[k]∈s.data.toList.take k
   .rw[qQ d]at g;have f:=zH d;clear d;go_wp2;go_ret;exact⟨zQi (zGw _ k (by rw[zAl];exact a) f.out).symm,(yR _ _).alloc (qPq _) _⟩
   .rw[qP1 d]at g;have f:=zH d;clear d;go_wp2;go_roundw
    case rel=>
     refine⟨k+1,za,by go_num,?_,(zGl _ k (by rw[zAl];exact a)).2 ⟨c.out,f.out⟩⟩;rw[qAu,qQp (by rw[zAl];exact a)];rfl
    case measure=>exact qV
  .go_wp2;go_ret;refine⟨zQi ?_,(yR _ _).alloc (qPq _) _⟩;have h:=c.out;rw[qQc (by rw[zAl];omega)]at h;exact((zIu _).2 h).symm
end Front
namespace Front
open Kit (zAe)
variable {w w' a b:yC} {g B:Nat} {row:Option Nat}
def Byt (w:yC) (g:Nat) (l:T):Prop:=g<w.heap.size/\(∀j,j<kN l->w.cell? ⟨g,j,yB⟩=yA (zAe (l.getD j 0)))/\∀j,j<kN l->w.frozen? ⟨g,j,yB⟩=yI
theorem Byt.below {l:T} (h:Byt w g l) (c:yM B w w') (e:g<B):Byt w' g l:=
 ⟨by have:=h.1;have:=c.size;omega,fun j d=>by rw[c.cell (p:=⟨g,j,yB⟩) e];exact h.2.1 j d,fun j d=>by rw[c.frozen (p:=⟨g,j,yB⟩) e];exact h.2.2 j d⟩
theorem Byt.grown {l:T} (h:Byt w g l) (d:w.grownBy w' row) (f:yA g≠row):Byt w' g l:=by
 have e:=d.block g h.1 f;exact⟨by have:=h.1;have:=d.size;omega,fun j c=>by rw[qRg (w:=w) (a:=⟨g,j,yB⟩) e];exact h.2.1 j c,fun j c=>by rw[qTr (w:=w) (a:=⟨g,j,yB⟩) e];exact h.2.2 j c⟩
theorem getD_at (l:T) (j:Nat) (h:j<kN l):l.getD j 0=l[j]:=by rw[List.getD,qPu h,qQ5]
theorem Byt.src {l:T} (h:Byt w g l):yt w (yA ⟨g,0,yB⟩) (l.map zAe):=by
 intro j u d;rw[qP3]at d;obtain⟨x,e,rfl⟩:=Option.map_eq_some_iff.1 d;obtain⟨c,rfl⟩:=qSj.1 e;exact⟨g,0,rfl,by rw[qQd,<-getD_at l j c];exact h.2.1 j c⟩
theorem Byt.new (w:yC) (t:ByteArray) (c e:Nat):Byt (w.drew.alloc (qp (bytesRow t c) e ((bytesRow t c).size,(bytesRow t c).size+1))) w.heap.size t.data.toList:=by
 refine⟨zm,fun j d=> ?_,fun j d=> ?_⟩
 .have h:=World.cell?_alloc_mark w.drew (bytesRow t c) e ((bytesRow t c).size,(bytesRow t c).size+1) j;have a:j<t.data.size:=by simpa using d
  refine Eq.trans h ?_;rw[bytesRow_at t c j a,getD_at _ j d];rfl
 .have h:=World.frozen?_alloc_mark w.drew (bytesRow t c) e (bytesRow t c).size ((bytesRow t c).size+1) j;refine Eq.trans h ?_;have a:j<t.data.size:=by simpa using d
  have:t.data.size<=(bytesRow t c).size:=by unfold bytesRow;simp
  have f:¬(bytesRow t c).size<=j:=za
  simp[f]
theorem zH7 (w:yC) (row:Option Nat):w.grownBy w row:=⟨rfl,rfl,rfl,qPq _,fun _ _ _=>rfl⟩
theorem zCd {c:yC} (h:a.grownBy b row) (k:b.grownBy c row):a.grownBy c row:=
 ⟨k.os.trans h.os,k.tape.trans h.tape,k.output.trans h.output,qP2 h.size k.size,fun i hi d=>(k.block i (by have:=h.size;omega) d).trans (h.block i hi d)⟩
theorem zMj (h:a.grownBy b row):a.grownBy b.drew row:=⟨h.os,h.tape,h.output,h.size,h.block⟩
theorem zKm (h:a.grownBy b row) (o:Obj):a.grownBy (b.alloc o) row:=zCd h (qR4 b o row)
theorem zBv (w:yC) (g j:Nat) (v:yD):w.grownBy (w.setCell ⟨g,j,yB⟩ v) (yA g):=
 ⟨rfl,rfl,rfl,by simp[World.setCell],fun k d c=>Below.heap_setCell _ _ _ _ (fun e=>c (by rw[e]))⟩
theorem zFf (g:Nat):∀(c:List yD) (o:Nat) (w:yC),w.grownBy (w.setCells g o c) (yA g)
 |[],_,w=>zH7 w _
 |v::r,o,w=>zCd (zBv w g o v) (zFf g r (o+1) _)
theorem zCi (h:w.grownBy w' (yA g)) (e:B<=g) (d:B<=w.heap.size):yM B w w':=
 (yR _ _).grown h d (fun k c=>by injection c with c;omega)
theorem zRc (l:T) (c:UInt8):Lib.indexByte l c=zDp l c:=by
 induction l with
 |nil=>rfl
 |cons x l ih=>
  rw[Lib.indexByte];by_cases h:x=c
  .subst h;unfold zDp;simp
  .have j:(x==c)=yI:=by simpa using h
   rw[j];simp only[Bool.false_eq_true,if_false];rw[ih];by_cases d:c∈l
   .have e:zDp l c=(l.idxOf c:Int):=by unfold zDp;rw[qPr d]
    have f:zDp (x::l) c=((l.idxOf c+1:Nat):Int):=by
     unfold zDp;rw[qPr (List.mem_cons_of_mem _ d),List.idxOf_cons,j];rfl
    have:((l.idxOf c:Int)== -1)=yI:=by simp
    rw[e,f,this];simp
   .have e:zDp l c= -1:=by unfold zDp;rw[qPt d]
    have f:zDp (x::l) c= -1:=by
     unfold zDp;rw[qPt];intro k;rcases qP6.1 k with i|i
     .exact h i.symm
     .exact d i
    rw[e,f];rfl
theorem zRu (l:T):Lib.bytesOf (l.map fun x=>(x.toNat:Int))=l:=by
 unfold Lib.bytesOf;rw[qRr]
 conv=>rhs;rw[<-List.map_id l]
 apply qRy;intro x _;simp
theorem zOw (w:yC) (g n d:Nat) (l:T) (c:UInt8) (j:kN l=n) (h:Byt w g l):
  yG yK 201 #[qZ (yA ⟨g,0,yB⟩) n d,qX qo (c.toNat:Int)] w fun e w'=>e=qx (qX qm (zDp l c))/\w=w':=by
 have a:=Lib.run_indexByteSlice (P:=yK) w g 0 n d (l.map fun x=>(x.toNat:Int)) (by rw[qQj];exact j) (fun i hi=>by
  rw[qQd,h.2.1 i za,getD_at l i za];have f:i<kN (l.map fun x=>(x.toNat:Int)):=by rw[qQj];omega
  rw[List.getD,qPu f,qQ5,List.getElem_map];rfl) (c.toNat:Int)
 rw[zRu,show((c.toNat:Int).toNat.toUInt8)=c from zm,zRc]at a;go_enter func201,ntmps201;go_wp2;rw[run_callFunc_extern func259 zf zf zf (e:=Extern.BytealgIndexByte.indexByte) zf,a];simp only[Result.andThen];rw[Oper.upon_value];go_wp2;go_ret;exact⟨rfl,rfl⟩
theorem copy_eq {P:Program} {c:Array Oper} {rest:List Oper} {o:Oper} {a:Act} {Q:Exit->Act->yC->Prop} (j:Region.wanted o (yielded c a.tmps)=yH) (s x:Operand) (t:yE)
  (e:o.op= .call {callee:= .builtin .copy,args:= #[s,x],argTypes:= #[t,t]}) {v y v':yD} (i:a.eval s=v) (k:a.eval x=y)
  (f:(Builtin.copy_ #[t,t] o.type #[v,y]).run P w= .ok v' w') (h:wpList P c Q rest (a.put o.dst v') w'):wpList P c Q (o::rest) a w:=by
 refine BigFrame.wpList_want j fun K d=> ?_;unfold Oper.wp execOp;simp only[e,resolve,invoke,builtin,qRl,qSo,qS2,List.map_toArray,qQe,qSp,i,k,f];exact d _ _ h
theorem zVj (l:T) (k:Nat) (e:k<kN l) (j:Nat) (d:j<kN l):(bring l k).getD j 0=if j=0 then l.getD k 0 else if j<=k then l.getD (j-1) 0 else l.getD j 0:=by
 unfold bring;by_cases c:j=0
 .subst c;rw[qPr rfl];rfl
 .obtain⟨i,rfl⟩:∃i,j=i+1:=⟨j-1,za⟩;have hi:i<kN (l.eraseIdx k):=by rw[List.length_eraseIdx_of_lt e];omega
  rw[qPt c];show(l.eraseIdx k).getD i 0=_;rw[getD_at _ i hi,List.getElem_eraseIdx];split
  .rw[qPr za,getD_at _ _ za];rfl
  .rw[qPt za,getD_at _ _ d]
theorem Byt.brought {l:T} (h:Byt w g l) (k:Nat) (d:k<kN l):
  Byt ((w.setCells g 1 ((l.take k).map zAe)).setCell ⟨g,0,yB⟩ (zAe (l.getD k 0))) g (bring l k):=by
 have n:=zD6 l k d;have p:w.heap.size<=((w.setCells g 1 ((l.take k).map zAe)).setCell ⟨g,0,yB⟩ (zAe (l.getD k 0))).heap.size:=by
  have:=(zFf g ((l.take k).map zAe) 1 w).size;simpa [World.setCell]using this
 refine⟨by have:=h.1;omega,fun j m=> ?_,fun j m=> ?_⟩
 .rw[zVj l k d j za];have b:∀i (hi:i<kN ((l.take k).map zAe)),(w.setCells g 1 ((l.take k).map zAe)).cell? ⟨g,1+i,yB⟩=yA ((l.take k).map zAe)[i]:=by
   refine World.cell?_setCells_in g _ 1 w fun i hi=> ?_;have o:i<k:=by simp at hi;omega
   rw[h.2.1 (1+i) za];rfl
  by_cases c:j=0
  .subst c;rw[qPr rfl];have f:(w.setCells g 1 ((l.take k).map zAe)).cell? ⟨g,0,yB⟩=yA (zAe (l.getD 0 0)):=by
    rw[qUd g _ 1 w ⟨g,0,yB⟩ (fun _ _=>qz zm),h.2.1 0 za]
   exact qRj _ _ _ f
  .rw[qPt c];rw[qQf _ _ _ _ (by intro e;injection e with _ e2 _;omega)];by_cases a:j<=k
   .rw[qPr a];obtain⟨i,rfl⟩:∃i,j=1+i:=⟨j-1,za⟩;have hi:i<kN ((l.take k).map zAe):=zq
    rw[b i hi,List.getElem_map,List.getElem_take,show 1+i-1=i from za,getD_at l i za]
   .rw[qPt a,qUd g _ 1 w ⟨g,j,yB⟩ (fun _ _=>qy zq),h.2.1 j za]
 .have e:((w.setCells g 1 ((l.take k).map zAe)).setCell ⟨g,0,yB⟩ (zAe (l.getD k 0))).frozen? ⟨g,j,yB⟩=w.frozen? ⟨g,j,yB⟩:=by
   rw[qSw,World.frozen?_setCells]
  rw[e];exact h.2.2 j za
theorem zDo (w:yC) (g n d:Nat) (l:T) (k:Nat) (r:kN l=n) (q:k<n) (h:Byt w g l) (ty:yE):
  ∃a,a=(if d=1 then(⟨g,0,yB⟩:yF)else⟨g,1,yB⟩)/\(n<=d->(Builtin.copy_ #[109,109] ty #[qZ (yA a) (n-1) (d-1),qZ (yA ⟨g,0,yB⟩) k d]).run yK w= .ok (goInt k) (w.setCells g 1 ((l.take k).map zAe))):=by
 refine⟨_,rfl,fun p=> ?_⟩;have c:(prog.info? 5).map (·.size)=yA 1:=zf
 by_cases i:k=0
 .subst i;have:=run_copy_none (P:=yK) w 109 109 ty 5 (yA (if d=1 then(⟨g,0,yB⟩:yF)else⟨g,1,yB⟩)) (yA ⟨g,0,yB⟩) (n-1) (d-1) 0 d underlying109 c (by show Nat.min 0 _=0;simp);exact this
 .rw[qPt za];have b:kN ((l.take k).map zAe)=k:=zq
  have:=run_copy_cells (P:=yK) w 109 109 ty 5 g 1 (n-1) (d-1) ⟨g,0,yB⟩ k d ((l.take k).map zAe) underlying109 c (by rw[b];show k=min k (n-1);omega)
   (fun j v f=>by
    obtain⟨b',o,e,m⟩:=(h.src) j v (by
     rw[qP3]at f⊢;rw[qSc]at f;split at f
     .exact f
     .cases f)
    injection e with e
    injection e with e1 e2
    subst e1 e2;rw[Kit.addr_add];exact m)
   (fun j f=>by rw[h.2.1 (1+j) za];rfl) (fun j f=>h.2.2 (1+j) za) (Kit.zG _)
  rw[b]at this;exact this
end Front
namespace Front
open Kit (zAe)
theorem zPy (w:yC) (g n q:Nat) (l:T) (k:Nat) (Y:kN l=n) (hk:k<n) (Z:n<=q) (hm:q<=maxLen) (I:Byt w g l):
  yG yK 112 #[.agg #[qZ (yA ⟨g,0,yB⟩) n q],k] w fun e w'=>e=qx (qX qo ((l.getD k 0).toNat:Int))/\Byt w' g (bring l k)/\w.grownBy w' (yA g):=by
 unfold maxLen at hm;have o:k<kN l:=za
 obtain⟨x,N⟩:=zB (l.getD k 0);have u:=I.below (B:=w.heap.size) ((yR _ _).alloc (qPq _) (qp #[qZ (yA ⟨g,0,yB⟩) n q] 150)) I.1;have d:Byt (w.alloc (qp #[qZ (yA ⟨g,0,yB⟩) n q] 150)).drew g l:=u;obtain⟨W,L⟩:∃W,W=(w.alloc (qp #[qZ (yA ⟨g,0,yB⟩) n q] 150)).drew:=⟨_,rfl⟩;rw[<-L]at d;obtain⟨a,X,j⟩:=zDo W g n q l k Y hk d 3;have m:=j Z;clear j;obtain⟨R,O⟩:=yU m X;clear m X;have s:=I.2.1 k o;have r:=d.brought k o;have f:(W.setCells g 1 ((l.take k).map zAe)).cell? ⟨g,0,yB⟩=yA (zAe (l.getD 0 0)):=by
  rw[qUd g _ 1 W ⟨g,0,yB⟩ (fun _ _=>qz zm),d.2.1 0 za]
 have i:(W.setCells g 1 ((l.take k).map zAe)).frozen? ⟨g,0,yB⟩=yI:=by
  rw[World.frozen?_setCells];exact d.2.2 0 za
 have K:(W.setCells g 1 ((l.take k).map zAe)).cell? ⟨w,0,yB⟩=yA (qZ (yA ⟨g,0,yB⟩) n q):=by
  rw[qUd g _ 1 W ⟨w,0,yB⟩ (fun h _=>by have:=I.1;simp only at h;omega),L];simp
 have a1:=I.1;rw[N]at s r;have a0:w.cell? ⟨g,k,yB⟩=yA (qX qo (x.toNat:Int)):=s;obtain⟨HB,S,z⟩:=yV r N L;obtain⟨V,M⟩:∃V,V=W.setCells g 1 ((l.take k).map zAe):=⟨_,rfl⟩;rw[<-M]at f i K;obtain⟨y,F,t,P⟩:=yX M f i K;clear I u d N s Y o r L M f i K;have i1:(1:Int)<=(n:Int):=za
 have i2:(k:Int)<(n:Int):=za
 have i3:(k:Int)<=(q:Int):=za
 have i4:(n:Int)<=(q:Int):=za
 have i5:(0:Int)<=(k:Int):=za
 by_cases p:q=1
 .have G:n=1:=za
  have H:k=0:=za
  subst p G H;go_enter func112,ntmps112;go_wp2;refine wp_region_still_tail 7 zf zf ?_;simp only[qR5,qS6,List.drop_succ_cons,qR1];change wpStill _ _ ((w.alloc (qp #[qZ (yA ⟨g,0,yB⟩) 1 _] 150)).drew) _ _ _
  repeat still_step
  try refine wpStill_nil ?_
  have b:=R.out;simp only[O.out,qRx,z.out]at b;refine copy_eq rfl (.tmp 13) (.tmp 17) 109 rfl rfl rfl b ?_;have c:=y.out;rw[z.out]at c;rw[<-c];clear b c;have f:=F.out;have i:=t.out;have K:=P.out;go_wp2;go_ret;refine⟨by rw[S.out];rfl,?_,?_⟩
  .rw[y.out];exact HB.out
  .rw[y.out,z.out];exact zCd (zMj (zKm (zH7 _ _) _)) (zCd (zFf g _ 1 _) (zBv _ g 0 _))
 .go_enter func112,ntmps112;go_wp2;refine wp_region_still_tail 7 zf zf ?_;simp only[qR5,qS6,List.drop_succ_cons,qR1];change wpStill _ _ ((w.alloc (qp #[qZ (yA ⟨g,0,yB⟩) n _] 150)).drew) _ _ _
  repeat still_step
  try refine wpStill_nil ?_
  have b:=R.out;rw[O.out,qPt p,z.out]at b;refine copy_eq rfl (.tmp 13) (.tmp 17) 109 rfl rfl rfl b ?_;have c:=y.out;rw[z.out]at c;rw[<-c];clear b c;have f:=F.out;have i:=t.out;have K:=P.out;go_wp2;go_ret;refine⟨by rw[S.out];rfl,?_,?_⟩
  .rw[y.out];exact HB.out
  .rw[y.out,z.out];exact zCd (zMj (zKm (zH7 _ _) _)) (zCd (zFf g _ 1 _) (zBv _ g 0 _))
end Front
namespace Front
open Kit (zAe)
variable {w w':yC} {row:Option Nat} {p:yF} {B n c:Nat} {e:yE} {a:Option yF} {xs:List yD}
abbrev ival (n:Nat):yD:=qX qm (n:Int)
theorem zDr (l:List Nat):∀u∈l.map ival,u.oneCell'=yH:=by
 intro u b;obtain⟨x,_,rfl⟩:=qQg.1 b;rfl
theorem zFn:Kit.One yK 23 3 8:=⟨underlying23,qX qm 0,zf,rfl⟩
theorem cell_grown {v:yD} (d:w.grownBy w' row) (b:w.cell? p=yA v) (h:yA p.block≠row):w'.cell? p=yA v:=by
 have e:=d.block p.block (qQk b) h;rw[qRg (w:=w) (a:=p) e];exact b
theorem zF7 (b:w.grownBy w' row) (d:p.block<w.heap.size) (h:yA p.block≠row):w'.frozen? p=w.frozen? p:=by
 have e:=b.block p.block d h;rw[qTr (w:=w) (a:=p) e]
theorem zIx {g:Nat} (h:yu w B e a n c xs) (o:w.grownBy w' (yA g)) (q:g<B):yu w' B e a n c xs:=by
 obtain⟨m,l⟩:=h;refine⟨m,?_⟩;rcases l with l|⟨g',k,f,hv,j,d,r⟩
 .exact qz l
 .refine qy ⟨g',k,f,hv,j,?_,r⟩;have b:g'<w.heap.size:=by
   rcases qP8 g' w.heap.size with b|i
   .exact b
   .rw[qRk i]at d;cases d
  rw[o.block g' b (by intro e;injection e with e;omega),d]
theorem zNd (h:yu w B e a n c xs) (g j:Nat) (v:yD) (b:g<B):yu (w.setCell ⟨g,j,yB⟩ v) B e a n c xs:=
 zIx h (zBv w g j v) b
structure Tel (w:yC) (b g n cp B:Nat) (l:T) (ps:List Nat):Prop where
 byt:Byt w g l
 len:kN l=n
 ncp:n<=cp
 cpm:cp<=maxLen
 gB:g<B
 bB:b<B
 ne:g≠b
 BB:B<=w.heap.size
 bytes:w.cell? ⟨b,0,yB⟩=yA (qZ (yA ⟨g,0,yB⟩) n cp)
 places:∃a c,yu w B 3 a (kN ps) c (ps.map ival)/\w.cell? ⟨b,1,yB⟩=yA (qZ a (kN ps) c)
 free:w.frozen? ⟨b,1,yB⟩=yI
theorem zY8 (w:yC) (b g n cp B D:Nat) (l:T) (z:List Nat) (x:UInt8) (h:Tel w b g n cp B l z) (aa:kN z<1000000) (a5:D<=g) (a4:D<=b):
  yG yK 150 #[qc (yA ⟨b,0,yB⟩),qX qo (x.toNat:Int)] w fun e w'=>
   (¬x∈l/\e=qx (qh yI)/\w=w')\/(x∈l/\e=qx (qh yH)/\Tel w' b g n cp B (mtf l x) (z++[l.idxOf x])/\yM D w w'):=by
 have H:=zH h;have a8:=h.bytes;have r:=h.len;by_cases hx:x∈l
 .have hp:zDp l x=(l.idxOf x:Int):=by unfold zDp;rw[qPr hx]
  have I:=List.idxOf_lt_length_of_mem hx;obtain⟨k,hk⟩:=zB (l.idxOf x);rw[hk]at hp I;obtain⟨hP,HK,HX⟩:=yV hp hk hx;have R:k<n:=za
  obtain⟨a,c,i,Z⟩:=h.places;have S:b<w.heap.size:=by have:=h.bB;have:=h.BB;omega
  have a9:=h.byt.1;obtain⟨a1,c1,y,a2,t,d⟩:=Kit.Own.app (ty:=23) (w:=w.alloc (qp #[k] 3)) zFn (i.alloc _) (yA ⟨w,0,yB⟩) 1 1 [ival k] (xM w _ 3) rfl (fun h=>by cases h) (fun u hu=>by rw[qRe]at hu;subst hu;rfl) (by unfold maxLen;omega) za (by have:=h.BB;simp;omega);have j:∀q,q<B->yA q≠(Value.slice a (kN z) c).ownBlock:=fun q hq e=>by have:=(i.block) q e.symm;omega
  have P:y.cell? ⟨b,1,yB⟩=yA (qZ a (kN z) c):=cell_grown d (cell_grown (qR4 w _ yB) Z zm) (j b h.bB);have O:y.cell? ⟨b,0,yB⟩=yA (qZ (yA ⟨g,0,yB⟩) n cp):=cell_grown d (cell_grown (qR4 w _ yB) h.bytes zm) (j b h.bB);have V:y.frozen? ⟨b,1,yB⟩=yI:=by
   rw[zF7 d zq (j b h.bB),zF7 (qR4 w _ yB) (by exact S) zm];exact h.free
  have m:Byt y g l:=(h.byt.grown (qR4 w _ yB) zm).grown d (j g h.gB);have p:Byt (y.setCell ⟨b,1,yB⟩ (qZ a1 (kN z+1) c1)) g l:=m.grown (zBv y b 1 _) (fun e=>h.ne (by injection e));have G:(y.setCell ⟨b,1,yB⟩ (qZ a1 (kN z+1) c1)).cell? ⟨b,0,yB⟩=yA (qZ (yA ⟨g,0,yB⟩) n cp):=by
   rw[qQf _ _ _ _ (by intro e;injection e with _ e2 _;omega)];exact O
  have o:(y.setCell ⟨b,1,yB⟩ (qZ a1 (kN z+1) c1)).cell? ⟨b,1,yB⟩=yA (qZ a1 (kN z+1) c1):=qRj _ _ _ P;have M:(y.setCell ⟨b,1,yB⟩ (qZ a1 (kN z+1) c1)).frozen? ⟨b,1,yB⟩=yI:=by rw[qSw];exact V
  have a6:w.heap.size<=y.heap.size:=by have:=d.size;simp at this;omega
  have F:yM D w (y.setCell ⟨b,1,yB⟩ (qZ a1 (kN z+1) c1)):=by
   refine Below.trans ((yR _ _).alloc za _) (Below.trans ((yR _ _).grown d zq (fun q hq=>by have:=i.block q hq;have:=h.gB;omega)) (zCi (zBv y b 1 _) a4 za))
  have L:∀q,(Value.slice a1 (kN z+1) c1).ownBlock=yA q->B<=q:=t.block;obtain⟨HO,HG,a3,Y,N,W,a7⟩:=yg t G o M F p L;clear t G o M F p m L d j i r I hp hk hx h;go_enter func150,ntmps150;go_wp2_with fail;refine(zOw _ g n cp l x H.out.len H.out.byt).mono ?_;rintro e w2 ⟨rfl,rfl⟩;rw[hP.out];go_wp2_with (at_builtin;refine xG rfl (.tmp 19) (.tmp 21) 23 rfl rfl rfl a2 ?_);refine(zPy _ g n cp l k H.out.len R H.out.ncp H.out.cpm W.out).mono ?_;rintro e w3 ⟨rfl,s,K⟩;obtain⟨X,f⟩:=yU s K;clear s K;go_wp2;go_ret;have hne:yA b≠yA g:=fun e=>H.out.ne (by injection e with e;exact e.symm);have ab:=f.out.size;have a0:(y.setCell ⟨b,1,yB⟩ (qZ a1 (kN z+1) c1)).heap.size=y.heap.size:=by simp[World.setCell]
  refine qy ⟨HX.out,rfl,?_,N.out.trans (zCi f.out a5 (by have:=H.out.BB;have:=H.out.gB;omega))⟩;refine{byt:= ?_,len:= ?_,ncp:=H.out.ncp,cpm:=H.out.cpm,gB:=H.out.gB,bB:=H.out.bB,ne:=H.out.ne,BB:= ?_,bytes:= ?_,places:= ?_,free:= ?_}
  .rw[zOq l x HX.out,HK.out];exact X.out
  .rw[zH2 HX.out];exact H.out.len
  .have:=H.out.BB;omega
  .exact cell_grown f.out HG.out hne
  .rw[qP0,qQb,HK.out];exact⟨a1,c1,zIx (zNd HO.out b 1 _ H.out.bB) f.out H.out.gB,cell_grown f.out a3.out hne⟩
  .rw[zF7 f.out (by rw[a0];show b<_;omega) hne];exact Y.out
 .have hp:zDp l x= -1:=by unfold zDp;rw[qPt hx]
  obtain⟨hP,HX⟩:=yU hp hx;clear h r hp hx;go_enter func150,ntmps150;go_wp2_with fail;refine(zOw _ g n cp l x H.out.len H.out.byt).mono ?_;rintro e y ⟨rfl,rfl⟩;rw[hP.out];go_wp2;go_ret;exact qz ⟨HX.out,rfl,rfl⟩
end Front
namespace Front
open Kit (zAe)
variable {w w':yC} {B n c r:Nat} {e:yE} {xs:List yD} {u x y:yD}
theorem zLb (h:yu w B e yB n c xs):c=0:=by
 rcases h.2 with⟨a,_⟩|⟨g,b,d,hv,_⟩
 .injection a
 .injection hv with ha;cases ha
def AdF (a:Option yF) (n c:Nat):Prop:=(a=yB/\n=0/\c=0)\/(n<=c/\c<=9223372036854775807/\∃b off,a=yA ⟨b,off,yB⟩)
theorem AdF.zIz {a:Option yF} (h:yu w B e a n c xs):AdF a n c:=by
 obtain⟨_,f⟩:=h;rcases f with⟨f,l⟩|⟨g,i,j,hv,k,m,d,b,_⟩
 .injection f with f h4 h5
  exact qz ⟨f,h4,h5⟩
 .injection hv with ha _ hc
  subst ha hc;exact qy ⟨d,by unfold maxLen at b;omega,g,0,rfl⟩
structure Two (w:yC) (r:Nat):Prop where
 c0:w.cell? ⟨r,0,yB⟩=yA (qZ yB 0 0)
 c1:w.cell? ⟨r,1,yB⟩=yA (qZ yB 0 0)
 f0:w.frozen? ⟨r,0,yB⟩=yI
 f1:w.frozen? ⟨r,1,yB⟩=yI
 lt:r<w.heap.size
theorem Two.below (h:Two w r) (a:yM B w w') (b:r<B):Two w' r:=
 ⟨by rw[a.cell (p:=⟨r,0,yB⟩) b];exact h.c0,by rw[a.cell (p:=⟨r,1,yB⟩) b];exact h.c1,by rw[a.frozen (p:=⟨r,0,yB⟩) b];exact h.f0,by rw[a.frozen (p:=⟨r,1,yB⟩) b];exact h.f1,by have:=h.lt;have:=a.size;omega⟩
theorem Two.new (w:yC):Two (w.alloc (qp #[qZ yB 0 0,qZ yB 0 0] 152)) w.heap.size:=
 ⟨zm,zm,zm,zm,zm⟩
theorem Below.set2 {D:Nat} (h:yM D w w') (a:D<=r) (b:D<=w.heap.size) (u v:yD):yM D w ((w'.setCell ⟨r,0,yB⟩ u).setCell ⟨r,1,yB⟩ v):=
 h.trans ((zCi (zBv w' r 0 u) a (by have:=h.size;omega)).trans (zCi (zBv _ r 1 v) a (by have:=h.size;simp[World.setCell];omega)))
theorem qAh (w:yC) (r:Nat) (x y:yD) (a:w.cell? ⟨r,0,yB⟩=yA x) (b:w.cell? ⟨r,1,yB⟩=yA y):(loadVar 152 ⟨r,0,yB⟩).run yK w= .ok (.agg #[x,y]) w:=by
 simp[loadVar,go_sem,a,b]
theorem zGx (tmps:Array yD) (w:yC) (r:Nat) (e x y:yD) (d:tmps.getD 4 yN=qc (yA ⟨r,0,yB⟩)) (f:tmps.getD 5 yN=e) (a:w.cell? ⟨r,0,yB⟩=yA x) (b:w.cell? ⟨r,1,yB⟩=yA y):
  (results f77 tmps).run yK w= .ok (qg #[.agg #[x,y],e]) w:=by
 rw[results_cell_tmp rfl,d,f];simp[asAddr,qAh w r x y a b,Result.andThen]
theorem zCy (h:w.cell? ⟨r,0,yB⟩=yA u):((w.setCell ⟨r,0,yB⟩ x).setCell ⟨r,1,yB⟩ y).cell? ⟨r,0,yB⟩=yA x:=by
 rw[qQf _ _ _ _ (by intro e;injection e with _ e2 _;omega)];exact qRj _ _ _ h
theorem zCx (h:w.cell? ⟨r,1,yB⟩=yA u):((w.setCell ⟨r,0,yB⟩ x).setCell ⟨r,1,yB⟩ y).cell? ⟨r,1,yB⟩=yA y:=
 qRj _ _ _ (u:=u) (by rw[qQf _ _ _ _ (by intro e;injection e with _ e2 _;omega)];exact h)
def zR6 (a s:T) (w:yC) (e:Ending) (w':yC):Prop:=
 yM w w w'/\
 ((right a=yI/\e=qx (qg #[.agg #[qZ yB 0 0,qZ yB 0 0],qX qm 1]))\/
  (right a=yH/\all a s=yI/\e=qx (qg #[.agg #[qZ yB 0 0,qZ yB 0 0],qX qm 5]))\/
  (right a=yH/\all a s=yH/\∃g b p c,e=qx (qg #[.agg #[qZ (yA ⟨g,0,yB⟩) (kN a) b,qZ p (kN s) c],qX qm 0])/\
   Byt w' g (zEn a s)/\yt w' p ((zB4 a s).map ival)/\(p=yB->c=0)/\AdF p (kN s) c))
theorem zHo (a s:ByteArray) (ha:a.size<=1000) (hs:s.size<=1000) (w:yC):
  yG yK 77 #[qY a,qY s] w (zR6 a.data.toList s.data.toList w):=by
 obtain⟨q,hA⟩:∃q,q=w.alloc (qp #[qZ yB 0 0,qZ yB 0 0] 152):=⟨_,rfl⟩;have d:=run_bytes_of_string (P:=yK) q 9 109 5 a underlying9 underlying109 underlying5;have I:=grownCap_ge q a.size 0 5;have O:=grownCap_le_maxLen q a.size 0 5 (by unfold maxLen;omega);have c:=Byt.new q a (grownCap q a.size 0 5) 5;obtain⟨z,t⟩:=zB (grownCap q a.size 0 5);rw[t]at d I O c;obtain⟨wB,hB⟩:=zB (q.drew.alloc (qp (bytesRow a z) 5 ((bytesRow a z).size,(bytesRow a z).size+1)));rw[hB]at d c;have V:q.heap.size=w.heap.size+1:=by rw[hA];simp
 have j:wB.heap.size=w.heap.size+2:=by
  rw[<-hB];show(q.heap.push _).size=_;rw[Array.size_push];omega
 rw[V]at d c;have K:Two q w.heap.size:=by rw[hA];exact Two.new w
 have L:yM w w q:=by rw[hA];exact(yR _ _).alloc (qPq _) _
 have F:yM (w.heap.size+1) q wB:=by rw[<-hB];exact(yR _ _).drew.alloc (by show _<=q.heap.size;omega) _
 obtain⟨wC,hC⟩:∃wC,wC=wB.alloc (qp #[qZ (yA ⟨w.heap.size+1,0,yB⟩) a.size z,qZ yB 0 0] 152):=⟨_,rfl⟩;have a6:wC.heap.size=w.heap.size+3:=by
  rw[hC];show(wB.heap.push _).size=_;rw[Array.size_push];omega
 have o:yM (w.heap.size+1) q wC:=by rw[hC];exact F.alloc za _
 have N:=K.below o za;have m:Byt wC (w.heap.size+1) a.data.toList:=by rw[hC];exact c.grown (qR4 _ _ yB) zm
 have M:wC.cell? ⟨w.heap.size+2,0,yB⟩=yA (qZ (yA ⟨w.heap.size+1,0,yB⟩) a.size z):=by rw[hC,<-j];simp
 have G:wC.cell? ⟨w.heap.size+2,1,yB⟩=yA (qZ yB 0 0):=by rw[hC,<-j];simp
 have H:wC.frozen? ⟨w.heap.size+2,1,yB⟩=yI:=by rw[hC,<-j];simp
 obtain⟨HB,HA,X,Y,H0,H1,HF⟩:=yg o L m N M G H;have R:=d;clear o L m N M G H c F K hB t;subst hA;go_enter func77,ntmps77;go_wp2_with fail;rw[<-hC];refine(zGf a (by unfold maxLen;omega) _).mono ?_;rintro e w1 ⟨rfl,b1⟩;clear d R;have a0:=Y.out.below b1 za;have u:yM (w.heap.size+1) (w.alloc (qp #[qZ yB 0 0,qZ yB 0 0] 152)) w1:=HB.out.trans (b1.mono za);by_cases hr:right a.data.toList=yH
 .rw[hr];have n:Tel w1 (w.heap.size+2) (w.heap.size+1) a.size z (w.heap.size+3) a.data.toList []:={
   byt:=X.out.below b1 za,len:=zAl a,ncp:=I,cpm:=O,gB:=by omega,bB:=by omega,ne:=za
   BB:=by have:=b1.size;omega
   bytes:=by rw[b1.cell (p:=⟨w.heap.size+2,0,yB⟩) (by show w.heap.size+2<_;omega)];exact H0.out
   places:=⟨yB,0,Kit.Own.start _ _ _,by rw[b1.cell (p:=⟨w.heap.size+2,1,yB⟩) (by show w.heap.size+2<_;omega)];exact H1.out⟩
   free:=by rw[b1.frozen (p:=⟨w.heap.size+2,1,yB⟩) (by show w.heap.size+2<_;omega)];exact HF.out}
  obtain⟨HT,HR⟩:=yU n hr;clear n hr;go_wp2;go_loopw [18] (fun i wr=>∃k:Nat,k<=s.size/\i=qX qm k/\yL (Tel wr (w.heap.size+2) (w.heap.size+1) a.size z (w.heap.size+3) (zEn a.data.toList (s.data.toList.take k)) (zB4 a.data.toList (s.data.toList.take k)))/\yL (all a.data.toList (s.data.toList.take k)=yH)/\yM (w.heap.size+1) (w.alloc (qp #[qZ yB 0 0,qZ yB 0 0] 152)) wr) (fun i _=>s.size-(intOf i).toNat)
  case atStart=>exact⟨0,za,rfl,HT,zH rfl,u⟩
  case round=>
   obtain⟨k,hk,rfl,ht,b,hb⟩:=hrel;have B:=(Two.new w).below hb za;by_cases r:k<s.size
   .have a5:kN (zB4 a.data.toList (s.data.toList.take k))=k:=by rw[zDi,qQh,zAl];omega
    go_wp2_with fail;refine(zY8 _ _ _ _ _ _ (w.heap.size+1) _ _ s[k] ht.out za za za).mono ?_;rintro e w2 (⟨Z,rfl,rfl⟩|⟨a1,rfl,W,a3⟩)
    .obtain⟨e0,e1,e2,e3,e4⟩:=B;go_wp2;have S:all a.data.toList s.data.toList=yI:=by
      rw[Bool.eq_false_iff];intro h;rw[zUa]at h;exact Z ((zLi _ _ b.out _).2 (h _ (by rw[<-zLh s k r];exact qP9 _)))
     refine qP5 (zGx _ _ w.heap.size _ _ _ rfl rfl (zCy e0) (zCx e1)) rfl ⟨HA.out.trans (Below.set2 (hb.mono za) (qPq _) za _ _),qy (qz ⟨HR.out,S,rfl⟩)⟩
    .go_wp2;go_roundw
     case rel=>
      refine⟨k+1,za,by go_num,?_,?_,hb.trans a3⟩
      .rw[qQp (by rw[zAl];exact r),zX3,zW5];exact zH W
      .rw[qQp (by rw[zAl];exact r),qBo,b.out,Bool.true_and,qRm];exact zH ((zLi _ _ b.out _).1 a1)
     case measure=>exact qV
   .obtain rfl:k=s.size:=za
    obtain⟨e0,e1,e2,e3,e4⟩:=B;have l:s.data.toList.take s.size=s.data.toList:=qQc (by rw[zAl];omega);rw[l]at ht b;obtain⟨pa,pc,g,a4⟩:=ht.out.places;have a7:=ht.out.bytes;have x:kN (zB4 a.data.toList s.data.toList)=s.size:=by rw[zDi,zAl]
    rw[x]at a4 g;have f:=zH g;clear g x l;go_wp2
    try simp only[Exit.inBlock,Exit.then]
    have a2:wr.grownBy ((wr.setCell ⟨w,0,yB⟩ (qZ (yA ⟨w.heap.size+1,0,yB⟩) a.size z)).setCell ⟨w.heap.size,1,yB⟩ (qZ pa s.size pc)) (yA w.heap.size):=zCd (zBv _ _ _ _) (zBv _ _ _ _);refine qP5 (zGx _ _ w.heap.size _ _ _ rfl rfl (zCy e0) (zCx e1)) rfl ⟨HA.out.trans (Below.set2 (hb.mono za) (qPq _) za _ _),qy (qy ⟨HR.out,b.out,w.heap.size+1,z,pa,pc,?_,?_,?_,fun h=>by subst h;exact zLb f.out,by rw[zAl];exact AdF.zIz f.out⟩)⟩
    .rw[zAl,zAl];rfl
    .exact ht.out.byt.grown a2 (by intro e;injection e with e;omega)
    .exact(zNd (zNd f.out w.heap.size 0 _ za) w.heap.size 1 _ za).src
 .rw[Bool.not_eq_true]at hr;rw[hr];obtain⟨e0,e1,e2,e3,e4⟩:=a0;go_wp2
  try simp only[Exit.inBlock,Exit.then]
  refine qP5 (zGx _ _ w.heap.size _ _ _ rfl rfl (zCy e0) (zCx e1)) rfl ⟨HA.out.trans (Below.set2 (u.mono za) (qPq _) za _ _),qz ⟨hr,rfl⟩⟩
end Front
namespace Front
open Kit (zAe)
theorem zJj (w:yC) (p:Option yF) (l:List yD) (h:l=[]):yt w p l:=by subst h;exact Kit.Src.nil w p
theorem zHn {a s:T} {w w':yC} {e:Ending} (h:zR6 a s w e w'):
  ∃A n q p m c,e=qx (qg #[.agg #[qZ A n q,qZ p m c],qX qm (codeF a s)])/\n=kN (zN a s)/\m=kN (zFw a s)/\yt w' A ((zN a s).map zAe)/\yt w' p ((zFw a s).map ival)/\yM w w w'/\(p=yB->c=0)/\AdF p m c:=by
 obtain⟨r,⟨l,rfl⟩|⟨l,o,rfl⟩|⟨l,o,g,q,p,c,rfl,f,b,d,had⟩⟩:=h
 .have i:=zYd a s l;have j:=zQn a s (by rw[i];decide);have k:=zQl a s (by rw[i];decide);exact⟨yB,0,0,yB,0,0,by rw[i],by rw[j];rfl,by rw[k];rfl,zJj _ _ _ (by rw[j];rfl),zJj _ _ _ (by rw[k];rfl),r,fun _=>rfl,qz ⟨rfl,rfl,rfl⟩⟩
 .have i:=zVg a s l o;have j:=zQn a s (by rw[i];decide);have k:=zQl a s (by rw[i];decide);exact⟨yB,0,0,yB,0,0,by rw[i],by rw[j];rfl,by rw[k];rfl,zJj _ _ _ (by rw[j];rfl),zJj _ _ _ (by rw[k];rfl),r,fun _=>rfl,qz ⟨rfl,rfl,rfl⟩⟩
 .have i:=zRr a s l o;have j:=qCz a s i;have k:=zQm a s i;exact⟨_,kN a,q,p,kN s,c,by rw[i],by rw[j,zKp s a o],by rw[k,zDi],by rw[j];exact f.src,by rw[k];exact b,r,d,had⟩
theorem zMo (a s:ByteArray) (q:a.size<=1000) (t:s.size<=1000) (w:yC):
  yG yK 21 #[qY a,qY s] w (fun e w'=>∃p c,e=qx (qg #[qZ p (kN (zFw a.data.toList s.data.toList)) c,qX qm (codeF a.data.toList s.data.toList)])/\yt w' p ((zFw a.data.toList s.data.toList).map ival)/\yM w w w'/\(p=yB->c=0)/\AdF p (kN (zFw a.data.toList s.data.toList)) c):=by
 go_enter func21,ntmps21;go_wp2_with fail;refine(zHo a s q t w).mono ?_;intro e x h;obtain⟨A,n,u,p,m,c,rfl,r,i,o,j,k,b,had⟩:=zHn h;have l:=zH j;have g:=yT (AdF p (kN (zFw a.data.toList s.data.toList)) c) (by rw[<-i];exact had);obtain⟨HM,f⟩:=yU i b;clear h o j r i b had;have d:=k.size;go_wp2;go_ret2;exact⟨p,c,by rw[<-HM.out];rfl,l.out.below ((yR _ _).alloc (qPq _) _),k.alloc d _,f.out,g.out⟩
end Front
namespace Front
open Kit (zAe)
abbrev qAp (x:Int):yD:=qX qm x
def zSb (a:T) (l:List Int) (w:yC) (e:Ending) (w':yC):Prop:=
 e=qx (qg #[qY ⟨(zIv a l).toArray⟩,qX qm (zC3 a l)])/\yM w w w'
theorem qE4 {w:yC} {p:Option yF} {l:List Int} (h:yt w p (l.map qAp)) (k:Nat) (e:k<kN l):∃b a,p=yA ⟨b,a,yB⟩/\b<w.heap.size/\w.cell? ⟨b,a+k,yB⟩=yA (qX qm l[k]):=by
 obtain⟨b,a,d,c⟩:=h k (qAp l[k]) (by rw[qP3,qPu e];rfl);exact⟨b,a,d,qQk c,c⟩
theorem one_byte:Kit.One yK 109 5 1:=⟨underlying109,qX qo 0,zf,rfl⟩
theorem zO5 (a:T) (l:List Int) (k:Nat) (c:k<kN l) (d:right a=yH) (h:¬(0<=l[k]/\l[k]<(kN a:Int))):zC3 a l=5:=by
 refine zVh a l d ?_;rw[Bool.eq_false_iff];intro b;exact h ((zNo _ _).1 b _ (qP9 c))
structure Bak (w:yC) (b g n cp B:Nat) (l:T) (v:yD) (out:T):Prop where
 byt:Byt w g l
 len:kN l=n
 ncp:n<=cp
 cpm:cp<=maxLen
 gB:g<B
 bB:b<B
 ne:g≠b
 BB:B<=w.heap.size
 bytes:w.cell? ⟨b,0,yB⟩=yA (qZ (yA ⟨g,0,yB⟩) n cp)
 out:∃a c,v=qZ a (kN out) c/\yu w B 5 a (kN out) c (out.map zAe)
theorem zLq (a:ByteArray) (ha:a.size<=1000) (p:Option yF) (c n:Nat) (l:List Int) (hl:kN l=n) (hn:n<=100000) (w:yC) (ar:yt w p (l.map qAp)):
  yG yK 38 #[qY a,qZ p n c] w (zSb a.data.toList l w):=by
 have af:=zH ar;clear ar;go_enter func38,ntmps38;go_wp2_with fail;refine(zGf a (by unfold maxLen;omega) _).mono ?_;rintro e z ⟨rfl,b1⟩;by_cases hr:right a.data.toList=yH
 .rw[hr];obtain⟨HR,HL⟩:=yU hr hl;clear hr hl;have Y:=run_bytes_of_string (P:=yK) z 9 109 5 a underlying9 underlying109 underlying5;have r:=grownCap_ge z a.size 0 5;have H:=grownCap_le_maxLen z a.size 0 5 (by unfold maxLen;omega);have u:=Byt.new z a (grownCap z a.size 0 5) 5;obtain⟨cp,a1⟩:=zB (grownCap z a.size 0 5);rw[a1]at Y r H u;obtain⟨wB,hB⟩:=zB (z.drew.alloc (qp (bytesRow a cp) 5 ((bytesRow a cp).size,(bytesRow a cp).size+1)));rw[hB]at Y u;have X:wB.heap.size=z.heap.size+1:=by
   rw[<-hB];show(z.heap.push _).size=_;rw[Array.size_push]
  have a2:=b1.size;have a5:yM w w wB:=by rw[<-hB];exact b1.drew.alloc a2 _
  obtain⟨wC,hC⟩:∃wC,wC=wB.alloc (qp #[qZ (yA ⟨z,0,yB⟩) a.size cp] 150):=⟨_,rfl⟩;have a0:wC.heap.size=z.heap.size+2:=by
   rw[hC];show(wB.heap.push _).size=_;rw[Array.size_push];omega
  have a4:yM w w wC:=by rw[hC];exact a5.alloc za _
  have O:Byt wC z.heap.size a.data.toList:=by rw[hC];exact u.grown (qR4 _ _ yB) zm
  have a9:wC.cell? ⟨z.heap.size+1,0,yB⟩=yA (qZ (yA ⟨z,0,yB⟩) a.size cp):=by rw[hC,<-X];simp
  obtain⟨i,hi,a7,ab,R⟩:=qRv (show(prog.info? 5).map (fun i=>(i.zero,i.size,i.bytes))=yA (yA (qX qo 0),1,1)from zf);obtain⟨wD,ad,m,f⟩:=run_make_own (P:=yK) (w:=wC) (z.heap.size+2) 109 5 i _ 1 underlying109 hi a7 ab qm qm n (by rw[R];omega) (by unfold maxLen;omega) za;rw[a0]at ad m;have S:Bak wD (z.heap.size+1) z.heap.size a.size cp (z.heap.size+2) a.data.toList (qZ (yA ⟨z.heap.size+2,0,yB⟩) 0 n) []:={
   byt:=O.grown f zm,len:=zAl a,ncp:=r,cpm:=H,gB:=by omega,bB:=by omega,ne:=za
   BB:=by have:=f.size;omega
   bytes:=cell_grown f a9 zm
   out:=⟨_,_,rfl,m⟩}
  have ai:yM w w wD:=a4.trans ((yR _ _).grown f za (fun k hk=>by cases hk));obtain⟨ag,ac,aa⟩:=yV S r H;clear S O a9 hi a7 ab R m f a4 a5 u a1 r H;have ay:z.heap.size+1<z.heap.size+2:=za
  subst hC;go_wp2;clear ad Y hB a0 X;go_loopw [7,21] (fun v i wr=>∃k:Nat,k<=n/\i=qX qm k/\yL (Bak wr (z.heap.size+1) z.heap.size a.size cp (z.heap.size+2) (unf a.data.toList (zBs (l.take k))) v (unp a.data.toList (zBs (l.take k))))/\yL (inR (kN a.data.toList) (l.take k)=yH)/\yM w w wr) (fun _ i _=>n-(intOf i).toNat)
  case atStart=>exact⟨0,za,rfl,ag,zH rfl,ai⟩
  case round=>
   obtain⟨k,hk,rfl,ht,B,hb⟩:=hrel;by_cases am:k<n
   .have s:k<kN l:=by rw[HL.out];exact am
    obtain⟨b0,ap,rfl,ah,t⟩:=qE4 af.out k s;have V:_:=hb.cell (p:=⟨b0,ap+k,yB⟩) ah;rw[t]at V;have a6:=ht.out.bytes;obtain⟨x,hx⟩:=zB (l[k]);rw[hx]at t V;have HX:=zH hx;clear hx;by_cases ax:x<0
    .have h5:=zO5 a.data.toList l k s HR.out (by rw[HX.out];omega);have h6:=zK7 a.data.toList l (by rw[h5];decide);obtain⟨H5,H6⟩:=yU h5 h6;clear h5 h6;go_wp2;go_ret2;exact⟨by rw[H5.out,H6.out];rfl,hb⟩
    .obtain⟨q,rfl⟩:=qT5 (show 0<=x by omega);by_cases au:q<a.size
     .have F:kN (unf a.data.toList (zBs (l.take k)))=a.size:=by
       rw[zLz _ _ (qC8 _ _ B.out),zAl]
      obtain⟨y,hy⟩:=zB ((unf a.data.toList (zBs (l.take k))).getD q 0);obtain⟨HY,M⟩:=yU hy F;clear hy F;go_wp2_with fail;refine(zPy _ z.heap.size a.size cp (unf a.data.toList (zBs (l.take k))) q M.out za ac.out aa.out ht.out.byt).mono ?_;rintro e w2 ⟨rfl,N,j⟩;rw[HY.out];obtain⟨oa,oc,rfl,b⟩:=ht.out.out;have o:=zIx b j za;have R:=j.size;have az:=ht.out.BB;have an:kN (unp a.data.toList (zBs (l.take k)))<=100000:=by rw[zLx];unfold zBs;rw[qQj,qQh];omega
      obtain⟨a3,c3,w3,aq,a8,g⟩:=Kit.Own.app (ty:=109) (w:=w2.alloc (qp #[qX qo (y.toNat:Int)] 5)) one_byte (o.alloc _) (yA ⟨w2,0,yB⟩) 1 1 [zAe y] (xM w2 _ 5) rfl (fun h=>by cases h) (Kit.zG [y]) (by unfold maxLen;omega) za zq;have Z:∀q,q<z.heap.size+2->yA q≠(Value.slice oa (kN (unp a.data.toList (zBs (l.take k)))) oc).ownBlock:=fun q hq e=>by have:=(b.block) q e.symm;omega
      have W:kN (bring (unf a.data.toList (zBs (l.take k))) q)=a.size:=by rw[zD6 _ _ (by rw[M.out];omega),M.out]
      have ak:=g.size;have K:Bak w3 (z.heap.size+1) z.heap.size a.size cp (z.heap.size+2) (bring (unf a.data.toList (zBs (l.take k))) q) (qZ a3 (kN (unp a.data.toList (zBs (l.take k)))+1) c3) (unp a.data.toList (zBs (l.take k))++[y]):={
       byt:=(N.grown (qR4 w2 _ yB) zm).grown g (Z _ za),len:=W,ncp:=ac.out,cpm:=aa.out,gB:=by omega,bB:=by omega,ne:=za
       BB:=by simp at ak;omega
       bytes:=cell_grown g (cell_grown (qR4 w2 _ yB) (cell_grown j a6 (by intro e;injection e with e;simp at e)) zm) (Z _ za)
       out:=⟨a3,c3,by rw[qP0];rfl,by rw[qP0,qQb];exact a8⟩}
      have G:yM w w w3:=hb.trans ((zCi j a2 za).trans (((yR _ _).alloc za _).trans ((yR _ _).grown g zq (fun q hq=>by have:=b.block q hq;omega))));have d:yL (unf a.data.toList (zBs (l.take (k+1)))=bring (unf a.data.toList (zBs (l.take k))) q/\unp a.data.toList (zBs (l.take (k+1)))=unp a.data.toList (zBs (l.take k))++[y]/\inR (kN a.data.toList) (l.take (k+1))=yH):=by
       have e:l.take (k+1)=l.take k++[(q:Int)]:=by rw[qQp s,HX.out]
       refine zH ⟨?_,?_,?_⟩
       .rw[e,zOp,zY2];rfl
       .rw[e,zOp,zY0,<-HY.out];rfl
       .rw[e,qAr,B.out,Bool.true_and,qRm,zAl];omega
      obtain⟨aj,ao⟩:=yU K G;clear K G a8 g b o N j Z W V a6 an hb;go_wp2_with (at_builtin;refine xG rfl (.tmp 34) (.tmp 38) 109 rfl rfl rfl aq ?_);go_roundw
      case rel=>
       refine⟨k+1,za,by go_num,?_,zH d.out.2.2,ao.out⟩;rw[d.out.1,d.out.2.1];exact aj
      case measure=>exact qV
     .have h5:=zO5 a.data.toList l k s HR.out (by rw[HX.out,zAl];omega);have h6:=zK7 a.data.toList l (by rw[h5];decide);obtain⟨H5,H6⟩:=yU h5 h6;clear h5 h6;go_wp2;go_ret2;exact⟨by rw[H5.out,H6.out];rfl,hb⟩
   .obtain rfl:k=n:=za
    have I:l.take k=l:=qQc (by rw[HL.out];omega);rw[I]at ht B;have L:=zRs a.data.toList l HR.out B.out;have ae:=zTj a.data.toList l L;obtain⟨HC,HE⟩:=yU L ae;obtain⟨oa,oc,rfl,b⟩:=ht.out.out;have av:=b.src.text (P:=yK) (src:=109) (dst:=9) (e:=5) (c:=oc) rfl underlying109 underlying5 underlying9;clear I L ae b;go_wp2;go_ret2;exact⟨by rw[HC.out,HE.out];rfl,hb⟩
 .rw[Bool.not_eq_true]at hr;rw[hr];have hc:=zYe a.data.toList l hr;have e1:=zK7 a.data.toList l (by rw[hc];decide);obtain⟨HC,HE⟩:=yU hc e1;clear hc e1;go_wp2;go_ret2;exact⟨by rw[HC.out,HE.out];rfl,b1⟩
end Front
namespace Zr
open Front
theorem zMt (n:Nat) (F:n<=1000000) (w:yC):
  yG yK 46 #[n] w fun e w'=>∃a c,e=qx (qZ a (kN (digits n)) c)/\yu w' w.heap.size 3 a (kN (digits n)) c ((digits n).map ival)/\yM w w w':=by
 go_enter func46,ntmps46;go_wp2;go_loopw [0,2] (fun i v wr=>∃(k:Nat) (d:List Nat) (p:Option yF) (c:Nat),i=qX qm k/\v=qZ p (kN d) c/\k<=1000000/\yL (d++digits k=digits n)/\yL (yu wr w.heap.size 3 p (kN d) c (d.map ival))/\yL (yM w w wr)) (fun i _ _=>(intOf i).toNat)
 case atStart=>exact⟨n,[],yB,0,rfl,rfl,F,zH rfl,zH (Kit.Own.start _ _ _),zH (yR _ _)⟩
 case round=>
  obtain⟨k,d,p,c,rfl,rfl,M,hd,b,x⟩:=hrel;rcases qQz k with u|u
  .subst u;have t:=hd.out;rw[zEu,qQv]at t;subst t;go_wp2;go_ret;exact⟨p,c,rfl,b.out,x.out⟩
  .obtain⟨q,rfl⟩:∃q,k=q+1:=⟨k-1,za⟩;have t:=hd.out;rw[zFh u,qSr]at t;have r:kN d<=1000000:=by
    have K:=zIa n;have L:kN (digits n)=kN d+(kN (digits (q/2))+1):=by rw[<-t];simp
    omega
   obtain⟨m,y⟩:=zB (kN d);rw[y]at b r⊢;have z:=x.out.size;obtain⟨H,c3,I,s,f,g⟩:=Kit.Own.app (ty:=23) (w:=wr.alloc (qp #[qX qm ((q%2:Nat):Int)] 3)) zFn (b.out.alloc _) (yA ⟨wr,0,yB⟩) 1 1 [ival (q%2)] (xM wr _ 3) rfl (fun h=>by cases h) (zDr [q%2]) (by unfold maxLen;omega) za zq;have j:yM w w I:=x.out.trans (((yR _ _).alloc z _).trans ((yR _ _).grown g zq (fun q G=>b.out.block q G)));obtain⟨o,l,B,HM⟩:=yX f j t y;clear f j g t y z hd;have N:IntKind.i64.wrap (((q+1:Nat):Int)-1)=(q:Int):=by rw[qQa _ ⟨za,za⟩];omega
   have O:(q:Int).tmod 2=((q%2:Nat):Int):=by rw[qS5 za];rfl
   have P:(q:Int).tdiv 2=((q/2:Nat):Int):=by rw[Int.tdiv_eq_ediv_of_nonneg za];rfl
   go_wp2_with (at_builtin;refine xG rfl (.tmp 8) (.tmp 12) 23 rfl rfl rfl s ?_);go_roundw
   case rel=>exact⟨q/2,d++[q%2],H,c3,rfl,by rw[qP0,HM.out];rfl,za,zH (by rw[qQr];exact B.out),zH (by rw[qP0,HM.out,qQb];exact o.out),l⟩
   case measure=>exact qV
end Zr
namespace Ix
open Front
def fi (P:Nat->Bool):List Nat->Nat
 |[]=>0
 |x::r=>if P x then 0 else fi P r+1
theorem qCc (P:Nat->Bool):∀l,fi P l<=kN l
 |[]=>qPq _
 |x::r=>by have:=qCc P r;unfold fi;split<;>rw[qP4]<;>omega
theorem qCd (P:Nat->Bool):∀(l:List Nat) (k:Nat) (a:k<kN l),(∀j (c:j<k),P (l[j]' za)=yI)->P l[k]=yH->fi P l=k
 |[],k,a,_,_=>by simp at a
 |x::r,0,_,_,h=>by simp at h;unfold fi;rw[qPr h]
 |x::r,k+1,a,h0,h=>by
  have b:P x=yI:=h0 0 za;unfold fi;rw[b,if_neg zm,qCd P r k (by simpa using a) (fun j c=>by have:=h0 (j+1) za;simpa using this) (by simpa using h)]
theorem zT3 (P:Nat->Bool):∀l:List Nat,(∀x∈l,P x=yI)->fi P l=kN l
 |[],_=>rfl
 |x::r,h=>by
  unfold fi;rw[h x zm,qPt zm,zT3 P r (fun y a=>h y (by simp[a]))];rfl
@[irreducible] def ix (P:Nat->Bool) (l:List Nat):Int:=if fi P l<kN l then(fi P l:Int)else-1
theorem qB6 (P:Nat->Bool) (l:List Nat) (k:Nat) (a:k<kN l) (b:∀j (c:j<k),P (l[j]' za)=yI) (h:P l[k]=yH):ix P l=(k:Int):=by
 unfold ix;rw[qCd P l k a b h,qPr a]
theorem zNm (P:Nat->Bool) (l:List Nat) (h:∀j (a:j<kN l),P l[j]=yI):ix P l= -1:=by
 unfold ix;rw[zT3 P l (fun x b=>by obtain⟨j,a,rfl⟩:=qTg b;exact h j a),qPt (Nat.lt_irrefl _)]
theorem zXo (P:Nat->Bool) (l:List Nat):decide (0<=ix P l)=l.any P:=by
 by_cases h:∀x∈l,P x=yI
 .rw[zNm P l (fun j f=>h _ (qP9 f))];rw[List.any_eq_false.2 (fun x a=>by rw[h x a];simp)];rfl
 .have d:l.any P=yH:=by
   rw[List.any_eq_true];apply Classical.byContradiction;intro g;exact h (fun x a=>by cases hp:P x with|false=>rfl|true=>exact absurd ⟨x,a,hp⟩ g)
  have e:fi P l<kN l:=by
   rcases qP8 (fi P l) (kN l) with c|c
   .exact c
   .exfalso;have:∀m:List Nat,kN m<=fi P m->∀x∈m,P x=yI:=by
     intro m
     induction m with
     |nil=>intro _ x a;cases a
     |cons y r ih=>
      intro b x a;unfold fi at b;split at b
      .simp at b
      .rename_i hy
       rcases qP6.1 a with rfl|a
       .simpa using hy
       .exact ih (by simpa using b) x a
    exact h (this l c)
  rw[d];unfold ix;rw[qPr e];simp
def zG3 (f:Nat):Prop:=∀(args:Array yD) (w:yC),(callFunc f args).run yK w= .ok (.enter f args) w
theorem zHw {f:Nat} {fn:Func} {c:Code} (e:prog.funcs[f]? =yA fn) (a:(fn.name== "runtime.NumGoroutine")=yI) (d:fn.body=yA c):zG3 f:=by
 intro args w;have b:fn.name≠ "runtime.NumGoroutine":=by simpa using a
 simp[callFunc,e,b,d]
theorem zBw {k:IntKind} {a b:Int} (h:a=b):Ending.returned (qX k a)=qx (qX k b):=by rw[h]
theorem qFz (P:Nat->Bool) (l:List Nat) (f:Nat) (a:Option yF) (n c:Nat) (w:yC) (t:kN l=n) (K:n<=1000000000) (u:yt w a (l.map ival)) (F:zG3 f)
  (H:∀x∈l,yG yK f #[ival x] w fun e w'=>e=qx (qh (P x))/\w'=w):
  yG yK 152 #[qZ a n c,.func (.func f) #[] #[]] w fun e w'=>e=qx (qX qm (ix P l))/\w'=w:=by
 obtain⟨B,r,y⟩:=yV u t H;unfold zG3 at F;clear u t H;go_enter func152,ntmps152;go_wp2;go_loopw [8] (fun i wr=>∃k:Nat,k<=n/\i=qX qm k/\wr=w/\yL (∀j (o:j<kN l),j<k->P l[j]=yI)) (fun i _=>n-(intOf i).toNat)
 case atStart=>exact⟨0,za,rfl,rfl,zH (fun j _ o=>absurd o za)⟩
 case round=>
  obtain⟨k,L,rfl,rfl,d⟩:=hrel;by_cases m:k<n
  .have g:k<kN l:=by rw[r.out];exact m
   obtain⟨x,p⟩:=zB (l[k]);obtain⟨b,off,rfl,I⟩:=B.out k (ival x) (by rw[qP3,qPu g,p];rfl);obtain⟨z,h,s⟩:=yV (y.out x (by rw[<-p];exact qP9 g)) g p;clear p;go_wp2_with fail;(with_reducible refine z.out.mono ?_);rintro e w2 ⟨rfl,rfl⟩;cases hp:P x with
   |true=>
    have q:=zH hp;clear hp;go_wp2;go_ret;exact⟨zBw (qB6 P l k h.out (fun j o=>d.out j (by have:=h.out;omega) o) (by rw[s.out];exact q.out)).symm,rfl⟩
   |false=>
    have q:=zH hp;clear hp;go_wp2;go_roundw
    case rel=>
     refine⟨k+1,za,by go_num,trivial,zH (fun j o G=> ?_)⟩;by_cases e:j=k
     .subst e;rw[s.out];exact q.out
     .exact d.out j o za
    case measure=>exact qV
  .obtain rfl:k=n:=za
   go_wp2;go_ret;exact⟨zBw (zNm P l (fun j o=>d.out j o (by rw[<-r.out];exact o))).symm,rfl⟩
theorem zE5 (P:Nat->Bool) (l:List Nat) (f:Nat) (a:Option yF) (n c:Nat) (w:yC) (d:kN l=n) (i:n<=1000000000) (g:yt w a (l.map ival)) (b:zG3 f)
  (H:∀x∈l,yG yK f #[ival x] w fun e w'=>e=qx (qh (P x))/\w'=w):
  yG yK 79 #[qZ a n c,.func (.func f) #[] #[]] w fun e w'=>e=qx (qh (l.any P))/\w'=w:=by
 have h:=zH (qFz P l f a n c w d i g b H);have j:=zXo P l;clear d g b H;go_enter func79,ntmps79;go_wp2_with fail;(with_reducible refine h.out.mono ?_);rintro e w2 ⟨rfl,rfl⟩;go_wp2;go_ret;exact⟨rfl,rfl⟩
theorem zXs (P:Nat->Bool) (l:List Nat) (f:Nat) (v:yD) (a:Option yF) (n c:Nat) (w:yC) (t:kN l=n) (K:n<=1000000000) (u:yt w a (l.map ival)) (F:zG3 f)
  (H:∀x∈l,yG yK f #[ival x,v] w fun e w'=>e=qx (qh (P x))/\w'=w):
  yG yK 152 #[qZ a n c,.func (.func f) #[] #[v]] w fun e w'=>e=qx (qX qm (ix P l))/\w'=w:=by
 obtain⟨B,r,y⟩:=yV u t H;unfold zG3 at F;clear u t H;go_enter func152,ntmps152;go_wp2;go_loopw [8] (fun i wr=>∃k:Nat,k<=n/\i=qX qm k/\wr=w/\yL (∀j (o:j<kN l),j<k->P l[j]=yI)) (fun i _=>n-(intOf i).toNat)
 case atStart=>exact⟨0,za,rfl,rfl,zH (fun j _ o=>absurd o za)⟩
 case round=>
  obtain⟨k,L,rfl,rfl,d⟩:=hrel;by_cases m:k<n
  .have g:k<kN l:=by rw[r.out];exact m
   obtain⟨x,p⟩:=zB (l[k]);obtain⟨b,off,rfl,I⟩:=B.out k (ival x) (by rw[qP3,qPu g,p];rfl);obtain⟨z,h,s⟩:=yV (y.out x (by rw[<-p];exact qP9 g)) g p;clear p;go_wp2_with fail;(with_reducible refine z.out.mono ?_);rintro e w2 ⟨rfl,rfl⟩;cases hp:P x with
   |true=>
    have q:=zH hp;clear hp;go_wp2;go_ret;exact⟨zBw (qB6 P l k h.out (fun j o=>d.out j (by have:=h.out;omega) o) (by rw[s.out];exact q.out)).symm,rfl⟩
   |false=>
    have q:=zH hp;clear hp;go_wp2;go_roundw
    case rel=>
     refine⟨k+1,za,by go_num,trivial,zH (fun j o G=> ?_)⟩;by_cases e:j=k
     .subst e;rw[s.out];exact q.out
     .exact d.out j o za
    case measure=>exact qV
  .obtain rfl:k=n:=za
   go_wp2;go_ret;exact⟨zBw (zNm P l (fun j o=>d.out j o (by rw[<-r.out];exact o))).symm,rfl⟩
theorem zO3 (P:Nat->Bool) (l:List Nat) (f:Nat) (v:yD) (a:Option yF) (n c:Nat) (w:yC) (d:kN l=n) (i:n<=1000000000) (g:yt w a (l.map ival)) (b:zG3 f)
  (H:∀x∈l,yG yK f #[ival x,v] w fun e w'=>e=qx (qh (P x))/\w'=w):
  yG yK 79 #[qZ a n c,.func (.func f) #[] #[v]] w fun e w'=>e=qx (qh (l.any P))/\w'=w:=by
 have h:=zH (zXs P l f v a n c w d i g b H);have j:=zXo P l;clear d g b H;go_enter func79,ntmps79;go_wp2_with fail;(with_reducible refine h.out.mono ?_);rintro e w2 ⟨rfl,rfl⟩;go_wp2;go_ret;exact⟨rfl,rfl⟩
end Ix
namespace Zr
open Front Ix
theorem zWx (t:Nat):∀l:List Nat,row t l=fi (fun x=>decide (t<x)) l
 |[]=>rfl
 |x::r=>by
  unfold row fi;by_cases h:x<=t
  .rw[qPr h,zWx t r,qP1 za,qPt zm]
  .rw[qPt h,qQ za,qPr rfl]
theorem qFt (t:Nat) (l:List Nat):(row t l=kN l/\ix (fun x=>decide (t<x)) l= -1)\/(row t l<kN l/\ix (fun x=>decide (t<x)) l=(row t l:Int)):=by
 rw[zWx];have:=qCc (fun x=>decide (t<x)) l;unfold ix;by_cases h:fi (fun x=>decide (t<x)) l<kN l
 .rw[qPr h];exact qy ⟨h,rfl⟩
 .rw[qPt h];exact qz ⟨za,rfl⟩
theorem zZk (x t B:Nat) (c:x<=1000000000) (b:t<=1000000000) (w:yC) (h:w.cell? ⟨B,0,yB⟩=yA (ival t)):
  yG yK 153 #[ival x,qc (yA ⟨B,0,yB⟩)] w fun e w'=>e=qx (qh (yJ (t<x)))/\w'=w:=by
 have a:decide ((t:Int)<(x:Int))=yJ (t<x):=by simp
 go_enter func153,ntmps153;go_wp2;go_ret;simp
theorem zJm (l:List Nat) (t:Nat) (a:Option yF) (n c:Nat) (w:yC) (i:kN l=n) (u:n<=1000000000) (q:yt w a (l.map ival)) (o:∀x∈l,x<=1000000000) (y:t<=1000000000):
  yG yK 82 #[qZ a n c,t] w fun e w'=>e=qx (qX qm (row t l:Int))/\yM w w w':=by
 have G:∀(fn:Fn) (first j:Array yD) (w:yC),(Instr.makeFunc fn first j).run yK w= .ok (.func fn first j) w:=fun _ _ _ _=>rfl;obtain⟨W,g⟩:=zB (w.alloc (qp #[ival t] 3));have h:yM w w W:=by rw[<-g];exact(yR _ _).alloc (qPq _) _
 have m:W.cell? ⟨w,0,yB⟩=yA (ival t):=by rw[<-g];simp
 have d:yt W a (l.map ival):=q.below h;have k:=zH (zXs (fun x=>decide (t<x)) l 153 (qc (yA ⟨w,0,yB⟩)) a n c W i u d (zHw func153 rfl rfl)
  (fun x B=>zZk x t w.heap.size (o x B) y W m))
 have HB:=zH h;have b:=qFt t l;rw[i]at b;have f:=zH b;clear i q d o m h b;obtain⟨z,s⟩:=zB (ix (fun x=>decide (t<x)) l);obtain⟨r,p⟩:=zB (row t l);rw[s]at k f;rw[p]at f⊢;clear s p;go_enter func82,ntmps82;go_wp2_with fail;clear g;(with_reducible refine k.out.mono ?_);rintro e w2 ⟨rfl,rfl⟩;rcases f.out with⟨rfl,rfl⟩|⟨F,rfl⟩
 .go_wp2;go_ret;exact⟨rfl,HB.out⟩
 .have H:decide ((r:Int)<0)=yI:=qP1 za;go_wp2;go_ret;exact⟨rfl,HB.out⟩
end Zr
namespace Zr
open Front Ix
theorem zVn (x:Nat) (b:x<=1000000000) (w:yC):
  yG yK 151 #[ival x] w fun e w'=>e=qx (qh ((fun _=>yI) x))/\w'=w:=by
 have a:decide ((x:Int)<0)=yI:=qP1 za;go_enter func151,ntmps151;go_wp2;go_ret;exact⟨rfl,rfl⟩
theorem any_false (l:List Nat):l.any (fun _=>yI)=yI:=by simp
theorem zPc (l:List Nat) (a:Option yF) (n c:Nat) (w:yC) (f:kN l=n) (h:n<=1000000000) (g:yt w a (l.map ival)) (d:∀x∈l,x<=1000000000):
  yG yK 78 #[qZ a n c] w fun e w'=>e=qx (qh yI)/\w'=w:=by
 have b:=zH (zE5 (fun _=>yI) l 151 a n c w f h g (zHw func151 rfl rfl) (fun x i=>zVn x (d x i) w));rw[any_false]at b;clear f g d;go_enter func78,ntmps78;go_wp2_with fail;(with_reducible refine b.out.mono ?_);rintro e w2 ⟨rfl,rfl⟩;go_wp2;go_ret;exact⟨rfl,rfl⟩
end Zr
namespace Zr
open Front Bt
variable {w w':yC} {D R n c:Nat} {a:Option yF} {l:List Nat}
structure Ls (w:yC) (D R:Nat) (a:Option yF) (n c:Nat) (l:List Nat):Prop where
 blk:w.heap[R]? =yA (qp #[qZ a n c] 158)
 own:yu w D 3 a n c (l.map ival)
 base:D<=R
theorem zAd {k:Nat} {o:Obj} (h:w.heap[k]? =yA o):k<w.heap.size:=by
 rcases qP8 k w.heap.size with b|a
 .exact b
 .rw[qRk a]at h;cases h
theorem Ls.lt (h:Ls w D R a n c l):R<w.heap.size:=zAd h.blk
theorem Ls.len (h:Ls w D R a n c l):kN l=n:=by
 have:=h.own.len;simpa using this
theorem own_ne {B:Nat} {e t:yE} {xs:List yD} {j:Array yD} {f:Nat×Nat} (h:yu w B e a n c xs) (k:w.heap[R]? =yA (qp j t f)) (m:t≠e):
  (Value.slice a n c).ownBlock≠yA R:=by
 intro i;obtain⟨_,d⟩:=h;rcases d with⟨d,_⟩|⟨g,o,p,hv,q,b,_⟩
 .injection d with d _ _
  subst d;simp[Value.ownBlock]at i
 .injection hv with ha _ hc
  subst ha;simp[Value.ownBlock]at i;subst i;rw[k]at b;injection b with b
  injection b with _ b _
  exact m b
theorem Ls.below {E:Nat} (h:Ls w D R a n c l) (b:yM E w w') (d:E=w.heap.size):Ls w' D R a n c l:=by
 subst d;exact⟨(b.block R h.lt).trans h.blk,h.own.below b (qPq _),h.base⟩
theorem Ls.put {a':Option yF} {b c':Nat} {l':List Nat} (h:Ls w D R a n c l) (g:yu w' D 3 a' b c' (l'.map ival)) (f:w.grownBy w' (Value.ownBlock (qZ a n c))):
  Ls (w'.setCell ⟨R,0,yB⟩ (qZ a' b c')) D R a' b c' l'/\yM D w (w'.setCell ⟨R,0,yB⟩ (qZ a' b c')):=by
 have hne:=own_ne h.own h.blk qW;have d:w'.heap[R]? =yA (qp #[qZ a n c] 158):=(f.block R h.lt (fun e=>hne e.symm)).trans h.blk;have i:yM D w w':=Kit.zAq f (qP2 h.base (qP7 h.lt)) (fun k j=>h.own.block k j);refine⟨⟨?_,?_,h.base⟩,i.setCell h.base _⟩
 .simp[World.setCell,qQt,d]
 .exact qRz g (zB1 w' R 0 _) (qy (own_ne g d qW))
theorem zNn:Kit.One yK 23 3 8:=zFn
theorem zJx (D R:Nat) (a:Option yF) (n c:Nat) (l:List Nat) (x:Option yF) (m d:Nat) (b:List Nat) (w:yC) (h:Ls w D R a n c l)
  (j:yt w x (b.map ival)) (k:kN b=m) (q:x=yB->m=0/\d=0) (r:n+m<=1000000):
  yG yK 81 #[qc (yA ⟨R,0,yB⟩),qZ x m d] w fun e w'=>e=qx (qg #[])/\∃a' c',Ls w' D R a' (n+m) c' (l++b)/\yM D w w':=by
 obtain⟨a',c',w',o,g,f⟩:=Kit.Own.app (ty:=23) zNn h.own x m d (b.map ival) j (by simpa using k) q (by intro u p;obtain⟨y,_,rfl⟩:=List.mem_map.1 p;rfl) (by unfold maxLen;omega) za (by have:=h.base;have:=h.lt;omega);rw[<-qQb]at g;have i:=zH (h.put g f);obtain⟨s,z⟩:=zEb h.blk;have hne:=own_ne h.own h.blk qW;obtain⟨t,B⟩:=zEb ((f.block R h.lt (fun e=>hne e.symm)).trans h.blk);clear h j g f;go_enter func81,ntmps81;go_wp2_with (at_builtin;refine xG rfl (.tmp 8) (.tmp 9) 23 rfl rfl rfl o ?_);go_end0;exact⟨rfl,a',c',i.out.1,i.out.2⟩
end Zr
namespace Zr
open Front Ix Bt
variable {w:yC} {B n c:Nat} {e:yE} {a:Option yF} {xs:List yD}
def Ad (a:Option yF) (n c:Nat):Prop:=(a=yB/\n=0/\c=0)\/(n<=c/\c<=9223372036854775807/\∃b off,a=yA ⟨b,off,yB⟩)
theorem Ad.zIz (h:yu w B e a n c xs):Ad a n c:=by
 obtain⟨_,d⟩:=h;rcases d with⟨d,_⟩|⟨g,i,j,hv,k,l,b,f⟩
 .injection d with h1 d f
  exact qz ⟨h1,d,f⟩
 .injection hv with ha _ hcc
  subst ha hcc;refine qy ⟨b,?_,_,_,rfl⟩;have:=f.1;unfold maxLen at this;omega
theorem Src.drop {b off:Nat} {l:List Nat} (h:yt w (yA ⟨b,off,yB⟩) (l.map ival)) (k:Nat):yt w (yA ⟨b,off+k,yB⟩) ((l.drop k).map ival):=by
 intro j u f;rw[qP3,List.getElem?_drop]at f;obtain⟨b',i,d,g⟩:=h (k+j) u (by rw[qP3];exact f);injection d with d
 injection d with h1 h2 _
 subst h1 h2;exact⟨b,off+k,rfl,by rw[qR3];exact g⟩
theorem zUp {P:Program} {c X:Code} {a:Act} {Q:Exit->Act->yC->Prop} (l:Nat) (J:Act->yC->Prop) (μ:Act->yC->Nat) (d:findLabel c l=yA (Code.skip.seq X))
  (b:∀a w,J a w->X.wp P (Exit.jump l (fun a' w'=>J a' w'/\μ a' w'<μ a w) Q) a w) (first:(∀a w,J a w->X.wp P (Exit.jump l J Q) a w)->c.wp P (Exit.jump l J Q) a w):(Code.scope c).wp P Q a w:=by
 refine wp_scope_jumps l J μ d (first fun a w h=>Code.wp_mono (fun e a' w' q=> ?_) (b a w h)) (fun a w h=> ?_)
 .cases e with
  |goto l'=>exact⟨q.1,q.2.1⟩
  |_=>exact q
 .refine wp_seq (wp_skip ?_);exact b a w h
def lenOf:yD->Nat
 |qZ _ n _=>n
 |_=>0
theorem zLb (h:yu w B e a n c xs) (d:a=yB):n=0/\c=0:=by
 obtain⟨_,b⟩:=h;rcases b with⟨b,_⟩|⟨g,f,i,hv,_⟩
 .injection b with h1 b h3
  exact⟨b,h3⟩
 .injection hv with ha' _ _
  rw[d]at ha';cases ha'
theorem qA7 (x:Nat) (d:x<=1000000000) (w:yC):
  yG yK 80 #[ival x] w fun e w'=>e=qx (qh ((fun _=>yI) x))/\w'=w:=by
 have b:decide ((1099511627776:Int)<(x:Int))=yI:=qP1 za;go_enter func80,ntmps80;go_wp2;go_ret;exact⟨rfl,rfl⟩
def EJ (B:Nat) (w:yC) (n:Nat) (T:List Nat) (a':Act) (wr:yC):Prop:=∃(r d:List Nat) (f:Option yF) (b c2 X:Nat) (p:Option yF) (W:Nat),b<=n/\kN r=b/\yL (∀x∈r,x<=100000)/\yL (yt w f (r.map ival))/\yL (Ad f b c2)/\yL (Ls wr B B p X W d)/\yL (yM B w wr)/\yL (T=d++enc 0 r)/\∃(Y Z u3 u6 u7 u8 u9 g h i j k l m o q s t u y z F G H I K L M N O P R S V:yD),a'={tmps:= #[qZ f b c2,Y,Z,u3,qc (yA ⟨B,0,yB⟩),.func (.func 81) #[qc (yA ⟨B,0,yB⟩)] #[],u6,u7,u8,u9,g,h,i,j,k,l,m,o,q,s,t,u,y,z,F,G,H,I,K,L,M,N,O,P,R,S,V],defers:=[]}
theorem zD8 (l:List Nat) (a:Option yF) (n c:Nat) (w:yC) (hn:kN l=n) (ba:n<=100000) (hs:yt w a (l.map ival)) (had:Ad a n c) (hl:∀x∈l,x<=100000):
  yG yK 22 #[qZ a n c] w fun e w'=>∃a' c',e=qx (qg #[qZ a' (kN (enc 0 l)) c',qX qm 0])/\yu w' w.heap.size 3 a' (kN (enc 0 l)) c' ((enc 0 l).map ival)/\yM w w w':=by
 have b9:∀(fn:Fn) (first b3:Array yD) (w:yC),(Instr.makeFunc fn first b3).run yK w= .ok (.func fn first b3) w:=fun _ _ _ _=>rfl;obtain⟨B,hB⟩:=zB w.heap.size;obtain⟨W,hW⟩:=zB (w.alloc (qp #[qZ yB 0 0] 158));have ae:yM B w W:=by rw[<-hW,<-hB];exact(yR _ _).alloc (qPq _) _
 have hX:W.heap[B]? =yA (qp #[qZ yB 0 0] 158):=by
  rw[<-hW,<-hB];show(w.heap.push _)[w.heap.size]? =_;simp
 obtain⟨ah,ai,aa,a5⟩:=yX (Ls.mk (D:=B) (l:=[]) hX (Kit.Own.start _ _ _) (qPq _)) ae (zPc l a n c w hn za hs (fun x hx=>by have:=hl x hx;omega)) (zE5 (fun _=>yI) l 80 a n c w hn za hs (zHw func80 rfl rfl) (fun x hx=>qA7 x (by have:=hl x hx;omega) w));rw[any_false]at a5;obtain⟨HS,HL,HN,au⟩:=yX hs hl hn had;clear ae hX hs hl hn had;rw[hB];have G:=zJz l 0;rw[HN.out]at G;obtain⟨T,V⟩:=zB (enc 0 l);rw[V]at G⊢;have ap:=yT (kN T<=100000) (by omega);have b1:=zH V;clear G V;go_enter func22,ntmps22;go_wp2_with fail;refine zUp 0 (EJ B w n T) (fun a' _=>lenOf (a'.tmps.getD 0 yN)) rfl ?_ ?_
 .clear aa a5 HS HL HN au ah ai hW;rintro a' wr ⟨r,d,a2,n2,c2,np,p,cp,b5,H,S,R,had,ao,I,hT,u1,u2,u3,u6,u7,u8,u9,bf,bg,bh,bi,bj,bk,bn,bo,bp,bq,br,bu,bw,bx,bz,c6,c7,c8,ca,cb,cc,cd,ce,cf,cg,ci,cj,rfl⟩;have z:=zH (zJm r 0 a2 n2 c2 wr H za (R.out.below (by rw[hB];exact I.out)) (fun x hx=>by have:=S.out x hx;omega) za);have a8:=zQe 0 r;have L:=qD5 r 0;rw[qQd]at L;obtain⟨q,hq⟩:=zB (row 0 r);rw[hq]at z a8 L;rw[show((0:Nat):Int)=0 from rfl]at z;obtain⟨K,i⟩:=yU L H;rw[H]at a8;clear hq L H;go_wp2_with fail;(with_reducible refine z.out.mono ?_);clear z;rintro e w3 ⟨rfl,ag⟩;have z:=zH (zMt q za w3);obtain⟨s,hs⟩:=zB (kN (digits q));rw[hs]at z;obtain⟨H3,aq⟩:=yU ag hs;clear ag hs;go_wp2_with fail;(with_reducible refine z.out.mono ?_);clear z;rintro e w4 ⟨a3,c3,rfl,a4,a7⟩;have N:=(ao.out.below H3.out rfl).below a7 rfl;have O:=(I.out.trans (H3.out.mono (by have:=I.out.size;omega))).trans (a7.mono (by have:=I.out.size;have:=H3.out.size;omega));have z:=zH (zJx B B p np cp d a3 s c3 (digits q) w4 N a4.src aq.out (zLb a4) (by
   have h1:=ao.out.len;have h2:=ap.out;rw[hT.out,K.out]at h2;have h3:=aq.out;cases hx:r.drop q with
   |nil=>rw[hx]at h2;simp only[qP0]at h2;omega
   |cons y t=>rw[hx]at h2;simp only[qP0,qP4]at h2;omega))
  have an:=zH O;clear N O a4 a7 H3;go_wp2_with fail;(with_reducible refine z.out.mono ?_);clear z;rintro e w5 ⟨rfl,p5,a0,a1,av⟩;obtain⟨g,u⟩:=yU a1 (an.out.trans (av.mono (qPq _)));clear a1 av an;rcases had.out with⟨rfl,rfl,rfl⟩|⟨bb,b7,b,af,rfl⟩
  .obtain rfl:q=0:=za
   have b2:r=[]:=qQ0 i.out;subst b2;obtain⟨x0,f0⟩:=zEb g.out.blk;have f:T=d++digits 0:=by rw[hT.out,K.out];rfl
   have k:kN T=np+s:=by rw[f];exact g.out.len
   obtain⟨o,m⟩:=yU f k;clear f k;go_wp2;simp only[Exit.jump];go_ret2;refine⟨p5,a0,by rw[m.out];rfl,?_,u.out⟩;rw[m.out,o.out];exact g.out.own
  .by_cases ab:q<n2
   .obtain⟨x,hx⟩:=zB (r[q]'(by rw[i.out];exact ab));have j:q<kN r:=by rw[i.out];exact ab
    have F:r.drop q=x::r.drop (q+1):=by rw[qSb j,hx]
    have f:T=(d++digits q)++(x+1)::enc 0 (r.drop (q+1)):=by
     rw[hT.out,K.out,F];simp
    obtain⟨b',b6,P,e0⟩:=(R.out.below (w':=w5) (by rw[hB];exact u.out)) q (ival x) (by rw[qP3,qPu j,hx];rfl);injection P with P
    injection P with hb1 hb2 _
    subst hb1 hb2;have bd:x<=100000:=by rw[<-hx];exact S.out _ (qP9 j)
    have o:=zH f;have az:=g.out.len;have aj:np+s+1<=1000000:=by
     have h1:=ap.out;rw[f,qP0,qP4]at h1;omega
    have ad:=R.out;have ay:=zH (Src.drop ad (q+1));have Z:=yT (∀x∈r.drop (q+1),x<=100000) fun y hy=>S.out y (List.mem_of_mem_drop hy);have a6:=yT (kN (r.drop (q+1))=n2-q-1) (by rw[qQo,i.out];omega);obtain⟨W6,M⟩:=zB (w5.alloc (qp #[qX qm ((x:Int)+1)] 3));have Y:yM w5 w5 W6:=by rw[<-M];exact(yR _ _).alloc (qPq _) _
    have a9:yt W6 (yA ⟨w5,0,yB⟩) ([x+1].map ival):=by rw[<-M];exact xM w5 _ _
    obtain⟨z,b0⟩:=yU (zJx B B p5 (np+s) a0 (d++digits q) (yA ⟨w5,0,yB⟩) 1 1 [x+1] W6 (g.out.below Y rfl) a9 rfl (fun h=>by cases h) aj) (u.out.trans (Y.mono (by have:=u.out.size;omega)));have bc:IntKind.i64.wrap ((x:Int)+1)=(x:Int)+1:=by rw[qQa _ ⟨za,za⟩]
    clear hx F f az aj ad Y a9 j;go_wp2_with fail;clear M e0;(with_reducible refine z.out.mono ?_);rintro e w7 ⟨rfl,p7,ac,X,ax⟩;obtain⟨ar,ak⟩:=yU X (b0.out.trans ax);clear X ax z;have b8:((n2-q-1:Nat):Int)=(n2:Int)-q-1:=za
    have am:=yT (T=((d++digits q)++[x+1])++enc 0 (r.drop (q+1))) (by rw[o.out];simp);go_wp2
    .rename_i hc1
     go_step3;refine(show _/\_ from⟨rfl,?_,?_⟩)
     .refine⟨r.drop (q+1),(d++digits q)++[x+1],yA ⟨b,af+q,yB⟩,n2-q-1,0,np+s+1,p7,ac,za,a6.out,Z,zH ?_,zH (qy ⟨za,za,_,_,rfl⟩),ar,ak,am,_,_,_,_,_,_,_,_,_,_,_,_,_,_,_,_,_,_,_,_,_,_,_,_,_,_,_,_,_,_,_,_,_,_,rfl⟩;rw[qSv (by rw[i.out];omega)];exact Kit.Src.nil _ _
     .simp[lenOf];omega
    .rename_i hc1
     go_step3;refine(show _/\_ from⟨rfl,?_,?_⟩)
     .exact⟨r.drop (q+1),(d++digits q)++[x+1],yA ⟨b,af+(q+1),yB⟩,n2-q-1,c2-q-1,np+s+1,p7,ac,za,a6.out,Z,ay,zH (qy ⟨za,za,_,_,rfl⟩),ar,ak,am,_,_,_,_,_,_,_,_,_,_,_,_,_,_,_,_,_,_,_,_,_,_,_,_,_,_,_,_,_,_,_,_,_,_,rfl⟩
     .simp[lenOf];omega
   .obtain rfl:q=n2:=za
    have F:r.drop q=[]:=qSv (by rw[i.out];omega);have f:T=d++digits q:=by rw[hT.out,K.out,F]
    have k:kN T=np+s:=by rw[f];exact g.out.len
    obtain⟨o,m⟩:=yU f k;clear f k F;obtain⟨x0,f0⟩:=zEb g.out.blk;go_wp2
    all_goals
     simp only[Exit.jump];go_ret2;refine⟨p5,a0,by rw[m.out];rfl,?_,u.out⟩;rw[m.out,o.out];exact g.out.own
 .intro b4;go_wp2_with fail;(with_reducible refine aa.out.mono ?_);rintro e w2 ⟨rfl,rfl⟩;go_wp2_with fail;(with_reducible refine a5.out.mono ?_);rintro e w2 ⟨rfl,rfl⟩;go_wp2_with fail;go_step3
  rename_i hK
  refine hK _ _ (b4 _ _ ⟨l,[],a,n,c,0,yB,0,qPq _,HN.out,HL,HS,au,ah,ai,zH (by rw[b1.out];rfl),_,_,_,_,_,_,_,_,_,_,_,_,_,_,_,_,_,_,_,_,_,_,_,_,_,_,_,_,_,_,_,_,_,_,rfl⟩)
end Zr
namespace Zr
open Go.Shelf Front Ix Bt Rg
variable {W W' w:yC} {C:Nat->Prop} {b l:Nat} {t:yE} {v:yD} {o:Obj}
attribute [local go_sem] Oper.semAt_some
theorem zO7 {p:yF} {u:yD} (h:W.cell? p=yA u):∃a t f,W.heap[p.block]? =yA (qp a t f):=by
 obtain⟨o,c,d⟩:=cells_of_cell h;cases o with
 |cells a t f=>exact⟨a,t,f,c⟩
 |_=>cases d
theorem zP4 {a:Option yF} {xs:List yD} (h:yt W a xs) (n:Sb C W W') (m:∀p,a=yA p->¬C p.block):yt W' a xs:=by
 intro j u q;obtain⟨b,c,e,d⟩:=h j u q;obtain⟨i,t,f,g⟩:=zO7 d;have k:=n.2 b i t f g (m _ e);exact⟨b,c,e,by rw[qRg (w:=W) (a:=⟨b,c+j,yB⟩) (k.trans g.symm)];exact d⟩
theorem zIf (h:Boxed W b t v) (c:Sb C W W') (a:¬C b):Boxed W' b t v:=c.2 b _ _ _ h a
theorem qBj (b:Nat) (a:Option yF) (n c:Nat) (l:List Nat) (V:kN l=n) (hn:n<=1000000) (C:Nat->Prop) (hC:¬C b) (Z:∀p,a=yA p->¬C p.block) (W:yC) (y:Boxed W b 23 (qZ a n c)) (X:yt W a (l.map ival)):
  zR7 yK 202 #[qc (yA ⟨b,0,yB⟩)] (fun x _ vs=>∃i:Int,vs= #[qX qm i,ival x]) (fun A B=>∃n,B=A.drewN n) C l.reverse W:=by
 intro k0 J Jx O R N;refine qS8 func202 rfl trivial ?_ rfl;simp only[ntmps202,qQ2,qP4,qQy,Nat.reduceAdd,Nat.reduceSub,qR,qRa,qRb,qRc,qQm,qQs];obtain⟨u,HS,M,HJ,HY,H0⟩:=yZ y X V O R N;have w:=y.cell;clear y X V O R N;have i0:IntKind.i64.wrap ((n:Int)-1)=(n:Int)-1:=qQa _ ⟨za,za⟩;gi_wp2;clear w i0;gi_loopw [3] (fun v wr=>∃(k:Nat),k<=n/\v=qX qm ((k:Int)-1)/\yL (Boxed wr b 23 (qZ a n c))/\yL (yt wr a (l.map ival))/\yL (J (l.drop k).reverse wr)) (fun v _=>(intOf v+1).toNat)
 case atStart=>exact⟨n,za,rfl,u,HS,zH (by rw[qSv (by rw[M.out];omega)];exact H0.out)⟩
 case round=>
  obtain⟨k,hk,rfl,o,m,S⟩:=hrel;rcases qQz k with Y|Y
  .subst Y;have j:=S.out;rw[qR1]at j;have K:=zH j;clear j;gi_wp2;go_end0;exact⟨⟨_,rfl⟩,qz K.out⟩
  .obtain⟨q,rfl⟩:∃q,k=q+1:=⟨k-1,za⟩;have s:q<kN l:=by rw[M.out];omega
   obtain⟨x,z⟩:=zB (l[q]);obtain⟨g,off,rfl,e0⟩:=m.out q (ival x) (by rw[qP3,qPu s,z];rfl);have a0:=o.out.cell;have f:(l.drop q).reverse=(l.drop (q+1)).reverse++[x]:=by rw[qSb s,z,List.reverse_cons]
   have d:(l.drop (q+1)).reverse++[x]<+:l.reverse:=by
    rw[<-f];refine⟨(l.take q).reverse,?_⟩;rw[<-List.reverse_append,qSa]
   obtain⟨fn,tmps,assign,body,hy,P⟩:=HY.out (l.drop (q+1)).reverse x wr #[qX qm (q:Int),ival x] S.out ⟨_,rfl⟩ d;obtain⟨F,HR,I⟩:=yV f P d;have i1:((q+1:Nat):Int)-1=(q:Int):=za
   have i2:IntKind.i64.wrap ((q:Int)-1)=(q:Int)-1:=qQa _ ⟨za,za⟩;rw[i1];clear f d z P;gi_wp2;refine HR.out.mono ?_;rintro e W3 (⟨rfl,r,h⟩|⟨rfl,t⟩)
   .obtain⟨G,L⟩:=yU (zIf o.out h hC) (zP4 m.out h Z);have H:=yT (J (l.drop q).reverse W3) (by rw[F.out];exact r);clear r h;gi_wp2;go_roundw
    case rel=>exact⟨q,za,rfl,G,L,H⟩
    case measure=>simp[intOf]
   .gi_wp2;refine qP5 (qSx rfl _ _ _) rfl ?_;exact⟨⟨_,rfl⟩,qy ⟨_,I.out,t⟩⟩
theorem qAc (x:Nat) (a:x<=1) (w:yC):
  yG yK 162 #[ival x] w fun e w'=>e=qx (qh ((fun _=>yI) x))/\w'=w:=by
 rcases qP8 x 1 with h|h
 .obtain rfl:x=0:=za
  go_enter func162,ntmps162;go_wp2;go_ret;exact⟨rfl,rfl⟩
 .obtain rfl:x=1:=za
  go_enter func162,ntmps162;go_wp2;go_ret;exact⟨rfl,rfl⟩
theorem zMe:∀(l m:List Nat),number m<=number (l++m)
 |[],m=>qPq _
 |x::l,m=>by have:=zMe l m;rw[qQs,number];omega
theorem zUy {l pre:List Nat} (h:pre<+:l.reverse):number pre.reverse<=number l:=by
 obtain⟨t,c⟩:=h;have a:=qPs List.reverse c;rw[List.reverse_append,List.reverse_reverse]at a;rw[<-a];exact zMe _ _
theorem zAp (h:Boxed W b t v) (e:W'.heap[b]? =W.heap[b]?):Boxed W' b t v:=e.trans h
theorem zA6 (h:Boxed W b t v) (d:Obj) (a:W.heap[l]? =yA o) (c:o.isCells=yI):Boxed (W.putObj l d) b t v:=by
 refine(World.putObj_heap_other ?_).trans h;rintro rfl;rw[show W.heap[b]? =_ from h]at a;obtain rfl:=qPv a;cases c
theorem zAu {B:Nat} {A:yC} (a:Obj) (h:yM B w A) (f:A.heap[l]? =yA o) (c:B<=l) (d:B<=A.heap.size):yM B w (A.putObj l a):=
 h.trans ((yR B A).grown (grownBy_putObj' A l a) d (fun k e=>by cases e;exact c))
theorem below_drewN {D:Nat} {w':yC} (h:yM D w w') (n:Nat):yM D w (w'.drewN n):=h.trans ⟨rfl,rfl,rfl,qPq _,fun _ _=>rfl⟩
theorem zKr (A B:yC) (h:∃n,B=A.drewN n):KeepsOthers A B:=by
 obtain⟨n,rfl⟩:=h;exact⟨qPq _,fun k o a _=>a⟩
theorem zRz (a:Option yF) (n c:Nat) (w:yC):
  yG yK 163 #[qZ a n c] w fun e w'=>e=qx (.func (.func 202) #[] #[qc (yA ⟨w,0,yB⟩)])/\w.alloc (qp #[qZ a n c] 23)=w':=by
 have f:∀(fn:Fn) (first d:Array yD) (w:yC),(Instr.makeFunc fn first d).run yK w= .ok (.func fn first d) w:=fun _ _ _ _=>rfl;go_enter func163,ntmps163;go_wp2;go_ret;exact⟨rfl,rfl⟩
theorem zUz (l:List Nat) (a:Option yF) (n c:Nat) (w:yC) (hn:kN l=n) (hc:n<=1000000) (hs:yt w a (l.map ival)) (ha:∀p,a=yA p->p.block<w.heap.size) (hl:∀x∈l,x<=1) (a0:number l<=100000):
  yG yK 110 #[qZ a n c] w fun e w'=>e=qx (qg #[qX qm (number l:Int),qX qm 0])/\yM w w w':=by
 have a7:∀(fn:Fn) (first a1:Array yD) (w:yC),(Instr.makeFunc fn first a1).run yK w= .ok (.func fn first a1) w:=fun _ _ _ _=>rfl;obtain⟨B,Z⟩:=zB w.heap.size;obtain⟨y,g⟩:=zB ((w.alloc (qp #[qX qm 0] 3)).alloc (qp #[qX qm 0] 26));have j:y.heap.size=B+2:=by rw[<-g];simp[Z]
 have b2:yM B w y:=by rw[<-g,<-Z];exact((yR _ _).alloc (qPq _) _).alloc zm _
 have x0:Boxed y B 3 (qX qm 0):=by
  rw[<-g,<-Z];exact(Boxed.new w _ _).alloc _
 have x1:Boxed y (B+1) 26 (qX qm 0):=by
  rw[<-g];have:=Boxed.new (w.alloc (qp #[qX qm 0] 3)) 26 (qX qm 0);rw[qTt,Z]at this;exact this
 have G:yt y a (l.map ival):=hs.below (by rw[Z];exact b2);have HQ:=zH (zE5 (fun _=>yI) l 162 a n c y hn za G (zHw func162 rfl rfl) (fun x hx=>qAc x (hl x hx) y));rw[any_false]at HQ;obtain⟨z,b⟩:=zB (y.alloc (qp #[qZ a n c] 23));have aa:z.heap.size=B+3:=by rw[<-b];simp[j]
 have y0:Boxed z B 3 (qX qm 0):=by rw[<-b];exact x0.alloc _
 have y1:Boxed z (B+1) 26 (qX qm 0):=by rw[<-b];exact x1.alloc _
 have y2:Boxed z (B+2) 23 (qZ a n c):=by rw[<-b,<-j];exact Boxed.new _ _ _
 have b3:yM B w z:=by rw[<-b];exact b2.alloc za _
 have s3:yt z a (l.map ival):=hs.below (by rw[Z];exact b3);have HA:=yT (∀p,a=yA p->¬(p.block=B\/p.block=B+1)) (fun p hp h=>by have:=ha p hp;omega);obtain⟨Y0,Y1,Y2,B3,S3,HN,I,a4⟩:=yh y0 y1 y2 b3 s3 hn a0 hl;clear hn hs G a0 x0 x1 y0 y1 y2 b2 b3 s3 ha hl;rw[Z];refine(qQi (n:=3)).1 ?_;refine callsIn_of_wp_marks func110 rfl trivial ?_ rfl;simp only[ntmps110,qQ2,qP4,qQy,Nat.reduceAdd,Nat.reduceSub,qR,qRa,qRb,qRc,qQm,qQs];gi_wp2_with fail;clear g;refine⟨trivial,(qQi.2 HQ.out).mono ?_⟩;rintro e w2 ⟨rfl,rfl⟩;have HQ:=zH (zRz a n c w2);rw[j,b]at HQ;gi_wp2_with fail;refine⟨trivial,(qQi.2 HQ.out).mono ?_⟩;rintro e w4 ⟨rfl,rfl⟩;clear HQ b j;gi_wp2;refine zDt (gf:=202) (lb:= #[qc (yA ⟨B+2,0,yB⟩)]) rfl (enters_of func202 zf rfl)
  (fun x _ vs=>∃i:Int,vs= #[qX qm i,ival x]) (fun A B=>∃n,B=A.drewN n) (fun k=>k=B\/k=B+1) l.reverse zKr (fun _ _ _ h=>by obtain⟨i,rfl⟩:=h;rfl) (fun _ _ _ _ _ _ _ _ h=>h)
  (fun W hW=>qBj (B+2) a n c l HN.out hc _ za HA.out W (zAp Y2.out (hW.block _ za)) (S3.out.below hW))
  (fun pre W=>Boxed W B 3 (qX qm (number pre.reverse:Int))/\Boxed W (B+1) 26 (qX qm 0)/\yM B w W/\z.heap.size<=W.heap.size)
  (fun _ _ _=>False)
  (fun pre W k o o' hk ho a2 hi=>⟨zA6 hi.1 o' ho a2,zA6 hi.2.1 o' ho a2,zAu o' hi.2.2.1 ho za (by have:=hi.2.2.2;omega),by rw[putObj_size];exact hi.2.2.2⟩)
  (fun _ _ _ _ _ _ _ _ _ h=>h)
  (fun pre A D hi ho=>by obtain⟨m,rfl⟩:=ho;exact⟨hi.1,hi.2.1,below_drewN hi.2.2.1 m,hi.2.2.2⟩)
  (fun o o'=>⟨(Y0.out.alloc o).alloc o',(Y1.out.alloc o).alloc o',(B3.out.alloc za o).alloc zq o',zq⟩)
  (fun vs=>{tmps:= #[qZ a n c,yN,qc (yA ⟨B,0,yB⟩),qc (yA ⟨B+1,0,yB⟩),yN,vs.getD 1 yN,qZ a n c,qh yI,qZ a n c,.func (.func 202) #[] #[qc (yA ⟨B+2,0,yB⟩)],vs.getD 0 yN,vs.getD 1 yN,yN,yN,yN,yN,yN,yN,yN,yN],defers:=[]}) ?assign ?body ?done ?stop
 case assign=>
  rintro k x W vs K ⟨i,rfl⟩ hK;gi_wp2;exact hK
 case body=>
  rintro k pre x W vs a9 ⟨hv,d,s,hz⟩ ⟨i,rfl⟩ u;have F:=hv.cell;have S:=hv.frozen;have H:=zUy u;rw[List.reverse_append,List.reverse_singleton,List.singleton_append,number]at H;have a8:=I.out;obtain⟨q,hq⟩:=zB (number pre.reverse);rw[hq]at F H;have L:=yT (number (pre++[x]).reverse=2*q+x+1) (by rw[List.reverse_append,List.reverse_singleton,List.singleton_append,number,hq]);have HV:=zH hv;clear hq hv u;have i1:IntKind.i64.wrap (2*(q:Int))=2*(q:Int):=qQa _ ⟨za,za⟩;have i2:IntKind.i64.wrap (2*(q:Int)+(x:Int))=2*(q:Int)+(x:Int):=qQa _ ⟨za,za⟩;have i3:IntKind.i64.wrap (2*(q:Int)+(x:Int)+1)=2*(q:Int)+(x:Int)+1:=qQa _ ⟨za,za⟩;have i4:decide ((1099511627776:Int)<2*(q:Int)+(x:Int)+1)=yI:=qP1 za;gi_wp2;refine⟨KeepsOthers.setCell _ _ _,⟨by simp[World.setCell],fun k cs t f hk a3=>(Below.heap_setCell _ _ _ _ (fun e=>a3 (qz e))).trans hk⟩,?_,?_,s.setCell (p:=⟨B,0,yB⟩) (qPq _) _,by simp[World.setCell];exact hz⟩
  .have h1:=HV.out.set (qX qm (2*(q:Int)+(x:Int)+1));rw[L.out,show((2*q+x+1:Nat):Int)=2*(q:Int)+(x:Int)+1 by omega];exact h1
  .exact zAp d (Below.heap_setCell _ _ _ _ zm)
 case done=>
  rintro D W hD ⟨hv,d,s,hz⟩ hK;rw[List.reverse_reverse]at hv;obtain⟨q,hq⟩:∃q:Int,(number l:Int)=q:=⟨_,rfl⟩;rw[hq]at hv;have Y:=zH hq;have F:=hv.cell;have S:=hv.frozen;have a5:=d.cell;have a6:=d.frozen;obtain⟨HV,O⟩:=yU hv d;clear hv d hq;gi_wp2;have N:=(KeepsOthers.setCell W ⟨B,0,yB⟩ (qX qm q)).same D _ hK rfl;have r:=(KeepsOthers.setCell (W.setCell ⟨B,0,yB⟩ (qX qm q)) ⟨B+1,0,yB⟩ (qX qm 0)).same D _ N rfl;refine⟨zm,qz ⟨_,_,rfl,run_takeDeferred r,?_⟩⟩;have P:Boxed ((W.setCell ⟨B,0,yB⟩ (qX qm q)).setCell ⟨B+1,0,yB⟩ (qX qm 0)) B 3 (qX qm q):=zAp (HV.out.set (qX qm q)) (Below.heap_setCell _ _ _ _ zm);have M:Boxed (W.setCell ⟨B,0,yB⟩ (qX qm q)) (B+1) 26 (qX qm 0):=zAp O.out (Below.heap_setCell _ _ _ _ zm);have X:Boxed ((W.setCell ⟨B,0,yB⟩ (qX qm q)).setCell ⟨B+1,0,yB⟩ (qX qm 0)) (B+1) 26 (qX qm 0):=M.set (qX qm 0);have V:=(zA6 P (qw yB) r rfl).cell;have R:=(zA6 X (qw yB) r rfl).cell;refine⟨qg #[qX qm q,qX qm 0],?_,by rw[Y.out],?_⟩
  .simp[results,f110,go_sem,V,R]
  .exact zAu _ ((s.setCell (p:=⟨B,0,yB⟩) (qPq _) _).setCell (p:=⟨B+1,0,yB⟩) zm _) r za (by simp[World.setCell];omega)
 case stop=>
  rintro D c pre W _ _ h _;exact h.elim
end Zr
namespace Zr
open Front Bt
def D (m:List Nat):List Nat:=dec (kN m) m
theorem qCi:D []=[]:=rfl
theorem qGr (r:List Nat) (h:r≠[]):D r=yP (number (r.take (row 1 r))) 0++match r.drop (row 1 r)with
  |[]=>[]
  |x::t=>(x-1)::D t:=by
 unfold D;cases hr:kN r with
 |zero=>exact absurd (qQ0 hr) h
 |succ f=>
  rw[dec,qPt h];congr 1;cases hd:r.drop (row 1 r)with
  |nil=>rfl
  |cons x t=>
   simp only;have a:=qPs List.length hd;rw[qQo,qP4]at a;rw[zRo (kN t) f t (qPq _) za]
theorem zQd (t:Nat):∀(l:List Nat) (x:Nat) (r:List Nat),l.drop (row t l)=x::r->t<x
 |[],x,r,h=>by simp[row]at h
 |y::l,x,r,h=>by
  unfold row at h;split at h
  .rw[List.drop_succ_cons]at h;exact zQd t l x r h
  .rw[qR1]at h;injection h with h1 _
   omega
theorem zQc (t:Nat):∀(l:List Nat),∀x∈l.take (row t l),x<=t
 |[],x,h=>by simp at h
 |y::l,x,h=>by
  unfold row at h;split at h
  .rw[qR5]at h;rcases qP6.1 h with rfl|h
   .assumption
   .exact zQc t l x h
  .simp at h
theorem Src.take {w:yC} {a:Option yF} {l:List Nat} (h:yt w a (l.map ival)) (k:Nat):yt w a ((l.take k).map ival):=by
 rw[qTy];exact Kit.Src.take h k
theorem zOr (w:yC) (n:Nat) (o:n<=1000000):∃w',(Instr.makeSlice 23 (qX qm (n:Int)) (qX qm (n:Int))).run yK w= .ok (qZ (yA ⟨w,0,yB⟩) n n) w'/\
  yu w' w.heap.size 3 (yA ⟨w,0,yB⟩) n n ((yP n 0).map ival)/\yM w w w':=by
 obtain⟨z,l,m⟩:=zNn.row;obtain⟨i,hi,a,d,b⟩:=qRv l;have c:(Value.int qm 0)=z:=by
  have e:(prog.info? 3).map (fun i=>i.zero)=yA (yA (qX qm 0)):=zf
  rw[hi]at e;simp only[qRs,qTz]at e;rw[a]at e;exact(qPv e).symm
 obtain⟨w',j,f,g⟩:=run_makeSlice_full (P:=yK) (w:=w) w.heap.size 23 3 i z 1 zNn.ut hi a d qm qm n za (by rw[b];omega) (by unfold maxLen;omega) (qPq _);refine⟨w',j,?_,(yR _ _).grown g (qPq _) (fun k h=>by cases h)⟩;subst c;rw[Nat.mul_one,show(Value.int qm 0).cells= #[qX qm 0]from rfl,toList_madeCells_one]at f;rw[List.map_replicate];exact f
theorem zFi (m:List Nat) (most:Nat) (a:Option yF) (n c:Nat) (w:yC) (hn:kN m=n) (bu:n<=100000) (hs:yt w a (m.map ival)) (g:∀p,a=yA p->p.block<w.heap.size) (had:Ad a n c) (hl:∀x∈m,x<=100000)
  (bg:kN (D m)<=most) (bi:most<=100000):
  yG yK 37 #[qZ a n c,most] w fun e w'=>∃a' c',e=qx (qg #[qZ a' (kN (D m)) c',qX qm 0])/\yu w' w.heap.size 3 a' (kN (D m)) c' ((D m).map ival)/\yM w w w':=by
 have br:∀(fn:Fn) (first bh:Array yD) (w:yC),(Instr.makeFunc fn first bh).run yK w= .ok (.func fn first bh) w:=fun _ _ _ _=>rfl;obtain⟨B,hB⟩:=zB w.heap.size;obtain⟨W,hW⟩:=zB (w.alloc (qp #[qZ yB 0 0] 158));have am:yM B w W:=by rw[<-hW,<-hB];exact(yR _ _).alloc (qPq _) _
 have hX:W.heap[B]? =yA (qp #[qZ yB 0 0] 158):=by
  rw[<-hW,<-hB];show(w.heap.push _)[w.heap.size]? =_;simp
 obtain⟨an,ao,ah,HS,HL,HN,b2⟩:=yg (Ls.mk (D:=B) (l:=[]) hX (Kit.Own.start _ _ _) (qPq _)) am (zPc m a n c w hn za hs (fun x hx=>by have:=hl x hx;omega)) hs hl hn had;rw[hB]at g;have af:=zH g;obtain⟨T,Z⟩:=zB (D m);rw[Z]at bg⊢;obtain⟨b3,b8⟩:=yU bg Z;clear am hX hs hl hn had Z bg g;rw[hB];go_enter func37,ntmps37;go_wp2_with fail;(with_reducible refine ah.out.mono ?_);rintro e w2 ⟨rfl,rfl⟩;go_wp2;clear ah hW;go_loopw [0] (fun v wr=>∃(r d:List Nat) (a2:Option yF) (n2 c2 np:Nat) (p:Option yF) (cp:Nat),v=qZ a2 n2 c2/\n2<=n/\kN r=n2/\yL (∀x∈r,x<=100000)/\yL (yt w2 a2 (r.map ival))/\yL (∀p,a2=yA p->p.block<B)/\yL (Ad a2 n2 c2)/\yL (Ls wr B B p np cp d)/\yL (yM B w2 wr)/\yL (T=d++D r)) (fun v _=>lenOf v)
 case atStart=>exact⟨m,[],a,n,c,0,yB,0,rfl,qPq _,HN.out,HL,HS,af,b2,an,ao,zH (by rw[b8.out];rfl)⟩
 case round=>
  clear an ao HS HL HN b2 af;obtain⟨r,d,a2,n2,c2,np,p,cp,rfl,bj,i,S,I,g,had,G,K,hT⟩:=hrel;rcases qQz n2 with hz|hz
  .subst hz;have bb:r=[]:=qQ0 i;subst bb;obtain⟨x0,f0⟩:=zEb G.out.blk;have f:T=d:=by rw[hT.out,qCi,qQv]
   have ac:kN T=np:=by rw[f];exact G.out.len
   have bx:¬(most:Int)<(np:Int):=by have:=b3.out;omega
   obtain⟨k,aj⟩:=yU f ac;clear f ac;go_wp2;go_ret2;refine⟨p,cp,by rw[aj.out];rfl,?_,K.out⟩;rw[aj.out,k.out];exact G.out.own
  .have hne:r≠[]:=by rintro rfl;simp at i;omega
   have L:=qGr r hne;have z:=zH (zJm r 1 a2 n2 c2 wr i za (I.out.below (by rw[hB];exact K.out)) (fun x hx=>by have:=S.out x hx;omega) za);have ad:=zQe 1 r;have a0:=zQc 1 r;have a6:=zQd 1 r;obtain⟨q,hq⟩:=zB (row 1 r);rw[hq]at z ad L a0 a6;rw[show((1:Nat):Int)=1 from rfl]at z;rw[i]at ad;obtain⟨N,hN⟩:=zB (number (r.take q));rw[hN]at L;have ab:T=(d++yP N 0)++(match r.drop q with|[]=>[]|x::t=>(x-1)::D t):=by rw[hT.out,L];simp
   have bn:np+N<=most:=by
    have h1:=b3.out;have h2:=G.out.len;rw[ab]at h1;simp only[qP0,qT0]at h1;omega
   obtain⟨az,ba,bf,F,ax⟩:=yY ab a0 a6 i hN;clear L hq ab a0 a6 hN i hne;rcases had.out with⟨rfl,rfl,rfl⟩|⟨bw,bp,b,j,rfl⟩
   .omega
   go_wp2_with fail;(with_reducible refine z.out.mono ?_);clear z;rintro e w3 ⟨rfl,Y⟩;have s:=K.out.trans (Y.mono (by have:=K.out.size;omega));have z:=zH (zUz (r.take q) (yA ⟨b,j,yB⟩) q c2 w3 (by rw[qQh,F.out];omega) za (Src.take (I.out.below (by rw[hB];exact s)) q) (fun p hp=>by have h1:=g.out p hp;have h2:=s.size;omega) ba.out (by rw[ax.out];omega));rw[ax.out]at z;obtain⟨a3,ay⟩:=yU s (G.out.below Y rfl);clear Y s;go_wp2_with fail;(with_reducible refine z.out.mono ?_);clear z;rintro e w4 ⟨rfl,aa⟩;obtain⟨a5,O⟩:=yU (a3.out.trans (aa.mono (by have:=a3.out.size;omega))) (ay.out.below aa rfl);clear aa a3 ay;obtain⟨x0,f0⟩:=zEb O.out.blk;have j1:max (most:Int) 0=(most:Int):=za
   have j2:IntKind.i64.wrap ((most:Int)-(np:Int))=(most:Int)-(np:Int):=qQa _ ⟨za,za⟩;have j3:decide ((most:Int)-(np:Int)<(N:Int))=yI:=qP1 za;obtain⟨w5,b7,ae,a7⟩:=zOr w4 N za;obtain⟨z,b1⟩:=yU (zJx B B p np cp d (yA ⟨w4,0,yB⟩) N N (yP N 0) w5 (O.out.below a7 rfl) ae.src zm (fun h=>by cases h) za) (a5.out.trans (a7.mono (by have:=a5.out.size;omega)));clear ae a7;go_wp2_with fail;(with_reducible refine z.out.mono ?_);clear z x0 f0 b7 j1 j2 j3;rintro e w6 ⟨rfl,p6,ag,a1,aq⟩;obtain⟨R,H⟩:=yU a1 (b1.out.trans aq);clear a1 aq b1 a5 O;by_cases b6:q<n2
   .have u:q<kN r:=by rw[F.out];exact b6
    obtain⟨x,hx⟩:=zB (r[q]);have o:r.drop q=x::r.drop (q+1):=by rw[qSb u,hx]
    have bd:=bf.out x _ o;have f:T=((d++yP N 0)++[x-1])++D (r.drop (q+1)):=by rw[az.out,o];simp
    obtain⟨b',bk,P,e0⟩:=(I.out.below (w':=w6) (by rw[hB];exact H.out)) q (ival x) (by rw[qP3,qPu u,hx];rfl);injection P with P
    injection P with hb1 hb2 _
    subst hb1 hb2;have c6:x<=100000:=by rw[<-hx];exact S.out _ (qP9 u)
    have k:=zH f;have b5:=R.out.len;have ar:np+N+1<=1000000:=za
    have ak:=I.out;have b4:=zH (Src.drop ak (q+1));have a4:=yT (∀x∈r.drop (q+1),x<=100000) fun y hy=>S.out y (List.mem_of_mem_drop hy);have a8:=yT (kN (r.drop (q+1))=n2-q-1) (by rw[qQo,F.out];omega);have X:((x-1:Nat):Int)=(x:Int)-1:=za
    obtain⟨W7,V⟩:=zB (w6.alloc (qp #[qX qm ((x:Int)-1)] 3));have a9:yM w6 w6 W7:=by rw[<-V];exact(yR _ _).alloc (qPq _) _
    have av:yt W7 (yA ⟨w6,0,yB⟩) ([x-1].map ival):=by
     rw[<-V];have:=xM w6 (ival (x-1)) 3;unfold ival at this;rw[X]at this;show yt _ _ [ival (x-1)];unfold ival;rw[X];exact this
    obtain⟨z,bc⟩:=yU (zJx B B p6 (np+N) ag (d++yP N 0) (yA ⟨w6,0,yB⟩) 1 1 [x-1] W7 (R.out.below a9 rfl) av rfl (fun h=>by cases h) ar) (H.out.trans (a9.mono (by have:=H.out.size;omega)));have bz:IntKind.i64.wrap ((x:Int)-1)=(x:Int)-1:=by rw[qQa _ ⟨za,za⟩]
    have b9:¬c2=q:=za
    clear hx o f b5 ar ak a9 av u X bd;go_wp2_with fail;clear V e0;(with_reducible refine z.out.mono ?_);rintro e w8 ⟨rfl,p8,b0,M,ai⟩;obtain⟨au,ap⟩:=yU M (bc.out.trans ai);clear M ai z;have bq:((n2-q-1:Nat):Int)=(n2:Int)-q-1:=za
    by_cases bo:c2-q=1
    .go_wp2;go_roundw
     case rel=>
      refine⟨r.drop (q+1),(d++yP N 0)++[x-1],yA ⟨b,j+q,yB⟩,n2-q-1,0,np+N+1,p8,b0,rfl,za,a8.out,a4,zH ?_,zH (fun p hp=>by cases hp;exact g.out ⟨b,j,yB⟩ rfl),zH (qy ⟨za,za,_,_,rfl⟩),au,ap,k⟩;rw[qSv (by rw[F.out];omega)];exact Kit.Src.nil _ _
     case measure=>simp[lenOf];omega
    .go_wp2;go_roundw
     case rel=>exact⟨r.drop (q+1),(d++yP N 0)++[x-1],yA ⟨b,j+(q+1),yB⟩,n2-q-1,c2-q-1,np+N+1,p8,b0,rfl,za,a8.out,a4,b4,zH (fun p hp=>by cases hp;exact g.out ⟨b,j,yB⟩ rfl),zH (qy ⟨za,za,_,_,rfl⟩),au,ap,k⟩
     case measure=>simp[lenOf];omega
   .obtain rfl:q=n2:=za
    have o:r.drop q=[]:=qSv (by rw[F.out];omega);have f:T=(d++yP N 0)++D []:=by rw[az.out,o,qCi]
    have k:=zH f;clear f o;by_cases b9:c2=q
    all_goals
     go_wp2;go_roundw
     case rel=>exact⟨[],d++yP N 0,yA ⟨b,_,yB⟩,0,_,np+N,p6,ag,rfl,qQl _,rfl,zH (fun x hx=>by cases hx),zH (Kit.Src.nil _ _),zH (fun p hp=>by cases hp;exact g.out ⟨b,j,yB⟩ rfl),zH (qy ⟨qQl _,za,_,_,rfl⟩),R,H,k⟩
     case measure=>simp[lenOf];omega
end Zr
namespace Tn
open Front Bt Zr
def bl (s:ByteArray):List Nat:=s.data.toList.map UInt8.toNat
theorem zB2 (s:ByteArray):kN (bl s)=s.size:=by simp[bl]
theorem zRx (s:ByteArray) (i:Nat) (h:i<s.size):(bl s).getD i 0=s[i].toNat:=by
 have a:i<kN s.data.toList:=by simpa using h
 simp[bl,qPz,qP3,qPu a];rfl
def g1 (l:List Nat) (k j:Nat):Nat:=if j=0 then 0 else E l k (j-1)
theorem zV (l:List Nat) (k c:Nat):g1 l k (c+1)=E l k c:=by simp[g1]
theorem qC (l:List Nat) (k j:Nat):g1 l k j<=k:=by unfold g1;split;omega;exact qH2 _ _ _
theorem qD2 (l:List Nat) (k c:Nat) (h:l.getD k 0=c) (j:Nat):zAy (g1 l k) (c+1) (g1 l k (c+1)+1) j=g1 l (k+1) j:=by
 unfold zAy;by_cases e:j=c+1
 .subst e;rw[qPr rfl,zV,zV,zR9,qPr h]
 .rw[qPt e];unfold g1;by_cases a:j=0
  .rw[qPr a,qPr a]
  .rw[qPt a,qPt a,zR9,qPt za];rfl
def g2 (l:List Nat) (c j:Nat):Nat:=if j<=c then A l j else g1 l (kN l) j
theorem qD0 (l:List Nat) (j:Nat):g1 l (kN l) j=g2 l 0 j:=by
 unfold g2;by_cases e:j=0
 .subst e;rw[qPr (qPq _),qGu];rfl
 .rw[qPt za]
theorem qB9 (l:List Nat) (c j:Nat):g2 l c j<=kN l:=by unfold g2;split;exact qH3 _ _;exact qC _ _ _
theorem qD1 (l:List Nat) (c:Nat) (j:Nat):zAy (g2 l c) (c+1) (g2 l c (c+1)+g2 l c c) j=g2 l (c+1) j:=by
 unfold zAy;by_cases e:j=c+1
 .subst e;rw[qPr rfl];unfold g2;rw[qPt za,qPr (qPq _),qPr (qPq _),zV,qGv];omega
 .rw[qPt e];unfold g2;by_cases a:j<=c
  .rw[qPr a,qPr za]
  .rw[qPt a,qPt za]
def g3 (l:List Nat) (k j:Nat):Nat:=A l j+E l k j
theorem qDy (l:List Nat) (j:Nat) (h:j<=256):g2 l 256 j=g3 l 0 j:=by unfold g2 g3;rw[qPr h,zYq];rfl
theorem qDz (l:List Nat) (k c:Nat) (h:l.getD k 0=c) (j:Nat):zAy (g3 l k) c (g3 l k c+1) j=g3 l (k+1) j:=by
 unfold zAy g3;rw[zR9];by_cases e:j=c
 .subst e;rw[qPr rfl,qPr h];omega
 .rw[qPt e,qPt za];omega
theorem zUf (s:ByteArray) (hs:s.size<=1000000) (w:yC):
  yG yK 113 #[qY s] w fun e w'=>∃a' c',e=qx (qZ a' s.size c')/\yu w' w.heap.size 3 a' s.size c' ((zA7 (bl s)).map ival)/\yM w w w':=by
 obtain⟨B,hB⟩:=zB w.heap.size;have hz:zeroCells274=cellsOf 257 (fun _=>qX qm 0):=zf
 have x:=zAm.zeros B w 257 274 hB;rw[<-hz]at x;obtain⟨l,hl⟩:=zB (bl s);have K:kN l=s.size:=by rw[<-hl,zB2]
 have L:∀(i:Nat) (h:i<s.size),l.getD i 0=s[i].toNat:=fun i h=>by rw[<-hl,zRx s i h]
 rw[hl];obtain⟨b,P⟩:=yU K L;obtain⟨W,hW⟩:=zB (w.alloc (qp zeroCells274 274));have a6:yM B w W:=by rw[<-hW,<-hB];exact(yR _ _).alloc (qPq _) _
 rw[hW]at x;obtain⟨a2,Z⟩:=yU x a6;rw[hB];clear hz hl K L x a6;go_enter func113,ntmps113;go_wp2;clear hW;go_loopw [10] (fun i wr=>∃k:Nat,k<=s.size/\i=qX qm k/\yL (zAm wr B 274 257 (g1 l k))/\yL (yM B w wr)) (fun i _=>s.size-(intOf i).toNat)
 case atStart=>exact⟨0,za,rfl,zH (a2.out.congr (fun k _=>by simp[g1,zYq])),Z⟩
 case round=>
  clear a2 Z;obtain⟨k,hk,rfl,a,z⟩:=hrel;by_cases f:k<s.size
  .obtain⟨c,hc⟩:=zB (s[k].toNat);have aa:c<256:=by rw[<-hc];exact qTi _
   have hE:=qC l k (c+1);have x0:=a.out.cell (c+1) za;have f0:=a.out.free (c+1);have d:=zH ((a.out.set (c+1) (g1 l k (c+1)+1) (V:=((g1 l k (c+1):Nat):Int)+1) za).congr (fun j _=>qD2 l k c (by rw[P.out k f,hc]) j));obtain⟨q,y⟩:=zB (g1 l k (c+1));rw[y]at x0 hE d;clear y;go_wp2;go_roundw
   case rel=>exact⟨k+1,za,by go_num,d,zH (z.out.setCell (p:=⟨B,c+1,yB⟩) (qPq _) _)⟩
   case measure=>exact qV
  .obtain rfl:k=s.size:=za
   have a1:=zH (a.out.congr (g:=g2 l 0) (fun j _=>by rw[<-b.out];exact qD0 l j));clear a;go_wp2;go_loopw [23] (fun i wr=>∃c:Nat,c<=256/\i=qX qm c/\yL (zAm wr B 274 257 (g2 l c))/\yL (yM B w wr)) (fun i _=>256-(intOf i).toNat)
   case atStart=>exact⟨0,za,rfl,a1,z⟩
   case round=>
    clear a1 z;obtain⟨c,hc,rfl,a,z⟩:=hrel;by_cases f:c<256
    .have h1:=qB9 l c (c+1);have h2:=qB9 l c c;rw[b.out]at h1 h2;have x0:=a.out.cell (c+1) za;have x1:=a.out.cell c za;have f0:=a.out.free (c+1);have d:=zH ((a.out.set (c+1) (g2 l c (c+1)+g2 l c c) (V:=((g2 l c (c+1):Nat):Int)+((g2 l c c:Nat):Int)) za).congr (fun j _=>qD1 l c j));obtain⟨q,y⟩:=zB (g2 l c (c+1));obtain⟨r,hr⟩:=zB (g2 l c c);rw[y]at x0 h1 d;rw[hr]at x1 h2 d;clear y hr;go_wp2;go_region;go_wp2;go_roundw
     case rel=>exact⟨c+1,za,by go_num,zH d.out,zH (z.out.setCell (p:=⟨B,c+1,yB⟩) (qPq _) _).drew⟩
     case measure=>exact qV
    .obtain rfl:c=256:=za
     have n:=zH (a.out.congr (g:=g3 l 0) (fun j hj=>qDy l j za));obtain⟨w5,a8,I,O⟩:=zOr wr s.size za;obtain⟨Y,a0⟩:=yU (n.out.keep (O.block B n.out.lt)) (z.out.trans (O.mono (by have:=n.out.lt;omega)));have M:B<wr.heap.size:=n.out.lt;obtain⟨G,hG⟩:=zB wr.heap.size;rw[hG]at a8 I M;have a5:=zH I;clear a n z I O hG;go_wp2;clear a8;go_loopw [41] (fun i wr=>∃(k:Nat) (o:List Nat),k<=s.size/\i=qX qm k/\kN o=s.size/\yL (∀i,i<k->o.getD (pos l i) 0=i)/\yL (zAm wr B 274 257 (g3 l k))/\yL (yu wr G 3 (yA ⟨G,0,yB⟩) s.size s.size (o.map ival))/\yL (yM B w wr)) (fun i _=>s.size-(intOf i).toNat)
     case atStart=>exact⟨0,yP s.size 0,za,rfl,zm,zH (fun i hi=>za),Y,a5,a0⟩
     case round=>
      clear Y a5 a0;obtain⟨k,o,hk,rfl,a4,N,a,t,z⟩:=hrel;by_cases f:k<s.size
      .obtain⟨c,hc⟩:=zB (s[k].toNat);have aa:c<256:=by rw[<-hc];exact qTi _
       have S:l.getD k 0=c:=by rw[P.out k f,hc]
       have x0:=a.out.cell c za;have f0:=a.out.free c;have R:g3 l k c=pos l k:=by unfold g3 pos;rw[S]
       have u:=qFc l k (by rw[b.out];exact f);rw[b.out]at u;obtain⟨q,y⟩:=zB (pos l k);rw[y]at u;rw[R,y]at x0;obtain⟨G',m,_,_,_,F,a3⟩:=t.out.at_ za;injection m with m
       injection m with m _ _
       subst m;have y0:=F q u;rw[qP3,qPu (show q<kN o by omega),qRs]at y0;have f1:=a3 q;obtain⟨v0,a7⟩:=zB (ival o[q]);rw[a7]at y0;have x1:(wr.setCell ⟨G,q,yB⟩ (qX qm (k:Int))).cell? ⟨B,c,yB⟩=yA (qX qm (q:Int)):=by
        rw[qQf _ _ _ _ (by intro e;injection e with e1 _ _;omega)];exact x0
       have f2:(wr.setCell ⟨G,q,yB⟩ (qX qm (k:Int))).frozen? ⟨B,c,yB⟩=yI:=by rw[qSw];exact f0
       have X:=t.out.set q (ival k) u;rw[<-List.map_set]at X;have HO:=zH (zD4 (i:=c) X M (qX qm ((q:Int)+1)));have a9:zAm (wr.setCell ⟨G,q,yB⟩ (ival k)) B 274 257 (g3 l k):=a.out.keep (zAa za);obtain⟨HA,HB⟩:=yU ((a9.set c (g3 l k c+1) (V:=(q:Int)+1) (by rw[R,y];omega)).congr (fun j _=>qDz l k c S j)) ((z.out.setCell (p:=⟨G,q,yB⟩) (qP7 M) (ival k)).setCell (p:=⟨B,c,yB⟩) (qPq _) (qX qm ((q:Int)+1)));have HP:=yT (∀i,i<k+1->(o.set q k).getD (pos l i) 0=i) (by
        intro i hi;by_cases e:i=k
        .subst e;rw[y,qPz,List.getElem?_set_self za];rfl
        .have hne:q≠pos l i:=fun h=>e (qC0 l i k (by rw[b.out];omega) (by rw[b.out];omega) (by rw[y];exact h.symm));rw[qPz,qT6 hne,<-qPz];exact N.out i za)
       clear F a3 a7 X a9 R y S;go_wp2;go_roundw
       case rel=>exact⟨k+1,o.set q k,za,by go_num,by rw[qR2];exact a4,HP,HA,HO,HB⟩
       case measure=>exact qV
      .obtain rfl:k=s.size:=za
       have H:=qEl l o (by rw[a4,b.out]) (fun i hi=>N.out i (by rw[b.out]at hi;exact hi));have HE:=zH H;clear H;go_wp2;go_ret;exact⟨yA ⟨G,0,yB⟩,s.size,rfl,by rw[<-HE.out];exact t.out.base za,z.out⟩
end Tn
namespace Tn
open Front Bt Zr
def unL (s:ByteArray) (g:Nat):List UInt8:=(yO s.size).map fun i=>s.data.getD (walk (zA7 (bl s)) g (i+1)) 0
theorem zTb (s:ByteArray) (g:Nat):kN (unL s g)=s.size:=by simp[unL]
theorem walk_lt (s:ByteArray) (g:Nat) (a:g<s.size):∀k,walk (zA7 (bl s)) g k<s.size
 |0=>a
 |k+1=>by
  have c:=walk_lt s g a k;have b:kN (zA7 (bl s))=s.size:=by rw[show(zA7 (bl s)).length=kN (bl s) from zCn _ _,zB2]
  show(zA7 (bl s)).getD _ 0<_;rw[qPz,qPu za];have:=qQn.1 ((zCl (bl s)).perm.mem_iff.1 (qP9 (show walk (zA7 (bl s)) g k<kN (zA7 (bl s)) by omega)));rw[zB2]at this;exact this
theorem zU3 (w:yC) (n:Nat) (o:n<=1000000):∃w',(Instr.makeSlice 109 (qX qm (n:Int)) (qX qm (n:Int))).run yK w= .ok (qZ (yA ⟨w,0,yB⟩) n n) w'/\
  yu w' w.heap.size TB (yA ⟨w,0,yB⟩) n n ((yP n (0:UInt8)).map xC)/\yM w w w':=by
 obtain⟨z,l,m⟩:=zNh.row;obtain⟨i,hi,a,d,b⟩:=qRv l;have c:(Value.int qo 0)=z:=by
  have e:(prog.info? TB).map (fun i=>i.zero)=yA (yA (qX qo 0)):=zf
  rw[hi]at e;simp only[qRs,qTz]at e;rw[a]at e;exact(qPv e).symm
 obtain⟨w',j,f,g⟩:=run_makeSlice_full (P:=yK) (w:=w) w.heap.size 109 TB i z 1 zNh.ut hi a d qm qm n za (by rw[b];omega) (by unfold maxLen;omega) (qPq _);refine⟨w',j,?_,(yR _ _).grown g (qPq _) (fun k h=>by cases h)⟩;subst c;rw[Nat.mul_one,show(Value.int qo 0).cells= #[qX qo 0]from rfl,toList_madeCells_one]at f;rw[List.map_replicate];exact f
theorem zHm (s:ByteArray) (g:Nat) (hs:s.size<=1000000) (hg:g<s.size) (w:yC):
  yG yK 39 #[qY s,g] w fun e w'=>e=qx (qg #[qY ⟨(unL s g).toArray⟩,qX qm 0])/\yM w w w':=by
 obtain⟨B,hB⟩:=zB w.heap.size;have HV:=zH (zUf s hs w);rw[hB]at HV;have I:kN (zA7 (bl s))=s.size:=by rw[show(zA7 (bl s)).length=kN (bl s) from zCn _ _,zB2]
 have HW:=zH (walk_lt s g hg);obtain⟨U,hU⟩:=zB (unL s g);have X:=yT (∀i,i<s.size->U[i]? =yA (s.data.getD (walk (zA7 (bl s)) g (i+1)) 0)) (fun i hi=>by rw[<-hU];unfold unL;rw[qP3,qSe hi];rfl);have r:=yT (kN U=s.size) (by rw[<-hU,zTb]);obtain⟨v,hv⟩:=zB (zA7 (bl s));rw[hv]at HV I X HW;rw[hU];have a8:=zH I;clear hU hv I;rw[hB];have a9:¬max (s.size:Int) 1<=(g:Int):=za
 go_enter func39,ntmps39;go_wp2_with fail;(with_reducible refine HV.out.mono ?_);rintro e w2 ⟨a',c',rfl,b,L⟩;have u:B<=w2.heap.size:=by have:=L.size;omega
 obtain⟨w3,a4,F,M⟩:=zU3 w2 s.size za;have N:=(b.below M (qPq _));have R:=zH (L.trans (M.mono u));obtain⟨a0,aa,ab,a7⟩:=b.at_ za;obtain⟨a,ac,_⟩:=a7;have a5:a0<w2.heap.size:=a;obtain⟨G,hG⟩:=zB w2.heap.size;rw[hG]at a4 F u a5;subst aa;obtain⟨a2,Y⟩:=yU N F;clear N b F L M hG a HV a9;go_wp2;clear a4;go_loopw [27,8] (fun i v0 wr=>∃(k:Nat) (o:List UInt8),k<=s.size/\i=qX qm k/\v0=qX qm (walk v g k:Int)/\yL (kN o=s.size/\o.take k=U.take k)/\yL (yu wr B 3 (yA ⟨a0,0,yB⟩) s.size c' (v.map ival))/\yL (yu wr G TB (yA ⟨G,0,yB⟩) s.size s.size (o.map xC))/\yL (yM B w wr)) (fun i _ _=>s.size-(intOf i).toNat)
 case atStart=>exact⟨0,yP s.size 0,za,rfl,rfl,zH ⟨zm,zm⟩,a2,Y,R⟩
 case round=>
  clear a2 Y R;obtain⟨k,o,hk,rfl,rfl,y,O,j,hb⟩:=hrel;by_cases f:k<s.size
  .have hp:=HW.out k;obtain⟨p,H⟩:=zB (walk v g k);rw[H]at hp⊢;have S:=HW.out (k+1);have m:walk v g (k+1)=v.getD p 0:=by rw[<-H];rfl
   have a3:p<kN v:=by rw[a8.out];exact hp
   obtain⟨q,z⟩:=zB (walk v g (k+1));rw[z]at S;have V:v[p]=q:=by rw[<-z,m,qPz,qPu a3];rfl
   obtain⟨a1,a,_,_,_,l,_⟩:=O.out.at_ za;injection a with a
   injection a with a _ _
   subst a;have y0:=l p hp;rw[qP3,qPu a3,V,qRs]at y0;obtain⟨G',h,_,_,_,d,K⟩:=j.out.at_ za;injection h with h
   injection h with h _ _
   subst h;have y1:=d k f;have W:k<kN o:=by rw[y.out.1];exact f
   rw[qP3,qPu W,qRs]at y1;obtain⟨v0,Z⟩:=zB (xC o[k]);rw[Z]at y1;have f1:=K k;obtain⟨c,hc⟩:=zB (s[q]);have t:U[k]? =yA c:=by
    rw[X.out k f,z,<-hc];congr 1;exact zRf s q S
   have b:=j.out.set k (xC c) f;rw[<-List.map_set]at b;obtain⟨HO,HS,HB⟩:=yV b (qRz O.out (zB1 wr G k (xC c)) (qy (by intro e;simp[Value.ownBlock]at e;omega))) (hb.out.setCell (p:=⟨G,k,yB⟩) u (xC c));have HK:=yT (kN (o.set k c)=s.size/\(o.set k c).take (k+1)=U.take (k+1)) (by
    refine⟨by rw[qR2];exact y.out.1,?_⟩;have x:k<kN U:=by rw[r.out];exact f
    rw[qQp (by rw[qR2];exact W),qQp x,List.take_set_of_le (qPq _),y.out.2];rw[List.getElem_set_self];rw[qPu x]at t;rw[qPv t])
   have HQ:=zH z;clear H m z V l d K Z t b;go_wp2;go_roundw
   case rel=>exact⟨k+1,o.set k c,za,by go_num,by rw[HQ.out],HK,HS,HO,HB⟩
   case measure=>exact qV
  .obtain rfl:k=s.size:=za
   have a6:o=U:=by
    have h1:=y.out.2;rwa[qQc (by rw[y.out.1];omega),qQc (by rw[r.out];omega)]at h1
   subst a6;have ad:=Kit.Src.text (P:=yK) (n:=s.size) (c:=s.size) (src:=109) (dst:=9) j.out.src r.out underlying109 underlying5 underlying9;go_wp2;go_ret2;exact⟨rfl,hb.out⟩
end Tn
namespace Hf
open Bt
variable {l:List Nat}
def whose (l:List Nat) (n:Nat):List Nat:=(yO (kN l)).filter fun s=>l.getD s 0==n
def cnt (l:List Nat) (n:Nat):Nat:=kN (whose l n)
def first(l:List Nat):Nat->Nat
 |0=>0
 |n+1=>2*(first l n+cnt l n)
def rank (l:List Nat) (s:Nat):Nat:=kN ((yO s).filter fun i=>l.getD i 0==l.getD s 0)
def zB9 (l:List Nat) (s:Nat):Nat:=first l (l.getD s 0)+rank l s
def word (l:List Nat) (s:Nat):List Bool:=num (zB9 l s) (l.getD s 0)
structure Right (l:List Nat):Prop where
 two:2<=kN l
 most:kN l<=258
 one:∀x∈l,1<=x
 top:∀x∈l,x<=20
 zEs:∀n,n<=20->first l n+cnt l n<=2^n
theorem zGh (p:Nat->Bool):∀(n s:Nat),s<n->p s=yH->((yO n).filter p)[kN ((yO s).filter p)]? =yA s
 |0,s,h,_=>za
 |n+1,s,h,hp=>by
  rw[qQw,List.filter_append];rcases qP8 s n with c|c
  .have b:=zGh p n s c hp;rw[qR7]
   .exact b
   .rcases qP8 (kN ((yO s).filter p)) (kN ((yO n).filter p)) with a|a
    .exact a
    .rw[qQq a]at b;cases b
  .obtain rfl:s=n:=za
   rw[qS3 (qPq _),Nat.sub_self];simp[hp]
theorem zDx (l:List Nat) (s:Nat) (a:s<kN l):(whose l (l.getD s 0))[rank l s]? =yA s:=
 zGh (fun i=>l.getD i 0==l.getD s 0) (kN l) s a zm
theorem zJn (l:List Nat) (s:Nat) (b:s<kN l):rank l s<cnt l (l.getD s 0):=by
 have h:=zDx l s b;rcases qP8 (rank l s) (cnt l (l.getD s 0))with a|a
 .exact a
 .rw[qQq a]at h;cases h
theorem zRt (h:∀x∈l,1<=x):cnt l 0=0:=by
 unfold cnt whose;rw[List.length_eq_zero_iff,List.filter_eq_nil_iff];intro s a b;have a:=qQn.1 a;have:l.getD s 0=l[s]:=by simp[qPz,qPu a]
 have c:=h l[s] (qP9 a);have d:l.getD s 0=0:=by simpa using b
 omega
theorem zMr (l:List Nat):∀(d n:Nat),(first l n+cnt l n)*2^d<=first l (n+d)+(if d=0 then cnt l n else 0)
 |0,n=>by simp
 |d+1,n=>by
  have a:=zMr l d n;rw[qPt za,qRq];have e:first l (n+(d+1))=2*(first l (n+d)+cnt l (n+d)):=rfl
  rw[e];by_cases hd:d=0
  .subst hd;simp at a⊢;omega
  .rw[qPt hd]at a;have:(first l n+cnt l n)*(2^d*2)=2*((first l n+cnt l n)*2^d):=by rw[<-qTf,qRo _ 2]
   omega
theorem zF6 {s:Nat} (a:s<kN l):l.getD s 0∈l:=by
 have:l.getD s 0=l[s]:=by simp[qPz,qPu a]
 rw[this];exact qP9 a
theorem zPt (h:Right l) (s:Nat) (a:s<kN l):zB9 l s<2^l.getD s 0:=by
 have b:=zJn l s a;have c:=h.zEs (l.getD s 0) (h.top _ (zF6 a));unfold zB9;omega
theorem zSc (h:Right l) (s:Nat) (c:s<kN l) (n:Nat) (b:n<l.getD s 0):first l n+cnt l n<=zB9 l s/2^(l.getD s 0-n):=by
 have a:=zMr l (l.getD s 0-n) n;rw[qPt za,show n+(l.getD s 0-n)=l.getD s 0 by omega]at a;rw[Nat.le_div_iff_mul_le (Nat.two_pow_pos _)];unfold zB9;omega
theorem qAa (v n k:Nat) (a:k<=n):(num v n).take k=num (v/2^(n-k)) k:=by
 unfold num;rw[<-qTy,List.take_range,qTj a];refine qRy fun i hi=> ?_;have:=qQn.1 hi;rw[Nat.testBit_div_two_pow];congr 1;omega
theorem zCu (l:List Nat) (s:Nat):kN (word l s)=l.getD s 0:=zAc _ _
theorem zPh (h:Right l) (s:Nat) (b:s<kN l) (n:Nat) (a:n<=l.getD s 0):val ((word l s).take n)=zB9 l s/2^(l.getD s 0-n):=by
 unfold word;rw[qAa _ _ _ a,zT,qRh];rw[Nat.div_lt_iff_lt_mul (Nat.two_pow_pos _),<-Nat.pow_add,show n+(l.getD s 0-n)=l.getD s 0 by omega];exact zPt h s b
end Hf
namespace Wg
open Hf
variable {m n S:Nat} {p:Nat×Nat}
inductive Tr where
 |leaf (i:Nat)
 |node (a b:Tr)
def Tr.height:Tr->Nat
 | .leaf _=>0
 | .node a b=>max a.height b.height+1
def Tr.leaves:Tr->List (Nat×Nat)
 | .leaf i=>[(i,0)]
 | .node a b=>(a.leaves++b.leaves).map fun p=>(p.1,p.2+1)
def Tr.names (t:Tr):List Nat:=t.leaves.map Prod.fst
theorem Tr.zU1 (a b:Tr):(Tr.node a b).names=a.names++b.names:=by
 simp[Tr.names,Tr.leaves,Function.comp_def]
theorem Tr.zLk:∀(t:Tr) (p:Nat×Nat),p∈t.leaves->p.2<=t.height
 | .leaf i,p,h=>by simp[Tr.leaves]at h;subst h;exact qQl _
 | .node a b,p,h=>by
  simp only[Tr.leaves,qQg,qSi]at h;obtain⟨q,c,rfl⟩:=h;rcases c with c|c
  .have:=Tr.zLk a q c;simp only[Tr.height];omega
  .have:=Tr.zLk b q c;simp only[Tr.height];omega
theorem Tr.zEs:∀(t:Tr) (H:Nat),t.height<=H->(t.leaves.map fun p=>2^(H-p.2)).sum=2^H
 | .leaf i,H,_=>by simp[Tr.leaves]
 | .node a b,H,h=>by
  simp only[Tr.height]at h;obtain⟨g,rfl⟩:∃g,H=g+1:=⟨H-1,za⟩;have f:=Tr.zEs a g za;have c:=Tr.zEs b g za;simp only[Tr.leaves,qRr,Function.comp_def,qQb,List.sum_append];have e:∀d,g+1-(d+1)=g-d:=fun d=>za
  simp only[e];rw[f,c,qRq];omega
def fib:Nat->Nat
 |0=>0
 |1=>1
 |n+2=>fib (n+1)+fib n
theorem zO1:∀n,fib n<=fib (n+1)
 |0=>qW
 |1=>qW
 |n+2=>by show fib (n+1)+fib n<=fib (n+2)+fib (n+1);have:=zO1 n;show fib (n+1)+fib n<=(fib (n+1)+fib n)+fib (n+1);omega
theorem qA4 (h:m<=n):fib m<=fib n:=by
 obtain⟨k,rfl⟩:∃k,n=m+k:=⟨n-m,za⟩;clear h
 induction k with
 |zero=>exact qPq _
 |succ k ih=>exact qP2 ih (zO1 _)
structure Q where
 w:Nat
 x:Nat
 t:Tr
def before (a b:Q):Prop:=a.w<b.w\/(a.w=b.w/\a.x<b.x)
instance (a b:Q):Decidable (before a b):=inferInstanceAs (Decidable (_\/_))
theorem before_trans {a b c:Q} (d:before a b) (e:before b c):before a c:=by unfold before at*;omega
theorem before_total {a b:Q} (h:a.x≠b.x):¬before a b->before b a:=by unfold before;omega
theorem zPd {a b:Q} (h:before a b):a.w<=b.w:=by unfold before at h;omega
def ins (e:Q):List Q->List Q
 |[]=>[e]
 |y::r=>if before e y then e::y::r else y::ins e r
theorem zBh (e:Q):∀q:List Q,(ins e q).Perm (e::q)
 |[]=>qTu _
 |y::r=>by
  unfold ins;split
  .exact qTu _
  .exact((zBh e r).cons y).trans (List.Perm.swap e y r)
theorem zH5 (e:Q):∀q:List Q,q.Pairwise before->(∀y∈q,y.x≠e.x)->(ins e q).Pairwise before
 |[],_,_=>by simp[ins]
 |y::r,h,hx=>by
  obtain⟨c,d⟩:=qQ3.1 h;unfold ins;split
  .rename_i hb
   refine qQ3.2 ⟨fun z b=> ?_,h⟩;rcases qP6.1 b with rfl|b
   .exact hb
   .exact before_trans hb (c z b)
  .rename_i hb
   have a:before y e:=before_total (qQ4 (hx y zm)) hb;refine qQ3.2 ⟨fun z b=> ?_,zH5 e r d (fun z b=>hx z (by simp[b]))⟩;rcases qP6.1 ((zBh e r).mem_iff.1 b)with rfl|b
   .exact a
   .exact c z b
def build:Nat->Nat->List Q->List Q
 |0,_,q=>q
 |k+1,n,a::b::r=>build k (n+1) (ins ⟨a.w+b.w,n,.node a.t b.t⟩ r)
 |_+1,_,q=>q
def zAt:Nat->List Nat->List Q->List Q
 |_,[],q=>q
 |i,w::ws,q=>zAt (i+1) ws (ins ⟨w,i,.leaf i⟩ q)
def tree (ws:List Nat):Tr:=
 match build (kN ws-1) (kN ws) (zAt 0 ws [])with
 |[e]=>e.t
 |_=> .leaf 0
def zHh (t:Tr) (i:Nat):Nat:=((t.leaves.find? fun p=>p.1==i).map Prod.snd).getD 0
def lens (ws:List Nat):List Nat:=(yO (kN ws)).map (zHh (tree ws))
structure Inv (m S n:Nat) (q:List Q):Prop where
 sorted:q.Pairwise before
 below:∀e∈q,e.x<n
 apart:(q.map Q.x).Nodup
 sum:(q.map Q.w).sum=S
 names:(q.flatMap fun e=>e.t.names).Perm (yO m)
 fib1:∀e∈q,fib (e.t.height+2)<=e.w
 fib2:∀e∈q,∀f∈q,fib (e.t.height+1)<=f.w
theorem Inv.leaf {q:List Q} (h:Inv m S m q) (w:Nat) (l:1<=w) (j:∀e∈q,e.t.height=0/\1<=e.w):Inv (m+1) (S+w) (m+1) (ins ⟨w,m,.leaf m⟩ q):=by
 have d:=zBh ⟨w,m,.leaf m⟩ q;have a:∀e∈ins ⟨w,m,.leaf m⟩ q,e.t.height=0/\1<=e.w:=by
  intro e c;rcases qP6.1 (d.mem_iff.1 c)with rfl|c
  .exact⟨rfl,l⟩
  .exact j e c
 refine⟨zH5 _ _ h.sorted (fun y r=>by have:=h.below y r;show y.x≠m;omega),fun e c=> ?_,?_,?_,?_,fun e c=> ?_,fun e c f k=> ?_⟩
 .rcases qP6.1 (d.mem_iff.1 c)with rfl|c
  .exact qQ8 _
  .have:=h.below e c;omega
 .rw[(d.map Q.x).nodup_iff,qQe,qSy];refine⟨fun o=> ?_,h.apart⟩;obtain⟨e,c,b⟩:=qQg.1 o;have:=h.below e c;have b:e.x=m:=b;omega
 .rw[(d.map Q.w).sum_nat,qQe,qRd,h.sum];show w+S=_;omega
 .refine(d.flatMap_right _).trans ?_;rw[qSk,qQw];show([m]++_).Perm _;exact(List.perm_append_comm).trans (h.names.append_right _)
 .obtain⟨g,i⟩:=a e c;rw[g];exact i
 .obtain⟨g,_⟩:=a e c;obtain⟨_,i⟩:=a f k;rw[g];exact i
theorem Inv.join {a b:Q} {r:List Q} (h:Inv m S n (a::b::r)):Inv m S (n+1) (ins ⟨a.w+b.w,n,.node a.t b.t⟩ r):=by
 have t:=zBh ⟨a.w+b.w,n,.node a.t b.t⟩ r;obtain⟨s1,s2⟩:=qQ3.1 h.sorted;obtain⟨s3,s4⟩:=qQ3.1 s2;have j:=zPd (s1 b zm);have k:∀e∈r,b.w<=e.w:=fun e l=>zPd (s3 e l);have B:=h.fib1 a zm;have F:=h.fib1 b zm;have K:=h.fib2 a zm b zm;have L:=h.fib2 b zm a zm;have i:fib (max a.t.height b.t.height+1+2)<=a.w+b.w:=by
  show fib (max a.t.height b.t.height+2)+fib (max a.t.height b.t.height+1)<=_;rcases Nat.le_total a.t.height b.t.height with o|o
  .rw[Nat.max_eq_right o];omega
  .rw[Nat.max_eq_left o];omega
 have d:∀w,b.w<=w->fib (max a.t.height b.t.height+1+1)<=w:=by
  intro w z;rcases Nat.le_total a.t.height b.t.height with o|o
  .rw[Nat.max_eq_right o];exact qP2 F z
  .rw[Nat.max_eq_left o];exact qP2 B (qP2 j z)
 have c:∀e∈ins ⟨a.w+b.w,n,.node a.t b.t⟩ r,e=⟨a.w+b.w,n,.node a.t b.t⟩\/e∈r:=fun e l=>qP6.1 (t.mem_iff.1 l);have q:∀e∈r,e∈a::b::r:=fun e l=>by simp[l]
 refine⟨zH5 _ _ s4 (fun y I=>by have:=h.below y (q y I);show y.x≠n;omega),fun e l=> ?_,?_,?_,?_,fun e l=> ?_,fun e l f s=> ?_⟩
 .rcases c e l with rfl|l
  .exact qQ8 _
  .have:=h.below e (q e l);omega
 .rw[(t.map Q.x).nodup_iff,qQe,qSy];have u:=h.apart;rw[qQe,qQe,qSy,qSy]at u;refine⟨fun H=> ?_,u.2.2⟩;obtain⟨e,l,g⟩:=qQg.1 H;have:=h.below e (q e l);have g:e.x=n:=g;omega
 .rw[(t.map Q.w).sum_nat,qQe,qRd];have G:=h.sum;rw[qQe,qQe,qRd,qRd]at G;show a.w+b.w+_=S;omega
 .refine(t.flatMap_right _).trans ?_;rw[qSk];have x:=h.names;rw[qSk,qSk]at x;show((Tr.node a.t b.t).names++_).Perm _;rw[Tr.zU1,qQr];exact x
 .rcases c e l with rfl|l
  .exact i
  .exact h.fib1 e (q e l)
 .rcases c e l with rfl|l
  .rcases c f s with rfl|s
   .exact d _ (by show b.w<=a.w+b.w;omega)
   .exact d _ (k f s)
  .rcases c f s with rfl|s
   .exact qP2 (h.fib2 e (q e l) a zm) (by show a.w<=a.w+b.w;omega)
   .exact h.fib2 e (q e l) f (q f s)
theorem Inv.start:∀(ws:List Nat) (i S:Nat) (q:List Q),Inv i S i q->(∀e∈q,e.t.height=0/\1<=e.w)->(∀w∈ws,1<=w)->Inv (i+kN ws) (S+ws.sum) (i+kN ws) (zAt i ws q)/\kN (zAt i ws q)=kN q+kN ws
 |[],i,S,q,h,_,_=>⟨by simpa [zAt]using h,by simp[zAt]⟩
 |w::ws,i,S,q,h,hall,hw=>by
  have c:=zBh ⟨w,i,.leaf i⟩ q;have d:=h.leaf w (hw w zm) hall;have a:=Inv.start ws (i+1) (S+w) (ins ⟨w,i,.leaf i⟩ q) d (fun e b=>by
   rcases qP6.1 (c.mem_iff.1 b)with rfl|b
   .exact⟨rfl,hw w zm⟩
   .exact hall e b) (fun v hv=>hw v (by simp[hv]))
  rw[qP4,qRd];rw[show i+1+kN ws=i+(kN ws+1)by omega,show S+w+ws.sum=S+(w+ws.sum)by omega]at a;refine⟨a.1,?_⟩;show(zAt (i+1) ws (ins ⟨w,i,.leaf i⟩ q)).length=_;rw[a.2,c.length_eq,qP4];omega
theorem zO9 (k n:Nat) (q:List Q) (h:k<kN q):kN (build k n q)=kN q-k:=by
 induction k generalizing n q with
 |zero=>simp[build]
 |succ k ih=>
  match q,h with
  |a::b::r,h=>
   have c:=(zBh ⟨a.w+b.w,n,.node a.t b.t⟩ r).length_eq;rw[qP4]at c;show(build k (n+1) _).length=_;rw[ih _ _ (by rw[c];simp at h;omega),c];simp
theorem Inv.build (k n:Nat) (q:List Q) (h:Inv m S n q) (d:k<kN q):Inv m S (n+k) (build k n q):=by
 induction k generalizing n q with
 |zero=>exact h
 |succ k ih=>
  match q,h,d with
  |a::b::r,h,d=>
   have c:=(zBh ⟨a.w+b.w,n,.node a.t b.t⟩ r).length_eq;rw[qP4]at c;have:=ih (n+1) _ h.join (by rw[c];simp at d;omega);rwa[show n+1+k=n+(k+1)by omega]at this
theorem Inv.nil:Inv 0 0 0 []:=⟨List.Pairwise.nil,fun e h=>(by cases h),List.nodup_nil,rfl,qTu _,fun e h=>(by cases h),fun e h=>(by cases h)⟩
theorem zN9 (ws:List Nat) (i:1<=kN ws) (g:∀w∈ws,1<=w):(tree ws).names.Perm (yO (kN ws))/\fib ((tree ws).height+2)<=ws.sum:=by
 obtain⟨f,d⟩:=Inv.start ws 0 0 [] Inv.nil (fun e h=>by cases h) g;rw[qQd,qQd]at f;simp at d;have c:=f.build (kN ws-1) (kN ws) _ (by rw[d];omega);have a:=zO9 (kN ws-1) (kN ws) (zAt 0 ws []) (by rw[d];omega);rw[d]at a;unfold tree
 match hq:build (kN ws-1) (kN ws) (zAt 0 ws []),a with
 |[e],_=>
  rw[hq]at c;refine⟨by simpa using c.names,?_⟩;have:=c.fib1 e zm;have b:=c.sum;simp at b;rw[<-b];exact this
 |[],a=>simp at a;omega
 |_::_::_,a=>simp at a;omega
theorem zX4 {l:List (Nat×Nat)} (h:(l.map Prod.fst).Nodup) (a:p∈l):l.find? (fun q=>q.1==p.1)=yA p:=by
 induction l with
 |nil=>cases a
 |cons q r ih=>
  rw[qQe,qSy]at h;rw[List.find?_cons];rcases qP6.1 a with rfl|a
  .simp
  .have hne:(q.1==p.1)=yI:=by
    rw[qSd];intro e;exact h.1 (by rw[e];exact qQg.2 ⟨p,a,rfl⟩)
   rw[hne];exact ih h.2 a
theorem zKs {t:Tr} (h:t.names.Nodup) (a:p∈t.leaves):zHh t p.1=p.2:=by
 unfold zHh;rw[zX4 h a];rfl
theorem zSq {t:Tr} (h:t.names.Perm (yO m)):t.leaves.Perm ((yO m).map fun i=>(i,zHh t i)):=by
 have a:t.names.Nodup:=h.nodup_iff.2 qTx;have e:t.leaves=t.names.map fun i=>(i,zHh t i):=by
  unfold Tr.names;rw[qRr]
  conv=>lhs;rw[<-List.map_id t.leaves]
  refine qRy fun p b=> ?_;simp only[Function.comp,id];rw[zKs a b]
 rw[e];exact h.map _
theorem zC0 (ws:List Nat):kN (lens ws)=kN ws:=by simp[lens]
theorem zJ (l:List Nat) (n:Nat):cnt l n=l.count n:=by
 unfold cnt whose;have e:l=(yO (kN l)).map fun s=>l.getD s 0:=by
  apply qRt;intro i;rw[qP3];rcases qP8 i (kN l) with h|h
  .rw[qSe h,qPu h];simp[qPz,qPu h]
  .rw[List.getElem?_eq_none h,List.getElem?_eq_none (by simpa using h)];rfl
 conv=>rhs;rw[e]
 rw[List.count_eq_length_filter,List.filter_map,qQj];congr 1
def part (l:List Nat) (n:Nat):Nat:=(l.map fun x=>if x<=n then 2^(20-x)else 0).sum
theorem zXa (l:List Nat) (n:Nat):part l (n+1)=part l n+l.count (n+1)*2^(20-(n+1)):=by
 induction l with
 |nil=>simp[part]
 |cons x l ih=>
  unfold part at ih⊢;rw[qQe,qQe,qRd,qRd,ih,List.count_cons];by_cases h:x=n+1
  .subst h;rw[qPr (qPq _),qPt za,beq_self_eq_true,qPr rfl,qQu,qRn];omega
  .have b:(x==n+1)=yI:=by simpa using h
   rw[b];by_cases a:x<=n
   .rw[qPr za,qPr a];simp;omega
   .rw[qPt za,qPt a];simp
theorem zOi:∀{l:List Nat},(∀x∈l,1<=x)->part l 0=0
 |[],_=>rfl
 |x::l,h=>by
  have a:=zOi (l:=l) (fun y b=>h y (by simp[b]));have c:=h x zm;unfold part at a⊢;rw[qQe,qRd,a,qPt za]
theorem zMd {l:List Nat} (h:∀x∈l,1<=x):∀n,n<=20->(first l n+cnt l n)*2^(20-n)=part l n
 |0,_=>by
  rw[zOi h,zRt h];show(0+0)*_=0;rw[qRi,Nat.zero_mul]
 |n+1,hn=>by
  have a:=zMd h n za;rw[zXa,<-a,zJ l (n+1)];show(2*(first l n+cnt l n)+_)*_=_;rw[qQu,show 20-n=20-(n+1)+1 by omega,qRq,qRo 2,qTf,qRo 2]
theorem qC1 (l:List Nat) (n:Nat):part l n<=(l.map fun x=>2^(20-x)).sum:=by
 induction l with
 |nil=>simp[part]
 |cons x l ih=>
  unfold part at ih⊢;rw[qQe,qQe,qRd,qRd];generalize 2^(20-x)=K;split
  .omega
  .omega
theorem zU4 (ws:List Nat) (z:2<=kN ws) (s:kN ws<=258) (u:∀w∈ws,1<=w) (G:ws.sum<=20000):Right (lens ws):=by
 obtain⟨o,I⟩:=zN9 ws za u;have k:(tree ws).height<=20:=by
  rcases qP8 20 (tree ws).height with h|h
  .have:=qA4 (show 23<=(tree ws).height+2 by omega);have H:fib 23=28657:=by decide+kernel
   omega
  .exact h
 have r:=zSq o;have c:∀x∈lens ws,1<=x/\x<=20:=by
  intro x d;unfold lens at d;obtain⟨i,hi,rfl⟩:=qQg.1 d;have e:(i,zHh (tree ws) i)∈(tree ws).leaves:=r.mem_iff.2 (qQg.2 ⟨i,hi,rfl⟩);refine⟨?_,qP2 ((tree ws).zLk _ e) k⟩;cases ht:tree ws with
  |leaf j=>
   have:=o.length_eq;rw[ht]at this;simp[Tr.names,Tr.leaves]at this;omega
  |node a b=>
   rw[ht]at e;simp only[Tr.leaves,qQg]at e;obtain⟨q,_,F⟩:=e;injection F with _ g
   omega
 refine⟨by rw[zC0];exact z,by rw[zC0];exact s,fun x d=>(c x d).1,fun x d=>(c x d).2,fun n t=> ?_⟩;have y:=zMd (fun x d=>(c x d).1) n t;have f:=qC1 (lens ws) n;have B:((lens ws).map fun x=>2^(20-x)).sum=2^20:=by
  have l:=(tree ws).zEs 20 k;rw[(r.map fun p=>2^(20-p.2)).sum_nat,qRr]at l;unfold lens;rw[qRr];exact l
 rw[B,<-y]at f;have g:2^20=2^n*2^(20-n):=by rw[<-Nat.pow_add];congr 1;omega
 rw[g]at f;exact Nat.le_of_mul_le_mul_right f (Nat.two_pow_pos _)
end Wg
namespace Wg
open Go.Sort
section
variable {α:Type} {lt:α->α->Bool} {n i:Nat} {f g:Nat->α}
theorem zR0 (h:SWO lt) {x y:α} (a:lt x y=yH):lt y x=yI:=by
 cases hyx:lt y x with
 |false=>rfl
 |true=>
  have:=h.trans x y x a hyx;rw[h.irrefl]at this;cases this
def Hp (lt:α->α->Bool) (n:Nat) (f:Nat->α):Prop:=∀k,0<k->k<n->lt (f k) (f ((k-1)/2))=yI
structure Up (lt:α->α->Bool) (n i:Nat) (f:Nat->α):Prop where
 ok:∀k,0<k->k<n->k≠i->lt (f k) (f ((k-1)/2))=yI
 kid:∀k,0<k->k<n->(k-1)/2=i->0<i->lt (f k) (f ((i-1)/2))=yI
theorem Up.start (h:Hp lt n f) (e:∀k,k<n->g k=f k):Up lt (n+1) n g:=by
 refine⟨fun k a b c=> ?_,fun k a b c d=>za⟩;rw[e k za,e ((k-1)/2) za];exact h k a za
theorem Up.stop (h:Up lt n i f) (a:i=0\/lt (f i) (f ((i-1)/2))=yI):Hp lt n f:=by
 intro k b c;by_cases e:k=i
 .subst e;rcases a with a|a
  .omega
  .exact a
 .exact h.ok k b c e
theorem Up.step (e:SWO lt) (h:Up lt n i f) (hi:0<i) (r:i<n) (m:lt (f i) (f ((i-1)/2))=yH)
  (d:g i=f ((i-1)/2)) (j:g ((i-1)/2)=f i) (a:∀k,k≠i->k≠(i-1)/2->g k=f k):Up lt n ((i-1)/2) g:=by
 obtain⟨u,o⟩:=zB ((i-1)/2);rw[o]at m d j a⊢;refine⟨fun k b c l=> ?_,fun k b c l q=> ?_⟩
 .by_cases c1:k=i
  .subst c1;rw[d,o,j];exact zR0 e m
  .rw[a k c1 l];by_cases c2:(k-1)/2=u
   .rw[c2,j];have:=h.ok k b c c1;rw[c2]at this;exact e.ntrans _ _ _ this (zR0 e m)
   .by_cases c3:(k-1)/2=i
    .rw[c3,d];have:=h.kid k b c c3 hi;rwa[o]at this
    .rw[a _ c3 c2];exact h.ok k b c c1
 .have p:lt (f u) (f ((u-1)/2))=yI:=h.ok u q za za;rw[a ((u-1)/2) za za];by_cases c1:k=i
  .subst c1;rw[d];exact p
  .rw[a k c1 za];have:=h.ok k b c c1;rw[l]at this;exact e.ntrans _ _ _ this p
structure Dn (lt:α->α->Bool) (n i:Nat) (f:Nat->α):Prop where
 ok:∀k,0<k->k<n->(k-1)/2≠i->lt (f k) (f ((k-1)/2))=yI
 kid:∀k,0<k->k<n->(k-1)/2=i->0<i->lt (f k) (f ((i-1)/2))=yI
theorem Dn.start (h:Hp lt (n+1) f) (e:∀k,0<k->k<n->g k=f k):Dn lt n 0 g:=by
 refine⟨fun k a b c=> ?_,fun k a b c d=>za⟩;rw[e k a b,e ((k-1)/2) za za];exact h k a za
theorem Dn.stop (h:Dn lt n i f) (c:∀k,0<k->k<n->(k-1)/2=i->lt (f k) (f i)=yI):Hp lt n f:=by
 intro k a b;by_cases e:(k-1)/2=i
 .rw[e];exact c k a b e
 .exact h.ok k a b e
theorem Dn.step (q:SWO lt) (h:Dn lt n i f) {c:Nat} (m:0<c) (o:c<n) (j:(c-1)/2=i) (r:lt (f c) (f i)=yH) (s:∀k,0<k->k<n->(k-1)/2=i->lt (f k) (f c)=yI)
  (b:g i=f c) (p:g c=f i) (d:∀k,k≠i->k≠c->g k=f k):Dn lt n c g:=by
 refine⟨fun k a e l=> ?_,fun k a e l t=> ?_⟩
 .by_cases c1:k=c
  .subst c1;rw[p,j,b];exact zR0 q r
  .by_cases c2:(k-1)/2=i
   .rw[c2,b,d k za c1];exact s k a e c2
   .rw[d ((k-1)/2) c2 l];by_cases c3:k=i
    .subst c3;rw[b];exact h.kid c m o j a
    .rw[d k c3 c1];exact h.ok k a e c2
 .rw[j,b,d k za za];have:=h.ok k a e za;rwa[l]at this
theorem Hp.min (a:SWO lt) (h:Hp lt n f):∀k,k<n->lt (f k) (f 0)=yI:=by
 intro k
 induction k using Nat.strongRecOn with
 |_ k ih=>
  intro c;by_cases b:k=0
  .subst b;exact a.irrefl _
  .exact a.ntrans _ _ _ (h k za c) (ih ((k-1)/2) za za)
end
def lq (a b:Nat×Nat):Bool:=yJ (a.1<b.1)||(a.1==b.1&&yJ (a.2<b.2))
theorem zNj {a b:Nat×Nat}:lq a b=yH↔a.1<b.1\/(a.1=b.1/\a.2<b.2):=by simp[lq]
theorem zH1 {a b:Nat×Nat}:lq a b=yI↔b.1<a.1\/(a.1=b.1/\b.2<=a.2):=by
 rw[<-Bool.not_eq_true,zNj];omega
theorem zF3:SWO lq:=by
 refine⟨fun x=> ?_,fun x y z a b=> ?_,fun x y z a b=> ?_⟩
 .rw[zH1];omega
 .rw[zNj]at*;omega
 .rw[zH1]at*;omega
def pr (e:Q):Nat×Nat:=(e.w,e.x)
theorem zO0 {l:List (Nat×Nat)} {q:List Q} {a:Q} {r:List Q} {x:Nat×Nat} (f:l.Perm (q.map pr)) (j:q=a::r) (k:q.Pairwise before) (m:x∈l) (i:∀y∈l,lq y x=yI):x=pr a:=by
 subst j;have c:x∈(a::r).map pr:=f.mem_iff.1 m;rw[qQe]at c;rcases qP6.1 c with e|c
 .exact e
 .obtain⟨b,h,rfl⟩:=qQg.1 c;have g:=(qQ3.1 k).1 b h;have d:=i (pr a) (f.mem_iff.2 zm);rw[zH1]at d;unfold before at g;simp only[pr]at d;omega
def sw (l:List (Nat×Nat)) (i j:Nat):List (Nat×Nat):=(l.set i (l.getD j (0,0))).set j (l.getD i (0,0))
theorem zWo (l:List (Nat×Nat)) (i j:Nat):kN (sw l i j)=kN l:=by simp[sw]
theorem zTd (l:List (Nat×Nat)) (i j:Nat) (hi:i<kN l) (a:j<kN l):(sw l i j).Perm l:=by
 have:=perm_set_set l i j hi a;unfold sw;rw[qPz,qPz,qPu hi,qPu a];exact this
theorem qEy (l:List (Nat×Nat)) (i j:Nat) (hi:i<kN l) (a:i≠j):(sw l i j).getD i (0,0)=l.getD j (0,0):=by
 unfold sw;rw[qPz,qT6 (qQ4 a),List.getElem?_set_self hi];rfl
theorem qEw (l:List (Nat×Nat)) (i j:Nat) (a:j<kN l):(sw l i j).getD j (0,0)=l.getD i (0,0):=by
 unfold sw;rw[List.getD_eq_getElem?_getD,List.getElem?_set_self (by simpa using a)];rfl
theorem qEx (l:List (Nat×Nat)) (i j k:Nat) (hi:k≠i) (a:k≠j):(sw l i j).getD k (0,0)=l.getD k (0,0):=by
 unfold sw;rw[qPz,qT6 (qQ4 a),qT6 (qQ4 hi),<-qPz]
def at_ (l:List (Nat×Nat)) (k:Nat):Nat×Nat:=l.getD k (0,0)
def zEa (l:List (Nat×Nat)):List (Nat×Nat):=(l.set 0 (l.getD (kN l-1) (0,0))).take (kN l-1)
theorem qBb (l:List (Nat×Nat)):kN (zEa l)=kN l-1:=by simp[zEa]
theorem qE (l:List (Nat×Nat)) (k:Nat) (b:0<k) (a:k<kN l-1):at_ (zEa l) k=at_ l k:=by
 unfold at_ zEa;rw[qPz,qUe a,qT6 za,<-qPz]
theorem zYa:∀l:List (Nat×Nat),l≠[]->l.Perm (at_ l 0::zEa l)
 |[],h=>absurd rfl h
 |[x],_=>by simp[at_,zEa]
 |x::y::r,_=>by
  have e:zEa (x::y::r)=(y::r).getLast zm::(y::r).dropLast:=by
   unfold zEa;rw[qPw,show(x::y::r).length-1=kN r+1 by simp,qR5,List.dropLast_eq_take];congr 1;rw[qPz,List.getLast_eq_getElem];simp
  rw[e];refine List.Perm.cons _ ?_;have a:=List.dropLast_concat_getLast (l:=y::r) zm
  conv=>lhs;rw[<-a]
  exact List.perm_append_comm
def Sat (up:Nat->Nat) (q:List Q) (n:Nat) (D:Nat->Nat):Prop:=∀x,x<n->x∉q.map Q.x->D x=D (up x)+1
def Good (up:Nat->Nat) (q:List Q) (n:Nat):Prop:=∀D,Sat up q n D->∀e∈q,∀p∈e.t.leaves,D p.1=D e.x+p.2
theorem Good.start {up:Nat->Nat} {q:List Q} {n:Nat} (h:∀e∈q,e.t= .leaf e.x):Good up q n:=by
 intro D _ e b p a;rw[h e b]at a;simp[Tr.leaves]at a;subst a;rfl
theorem Good.join {up d:Nat->Nat} {a b:Q} {r:List Q} {n:Nat} (h:Good up (a::b::r) n) (m:∀e∈a::b::r,e.x<n) (hd:((a::b::r).map Q.x).Nodup)
  (w:d a.x=n) (y:d b.x=n) (z:∀x,x≠a.x->x≠b.x->d x=up x):Good d (ins ⟨a.w+b.w,n,.node a.t b.t⟩ r) (n+1):=by
 intro D l;have o:=zBh ⟨a.w+b.w,n,.node a.t b.t⟩ r;have k:∀x,x∈(ins ⟨a.w+b.w,n,.node a.t b.t⟩ r).map Q.x↔x=n\/x∈r.map Q.x:=by
  intro x;rw[(o.map Q.x).mem_iff,qQe,qP6]
 simp only[qQe,qSy,qP6,not_or]at hd;obtain⟨⟨B,q⟩,s,F⟩:=hd;have la:=m a zm;have lb:=m b zm;have s1:Sat up (a::b::r) n D:=by
  intro x G f;simp only[qQe,qP6,not_or]at f;have:=l x za (by rw[k];rintro(e|e);omega;exact f.2.2 e);rwa[z x f.1 f.2.1]at this
 have t:D a.x=D n+1:=by
  have:=l a.x za (by rw[k];rintro(e|e);omega;exact q e);rwa[w]at this
 have u:D b.x=D n+1:=by
  have:=l b.x za (by rw[k];rintro(e|e);omega;exact s e);rwa[y]at this
 intro e j p i;rcases qP6.1 (o.mem_iff.1 j)with rfl|j
 .simp only[Tr.leaves,qQg,qSi]at i;obtain⟨g,c,rfl⟩:=i;show D g.1=D n+(g.2+1);rcases c with c|c
  .have:=h D s1 a zm g c;rw[this,t];omega
  .have:=h D s1 b zm g c;rw[this,u];omega
 .exact h D s1 e (by simp[j]) p i
theorem qA1 {up:Nat->Nat} {e:Q} {n:Nat} {D:Nat->Nat} (h:Good up [e] (n+1)) (f:e.x=n) (a:D n=0) (c:∀x,x<n->D x=D (up x)+1):∀p∈e.t.leaves,D p.1=p.2:=by
 intro p d;have:=h D (fun x g b=>c x (by simp at b;omega)) e zm p d;rw[this,f,a];omega
theorem qDd {ws:List Nat} {D:Nat->Nat} (e:1<=kN ws) (d:∀w∈ws,1<=w) (f:∀p∈(tree ws).leaves,D p.1=p.2) (i:Nat) (hi:i<kN ws):(lens ws)[i]? =yA (D i):=by
 have b:=(zN9 ws e d).1;have a:i∈(tree ws).names:=b.mem_iff.2 (qQn.2 hi);unfold Tr.names at a;obtain⟨p,c,rfl⟩:=qQg.1 a;unfold lens;rw[qP3,qSe hi,qRs,zKs (b.nodup_iff.2 qTx) c,f p c]
end Wg
namespace Kit
section
variable {P:Program} {ops:Array Oper} {Q:Exit->Act->yC->Prop} {md:Region.Mode}
theorem zSk {n:Nat} {row:String} {args:Array yD} {w:yC} {R:yD->yC->Prop} (l:Nat) (h:Rows P row args w R):RowsIn (Fence.wide.inRound l) n P row args w R:=by
 intro c a _;obtain⟨v,w',r,s⟩:=h c a;exact⟨v,w',r,stepsIn_wide.2 s⟩
def zDy (Q:Exit->Act->yC->Prop):Exit->Act->yC->Prop
 | .outgrown,_,_=>False
 |e,a,w=>Q e a w
theorem zGa:¬LetsOut (zDy Q):=fun⟨_,_,h⟩=>h
theorem qCo (l n:Nat) {o:Oper} {a:Act} {K:Act->yC->Prop}:∀{r:Result Next},o.upon P a K (zDy Q) r->o.uponIn (Fence.wide.inRound l) n P a K Q r
 | .ok (.value v) w',h=>h
 | .ok .skip w',h=>h
 | .ok (.defer d) w',h=>h
 | .ok (.enter f args) w',h=>⟨(fun hd=>by cases hd),CallsIn.inRound l (qQi.2 (Calls.mono h (fun e g b=>by
   cases e with
   |returned v=>exact b
   |panicked c=>exact b
   |outgrown=>exact(zGa b).elim)))⟩
 | .ok (.row row args) w',h=>⟨(fun hd=>by cases hd),zSk l h⟩
 | .ok (.round _ _ _ _ _) w',h=>h.elim
 | .halt (.panic v) w',h=>h
theorem qHd (l n:Nat) {o:Oper} {a:Act} {w:yC} {K:Act->yC->Prop} (hd:∀c,o.op≠ .defer c) (h:Oper.wp P o a w K (zDy Q)):o.wpIn (Fence.wide.inRound l) n P a w K Q:=by
 unfold Oper.wpIn;refine⟨fun _ _=>trivial,?_⟩;rw[Oper.semAt_plain _ _ _ hd];exact qCo l n h
theorem zMx (l n:Nat) (hd:∀(i:Nat) (o:Oper),ops[i]? =yA o->∀c,o.op≠ .defer c):∀(d:Nat) (e:Array Bool) (a:Act) (w:yC),wpAny P md ops (zDy Q) d e a w->wpAnyIn (Fence.wide.inRound l) n P md ops Q d e a w
 |0,_,_,_,h=>h
 |d+1,e,a,w,h=>by
  refine⟨h.1,fun i hi=> ?_⟩;have b:=h.2 i hi;unfold wpOp at b;unfold wpOpIn;cases ho:ops[i]? with
  |none=>rw[ho]at b;exact zMx l n hd d _ _ _ b
  |some o=>
   rw[ho]at b;simp only at b⊢;split at b
   .next hw=>rw[qPr hw];exact Oper.wpIn_mono (fun a w=>zMx l n hd d _ a w) (qHd l n (hd i o ho) (b.resolve_right (fun h=>zGa h.2)))
   .next hw=>rw[qPt hw];exact⟨fun _ _=>trivial,zMx l n hd d _ _ _ b⟩
def zJu (ops:Array Oper):Bool:=ops.all fun o=>match o.op with
 | .defer _=>false
 |_=>true
theorem zKq {f l n:Nat} {a:Act} {w:yC} (e:P.follows .mixedOrders=yH) (hd:zJu ops=yH) (h:wpAny P .any ops (zDy Q) ops.size (Array.replicate ops.size yI) a w.drew):(Code.region f ops yH).wpIn (Fence.wide.inRound l) n P Q a w:=by
 refine wpIn_region_any e (zMx l n (fun i o hi c d=> ?_) _ _ _ _ h);have b:=(qUf.1 hd) o (Array.mem_of_getElem? hi);rw[d]at b;cases b
theorem zRj {S:yC->Prop} {d l n:Nat} {a:Act} {w:yC} (c:P.follows .mixedOrders=yH) (hd:zJu ops=yH) (b:S w.drew) (h:S w.drew->wpAnyH P .any ops (zDy Q) S ops.size (Array.replicate ops.size yI) a w.drew):(Code.region d ops yH).wpIn (Fence.wide.inRound l) n P Q a w:=
 zKq c hd (wpAny_of_held _ _ _ _ (h b))
theorem zX6 (i:Nat) {d:Nat} {c:Array Bool} {a:Act} {w w':yC} {ty:yE} {x y:Operand} {g:yF} {v:yD} (j:Region.ready md ops c=[i])
  (b:(ops[i]?).map (fun o=>(o.op,o.dst))=yA (.store ty x y,yB)) (e:(ops[i]?).map (fun o=>Region.wanted o (yielded ops a.tmps))=yA yH)
  (k:a.eval x=qc (yA g)) (l:a.eval y=v) (f:(storeVar ty g v).run P w= .ok () w') (h:wpAny P md ops Q d (c.setIfInBounds i yH) a w'):wpAny P md ops Q (d+1) c a w:=by
 cases hi:ops[i]? with
 |none=>rw[hi]at b;cases b
 |some o=>
  rw[hi]at b e;simp only[qRs,qTz,Prod.mk.injEq]at b e;refine zJ1 i hi j e ?_;unfold Oper.wp execOp;simp only[b.1,k,l,Instr.storeAt,Instr.sureAddr,qRl,qSo,qS2,f];show wpAny P md ops Q d _ (a.put o.dst yN) w';rw[b.2];exact h
theorem zX8 {S:yC->Prop} (i:Nat) {e:Nat} {c:Array Bool} {a:Act} {w:yC} {ty:yE} {x:Operand} {d:Option Tmp} {g:yF} {v:yD} (n:Region.ready md ops c=[i])
  (b:(ops[i]?).map (fun o=>(o.op,o.dst))=yA (.load ty x,d)) (f:(ops[i]?).map (fun o=>Region.wanted o (yielded ops a.tmps))=yA yH)
  (p:a.eval x=qc (yA g)) (m:(loadVar ty g).run P w= .ok v w) (k:S w) (h:wpAnyH P md ops Q S e (c.setIfInBounds i yH) (a.put d v) w):wpAnyH P md ops Q S (e+1) c a w:=by
 refine wpAnyH_all n zm (fun j l=> ?_);obtain rfl:=qRe.1 l;unfold wpOp;cases hi:ops[j]? with
 |none=>rw[hi]at b;cases b
 |some o=>
  rw[hi]at b f;simp only[qRs,qTz,Prod.mk.injEq]at b f;simp only[f,qRx];left;unfold Oper.wp execOp;simp only[b.1,p,Instr.loadAt,Instr.sureAddr,qRl,qSo,qS2,m];show S w/\wpAnyH P md ops Q S e _ (a.put o.dst v) w;rw[b.2];exact⟨k,h⟩
theorem zH9 {S:yC->Prop} (i:Nat) {d:Nat} {c:Array Bool} {a:Act} {w w':yC} {ty:yE} {x y:Operand} {g:yF} {v:yD} (m:Region.ready md ops c=[i])
  (b:(ops[i]?).map (fun o=>(o.op,o.dst))=yA (.store ty x y,yB)) (e:(ops[i]?).map (fun o=>Region.wanted o (yielded ops a.tmps))=yA yH)
  (n:a.eval x=qc (yA g)) (p:a.eval y=v) (k:(storeVar ty g v).run P w= .ok () w') (f:S w') (h:S w'->wpAnyH P md ops Q S d (c.setIfInBounds i yH) a w'):wpAnyH P md ops Q S (d+1) c a w:=by
 refine wpAnyH_all m zm (fun j l=> ?_);obtain rfl:=qRe.1 l;unfold wpOp;cases hi:ops[j]? with
 |none=>rw[hi]at b;cases b
 |some o=>
  rw[hi]at b e;simp only[qRs,qTz,Prod.mk.injEq]at b e;simp only[e,qRx];left;unfold Oper.wp execOp;simp only[b.1,n,p,Instr.storeAt,Instr.sureAddr,qRl,qSo,qS2,k];show S w'/\wpAnyH P md ops Q S d _ (a.put o.dst yN) w';rw[b.2];exact⟨f,h f⟩
end
end Kit
namespace Wg
open Bt Zr Front
variable {w w':yC} {R c B n g:Nat} {a:Option yF} {l:List (Nat×Nat)} {e:yE}
def tv (p:Nat×Nat):yD:= .agg #[qX qm (p.1:Int),qX qm (p.2:Int)]
def TL:Kit.Lay (Nat×Nat) where
 k:=2
 pos:=za
 cl:=fun p=>[qX qm (p.1:Int),qX qm (p.2:Int)]
 len:=fun _=>rfl
 one:=fun p v hv=>by
  simp at hv;rcases hv with rfl|rfl<;>rfl
theorem zPg (p q:Nat×Nat) (w:yC):
  yG yK 176 #[tv p,tv q] w fun e w'=>e=qx (qh (lq p q))/\yM w w w':=by
 obtain⟨a,b⟩:=p;obtain⟨c,d⟩:=q;unfold tv;have m:yM w w ((w.alloc (qp #[a,b] 295)).alloc (qp #[c,d] 295)):=
  ((yR _ _).alloc (qPq _) _).alloc zm _
 obtain⟨B,k⟩:=zB w.heap.size;obtain⟨j,g⟩:=zB (w.alloc (qp #[a,b] 295));have x:j.heap.size=B+1:=by rw[<-g,zA,k]
 obtain⟨s,f⟩:=zB (j.alloc (qp #[c,d] 295));have t:s.heap[B]? =yA (qp #[a,b] 295):=by
  rw[<-f,Lib.alloc_old j _ B za,<-g,<-k];show(w.heap.push _)[w.heap.size]? =_;simp
 have u:s.heap[B+1]? =yA (qp #[c,d] 295):=by
  rw[<-f,<-x];show(j.heap.push _)[j.heap.size]? =_;simp
 rw[g,f,k]at m;obtain⟨z,F,_,_⟩:=zAf t;obtain⟨G,H,_,_⟩:=zAf u;have HB:=zH m;rw[k];clear m t u;obtain⟨r,o⟩:=zB (lq (a,b) (c,d));rw[o];have i:=zH o;clear o;rcases qTq a c with h|h|h
 .have hd:decide (a<c)=yH:=qQ h;have e:r=yH:=by rw[<-i.out,zNj];exact qz h
  subst e;clear i h;go_enter func176,ntmps176;go_wp2;go_ret;exact⟨rfl,HB.out⟩
 .subst h;have hd:decide (a<a)=yI:=qP1 za;have e:decide (b<d)=r:=by rw[<-i.out];unfold lq;simp
  clear i;go_enter func176,ntmps176;go_wp2;go_ret;exact⟨rfl,HB.out⟩
 .have hd:decide (a<c)=yI:=qP1 za;have y:¬a=c:=za
  have e:r=yI:=by rw[<-i.out,zH1];exact qz h
  subst e;clear i h;go_enter func176,ntmps176;go_wp2;go_ret;exact⟨rfl,HB.out⟩
abbrev TT:yE:=295
abbrev TQ:yE:=299
abbrev QF:yD:= .func (.func 176) #[] #[]
theorem qHe:Kit.zVx yK 297 TT TL.k 16:=⟨underlying297,.agg #[qX qm 0,qX qm 0],zf,rfl⟩
theorem qHi:(prog.info? TT).map (·.size)=yA TL.k:=zf
theorem szT:∀w,(sizeOf TT).run yK w= .ok 2 w:=fun w=>sizeOf295 w
theorem qBq:∀w,(isAgg TT).run yK w= .ok yH w:=fun w=>zf
structure Qu (w:yC) (R:Nat) (a:Option yF) (c:Nat) (l:List (Nat×Nat)):Prop where
 blk:w.heap[R]? =yA (qp #[qZ a (kN l) c,QF] TQ)
 own:yx TL w (R+1) TT a (kN l) c l
theorem Qu.lt (h:Qu w R a c l):R<w.heap.size:=zAd h.blk
structure StT (w w':yC) (R:Nat):Prop where
 old:∀k,k<w.heap.size->k≠R->(∀cs f,w.heap[k]?≠yA (qp cs TT f))->w'.heap[k]? =w.heap[k]?
 below:yM R w w'
theorem StT.refl (w:yC) (R:Nat):StT w w R:=⟨fun k _ _ _=>rfl,yR _ _⟩
theorem StT.trans {b:yC} (h:StT w w' R) (g:StT w' b R):StT w b R:=by
 refine⟨fun k d i j=> ?_,h.below.trans g.below⟩;have m:=h.old k d i j;rw[g.old k (qQx d h.below.size) i (fun o f=>by rw[m];exact j o f),m]
theorem StT.of_below (b:yM w w w') (f:R<=w.heap.size):StT w w' R:=⟨fun k d _ _=>b.block k d,b.mono f⟩
theorem Qu.below {D:Nat} (h:Qu w R a c l) (b:yM D w w') (d:D=w.heap.size):Qu w' R a c l:=by
 subst d;exact⟨(b.block R h.lt).trans h.blk,h.own.below b (qPq _)⟩
theorem zJt {t:yE} {j:Array yD} {f:Nat×Nat} (h:yx TL w B e a n c l) (k:w.heap[R]? =yA (qp j t f)) (m:t≠e):
  (Value.slice a n c).ownBlock≠yA R:=by
 intro i;obtain⟨_,d⟩:=h;rcases d with⟨d,_⟩|⟨g,o,p,hv,q,b,_⟩
 .injection d with d _ _
  subst d;simp[Value.ownBlock]at i
 .injection hv with ha _ hc
  subst ha;simp[Value.ownBlock]at i;subst i;rw[k]at b;injection b with b
  injection b with _ b _
  exact m b
theorem zE3 (h:yx TL w B e (yA ⟨g,0,yB⟩) n c l):B<=g/\n<=c/\∃b f,w.heap[g]? =yA (qp b e f):=by
 rcases h.2 with⟨d,_⟩|⟨g',m,o,hv,i,j,k,_⟩
 .cases d
 .injection hv with hv _ hc
  injection hv with hv
  injection hv with hv
  subst hv hc;exact⟨i,k,_,_,j⟩
theorem Qu.set (h:Qu w R (yA ⟨g,0,yB⟩) c l) (i:Nat) (hi:i<kN l) (x:Nat×Nat):
  (storeVar TT ⟨g,i*2,yB⟩ (tv x)).run yK w= .ok () (w.setCells g (i*2) (TL.cl x))/\Qu (w.setCells g (i*2) (TL.cl x)) R (yA ⟨g,0,yB⟩) c (l.set i x)/\StT w (w.setCells g (i*2) (TL.cl x)) R:=by
 have b:=h.own.set qHi i hi x;have o:=zE3 h.own;have a:R≠g:=za
 refine⟨b.1,⟨?_,?_⟩,⟨fun k p q j=>xH _ _ _ _ _ (fun e=> ?_),xA _ _ _ (yR _ _) za⟩⟩
 .rw[qR2];exact(xH _ _ _ _ _ a).trans h.blk
 .rw[qR2];exact b.2
 .subst e;obtain⟨_,_,d,f,m⟩:=o;exact j d f m
theorem Qu.ld (h:Qu w R (yA ⟨g,0,yB⟩) c l) (i:Nat) (hi:i<kN l):(loadVar TT ⟨g,i*2,yB⟩).run yK w= .ok (tv (at_ l i)) w:=by
 have b:=h.own.rd.ld (P:=yK) (e:=TT) i hi szT qBq;rw[qQd]at b;unfold at_;rw[qPz,qPu hi];exact b
theorem Qu.drew (h:Qu w R a c l):Qu w.drew R a c l:=⟨h.blk,h.own⟩
theorem Qu.here (h:Qu w R a c l) (b:0<kN l):∃g,a=yA ⟨g,0,yB⟩:=by
 obtain⟨g,d,_⟩:=h.own.at_ b;exact⟨g,d⟩
theorem Qu.push (h:Qu w R a c l) (x:Nat×Nat) (I:kN l<=100000):
  ∃a' c' w',(Builtin.append_ #[297,297] 297 #[qZ a (kN l) c,qZ (yA ⟨w,0,yB⟩) 1 1]).run yK (w.alloc (qp (TL.cl x).toArray TT))= .ok (qZ a' (kN l+1) c') w'/\
   w'.heap[R]? =yA (qp #[qZ a (kN l) c,QF] TQ)/\Qu (w'.setCell ⟨R,0,yB⟩ (qZ a' (kN l+1) c')) R a' c' (l++[x])/\StT w (w'.setCell ⟨R,0,yB⟩ (qZ a' (kN l+1) c')) R:=by
 have F:Kit.Rd TL (w.alloc (qp (TL.cl x).toArray TT)) (yA ⟨w,0,yB⟩) [x]:=Kit.zFo w x TT;have m:yx TL (w.alloc (qp (TL.cl x).toArray TT)) (R+1) TT a (kN l) c l:=h.own.alloc _;have q:=h.lt;obtain⟨a',c',w',r,o,i⟩:=m.app (ty:=297) qHe (yA ⟨w,0,yB⟩) 1 1 [x] F rfl (fun h=>by cases h) (by unfold maxLen;omega) za (by rw[zA];omega);have j:yM w w (w.alloc (qp (TL.cl x).toArray TT)):=(yR _ _).alloc (qPq _) _;have b:(w.alloc (qp (TL.cl x).toArray TT)).heap[R]? =yA (qp #[qZ a (kN l) c,QF] TQ):=(j.block R q).trans h.blk;have hne:=zJt m b qW;have d:w'.heap[R]? =yA (qp #[qZ a (kN l) c,QF] TQ):=(i.block R (zAd b) (fun e=>hne e.symm)).trans b;refine⟨a',c',w',r,d,⟨?_,?_⟩,⟨fun k s t u=> ?_,?_⟩⟩
 .rw[setBlock 0 d,qP0];rfl
 .rw[qP0];exact qRz o (zB1 w' R 0 _) (qy (zJt o d qW))
 .rw[zAa t];refine(i.block k (by rw[zA];omega) (fun e=> ?_)).trans (j.block k s);obtain⟨_,f⟩:=h.own;rcases f with⟨f,_⟩|⟨g,G,H,hv,_,y,_⟩
  .injection f with f _ _
   subst f;simp[Value.ownBlock]at e
  .injection hv with ha _ _
   subst ha;simp[Value.ownBlock]at e;subst e;exact u _ _ y
 .refine((j.mono (qP7 q)).trans (Kit.zAq i (by rw[zA];omega) (fun k z=> ?_))).setCell (p:=⟨R,0,yB⟩) (qPq _) _;have:=m.block k z;omega
theorem zQq (R:Nat) (a:Option yF) (c:Nat) (l:List (Nat×Nat)) (x:Nat×Nat) (w:yC) (q:Qu w R a c l) (hl:kN l<=1000) (hp:Hp lq (kN l) (at_ l)):
  yG yK 177 #[qc (yA ⟨R,0,yB⟩),tv x] w fun e w'=>e=qx (qg #[])/\∃a' c' l',Qu w' R a' c' l'/\l'.Perm (x::l)/\Hp lq (kN l') (at_ l')/\StT w w' R:=by
 obtain⟨B,hB⟩:=zB w.heap.size;have ac:=q.lt;rw[hB]at ac;obtain⟨W,hW⟩:=zB (w.alloc (qp #[qX qm (x.1:Int),qX qm (x.2:Int)] TT));have zW:W.heap.size=B+1:=by rw[<-hW,zA,hB]
 have M:yM B w W:=by rw[<-hW,<-hB];exact(yR _ _).alloc (qPq _) _
 have K:=q.below M hB.symm;have hx:W.heap[B]? =yA (qp #[qX qm (x.1:Int),qX qm (x.2:Int)] TT):=by
  rw[<-hW,<-hB];show(w.heap.push _)[w.heap.size]? =_;simp
 have a3:(loadVar TT ⟨B,0,yB⟩).run yK W.drew= .ok (tv x) W.drew:=by
  obtain⟨x0,x1,_,_⟩:=zAf (w:=W.drew) hx;exact Kit.zHe (L:=TL) (b:=B) (off:=0) (x:=x) (fun i hi=>by
   have:i=0\/i=1:=by have h2:i<2:=hi;omega
   rcases this with rfl|rfl
   .exact x0
   .exact x1) szT qBq
 obtain⟨n,hn⟩:=zB (kN l);obtain⟨a1,c1,w1,G,d,f,s⟩:=K.drew.push x za;rw[hn]at G d f s hl hp;have aa:W.drew.heap.size=B+1:=zW;obtain⟨y0,_,_,_⟩:=zAf (w:=W.drew) K.blk;rw[hn]at y0;obtain⟨y2,_,y3,_⟩:=zAf d;have h:(loadVar 297 ⟨R,0,yB⟩).run yK W.drew= .ok (qZ a n c) W.drew:=yw y0 zf zf;have I:(storeVar 297 ⟨R,0,yB⟩ (qZ a1 (n+1) c1)).run yK w1= .ok () (w1.setCell ⟨R,0,yB⟩ (qZ a1 (n+1) c1)):=Kit.zDs y2 y3 zf rfl rfl;obtain⟨w2,V⟩:=zB (w1.setCell ⟨R,0,yB⟩ (qZ a1 (n+1) c1));rw[V]at I f s;have H:kN (l++[x])=n+1:=by rw[qP0,hn];rfl
 have a7:StT w w2 R:=(StT.of_below (hB▸M) za).trans ((StT.of_below (w':=W.drew) (yR _ _).drew za).trans s);have hU:Up lq (n+1) n (at_ (l++[x])):=Up.start hp (fun k hk=>by
  unfold at_;rw[qPz,qPz,qR7 za])
 have HU:=zH hU;have HP:=yT ((l++[x]).Perm (x::l)) (List.perm_append_singleton x l);obtain⟨a0,a6,Y,F,Z⟩:=yY f H a7 a3 h;have X:=yT ((loadVar 297 ⟨R,0,yB⟩).run yK (W.drew.alloc (qp (TL.cl x).toArray TT))= .ok (qZ a n c) (W.drew.alloc (qp (TL.cl x).toArray TT))) (yw ((World.cell?_alloc_lt _ _ _ (by show R<_;omega)).trans y0) zf zf);obtain⟨ab,a9,HZ⟩:=yV I G aa;obtain⟨z0,_,_,_⟩:=zAf f.blk;rw[H]at z0;clear q K M hx a3 hn G d f s y0 y2 y3 h I V H a7 hU zW aa hp;unfold tv at F⊢;go_enter func177,ntmps177;go_wp2;clear hW hB;refine zS [7,10] (fun W'=>(loadVar 297 ⟨R,0,yB⟩).run yK W'= .ok (qZ a n c) W') [0,0,2,4,8,0,32,80,255,511,767] 11<|zu 0 6 (zP R 0)<|zu 1 7 (zP R 0)<|zu 2 8 (zP R 0)<|zu 3 9 (zP R 0)<|zy 4 10 (qZ a n c) (fun w hS=>zl 297 9 (hS)) Z.out<|zp [5]<|zt 11 (.agg #[qX qm (x.1:Int),qX qm (x.2:Int)]) (zl 295 3 (F.out))<|zn<|zo 6 12 (qZ (yA ⟨W.drew.heap.size,0,yB⟩) 1 1) zf (qy (qy (X.out)))<|zo 7 13 (qZ a1 (n+1) c1) (Kit.zHb (.tmp 10) (.tmp 12) 297 rfl zf zf a9.out) (qy (qz zf))<|zp [8,9]<|zk 14 (zP R 0)<|zk 15 (zP R 0)<|zn<|zw 10 yB (zr 297 15 13 (ab.out)) (qy (qz zf))<|zE<| ?_
 simp only[zP,zI,Act.put,qPx,qPw,qPy];clear a9 F Z X ab HZ;go_wp2;go_loopw [4] (fun i wr=>∃(k c2:Nat) (a2:Option yF) (m:List (Nat×Nat)),k<=n/\i=qX qm k/\yL (Qu wr R a2 c2 m)/\yL (kN m=n+1)/\yL (m.Perm (x::l))/\yL (Up lq (n+1) k (at_ m))/\yL (StT w wr R)) (fun i _=>(intOf i).toNat)
 case atStart=>exact⟨n,c1,a1,l++[x],qPq _,by go_num,a0,a6,HP,HU,Y⟩
 case round=>
  clear a0 a6 HP HU Y z0;obtain⟨k,c2,a2,m,hk,rfl,q,z,hp,hu,hs⟩:=hrel;obtain⟨g,rfl⟩:=q.out.here (by rw[z.out];omega);by_cases h0:0<k
  .obtain⟨u,S⟩:=zB ((k-1)/2);have af:u<k:=za
   have f:((k:Int)-1)/2=(u:Int):=za
   have ae:=(zE3 q.out.own).1;obtain⟨x0,x1,_,_⟩:=zAf (w:=wr.drew) q.out.blk;rw[z.out]at x0;have h:(loadVar 297 ⟨R,0,yB⟩).run yK wr.drew= .ok (qZ (yA ⟨g,0,yB⟩) (n+1) c2) wr.drew:=yw x0 zf zf;have a4:(loadVar 296 ⟨R,1,yB⟩).run yK wr.drew= .ok QF wr.drew:=yw x1 zf zf;have d:k<kN m:=by rw[z.out];omega
   have o:u<kN m:=by rw[z.out];omega
   obtain⟨L0,L1,LK,LU,HC,p⟩:=yZ h a4 (q.out.drew.ld k d) (q.out.drew.ld u o) (zPg (at_ m k) (at_ m u) wr.drew) S;obtain⟨pk,N⟩:=zB (at_ m k);obtain⟨pu,O⟩:=zB (at_ m u);rw[N]at LK HC;rw[O]at LU HC;obtain⟨PK,PU⟩:=yU N O;clear x0 x1 h a4 d o N O S;cases hr:lq pk pu with
   |false=>
    rw[hr]at HC;have HR:=zH hr;clear hr;go_wp2;rw[f];refine zS [] (fun _=>True) [0,1,2,4,0,16,32,64,0,384,512,0,2048,4096,8192,0,49152,65536,132104,262144] 20<|zp [0,1,2,3,4,5,6,7,8,9,10,11,12,13,14,15,16,17]<|zk 27 (zP R 0)<|zk 28 (zP R 0)<|zk 29 (zP R 1)<|zt 30 QF (zl 296 29 (L1.out))<|zk 31 (zP R 0)<|zk 32 (zP R 0)<|zk 33 (zP R 0)<|zt 34 (qZ (yA ⟨g,0,yB⟩) (n+1) c2) (zl 297 33 (L0.out))<|zk 35 (zI k)<|zt 36 (qc (yA ⟨g,k*2,yB⟩)) (xQ (t:=297) (x:=(.tmp 34)) (y:=(.tmp 35)) (g:=g) (n:=(n+1)) (c:=c2) (k:=k) (sz:=2) rfl zf zf za underlying297 (fun _=>sizeOf295 _) _)<|zt 37 (tv pk) (zl 295 36 (LK.out))<|zk 38 (zP R 0)<|zk 39 (zP R 0)<|zk 40 (zP R 0)<|zt 41 (qZ (yA ⟨g,0,yB⟩) (n+1) c2) (zl 297 40 (L0.out))<|zk 42 (zI u)<|zt 43 (qc (yA ⟨g,u*2,yB⟩)) (xQ (t:=297) (x:=(.tmp 41)) (y:=(.tmp 42)) (g:=g) (n:=(n+1)) (c:=c2) (k:=u) (sz:=2) rfl zf zf za underlying297 (fun _=>sizeOf295 _) _)<|zt 44 (tv pu) (zl 295 43 (LU.out))<|zn<|zc 18 45 176 #[tv pk,tv pu] (qh yI) HC.out<| ?_
    refine fun w5 ad=>⟨qy (qy trivial),?_⟩;refine zp [19]<|zk 46 (qh yH)<|zn<|zE<| ?_
    simp only[zP,zI,Act.put,qPx,qPw,qPy];have H5:=yT (yM wr wr w5) ((yR _ _).drew.trans ad);clear ad HC LK LU L0 L1;go_wp2
    try simp only[Exit.inBlock,Exit.then]
    refine qP5 (v:=qg #[]) zf rfl ⟨rfl,_,_,m,q.out.below H5.out rfl,hp.out,?_,hs.out.trans (StT.of_below H5.out (qP7 q.out.lt))⟩;rw[z.out];exact hu.out.stop (qy (by rw[p.out,PK.out,PU.out];exact HR.out))
   |true=>
    rw[hr]at HC;have HR:=zH hr;clear hr;go_wp2;rw[f];refine zS [] (fun _=>True) [0,1,2,4,0,16,32,64,0,384,512,0,2048,4096,8192,0,49152,65536,132104,262144] 20<|zp [0,1,2,3,4,5,6,7,8,9,10,11,12,13,14,15,16,17]<|zk 27 (zP R 0)<|zk 28 (zP R 0)<|zk 29 (zP R 1)<|zt 30 QF (zl 296 29 (L1.out))<|zk 31 (zP R 0)<|zk 32 (zP R 0)<|zk 33 (zP R 0)<|zt 34 (qZ (yA ⟨g,0,yB⟩) (n+1) c2) (zl 297 33 (L0.out))<|zk 35 (zI k)<|zt 36 (qc (yA ⟨g,k*2,yB⟩)) (xQ (t:=297) (x:=(.tmp 34)) (y:=(.tmp 35)) (g:=g) (n:=(n+1)) (c:=c2) (k:=k) (sz:=2) rfl zf zf za underlying297 (fun _=>sizeOf295 _) _)<|zt 37 (tv pk) (zl 295 36 (LK.out))<|zk 38 (zP R 0)<|zk 39 (zP R 0)<|zk 40 (zP R 0)<|zt 41 (qZ (yA ⟨g,0,yB⟩) (n+1) c2) (zl 297 40 (L0.out))<|zk 42 (zI u)<|zt 43 (qc (yA ⟨g,u*2,yB⟩)) (xQ (t:=297) (x:=(.tmp 41)) (y:=(.tmp 42)) (g:=g) (n:=(n+1)) (c:=c2) (k:=u) (sz:=2) rfl zf zf za underlying297 (fun _=>sizeOf295 _) _)<|zt 44 (tv pu) (zl 295 43 (LU.out))<|zn<|zc 18 45 176 #[tv pk,tv pu] (qh yH) HC.out<| ?_
    refine fun w5 ad=>⟨qy (qy trivial),?_⟩;refine zp [19]<|zk 46 (qh yI)<|zn<|zE<| ?_
    simp only[zP,zI,Act.put,qPx,qPw,qPy];have H5:=yT (yM wr wr w5) ((yR _ _).drew.trans ad);have r:=q.out.below H5.out rfl;have a5:=hs.out.trans (StT.of_below H5.out (qP7 q.out.lt));clear ad HC LK LU L0 L1 H5;obtain⟨x0,x1,_,_⟩:=zAf (w:=w5.drew) r.blk;rw[z.out]at x0;have h:(loadVar 297 ⟨R,0,yB⟩).run yK w5.drew= .ok (qZ (yA ⟨g,0,yB⟩) (n+1) c2) w5.drew:=yw x0 zf zf;have d:k<kN m:=by rw[z.out];omega
    have o:u<kN m:=by rw[z.out];omega
    have lk:=r.drew.ld k d;have lu:=r.drew.ld u o;rw[PK.out]at lk;rw[PU.out]at lu;obtain⟨s1,q6,t6⟩:=r.drew.set k d pu;obtain⟨w6,P⟩:=zB (w5.drew.setCells g (k*2) (TL.cl pu));rw[P]at s1 q6 t6;obtain⟨s2,q7,t7⟩:=q6.set u (by rw[qR2];exact o) pk;obtain⟨w7,a8⟩:=zB (w6.setCells g (u*2) (TL.cl pk));rw[a8]at s2 q7 t7;obtain⟨L0,LK,LU,S1,S2,Q7,T7⟩:=yg h lk lu s1 s2 q7 ((a5.trans (StT.of_below (w':=w5.drew) (yR _ _).drew (qP7 r.lt))).trans (t6.trans t7));have e:(m.set k pu).set u pk=sw m k u:=by unfold sw;rw[show m.getD u (0,0)=pu from PU.out,show m.getD k (0,0)=pk from PK.out]
    rw[e]at Q7;have hU:Up lq (n+1) u (at_ (sw m k u)):=by
     have h1:=Up.step (g:=at_ (sw m k u)) zF3 hu.out h0 za (by rw[p.out,PK.out,PU.out];exact HR.out) (by rw[p.out];exact qEy m k u d za) (by rw[p.out];exact qEw m k u o) (fun j h1 h2=>by rw[p.out]at h2;exact qEx m k u j h1 h2);rwa[p.out]at h1
    obtain⟨HU,HP⟩:=yU hU ((zTd m k u d o).trans hp.out);have HL:=yT (kN (sw m k u)=n+1) (by rw[zWo];exact z.out);clear r a5 x0 x1 h d o lk lu s1 q6 t6 P s2 q7 t7 a8 e hU f;go_wp2;refine zS [] (fun _=>True) [0,1,2,4,0,0,32,64,128,0,0,1024,2048,4096,0,24576,32768,0,131072,262144,524288,0,3145728,4194304,9567519,26344735,67108863,134217727] 28<|zu 9 56 (zI u)<|zp [0,1,2,3,4,5,6,7,8,10,11,12,13,14,15,16,17,18,19,20,21,22,23,24]<|zk 47 (zP R 0)<|zk 48 (zP R 0)<|zk 49 (zP R 0)<|zt 50 (qZ (yA ⟨g,0,yB⟩) (n+1) c2) (zl 297 49 (L0.out))<|zk 51 (zI k)<|zk 52 (zP R 0)<|zk 53 (zP R 0)<|zk 54 (zP R 0)<|zt 55 (qZ (yA ⟨g,0,yB⟩) (n+1) c2) (zl 297 54 (L0.out))<|zk 57 (zP R 0)<|zk 58 (zP R 0)<|zk 59 (zP R 0)<|zt 60 (qZ (yA ⟨g,0,yB⟩) (n+1) c2) (zl 297 59 (L0.out))<|zk 61 (zI u)<|zt 62 (qc (yA ⟨g,u*2,yB⟩)) (xQ (t:=297) (x:=(.tmp 60)) (y:=(.tmp 61)) (g:=g) (n:=(n+1)) (c:=c2) (k:=u) (sz:=2) rfl zf zf za underlying297 (fun _=>sizeOf295 _) _)<|zt 63 (tv pu) (zl 295 62 (LU.out))<|zk 64 (zP R 0)<|zk 65 (zP R 0)<|zk 66 (zP R 0)<|zt 67 (qZ (yA ⟨g,0,yB⟩) (n+1) c2) (zl 297 66 (L0.out))<|zk 68 (zI k)<|zt 69 (qc (yA ⟨g,k*2,yB⟩)) (xQ (t:=297) (x:=(.tmp 67)) (y:=(.tmp 68)) (g:=g) (n:=(n+1)) (c:=c2) (k:=k) (sz:=2) rfl zf zf za underlying297 (fun _=>sizeOf295 _) _)<|zt 70 (tv pk) (zl 295 69 (LK.out))<|zt 71 (qc (yA ⟨g,k*2,yB⟩)) (xQ (t:=297) (x:=(.tmp 50)) (y:=(.tmp 51)) (g:=g) (n:=(n+1)) (c:=c2) (k:=k) (sz:=2) rfl zf zf za underlying297 (fun _=>sizeOf295 _) _)<|zn<|zw 25 yB (zr 295 71 63 (S1.out)) (qy (qy trivial))<|zp [26]<|zt 72 (qc (yA ⟨g,u*2,yB⟩)) (xQ (t:=297) (x:=(.tmp 55)) (y:=(.tmp 56)) (g:=g) (n:=(n+1)) (c:=c2) (k:=u) (sz:=2) rfl zf zf za underlying297 (fun _=>sizeOf295 _) _)<|zn<|zw 27 yB (zr 295 72 70 (S2.out)) (qy (qy trivial))<|zE<| ?_
    simp only[zP,zI,Act.put,qPx,qPw,qPy];clear S1 S2 LK LU L0;go_wp2;go_roundw
    case rel=>exact⟨u,c2,yA ⟨g,0,yB⟩,sw m k u,za,rfl,Q7,HL,HP,HU,T7⟩
    case measure=>exact qV
  .obtain rfl:k=0:=za
   go_wp2;go_end0;refine⟨rfl,_,_,m,q.out,hp.out,?_,hs.out⟩;rw[z.out];exact hu.out.stop (qz rfl)
end Wg
namespace Wg
open Bt Zr Front
variable {w:yC} {B g n c R i X last f k:Nat} {e:yE} {l m:List (Nat×Nat)} {a:Option yF} {x:Nat×Nat}
theorem qC4 (h:yx TL w B e (yA ⟨g,0,yB⟩) n c l):g<w.heap.size:=by
 obtain⟨_,_,d,f,b⟩:=zE3 h;exact zAd b
theorem zOl (h:yx TL w B e (yA ⟨g,0,yB⟩) n c l) (k:Nat) (q:k<=n):yx TL w B e (yA ⟨g,0,yB⟩) k c (l.take k):=by
 have t:=h.len;obtain⟨z,j⟩:=h;rcases j with⟨j,_⟩|⟨g',u,a,hv,b,p,y,d,r,s⟩
 .cases j
 .injection hv with ha hn hc
  injection ha with ha
  injection ha with ha
  subst ha hc;have e:Kit.flat TL (l.take k)=(Kit.flat TL l).take (k*TL.k):=by
   have o:=Kit.zKo TL (l.take k) (l.drop k);rw[qSa]at o;rw[o,List.take_left' (by rw[Kit.zBg,qQh];congr 1;omega)]
  refine⟨by rw[Kit.zBg,qQh];congr 1;omega,qy ⟨g,c,a,rfl,b,p,za,d,r,?_⟩⟩;rw[e,<-s,List.take_take];congr 1;have:k*TL.k<=n*TL.k:=qRp _ q;omega
theorem Qu.cut (h:Qu w R (yA ⟨g,0,yB⟩) c l) (k:Nat) (b:k<=kN l):
  Qu (w.setCell ⟨R,0,yB⟩ (qZ (yA ⟨g,0,yB⟩) k c)) R (yA ⟨g,0,yB⟩) c (l.take k)/\StT w (w.setCell ⟨R,0,yB⟩ (qZ (yA ⟨g,0,yB⟩) k c)) R:=by
 have d:kN (l.take k)=k:=by rw[qQh];omega
 refine⟨⟨?_,?_⟩,⟨fun j _ o _=>zAa o,(yR _ _).setCell (p:=⟨R,0,yB⟩) (qPq _) _⟩⟩
 .rw[d,setBlock 0 h.blk];rfl
 .rw[d];exact qRz (zOl h.own k b) (zB1 w R 0 _) (qy (zJt (zOl h.own k b) h.blk qW))
theorem Qu.hd (h:Qu w R a c l) (d:kN l=n):(loadVar 297 ⟨R,0,yB⟩).run yK w= .ok (qZ a n c) w:=by
 obtain⟨b,_,_,_⟩:=zAf h.blk;rw[d]at b;exact yw b zf zf
theorem Qu.fn (h:Qu w R a c l):(loadVar 296 ⟨R,1,yB⟩).run yK w= .ok QF w:=by
 obtain⟨_,b,_,_⟩:=zAf h.blk;exact yw b zf zf
theorem Qu.ldx {p:Nat×Nat} (h:Qu w R (yA ⟨g,0,yB⟩) c l) (hi:i<kN l) (b:at_ l i=p):(loadVar TT ⟨g,i*2,yB⟩).run yK w= .ok (tv p) w:=by
 rw[<-b];exact h.ld i hi
def Bx (w:yC) (X:Nat) (x:Nat×Nat):Prop:=w.heap[X]? =yA (qp #[qX qm (x.1:Int),qX qm (x.2:Int)] TT)
theorem Bx.ld (h:Bx w X x):(loadVar TT ⟨X,0,yB⟩).run yK w= .ok (tv x) w:=by
 obtain⟨d,j,_,_⟩:=zAf h;exact Kit.zHe (L:=TL) (b:=X) (off:=0) (x:=x) (fun i hi=>by
  have:i=0\/i=1:=by have o:i<2:=hi;omega
  rcases this with rfl|rfl
  .exact d
  .exact j) szT qBq
theorem Bx.set (h:Bx w X x) (y:Nat×Nat):(storeVar TT ⟨X,0,yB⟩ (tv y)).run yK w= .ok () (w.setCells X 0 (TL.cl y))/\Bx (w.setCells X 0 (TL.cl y)) X y:=by
 obtain⟨p,q,b,d⟩:=zAf h;refine⟨qSl (P:=yK) w X 0 TT (TL.cl y).toArray (fun j o=> ?_) zf (by simp[TL,Value.oneCell']),Kit.zDl _ _ _ _ _ _ _ h⟩;have:j=0\/j=1:=by have r:j<2:=o;omega
 rcases this with rfl|rfl
 .exact⟨by rw[show 0+0=0 from rfl,p];rfl,b⟩
 .exact⟨by rw[show 0+1=1 from rfl,q];rfl,d⟩
theorem Qu.put (h:Qu w R (yA ⟨g,0,yB⟩) c l) (b:R≠X) (d:g≠X) (v:yD):Qu (w.setCell ⟨X,i,yB⟩ v) R (yA ⟨g,0,yB⟩) c l:=
 ⟨(zAa b).trans h.blk,qRz h.own (zB1 w X i v) (qy (by intro e;simp[Value.ownBlock]at e;exact d e))⟩
theorem StT.put {w':yC} (h:StT w w' R) (r:Bx w' X x) (q:w.heap.size<=X) (b:R<=X) (u v:yD):StT w ((w'.setCell ⟨X,0,yB⟩ u).setCell ⟨X,1,yB⟩ v) R:=by
 refine⟨fun k d j o=> ?_,(h.below.setCell (p:=⟨X,0,yB⟩) b u).setCell (p:=⟨X,1,yB⟩) b v⟩;rw[zAa za,zAa za];exact h.old k d j o
theorem zKf (tmps:Array yD) (w:yC) (B:Nat) (p:Nat×Nat) (b:tmps.getD 2 yN=qc (yA ⟨B,0,yB⟩)) (d:(loadVar TT ⟨B,0,yB⟩).run yK w= .ok (tv p) w):
  (results f178 tmps).run yK w= .ok (tv p) w:=by
 rw[qUa]at b;simp[results,f178,b,asAddr,qRl,d,Result.andThen]
structure Seen (m:List (Nat×Nat)) (last i f k:Nat):Prop where
 lo:2*i+1<=k
 hi:k<=2*i+3
 who:f=i\/(2*i+1<=f/\f<k/\f<last/\lq (at_ m f) (at_ m i)=yH)
 all:∀j,2*i+1<=j->j<k->j<last->lq (at_ m j) (at_ m f)=yI
theorem Seen.no (h:Seen m last i f k) (r:k<=2*i+2) (q:lq (at_ m k) (at_ m f)=yI):Seen m last i f (k+1):=by
 refine⟨by have:=h.lo;omega,za,?_,fun j b o d=> ?_⟩
 .rcases h.who with b|⟨b,o,d,p⟩
  .exact qz b
  .exact qy ⟨b,za,d,p⟩
 .by_cases e:j=k
  .subst e;exact q
  .exact h.all j b za d
theorem Seen.yes (h:Seen m last i f k) (s:k<=2*i+2) (r:k<last) (o:lq (at_ m k) (at_ m f)=yH):Seen m last i k (k+1):=by
 refine⟨by have:=h.lo;omega,za,qy ⟨h.lo,qQ8 _,r,?_⟩,fun j b q p=> ?_⟩
 .rcases h.who with b|⟨b,q,p,d⟩
  .rw[<-b];exact o
  .exact zF3.trans _ _ _ o d
 .by_cases e:j=k
  .subst e;exact zF3.irrefl _
  .have d:=h.all j b za p;cases h5:lq (at_ m j) (at_ m k)with
   |false=>rfl
   |true=>rw[zF3.trans _ _ _ h5 o]at d;cases d
theorem zTk (R:Nat) (a:Option yF) (c:Nat) (l:List (Nat×Nat)) (w:yC) (hq:Qu w R a c l) (bq:1<=kN l) (hl:kN l<=1000) (hp:Hp lq (kN l) (at_ l)):
  yG yK 178 #[qc (yA ⟨R,0,yB⟩)] w fun e w'=>e=qx (tv (at_ l 0))/\∃a' c' l',Qu w' R a' c' l'/\l.Perm (at_ l 0::l')/\Hp lq (kN l') (at_ l')/\StT w w' R:=by
 obtain⟨g,rfl⟩:=hq.here za;obtain⟨B,hB⟩:=zB w.heap.size;have bi:=hq.lt;have bo:=qC4 hq.own;have bw:=(zE3 hq.own).1;have bf:=(zE3 hq.own).2.1;rw[hB]at bi bo;obtain⟨W,hW⟩:=zB (w.alloc (qp #[qX qm 0,qX qm 0] TT));have zW:W.heap.size=B+1:=by rw[<-hW,zA,hB]
 have af:yM B w W:=by rw[<-hW,<-hB];exact(yR _ _).alloc (qPq _) _
 have a9:=(hq.below af hB.symm).drew;have az:Bx W.drew B (0,0):=by
  show W.heap[B]? =_;rw[<-hW,<-hB];show(w.heap.push _)[w.heap.size]? =_;simp
 obtain⟨n,hn⟩:=zB (kN l);obtain⟨last,I⟩:=zB (n-1);rw[hn]at bq hl hp bf;obtain⟨q,a4⟩:=zB (at_ l 0);obtain⟨pl,ab⟩:=zB (at_ l last);have Q0:=zH a9;obtain⟨w1,L⟩:=zB (W.drew.alloc (qp #[qX qm 0,qX qm 0] TT));have z1:w1.heap.size=B+2:=by rw[<-L,zA];show W.heap.size+1=_;omega
 have ah:Bx w1 (B+1) (0,0):=by
  show w1.heap[B+1]? =_;rw[<-L,<-zW];show(W.heap.push _)[W.heap.size]? =_;simp
 have u:yM (B+1) W.drew w1:=by rw[<-L,<-zW];exact(show yM W.drew.heap.size W.drew _ from(yR _ _).alloc (qPq _) _)
 have a1:=a9.below u zW.symm;have ai:Bx w1 B (0,0):=(u.block B za).trans az;obtain⟨s1,a8⟩:=ah.set q;obtain⟨w2,P⟩:=zB (w1.setCells (B+1) 0 (TL.cl q));rw[P]at s1 a8;have S1:=zH s1;have d:yM (B+1) w1 w2:=by rw[<-P];exact xA _ _ _ (yR _ _) (qPq _)
 have z2:w2.heap.size=B+2:=by rw[<-P,Kit.size_setCells,z1]
 have b:Qu w2 R (yA ⟨g,0,yB⟩) c l:=⟨(d.block R za).trans a1.blk,by
  obtain⟨h1,h2⟩:=a1.own;refine⟨h1,?_⟩;rcases h2 with h2|⟨g',bj,b8,hv,bd,bg,r⟩
  .exact qz h2
  .refine qy ⟨g',bj,b8,hv,bd,?_,r⟩;have bb:=hv;injection bb with ha _ _
   injection ha with ha
   injection ha with ha
   subst ha;rw[d.block g za,bg]⟩
 have G:Bx w2 B (0,0):=(d.block B za).trans ai;have a7:=b.drew;obtain⟨Q1,Q2,Q3⟩:=yV a1 b a7;obtain⟨s3,S,t4⟩:=a7.set 0 za pl;obtain⟨w4,O⟩:=zB (w2.drew.setCells g (0*2) (TL.cl pl));rw[O]at s3 S t4;have S3:=zH s3;have an:Bx w4 (B+1) q:=by rw[<-O];exact(xH _ _ _ _ _ za).trans a8
 have ak:Bx w4 B (0,0):=by rw[<-O];exact(xH _ _ _ _ _ za).trans G
 have ad:kN (l.set 0 pl)=n:=by rw[qR2,hn]
 obtain⟨y0,_,y2,_⟩:=zAf S.blk;rw[ad]at y0;obtain⟨a6,t5⟩:=S.cut last (by rw[ad];omega);obtain⟨w5,a0⟩:=zB (w4.setCell ⟨R,0,yB⟩ (qZ (yA ⟨g,0,yB⟩) last c));rw[a0]at a6 t5;have aq:Bx w5 (B+1) q:=by rw[<-a0];exact(zAa za).trans an
 have ar:Bx w5 B (0,0):=by rw[<-a0];exact(zAa za).trans ak
 have ac:(l.set 0 pl).take last=zEa l:=by unfold zEa;rw[hn,I,show l.getD last (0,0)=pl from ab]
 rw[ac]at a6;have b6:kN (zEa l)=last:=by rw[qBb,hn,I]
 have T5:=yT (StT w w5 R) (by
  have c1:StT w W.drew R:=(StT.of_below (hB▸af) za).trans (StT.of_below (yR _ _).drew za);have c2:StT W.drew w1 R:=⟨fun k h1 _ _=>u.block k (by have h2:k<W.heap.size:=h1;omega),u.mono za⟩;have c3:StT W.drew w2 R:=⟨fun k h1 _ _=>(d.block k (by have h2:k<W.heap.size:=h1;omega)).trans (u.block k (by have h2:k<W.heap.size:=h1;omega)),(u.trans d).mono za⟩;exact((c1.trans c3).trans (StT.of_below (w':=w2.drew) (yR _ _).drew za)).trans (t4.trans t5))
 obtain⟨ao,ap,ay⟩:=yV a6 aq ar;have HD:=yT (Dn lq last 0 (at_ (zEa l))) (Dn.start (n:=last) (by rw[show last+1=n by omega];exact hp) (fun k h1 h2=>qE l k h1 za));have HP:=yT (l.Perm (q::zEa l)) (a4▸zYa l (by intro e;rw[e]at hn;simp at hn;omega));have b4:=zH b6;have X:IntKind.i64.wrap ((n:Int)-1)=(last:Int):=by rw[show(n:Int)-1=(last:Int)by omega];exact qQa _ ⟨za,za⟩
 obtain⟨b7,am⟩:=yU X hB;have ZW:=yT (W.drew.heap.size=B+1) zW;obtain⟨au,HN,b9,ba⟩:=yX L hn a4 ab;rw[a4];clear hq hp af a9 az ah u a1 ai s1 a8 d b G a7 s3 S t4 an ak ad a6 t5 aq ar ac b6 a4 ab z1 z2 P hn X L zW;have aj:last+1=n:=za
 have br:=zH aj;have c8:last<n:=za
 have c7:last<=c:=za
 have bu:¬c=0:=za
 have ca:n<=1000:=hl;clear I aj;go_enter func178,ntmps178;go_wp2;clear hW;refine zS [] (fun W9=>Qu W9 R (yA ⟨g,0,yB⟩) c l) [0,1,2,4,8,16,0,64,128,256,512,1024,0,4159,16383] 15<|zu 0 8 (zP R 0)<|zu 1 9 (zP R 0)<|zu 2 10 (zP R 0)<|zu 6 14 (zP R 0)<|zu 7 15 (zP R 0)<|zu 8 16 (zP R 0)<|zy 3 11 (qZ (yA ⟨g,0,yB⟩) n c) (fun w hS=>zl 297 10 (hS.hd HN.out)) Q0.out<|zv 4 12 (zP g 0) (fun w=>xQ (t:=297) (x:=(.tmp 11)) (y:=(.const (qX qm 0))) (g:=g) (n:=n) (c:=c) (k:=(0:Nat)) (sz:=2) rfl zf zf za underlying297 (fun _=>sizeOf295 _) _)<|zy 5 13 (tv q) (fun w hS=>zl 295 12 (hS.ldx (i:=0) (by rw[HN.out];omega) b9.out)) Q0.out<|zy 9 17 (qZ (yA ⟨g,0,yB⟩) n c) (fun w hS=>zl 297 16 (hS.hd HN.out)) Q0.out<|zu 10 18 (zI n)<|zv 11 19 (zI last) (fun w=>Kit.zM6 (x:= .tmp 18) (y:= .const (qX qm 1)) rfl zf zf b7.out _)<|zo 12 3 (qc (yA ⟨B+1,0,yB⟩)) (Kit.zDa zf ZW.out au.out) (qy (qy (Q1.out)))<|zw 13 yB (zr 295 3 13 (S1.out)) (qy (qy (Q2.out)))<|zp [14]<|zk 4 (zI last)<|zn<|zE<| ?_
 simp only[zP,zI,Act.put,qPx,qPw,qPy];clear S1 Q0 Q1 Q2 ZW au;go_wp2;refine zS [] (fun _=>True) [0,1,2,4,0,16,32,64,0,384,512,2047,4095] 13<|zp [0,1,2,3,4,5,6,7,8,9,10,11]<|zk 20 (zP R 0)<|zk 21 (zP R 0)<|zk 22 (zP R 0)<|zt 23 (qZ (yA ⟨g,0,yB⟩) n c) (zl 297 22 (Q3.out.hd HN.out))<|zk 24 (zP R 0)<|zk 25 (zP R 0)<|zk 26 (zP R 0)<|zt 27 (qZ (yA ⟨g,0,yB⟩) n c) (zl 297 26 (Q3.out.hd HN.out))<|zk 28 (zI last)<|zt 29 (qc (yA ⟨g,last*2,yB⟩)) (xQ (t:=297) (x:=(.tmp 27)) (y:=(.tmp 28)) (g:=g) (n:=n) (c:=c) (k:=last) (sz:=2) rfl zf zf za underlying297 (fun _=>sizeOf295 _) _)<|zt 30 (tv pl) (zl 295 29 (Q3.out.ldx (by rw[HN.out];omega) ba.out))<|zt 31 (zP g 0) (xQ (t:=297) (x:=(.tmp 23)) (y:=(.const (qX qm 0))) (g:=g) (n:=n) (c:=c) (k:=(0:Nat)) (sz:=2) rfl zf zf za underlying297 (fun _=>sizeOf295 _) _)<|zn<|zw 12 yB (zr 295 31 30 (S3.out)) (qy (qy trivial))<|zE<| ?_
 simp only[zP,zI,Act.put,qPx,qPw,qPy];clear S3 Q3;go_wp2;clear hB;clear y0 y2 a0 O hl bq;go_loopw [5] (fun iv wr=>∃(i:Nat) (m:List (Nat×Nat)),i<=last/\iv=qX qm i/\yL (Qu wr R (yA ⟨g,0,yB⟩) c m)/\yL (kN m=last)/\yL (l.Perm (q::m))/\yL (Dn lq last i (at_ m))/\yL (Bx wr (B+1) q)/\yL (Bx wr B (0,0))/\yL (StT w wr R)) (fun iv _=>last-(intOf iv).toNat)
 case atStart=>exact⟨0,zEa l,za,rfl,ao,b4,HP,HD,ap,ay,T5⟩
 case round=>
  clear ao b4 HP HD ap ay T5;obtain⟨i,m,hi,rfl,hq,hm,hp,hd,hx,hb,hs⟩:=hrel;obtain⟨wo,rfl⟩:∃wo,wo=wr:=⟨_,rfl⟩;go_wp2;go_loopw [6,7] (fun fv kv wr=>∃(f k:Nat),fv=qX qm f/\kv=qX qm k/\f<=last/\2*i+1<=k/\k<=2*i+3/\yL (Seen m last i f k)/\yL (yM wo wo wr)) (fun _ kv _=>2*i+3-(intOf kv).toNat)
  case atStart=>exact⟨i,2*i+1,rfl,by go_num,hi,za,za,zH ⟨za,za,qz rfl,fun j h1 h2=>za⟩,zH (yR _ _)⟩
  case round=>
   obtain⟨f,k,rfl,rfl,hf,bz,c6,F,p⟩:=hrel;have b:=hq.out.below p.out rfl;have K:Bx wr (B+1) q:=(p.out.block _ (zAd hx.out)).trans hx.out;have d:Bx wr B (0,0):=(p.out.block _ (zAd hb.out)).trans hb.out;have bh:R<wo.heap.size:=hq.out.lt;by_cases hA:k<=2*i+2/\k<last
   .obtain⟨h1,h2⟩:=hA;have Y:f<last:=by
     rcases F.out.who with h|⟨_,_,h,_⟩
     .omega
     .exact h
    have av:k<kN m:=by rw[hm.out];exact h2
    have o:f<kN m:=by rw[hm.out];exact Y
    obtain⟨pk,ag⟩:=zB (at_ m k);obtain⟨pf,s⟩:=zB (at_ m f);obtain⟨z,LK,LF,HC,PK,PF⟩:=yZ b.drew (b.drew.ldx av ag) (b.drew.ldx o s) (zPg pk pf wr.drew) ag s;clear b K d av o ag s;cases hr:lq pk pf with
    |false=>
     rw[hr]at HC;have HR:=zH (F.out.no h1 (by rw[PK.out,PF.out];exact hr));clear hr;go_wp2;refine zS [] (fun _=>True) [0,1,2,4,0,16,32,64,0,384,512,0,2048,4096,8192,0,49152,65536,132104] 19<|zp [0,1,2,3,4,5,6,7,8,9,10,11,12,13,14,15,16,17]<|zk 57 (zP R 0)<|zk 58 (zP R 0)<|zk 59 (zP R 1)<|zt 60 QF (zl 296 59 (z.out.fn))<|zk 61 (zP R 0)<|zk 62 (zP R 0)<|zk 63 (zP R 0)<|zt 64 (qZ (yA ⟨g,0,yB⟩) last c) (zl 297 63 (z.out.hd hm.out))<|zk 65 (zI k)<|zt 66 (qc (yA ⟨g,k*2,yB⟩)) (xQ (t:=297) (x:=(.tmp 64)) (y:=(.tmp 65)) (g:=g) (n:=last) (c:=c) (k:=k) (sz:=2) rfl zf zf za underlying297 (fun _=>sizeOf295 _) _)<|zt 67 (tv pk) (zl 295 66 (LK.out))<|zk 68 (zP R 0)<|zk 69 (zP R 0)<|zk 70 (zP R 0)<|zt 71 (qZ (yA ⟨g,0,yB⟩) last c) (zl 297 70 (z.out.hd hm.out))<|zk 72 (zI f)<|zt 73 (qc (yA ⟨g,f*2,yB⟩)) (xQ (t:=297) (x:=(.tmp 71)) (y:=(.tmp 72)) (g:=g) (n:=last) (c:=c) (k:=f) (sz:=2) rfl zf zf za underlying297 (fun _=>sizeOf295 _) _)<|zt 74 (tv pf) (zl 295 73 (LF.out))<|zn<|zc 18 75 176 #[tv pk,tv pf] (qh yI) HC.out<| ?_
     refine fun w5 bp=>⟨qy (qy trivial),?_⟩;refine zE<| ?_
     simp only[zP,zI,Act.put,qPx,qPw,qPy];have H5:=zH (p.out.trans ((show yM wr wr w5 from(yR _ _).drew.trans bp).mono p.out.size));clear bp HC LK LF z;go_wp2;go_roundw
     case rel=>exact⟨f,k+1,rfl,by go_num,hf,za,za,HR,H5⟩
     case measure=>exact z8
    |true=>
     rw[hr]at HC;have HR:=zH (F.out.yes h1 h2 (by rw[PK.out,PF.out];exact hr));clear hr;go_wp2;refine zS [] (fun _=>True) [0,1,2,4,0,16,32,64,0,384,512,0,2048,4096,8192,0,49152,65536,132104] 19<|zp [0,1,2,3,4,5,6,7,8,9,10,11,12,13,14,15,16,17]<|zk 57 (zP R 0)<|zk 58 (zP R 0)<|zk 59 (zP R 1)<|zt 60 QF (zl 296 59 (z.out.fn))<|zk 61 (zP R 0)<|zk 62 (zP R 0)<|zk 63 (zP R 0)<|zt 64 (qZ (yA ⟨g,0,yB⟩) last c) (zl 297 63 (z.out.hd hm.out))<|zk 65 (zI k)<|zt 66 (qc (yA ⟨g,k*2,yB⟩)) (xQ (t:=297) (x:=(.tmp 64)) (y:=(.tmp 65)) (g:=g) (n:=last) (c:=c) (k:=k) (sz:=2) rfl zf zf za underlying297 (fun _=>sizeOf295 _) _)<|zt 67 (tv pk) (zl 295 66 (LK.out))<|zk 68 (zP R 0)<|zk 69 (zP R 0)<|zk 70 (zP R 0)<|zt 71 (qZ (yA ⟨g,0,yB⟩) last c) (zl 297 70 (z.out.hd hm.out))<|zk 72 (zI f)<|zt 73 (qc (yA ⟨g,f*2,yB⟩)) (xQ (t:=297) (x:=(.tmp 71)) (y:=(.tmp 72)) (g:=g) (n:=last) (c:=c) (k:=f) (sz:=2) rfl zf zf za underlying297 (fun _=>sizeOf295 _) _)<|zt 74 (tv pf) (zl 295 73 (LF.out))<|zn<|zc 18 75 176 #[tv pk,tv pf] (qh yH) HC.out<| ?_
     refine fun w5 bp=>⟨qy (qy trivial),?_⟩;refine zE<| ?_
     simp only[zP,zI,Act.put,qPx,qPw,qPy];have H5:=zH (p.out.trans ((show yM wr wr w5 from(yR _ _).drew.trans bp).mono p.out.size));clear bp HC LK LF z;go_wp2;go_roundw
     case rel=>exact⟨k,k+1,rfl,by go_num,za,za,za,HR,H5⟩
     case measure=>exact z8
   .have H:∀j,0<j->j<last->(j-1)/2=i->lq (at_ m j) (at_ m f)=yI:=fun j h1 h2 h3=>F.out.all j za za h2;have V:=hs.out.trans (StT.of_below p.out (qP7 bh));have a5:¬((k:Int)<=2*(i:Int)+2/\k<last):=za
    by_cases ae:f=i
    .subst ae;have HH:=yT (Hp lq (kN m) (at_ m)) (by rw[hm.out];exact hd.out.stop H);obtain⟨HQ,HS⟩:=yU b V;obtain⟨x0,x1,x2,x3⟩:=zAf K;obtain⟨b0,b1,b2,b3⟩:=zAf d;have Z:=zH d;clear H V b K d hq hx hb hd;by_cases bk:(k:Int)<=2*(f:Int)+2
     .have bc:¬k<last:=za
      clear a5 hA;go_wp2
      try simp only[Exit.inBlock,Exit.then]
      have G:Bx ((wr.setCell ⟨B,0,yB⟩ (qX qm (q.1:Int))).setCell ⟨B,1,yB⟩ (qX qm (q.2:Int))) B q:=by
       unfold Bx;rw[setBlock 1 (setBlock 0 Z.out)];rfl
      exact qP5 (v:=tv q) (zKf _ _ B q rfl G.ld) rfl ⟨rfl,_,_,m,(HQ.out.put za za _).put za za _,hp.out,HH.out,HS.out.put Z.out (by rw[am.out];exact qPq _) za _ _⟩
     .clear a5 hA;go_wp2
      try simp only[Exit.inBlock,Exit.then]
      have G:Bx ((wr.setCell ⟨B,0,yB⟩ (qX qm (q.1:Int))).setCell ⟨B,1,yB⟩ (qX qm (q.2:Int))) B q:=by
       unfold Bx;rw[setBlock 1 (setBlock 0 Z.out)];rfl
      exact qP5 (v:=tv q) (zKf _ _ B q rfl G.ld) rfl ⟨rfl,_,_,m,(HQ.out.put za za _).put za za _,hp.out,HH.out,HS.out.put Z.out (by rw[am.out];exact qPq _) za _ _⟩
    .have Y:f<last:=by
      rcases F.out.who with h|⟨_,_,h,_⟩
      .omega
      .exact h
     have hw:=F.out.who;have a2:0<f/\(f-1)/2=i/\lq (at_ m f) (at_ m i)=yH:=by
      rcases hw with h|⟨h1,h2,_,h4⟩
      .exact absurd h ae
      .exact⟨za,za,h4⟩
     have bn:i<last:=za
     have o:f<kN m:=by rw[hm.out];exact Y
     have M:i<kN m:=by rw[hm.out];exact bn
     obtain⟨pi,aa⟩:=zB (at_ m i);obtain⟨pf,s⟩:=zB (at_ m f);have li:=b.drew.ldx M aa;have lf:=b.drew.ldx o s;obtain⟨s1,q6,t6⟩:=b.drew.set i M pf;obtain⟨w6,N⟩:=zB (wr.drew.setCells g (i*2) (TL.cl pf));rw[N]at s1 q6 t6;obtain⟨s2,q7,t7⟩:=q6.set f (by rw[qR2];exact o) pi;obtain⟨w7,a3⟩:=zB (w6.setCells g (f*2) (TL.cl pi));rw[a3]at s2 q7 t7;have ax:Bx w7 (B+1) q:=by rw[<-a3,<-N];exact(xH _ _ _ _ _ za).trans ((xH _ _ _ _ _ za).trans K)
     have b5:Bx w7 B (0,0):=by rw[<-a3,<-N];exact(xH _ _ _ _ _ za).trans ((xH _ _ _ _ _ za).trans d)
     obtain⟨z,LI,LF,S1,S2,X7,B7,T7⟩:=yh b.drew li lf s1 s2 ax b5 ((V.trans (StT.of_below (w':=wr.drew) (yR _ _).drew (qP7 b.lt))).trans (t6.trans t7));have e:(m.set i pf).set f pi=sw m i f:=by unfold sw;rw[show m.getD f (0,0)=pf from s,show m.getD i (0,0)=pi from aa]
     rw[e]at q7;obtain⟨Q7,HD,HP⟩:=yV q7 (Dn.step (g:=at_ (sw m i f)) zF3 hd.out a2.1 Y a2.2.1 a2.2.2 H (qEy m i f M (qQ4 ae)) (qEw m i f o) (fun j h1 h2=>qEx m i f j h1 h2)) (hp.out.trans ((zTd m i f M o).symm.cons q));have HM:=yT (kN (sw m i f)=last) (by rw[zWo];exact hm.out);have bx:i<f:=za
     clear H V b K d hq hx hb hd hw a2 o M aa s li lf s1 q6 t6 N s2 q7 t7 a3 ax b5 e;by_cases bk:(k:Int)<=2*(i:Int)+2
     .have bc:¬k<last:=za
      clear a5 hA;go_wp2;refine zS [] (fun _=>True) [0,1,2,4,0,0,32,64,128,0,0,1024,2048,4096,0,24576,32768,0,131072,262144,524288,0,3145728,4194304,9567519,26344735,67108863,134217727] 28<|zu 9 90 (zI f)<|zp [0,1,2,3,4,5,6,7,8,10,11,12,13,14,15,16,17,18,19,20,21,22,23,24]<|zk 81 (zP R 0)<|zk 82 (zP R 0)<|zk 83 (zP R 0)<|zt 84 (qZ (yA ⟨g,0,yB⟩) last c) (zl 297 83 (z.out.hd hm.out))<|zk 85 (zI i)<|zk 86 (zP R 0)<|zk 87 (zP R 0)<|zk 88 (zP R 0)<|zt 89 (qZ (yA ⟨g,0,yB⟩) last c) (zl 297 88 (z.out.hd hm.out))<|zk 91 (zP R 0)<|zk 92 (zP R 0)<|zk 93 (zP R 0)<|zt 94 (qZ (yA ⟨g,0,yB⟩) last c) (zl 297 93 (z.out.hd hm.out))<|zk 95 (zI f)<|zt 96 (qc (yA ⟨g,f*2,yB⟩)) (xQ (t:=297) (x:=(.tmp 94)) (y:=(.tmp 95)) (g:=g) (n:=last) (c:=c) (k:=f) (sz:=2) rfl zf zf za underlying297 (fun _=>sizeOf295 _) _)<|zt 97 (tv pf) (zl 295 96 (LF.out))<|zk 98 (zP R 0)<|zk 99 (zP R 0)<|zk 100 (zP R 0)<|zt 101 (qZ (yA ⟨g,0,yB⟩) last c) (zl 297 100 (z.out.hd hm.out))<|zk 102 (zI i)<|zt 103 (qc (yA ⟨g,i*2,yB⟩)) (xQ (t:=297) (x:=(.tmp 101)) (y:=(.tmp 102)) (g:=g) (n:=last) (c:=c) (k:=i) (sz:=2) rfl zf zf za underlying297 (fun _=>sizeOf295 _) _)<|zt 104 (tv pi) (zl 295 103 (LI.out))<|zt 105 (qc (yA ⟨g,i*2,yB⟩)) (xQ (t:=297) (x:=(.tmp 84)) (y:=(.tmp 85)) (g:=g) (n:=last) (c:=c) (k:=i) (sz:=2) rfl zf zf za underlying297 (fun _=>sizeOf295 _) _)<|zn<|zw 25 yB (zr 295 105 97 (S1.out)) (qy (qy trivial))<|zp [26]<|zt 106 (qc (yA ⟨g,f*2,yB⟩)) (xQ (t:=297) (x:=(.tmp 89)) (y:=(.tmp 90)) (g:=g) (n:=last) (c:=c) (k:=f) (sz:=2) rfl zf zf za underlying297 (fun _=>sizeOf295 _) _)<|zn<|zw 27 yB (zr 295 106 104 (S2.out)) (qy (qy trivial))<|zE<| ?_
      simp only[zP,zI,Act.put,qPx,qPw,qPy];clear S1 S2 LI LF z;go_wp2;go_roundw
      case rel=>exact⟨f,sw m i f,za,rfl,Q7,HM,HP,HD,X7,B7,T7⟩
      case measure=>exact z8
     .clear a5 hA;go_wp2;refine zS [] (fun _=>True) [0,1,2,4,0,0,32,64,128,0,0,1024,2048,4096,0,24576,32768,0,131072,262144,524288,0,3145728,4194304,9567519,26344735,67108863,134217727] 28<|zu 9 90 (zI f)<|zp [0,1,2,3,4,5,6,7,8,10,11,12,13,14,15,16,17,18,19,20,21,22,23,24]<|zk 81 (zP R 0)<|zk 82 (zP R 0)<|zk 83 (zP R 0)<|zt 84 (qZ (yA ⟨g,0,yB⟩) last c) (zl 297 83 (z.out.hd hm.out))<|zk 85 (zI i)<|zk 86 (zP R 0)<|zk 87 (zP R 0)<|zk 88 (zP R 0)<|zt 89 (qZ (yA ⟨g,0,yB⟩) last c) (zl 297 88 (z.out.hd hm.out))<|zk 91 (zP R 0)<|zk 92 (zP R 0)<|zk 93 (zP R 0)<|zt 94 (qZ (yA ⟨g,0,yB⟩) last c) (zl 297 93 (z.out.hd hm.out))<|zk 95 (zI f)<|zt 96 (qc (yA ⟨g,f*2,yB⟩)) (xQ (t:=297) (x:=(.tmp 94)) (y:=(.tmp 95)) (g:=g) (n:=last) (c:=c) (k:=f) (sz:=2) rfl zf zf za underlying297 (fun _=>sizeOf295 _) _)<|zt 97 (tv pf) (zl 295 96 (LF.out))<|zk 98 (zP R 0)<|zk 99 (zP R 0)<|zk 100 (zP R 0)<|zt 101 (qZ (yA ⟨g,0,yB⟩) last c) (zl 297 100 (z.out.hd hm.out))<|zk 102 (zI i)<|zt 103 (qc (yA ⟨g,i*2,yB⟩)) (xQ (t:=297) (x:=(.tmp 101)) (y:=(.tmp 102)) (g:=g) (n:=last) (c:=c) (k:=i) (sz:=2) rfl zf zf za underlying297 (fun _=>sizeOf295 _) _)<|zt 104 (tv pi) (zl 295 103 (LI.out))<|zt 105 (qc (yA ⟨g,i*2,yB⟩)) (xQ (t:=297) (x:=(.tmp 84)) (y:=(.tmp 85)) (g:=g) (n:=last) (c:=c) (k:=i) (sz:=2) rfl zf zf za underlying297 (fun _=>sizeOf295 _) _)<|zn<|zw 25 yB (zr 295 105 97 (S1.out)) (qy (qy trivial))<|zp [26]<|zt 106 (qc (yA ⟨g,f*2,yB⟩)) (xQ (t:=297) (x:=(.tmp 89)) (y:=(.tmp 90)) (g:=g) (n:=last) (c:=c) (k:=f) (sz:=2) rfl zf zf za underlying297 (fun _=>sizeOf295 _) _)<|zn<|zw 27 yB (zr 295 106 104 (S2.out)) (qy (qy trivial))<|zE<| ?_
      simp only[zP,zI,Act.put,qPx,qPw,qPy];clear S1 S2 LI LF z;go_wp2;go_roundw
      case rel=>exact⟨f,sw m i f,za,rfl,Q7,HM,HP,HD,X7,B7,T7⟩
      case measure=>exact z8
end Wg
end Go.Proofs.YtppnakkaljbmbaaGreatDoor
