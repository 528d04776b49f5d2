/- Steps of a proof; no condition beyond what each states. -/
import Derived.Test.YtppnakkaljbmbaaGreatDoorZU22
set_option linter.unusedVariables false
set_option linter.unusedSimpArgs false
set_option maxRecDepth 100000
set_option maxHeartbeats 8000000
namespace Go.Proofs.YtppnakkaljbmbaaGreatDoor
namespace Bk
open Tn Zr Ch Hf Bt Wg Sq Us Sl St
theorem zWp (a b:Nat) (ha:a<=20) (hb:b<=20):(steps a b).length<=41:=by
 unfold steps
 simp
 omega
theorem zT5:∀(l:List Nat) (now:Nat),now<=20->(∀x∈l,x<=20)->(del now l).length<=41*l.length
 |[],_,_,_=>by simp[del]
 |n::r,now,h,hl=>by
  have h1:=zWp now n h (hl n (by simp))
  have h2:=zT5 r n (hl n (by simp)) (fun x hx=>hl x (by simp[hx]))
  rw[del,List.length_append,List.length_cons]
  omega
theorem zI8 (l:List Nat) (hl:∀x∈l,x<=20):(delta l).length<=5+41*l.length:=by
 unfold delta
 rw[List.length_append,zAc]
 have h0:l.headD 0<=20:=by
  cases l with
  |nil=>simp
  |cons a r=>exact hl a (by simp)
 have:=zT5 l _ h0 hl
 omega
theorem qAf (l:List Nat):(zC2 l).length<=272:=by
 unfold zC2
 rw[List.length_append,zAc]
 have:=zIt l 16
 omega
theorem zN2 (t:List Nat) (ht:∀x∈t,x<=20):∀g:List Nat,(g.flatMap (word t)).length<=20*g.length
 |[]=>by simp
 |s::g=>by
  rw[List.flatMap_cons,List.length_append,zCu,List.length_cons]
  have h1:=zN2 t ht g
  have h2:t.getD s 0<=20:=by
   rw[List.getD_eq_getElem?_getD]
   cases h:t[s]? with
   |none=>simp
   |some x=>exact ht x (List.mem_of_getElem? h)
  omega
def pkT (x:List UInt8):ByteArray:=⟨(Rle.pack x).toArray⟩
def codes (p:ByteArray):Nat:=(zAj p).size+2
def tab (p:ByteArray) (k:Nat):List Nat:=tb (sym p) (codes p) k
def cho (p:ByteArray):List Nat:=chosen (sym p) (codes p)
def zGb (p:ByteArray) (i:Nat):List Nat:=if(cho p).getD i 0=1 then tab p 1 else tab p 0
def groups (p:ByteArray):List (List Nat):=grp (sym p)
def zBe (p:ByteArray) (i:Nat):List Bool:=((groups p).getD i []).flatMap (word (zGb p i))
def zA4:Nat:=54156738319193
def zBa (x:List UInt8):Nat:=(Crc.sum x).toNat
def zCg (x:List UInt8):List (List Bool):=[num zA4 48,num (zBa x) 32,num (zA8 (pkT x)) 16,zC2 (bl (zAj (pkT x))),num 2 3,num (cho (pkT x)).length 15,zAz false (cho (pkT x))]
def zIg (x:List UInt8):List (List Bool):=zCg x++[delta (tab (pkT x) 0),delta (tab (pkT x) 1)]++(List.range (groups (pkT x)).length).map (zBe (pkT x))
def zAn (x:List UInt8):List Bool:=(zIg x).flatten
theorem zF8 (p:ByteArray) (h:0<p.size):3<=codes p/\codes p<=258:=by
 have h1:=zMz p h
 have h2:=zFk p
 unfold codes;omega
theorem zIo (p:ByteArray):(sym p).length<=p.size+1:=by
 rw[zCv];have:=zL1 p;omega
theorem zC6 (p:ByteArray) (h:0<p.size) (h2:p.size<=1000) (k:Nat):Right (tab p k):=by
 have h1:=zF8 p h
 have h3:=zIo p
 exact zDn _ _ _ (by omega) (by omega) (by omega)
theorem zG6 (p:ByteArray) (k:Nat):(tab p k).length=codes p:=zG5 _ _ _
theorem zJ4 (p:ByteArray):(cho p).length=(groups p).length:=zIe _ _
theorem zYh (p:ByteArray):∀x∈cho p,x<=1:=zGr _ _
theorem zFg (p:ByteArray):(groups p).length=((sym p).length+9)/10:=zBx _
theorem zI2 (p:ByteArray) (h2:p.size<=1000):(groups p).length<=101:=by
 rw[zFg];have:=zIo p;omega
theorem zU7 (p:ByteArray):0<(groups p).length:=by
 rw[zFg,zCv];omega
theorem zSf (p:ByteArray) (h:0<p.size) (h2:p.size<=1000) (i:Nat):Right (zGb p i):=by
 unfold zGb;split
 ·exact zC6 p h h2 1
 ·exact zC6 p h h2 0
theorem qAz (p:ByteArray) (i:Nat) (hi:i<(groups p).length):(groups p).getD i []∈groups p:=by
 rw[List.getD_eq_getElem?_getD,List.getElem?_eq_getElem hi];exact List.getElem_mem hi
theorem qAy (p:ByteArray) (h:0<p.size) (i:Nat) (hi:i<(groups p).length):((groups p).getD i []).length<=10/\∀s∈(groups p).getD i [],s<codes p:=by
 obtain⟨_,h1,h2⟩:=zHg (qAz p i hi)
 exact⟨h1,fun s hs=>zPz p h s (h2 s hs)⟩
theorem zS3 (p:ByteArray) (h:0<p.size) (h2:p.size<=1000) (i:Nat) (hi:i<(groups p).length):(zBe p i).length<=200:=by
 have h1:=zN2 (zGb p i) (zSf p h h2 i).top ((groups p).getD i [])
 have h3:=(qAy p h i hi).1
 unfold zBe
 omega
theorem zEt {α:Type} (b:Nat):∀ls:List (List α),(∀l∈ls,l.length<=b)->ls.flatten.length<=b*ls.length
 |[],_=>by simp
 |l::ls,h=>by
  have h1:=zEt b ls (fun l hl=>h l (by simp[hl]))
  have h2:=h l (by simp)
  rw[List.flatten_cons,List.length_append,List.length_cons,Nat.mul_add,Nat.mul_one]
  omega
theorem zXv (x:List UInt8) (h:0<(pkT x).size) (h2:(pkT x).size<=1000):∀l∈zCg x,l.length<=300:=by
 intro l hl
 have h3:=qAf (bl (zAj (pkT x)))
 have h4:=zK4 false (cho (pkT x))
 have h5:=zI2 (pkT x) h2
 rw[<-zJ4]at h5
 unfold zCg at hl
 simp only[List.mem_cons,List.not_mem_nil,or_false]at hl
 rcases hl with rfl|rfl|rfl|rfl|rfl|rfl|rfl
 ·rw[zAc];omega
 ·rw[zAc];omega
 ·rw[zAc];omega
 ·omega
 ·rw[zAc];omega
 ·rw[zAc];omega
 ·omega
theorem zO (p:ByteArray) (h:0<p.size) (h2:p.size<=1000) (k:Nat):(delta (tab p k)).length<=11000:=by
 have h1:=zI8 (tab p k) (zC6 p h h2 k).top
 rw[zG6]at h1
 have:=zF8 p h
 omega
theorem zLp (x:List UInt8) (h:0<(pkT x).size) (h2:(pkT x).size<=1000):(zAn x).length<=45000:=by
 have h3:=zEt 300 (zCg x) (zXv x h h2)
 have h4:=zEt 200 ((List.range (groups (pkT x)).length).map (zBe (pkT x))) (fun l hl=>by
  obtain⟨i,hi,rfl⟩:=List.mem_map.1 hl
  exact zS3 (pkT x) h h2 i (List.mem_range.1 hi))
 have h5:=zO (pkT x) h h2 0
 have h6:=zO (pkT x) h h2 1
 have h7:=zI2 (pkT x) h2
 rw[List.length_map,List.length_range]at h4
 rw[show(zCg x).length=7 from rfl]at h3
 unfold zAn zIg
 rw[List.flatten_append,List.flatten_append,List.length_append,List.length_append]
 simp only[List.flatten_cons,List.flatten_nil,List.append_nil,List.length_append]
 omega
theorem zFy (x:List UInt8):(pkT x).size=Rle.Len x:=by show(Rle.pack x).toArray.size=_;simp[Rle.Len]
theorem zJp (x:List UInt8) (h:0<x.length):0<(pkT x).size:=by
 have:=Rle.zBu x
 rw[zFy];omega
end Bk
namespace Sm
open Tn Zr Ch Hf Bt Wg Sq Us Sl St Bk
abbrev T:=List UInt8
def pieces (room:Nat):Nat->T->List T
 |0,_=>[]
 |n+1,x=>if x=[]then[]else x.take (Rle.cut x room)::pieces room n (x.drop (Rle.cut x room))
def pcs (room:Nat) (x:T):List T:=pieces room x.length x
theorem zNr (room:Nat) (x:T) (h:x≠[]) (hr:1<=room):(x.drop (Rle.cut x room)).length<x.length:=by
 have h1:=Rle.zJ2 x room h (by omega)
 have h2:0<x.length:=List.length_pos_iff.2 h
 rw[List.length_drop];omega
theorem zKh (room:Nat) (hr:1<=room):∀(n m:Nat) (x:T),x.length<=n->x.length<=m->pieces room n x=pieces room m x
 |0,0,x,_,_=>rfl
 |0,m+1,x,h,_=>by
  have:x=[]:=List.eq_nil_of_length_eq_zero (by omega)
  subst this;simp[pieces]
 |n+1,0,x,_,h=>by
  have:x=[]:=List.eq_nil_of_length_eq_zero (by omega)
  subst this;simp[pieces]
 |n+1,m+1,x,h,g=>by
  unfold pieces
  by_cases hx:x=[]
  ·rw[if_pos hx,if_pos hx]
  ·have:=zNr room x hx hr
   rw[if_neg hx,if_neg hx,zKh room hr n m _ (by omega) (by omega)]
theorem zB6 (room:Nat):pcs room []=[]:=rfl
theorem zBq (room:Nat) (x:T) (h:x≠[]) (hr:1<=room):pcs room x=x.take (Rle.cut x room)::pcs room (x.drop (Rle.cut x room)):=by
 have h1:=zNr room x h hr
 have h2:0<x.length:=List.length_pos_iff.2 h
 obtain⟨n,hn⟩:∃n,x.length=n+1:=⟨x.length-1,by omega⟩
 unfold pcs
 rw[hn,pieces,if_neg h,zKh room hr n (x.drop (Rle.cut x room)).length _ (by omega) (Nat.le_refl _)]
theorem zJr {M:T->Prop} (room:Nat) (hr:1<=room) (h0:M []) (h1:∀x,x≠[]->M (x.drop (Rle.cut x room))->M x):∀(n:Nat) (x:T),x.length<=n->M x
 |0,x,h=>by
  have:x=[]:=List.eq_nil_of_length_eq_zero (by omega)
  subst this;exact h0
 |n+1,x,h=>by
  by_cases hx:x=[]
  ·subst hx;exact h0
  ·have:=zNr room x hx hr
   exact h1 x hx (zJr room hr h0 h1 n _ (by omega))
theorem zHv (room:Nat) (hr:1<=room) (x:T):(pcs room x).flatten=x:=by
 refine zJr (M:=fun x=>(pcs room x).flatten=x) room hr rfl (fun x hx ih=> ?_) x.length x (Nat.le_refl _)
 rw[zBq room x hx hr,List.flatten_cons,ih,List.take_append_drop]
theorem zJq (room:Nat) (hr:1<=room) (x:T):∀p∈pcs room x,0<p.length/\Rle.Len p<=room:=by
 refine zJr (M:=fun x=>∀p∈pcs room x,0<p.length/\Rle.Len p<=room) room hr (by simp[zB6]) (fun x hx ih=> ?_) x.length x (Nat.le_refl _)
 rw[zBq room x hx hr]
 intro p hp
 rcases List.mem_cons.1 hp with rfl|hp
 ·have h1:=Rle.zJ2 x room hx (by omega)
  have h2:=Rle.zLm x room (by omega)
  rw[List.length_take]
  omega
 ·exact ih p hp
theorem zOh (room:Nat) (hr:40<=room) (x:T):30*(pcs room x).length<=x.length+29:=by
 refine zJr (M:=fun x=>30*(pcs room x).length<=x.length+29) room (by omega) (by simp[zB6]) (fun x hx ih=> ?_) x.length x (Nat.le_refl _)
 rw[zBq room x hx (by omega),List.length_cons]
 have h2:=Rle.zLm x room (by omega)
 have h3:=Rle.zBu (x.take (Rle.cut x room+1))
 have h4:(x.take (Rle.cut x room+1)).length<=Rle.cut x room+1:=by rw[List.length_take];omega
 rw[List.length_drop]at ih
 have h5:=Rle.zJ2 x room hx (by omega)
 by_cases hc:Rle.cut x room<x.length
 ·have:=h2.2.2 hc
  omega
 ·have hz:x.drop (Rle.cut x room)=[]:=by rw[List.drop_eq_nil_iff];omega
  rw[hz,zB6]
  have:0<x.length:=List.length_pos_iff.2 hx
  simp;omega
def zBp (lev:Nat):List Bool:=num 80 8++(num 77 8++(num 107 8++num (48+lev) 8))
theorem zTz:∀lev:Fin 10,pkL (zBp lev.val)=[80,77,107,UInt8.ofNat (48+lev.val)]:=by decide+kernel
theorem zDw (lev:Nat):(zBp lev).length=32:=by simp[zBp,zAc]
def zH0:Nat:=25779555029136
def zVr (ps:List T):BitVec 32:=(ps.map Crc.sum).foldl Crc.fold 0#32
def zF (ps:List T):List Bool:=num zH0 48++num (zVr ps).toNat 32
theorem zRi (ps:List T):(zF ps).length=80:=by simp[zF,zAc]
def qBn (lev:Nat) (ps:List T):List (List Bool):=zBp lev::(ps.map zAn++[zF ps])
def zFa (lev:Nat) (ps:List T):List Bool:=(qBn lev ps).flatten
def zCt (lev:Nat) (ps:List T):ByteArray:=pk (zFa lev ps)
def pos (ps:List T) (k:Nat):Nat:=32+((ps.take k).map zAn).flatten.length
theorem zZu (ps:List T):pos ps 0=32:=by simp[pos]
theorem zZv (ps:List T) (k:Nat) (h:k<ps.length):pos ps (k+1)=pos ps k+(zAn ps[k]).length:=by
 unfold pos
 rw[List.take_succ_eq_append_getElem h,List.map_append,List.flatten_append,List.length_append,List.map_cons,List.map_nil,List.flatten_cons,List.flatten_nil,List.append_nil]
 omega
theorem zYn (lev:Nat) (ps:List T) (k:Nat) (h:k<ps.length):zFa lev ps=(zBp lev++((ps.take k).map zAn).flatten)++zAn ps[k]++(((ps.drop (k+1)).map zAn).flatten++zF ps):=by
 have:ps=ps.take k++ps[k]::ps.drop (k+1):=by rw[List.getElem_cons_drop,List.take_append_drop]
 have h2:(ps.map zAn).flatten=((ps.take k).map zAn).flatten++(zAn ps[k]++((ps.drop (k+1)).map zAn).flatten):=by
  rw[<-List.flatten_cons,<-List.map_cons,<-List.flatten_append,<-List.map_append,<-this]
 unfold zFa qBn
 rw[List.flatten_cons,List.flatten_append,h2]
 simp
theorem zLs (lev:Nat) (ps:List T):zFa lev ps=(zBp lev++(ps.map zAn).flatten)++zF ps++[]:=by
 unfold zFa qBn
 simp
theorem zJ8 (lev:Nat) (ps:List T):(zFa lev ps).length=pos ps ps.length+80:=by
 rw[zLs]
 simp only[List.length_append,zDw,zRi,pos,List.take_length,List.length_nil]
theorem zVo (a m b:List Bool):At (pk (a++m++b)) a.length m:=by
 have hs:(a++m++b).length<=8*(pk (a++m++b)).size:=by rw[zDu];unfold zA2;omega
 simp only[List.length_append]at hs
 refine⟨by omega,?_⟩
 refine List.ext_getElem (by rw[take_length]) (fun j h1 h2=> ?_)
 have h3:=zKy (pk (a++m++b)) a.length m.length j h2
 rw[List.getElem?_eq_getElem h1]at h3
 rw[Option.some.inj h3,zGo _ _ (by omega),List.getD_eq_getElem?_getD,List.append_assoc,List.getElem?_append_right (by omega),Nat.add_sub_cancel_left,List.getElem?_append_left h2,List.getElem?_eq_getElem h2]
 rfl
theorem qGm (lev:Nat) (ps:List T) (k:Nat) (h:k<ps.length):At (zCt lev ps) (pos ps k) (zAn ps[k]):=by
 have h1:=zVo (zBp lev++((ps.take k).map zAn).flatten) (zAn ps[k]) (((ps.drop (k+1)).map zAn).flatten++zF ps)
 rw[<-zYn,List.length_append,zDw]at h1
 exact h1
theorem qEd (lev:Nat) (ps:List T):At (zCt lev ps) (pos ps ps.length) (zF ps):=by
 have h1:=zVo (zBp lev++(ps.map zAn).flatten) (zF ps) []
 rw[<-zLs,List.length_append,zDw]at h1
 unfold pos
 rw[List.take_length]
 exact h1
theorem zLr (lev:Nat) (ps:List T):(zCt lev ps).size=(pos ps ps.length+80+7)/8:=by
 unfold zCt
 rw[zDu,zJ8]
 rfl
theorem val_zero:∀n:Nat,val (List.replicate n false)=0
 |0=>rfl
 |n+1=>by rw[List.replicate_succ,zKx,val_zero n];simp
theorem qBl (lev:Nat) (ps:List T) (r:Nat) (h:pos ps ps.length+80+r<=8*(zCt lev ps).size):val (take (zCt lev ps) (pos ps ps.length+80) r)=0:=by
 have:take (zCt lev ps) (pos ps ps.length+80) r=List.replicate r false:=by
  refine List.ext_getElem (by rw[take_length,List.length_replicate]) (fun j h1 h2=> ?_)
  rw[take_length]at h1
  have h3:=zKy (zCt lev ps) (pos ps ps.length+80) r j h1
  rw[List.getElem?_eq_getElem (by rw[take_length];exact h1)]at h3
  rw[Option.some.inj h3,List.getElem_replicate]
  have h4:=zGo (zFa lev ps) (pos ps ps.length+80+j) (by
   show _<8*(zCt lev ps).size
   omega)
  rw[show zCt lev ps=pk (zFa lev ps)from rfl,h4,zDe]
  rw[zJ8];omega
 rw[this,val_zero]
theorem qBm (lev:Nat) (hl:lev<10) (ps:List T) (k:Nat) (hk:k<4):(zCt lev ps).data.toList[k]? =some (([80,77,107,UInt8.ofNat (48+lev)]:T).getD k 0):=by
 have h0:(pkL (zBp lev))[k]? =some (([80,77,107,UInt8.ofNat (48+lev)]:T).getD k 0):=by
  rw[zTz ⟨lev,hl⟩]
  match k,hk with
  |0,_=>rfl
  |1,_=>rfl
  |2,_=>rfl
  |3,_=>rfl
 have hz:k<zA2 (zBp lev).length:=by rw[zDw];unfold zA2;omega
 rw[zFz _ _ hz]at h0
 show(pkL (zFa lev ps))[k]? =_
 rw[zFz _ _ (by rw[zJ8];unfold zA2;omega),<-h0]
 congr 2
 refine zDv (fun j hj=> ?_)
 rw[zLs,List.getD_eq_getElem?_getD,List.getD_eq_getElem?_getD,List.append_assoc,List.append_assoc,List.getElem?_append_left (by rw[zDw];omega)]
theorem zW3 (ps:List T) (h:∀p∈ps,0<p.length/\Rle.Len p<=1000) (k:Nat):pos ps k<=32+45000*ps.length:=by
 unfold pos
 have h1:=zEt 45000 ((ps.take k).map zAn) (fun l hl=>by
  obtain⟨p,hp,rfl⟩:=List.mem_map.1 hl
  have hq:=h p (List.mem_of_mem_take hp)
  exact zLp p (zJp p hq.1) (by rw[zFy];exact hq.2))
 rw[List.length_map,List.length_take]at h1
 have:45000*min k ps.length<=45000*ps.length:=Nat.mul_le_mul_left _ (Nat.min_le_right _ _)
 omega
end Sm
namespace Sq
open Go.RowKit Front Ix
theorem indexB (l:List Nat) (f:Nat) (v:Value) (a:Option Addr) (n c:Nat) (w:World) (hn:l.length=n) (hc:n<=1000000000) (hs:Kit.Src w a (l.map ival)) (hf:zG3 f)
  (H:∀x∈l,∀W,Below w.heap.size w W->Calls Tryz.prog f #[ival x,v] W fun e w'=>e= .returned (.bool false)/\Below W.heap.size W w'):
  Calls Tryz.prog 152 #[.slice a n c,.func (.func f) #[] #[v]] w fun e w'=>e= .returned (.int .i64 (-1))/\Below w.heap.size w w':=by
 have HS:=zH hs
 have HN:=zH hn
 have HH:=zH H
 unfold zG3 at hf
 clear hs hn H
 go_enter Tryz.func152,Tryz.ntmps152
 go_wp2
 go_loopw [8] (fun i wr=>∃k:Nat,k<=n/\i= .int .i64 k/\RowKit.Hid (Below w.heap.size w wr)) (fun i _=>n-(intOf i).toNat)
 case atStart=>exact⟨0,by omega,rfl,zH (Below.refl _ _)⟩
 case round=>
  obtain⟨k,hk,rfl,hb⟩:=hrel
  by_cases hlt:k<n
  ·have hlk:k<l.length:=by rw[HN.out];exact hlt
   obtain⟨x,hx⟩:=zB (l[k])
   obtain⟨b,off,rfl,e0⟩:=(HS.out.below hb.out) k (ival x) (by rw[List.getElem?_map,List.getElem?_eq_getElem hlk,hx];rfl)
   have HQ:=zH (HH.out x (by rw[<-hx];exact List.getElem_mem hlk) wr hb.out)
   clear hx
   go_wp2_with fail
   (with_reducible refine HQ.out.mono ?_)
   rintro e w2 ⟨rfl,hb2⟩
   have HB:=zH (hb.out.trans (hb2.mono hb.out.size))
   clear hb2 HQ hb
   go_wp2
   go_roundw
   case rel=>exact⟨k+1,by omega,by go_num,HB⟩
   case measure=>simp[intOf];omega
  ·obtain rfl:k=n:=by omega
   go_wp2
   go_ret
   exact⟨rfl,hb.out⟩
theorem zYc (l:List Nat) (f:Nat) (v:Value) (a:Option Addr) (n c:Nat) (w:World) (hn:l.length=n) (hc:n<=1000000000) (hs:Kit.Src w a (l.map ival)) (hf:zG3 f)
  (H:∀x∈l,∀W,Below w.heap.size w W->Calls Tryz.prog f #[ival x,v] W fun e w'=>e= .returned (.bool false)/\Below W.heap.size W w'):
  Calls Tryz.prog 79 #[.slice a n c,.func (.func f) #[] #[v]] w fun e w'=>e= .returned (.bool false)/\Below w.heap.size w w':=by
 have HQ:=zH (indexB l f v a n c w hn hc hs hf H)
 clear hn hs hf H
 go_enter Tryz.func79,Tryz.ntmps79
 go_wp2_with fail
 (with_reducible refine HQ.out.mono ?_)
 rintro e w2 ⟨rfl,hb⟩
 go_wp2
 go_ret
 exact⟨rfl,hb⟩
end Sq
namespace Hf
open Go.RowKit Front Bt Zr Ix
def takeC (l:List Nat) (k j:Nat):Nat:=(l.take k).count j
theorem zUi (l:List Nat) (k:Nat) (hk:k<l.length) (j:Nat):zAy (takeC l k) l[k] (takeC l k l[k]+1) j=takeC l (k+1) j:=by
 unfold zAy takeC
 rw[List.take_succ_eq_append_getElem hk,List.count_append,List.count_singleton]
 by_cases e:j=l[k]
 ·subst e;simp
 ·rw[if_neg e]
  have:(l[k]==j)=false:=by simp;exact fun h=>e h.symm
  simp[this]
theorem zY9 (l:List Nat) (k j:Nat):takeC l k j<=k:=by
 unfold takeC
 have h1:=List.count_le_length (a:=j) (l:=l.take k)
 rw[List.length_take]at h1
 omega
def zId (l:List Nat) (j:Nat):Value:= .int .i64 ((cnt l j:Nat):Int)
theorem qBd (l:List Nat) (n:Nat):(cellsOf n (zId l)).all (·.oneCell')=true:=by
 rw[Array.all_eq_true_iff_forall_mem]
 intro v hv
 simp only[cellsOf,Array.mem_map]at hv
 obtain⟨j,_,rfl⟩:=hv
 rfl
theorem zS4 (l:List Nat) (a:Option Addr) (n c:Nat) (w:World) (hn:l.length=n) (hn2:n<=100000) (hs:Kit.Src w a (l.map ival)) (hl:∀x∈l,x<=20):
  Calls Tryz.prog 127 #[.slice a n c] w fun e w'=>e= .returned (.agg (cellsOf 21 (zId l)))/\Below w.heap.size w w':=by
 obtain⟨B,hB⟩:=zB w.heap.size
 have hz:(#[.int .i64 0,.int .i64 0,.int .i64 0,.int .i64 0,.int .i64 0,.int .i64 0,.int .i64 0,.int .i64 0,.int .i64 0,.int .i64 0,.int .i64 0,.int .i64 0,.int .i64 0,.int .i64 0,.int .i64 0,.int .i64 0,.int .i64 0,.int .i64 0,.int .i64 0,.int .i64 0,.int .i64 0]:Array Value)=cellsOf 21 (fun _=> .int .i64 0):=by kernel_rfl
 have hA0:=zAm.zeros B w 21 218 hB
 rw[<-hz]at hA0
 obtain⟨W,hW⟩:=zB (w.alloc (.cells (#[.int .i64 0,.int .i64 0,.int .i64 0,.int .i64 0,.int .i64 0,.int .i64 0,.int .i64 0,.int .i64 0,.int .i64 0,.int .i64 0,.int .i64 0,.int .i64 0,.int .i64 0,.int .i64 0,.int .i64 0,.int .i64 0,.int .i64 0,.int .i64 0,.int .i64 0,.int .i64 0,.int .i64 0]:Array Value) 218))
 have hb0:Below B w W:=by rw[<-hW,<-hB];exact(Below.refl _ _).alloc (Nat.le_refl _) _
 rw[hW]at hA0
 have HA0:=zH hA0
 have HB0:=zH hb0
 have HS:=zH hs
 have HL:=zH hl
 have HN:=zH hn
 rw[hB]
 clear hz hA0 hb0 hs hl hn
 go_enter Tryz.func127,Tryz.ntmps127
 go_wp2
 clear hW
 go_loopw [7] (fun i wr=>∃k:Nat,k<=n/\i= .int .i64 k/\RowKit.Hid (zAm wr B 218 21 (takeC l k))/\RowKit.Hid (Below B w wr)) (fun i _=>n-(intOf i).toNat)
 case atStart=>exact⟨0,by omega,rfl,zH (HA0.out.congr (fun j _=>by simp[takeC])),HB0⟩
 case round=>
  clear HA0 HB0
  obtain⟨k,hk,rfl,har,hb⟩:=hrel
  by_cases hlt:k<n
  ·have hkl:k<l.length:=by rw[HN.out];exact hlt
   have hst:=zUi l k hkl
   have hle:=zY9 l k l[k]
   have hx20:=HL.out _ (List.getElem_mem hkl)
   obtain⟨x,hx⟩:=zB (l[k])
   obtain⟨g,off,rfl,e0⟩:=(HS.out.below (w':=wr) (by rw[hB];exact hb.out)) k (ival x) (by rw[List.getElem?_map,List.getElem?_eq_getElem hkl,hx];rfl)
   rw[hx]at hst hle hx20
   have x0:=har.out.cell x (by omega)
   have f0:=har.out.free x
   have HNX:=zH ((har.out.set x (takeC l k x+1) (V:=((takeC l k x:Nat):Int)+1) (by omega)).congr (fun j _=>hst j))
   obtain⟨q,hq⟩:=zB (takeC l k x)
   rw[hq]at x0 hle HNX
   clear hst hx hq
   go_wp2
   go_roundw
   case rel=>exact⟨k+1,by omega,by go_num,HNX,zH (hb.out.setCell (p:=⟨B,x,none⟩) (Nat.le_refl _) _)⟩
   case measure=>simp[intOf];omega
  ·obtain rfl:k=n:=by omega
   have har2:Arr wr B 218 21 (zId l):=by
    have:=har.out.congr (g:=cnt l) (fun j _=>by unfold takeC;rw[List.take_of_length_le (by rw[HN.out];omega),Wg.zJ])
    exact this
   have hinf:(Tryz.prog.info? 218).map (·.size)=some 21:=by kernel_rfl
   have hsz:(cellsOf 21 (zId l)).size=21:=cellsOf_size _ _
   have hst:=zE2 (P:=Tryz.prog) wr B 218 _ (cellsOf 21 (zId l)) har2 rfl (qBd l 21)
   rw[setRow_self wr B _ 218 (0,0) har2]at hst
   obtain⟨cs,hcs⟩:=zB (cellsOf 21 (zId l))
   unfold Arr at har2
   rw[hcs]at har2 hst hsz
   have HG:=zH har2
   have HI:=zH (show(Tryz.prog.info? 218).map (·.size)=some cs.size by rw[hsz];exact hinf)
   have HCS:=zH hcs
   clear har2 hinf hcs
   go_wp2_with (refine wpList_load_row rfl 218 (.tmp 2) rfl B rfl 218 cs (0,0) (.array 21 3) HG.out Tryz.underlying218 rfl HI.out ?_)
   try simp only[Exit.inBlock,Exit.then]
   rw[HCS.out]
   exact bodyPost_ret (results_cell_row rfl _ _ B 218 cs (0,0) (.array 21 3) rfl HG.out Tryz.underlying218 rfl HI.out) rfl ⟨rfl,hb.out⟩
theorem zI5 (m:Int):∀(zs:List Int) (a:Int),a<=m->(∀z∈zs,z<=m)->zs.foldl max a<=m
 |[],a,h,_=>h
 |z::zs,a,h,hz=>zI5 m zs (max a z) (by have:=hz z (by simp);omega) (fun y hy=>hz y (by simp[hy]))
theorem zI4 (m:Int):∀(zs:List Int) (a:Int),m<=a->(∀z∈zs,m<=z)->m<=zs.foldl min a
 |[],a,h,_=>h
 |z::zs,a,h,hz=>zI4 m zs (min a z) (by have:=hz z (by simp);omega) (fun y hy=>hz y (by simp[hy]))
theorem max_le (m:Int) (zs:List Int) (h0:zs≠[]) (h:∀z∈zs,z<=m):Lib.maxOf zs<=m:=by
 unfold Lib.maxOf
 cases zs with
 |nil=>exact absurd rfl h0
 |cons z r=>exact zI5 m _ _ (h z (by simp)) h
theorem qFp (m:Int) (zs:List Int) (h0:zs≠[]) (h:∀z∈zs,m<=z):m<=Lib.minOf zs:=by
 unfold Lib.minOf
 cases zs with
 |nil=>exact absurd rfl h0
 |cons z r=>exact zI4 m _ _ (h z (by simp)) h
def left (l:List Nat):Nat->Int
 |0=>1
 |k+1=>((2^k:Nat):Int)-((first l k+cnt l k:Nat):Int)
theorem zXl (l:List Nat) (k:Nat):left l (k+1)=(if 0<k then 2*left l k else left l k)-((cnt l k:Nat):Int):=by
 cases k with
 |zero=>simp[left,first]
 |succ k=>
  rw[if_pos (by omega)]
  simp only[left,first,Nat.pow_succ]
  push_cast
  omega
theorem zMh {l:List Nat} (h:Right l) (k:Nat) (hk:k<=21):0<=left l k/\left l k<=2097152:=by
 cases k with
 |zero=>simp[left]
 |succ k=>
  have h1:=h.zEs k (by omega)
  have h2:2^k<=2^20:=Nat.pow_le_pow_right (by omega) (by omega)
  simp only[left]
  omega
theorem qGc (l:List Nat) (n:Nat):cnt l n<=l.length:=by rw[Wg.zJ];exact List.count_le_length
theorem zCk (l:List Nat) (a:Option Addr) (n c:Nat) (w:World) (hn:l.length=n) (hs:Kit.Src w a (l.map ival)) (hr:Right l):
  Calls Tryz.prog 45 #[.slice a n c] w fun e w'=>e= .returned (.int .i64 0)/\Below w.heap.size w w':=by
 have h2:=hr.two
 have h258:=hr.most
 rw[hn]at h2 h258
 obtain⟨b,off,rfl,_⟩:=hs 0 (ival l[0]) (by rw[List.getElem?_map,List.getElem?_eq_getElem];rfl)
 obtain⟨zs,hzs⟩:∃zs:List Int,l.map (fun x:Nat=>(x:Int))=zs:=⟨_,rfl⟩
 have hzl:zs.length=n:=by rw[<-hzs,List.length_map,hn]
 have hcell:∀j,j<zs.length->w.cell? ⟨b,off+j,none⟩=some (.int .i64 (zs.getD j 0)):=by
  intro j hj
  have hj2:j<l.length:=by omega
  obtain⟨b',off',ha,hc⟩:=hs j (ival l[j]) (by rw[List.getElem?_map,List.getElem?_eq_getElem hj2];rfl)
  injection ha with ha
  injection ha with h1 h3 _
  subst h1 h3
  rw[hc,<-hzs,List.getD_eq_getElem?_getD,List.getElem?_map,List.getElem?_eq_getElem hj2]
  rfl
 have hne:zs≠[]:=by intro h;rw[h]at hzl;simp at hzl;omega
 have hmx:Lib.maxOf zs<=20:=max_le 20 zs hne (fun z hz=>by rw[<-hzs]at hz;obtain⟨x,hx,rfl⟩:=List.mem_map.1 hz;have:=hr.top x hx;omega)
 have hmn:1<=Lib.minOf zs:=qFp 1 zs hne (fun z hz=>by rw[<-hzs]at hz;obtain⟨x,hx,rfl⟩:=List.mem_map.1 hz;have:=hr.one x hx;omega)
 have H1:=zH (Tryz.slices_Min_int b off n c zs w (by omega) (by omega) (by omega) hcell)
 have H2:=zH (Tryz.slices_Max_int b off n c zs w (by omega) (by omega) (by omega) hcell)
 rw[List.take_of_length_le (by omega)]at H1 H2
 obtain⟨mn,hmn2⟩:=zB (Lib.minOf zs)
 obtain⟨mx,hmx2⟩:=zB (Lib.maxOf zs)
 rw[hmn2]at H1 hmn
 rw[hmx2]at H2 hmx
 have j1:decide (mn<1)=false:=decide_eq_false (by omega)
 have j2:decide ((20:Int)<mx)=false:=decide_eq_false (by omega)
 have j3:decide ((n:Int)<2)=false:=decide_eq_false (by omega)
 have j4:decide ((258:Int)<(n:Int))=false:=decide_eq_false (by omega)
 have H3:=zH (zS4 l _ n c w hn (by omega) hs hr.top)
 have HR:=zH hr
 have HCL:=zH (qGc l)
 clear hcell hmn2 hmx2 hzs hs hzl hne hmn hmx hr
 go_enter Tryz.func45,Tryz.ntmps45
 go_wp2_with fail
 (with_reducible refine H1.out.mono ?_)
 rintro e w2 ⟨rfl,rfl⟩
 go_wp2_with fail
 (with_reducible refine H2.out.mono ?_)
 rintro e w3 ⟨rfl,rfl⟩
 go_wp2_with fail
 (with_reducible refine H3.out.mono ?_)
 rintro e w4 ⟨rfl,hb4⟩
 have HB4:=zH hb4
 have HCS:=zH (fun k (hk:k<21)=>zCe 21 (zId l) k hk)
 obtain⟨cs,hcs⟩:=zB (cellsOf 21 (zId l))
 rw[hcs]at HCS⊢
 clear hb4 hcs j1 j2 j3 j4 H1 H2 H3
 go_wp2
 go_loopw [3,26] (fun lv i wr=>∃k:Nat,k<=21/\i= .int .i64 k/\lv= .int .i64 (left l k)/\wr=w4) (fun _ i _=>21-(intOf i).toNat)
 case atStart=>exact⟨0,by omega,rfl,rfl,rfl⟩
 case round=>
  obtain⟨k,hk,rfl,rfl,rfl⟩:=hrel
  by_cases hlt:k<21
  ·have hix:=zE8 (P:=Tryz.prog) (t:=218) (n:=21) (e:=3) Tryz.underlying218 (fun _=>Tryz.isAgg3 _) (fun _=>Tryz.sizeOf3 _) cs k _ hlt (HCS.out k hlt) wr
   unfold zId at hix
   have hl1:=zMh HR.out k (by omega)
   have hl2:=zMh HR.out (k+1) (by omega)
   have hls:=zXl l k
   have hcl:=HCL.out k
   have hll:=HR.out.most
   obtain⟨q,hq⟩:=zB (cnt l k)
   obtain⟨y,hy⟩:=zB (left l k)
   rw[hq]at hix hls hcl
   rw[hy]at hls hl1⊢
   by_cases hk0:0<k
   ·rw[if_pos hk0]at hls
    rw[hls]at hl2
    have HLS:=zH hls
    have i4:decide (2*y-(q:Int)<0)=false:=decide_eq_false (by omega)
    have hk1:(0:Int)<(k:Int):=by omega
    clear hls hq hy hk0
    go_wp2
    go_roundw
    case rel=>exact⟨k+1,by omega,by go_num,by rw[HLS.out];congr 1;omega,trivial⟩
    case measure=>simp only[intOf];omega
   ·obtain rfl:k=0:=by omega
    rw[if_neg (by omega)]at hls
    rw[hls]at hl2
    have HLS:=zH hls
    have i4:decide (y-(q:Int)<0)=false:=decide_eq_false (by omega)
    rw[show((0:Nat):Int)=0 from rfl]at hix
    clear hls hq hy
    go_wp2
    go_roundw
    case rel=>exact⟨0+1,by omega,by go_num,by rw[HLS.out],trivial⟩
    case measure=>simp only[intOf];omega
  ·obtain rfl:k=21:=by omega
   go_wp2
   go_ret
   exact⟨rfl,HB4.out⟩
end Hf
end Go.Proofs.YtppnakkaljbmbaaGreatDoor
