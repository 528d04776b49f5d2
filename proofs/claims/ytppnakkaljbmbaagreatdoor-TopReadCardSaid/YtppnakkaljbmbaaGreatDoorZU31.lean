/- Steps of a proof; no condition beyond what each states. -/
import Derived.RangeFuncBound
import Derived.RangeFuncNested
import Derived.Test.YtppnakkaljbmbaaGreatDoorZU30
set_option linter.unusedVariables false
set_option linter.unusedSimpArgs false
set_option maxRecDepth 100000
set_option maxHeartbeats 8000000
namespace Go.Proofs.YtppnakkaljbmbaaGreatDoor
namespace Sm
open Go.RowKit Hf Bt Zr Ix Front Wg Ch Sl Sq Us St Tn Bk
def zAx (x:BitVec 32):Value:= .int .u32 (Crc.U x)
theorem zPv (l:List (BitVec 32)):∀u∈l.map zAx,u.oneCell'=true:=by
 intro u hu
 obtain⟨x,_,rfl⟩:=List.mem_map.1 hu
 rfl
theorem zUb (a:Option Addr) (n c:Nat) (l:List (BitVec 32)) (w:World) (hn:l.length=n) (hn2:n<=100000) (hs:Kit.Src w a (l.map zAx)):
  Calls Tryz.prog 131 #[.slice a n c] w fun e w'=>e= .returned (.int .u32 (Crc.U (l.foldl Crc.fold 0#32)))/\w'=w:=by
 have HS:=zH hs
 have HN:=zH hn
 have HF:=zH (fun(a b:BitVec 32) (w:World)=>Crc.qA2 a b w)
 clear hs hn
 go_enter Tryz.func131,Tryz.ntmps131
 go_wp2
 go_loopw [2,7] (fun sv iv wr=>∃k:Nat,k<=n/\iv= .int .i64 k/\sv= .int .u32 (Crc.U ((l.take k).foldl Crc.fold 0#32))/\wr=w) (fun _ iv _=>n-(intOf iv).toNat)
 case atStart=>exact⟨0,by omega,rfl,by rw[List.take_zero];show Value.int .u32 0= .int .u32 (Crc.U 0#32);unfold Crc.U;rfl,rfl⟩
 case round=>
  obtain⟨k,hk,rfl,rfl,rfl⟩:=hrel
  by_cases hlt:k<n
  ·have hkl:k<l.length:=by rw[HN.out];exact hlt
   obtain⟨x,hx⟩:=zB (l[k])
   obtain⟨g,off,rfl,e0⟩:=HS.out k (zAx x) (by rw[List.getElem?_map,List.getElem?_eq_getElem hkl,hx];rfl)
   have HT:=zH (show(l.take (k+1)).foldl Crc.fold 0#32=Crc.fold ((l.take k).foldl Crc.fold 0#32) x by rw[List.take_succ_eq_append_getElem hkl,hx,List.foldl_append];rfl)
   obtain⟨s,hs⟩:=zB ((l.take k).foldl Crc.fold 0#32)
   rw[hs]at HT⊢
   unfold zAx at e0
   clear hx hs
   go_wp2_with fail
   (with_reducible refine(HF.out s x _).mono ?_)
   rintro e w1 ⟨rfl,rfl⟩
   go_wp2
   go_roundw
   case rel=>exact⟨k+1,by omega,by go_num,by rw[HT.out],trivial⟩
   case measure=>simp only[intOf];omega
  ·obtain rfl:k=n:=by omega
   go_wp2
   go_ret
   exact⟨by rw[List.take_of_length_le (by rw[HN.out];exact Nat.le_refl _)];rfl,rfl⟩
abbrev TSr:TypeId:=316
def SR (w:World) (K:Nat) (a:ByteArray) (i:Nat) (p:Option Addr) (n c:Nat):Prop:=w.heap[K]? =some (.cells #[.string a,.int .i64 (i:Int),.slice p n c] TSr (0,0))
section
variable {w w':World} {K i n c:Nat} {a:ByteArray} {p:Option Addr}
theorem SR.lt (h:SR w K a i p n c):K<w.heap.size:=zAd h
theorem SR.keep (h:SR w K a i p n c) (e:w'.heap[K]? =w.heap[K]?):SR w' K a i p n c:=e.trans h
theorem SR.below (h:SR w K a i p n c) (hb:Below w.heap.size w w'):SR w' K a i p n c:=h.keep (hb.block K h.lt)
theorem SR.c0 (h:SR w K a i p n c):w.cell? ⟨K,0,none⟩=some (.string a):=by unfold SR at h;simp[World.cell?,h]
theorem SR.c1 (h:SR w K a i p n c):w.cell? ⟨K,1,none⟩=some (.int .i64 (i:Int)):=by unfold SR at h;simp[World.cell?,h]
theorem SR.c2 (h:SR w K a i p n c):w.cell? ⟨K,2,none⟩=some (.slice p n c):=by unfold SR at h;simp[World.cell?,h]
theorem SR.fr (h:SR w K a i p n c) (j:Nat):w.frozen? ⟨K,j,none⟩=false:=by unfold SR at h;simp[World.frozen?,h]
theorem SR.s1 (h:SR w K a i p n c) (j:Nat) {V:Int} (hV:V=(j:Int)):SR (w.setCell ⟨K,1,none⟩ (.int .i64 V)) K a j p n c:=by
 subst hV;unfold SR at*;simp[World.setCell,Array.getElem?_modify,h]
theorem SR.s2 (h:SR w K a i p n c) (q:Option Addr) (m d:Nat):SR (w.setCell ⟨K,2,none⟩ (.slice q m d)) K a i q m d:=by
 unfold SR at*;simp[World.setCell,Array.getElem?_modify,h]
end
theorem qCr {w w':World} {K:Nat} {p:Option Addr} {xs:List Value} (h:Kit.Src w p xs) (hu:Upd w w' K) (hne:∀q,p=some q->q.block≠K):Kit.Src w' p xs:=by
 intro j u hj
 obtain⟨b,off,ha,hc⟩:=h j u hj
 exact⟨b,off,ha,(zQ2 (hu.old b (block_lt_of_cell hc) (hne _ ha))).trans hc⟩
theorem zFr (K i n c r:Nat) (a:ByteArray) (p:Option Addr) (ps:List T) (w:World) (h:SR w K a i p n c) (hs:a.size<=100000000) (hn:ps.length=n) (hn2:n<=100000) (hsrc:Kit.Src w p ((ps.map Crc.sum).map zAx)) (hne:∀q,p=some q->q.block≠K) (ha:At a i (zF ps)) (hr:(8-(i+80)%8)%8=r) (hr2:i+80+r=8*a.size) (hz:val (take a (i+80) r)=0):
  Calls Tryz.prog 246 #[.pointer (some ⟨K,0,none⟩)] w fun e w'=>e= .returned (.int .i64 0)/\SR w' K a (8*a.size) p n c/\Upd w w' K:=by
 have ha2:=Bk.At.right ha (j:=i+48) (by rw[zAc])
 have hb2:=Bk.At.bound ha2
 rw[zAc]at hb2
 have HG1:=zH (fun W=>(zB7 a (i+48) 32 (by omega) (by omega) (by omega) W).mono (fun _ _ h=>(⟨h.1,h.2.symm⟩:_/\_)))
 rw[At.val ha2 (by exact(zVr ps).isLt)]at HG1
 have HG2:=zH (fun W=>(zB7 a (i+80) r (by omega) (by omega) (by omega) W).mono (fun _ _ h=>(⟨h.1,h.2.symm⟩:_/\_)))
 rw[hz,show((0:Nat):Int)=0 from rfl]at HG2
 obtain⟨S,hS⟩:=zB (zVr ps)
 rw[hS]at HG1
 have hSl:=S.isLt
 obtain⟨q,hq,hq8⟩:∃q:Nat,(i+80)%8=q/\q<8:=⟨_,rfl,by omega⟩
 rw[hq]at hr
 have t1:((i:Int)+80).tmod 8=(q:Int):=by rw[Int.tmod_eq_emod_of_nonneg (by omega)];omega
 have t2:(8-(q:Int)).tmod 8=(r:Int):=by rw[Int.tmod_eq_emod_of_nonneg (by omega)];omega
 have i0:IntKind.i64.wrap ((i:Int)+48)=(i:Int)+48:=IntWalk.i64_in _ ⟨by omega,by omega⟩
 have i1:IntKind.i64.wrap ((i:Int)+80)=(i:Int)+80:=IntWalk.i64_in _ ⟨by omega,by omega⟩
 have i2:IntKind.i64.wrap (8-(q:Int))=8-(q:Int):=IntWalk.i64_in _ ⟨by omega,by omega⟩
 have i3:IntKind.i64.wrap ((i:Int)+80+(r:Int))=(i:Int)+80+(r:Int):=IntWalk.i64_in _ ⟨by omega,by omega⟩
 have i4:IntKind.u32.wrap (S.toNat:Int)=Crc.U S:=by rw[IntWalk.u32_in _ ⟨by omega,by omega⟩];unfold Crc.U;rfl
 have HALL:=zH (fun(W:World) (hb:Upd w W K)=>show Calls Tryz.prog 131 #[.slice p n c] W fun e w'=>e= .returned (.int .u32 (Crc.U S))/\w'=W from by
  have h:=zUb p n c (ps.map Crc.sum) W (by rw[List.length_map,hn]) hn2 (qCr hsrc hb hne)
  rw[show(ps.map Crc.sum).foldl Crc.fold 0#32=S from hS]at h
  exact h)
 have x0:=h.c0
 have x1:=h.c1
 have x2:=h.c2
 have f1:=h.fr 1
 have H:=zH h
 have HR:=zH (And.intro hr (And.intro hr2 hq))
 clear h ha ha2 hb2 hr hr2 hz hq hS hsrc hn
 go_enter Tryz.func246,Tryz.ntmps246
 go_wp2
 go_quiet ((go_at_call 32;exact Calls.quiet_of_same (HG1.out _)))
 go_wp2
 obtain⟨w2,hw2⟩:=zB ((w.drewN nq).setCell ⟨K,1,none⟩ (.int .i64 ((i:Int)+80)))
 have H2:=zH (show SR w2 K a (i+80) p n c by rw[<-hw2];exact SR.s1 (show SR (w.drewN nq) K a i p n c from H.out) (i+80) (by omega))
 have U2:=zH (show Upd w w2 K by rw[<-hw2];exact(show Upd w (w.drewN nq) K from⟨fun _ _ _=>rfl,⟨rfl,rfl,rfl,Nat.le_refl _,fun _ _=>rfl⟩⟩).trans Upd.set)
 have y0:=H2.out.c0
 have y1:=H2.out.c1
 have y2:=H2.out.c2
 have g1:=H2.out.fr 1
 rw[hw2]
 rw[show((i+80:Nat):Int)=(i:Int)+80 by omega]at y1 HG2
 clear x0 x1 x2 f1 hw2 H
 go_quiet ((go_at_call 32;exact Calls.quiet_of_same (HG2.out _)))
 go_wp2_with fail
 obtain⟨w4,hw4⟩:=zB ((w2.drewN nq).setCell ⟨K,1,none⟩ (.int .i64 ((i:Int)+80+(r:Int))))
 have H4:=zH (show SR w4 K a (8*a.size) p n c by rw[<-hw4];exact SR.s1 (show SR (w2.drewN nq) K a (i+80) p n c from H2.out) (8*a.size) (by have:=HR.out.2.1;omega))
 have U4:=zH (show Upd w w4 K by rw[<-hw4];exact U2.out.trans ((show Upd w2 (w2.drewN nq) K from⟨fun _ _ _=>rfl,⟨rfl,rfl,rfl,Nat.le_refl _,fun _ _=>rfl⟩⟩).trans Upd.set))
 rw[hw4]
 clear hw4 y0 y1 y2 g1 H2 U2
 (with_reducible refine(HALL.out _ U4.out).mono ?_)
 rintro e w5 ⟨rfl,rfl⟩
 go_wp2
 go_ret
 exact⟨rfl,H4.out,U4.out⟩
end Sm
namespace Sm
open Go.RowKit Hf Bt Zr Ix Front Wg Ch Sl Sq Us St Tn Bk
variable {a:ByteArray} {lev:Nat}
def Hd (a:ByteArray) (lev:Nat):Prop:=∀k,k<4->a.data.toList[k]? =some (([80,77,107,UInt8.ofNat (48+lev)]:T).getD k 0)
theorem extract_all (a:ByteArray):a.extract 0 a.size=a:=by
 apply ByteArray.ext
 simp
theorem Hd.size (h:Hd a lev):4<=a.size:=by
 have h3:=h 3 (by omega)
 rcases Nat.lt_or_ge 3 a.data.toList.length with h4|h4
 ·have:a.data.toList.length=a.size:=by simp
  omega
 ·rw[List.getElem?_eq_none h4]at h3;cases h3
theorem Hd.digit (h:Hd a lev) (hl:lev<10) (h3:3<a.size):(a[3].toNat:Int)=48+(lev:Int):=by
 have h1:=h 3 (by omega)
 have h2:a.data.toList[3]? =some a[3]:=by
  rw[List.getElem?_eq_getElem (by simpa using h3)];rfl
 rw[h2]at h1
 have h4:=Option.some.inj h1
 rw[h4]
 show((UInt8.ofNat (48+lev)).toNat:Int)=_
 rw[ofNat_toNat (by omega)]
 omega
theorem Hd.pre (h:Hd a lev):Lib.hasPrefix a.data.toList [80,77,107]=true:=by
 have h0:=h 0 (by omega)
 have h1:=h 1 (by omega)
 have h2:=h 2 (by omega)
 match hl:a.data.toList with
 |[]=>rw[hl]at h0;cases h0
 |[x]=>rw[hl]at h1;cases h1
 |[x,y]=>rw[hl]at h2;cases h2
 |x::y::z::l=>
  rw[hl]at h0 h1 h2
  have e0:x=80:=Option.some.inj h0
  have e1:y=77:=Option.some.inj h1
  have e2:z=107:=Option.some.inj h2
  subst e0 e1 e2
  simp[Lib.hasPrefix]
theorem zZm (a:ByteArray) (lev:Nat) (hs:a.size<=100000000) (h1:1<=lev) (h9:lev<=9) (h:Hd a lev) (w:World):
  Calls Tryz.prog 245 #[.string a,.int .i64 0] w fun e w'=>e= .returned (.tuple #[.int .i64 ((40*lev:Nat):Int),.int .i64 0])/\w'=w:=by
 have h4:=h.size
 have hd:=h.digit (by omega) (by omega)
 have hx:=extract_all a
 obtain⟨d,hdd⟩:∃d:UInt8,a[3]=d:=⟨_,rfl⟩
 rw[hdd]at hd
 have HP:=zH (show Calls Tryz.prog 283 #[.string a,.string ⟨#[80,77,107]⟩] w fun e w'=>e= .returned (.bool true)/\w'=w from by
  have hh:=Tryz.strings_HasPrefix a ⟨#[80,77,107]⟩ w
  rw[show(⟨#[80,77,107]⟩:ByteArray).data.toList=[80,77,107]from rfl,h.pre]at hh
  exact hh)
 clear h
 go_enter Tryz.func245,Tryz.ntmps245
 go_wp2_with fail
 (with_reducible refine HP.out.mono ?_)
 rintro e w1 ⟨rfl,rfl⟩
 have j1:¬(d.toNat:Int)<49:=by omega
 have j2:¬(57:Int)<(d.toNat:Int):=by omega
 go_wp2
 go_ret2
 refine⟨?_,rfl⟩
 rw[show((40*lev:Nat):Int)=40*(48+(lev:Int)-48)by omega]
 rfl
end Sm
namespace Bk
open Go.RowKit Hf Bt Zr Ix Front Wg Ch Sl Sq Us St Tn
def tabs (ch t0 t1:List Nat) (k:Nat):List Nat:=if ch.getD k 0=1 then t1 else t0
theorem zT9 {a:ByteArray} {i q:Nat} {T:Nat->List Nat} {m:List Nat} (h:At a i (zA0 T m 0 m.length)) (hq:q<m.length):
  At a (i+(zA0 T m 0 q).length) (word (T (q/10)) (m.getD q 0))/\zA0 T m 0 (q+1)=zA0 T m 0 q++word (T (q/10)) (m.getD q 0):=by
 obtain⟨r,hr⟩:∃r,m.length=q+(r+1):=⟨m.length-q-1,by omega⟩
 rw[hr,body_add,Nat.zero_add,zJa]at h
 refine⟨At.left (At.right h rfl),?_⟩
 rw[body_add,Nat.zero_add,show(1:Nat)=0+1 from rfl,zJa]
 simp[zA0]
theorem zSg (R D KG N i tc cc M:Nat) (tp cq:Option Addr) (vs:List Value) (a:ByteArray) (ch t0 t1 m:List Nat) (w:World) (h:RD w R ⟨a,i,tp,2,tc,cq,KG,cc,N⟩) (hG:Gr w D tp 2 tc vs [t0,t1]) (hO:Kit.Own w D 3 cq KG cc (ch.map ival)) (hR:R<D) (hD:D<=w.heap.size) (hs:a.size<=100000000) (hch:∀x∈ch,x<=1)
  (hr0:Right t0) (hr1:Right t1) (hl0:t0.length=N) (hl1:t1.length=N) (hM:m.length=M) (hKG:(M+9)/10=KG) (hM0:0<M) (hM2:M<=100000) (hN:0<N) (hN2:N<=258) (hm:∀q,q<M->m.getD q 0<N/\(m.getD q 0+1=N↔q+1=M)) (ha:At a i (zA0 (tabs ch t0 t1) m 0 m.length)):
  Calls Tryz.prog 318 #[.pointer (some ⟨R,0,none⟩)] w fun e w'=>∃mp mc,e= .returned (.slice mp M mc)/\RD w' R ⟨a,i+(zA0 (tabs ch t0 t1) m 0 m.length).length,tp,2,tc,cq,KG,cc,N⟩/\
   Kit.Own w' w.heap.size 3 mp M mc (m.map ival)/\Upd w w' R:=by
 obtain⟨E,hE⟩:=zB w.heap.size
 have hRE:R<E:=by rw[<-hE];exact h.lt
 obtain⟨cg,rfl,_,_,hcc,_,_⟩:=hO.at_ (by omega)
 obtain⟨tg,rfl,_,_,htc,_,_⟩:=hG.own.at_ (by omega)
 have hcl:ch.length=KG:=by have:=hO.len;rwa[List.length_map]at this
 have HAT:=zH (fun(q:Nat) (hq:q<m.length)=>zT9 ha hq)
 have HM:=zH hM
 have HMM:=zH hm
 have HKG:=zH hKG
 have HCL:=zH hcl
 have HCH:=zH hch
 have R0:=zH hr0
 have R1:=zH hr1
 have L0:=zH hl0
 have L1:=zH hl1
 have HE:=zH hE
 have K0:=zH h
 have G0:=zH hG
 have O0:=zH hO
 have HD:=zH hD
 have x3:=h.c3
 have l3:=h.l3
 simp only at x3 l3
 have hK2:KG<=10000:=by omega
 have hK0:0<KG:=by omega
 have HMU:=zH (fun(e:Int) (w:World)=>zJv e w)
 rw[hE]
 clear h hG hO ha hM hm hKG hcl hch hr0 hr1 hl0 hl1 hE hD
 go_enter Tryz.func318,Tryz.ntmps318
 go_wp2
 clear x3 l3
 go_loopw [2,13] (fun ov iv wr=>∃(k mc:Nat) (mp:Option Addr),k<KG/\iv= .int .i64 k/\ov= .slice mp (10*k) mc/\RowKit.Hid (RD wr R ⟨a,i+(zA0 (tabs ch t0 t1) m 0 (10*k)).length,some ⟨tg,0,none⟩,2,tc,some ⟨cg,0,none⟩,KG,cc,N⟩)/\RowKit.Hid (Kit.Own wr E 3 mp (10*k) mc ((m.take (10*k)).map ival))/\RowKit.Hid (Upd w wr R)) (fun _ iv _=>KG-(intOf iv).toNat)
 case atStart=>exact⟨0,0,none,hK0,rfl,rfl,K0,zH (Kit.Own.start _ _ _),zH (Upd.refl _ _)⟩
 case round=>
  obtain⟨k,mc,mp,hk,rfl,rfl,hrd,hown,hupd⟩:=hrel
  have ho:=zEl O0.out hupd.out hR
  obtain⟨g',hg',_,_,_,hcell,_⟩:=ho.at_ (by omega)
  obtain rfl:cg=g':=by injection hg' with hg';injection hg'
  have hkc:k<ch.length:=by rw[HCL.out];exact hk
  obtain⟨x,hx⟩:=zB (ch[k])
  have hx1:x<=1:=by rw[<-hx];exact HCH.out _ (List.getElem_mem hkc)
  have x0:wr.cell? ⟨cg,k,none⟩=some (.int .i64 (x:Int)):=by rw[hcell k hk,List.getElem?_map,List.getElem?_eq_getElem hkc,hx];rfl
  obtain⟨tk,htk,hrt,hlk,htg⟩:∃tk,tabs ch t0 t1 k=tk/\Right tk/\tk.length=N/\[t0,t1][x]? =some tk:=by
   unfold tabs
   rw[List.getD_eq_getElem?_getD,List.getElem?_eq_getElem hkc,Option.getD_some,hx]
   obtain rfl|rfl:x=0\/x=1:=by omega
   ·exact⟨t0,rfl,R0.out,L0.out,rfl⟩
   ·exact⟨t1,rfl,R1.out,L1.out,rfl⟩
  have HTK:=zH htk
  have HRT:=zH (And.intro hrt hlk)
  have HTG:=zH htg
  have h10:10*k<M:=by have:=HKG.out;omega
  clear ho hcell hx htk hrt hlk htg hkc
  go_wp2
  clear x0
  go_loopw [2,18] (fun ov iv wr=>∃(j mc:Nat) (mp:Option Addr),j<=10/\10*k+j<M/\iv= .int .i64 j/\ov= .slice mp (10*k+j) mc/\RowKit.Hid (RD wr R ⟨a,i+(zA0 (tabs ch t0 t1) m 0 (10*k+j)).length,some ⟨tg,0,none⟩,2,tc,some ⟨cg,0,none⟩,KG,cc,N⟩)/\RowKit.Hid (Kit.Own wr E 3 mp (10*k+j) mc ((m.take (10*k+j)).map ival))/\RowKit.Hid (Upd w wr R)) (fun _ iv _=>10-(intOf iv).toNat)
  case atStart=>exact⟨0,mc,mp,by omega,by omega,rfl,rfl,hrd,hown,hupd⟩
  case round=>
   clear hrd hown hupd
   obtain⟨j,mc,mp,hj,hjM,rfl,rfl,hrd,hown,hupd⟩:=hrel
   by_cases hlt:j<10
   ·obtain⟨q,hq⟩:=zB (10*k+j)
    rw[hq]at hrd hown hjM
    have hqd:q/10=k:=by omega
    have hqm:q<m.length:=by rw[HM.out];exact hjM
    obtain⟨at1,at2⟩:=HAT.out q hqm
    rw[hqd,HTK.out]at at1 at2
    obtain⟨s,hse⟩:=zB (m.getD q 0)
    obtain⟨hs1,hs2⟩:=HMM.out q hjM
    rw[hse]at at1 at2 hs1 hs2
    have htake:m.take (q+1)=m.take q++[s]:=by
     rw[List.take_succ_eq_append_getElem hqm,<-hse,List.getD_eq_getElem?_getD,List.getElem?_eq_getElem hqm];rfl
    obtain⟨p,hp⟩:=zB (i+(zA0 (tabs ch t0 t1) m 0 q).length)
    have HB2:=zH (show i+(zA0 (tabs ch t0 t1) m 0 (q+1)).length=p+tk.getD s 0 by rw[at2,List.length_append,zCu,<-hp];omega)
    have HTA:=zH htake
    rw[hp]at hrd at1
    have hG1:=zXz G0.out hupd.out hR
    obtain⟨G,gc,hv,hgc,hGo⟩:=hG1.each x tk HTG.out
    obtain⟨g',hg',_,_,_,hcell,_⟩:=hG1.own.at_ (by omega)
    obtain rfl:tg=g':=by injection hg' with hg';injection hg'
    have LT:=zH (show(loadVar 23 ⟨tg,x,none⟩).run Tryz.prog wr.drew= .ok (.slice (some ⟨G,0,none⟩) N gc) wr.drew from Kit.zAg (by show wr.cell? ⟨tg,x,none⟩=_;rw[hcell x (by omega),hv,HRT.out.2]) (by kernel_rfl) (by kernel_rfl))
    have hGl:G<wr.drew.heap.size:=by obtain⟨_,cs,f,hh⟩:=zXc hGo;exact zAd hh
    have HCT:=zH (zO2 tk (some ⟨G,0,none⟩) N gc a p s wr.drew HRT.out.2 (hGo.src.below (show Below wr.heap.size wr wr.drew from(Below.refl _ _).drew)) (fun p hp=>by injection hp with hp;rw[<-hp];exact hGl) HRT.out.1 hs1 hs at1)
    have RDD:=zH (show RD wr.drew R ⟨a,p,some ⟨tg,0,none⟩,2,tc,some ⟨cg,0,none⟩,KG,cc,N⟩from hrd.out)
    have UD:=zH (hupd.out.trans (Upd.drew wr R))
    have OD:=zH (hown.out.below (show Below wr.heap.size wr wr.drew from(Below.refl _ _).drew) (Nat.le_refl _))
    have HS2:=zH hs2
    have HQ:=zH hq
    clear hrd hown hupd at1 at2 htake hse hp hG1 hv hgc hGo hcell hGl hs2 hq
    go_wp2
    refine zS [] (fun _=>True) [0,1,2,4,0,24,32,0,128,256,512,1024,0,4096,8192,16384,32768,67648,131072,262144,262144,262144,1048575,6291455,16777215] 25<|zp [0,1,2,3,4,5,6,7,8,9,10,11,12,13,14,15,16]<|zk 21 (zP R 0)<|zk 22 (zP R 0)<|zk 23 (zP R 2)<|zt 24 (.slice (some ⟨tg,0,none⟩) 2 tc) (zl 60 23 (RDD.out.l2))<|zk 25 (zI x)<|zt 26 (zP tg x) (Kit.zBo (t:=60) (x:=(.tmp 24)) (y:=(.tmp 25)) (g:=tg) (n:=2) (c:=tc) (k:=x) rfl (by kernel_rfl) (by kernel_rfl) (by omega) Tryz.underlying60 (fun _=>Tryz.sizeOf23 _) _)<|zt 27 (.slice (some ⟨G,0,none⟩) N gc) (zl 23 26 (LT.out))<|zk 28 (zP R 0)<|zk 29 (zP R 0)<|zk 30 (zP R 0)<|zk 31 (zP R 0)<|zt 32 (.string a) (zl 9 31 (RDD.out.l0))<|zk 33 (zP R 0)<|zk 34 (zP R 0)<|zk 35 (zP R 0)<|zk 36 (zP R 1)<|zt 37 (zI p) (zl 3 36 (RDD.out.l1))<|zn<|zx 17 38 36 #[.slice (some ⟨G,0,none⟩) N gc,.string a,.int .i64 ((p:Nat):Int)] HCT.out<| ?_
    rintro e w8 ⟨rfl,hb8⟩
    refine⟨_,rfl,.inr (.inr trivial),?_⟩
    refine zp [18,19,20,21,22,23,24]<|zk 20 (.tuple #[.int .i64 (s:Int),.int .i64 ((p+tk.getD s 0:Nat):Int),.int .i64 0])<|zk 39 (zI s)<|zk 40 (.int .i64 ((p+tk.getD s 0:Nat):Int))<|zk 41 (.int .i64 0)<|zk 5 (zI s)<|zk 6 (.int .i64 ((p+tk.getD s 0:Nat):Int))<|zk 7 (.int .i64 0)<|zn<|zE<| ?_
    simp only[zP,zI,Act.put,List.setIfInBounds_toArray,List.set_cons_zero,List.set_cons_succ]
    rw[HQ.out]
    have hRr:=RDD.out.lt
    have K8:=zH (RDD.out.below hb8)
    have U8:=zH (UD.out.trans (Upd.of_below hb8 (Nat.le_of_lt hRr)))
    have O8:=zH (OD.out.below hb8 (Nat.le_refl _))
    clear hb8 HCT RDD UD OD hRr LT
    obtain⟨p2,hp2⟩:=zB (p+tk.getD s 0)
    rw[hp2]at HB2
    rw[hp2]
    clear hp2
    have HCM:=zH (zIc R p2 _ w8 K8.out)
    go_wp2_with fail
    (with_reducible refine HCM.out.mono ?_)
    rintro e w9 ⟨rfl,hk9,hu⟩
    have K9:=zH (show RD w9 R ⟨a,p2,some ⟨tg,0,none⟩,2,tc,some ⟨cg,0,none⟩,KG,cc,N⟩from hk9)
    have U9:=zH (U8.out.trans hu)
    have ho9:=zEl O8.out hu hRE
    clear hk9 hu HCM K8 U8 O8
    have hEw:E<=w9.heap.size:=by have:=U9.out.size;rw[HE.out]at this;exact this
    obtain⟨mp3,mc3,w10,hr10,ho10,hbb⟩:=zMb ho9 s (by omega) hEw
    have K10:=K9.out.keep (hbb.block R (by omega))
    have U10:=zH (Upd.bel U9.out hbb HE.out hRE)
    have O10:=zH (show Kit.Own w10 E 3 mp3 (q+1) mc3 ((m.take (q+1)).map ival)by rw[HTA.out];exact ho10)
    have x3:=K10.c3
    have x4:=K10.c4
    have l3:=K10.l3
    have l4:=K10.l4
    simp only at x3 x4 l3 l4
    have KK:=zH K10
    have hw1:IntKind.i64.wrap ((N:Int)-1)=(N:Int)-1:=IntWalk.i64_in _ ⟨by omega,by omega⟩
    have hw2:IntKind.i64.wrap ((KG:Int)-1)=(KG:Int)-1:=IntWalk.i64_in _ ⟨by omega,by omega⟩
    clear K9 U9 ho9 ho10 hbb K10 hEw
    by_cases hend:s+1=N
    ·have hq1:q+1=M:=HS2.out.1 hend
     have hkk:((k:Int)==(KG:Int)-1)=true:=by have:=HKG.out;have:=HQ.out;simp;omega
     have hss:((s:Int)==(N:Int)-1)=true:=by simp;omega
     go_wp2_with (at_builtin;refine Kit.zAr rfl (.tmp 48) (.tmp 50) 23 rfl rfl rfl hr10 ?_)
     (with_reducible refine(HMU.out _ _).mono ?_)
     rintro e w11 ⟨rfl,rfl⟩
     go_wp2
     go_ret
     refine⟨mp3,mc3,rfl,?_,?_,U10.out⟩
     ·have:=HB2.out
      rw[hq1,<-HM.out]at this
      rw[this]
      exact KK.out
     ·have:=O10.out
      rw[hq1,<-HM.out,List.take_length]at this
      rw[<-HM.out]
      exact this
    ·have hss:((s:Int)==(N:Int)-1)=false:=by simp;omega
     have hq1:q+1<M:=by
      have:=HS2.out.2
      rcases Nat.lt_or_ge (q+1) M with h|h
      ·exact h
      ·exact absurd (this (by omega)) hend
     go_wp2_with (at_builtin;refine Kit.zAr rfl (.tmp 48) (.tmp 50) 23 rfl rfl rfl hr10 ?_)
     go_roundw
     case rel=>exact⟨j+1,mc3,mp3,by omega,by have:=HQ.out;omega,by go_num,by rw[<-HQ.out];rfl,by rw[<-Nat.add_assoc,HQ.out,HB2.out];exact KK,by rw[<-Nat.add_assoc,HQ.out];exact O10,U10⟩
     case measure=>simp only[intOf];omega
   ·obtain rfl:j=10:=by omega
    have hk1:k+1<KG:=by have:=HKG.out;omega
    rw[show((10:Nat):Int)=(10:Int)from rfl]
    go_wp2
    go_roundw
    case rel=>exact⟨k+1,mc,mp,by omega,by go_num,rfl,hrd,hown,hupd⟩
    case measure=>simp only[intOf];omega
end Bk
namespace Rle
open Go.RowKit
variable {w w':World} {B b:Nat} {v:Value}
abbrev TB:TypeId:=120
abbrev TY:TypeId:=5
theorem qBz:(Tryz.prog.info? TB).map (·.size)=some 2:=by kernel_rfl
theorem qHg:liesAt Tryz.prog Tryz.prog.depth TB (2/Tryz.prog.cellsOf TB) 0 TB 1=true:=by kernel_rfl
theorem qB7:(Tryz.prog.info? TY).map (fun i=>(i.zero,i.size,i.bytes))=some (some (.int .u8 0),1,1):=by kernel_rfl
theorem zVi (b:Nat) (w:World) (h0:w.cell? ⟨b,0,none⟩=some (.pointer (some ⟨b,0,none⟩))):
  Calls Tryz.prog 140 #[.pointer (some ⟨b,0,none⟩)] w fun e w'=>e= .returned (.tuple #[])/\w'=w:=by
 obtain⟨j,hj,_⟩:=Option.map_eq_some_iff.1 qBz
 go_enter Tryz.func140,Tryz.ntmps140
 go_wp2
 rw[Lib.run_neq_ptr_same w _ Tryz.underlying118 hj]
 go_wp2
 go_end0
 exact⟨rfl,rfl⟩
theorem zS6 (b:Nat) (w:World) (h0:w.cell? ⟨b,0,none⟩=some (.pointer none)) (hsh:w.shape? b=some (TB,2)) (hfz:w.frozen? ⟨b,0,none⟩=false):
  Calls Tryz.prog 140 #[.pointer (some ⟨b,0,none⟩)] w fun e w'=>e= .returned (.tuple #[])/\w'=w.setCell ⟨b,0,none⟩ (.pointer (some ⟨b,0,none⟩)):=by
 obtain⟨j,hj,hjs⟩:=Option.map_eq_some_iff.1 qBz
 go_enter Tryz.func140,Tryz.ntmps140
 go_wp2
 rw[Lib.run_to_unsafe w ⟨b,0,none⟩ Tryz.underlying118 Tryz.underlying318 hj (by rw[hjs];decide) hsh (Nat.zero_lt_succ 1)]
 simp only[Result.andThen]
 rw[Oper.upon_value]
 go_wp2
 rw[run_callFunc_extern Tryz.func190 (by kernel_rfl) (by kernel_rfl) (by kernel_rfl) (e:=Extern.AbiNoEscape.same) (by kernel_rfl)]
 rw[Lib.run_noEscape]
 simp only[Result.andThen]
 rw[Oper.upon_value]
 go_wp2
 rw[Lib.run_from_unsafe w ⟨b,0,none⟩ Tryz.underlying318 Tryz.underlying118 hj hsh qHg]
 simp only[Result.andThen]
 rw[Oper.upon_value]
 go_wp2
 go_end0
 exact⟨rfl,rfl⟩
theorem zCk (B b:Nat) (bs:List Value) (w:World) (h:Lib.IsBuilder TB TY B b bs w):
  Calls Tryz.prog 140 #[.pointer (some ⟨b,0,none⟩)] w fun e w'=>e= .returned (.tuple #[])/\Lib.BuilderAt TB TY B b (.pointer (some ⟨b,0,none⟩)) bs w'/\Below B w w'/\Lib.OthersKept TY (some b) w w'/\w.heap.size<=w'.heap.size:=by
 rcases h with h|h
 ·refine(zS6 b w h.cell0 h.shape h.frozen0).mono ?_
  rintro e w' ⟨rfl,rfl⟩
  exact⟨rfl,h.used _,(Below.refl B w).setCell (p:=⟨b,0,none⟩) h.1 _,(Lib.OthersKept.refl _ _ w).setCell ⟨b,0,none⟩ rfl _,by simp[World.setCell]⟩
 ·refine(zVi b w h.cell0).mono ?_
  rintro e w' ⟨rfl,rfl⟩
  exact⟨rfl,h,Below.refl B _,Lib.OthersKept.refl _ _ _,Nat.le_refl _⟩
theorem zIw {e:TypeId} {n:Nat} {xs:List Value} (h:w.ownsRow B e 1 v n xs):∀g,v.ownBlock=some g->∃c fz,w.heap[g]? =some (.cells c e fz):=by
 intro g hg
 rcases h.2 with⟨rfl,_⟩|⟨g',cap,cur,rfl,_,hgg,_⟩
 ·simp[Value.ownBlock]at hg
 ·simp[Value.ownBlock]at hg
  subst hg
  exact⟨cur,_,hgg⟩
theorem zAd {o:Obj} (h:w.heap[b]? =some o):b<w.heap.size:=(Array.getElem?_eq_some_iff.1 h).1
def Bld (w:World) (B b:Nat) (l:T):Prop:=Lib.IsBuilder TB TY B b (Lib.byteCells l) w
theorem byteCells_append (l m:T):Lib.byteCells (l++m)=Lib.byteCells l++Lib.byteCells m:=by unfold Lib.byteCells;simp
theorem byteCells_length (l:T):(Lib.byteCells l).length=l.length:=by unfold Lib.byteCells;simp
theorem byteCells_one (c:UInt8):Lib.byteCells [c]=[.int .u8 (c.toNat:Int)]:=by unfold Lib.byteCells;rfl
theorem zPk (s:ByteArray):Lib.strCells s=Lib.byteCells s.data.toList:=by unfold Lib.strCells Lib.byteCells;simp
theorem zE7 (B b:Nat) (l:T) (c:UInt8) (w:World) (h:Bld w B b l) (hlen:l.length+1<=1000000000) (hBw:B<=w.heap.size):
  Calls Tryz.prog 74 #[.pointer (some ⟨b,0,none⟩),.int .u8 (c.toNat:Int)] w fun e w'=>e= .returned .nilIface/\Bld w' B b (l++[c])/\Below B w w'/\Lib.OthersKept TY (some b) w w'/\w.heap.size<=w'.heap.size:=by
 obtain⟨i0,hi,hy0,hy1,hy2⟩:=info_parts qB7
 have hbl:=byteCells_length l
 unfold Bld at h
 obtain⟨bs,hbs⟩:=zB (Lib.byteCells l)
 rw[hbs]at h hbl
 have hlen2:bs.length+1<=1000000000:=by omega
 have HBL:=zH hbl
 have HBS:=zH hbs
 clear hbl hbs
 go_enter Tryz.func74,Tryz.ntmps74
 go_wp2_with (go_at_call 140;refine(zCk B b bs _ h).mono ?_)
 rintro e w1 ⟨rfl,h1,hb1,hk1,hz1⟩
 obtain⟨hB,v,hbk,hown,hne⟩:=h1
 have c0:w1.cell? ⟨b,0,none⟩=some (.pointer (some ⟨b,0,none⟩)):=by rw[Lib.cell_of_heap hbk];rfl
 have c1:w1.cell? ⟨b,1,none⟩=some v:=by rw[Lib.cell_of_heap hbk];rfl
 go_wp2_with (at_builtin;refine wpList_append_own _ rfl _ _ 109 rfl B TY i0 (.int .u8 0) 1 1 Tryz.underlying109 hi hy0 hy1 hy2 rfl (by decide) _ _ _ rfl (hown.alloc _) ⟨w1.heap.size,0,none⟩ 1 1 [.int .u8 (c.toNat:Int)] rfl rfl ?c1 ?c2 ?c3 ?c4 ?c5 ?_)
 case c1=>
  intro j u hj
  match j,hj with
  |0,hj=>simp at hj;subst hj;simp[Addr.add]
 case c2=>intro u hu;simp at hu;subst hu;rfl
 case c3=>unfold maxLen;omega
 case c4=>omega
 case c5=>have:=hb1.size;simp;omega
 intro v' w2 hown' hgrow _
 have hlt:b<w1.heap.size:=zAd hbk
 have hb2:w2.heap[b]? =some (.cells #[.pointer (some ⟨b,0,none⟩),v] TB (0,0)):=by
  rw[hgrow.block b (by simp;omega) (fun e=>hne e.symm),Lib.alloc_old w1 _ b hlt]
  exact hbk
 have d0:w2.cell? ⟨b,0,none⟩=some (.pointer (some ⟨b,0,none⟩)):=by rw[Lib.cell_of_heap hb2];rfl
 have d1:w2.cell? ⟨b,1,none⟩=some v:=by rw[Lib.cell_of_heap hb2];rfl
 have f1:w2.frozen? ⟨b,1,none⟩=false:=Lib.frozen_of_heap hb2 1
 obtain⟨g,cap,rfl⟩:∃g cap,v'= .slice (some ⟨g,0,none⟩) (bs.length+1) cap:=by
  rcases hown'.2 with⟨_,h0⟩|⟨g,cap,cur,hv,_⟩
  ·omega
  ·exact⟨g,cap,hv⟩
 go_wp2
 go_ret
 refine⟨rfl,.inr ?_,?_,((hk1.alloc _).grown hgrow (zIw (hown.alloc _))).setCell ⟨b,1,none⟩ rfl _,by have:=hgrow.size;simp at this;simp[World.setCell];omega⟩
 ·rw[byteCells_append,byteCells_one,HBS.out]
  exact Lib.BuilderAt.put (T:=TB) (e:=TY) hB hb2 (bs':=bs++[.int .u8 (c.toNat:Int)]) (by simpa using hown') (by decide)
 ·exact((hb1.alloc (by have:=hb1.size;omega) _).grown hgrow (by have:=hb1.size;simp;omega) (fun k hk=>(hown.lt k hk).1)).setCell (p:=⟨b,1,none⟩) hB _
theorem zB8 (B b:Nat) (l:T) (s:ByteArray) (w:World) (h:Bld w B b l) (hlen:l.length+s.size<=1000000000) (hBw:B<=w.heap.size):
  Calls Tryz.prog 62 #[.pointer (some ⟨b,0,none⟩),.string s] w fun e w'=>e= .returned (.tuple #[.int .i64 s.size,.nilIface])/\Bld w' B b (l++s.data.toList)/\Below B w w'/\Lib.OthersKept TY (some b) w w'/\w.heap.size<=w'.heap.size:=by
 obtain⟨i0,hi,hy0,hy1,hy2⟩:=info_parts qB7
 have hbl:=byteCells_length l
 unfold Bld at h
 obtain⟨bs,hbs⟩:=zB (Lib.byteCells l)
 rw[hbs]at h hbl
 have hlen2:bs.length+s.size<=1000000000:=by omega
 have HBL:=zH hbl
 have HBS:=zH hbs
 clear hbl hbs
 go_enter Tryz.func62,Tryz.ntmps62
 go_wp2_with (go_at_call 140;refine(zCk B b bs _ h).mono ?_)
 rintro e w1 ⟨rfl,h1,hb1,hk1,hz1⟩
 obtain⟨hB,v,hbk,hown,hne⟩:=h1
 have c0:w1.cell? ⟨b,0,none⟩=some (.pointer (some ⟨b,0,none⟩)):=by rw[Lib.cell_of_heap hbk];rfl
 have c1:w1.cell? ⟨b,1,none⟩=some v:=by rw[Lib.cell_of_heap hbk];rfl
 go_wp2_with (at_builtin;refine Lib.wpList_append_own_string _ rfl _ _ 109 9 rfl B TY i0 Tryz.underlying109 Tryz.underlying9 hi hy0 hy1 hy2 _ _ _ rfl hown s rfl ?c3 ?c4 ?c5 ?_)
 case c3=>unfold maxLen;omega
 case c4=>omega
 case c5=>have:=hb1.size;omega
 intro v' w2 hown' hgrow _
 have hlt:b<w1.heap.size:=zAd hbk
 have hb2:w2.heap[b]? =some (.cells #[.pointer (some ⟨b,0,none⟩),v] TB (0,0)):=by
  rw[hgrow.block b hlt (fun e=>hne e.symm)]
  exact hbk
 have d0:w2.cell? ⟨b,0,none⟩=some (.pointer (some ⟨b,0,none⟩)):=by rw[Lib.cell_of_heap hb2];rfl
 have d1:w2.cell? ⟨b,1,none⟩=some v:=by rw[Lib.cell_of_heap hb2];rfl
 have f1:w2.frozen? ⟨b,1,none⟩=false:=Lib.frozen_of_heap hb2 1
 obtain⟨ao,n',cap,rfl⟩:∃ao n' cap,v'= .slice ao n' cap:=by
  rcases hown'.2 with⟨hv,_⟩|⟨g,cap,cur,hv,_⟩
  ·exact⟨_,_,_,hv⟩
  ·exact⟨_,_,_,hv⟩
 go_wp2
 go_ret2
 refine⟨rfl,.inr ?_,?_,(hk1.grown hgrow (zIw hown)).setCell ⟨b,1,none⟩ rfl _,by have:=hgrow.size;simp[World.setCell];omega⟩
 ·rw[byteCells_append,<-zPk,HBS.out]
  exact Lib.BuilderAt.put (T:=TB) (e:=TY) hB hb2 (bs':=bs++Lib.strCells s) (by simpa [Lib.strCells_length]using hown') (by decide)
 ·exact(hb1.grown hgrow (by have:=hb1.size;omega) (fun k hk=>(hown.lt k hk).1)).setCell (p:=⟨b,1,none⟩) hB _
theorem zTw (B b:Nat) (l:T) (w:World) (h:Bld w B b l):
  Calls Tryz.prog 115 #[.pointer (some ⟨b,0,none⟩)] w fun e w'=>e= .returned (.int .i64 (l.length:Int))/\w'=w:=by
 have:=Tryz.Builder_Len B b _ w h
 rw[byteCells_length]at this
 exact this
theorem zD0 (B b:Nat) (l:T) (w:World) (h:Bld w B b l) (hBw:B<=w.heap.size):
  Calls Tryz.prog 63 #[.pointer (some ⟨b,0,none⟩)] w fun e w'=>e= .returned (.string ⟨l.toArray⟩)/\Below B w w'/\Lib.OthersKept TY (some b) w w':=by
 refine(Tryz.Builder_String_any_k B b l w (Lib.IsBuilderF.of h) hBw).mono ?_
 rintro e w' ⟨h1,_,h2,h3⟩
 exact⟨h1,h2,h3⟩
theorem Bld.new (w:World):Bld (w.alloc (.cells #[.pointer none,.slice none 0 0] TB)) w.heap.size w.heap.size []:=
 .inl ⟨Nat.le_refl _,.slice none 0 0,World.alloc_heap_new w _,World.ownsRow_nil _ _ _ _,by simp[Value.ownBlock]⟩
theorem Bld.base {l:T} (h:Bld w B b l):B<=b:=by
 rcases h with h|h
 ·exact h.1
 ·exact h.1
theorem Bld.block {l:T} (h:Bld w B b l):∃c fz,w.heap[b]? =some (.cells c TB fz):=by
 rcases h with⟨_,v,hb,_⟩|⟨_,v,hb,_⟩
 ·exact⟨_,_,hb⟩
 ·exact⟨_,_,hb⟩
theorem Bld.keeps {l:T} (h:Bld w B b l) (hk:Lib.OthersKept TY (some b) w w') (hs:w.heap.size<=w'.heap.size):KeepsOthers w w':=by
 refine⟨hs,fun k o ho hc=>hk k o ho ?_ ?_⟩
 ·intro e
  obtain⟨c,fz,hb⟩:=h.block
  obtain rfl:k=b:=by injection e
  rw[ho]at hb
  obtain rfl:=Option.some.inj hb
  cases hc
 ·rintro c fz rfl
  cases hc
theorem zDg {c:Nat} {t:TypeId} (hk:Lib.OthersKept TY (some b) w w') (h:Boxed w c t v) (hne:c≠b) (ht:t≠TY):w'.heap[c]? =w.heap[c]? :=by
 rw[hk c _ h (fun e=>hne (by injection e)) (fun c' fz e=>ht (by injection e))]
 exact h.symm
theorem Bld.kept {l:T} {row:Option Nat} (h:Bld w B b l) (hg:w.grownBy w' row) (hr:∀r,row=some r->∃o,w.heap[r]? =some o/\(∀c fz,o≠ .cells c TB fz)/\(∀c fz,o≠ .cells c TY fz)):Bld w' B b l:=by
 have one:∀p,Lib.BuilderAt TB TY B b p (Lib.byteCells l) w->Lib.BuilderAt TB TY B b p (Lib.byteCells l) w':=by
  rintro p ⟨hB,v,hb,hown,hne⟩
  refine⟨hB,v,?_,?_,hne⟩
  ·rw[hg.block b (zAd hb) (fun e=> ?_)]
   ·exact hb
   ·obtain⟨o,ho,h1,_⟩:=hr b e.symm
    rw[hb]at ho
    exact h1 _ _ (Option.some.inj ho).symm
  ·refine hown.kept hg ?_
   rcases hv:v.ownBlock with _|g
   ·rcases hown.2 with⟨rfl,_⟩|⟨g',cap,cur,rfl,_,hgg,_⟩
    ·exact .inl rfl
    ·simp[Value.ownBlock]at hv
   ·refine .inr fun e=> ?_
    obtain⟨c,fz,hc⟩:=zIw hown g hv
    obtain⟨o,ho,_,h2⟩:=hr g e.symm
    rw[hc]at ho
    exact h2 _ _ (Option.some.inj ho).symm
 rcases h with h|h
 ·exact .inl (one _ h)
 ·exact .inr (one _ h)
end Rle
end Go.Proofs.YtppnakkaljbmbaaGreatDoor
