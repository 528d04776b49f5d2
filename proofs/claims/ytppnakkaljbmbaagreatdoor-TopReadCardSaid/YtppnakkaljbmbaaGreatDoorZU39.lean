/- Steps of a proof; no condition beyond what each states. -/
import Derived.Test.YtppnakkaljbmbaaGreatDoorZU38
set_option linter.unusedVariables false
set_option linter.unusedSimpArgs false
set_option maxRecDepth 100000
set_option maxHeartbeats 8000000
namespace Go.Proofs.YtppnakkaljbmbaaGreatDoor
namespace Sm
open Go.RowKit Hf Bt Zr Ix Front Wg Ch Sl Sq Us St Tn Bk Rg
variable {b:Nat} {A B:World}
structure RV (b:Nat) (A B:World):Prop where
 old:∀(k:Nat) (o:Obj),A.heap[k]? =some o->k≠b->B.heap[k]? =some o
 below:Below b A B
 keeps:KeepsOthers A B
theorem RV.trans {C:World} (h:RV b A B) (g:RV b B C):RV b A C:=⟨fun k o hk hb=>g.old k o (h.old k o hk hb) hb,h.below.trans g.below,h.keeps.trans g.keeps⟩
theorem RV.of_below (h:Below A.heap.size A B) (hb:b<=A.heap.size):RV b A B:=⟨fun k o hk _=>(h.block k (zAd hk)).trans hk,h.mono hb,⟨h.size,fun k o hk _=>(h.block k (zAd hk)).trans hk⟩⟩
theorem RV.set {t:TypeId} {u:Value} (hb:Boxed A b t u) (v:Value):RV b A (A.setCell ⟨b,0,none⟩ v):=⟨fun k o hk hb=>(zAa hb).trans hk,(Below.refl _ _).setCell (p:=⟨b,0,none⟩) (Nat.le_refl _) v,
 ⟨by simp,fun k o hk ho=>(zAa (fun e=>by subst e;rw[show A.heap[k]? =_ from hb]at hk;injection hk with hk;subst hk;cases ho)).trans hk⟩⟩
def EC (p:T) (_:World) (vs:Array Value):Prop:=vs= #[.string (Rle.bs p)]
theorem qBa (b b2 lev:Nat) (x:T) (hx:x.length<=100000) (h1:1<=lev) (h9:lev<=9) (hne:b2≠b) (C:Nat->TypeId->Prop) (hC1:¬C b 9) (hC2:¬C b2 3) (W:World) (hbx:Boxed W b 9 (.string (Rle.bs x))) (hbl:Boxed W b2 3 (.int .i64 (lev:Int))):
  qBt Tryz.prog 133 #[.pointer (some ⟨b,0,none⟩),.pointer (some ⟨b2,0,none⟩)] EC (RV b) C (pcs (40*lev) x) W:=by
 intro l J Jx hJ hY h0
 refine callsIn_of_wp Tryz.func133 rfl trivial ?_ rfl
 simp only[Tryz.ntmps133,List.size_toArray,List.length_cons,List.length_nil,Nat.reduceAdd,Nat.reduceSub,Array.replicate_succ,Array.replicate_zero,List.push_toArray,List.append_toArray,List.nil_append,List.cons_append]
 have HBX:=zH hbx
 have HBL:=zH hbl
 have HJ:=zH hJ
 have HY:=zH hY
 have H0:=zH h0
 obtain⟨room,hroom⟩:=zB (40*lev)
 have hw40:IntKind.i64.wrap ((lev:Int)*40)=(lev:Int)*40:=IntWalk.i64_in _ ⟨by omega,by omega⟩
 have hr1:1<=room:=by omega
 have HROOM:=zH hroom
 rw[hroom]
 rw[hroom]at HY
 clear hbx hbl hJ hY h0 hroom
 gi_wp2
 gi_loopw [5] (fun _ wr=>∃(pre:List T) (r:T),RowKit.Hid (pcs room x=pre++pcs room r)/\r.length<=x.length/\RowKit.Hid (Boxed wr b 9 (.string (Rle.bs r)))/\RowKit.Hid (Boxed wr b2 3 (.int .i64 (lev:Int)))/\RowKit.Hid (J pre wr))
  (fun _ wr=>Rle.zHd b wr)
 case atStart=>exact⟨[],x,zH rfl,Nat.le_refl _,HBX,HBL,H0⟩
 case round=>
  clear HBX HBL H0
  obtain⟨pre,r,hpre,hrl,hbx,hbl,hj⟩:=hrel
  have c0:=hbx.out.cell
  have f0:=hbx.out.frozen
  have c1:=hbl.out.cell
  by_cases hr:r=[]
  ·subst hr
   have he:Rle.bs []=(⟨#[]⟩:ByteArray):=by unfold Rle.bs;rfl
   rw[he]at c0
   clear he
   gi_wp2
   go_end0
   exact⟨⟨_,rfl⟩,.inl (by have h:=hpre.out;rw[zB6,List.append_nil]at h;rw[h];exact hj.out)⟩
  ·obtain⟨k,hk⟩:=zB (Rle.cut r room)
   have hpc:=zBq room r hr hr1
   have hk1:=Rle.zJ2 r room hr (by omega)
   have hk2:=Rle.qGb r room
   rw[hk]at hpc hk1 hk2
   obtain⟨t,ht⟩:=zB (Rle.bs r)
   have hts:t.size=r.length:=by rw[<-ht,Rle.zCh]
   have hemp:t.toList.isEmpty=false:=by rw[Lib.toList_data,<-ht,Rle.zBk];cases r with
    |nil=>exact absurd rfl hr
    |cons y r=>rfl
   have hsl:t.extract 0 k=Rle.bs (r.take k):=by rw[<-ht,Rle.zNx]
   have hdr:t.extract k t.size=Rle.bs (r.drop k):=by rw[<-ht,Rle.zT7]
   have hkt:(k:Int)<=(t.size:Int):=by omega
   have HCU:=zH (show Calls Tryz.prog 134 #[.string t,.int .i64 ((lev:Int)*40)] wr fun e w'=>e= .returned (.int .i64 (k:Int))/\Below wr.heap.size wr w' from by
    have h:=Rle.qEj t ((lev:Int)*40) (by omega) (by omega) (by omega) wr
    have ht2:t.data.toList=r:=by rw[<-ht,Rle.zBk]
    rw[ht2,show(lev:Int)*40=(room:Int)by have:=HROOM.out;omega,hk]at h
    rw[show(lev:Int)*40=(room:Int)by have:=HROOM.out;omega]
    exact h)
   rw[ht]at c0
   have HPC:=zH hpc
   have HT:=zH (And.intro ht hts)
   have HK:=zH (And.intro hk1 hk2)
   have hk0:(0:Int)<=(k:Int):=by omega
   have ht100:t.size<=100000:=by omega
   clear hpc hk ht hts hk1 hk2
   gi_wp2_with fail
   refine⟨trivial,(callsIn_wide.2 HCU.out).mono ?_⟩
   rintro e w1 ⟨rfl,hb1⟩
   have hlt:=hbx.out.lt
   have X1:=zH (show Boxed w1 b 9 (.string t)by rw[<-HT.out.1];exact(hb1.block b hlt).trans hbx.out)
   have L1:=zH (show Boxed w1 b2 3 (.int .i64 (lev:Int))from(hb1.block b2 hbl.out.lt).trans hbl.out)
   have hj1:=HJ.out _ _ _ hj.out (RV.of_below hb1 (Nat.le_of_lt hlt))
   have hpf:pre++[r.take k]<+:pcs room x:=⟨pcs room (r.drop k),by rw[hpre.out,HPC.out,List.append_assoc];rfl⟩
   obtain⟨fn,tmps,assign,body,hy,hR⟩:=HY.out pre (r.take k) w1 #[.string (Rle.bs (r.take k))] hj1 rfl hpf
   have HR:=zH hR
   have HPF:=zH hpf
   have hat:Rle.zHd b wr=t.size:=by rw[<-HT.out.1];exact Rle.zGn hbx.out
   have HAT:=zH hat
   have c2:=X1.out.cell
   clear hb1 hj1 hR hpf hat hbx hbl hj c0 f0 c1 HCU hlt
   gi_wp2
   refine HR.out.mono ?_
   rintro e W3 (⟨rfl,hJ3,hs3⟩|⟨rfl,hJx3⟩)
   ·have X3:=hs3.2 _ _ _ _ X1.out hC1
    have L3:=hs3.2 _ _ _ _ L1.out hC2
    have c3:=Boxed.cell (show Boxed W3 b 9 (.string t)from X3)
    have f3:=Boxed.frozen (show Boxed W3 b 9 (.string t)from X3)
    have X4:=zH (show Boxed (W3.setCell ⟨b,0,none⟩ (.string (Rle.bs (r.drop k)))) b 9 (.string (Rle.bs (r.drop k)))from zA3 0 _ X3)
    have L4:=zH (show Boxed (W3.setCell ⟨b,0,none⟩ (.string (Rle.bs (r.drop k)))) b2 3 (.int .i64 (lev:Int))from(zAa hne).trans L3)
    have J4:=zH (HJ.out _ _ _ hJ3 (RV.set (show Boxed W3 b 9 (.string t)from X3) (.string (Rle.bs (r.drop k)))))
    clear hJ3 hs3 hy X3 L3 c2
    gi_wp2
    go_roundw
    case rel=>
     refine⟨pre++[r.take k],r.drop k,zH ?_,by rw[List.length_drop];omega,X4,L4,J4⟩
     rw[hpre.out,HPC.out,List.append_assoc];rfl
    case measure=>
     rw[HAT.out,Rle.zGn X4.out,Rle.zCh,List.length_drop]
     have:=HK.out
     have:=HT.out.2
     omega
   ·have HX3:=zH (And.intro HPF.out hJx3)
    clear hJx3 hy c2
    gi_wp2
    refine bodyPost_ret (results_none rfl _ _ _) rfl ?_
    exact⟨⟨_,rfl⟩,.inr ⟨_,HX3.out⟩⟩
end Sm
namespace Sm
open Go.RowKit Hf Bt Zr Ix Front Wg Ch Sl Sq Us St Tn Bk
theorem zTi {w w':World} {B B2 k k2 n n2:Nat} {e e2:TypeId} {v v2:Value} {xs ys:List Value} (h:w.ownsRow B e k v n xs) (h2:w.ownsRow B2 e2 k2 v2 n2 ys) (hne:e≠e2) (hg:w.grownBy w' v2.ownBlock):w'.ownsRow B e k v n xs:=by
 obtain⟨h3,h4⟩:=h
 refine⟨h3,?_⟩
 rcases h4 with h4|⟨g,cap,cur,hv,hbg,hgg,r⟩
 ·exact .inl h4
 ·refine .inr ⟨g,cap,cur,hv,hbg,?_,r⟩
  obtain⟨_,_,_,_,hold⟩:=hg
  refine(hold g (zAd hgg) (fun e=> ?_)).trans hgg
  rcases h2.2 with⟨e1,_⟩|⟨g',cap',cur',hv',_,hgg',_⟩
  ·rw[e1]at e;cases e
  ·rw[hv']at e
   simp[Value.ownBlock]at e
   subst e
   rw[hgg]at hgg'
   injection hgg' with hgg'
   injection hgg' with _ hgg' _
   exact hne hgg'
structure WS (w W:World) (B:Nat) (q:Option Addr) (m c1:Nat) (ls:List (List Bool)) (s:Option Addr) (k c2:Nat) (us:List (BitVec 32)):Prop where
 bits:Kit.Own' LB W B TB_ q m c1 ls
 sums:Kit.Own W B zCf s k c2 (us.map zAx)
 below:Below B w W
 size:B<=W.heap.size
section
variable {w W W':World} {B m c1 k c2:Nat} {q s:Option Addr} {ls:List (List Bool)} {us:List (BitVec 32)}
theorem WS.keep (h:WS w W B q m c1 ls s k c2 us) (hb:Below W.heap.size W W'):WS w W' B q m c1 ls s k c2 us:=
 ⟨h.bits.below hb (Nat.le_refl _),h.sums.below hb (Nat.le_refl _),h.below.trans (hb.mono h.size),Nat.le_trans h.size hb.size⟩
theorem WS.bit (h:WS w W B q m c1 ls s k c2 us) (hm:m<=100000) (x:List Bool):
  ∃q' c' w',(Builtin.append_ #[zB5,zB5] zB5 #[.slice q m c1,.slice (some ⟨W.heap.size,0,none⟩) 1 1]).run Tryz.prog (W.alloc (.cells (LB.cl x).toArray TB_))= .ok (.slice q' (m+1) c') w'/\WS w w' B q' (m+1) c' (ls++[x]) s k c2 us:=by
 have h1:=h.keep ((Below.refl W.heap.size W).alloc (Nat.le_refl _) (.cells (LB.cl x).toArray TB_))
 obtain⟨q',c',w',hr,ho,hg⟩:=h1.bits.app (ty:=zB5) zPo (some ⟨W.heap.size,0,none⟩) 1 1 [x] (Kit.zFo W x TB_) rfl (fun h=>by cases h) (by unfold maxLen;omega) (by omega) h1.size
 have hb:=Kit.zAq hg h1.size (fun k hk=>h1.bits.block k hk)
 exact⟨q',c',w',hr,⟨ho,zTi h1.sums h1.bits (by decide) hg,h1.below.trans hb,Nat.le_trans h1.size hb.size⟩⟩
theorem WS.sum (h:WS w W B q m c1 ls s k c2 us) (hk:k<=100000) (x:BitVec 32):
  ∃s' c' w',(Builtin.append_ #[224,224] 224 #[.slice s k c2,.slice (some ⟨W.heap.size,0,none⟩) 1 1]).run Tryz.prog (W.alloc (.cells #[zAx x] zCf))= .ok (.slice s' (k+1) c') w'/\WS w w' B q m c1 ls s' (k+1) c' (us++[x]):=by
 have h1:=h.keep ((Below.refl W.heap.size W).alloc (Nat.le_refl _) (.cells #[zAx x] zCf))
 obtain⟨s',c',w',hr,ho,hg⟩:=h1.sums.app (ty:=224) qEn (some ⟨W.heap.size,0,none⟩) 1 1 [zAx x] (Kit.zAs W (zAx x) zCf) rfl (fun h=>by cases h) (zPv [x]) (by unfold maxLen;omega) (by omega) h1.size
 rw[show us.map zAx++[zAx x]=(us++[x]).map zAx by rw[List.map_append];rfl]at ho
 have hb:=Kit.zAq hg h1.size (fun k hk=>h1.sums.block k hk)
 exact⟨s',c',w',hr,⟨zTi h1.bits h1.sums (by decide) hg,ho,h1.below.trans hb,Nat.le_trans h1.size hb.size⟩⟩
end
theorem WS.rdb {w W:World} {B m c1 k c2:Nat} {q s:Option Addr} {ls:List (List Bool)} {us:List (BitVec 32)} (h:WS w W B q m c1 ls s k c2 us):RdB W q ls:=by
 refine⟨h.bits.rd,fun p hp=> ?_⟩
 subst hp
 rcases h.bits.2 with⟨e1,_⟩|⟨g,cap,cur,hv,_,hgg,_⟩
 ·cases e1
 ·injection hv with hv _ _
  injection hv with hv
  subst hv
  exact⟨_,_,hgg⟩
theorem qG3 {w:World} {B:Nat} {u v u' v':Value} (h:w.heap[B]? =some (.cells #[u,v] TB_ (0,0))) (h1:∀z∈[u',v'],z.oneCell'=true):
  ∃w',(storeVar TB_ ⟨B,0,none⟩ (.agg #[u',v'])).run Tryz.prog w= .ok () w'/\w'.heap[B]? =some (.cells #[u',v'] TB_ (0,0))/\(∀k,k≠B->w'.heap[k]? =w.heap[k]?)/\(∀D,D<=B->Below D w w'):=by
 obtain⟨c0,c1,f0,f1⟩:=zAf h
 have hst:=run_storeVar_mid (P:=Tryz.prog) w B 0 TB_ #[u',v'] (fun j hj=>by
  have hj4:j<2:=hj
  obtain rfl|rfl:j=0\/j=1:=by omega
  ·exact⟨by rw[show 0+0=0 from rfl,c0];rfl,f0⟩
  ·exact⟨by rw[show 0+1=1 from rfl,c1];rfl,f1⟩) (by kernel_rfl) (by simpa using h1)
 refine⟨_,hst,?_,?_,?_⟩
 ·exact zA3 1 _ (zA3 0 _ h)
 ·exact fun k hk=>(zAa hk).trans (zAa hk)
 ·exact fun D hD=>((Below.refl _ w).setCell (p:=⟨B,0,none⟩) hD _).setCell (p:=⟨B,1,none⟩) hD _
def zC7 (x:T):Value:= .string (Rle.bs x)
theorem qAt (lev:Nat) (h:lev<10):((⟨#[80,77,107]⟩:ByteArray)++⟨#[UInt8.ofNat (48+lev)]⟩)=Bt.pk (zBp lev):=by
 have h1:=zTz ⟨lev,h⟩
 unfold Bt.pk
 simp only at h1
 rw[h1]
 apply ByteArray.ext
 simp
theorem zV5 (lev n c:Nat) (p:Option Addr) (ps:List T) (w:World) (h1:1<=lev) (h9:lev<=9) (hn:ps.length=n) (hn2:n<=20) (hnc:n<=c) (hs:Kit.Src w p (ps.map zC7)) (he:∀x∈ps,0<x.length/\Rle.Len x<=40*lev):
  Calls Tryz.prog 50 #[.int .i64 (lev:Int),.slice p n c] w fun e w'=>e= .returned (.tuple #[.string (zCt lev ps),.int .i64 0])/\Below w.heap.size w w':=by
 obtain⟨B,hB⟩:=zB w.heap.size
 obtain⟨d,hd⟩:∃d:UInt8,UInt8.ofNat (48+lev)=d:=⟨_,rfl⟩
 have hdn:(d.toNat:Int)=48+(lev:Int):=by rw[<-hd,ofNat_toNat (by omega)];omega
 obtain⟨W1,hW1⟩:=zB (w.alloc (.cells #[.int .u8 (48+(lev:Int))] 5))
 have hsr:Kit.Src W1 (some ⟨B,0,none⟩) ([d].map Kit.zAe):=by
  rw[<-hW1,<-hB,<-hdn]
  exact Kit.zAs w _ _
 have hcv:=Kit.Src.text (P:=Tryz.prog) (n:=1) (c:=1) (src:=109) (dst:=9) hsr rfl Tryz.underlying109 Tryz.underlying5 Tryz.underlying9
 have hcat:=qAt lev (by omega)
 rw[hd]at hcat
 have hz1:(⟨#[d]⟩:ByteArray).size=1:=rfl
 have hz2:(⟨#[80,77,107]⟩:ByteArray).size=3:=rfl
 rw[show(⟨[d].toArray⟩:ByteArray)=⟨#[d]⟩from rfl]at hcv
 obtain⟨hs0,hhs⟩:=zB (Bt.pk (zBp lev))
 rw[hhs]at hcat
 have hw1:IntKind.u8.wrap (lev:Int)=(lev:Int):=by show(lev:Int)%256=_;omega
 have hw2:IntKind.u8.wrap (48+(lev:Int))=48+(lev:Int):=by show(48+(lev:Int))%256=_;omega
 have HE:=zH he
 have HS:=zH hs
 have HN:=zH hn
 have HW1:=zH hW1
 have HB:=zH hB
 have HHS:=zH hhs
 have j1:¬(lev:Int)<1:=by omega
 have j2:¬(9:Int)<(lev:Int):=by omega
 rw[hB]
 clear hs hn he hsr hhs hdn
 go_enter Tryz.func50,Tryz.ntmps50
 go_wp2
 obtain⟨W2,hW2⟩:=zB (W1.alloc (.cells #[.string hs0,.int .i64 32] TB_))
 rw[hW2]
 have hB1:Below B w W1:=by rw[<-HW1.out,<-HB.out];exact(Below.refl _ _).alloc (Nat.le_refl _) _
 have hzB:B<=W1.heap.size:=by have:=hB1.size;have:=HB.out;omega
 have HWS:=zH (show WS w W2 B (some ⟨W1.heap.size,0,none⟩) 1 1 [zBp lev] none 0 0 []from by
  have h:=Kit.zNf (L:=LB) W1 [zBp lev] TB_ B hzB (by unfold maxLen;simp)
  rw[show Kit.flat LB [zBp lev]=[.string (Bt.pk (zBp lev)),.int .i64 ((zBp lev).length:Int)]from rfl,HHS.out,zDw]at h
  rw[<-hW2]
  exact⟨h,Kit.Own.start _ _ _,hB1.alloc hzB _,by simp;omega⟩)
 obtain⟨Z,hZ⟩:=zB W1.heap.size
 rw[hZ]at HWS⊢
 clear hcv hcat hz1 hz2 hw1 hw2 hW1 HW1 hW2 hB1 hzB hZ HHS
 go_loopw [6,7,32] (fun lv sv iv wr=>∃(k c1 c2:Nat) (q s:Option Addr),k<=n/\lv= .slice q (k+1) c1/\sv= .slice s k c2/\iv= .int .i64 k/\RowKit.Hid (WS w wr B q (k+1) c1 (zBp lev::(ps.take k).map zAn) s k c2 ((ps.take k).map Crc.sum))) (fun _ _ iv _=>n-(intOf iv).toNat)
 case atStart=>exact⟨0,1,0,_,none,Nat.zero_le _,rfl,rfl,rfl,HWS⟩
 case round=>
  clear HWS
  obtain⟨k,c1,c2,q,s,hk,rfl,rfl,rfl,hws⟩:=hrel
  by_cases hlt:k<n
  ·have hkl:k<ps.length:=by rw[HN.out];exact hlt
   obtain⟨x,hx⟩:=zB (ps[k])
   obtain⟨hx0,hxl⟩:=HE.out x (by rw[<-hx];exact List.getElem_mem hkl)
   obtain⟨g,off,rfl,e0⟩:=(HS.out.below (by rw[HB.out];exact hws.out.below)) k (zC7 x) (by rw[List.getElem?_map,List.getElem?_eq_getElem hkl,hx];rfl)
   have hb4:=Rle.zBu x
   have hsz:(Rle.bs x).size=x.length:=Rle.zCh x
   obtain⟨bl,hbl⟩:=zB (zAn x)
   have HT:=zH (show(ps.take (k+1)).map zAn=(ps.take k).map zAn++[bl]/\(ps.take (k+1)).map Crc.sum=(ps.take k).map Crc.sum++[Crc.sum x]by
    rw[List.take_succ_eq_append_getElem hkl,hx,List.map_append,List.map_append,<-hbl];exact⟨rfl,rfl⟩)
   have HEN:=zH (show Calls Tryz.prog 17 #[.string (Rle.bs x),.int .i64 ((lev:Int)*40)] wr fun e w'=>e= .returned (.tuple #[.agg #[.string (Bt.pk bl),.int .i64 (bl.length:Int)],.int .i64 0])/\Below wr.heap.size wr w' from by
    have h:=zD8 (Rle.bs x) x (Rle.zBk x) (by omega) (by omega) (40*lev) (by omega) (by omega) hxl wr
    rw[hbl,show((40*lev:Nat):Int)=(lev:Int)*40 by omega]at h
    exact h)
   have HSM:=zH (fun(W:World)=>show Calls Tryz.prog 25 #[.string (Rle.bs x)] W fun e w'=>e= .returned (zAx (Crc.sum x))/\Below W.heap.size W w' from by
    have h:=Crc.zG7 (Rle.bs x) (by unfold maxLen;omega) W
    rw[Rle.zBk]at h
    exact h)
   obtain⟨sx,hsx⟩:=zB (Rle.bs x)
   unfold zC7 at e0
   rw[hsx]at e0 HEN HSM
   have hw40:IntKind.i64.wrap ((lev:Int)*40)=(lev:Int)*40:=IntWalk.i64_in _ ⟨by omega,by omega⟩
   have hcc:n<=c:=hnc
   clear hx hx0 hxl hb4 hsz hbl hsx hkl
   go_wp2_with fail
   (with_reducible refine HEN.out.mono ?_)
   rintro e w3 ⟨rfl,hb3⟩
   obtain⟨W3,hW3⟩:=zB (w3.alloc (.cells #[.string (Bt.pk bl),.int .i64 (bl.length:Int)] TB_))
   have ws3:=(hws.out.keep hb3).keep (W':=W3) (by rw[<-hW3];exact(Below.refl _ _).alloc (Nat.le_refl _) _)
   obtain⟨q',c',w4,hr4,ws4⟩:=ws3.bit (by omega) bl
   have hr4':(Builtin.append_ #[zB5,zB5] zB5 #[.slice q (k+1) c1,.slice (some ⟨W3.heap.size,0,none⟩) 1 1]).run Tryz.prog (W3.alloc (.cells #[.string (Bt.pk bl),.int .i64 (bl.length:Int)] TB_))= .ok (.slice q' (k+1+1) c') w4:=hr4
   have WS4:=zH ws4
   have z3:W3.heap[w3.heap.size]? =some (.cells #[.string (Bt.pk bl),.int .i64 (bl.length:Int)] TB_ (0,0)):=by rw[<-hW3];exact zAh w3 _
   obtain⟨y0,y1,_,_⟩:=zAf z3
   clear hb3 ws3 hr4 ws4 hws HEN
   go_wp2_with (at_builtin;refine Kit.zAr rfl (.tmp 46) (.tmp 48) zB5 rfl rfl rfl hr4' ?_)
   (with_reducible refine(HSM.out _).mono ?_)
   rintro e w5 ⟨rfl,hb5⟩
   obtain⟨s',d',w6,hr6,ws6⟩:=(WS4.out.keep hb5).sum (by omega) (Crc.sum x)
   have hr6':(Builtin.append_ #[224,224] 224 #[.slice s k c2,.slice (some ⟨w5.heap.size,0,none⟩) 1 1]).run Tryz.prog (w5.alloc (.cells #[.int .u32 (Crc.U (Crc.sum x))] zCf))= .ok (.slice s' (k+1) d') w6:=hr6
   have WS6:=zH ws6
   unfold zAx
   clear hb5 WS4 hr6 ws6 hr4' hW3 y0 y1 z3 e0
   go_wp2_with (at_builtin;refine Kit.zAr rfl (.tmp 50) (.tmp 53) 224 rfl rfl rfl hr6' ?_)
   go_roundw
   case rel=>exact⟨k+1,c',d',q',s',by omega,rfl,rfl,by go_num,by rw[HT.out.1,HT.out.2,<-List.cons_append];exact WS6⟩
   case measure=>simp only[intOf];omega
  ·obtain rfl:k=n:=by omega
   have hws2:=hws.out
   rw[List.take_of_length_le (by rw[HN.out];exact Nat.le_refl _)]at hws2
   obtain⟨m1,hm1⟩:=zB (num zH0 48)
   have hl1:m1.length=48:=by rw[<-hm1,zAc]
   have HP1:=zH (show Calls Tryz.prog 24 #[.agg #[.string ⟨#[]⟩,.int .i64 0],.int .u64 25779555029136,.int .i64 48] wr fun e w'=>e= .returned (.tuple #[.agg #[.string (Bt.pk m1),.int .i64 (m1.length:Int)],.int .i64 0])/\Below wr.heap.size wr w' from by
    have h:=zJo [] 25779555029136 48 wr (by omega) (by omega) (by simp)
    rw[List.nil_append,show num 25779555029136 48=m1 from hm1]at h
    exact h)
   obtain⟨S,hS⟩:=zB (zVr ps)
   have hSl:=S.isLt
   have hSw:(S.toNat:Int)=IntKind.u64.wrap (Crc.U S):=by unfold Crc.U;rw[IntWalk.u64_in _ ⟨by omega,by omega⟩]
   have hend:m1++num S.toNat 32=zF ps:=by rw[<-hm1,<-hS];rfl
   obtain⟨m2,hm2⟩:=zB (zF ps)
   rw[hm2]at hend
   have hl2:m2.length=80:=by rw[<-hm2,zRi]
   have HP2:=zH (fun(W:World)=>show Calls Tryz.prog 24 #[.agg #[.string (Bt.pk m1),.int .i64 (m1.length:Int)],.int .u64 (IntKind.u64.wrap (Crc.U S)),.int .i64 32] W fun e w'=>e= .returned (.tuple #[.agg #[.string (Bt.pk m2),.int .i64 (m2.length:Int)],.int .i64 0])/\Below W.heap.size W w' from by
    have h:=zJo m1 S.toNat 32 W (by omega) (by omega) (by omega)
    rw[hend,hSw]at h
    exact h)
   have HALL:=zH (fun(W:World) (hr:Kit.Src W s ((ps.map Crc.sum).map zAx))=>show Calls Tryz.prog 131 #[.slice s k c2] W fun e w'=>e= .returned (.int .u32 (Crc.U S))/\w'=W from by
    have h:=zUb s k c2 (ps.map Crc.sum) W (by rw[List.length_map,HN.out]) (by omega) hr
    rw[show(ps.map Crc.sum).foldl Crc.fold 0#32=S from hS]at h
    exact h)
   have HWS2:=zH hws2
   have HM2:=zH hm2
   have HL2:=zH hl2
   clear hws hws2 hm1 hS hSw hend hm2 hSl hl1 hl2
   go_wp2_with fail
   (with_reducible refine HP1.out.mono ?_)
   rintro e w3 ⟨rfl,hb3⟩
   obtain⟨b,hb⟩:=zB w3.heap.size
   obtain⟨W3,hW3⟩:=zB (w3.alloc (.cells #[.string (Bt.pk m1),.int .i64 (m1.length:Int)] TB_))
   have z3:W3.heap[b]? =some (.cells #[.string (Bt.pk m1),.int .i64 (m1.length:Int)] TB_ (0,0)):=by rw[<-hW3,<-hb];exact zAh w3 _
   have hbW:Below w3.heap.size w3 W3.drew:=by rw[<-hW3];exact((Below.refl _ _).alloc (Nat.le_refl _) _).drew
   have WSD:=zH ((HWS2.out.keep hb3).keep hbW)
   have hbB:B<=b:=by rw[<-hb];exact(HWS2.out.keep hb3).size
   have WS3:=zH (HWS2.out.keep hb3)
   have HBW:=zH hbW
   have LD:=zH (show(loadVar TB_ ⟨b,0,none⟩).run Tryz.prog W3.drew= .ok (.agg #[.string (Bt.pk m1),.int .i64 (m1.length:Int)]) W3.drew from Kit.zHe (L:=LB) (x:=m1) (fun i hi=>by
    have hi2:i<2:=hi
    obtain rfl|rfl:i=0\/i=1:=by omega
    ·simp[World.cell?,show W3.drew.heap[b]? =_ from z3,LB]
    ·simp[World.cell?,show W3.drew.heap[b]? =_ from z3,LB]) (fun w=>by kernel_rfl) (fun w=>by kernel_rfl))
   have HA:=zH (HALL.out W3.drew WSD.out.sums.src)
   have Z3:=zH (show W3.drew.heap[b]? =_ from z3)
   have HW3:=zH hW3
   have HB3:=zH hb
   clear hb3 hbW z3 hW3 hb HALL HP1 HWS2
   go_wp2
   rw[HB3.out,show w3.alloc (.cells #[.string (Bt.pk m1),.int .i64 (m1.length:Int)] TB_)=W3 from HW3.out]
   refine zS [] (fun _=>True) [0,0,2,4,13,16,32,32,127] 9<|zp [0,1,2,3]<|zt 62 (.agg #[.string (Bt.pk m1),.int .i64 (m1.length:Int)]) (zl 51 12 (LD.out))<|zk 63 (.slice s k c2)<| ?_
   refine Kit.zZ2 (some 64) (131) (#[.slice s k c2]) (.int .u32 (Crc.U S)) rfl rfl (by kernel_rfl) (by kernel_rfl) (HA.out) ?_
   refine zk 65 (.int .u64 (IntKind.u64.wrap (Crc.U S)))<|zn<|zx 4 66 24 #[.agg #[.string (Bt.pk m1),.int .i64 (m1.length:Int)],.int .u64 (IntKind.u64.wrap (Crc.U S)),.int .i64 32] (HP2.out _)<| ?_
   rintro e w5 ⟨rfl,hb5⟩
   have hbz:=(hb5.block b (zAd Z3.out)).trans Z3.out
   obtain⟨w6,hst6,hz6,ho6,hbl6⟩:=qG3 (u':= .string (Bt.pk m2)) (v':= .int .i64 (m2.length:Int)) hbz (by simp[Value.oneCell'])
   refine⟨_,rfl,.inr (.inr trivial),?_⟩
   refine zp [5]<|zk 61 (.tuple #[.agg #[.string (Bt.pk m2),.int .i64 (m2.length:Int)],.int .i64 0])<|zn<|zu 7 68 (.int .i64 0)<|zp [6]<|zk 67 (.agg #[.string (Bt.pk m2),.int .i64 (m2.length:Int)])<|zn<|zw 8 none (zr 51 12 67 (hst6)) (.inr (.inr trivial))<|zE<| ?_
   simp only[zP,zI,Act.put,List.setIfInBounds_toArray,List.set_cons_zero,List.set_cons_succ]
   have hszb:b<W3.drew.heap.size:=zAd Z3.out
   have ws6:=WS3.out.keep ((HBW.out.trans (hb5.mono (by rw[HB3.out];exact Nat.le_of_lt hszb))).trans (hbl6 _ (by rw[HB3.out];exact Nat.le_refl _)))
   obtain⟨y0,y1,_,_⟩:=zAf hz6
   obtain⟨q',c',w7,hr7,ws7⟩:=ws6.bit (by omega) m2
   have hr7':(Builtin.append_ #[zB5,zB5] zB5 #[.slice q (k+1) c1,.slice (some ⟨w6.heap.size,0,none⟩) 1 1]).run Tryz.prog (w6.alloc (.cells #[.string (Bt.pk m2),.int .i64 (m2.length:Int)] TB_))= .ok (.slice q' (k+1+1) c') w7:=hr7
   have hle:((zBp lev::ps.map zAn)++[m2]).flatten.length<=1000000:=by
    rw[<-HM2.out,List.cons_append]
    show(zFa lev ps).length<=_
    rw[zJ8]
    have:=zW3 ps (fun x hx=>⟨(HE.out x hx).1,by have:=(HE.out x hx).2;omega⟩) ps.length
    have:=HN.out
    omega
   have hcq:=ws7.bits.at_ (by omega)
   have HCT:=zH (show Calls Tryz.prog 31 #[.slice q' (k+1+1) c'] w7 fun e w'=>e= .returned (.tuple #[.agg #[.string (zCt lev ps),.int .i64 ((zFa lev ps).length:Int)],.int .i64 0])/\Below w7.heap.size w7 w' from by
    have h:=zFs q' (k+1+1) c' ((zBp lev::ps.map zAn)++[m2]) w7 (by have:=HN.out;simp;omega) (by obtain⟨_,_,_,_,h⟩:=hcq;exact h) (by omega) ws7.rdb hle
    rw[<-HM2.out]at h
    exact h)
   have HW7:=zH ws7.below
   have HZ7:=zH ws7.size
   obtain⟨t,ht⟩:=zB (zCt lev ps)
   obtain⟨L,hL⟩:=zB ((zFa lev ps).length)
   rw[ht,hL]at HCT
   have HTT:=zH ht
   clear hb5 hst6 hz6 ho6 hbl6 hbz ws6 hr7 ws7 hle hcq WSD LD HA Z3 HW3 WS3 HBW HP2 hszb ht hL
   go_wp2_with (at_builtin;refine Kit.zAr rfl (.tmp 70) (.tmp 72) zB5 rfl rfl rfl hr7' ?_)
   (with_reducible refine HCT.out.mono ?_)
   rintro e w8 ⟨rfl,hb8⟩
   have B8:=zH (HW7.out.trans (hb8.mono HZ7.out))
   have Z8:=zH (show B<=w8.heap.size from Nat.le_trans HZ7.out hb8.size)
   clear hb8 HCT y0 y1 hr7'
   go_wp2
   go_ret2
   exact⟨by rw[HTT.out];rfl,B8.out.alloc Z8.out _⟩
end Sm
namespace Sm
open Go.RowKit Hf Bt Zr Ix Front Wg Ch Sl Sq Us St Tn Bk Rg
variable {w W W':World} {B b n:Nat}
attribute [local go_sem] Oper.semAt_some
abbrev zAk:TypeId:=9
abbrev zBf:TypeId:=49
theorem zL2:Kit.One Tryz.prog zBf zAk 16:=⟨Tryz.underlying49,⟨.string ⟨#[]⟩,by kernel_rfl,rfl⟩⟩
theorem zZ (l:List T):∀u∈l.map zC7,u.oneCell'=true:=by
 intro u hu
 obtain⟨x,_,rfl⟩:=List.mem_map.1 hu
 rfl
structure CI (w W:World) (B b n:Nat) (l:List T):Prop where
 own:∃p c,Boxed W B zBf (.slice p n c)/\Kit.Own W (B+1) zAk p n c (l.map zC7)
 rv:RV b w W
 size:B+1<=W.heap.size
theorem CI.put {l:Nat} {xs:List T} {o:Obj} (h:CI w W B b n xs) (o':Obj) (hl:W.heap[l]? =some o) (ho:o.isCells=false) (hB:w.heap.size<=l) (hb:b<=w.heap.size):CI w (W.putObj l o') B b n xs:=by
 obtain⟨p,c,h1,h2⟩:=h.own
 refine⟨⟨p,c,zBl h1 o' hl ho,?_⟩,⟨fun k u hk hne=> ?_,Rle.zAu o' h.rv.below hl (by omega) (by have:=h.rv.below.size;omega),⟨by rw[putObj_size];exact h.rv.below.size,fun k u hk hc=>by have hlt:=zAd hk;rw[World.putObj_heap_other (by omega)];exact h.rv.keeps.same k u hk hc⟩⟩,by rw[putObj_size];exact h.size⟩
 ·obtain⟨h3,h4⟩:=h2
  refine⟨h3,?_⟩
  rcases h4 with h4|⟨g,cap,cur,hv,hbg,hg,r⟩
  ·exact .inl h4
  ·exact .inr ⟨g,cap,cur,hv,hbg,zBl hg o' hl ho,r⟩
 ·have hlt:=zAd hk
  rw[World.putObj_heap_other (by omega)]
  exact h.rv.old k u hk hne
theorem CI.rv' {xs:List T} (h:CI w W B b n xs) (g:RV b W W') (hb:b<B):CI w W' B b n xs:=by
 obtain⟨p,c,h1,h2⟩:=h.own
 refine⟨⟨p,c,g.old B _ h1 (by omega),?_⟩,h.rv.trans g,Nat.le_trans h.size g.below.size⟩
 obtain⟨h3,h4⟩:=h2
 refine⟨h3,?_⟩
 rcases h4 with h4|⟨g',cap,cur,hv,hbg,hg,r⟩
 ·exact .inl h4
 ·exact .inr ⟨g',cap,cur,hv,hbg,g.old g' _ hg (by omega),r⟩
theorem CI.keep {xs:List T} (h:CI w W B b n xs) (g:Below W.heap.size W W') (hb:b<B):CI w W' B b n xs:=
 h.rv' (RV.of_below g (by have:=h.size;omega)) hb
theorem CI.push {xs:List T} (h:CI w W B b n xs) (hb:b<B) (hwB:w.heap.size<=B) (hn:n<=100000) (x:T):
  ∃p c p1 c1 w1 w2,Boxed W B zBf (.slice p n c)/\(Builtin.append_ #[zBf,zBf] zBf #[.slice p n c,.slice (some ⟨W.heap.size,0,none⟩) 1 1]).run Tryz.prog (W.alloc (.cells #[zC7 x] zAk))= .ok (.slice p1 (n+1) c1) w1/\
   Boxed w1 B zBf (.slice p n c)/\w1.setCell ⟨B,0,none⟩ (.slice p1 (n+1) c1)=w2/\CI w w2 B b (n+1) (xs++[x])/\KeepsOthers W w2/\Sc (fun k t=>k≠b/\(t=zAk\/t=zBf)) W w2:=by
 obtain⟨p,c,hbx,ho⟩:=h.own
 have hz:=h.size
 have hba:Below W.heap.size W (W.alloc (.cells #[zC7 x] zAk)):=(Below.refl _ _).alloc (Nat.le_refl _) _
 obtain⟨p1,c1,w1,hr,ho1,hg⟩:=Kit.Own.app (ty:=zBf) zL2 (ho.alloc (.cells #[zC7 x] zAk)) (some ⟨W.heap.size,0,none⟩) 1 1 [zC7 x] (Kit.zAs W (zC7 x) zAk) rfl (fun h=>by cases h) (zZ [x]) (by unfold maxLen;omega) (by omega) (by simp;omega)
 rw[show xs.map zC7++[zC7 x]=(xs++[x]).map zC7 by rw[List.map_append];rfl]at ho1
 have hbk:=(ho.alloc (.cells #[zC7 x] zAk)).block
 have hbl:Below (B+1) W w1:=(hba.mono hz).trans (Kit.zAq hg (by simp;omega) (fun k hk=>hbk k hk))
 have hb1:Boxed w1 B zBf (.slice p n c):=(hbl.block B (by omega)).trans hbx
 have hty:∀(k:Nat) (o:Obj),W.heap[k]? =some o->(∀cs f,o≠ .cells cs zAk f\/k<=B)->w1.heap[k]? =some o:=by
  intro k o hk hne
  obtain⟨_,_,_,_,hold⟩:=hg
  refine(hold k (by simp;have:=zAd hk;omega) (fun e=> ?_)).trans ((hba.block k (zAd hk)).trans hk)
  cases p with
  |none=>cases e
  |some q=>
   rcases ho.2 with⟨e1,_⟩|⟨g,cap,cur,hv,hgK,hgg,_⟩
   ·cases e1
   ·injection hv with hv _ _
    injection hv with hv
    subst hv
    injection e with e
    subst e
    rw[hgg]at hk
    injection hk with hk
    rcases hne _ _ with h5|h5
    ·exact h5 hk.symm
    ·exact absurd h5 (by omega)
 refine⟨p,c,p1,c1,w1,_,hbx,hr,hb1,rfl,⟨⟨p1,c1,zA3 0 _ hb1,?_⟩,?_,?_⟩,⟨?_,?_⟩,⟨?_,?_⟩⟩
 ·obtain⟨h3,h4⟩:=ho1
  refine⟨h3,?_⟩
  rcases h4 with h4|⟨g,cap,cur,hv,hbg,hgg,r⟩
  ·exact .inl h4
  ·exact .inr ⟨g,cap,cur,hv,hbg,(zAa (by omega)).trans hgg,r⟩
 ·exact⟨fun k o hk hne=>(zAa (by have:=zAd hk;omega)).trans (hty k o (h.rv.old k o hk hne) (fun _ _=> .inr (by have:=zAd hk;omega))),(h.rv.below.trans (hbl.mono (by omega))).setCell (p:=⟨B,0,none⟩) (by show b<=B;omega) _,⟨by have:=hbl.size;have:=h.rv.below.size;simp;omega,fun k o hk hc=>(zAa (by have:=zAd hk;omega)).trans (hty k o (h.rv.keeps.same k o hk hc) (fun _ _=> .inr (by have:=zAd hk;omega)))⟩⟩
 ·have:=hbl.size;simp;omega
 ·have:=hbl.size;simp;exact this
 ·intro k o hk hc
  have hkB:k≠B:=by rintro rfl;rw[show W.heap[k]? =_ from hbx]at hk;injection hk with hk;subst hk;cases hc
  exact(zAa hkB).trans (hty k o hk (fun cs f=> .inl (fun e=>by rw[e]at hc;cases hc)))
 ·have:=hbl.size;simp;exact this
 ·intro k cs t f hk hc
  by_cases hkb:k=b
  ·subst hkb
   exact(zAa (by omega)).trans (hty k _ hk (fun _ _=> .inr (by omega)))
  ·have hkB:k≠B:=by rintro rfl;rw[show W.heap[k]? =_ from hbx]at hk;injection hk with hk;injection hk with _ hk _;exact hc ⟨hkb,.inr hk.symm⟩
   exact(zAa hkB).trans (hty k _ hk (fun cs' f'=> .inl (fun e=>by injection e with _ e _;exact hc ⟨hkb,.inl e⟩)))
theorem zVq (b b2 lev:Nat) (x:T) (hx:x.length<=100000) (h1:1<=lev) (h9:lev<=9) (hne:b2≠b) (w:World) (hbx:Boxed w b zAk (.string (Rle.bs x))) (hbl:Boxed w b2 3 (.int .i64 (lev:Int))) (hn:(pcs (40*lev) x).length<=10000):
  Calls Tryz.prog 132 #[.slice none 0 0,.func (.func 133) #[] #[.pointer (some ⟨b,0,none⟩),.pointer (some ⟨b2,0,none⟩)]] w fun e w'=>
   ∃p c,e= .returned (.slice p (pcs (40*lev) x).length c)/\Kit.Own w' w.heap.size zAk p (pcs (40*lev) x).length c ((pcs (40*lev) x).map zC7)/\RV b w w':=by
 obtain⟨B,hB⟩:=zB w.heap.size
 have hbB:b<B:=by rw[<-hB];exact hbx.lt
 have hb2B:b2<B:=by rw[<-hB];exact hbl.lt
 obtain⟨w2,hw2⟩:=zB (w.alloc (.cells #[.slice none 0 0] zBf))
 have hb:Below B w w2:=by rw[<-hw2,<-hB];exact(Below.refl _ _).alloc (Nat.le_refl _) _
 have hz2:w2.heap.size=B+1:=by rw[<-hw2,zA,hB]
 have CI2:=zH (show CI w w2 B b 0 []from⟨⟨none,0,by rw[<-hw2,<-hB];exact zAh w _,Kit.Own.start _ _ _⟩,RV.of_below (by rw[hB];exact hb) (by omega),by omega⟩)
 have X2:=zH (show Boxed w2 b zAk (.string (Rle.bs x))from(hb.block b hbB).trans hbx)
 have L2:=zH (show Boxed w2 b2 3 (.int .i64 (lev:Int))from(hb.block b2 hb2B).trans hbl)
 have HW2:=zH hw2
 have HB:=zH hB
 obtain⟨S,hS⟩:=zB (pcs (40*lev) x)
 rw[hB,hS]
 rw[hS]at hn
 have HS:=zH hS
 obtain⟨m,hm⟩:=zB S.length
 rw[hm]at hn⊢
 have HM:=zH hm
 clear hm
 clear hbx hbl hw2 hb hS
 refine(callsIn_wide (n:=3)).1 ?_
 refine callsIn_of_wp_marks Tryz.func132 rfl trivial ?_ rfl
 simp only[Tryz.ntmps132,List.size_toArray,List.length_cons,List.length_nil,Nat.reduceAdd,Nat.reduceSub,Array.replicate_succ,Array.replicate_zero,List.push_toArray,List.append_toArray,List.nil_append,List.cons_append]
 gi_wp2
 rw[show w.alloc (.cells #[.slice none 0 0] zBf)=w2 from HW2.out]
 clear hB
 refine zL9 (gf:=133) (lb:= #[.pointer (some ⟨b,0,none⟩),.pointer (some ⟨b2,0,none⟩)]) rfl (enters_of Tryz.func133 (by kernel_rfl) rfl)
  EC (RV b) (fun k t=>k≠b/\(t=zAk\/t=zBf)) S
  (fun _ _ h=>h.keeps)
  (fun _ _ _ h=>by obtain rfl:=h;rfl)
  (fun _ _ _ _ _ _ _ _ h=>h)
  (fun W hW=>by
   have h:=qBa b b2 lev x hx h1 h9 hne (fun k t=>k≠b/\(t=zAk\/t=zBf)) (fun h=>h.1 rfl) (fun h=>absurd h.2 (by decide)) W ((hW.block b (by omega)).trans X2.out) ((hW.block b2 (by omega)).trans L2.out)
   rw[HS.out]at h
   exact h)
  (fun pre W=>CI w W B b pre.length pre)
  (fun _ _ _=>False)
  (fun pre W k o o' hk ho hcs hi=>hi.put o' ho hcs (by have:=HB.out;omega) (by have:=HB.out;omega))
  (fun _ _ _ _ _ _ _ _ _ h=>h)
  (fun pre A D hi hr=>hi.rv' hr hbB)
  (fun o o'=>CI2.out.keep (((Below.refl _ _).alloc (Nat.le_refl _) o).alloc (by simp) o') hbB)
  (fun pre x vs ac W=>ac={tmps:= #[.slice none 0 0,.func (.func 133) #[] #[.pointer (some ⟨b,0,none⟩),.pointer (some ⟨b2,0,none⟩)],.pointer (some ⟨B,0,none⟩),undef,.slice none 0 0,.string (Rle.bs x),.func (.func 133) #[] #[.pointer (some ⟨b,0,none⟩),.pointer (some ⟨b2,0,none⟩)],.string (Rle.bs x),undef,undef,undef,undef,undef],defers:=[]}/\CI w W B b pre.length pre)
  (fun pre x vs ac W k o o' hk ho hcs h=>⟨h.1,h.2.put o' ho hcs (by have:=HB.out;omega) (by have:=HB.out;omega)⟩)
  ?assign ?body ?done ?stop
 case assign=>
  rintro k pre x W vs K hsW hi rfl hK
  have HKK:=zH (fun ac h=>hK ac W ⟨Nat.le_refl _,fun _ _ h _=>h⟩ (Sc.refl _ _) ⟨h,hi⟩)
  clear hK hi
  gi_wp2
  exact HKK.out _ rfl
 case body=>
  rintro k pre x W vs ac hsW ⟨rfl,hi⟩ hpre
  have hlen:pre.length<m:=by have:=hpre.length_le;rw[List.length_append,List.length_singleton,HM.out]at this;omega
  obtain⟨p,c,p1,c1,w1,w3,hb,hr,hb1,hw3,hi3,hko,hsc⟩:=hi.push hbB (by have:=HB.out;omega) (by omega) x
  have HI3:=zH hi3
  have HKO:=zH (And.intro hko hsc)
  have x0:=hb.cell
  have hr':(Builtin.append_ #[zBf,zBf] zBf #[.slice p pre.length c,.slice (some ⟨W.heap.size,0,none⟩) 1 1]).run Tryz.prog (W.alloc (.cells #[.string (Rle.bs x)] zAk))= .ok (.slice p1 (pre.length+1) c1) w1:=hr
  have x1:=hb1.cell
  have f1:=hb1.frozen
  obtain⟨j,hm⟩:=zB pre.length
  rw[hm]at x0 x1 hr' hw3
  have HJ:=zH hm
  clear hi hr hi3 hko hsc hm hb hb1
  gi_wp2_with (gi_at_builtin;refine zLt rfl (.tmp 8) (.tmp 10) zBf rfl rfl rfl hr' ?_)
  refine⟨HKO.out.1,HKO.out.2,?_⟩
  show CI w w3 B b (pre++[x]).length (pre++[x])
  rw[List.length_append,List.length_singleton]
  exact HI3.out
 case done=>
  rintro D W hD hi hK
  rw[HM.out]at hi
  obtain⟨p,c,hb,ho⟩:=hi.own
  have x0:=hb.cell
  have hz:=hi.size
  have H:=zH (And.intro hb (And.intro ho hi))
  clear hb ho hi
  gi_wp2
  refine⟨by simp,.inl ⟨_,_,rfl,run_takeDeferred hK,?_⟩⟩
  have hi5:=H.out.2.2.put (.deferred none) hK rfl (by have:=HB.out;omega) (by have:=HB.out;omega)
  refine⟨.slice p m c,?_,p,c,rfl,?_,hi5.rv⟩
  ·simp[results,Tryz.f132,go_sem]
  ·obtain⟨h3,h4⟩:=H.out.2.1
   refine⟨h3,?_⟩
   rcases h4 with h4|⟨g,cap,cur,hv,hbg,hg,r⟩
   ·exact .inl h4
   ·exact .inr ⟨g,cap,cur,hv,by omega,zBl hg (.deferred none) hK rfl,r⟩
 case stop=>
  rintro D c pre W hD _ h _
  exact h.elim
end Sm
end Go.Proofs.YtppnakkaljbmbaaGreatDoor
