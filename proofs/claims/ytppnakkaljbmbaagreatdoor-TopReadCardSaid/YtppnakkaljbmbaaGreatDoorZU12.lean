/- Steps of a proof; no condition beyond what each states. -/
import Derived.Test.YtppnakkaljbmbaaGreatDoorZU11
set_option linter.unusedVariables false
set_option linter.unusedSimpArgs false
set_option maxRecDepth 100000
set_option maxHeartbeats 8000000
namespace Go.Proofs.YtppnakkaljbmbaaGreatDoor
namespace Wg
open Go.RowKit Hf Bt Zr Ix Front
variable {w:World} {B g n c R i X last f k:Nat} {e:TypeId} {l m:List (Nat×Nat)} {a:Option Addr} {x:Nat×Nat}
theorem qC4 (h:Kit.Own' TL w B e (some ⟨g,0,none⟩) n c l):g<w.heap.size:=by
 obtain⟨_,_,cs,f,hc⟩:=zE3 h
 exact zAd hc
theorem zOl (h:Kit.Own' TL w B e (some ⟨g,0,none⟩) n c l) (k:Nat) (hk:k<=n):Kit.Own' TL w B e (some ⟨g,0,none⟩) k c (l.take k):=by
 have hlen:=h.len
 obtain⟨h1,h2⟩:=h
 rcases h2 with⟨h2,_⟩|⟨g',cap,cur,hv,hbg,hg,hnc,hcm,hs,ht⟩
 ·cases h2
 ·injection hv with ha hn hc
  injection ha with ha
  injection ha with ha
  subst ha hc
  have e:Kit.flat TL (l.take k)=(Kit.flat TL l).take (k*TL.k):=by
   have h3:=Kit.zKo TL (l.take k) (l.drop k)
   rw[List.take_append_drop]at h3
   rw[h3,List.take_left' (by rw[Kit.zBg,List.length_take];congr 1;omega)]
  refine⟨by rw[Kit.zBg,List.length_take];congr 1;omega,.inr ⟨g,c,cur,rfl,hbg,hg,by omega,hcm,hs,?_⟩⟩
  rw[e,<-ht,List.take_take]
  congr 1
  have:k*TL.k<=n*TL.k:=Nat.mul_le_mul_right _ hk
  omega
theorem Qu.cut (h:Qu w R (some ⟨g,0,none⟩) c l) (k:Nat) (hk:k<=l.length):
  Qu (w.setCell ⟨R,0,none⟩ (.slice (some ⟨g,0,none⟩) k c)) R (some ⟨g,0,none⟩) c (l.take k)/\StT w (w.setCell ⟨R,0,none⟩ (.slice (some ⟨g,0,none⟩) k c)) R:=by
 have hl:(l.take k).length=k:=by rw[List.length_take];omega
 refine⟨⟨?_,?_⟩,⟨fun j _ h2 _=>zAa h2,(Below.refl _ _).setCell (p:=⟨R,0,none⟩) (Nat.le_refl _) _⟩⟩
 ·rw[hl,setBlock 0 h.blk];rfl
 ·rw[hl]
  exact World.ownsRow.kept (zOl h.own k hk) (zB1 w R 0 _) (.inr (zJt (zOl h.own k hk) h.blk (by decide)))
theorem Qu.hd (h:Qu w R a c l) (hn:l.length=n):(loadVar 297 ⟨R,0,none⟩).run Tryz.prog w= .ok (.slice a n c) w:=by
 obtain⟨y0,_,_,_⟩:=zAf h.blk
 rw[hn]at y0
 exact Kit.zAg y0 (by kernel_rfl) (by kernel_rfl)
theorem Qu.fn (h:Qu w R a c l):(loadVar 296 ⟨R,1,none⟩).run Tryz.prog w= .ok QF w:=by
 obtain⟨_,y0,_,_⟩:=zAf h.blk
 exact Kit.zAg y0 (by kernel_rfl) (by kernel_rfl)
theorem Qu.ldx {p:Nat×Nat} (h:Qu w R (some ⟨g,0,none⟩) c l) (hi:i<l.length) (hp:at_ l i=p):(loadVar TT ⟨g,i*2,none⟩).run Tryz.prog w= .ok (tv p) w:=by
 rw[<-hp];exact h.ld i hi
def Bx (w:World) (X:Nat) (x:Nat×Nat):Prop:=w.heap[X]? =some (.cells #[.int .i64 (x.1:Int),.int .i64 (x.2:Int)] TT (0,0))
theorem Bx.ld (h:Bx w X x):(loadVar TT ⟨X,0,none⟩).run Tryz.prog w= .ok (tv x) w:=by
 obtain⟨x0,x1,_,_⟩:=zAf h
 exact Kit.zHe (L:=TL) (b:=X) (off:=0) (x:=x) (fun i hi=>by
  have:i=0\/i=1:=by have h2:i<2:=hi;omega
  rcases this with rfl|rfl
  ·exact x0
  ·exact x1) szT qBq
theorem Bx.set (h:Bx w X x) (y:Nat×Nat):(storeVar TT ⟨X,0,none⟩ (tv y)).run Tryz.prog w= .ok () (w.setCells X 0 (TL.cl y))/\Bx (w.setCells X 0 (TL.cl y)) X y:=by
 obtain⟨x0,x1,f0,f1⟩:=zAf h
 refine⟨run_storeVar_mid (P:=Tryz.prog) w X 0 TT (TL.cl y).toArray (fun j hj=> ?_) (by kernel_rfl) (by simp[TL,Value.oneCell']),Kit.zDl _ _ _ _ _ _ _ h⟩
 have:j=0\/j=1:=by have h2:j<2:=hj;omega
 rcases this with rfl|rfl
 ·exact⟨by rw[show 0+0=0 from rfl,x0];rfl,f0⟩
 ·exact⟨by rw[show 0+1=1 from rfl,x1];rfl,f1⟩
theorem Qu.put (h:Qu w R (some ⟨g,0,none⟩) c l) (hX:R≠X) (hg:g≠X) (v:Value):Qu (w.setCell ⟨X,i,none⟩ v) R (some ⟨g,0,none⟩) c l:=
 ⟨(zAa hX).trans h.blk,World.ownsRow.kept h.own (zB1 w X i v) (.inr (by intro e;simp[Value.ownBlock]at e;exact hg e))⟩
theorem StT.put {w':World} (h:StT w w' R) (hb:Bx w' X x) (hX:w.heap.size<=X) (hR:R<=X) (u v:Value):StT w ((w'.setCell ⟨X,0,none⟩ u).setCell ⟨X,1,none⟩ v) R:=by
 refine⟨fun k h1 h2 h3=> ?_,(h.below.setCell (p:=⟨X,0,none⟩) hR u).setCell (p:=⟨X,1,none⟩) hR v⟩
 rw[zAa (by omega),zAa (by omega)]
 exact h.old k h1 h2 h3
theorem zKf (tmps:Array Value) (w:World) (B:Nat) (p:Nat×Nat) (h2:tmps.getD 2 undef= .pointer (some ⟨B,0,none⟩)) (hb:(loadVar TT ⟨B,0,none⟩).run Tryz.prog w= .ok (tv p) w):
  (results Tryz.f178 tmps).run Tryz.prog w= .ok (tv p) w:=by
 rw[Array.getD_eq_getD_getElem?]at h2
 simp[results,Tryz.f178,h2,asAddr,Sem.run_bind,hb,Result.andThen]
structure Seen (m:List (Nat×Nat)) (last i f k:Nat):Prop where
 lo:2*i+1<=k
 hi:k<=2*i+3
 who:f=i\/(2*i+1<=f/\f<k/\f<last/\lq (at_ m f) (at_ m i)=true)
 all:∀j,2*i+1<=j->j<k->j<last->lq (at_ m j) (at_ m f)=false
theorem Seen.no (h:Seen m last i f k) (hk:k<=2*i+2) (hr:lq (at_ m k) (at_ m f)=false):Seen m last i f (k+1):=by
 refine⟨by have:=h.lo;omega,by omega,?_,fun j h1 h2 h3=> ?_⟩
 ·rcases h.who with h1|⟨h1,h2,h3,h4⟩
  ·exact .inl h1
  ·exact .inr ⟨h1,by omega,h3,h4⟩
 ·by_cases e:j=k
  ·subst e;exact hr
  ·exact h.all j h1 (by omega) h3
theorem Seen.yes (h:Seen m last i f k) (hk:k<=2*i+2) (hl:k<last) (hr:lq (at_ m k) (at_ m f)=true):Seen m last i k (k+1):=by
 refine⟨by have:=h.lo;omega,by omega,.inr ⟨h.lo,Nat.lt_succ_self _,hl,?_⟩,fun j h1 h2 h3=> ?_⟩
 ·rcases h.who with h1|⟨h1,h2,h3,h4⟩
  ·rw[<-h1];exact hr
  ·exact zF3.trans _ _ _ hr h4
 ·by_cases e:j=k
  ·subst e;exact zF3.irrefl _
  ·have h4:=h.all j h1 (by omega) h3
   cases h5:lq (at_ m j) (at_ m k)with
   |false=>rfl
   |true=>rw[zF3.trans _ _ _ h5 hr]at h4;cases h4
theorem zTk (R:Nat) (a:Option Addr) (c:Nat) (l:List (Nat×Nat)) (w:World) (hq:Qu w R a c l) (hl0:1<=l.length) (hl:l.length<=1000) (hp:Hp lq l.length (at_ l)):
  Calls Tryz.prog 178 #[.pointer (some ⟨R,0,none⟩)] w fun e w'=>e= .returned (tv (at_ l 0))/\∃a' c' l',Qu w' R a' c' l'/\l.Perm (at_ l 0::l')/\Hp lq l'.length (at_ l')/\StT w w' R:=by
 obtain⟨g,rfl⟩:=hq.here (by omega)
 obtain⟨B,hB⟩:=zB w.heap.size
 have hRB:=hq.lt
 have hgB:=qC4 hq.own
 have hgR:=(zE3 hq.own).1
 have hnc:=(zE3 hq.own).2.1
 rw[hB]at hRB hgB
 obtain⟨W,hW⟩:=zB (w.alloc (.cells #[.int .i64 0,.int .i64 0] TT))
 have zW:W.heap.size=B+1:=by rw[<-hW,zA,hB]
 have hbW:Below B w W:=by rw[<-hW,<-hB];exact(Below.refl _ _).alloc (Nat.le_refl _) _
 have hqW:=(hq.below hbW hB.symm).drew
 have hBW:Bx W.drew B (0,0):=by
  show W.heap[B]? =_
  rw[<-hW,<-hB]
  show(w.heap.push _)[w.heap.size]? =_
  simp
 obtain⟨n,hn⟩:=zB l.length
 obtain⟨last,hlast⟩:=zB (n-1)
 rw[hn]at hl0 hl hp hnc
 obtain⟨p0,hp0⟩:=zB (at_ l 0)
 obtain⟨pl,hpl⟩:=zB (at_ l last)
 have Q0:=zH hqW
 obtain⟨w1,hw1⟩:=zB (W.drew.alloc (.cells #[.int .i64 0,.int .i64 0] TT))
 have z1:w1.heap.size=B+2:=by rw[<-hw1,zA];show W.heap.size+1=_;omega
 have hX1:Bx w1 (B+1) (0,0):=by
  show w1.heap[B+1]? =_
  rw[<-hw1,<-zW]
  show(W.heap.push _)[W.heap.size]? =_
  simp
 have hb1:Below (B+1) W.drew w1:=by rw[<-hw1,<-zW];exact(show Below W.drew.heap.size W.drew _ from(Below.refl _ _).alloc (Nat.le_refl _) _)
 have hq1:=hqW.below hb1 zW.symm
 have hB1:Bx w1 B (0,0):=(hb1.block B (by omega)).trans hBW
 obtain⟨s1,hX2⟩:=hX1.set p0
 obtain⟨w2,hw2⟩:=zB (w1.setCells (B+1) 0 (TL.cl p0))
 rw[hw2]at s1 hX2
 have S1:=zH s1
 have hb2:Below (B+1) w1 w2:=by rw[<-hw2];exact Kit.below_setCells _ _ _ (Below.refl _ _) (Nat.le_refl _)
 have z2:w2.heap.size=B+2:=by rw[<-hw2,Kit.size_setCells,z1]
 have hq2:Qu w2 R (some ⟨g,0,none⟩) c l:=⟨(hb2.block R (by omega)).trans hq1.blk,by
  obtain⟨h1,h2⟩:=hq1.own
  refine⟨h1,?_⟩
  rcases h2 with h2|⟨g',cap,cur,hv,hbg,hgg,r⟩
  ·exact .inl h2
  ·refine .inr ⟨g',cap,cur,hv,hbg,?_,r⟩
   have hv2:=hv
   injection hv2 with ha _ _
   injection ha with ha
   injection ha with ha
   subst ha
   rw[hb2.block g (by omega),hgg]⟩
 have hB2:Bx w2 B (0,0):=(hb2.block B (by omega)).trans hB1
 have hq3:=hq2.drew
 have Q1:=zH hq1
 have Q2:=zH hq2
 have Q3:=zH hq3
 obtain⟨s3,hq4,t4⟩:=hq3.set 0 (by omega) pl
 obtain⟨w4,hw4⟩:=zB (w2.drew.setCells g (0*2) (TL.cl pl))
 rw[hw4]at s3 hq4 t4
 have S3:=zH s3
 have hX4:Bx w4 (B+1) p0:=by rw[<-hw4];exact(Kit.zAo _ _ _ _ _ (by omega)).trans hX2
 have hB4:Bx w4 B (0,0):=by rw[<-hw4];exact(Kit.zAo _ _ _ _ _ (by omega)).trans hB2
 have hl4:(l.set 0 pl).length=n:=by rw[List.length_set,hn]
 obtain⟨y0,_,y2,_⟩:=zAf hq4.blk
 rw[hl4]at y0
 obtain⟨hq5,t5⟩:=hq4.cut last (by rw[hl4];omega)
 obtain⟨w5,hw5⟩:=zB (w4.setCell ⟨R,0,none⟩ (.slice (some ⟨g,0,none⟩) last c))
 rw[hw5]at hq5 t5
 have hX5:Bx w5 (B+1) p0:=by rw[<-hw5];exact(zAa (by omega)).trans hX4
 have hB5:Bx w5 B (0,0):=by rw[<-hw5];exact(zAa (by omega)).trans hB4
 have ecut:(l.set 0 pl).take last=zEa l:=by unfold zEa;rw[hn,hlast,show l.getD last (0,0)=pl from hpl]
 rw[ecut]at hq5
 have hcl:(zEa l).length=last:=by rw[qBb,hn,hlast]
 have T5:=zH (show StT w w5 R from by
  have c1:StT w W.drew R:=(StT.of_below (hB▸hbW) (by omega)).trans (StT.of_below (Below.refl _ _).drew (by omega))
  have c2:StT W.drew w1 R:=⟨fun k h1 _ _=>hb1.block k (by have h2:k<W.heap.size:=h1;omega),hb1.mono (by omega)⟩
  have c3:StT W.drew w2 R:=⟨fun k h1 _ _=>(hb2.block k (by have h2:k<W.heap.size:=h1;omega)).trans (hb1.block k (by have h2:k<W.heap.size:=h1;omega)),(hb1.trans hb2).mono (by omega)⟩
  exact((c1.trans c3).trans (StT.of_below (w':=w2.drew) (Below.refl _ _).drew (by omega))).trans (t4.trans t5))
 have HQ5:=zH hq5
 have HX5:=zH hX5
 have HB5:=zH hB5
 have HD:=zH (show Dn lq last 0 (at_ (zEa l))from Dn.start (n:=last) (by rw[show last+1=n by omega];exact hp) (fun k h1 h2=>qE l k h1 (by omega)))
 have HP:=zH (show l.Perm (p0::zEa l)from hp0▸zYa l (by intro e;rw[e]at hn;simp at hn;omega))
 have HCL:=zH hcl
 have hwrap:IntKind.i64.wrap ((n:Int)-1)=(last:Int):=by rw[show(n:Int)-1=(last:Int)by omega];exact IntWalk.i64_in _ ⟨by omega,by omega⟩
 have HWR:=zH hwrap
 have HWB:=zH hB
 have ZW:=zH (show W.drew.heap.size=B+1 from zW)
 have HW1:=zH hw1
 have HN:=zH hn
 have HP0:=zH hp0
 have HPL:=zH hpl
 rw[hp0]
 clear hq hp hbW hqW hBW hX1 hb1 hq1 hB1 s1 hX2 hb2 hq2 hB2 hq3 s3 hq4 t4 hX4 hB4 hl4 hq5 t5 hX5 hB5 ecut hcl hp0 hpl z1 z2 hw2 hn hwrap hw1 zW
 have hl1:last+1=n:=by omega
 have HL1:=zH hl1
 have hln:last<n:=by omega
 have hlc:last<=c:=by omega
 have hc0:¬c=0:=by omega
 have hnk:n<=1000:=hl
 clear hlast hl1
 go_enter Tryz.func178,Tryz.ntmps178
 go_wp2
 clear hW
 refine zS [] (fun W9=>Qu W9 R (some ⟨g,0,none⟩) c l) [0,1,2,4,8,16,0,64,128,256,512,1024,0,4159,16383] 15<|zu 0 8 (zP R 0)<|zu 1 9 (zP R 0)<|zu 2 10 (zP R 0)<|zu 6 14 (zP R 0)<|zu 7 15 (zP R 0)<|zu 8 16 (zP R 0)<|zy 3 11 (.slice (some ⟨g,0,none⟩) n c) (fun w hS=>zl 297 10 (hS.hd HN.out)) Q0.out<|zv 4 12 (zP g 0) (fun w=>Kit.zAw (t:=297) (x:=(.tmp 11)) (y:=(.const (.int .i64 0))) (g:=g) (n:=n) (c:=c) (k:=(0:Nat)) (sz:=2) rfl (by kernel_rfl) (by kernel_rfl) (by omega) Tryz.underlying297 (fun _=>Tryz.sizeOf295 _) _)<|zy 5 13 (tv p0) (fun w hS=>zl 295 12 (hS.ldx (i:=0) (by rw[HN.out];omega) HP0.out)) Q0.out<|zy 9 17 (.slice (some ⟨g,0,none⟩) n c) (fun w hS=>zl 297 16 (hS.hd HN.out)) Q0.out<|zu 10 18 (zI n)<|zv 11 19 (zI last) (fun w=>Kit.zM6 (x:= .tmp 18) (y:= .const (.int .i64 1)) rfl (by kernel_rfl) (by kernel_rfl) HWR.out _)<|zo 12 3 (.pointer (some ⟨B+1,0,none⟩)) (Kit.zDa (by kernel_rfl) ZW.out HW1.out) (.inr (.inr (Q1.out)))<|zw 13 none (zr 295 3 13 (S1.out)) (.inr (.inr (Q2.out)))<|zp [14]<|zk 4 (zI last)<|zn<|zE<| ?_
 simp only[zP,zI,Act.put,List.setIfInBounds_toArray,List.set_cons_zero,List.set_cons_succ]
 clear S1 Q0 Q1 Q2 ZW HW1
 go_wp2
 refine zS [] (fun _=>True) [0,1,2,4,0,16,32,64,0,384,512,2047,4095] 13<|zp [0,1,2,3,4,5,6,7,8,9,10,11]<|zk 20 (zP R 0)<|zk 21 (zP R 0)<|zk 22 (zP R 0)<|zt 23 (.slice (some ⟨g,0,none⟩) n c) (zl 297 22 (Q3.out.hd HN.out))<|zk 24 (zP R 0)<|zk 25 (zP R 0)<|zk 26 (zP R 0)<|zt 27 (.slice (some ⟨g,0,none⟩) n c) (zl 297 26 (Q3.out.hd HN.out))<|zk 28 (zI last)<|zt 29 (.pointer (some ⟨g,last*2,none⟩)) (Kit.zAw (t:=297) (x:=(.tmp 27)) (y:=(.tmp 28)) (g:=g) (n:=n) (c:=c) (k:=last) (sz:=2) rfl (by kernel_rfl) (by kernel_rfl) (by omega) Tryz.underlying297 (fun _=>Tryz.sizeOf295 _) _)<|zt 30 (tv pl) (zl 295 29 (Q3.out.ldx (by rw[HN.out];omega) HPL.out))<|zt 31 (zP g 0) (Kit.zAw (t:=297) (x:=(.tmp 23)) (y:=(.const (.int .i64 0))) (g:=g) (n:=n) (c:=c) (k:=(0:Nat)) (sz:=2) rfl (by kernel_rfl) (by kernel_rfl) (by omega) Tryz.underlying297 (fun _=>Tryz.sizeOf295 _) _)<|zn<|zw 12 none (zr 295 31 30 (S3.out)) (.inr (.inr trivial))<|zE<| ?_
 simp only[zP,zI,Act.put,List.setIfInBounds_toArray,List.set_cons_zero,List.set_cons_succ]
 clear S3 Q3
 go_wp2
 clear hB
 clear y0 y2 hw5 hw4 hl hl0
 go_loopw [5] (fun iv wr=>∃(i:Nat) (m:List (Nat×Nat)),i<=last/\iv= .int .i64 i/\RowKit.Hid (Qu wr R (some ⟨g,0,none⟩) c m)/\RowKit.Hid (m.length=last)/\RowKit.Hid (l.Perm (p0::m))/\RowKit.Hid (Dn lq last i (at_ m))/\RowKit.Hid (Bx wr (B+1) p0)/\RowKit.Hid (Bx wr B (0,0))/\RowKit.Hid (StT w wr R)) (fun iv _=>last-(intOf iv).toNat)
 case atStart=>exact⟨0,zEa l,by omega,rfl,HQ5,HCL,HP,HD,HX5,HB5,T5⟩
 case round=>
  clear HQ5 HCL HP HD HX5 HB5 T5
  obtain⟨i,m,hi,rfl,hq,hm,hp,hd,hx,hb,hs⟩:=hrel
  obtain⟨wo,rfl⟩:∃wo,wo=wr:=⟨_,rfl⟩
  go_wp2
  go_loopw [6,7] (fun fv kv wr=>∃(f k:Nat),fv= .int .i64 f/\kv= .int .i64 k/\f<=last/\2*i+1<=k/\k<=2*i+3/\RowKit.Hid (Seen m last i f k)/\RowKit.Hid (Below wo.heap.size wo wr)) (fun _ kv _=>2*i+3-(intOf kv).toNat)
  case atStart=>exact⟨i,2*i+1,rfl,by go_num,hi,by omega,by omega,zH ⟨by omega,by omega,.inl rfl,fun j h1 h2=>by omega⟩,zH (Below.refl _ _)⟩
  case round=>
   obtain⟨f,k,rfl,rfl,hf,hk1,hk2,hsn,hbq⟩:=hrel
   have hq2:=hq.out.below hbq.out rfl
   have hx2:Bx wr (B+1) p0:=(hbq.out.block _ (zAd hx.out)).trans hx.out
   have hb2:Bx wr B (0,0):=(hbq.out.block _ (zAd hb.out)).trans hb.out
   have hRw:R<wo.heap.size:=hq.out.lt
   by_cases hA:k<=2*i+2/\k<last
   ·obtain⟨h1,h2⟩:=hA
    have hfl:f<last:=by
     rcases hsn.out.who with h|⟨_,_,h,_⟩
     ·omega
     ·exact h
    have hk3:k<m.length:=by rw[hm.out];exact h2
    have hf3:f<m.length:=by rw[hm.out];exact hfl
    obtain⟨pk,hpk⟩:=zB (at_ m k)
    obtain⟨pf,hpf⟩:=zB (at_ m f)
    have QD:=zH hq2.drew
    have LK:=zH (hq2.drew.ldx hk3 hpk)
    have LF:=zH (hq2.drew.ldx hf3 hpf)
    have HC:=zH (zPg pk pf wr.drew)
    have PK:=zH hpk
    have PF:=zH hpf
    clear hq2 hx2 hb2 hk3 hf3 hpk hpf
    cases hr:lq pk pf with
    |false=>
     rw[hr]at HC
     have HR:=zH (hsn.out.no h1 (by rw[PK.out,PF.out];exact hr))
     clear hr
     go_wp2
     refine zS [] (fun _=>True) [0,1,2,4,0,16,32,64,0,384,512,0,2048,4096,8192,0,49152,65536,132104] 19<|zp [0,1,2,3,4,5,6,7,8,9,10,11,12,13,14,15,16,17]<|zk 57 (zP R 0)<|zk 58 (zP R 0)<|zk 59 (zP R 1)<|zt 60 QF (zl 296 59 (QD.out.fn))<|zk 61 (zP R 0)<|zk 62 (zP R 0)<|zk 63 (zP R 0)<|zt 64 (.slice (some ⟨g,0,none⟩) last c) (zl 297 63 (QD.out.hd hm.out))<|zk 65 (zI k)<|zt 66 (.pointer (some ⟨g,k*2,none⟩)) (Kit.zAw (t:=297) (x:=(.tmp 64)) (y:=(.tmp 65)) (g:=g) (n:=last) (c:=c) (k:=k) (sz:=2) rfl (by kernel_rfl) (by kernel_rfl) (by omega) Tryz.underlying297 (fun _=>Tryz.sizeOf295 _) _)<|zt 67 (tv pk) (zl 295 66 (LK.out))<|zk 68 (zP R 0)<|zk 69 (zP R 0)<|zk 70 (zP R 0)<|zt 71 (.slice (some ⟨g,0,none⟩) last c) (zl 297 70 (QD.out.hd hm.out))<|zk 72 (zI f)<|zt 73 (.pointer (some ⟨g,f*2,none⟩)) (Kit.zAw (t:=297) (x:=(.tmp 71)) (y:=(.tmp 72)) (g:=g) (n:=last) (c:=c) (k:=f) (sz:=2) rfl (by kernel_rfl) (by kernel_rfl) (by omega) Tryz.underlying297 (fun _=>Tryz.sizeOf295 _) _)<|zt 74 (tv pf) (zl 295 73 (LF.out))<|zn<|zc 18 75 176 #[tv pk,tv pf] (.bool false) HC.out<| ?_
     refine fun w5 hb5=>⟨.inr (.inr trivial),?_⟩
     refine zE<| ?_
     simp only[zP,zI,Act.put,List.setIfInBounds_toArray,List.set_cons_zero,List.set_cons_succ]
     have H5:=zH (hbq.out.trans ((show Below wr.heap.size wr w5 from(Below.refl _ _).drew.trans hb5).mono hbq.out.size))
     clear hb5 HC LK LF QD
     go_wp2
     go_roundw
     case rel=>exact⟨f,k+1,rfl,by go_num,hf,by omega,by omega,HR,H5⟩
     case measure=>simp only[intOf];omega
    |true=>
     rw[hr]at HC
     have HR:=zH (hsn.out.yes h1 h2 (by rw[PK.out,PF.out];exact hr))
     clear hr
     go_wp2
     refine zS [] (fun _=>True) [0,1,2,4,0,16,32,64,0,384,512,0,2048,4096,8192,0,49152,65536,132104] 19<|zp [0,1,2,3,4,5,6,7,8,9,10,11,12,13,14,15,16,17]<|zk 57 (zP R 0)<|zk 58 (zP R 0)<|zk 59 (zP R 1)<|zt 60 QF (zl 296 59 (QD.out.fn))<|zk 61 (zP R 0)<|zk 62 (zP R 0)<|zk 63 (zP R 0)<|zt 64 (.slice (some ⟨g,0,none⟩) last c) (zl 297 63 (QD.out.hd hm.out))<|zk 65 (zI k)<|zt 66 (.pointer (some ⟨g,k*2,none⟩)) (Kit.zAw (t:=297) (x:=(.tmp 64)) (y:=(.tmp 65)) (g:=g) (n:=last) (c:=c) (k:=k) (sz:=2) rfl (by kernel_rfl) (by kernel_rfl) (by omega) Tryz.underlying297 (fun _=>Tryz.sizeOf295 _) _)<|zt 67 (tv pk) (zl 295 66 (LK.out))<|zk 68 (zP R 0)<|zk 69 (zP R 0)<|zk 70 (zP R 0)<|zt 71 (.slice (some ⟨g,0,none⟩) last c) (zl 297 70 (QD.out.hd hm.out))<|zk 72 (zI f)<|zt 73 (.pointer (some ⟨g,f*2,none⟩)) (Kit.zAw (t:=297) (x:=(.tmp 71)) (y:=(.tmp 72)) (g:=g) (n:=last) (c:=c) (k:=f) (sz:=2) rfl (by kernel_rfl) (by kernel_rfl) (by omega) Tryz.underlying297 (fun _=>Tryz.sizeOf295 _) _)<|zt 74 (tv pf) (zl 295 73 (LF.out))<|zn<|zc 18 75 176 #[tv pk,tv pf] (.bool true) HC.out<| ?_
     refine fun w5 hb5=>⟨.inr (.inr trivial),?_⟩
     refine zE<| ?_
     simp only[zP,zI,Act.put,List.setIfInBounds_toArray,List.set_cons_zero,List.set_cons_succ]
     have H5:=zH (hbq.out.trans ((show Below wr.heap.size wr w5 from(Below.refl _ _).drew.trans hb5).mono hbq.out.size))
     clear hb5 HC LK LF QD
     go_wp2
     go_roundw
     case rel=>exact⟨k,k+1,rfl,by go_num,by omega,by omega,by omega,HR,H5⟩
     case measure=>simp only[intOf];omega
   ·have hend:∀j,0<j->j<last->(j-1)/2=i->lq (at_ m j) (at_ m f)=false:=fun j h1 h2 h3=>hsn.out.all j (by omega) (by omega) h2
    have hsq:=hs.out.trans (StT.of_below hbq.out (Nat.le_of_lt hRw))
    have hex:¬((k:Int)<=2*(i:Int)+2/\k<last):=by omega
    by_cases hfi:f=i
    ·subst hfi
     have HH:=zH (show Hp lq m.length (at_ m)from by rw[hm.out];exact hd.out.stop hend)
     have HQ:=zH hq2
     have HS:=zH hsq
     obtain⟨x0,x1,x2,x3⟩:=zAf hx2
     obtain⟨b0,b1,b2,b3⟩:=zAf hb2
     have HB2:=zH hb2
     clear hend hsq hq2 hx2 hb2 hq hx hb hd
     by_cases hk4:(k:Int)<=2*(f:Int)+2
     ·have hk5:¬k<last:=by omega
      clear hex hA
      go_wp2
      try simp only[Exit.inBlock,Exit.then]
      have hB2:Bx ((wr.setCell ⟨B,0,none⟩ (.int .i64 (p0.1:Int))).setCell ⟨B,1,none⟩ (.int .i64 (p0.2:Int))) B p0:=by
       unfold Bx
       rw[setBlock 1 (setBlock 0 HB2.out)];rfl
      exact bodyPost_ret (v:=tv p0) (zKf _ _ B p0 rfl hB2.ld) rfl ⟨rfl,_,_,m,(HQ.out.put (by omega) (by omega) _).put (by omega) (by omega) _,hp.out,HH.out,HS.out.put HB2.out (by rw[HWB.out];exact Nat.le_refl _) (by omega) _ _⟩
     ·clear hex hA
      go_wp2
      try simp only[Exit.inBlock,Exit.then]
      have hB2:Bx ((wr.setCell ⟨B,0,none⟩ (.int .i64 (p0.1:Int))).setCell ⟨B,1,none⟩ (.int .i64 (p0.2:Int))) B p0:=by
       unfold Bx
       rw[setBlock 1 (setBlock 0 HB2.out)];rfl
      exact bodyPost_ret (v:=tv p0) (zKf _ _ B p0 rfl hB2.ld) rfl ⟨rfl,_,_,m,(HQ.out.put (by omega) (by omega) _).put (by omega) (by omega) _,hp.out,HH.out,HS.out.put HB2.out (by rw[HWB.out];exact Nat.le_refl _) (by omega) _ _⟩
    ·have hfl:f<last:=by
      rcases hsn.out.who with h|⟨_,_,h,_⟩
      ·omega
      ·exact h
     have hw:=hsn.out.who
     have hcc:0<f/\(f-1)/2=i/\lq (at_ m f) (at_ m i)=true:=by
      rcases hw with h|⟨h1,h2,_,h4⟩
      ·exact absurd h hfi
      ·exact⟨by omega,by omega,h4⟩
     have hil:i<last:=by omega
     have hf3:f<m.length:=by rw[hm.out];exact hfl
     have hi3:i<m.length:=by rw[hm.out];exact hil
     obtain⟨pi,hpi⟩:=zB (at_ m i)
     obtain⟨pf,hpf⟩:=zB (at_ m f)
     have li:=hq2.drew.ldx hi3 hpi
     have lf:=hq2.drew.ldx hf3 hpf
     obtain⟨s1,q6,t6⟩:=hq2.drew.set i hi3 pf
     obtain⟨w6,hw6⟩:=zB (wr.drew.setCells g (i*2) (TL.cl pf))
     rw[hw6]at s1 q6 t6
     obtain⟨s2,q7,t7⟩:=q6.set f (by rw[List.length_set];exact hf3) pi
     obtain⟨w7,hw7⟩:=zB (w6.setCells g (f*2) (TL.cl pi))
     rw[hw7]at s2 q7 t7
     have hx7:Bx w7 (B+1) p0:=by rw[<-hw7,<-hw6];exact(Kit.zAo _ _ _ _ _ (by omega)).trans ((Kit.zAo _ _ _ _ _ (by omega)).trans hx2)
     have hb7:Bx w7 B (0,0):=by rw[<-hw7,<-hw6];exact(Kit.zAo _ _ _ _ _ (by omega)).trans ((Kit.zAo _ _ _ _ _ (by omega)).trans hb2)
     have QD:=zH hq2.drew
     have LI:=zH li
     have LF:=zH lf
     have S1:=zH s1
     have S2:=zH s2
     have X7:=zH hx7
     have B7:=zH hb7
     have T7:=zH ((hsq.trans (StT.of_below (w':=wr.drew) (Below.refl _ _).drew (Nat.le_of_lt hq2.lt))).trans (t6.trans t7))
     have e:(m.set i pf).set f pi=sw m i f:=by unfold sw;rw[show m.getD f (0,0)=pf from hpf,show m.getD i (0,0)=pi from hpi]
     rw[e]at q7
     have Q7:=zH q7
     have HD:=zH (Dn.step (g:=at_ (sw m i f)) zF3 hd.out hcc.1 hfl hcc.2.1 hcc.2.2 hend (qEy m i f hi3 (Ne.symm hfi)) (qEw m i f hf3) (fun j h1 h2=>qEx m i f j h1 h2))
     have HP:=zH (hp.out.trans ((zTd m i f hi3 hf3).symm.cons p0))
     have HM:=zH (show(sw m i f).length=last by rw[zWo];exact hm.out)
     have hif:i<f:=by omega
     clear hend hsq hq2 hx2 hb2 hq hx hb hd hw hcc hf3 hi3 hpi hpf li lf s1 q6 t6 hw6 s2 q7 t7 hw7 hx7 hb7 e
     by_cases hk4:(k:Int)<=2*(i:Int)+2
     ·have hk5:¬k<last:=by omega
      clear hex hA
      go_wp2
      refine zS [] (fun _=>True) [0,1,2,4,0,0,32,64,128,0,0,1024,2048,4096,0,24576,32768,0,131072,262144,524288,0,3145728,4194304,9567519,26344735,67108863,134217727] 28<|zu 9 90 (zI f)<|zp [0,1,2,3,4,5,6,7,8,10,11,12,13,14,15,16,17,18,19,20,21,22,23,24]<|zk 81 (zP R 0)<|zk 82 (zP R 0)<|zk 83 (zP R 0)<|zt 84 (.slice (some ⟨g,0,none⟩) last c) (zl 297 83 (QD.out.hd hm.out))<|zk 85 (zI i)<|zk 86 (zP R 0)<|zk 87 (zP R 0)<|zk 88 (zP R 0)<|zt 89 (.slice (some ⟨g,0,none⟩) last c) (zl 297 88 (QD.out.hd hm.out))<|zk 91 (zP R 0)<|zk 92 (zP R 0)<|zk 93 (zP R 0)<|zt 94 (.slice (some ⟨g,0,none⟩) last c) (zl 297 93 (QD.out.hd hm.out))<|zk 95 (zI f)<|zt 96 (.pointer (some ⟨g,f*2,none⟩)) (Kit.zAw (t:=297) (x:=(.tmp 94)) (y:=(.tmp 95)) (g:=g) (n:=last) (c:=c) (k:=f) (sz:=2) rfl (by kernel_rfl) (by kernel_rfl) (by omega) Tryz.underlying297 (fun _=>Tryz.sizeOf295 _) _)<|zt 97 (tv pf) (zl 295 96 (LF.out))<|zk 98 (zP R 0)<|zk 99 (zP R 0)<|zk 100 (zP R 0)<|zt 101 (.slice (some ⟨g,0,none⟩) last c) (zl 297 100 (QD.out.hd hm.out))<|zk 102 (zI i)<|zt 103 (.pointer (some ⟨g,i*2,none⟩)) (Kit.zAw (t:=297) (x:=(.tmp 101)) (y:=(.tmp 102)) (g:=g) (n:=last) (c:=c) (k:=i) (sz:=2) rfl (by kernel_rfl) (by kernel_rfl) (by omega) Tryz.underlying297 (fun _=>Tryz.sizeOf295 _) _)<|zt 104 (tv pi) (zl 295 103 (LI.out))<|zt 105 (.pointer (some ⟨g,i*2,none⟩)) (Kit.zAw (t:=297) (x:=(.tmp 84)) (y:=(.tmp 85)) (g:=g) (n:=last) (c:=c) (k:=i) (sz:=2) rfl (by kernel_rfl) (by kernel_rfl) (by omega) Tryz.underlying297 (fun _=>Tryz.sizeOf295 _) _)<|zn<|zw 25 none (zr 295 105 97 (S1.out)) (.inr (.inr trivial))<|zp [26]<|zt 106 (.pointer (some ⟨g,f*2,none⟩)) (Kit.zAw (t:=297) (x:=(.tmp 89)) (y:=(.tmp 90)) (g:=g) (n:=last) (c:=c) (k:=f) (sz:=2) rfl (by kernel_rfl) (by kernel_rfl) (by omega) Tryz.underlying297 (fun _=>Tryz.sizeOf295 _) _)<|zn<|zw 27 none (zr 295 106 104 (S2.out)) (.inr (.inr trivial))<|zE<| ?_
      simp only[zP,zI,Act.put,List.setIfInBounds_toArray,List.set_cons_zero,List.set_cons_succ]
      clear S1 S2 LI LF QD
      go_wp2
      go_roundw
      case rel=>exact⟨f,sw m i f,by omega,rfl,Q7,HM,HP,HD,X7,B7,T7⟩
      case measure=>simp only[intOf];omega
     ·clear hex hA
      go_wp2
      refine zS [] (fun _=>True) [0,1,2,4,0,0,32,64,128,0,0,1024,2048,4096,0,24576,32768,0,131072,262144,524288,0,3145728,4194304,9567519,26344735,67108863,134217727] 28<|zu 9 90 (zI f)<|zp [0,1,2,3,4,5,6,7,8,10,11,12,13,14,15,16,17,18,19,20,21,22,23,24]<|zk 81 (zP R 0)<|zk 82 (zP R 0)<|zk 83 (zP R 0)<|zt 84 (.slice (some ⟨g,0,none⟩) last c) (zl 297 83 (QD.out.hd hm.out))<|zk 85 (zI i)<|zk 86 (zP R 0)<|zk 87 (zP R 0)<|zk 88 (zP R 0)<|zt 89 (.slice (some ⟨g,0,none⟩) last c) (zl 297 88 (QD.out.hd hm.out))<|zk 91 (zP R 0)<|zk 92 (zP R 0)<|zk 93 (zP R 0)<|zt 94 (.slice (some ⟨g,0,none⟩) last c) (zl 297 93 (QD.out.hd hm.out))<|zk 95 (zI f)<|zt 96 (.pointer (some ⟨g,f*2,none⟩)) (Kit.zAw (t:=297) (x:=(.tmp 94)) (y:=(.tmp 95)) (g:=g) (n:=last) (c:=c) (k:=f) (sz:=2) rfl (by kernel_rfl) (by kernel_rfl) (by omega) Tryz.underlying297 (fun _=>Tryz.sizeOf295 _) _)<|zt 97 (tv pf) (zl 295 96 (LF.out))<|zk 98 (zP R 0)<|zk 99 (zP R 0)<|zk 100 (zP R 0)<|zt 101 (.slice (some ⟨g,0,none⟩) last c) (zl 297 100 (QD.out.hd hm.out))<|zk 102 (zI i)<|zt 103 (.pointer (some ⟨g,i*2,none⟩)) (Kit.zAw (t:=297) (x:=(.tmp 101)) (y:=(.tmp 102)) (g:=g) (n:=last) (c:=c) (k:=i) (sz:=2) rfl (by kernel_rfl) (by kernel_rfl) (by omega) Tryz.underlying297 (fun _=>Tryz.sizeOf295 _) _)<|zt 104 (tv pi) (zl 295 103 (LI.out))<|zt 105 (.pointer (some ⟨g,i*2,none⟩)) (Kit.zAw (t:=297) (x:=(.tmp 84)) (y:=(.tmp 85)) (g:=g) (n:=last) (c:=c) (k:=i) (sz:=2) rfl (by kernel_rfl) (by kernel_rfl) (by omega) Tryz.underlying297 (fun _=>Tryz.sizeOf295 _) _)<|zn<|zw 25 none (zr 295 105 97 (S1.out)) (.inr (.inr trivial))<|zp [26]<|zt 106 (.pointer (some ⟨g,f*2,none⟩)) (Kit.zAw (t:=297) (x:=(.tmp 89)) (y:=(.tmp 90)) (g:=g) (n:=last) (c:=c) (k:=f) (sz:=2) rfl (by kernel_rfl) (by kernel_rfl) (by omega) Tryz.underlying297 (fun _=>Tryz.sizeOf295 _) _)<|zn<|zw 27 none (zr 295 106 104 (S2.out)) (.inr (.inr trivial))<|zE<| ?_
      simp only[zP,zI,Act.put,List.setIfInBounds_toArray,List.set_cons_zero,List.set_cons_succ]
      clear S1 S2 LI LF QD
      go_wp2
      go_roundw
      case rel=>exact⟨f,sw m i f,by omega,rfl,Q7,HM,HP,HD,X7,B7,T7⟩
      case measure=>simp only[intOf];omega
end Wg
end Go.Proofs.YtppnakkaljbmbaaGreatDoor
