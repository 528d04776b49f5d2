/- Steps of a proof; no condition beyond what each states. -/
import Derived.Test.YtppnakkaljbmbaaGreatDoorZU32
set_option linter.unusedVariables false
set_option linter.unusedSimpArgs false
set_option maxRecDepth 100000
set_option maxHeartbeats 8000000
namespace Go.Proofs.YtppnakkaljbmbaaGreatDoor
namespace Rle
open Go.RowKit Go.Shelf
variable {room:Int}
attribute [local go_sem] Oper.semAt_some
def sl (pre:List T):Nat:=(pre.map List.length).sum
theorem zTf (pre:List T) (x:T):sl (pre++[x])=sl pre+x.length:=by unfold sl;simp
theorem zWv (s:T):sl (pcs s)=s.length:=by
 have:=congrArg List.length (zHv s)
 rw[List.length_flatten]at this
 exact this
theorem zL:∀(pre:List T) (s x:T),pre++[x]<+:pcs s->s.drop (sl pre)≠[]/\zAi (s.drop (sl pre))=x.length
 |[],s,x,h=>by
  have hs:s≠[]:=by
   rintro rfl
   rw[zB6]at h
   have:=h.length_le
   simp at this
  rw[zBq s hs]at h
  have e:x=s.take (zAi s):=by
   obtain⟨t,ht⟩:=h
   simp at ht
   exact ht.1
  refine⟨by simpa [sl]using hs,?_⟩
  rw[e,zDo]
  simp[sl]
 |p::pre,s,x,h=>by
  have hs:s≠[]:=by
   rintro rfl
   rw[zB6]at h
   have:=h.length_le
   simp at this
  rw[zBq s hs,List.cons_append,List.cons_prefix_cons]at h
  have ih:=zL pre (s.drop (zAi s)) x h.2
  have e:sl (p::pre)=zAi s+sl pre:=by
   unfold sl
   rw[List.map_cons,List.sum_cons,h.1,zDo]
  rw[e,<-List.drop_drop]
  exact ih
def zEg (s:T) (room:Int) (pre:List T):Prop:=cut s room=sl pre+cut (s.drop (sl pre)) (room-lens pre)/\ -9223372036854775808<=room-lens pre
theorem zEg.start (s:T) (room:Int) (h: -9223372036854775808<=room):zEg s room []:=⟨by simp[sl,lens],by simpa [lens]using h⟩
theorem zEg.step {s:T} {pre:List T} {x:T} (h:zEg s room pre) (hx:pre++[x]<+:pcs s) (hr:(zAv x.length:Int)<=room-lens pre):zEg s room (pre++[x]):=by
 obtain⟨h1,h2⟩:=zL pre s x hx
 obtain⟨k1,k2⟩:=h
 refine⟨?_,?_⟩
 ·rw[k1,zLn _ _ h1 (by rw[h2];exact hr),h2,List.drop_drop,zTf,zGm]
  rw[show room-(lens pre:Int)-(zAv x.length:Int)=room-((lens pre+zAv x.length:Nat):Int)from by omega]
  omega
 ·rw[zGm];omega
theorem zEg.stop {s:T} {pre:List T} {x:T} (h:zEg s room pre) (hx:pre++[x]<+:pcs s) (hr:¬(zAv x.length:Int)<=room-lens pre):cut s room=sl pre+min (min (max (room-lens pre) 0).toNat 3) x.length:=by
 obtain⟨h1,h2⟩:=zL pre s x hx
 rw[h.1,zGq _ _ h1 (by rw[h2];exact hr),h2]
theorem zEg.all {s:T} (h:zEg s room (pcs s)):cut s room=s.length:=by
 rw[h.1,zWv,List.drop_length,zNu];omega
theorem qEj (s:ByteArray) (room:Int) (hs:s.size<=100000) (hr1: -9223372036854775808<=room) (hr2:room<=9223372036854775807) (w:World):
  Calls Tryz.prog 134 #[.string s,.int .i64 room] w fun e w'=>e= .returned (.int .i64 (cut s.data.toList room:Int))/\Below w.heap.size w w':=by
 refine(callsIn_wide (n:=3)).1 ?_
 refine callsIn_of_wp_marks Tryz.func134 rfl trivial ?_ rfl
 simp only[Tryz.ntmps134,List.size_toArray,List.length_cons,List.length_nil,Nat.reduceAdd,Nat.reduceSub,Array.replicate_succ,Array.replicate_zero,List.push_toArray,List.append_toArray,List.nil_append,List.cons_append]
 gi_wp2_with fail
 refine⟨trivial,(callsIn_wide.2 (zHt s _)).mono ?_⟩
 rintro e w1 ⟨rfl,rfl⟩
 gi_wp2
 have hv3:=((Var.new w (.int .i64 room) 3).alloc (.cells #[.int .i64 0] 3)).alloc (.cells #[.string s] 9)
 have hv4:=(Var.new (w.alloc (.cells #[.int .i64 room] 3)) (.int .i64 0) 3).alloc (.cells #[.string s] 9)
 have hbox:=Boxed.new ((w.alloc (.cells #[.int .i64 room] 3)).alloc (.cells #[.int .i64 0] 3)) 9 (.string s)
 obtain⟨W0,hW0⟩:=zB (((w.alloc (.cells #[.int .i64 room] 3)).alloc (.cells #[.int .i64 0] 3)).alloc (.cells #[.string s] 9))
 have hsz:W0.heap.size=w.heap.size+3:=by rw[<-hW0];simp
 have hB0:Below w.heap.size w W0:=by rw[<-hW0];exact(((Below.refl _ w).alloc (Nat.le_refl _) _).alloc (by simp) _).alloc (by simp;omega) _
 rw[hW0]at hv3 hv4 hbox⊢
 simp only[World.size_alloc]at hbox hv4
 have HV3:=zH hv3
 have HV4:=zH hv4
 have HBOX:=zH hbox
 have HB0:=zH hB0
 have hLen:=(zBu s.data.toList).1
 rw[zAl]at hLen
 have hLs:Len s.data.toList<=125000:=by omega
 have n3:w.heap.size≠w.heap.size+1+1:=by omega
 have n4:w.heap.size+1≠w.heap.size+1+1:=by omega
 have n34:w.heap.size≠w.heap.size+1:=by omega
 clear hv3 hv4 hbox hB0 hW0 hLen
 refine zDt (gf:=149) (lb:= #[.pointer (some ⟨w.heap.size+1+1,0,none⟩)]) rfl (enters_of Tryz.func149 (by kernel_rfl) rfl) (fun p:T=> .string (bs p)) (w.heap.size+1+1) (by omega) (pcs s.data.toList)
  (fun W hW=>zHs _ s hs W ((hW.block _ (by omega)).trans HBOX.out))
  (fun pre W=>Var W w.heap.size (.int .i64 (room-lens pre))/\Var W (w.heap.size+1) (.int .i64 (sl pre:Int))/\Below w.heap.size w W/\W0.heap.size<=W.heap.size/\zEg s.data.toList room pre)
  (fun c pre W=>c= .ret/\Var W (w.heap.size+1) (.int .i64 (cut s.data.toList room:Int))/\Below w.heap.size w W/\W0.heap.size<=W.heap.size)
  (fun pre W l o o' hl ho hc hi=>⟨hi.1.put o' ho hc,hi.2.1.put o' ho hc,zAu o' hi.2.2.1 ho (by omega) (by omega),by rw[World.putObj];simpa using hi.2.2.2.1,hi.2.2.2.2⟩)
  (fun c pre W l o o' hl ho hc hi=>⟨hi.1,hi.2.1.put o' ho hc,zAu o' hi.2.2.1 ho (by omega) (by omega),by rw[World.putObj];simpa using hi.2.2.2⟩)
  (fun pre A B hi ho=>⟨hi.1.zLc ho n3,hi.2.1.zLc ho n4,zIh hi.2.2.1 ho (by omega),Nat.le_trans hi.2.2.2.1 ho.keeps.size,hi.2.2.2.2⟩)
  (fun o o'=>⟨by simpa [lens]using(HV3.out.alloc o).alloc o',by simpa [sl]using(HV4.out.alloc o).alloc o',(HB0.out.alloc (by omega) o).alloc (by simp;omega) o',by simp;omega,zEg.start _ _ hr1⟩)
  (fun x=>{tmps:= #[.string s,.int .i64 room,undef,.pointer (some ⟨w.heap.size,0,none⟩),.pointer (some ⟨w.heap.size+1,0,none⟩),.string (bs x),undef,.string s,.func (.func 149) #[] #[.pointer (some ⟨w.heap.size+1+1,0,none⟩)],.string (bs x),undef,undef,undef,undef,undef,undef,undef,undef,undef,undef,undef,undef,undef,undef,undef,undef,undef,undef,undef,undef,undef],defers:=[]}) ?assign ?body ?done ?stop
 case assign=>
  intro l x W K hK
  gi_wp2
  exact hK
 case body=>
  rintro l pre x W hsW ⟨hv3,hv4,hB,hz,hcut⟩ hpre
  obtain⟨f1,f2,f3,f4⟩:=zGy hpre
  have hbx:=zCh x
  have f5:sl pre+x.length<=s.data.toList.length:=f4
  rw[zAl]at f5
  have hb1:=hcut.2
  have hb2:room-(lens pre:Int)<=9223372036854775807:=by omega
  obtain⟨R,hR⟩:=zB (room-(lens pre:Int))
  rw[hR]at hv3 hb1 hb2
  have hc3:=hv3.cell
  have hf3:=hv3.free
  have hc4:=hv4.cell
  have hf4:=hv4.free
  have HV3:=zH hv3
  have HV4:=zH hv4
  have HR:=zH hR
  have HCUT:=zH hcut
  have hpl:=zTl x.length
  obtain⟨pl,hpl2⟩:=zB (zAv x.length)
  have HPL:=zH hpl2
  rw[hpl2]at hpl
  clear f3 f4 hv3 hv4 hR hcut hpl2
  by_cases hfit:(pl:Int)<=R
  ·gi_wp2_with fail
   refine⟨trivial,(CallsIn.inRound l (callsIn_wide.2 (zH3 x.length (by omega) _))).mono ?_⟩
   rintro e w1 ⟨rfl,rfl⟩
   rw[HPL.out]
   gi_wp2
   have v3:=(HV3.out.set (.int .i64 (R-(pl:Int)))).other (c:=w.heap.size+1) (.int .i64 ((sl pre:Int)+(x.length:Int))) n34
   have v4:=(HV4.out.other (c:=w.heap.size) (.int .i64 (R-(pl:Int))) (Ne.symm n34)).set (.int .i64 ((sl pre:Int)+(x.length:Int)))
   refine⟨(KeepsOthers.setCell _ _ _).trans (KeepsOthers.setCell _ _ _),?_,?_,?_,?_,?_,?_⟩
   ·exact(Below.heap_setCell _ _ _ _ (Ne.symm n4)).trans (Below.heap_setCell _ _ _ _ (Ne.symm n3))
   ·rw[zGm,HPL.out,Int.natCast_add,<-Int.sub_sub,HR.out];exact v3
   ·rw[zTf,Int.natCast_add];exact v4
   ·exact(hB.setCell (p:=⟨w.heap.size,0,none⟩) (Nat.le_refl _) _).setCell (p:=⟨w.heap.size+1,0,none⟩) (by simp) _
   ·simp[World.setCell];exact hz
   ·exact HCUT.out.step hpre (by rw[HPL.out,HR.out];exact hfit)
  ·gi_wp2_with fail
   refine⟨trivial,(CallsIn.inRound l (callsIn_wide.2 (zH3 x.length (by omega) _))).mono ?_⟩
   rintro e w1 ⟨rfl,rfl⟩
   rw[HPL.out]
   obtain⟨q,hq⟩:∃q:Nat,max R 0=(q:Int):=Int.eq_ofNat_of_zero_le (by omega)
   obtain⟨q3,hq3,_,_,hq3e⟩:=Kit.zJ3 q 3 3 rfl
   have hstop:=HCUT.out.stop hpre (by rw[HPL.out,HR.out];omega)
   have hfin:(sl pre:Int)+(q3:Int)=(cut s.data.toList room:Int):=by
    rw[hstop,HR.out,hq3e.out]
    have e1:(max R 0).toNat=q:=by omega
    rw[e1]
    have e2:pl=x.length\/(pl=5/\4<=x.length):=by
     rw[<-HPL.out];unfold zAv;split<;>omega
    omega
   have HFIN:=zH hfin
   clear hfin hstop
   gi_wp2
   rw[HFIN.out]
   exact⟨KeepsOthers.setCell _ _ _,rfl,HV4.out.set _,hB.setCell (p:=⟨w.heap.size+1,0,none⟩) (by simp) _,by simp[World.setCell];exact hz⟩
 case done=>
  rintro D W hD ⟨hv3,hv4,hB,hz,hcut⟩ hK
  have hc:=hv4.cell
  have hf:=hv4.free
  have HV:=zH hv4
  clear hv3 hv4
  gi_wp2
  have hK':=(KeepsOthers.setCell W ⟨w.heap.size+1,0,none⟩ (.int .i64 (sl (pcs s.data.toList):Int))).same D _ hK rfl
  refine⟨by simp,.inl ⟨_,_,rfl,run_takeDeferred hK',?_⟩⟩
  have hv5:=(HV.out.set (.int .i64 (sl (pcs s.data.toList):Int))).put (.deferred none) hK' rfl
  have hc5:=hv5.cell
  refine⟨.int .i64 (cut s.data.toList room:Int),?_,rfl,?_⟩
  ·rw[hcut.all,<-zWv];simp[results,Tryz.f134,go_sem,hc5]
  ·exact zAu _ (hB.setCell (p:=⟨w.heap.size+1,0,none⟩) (by simp) _) hK' (by omega) (by simp[World.setCell];omega)
 case stop=>
  rintro D c pre W hD _ ⟨rfl,hv,hB,hz⟩ hK
  have hc:=hv.cell
  have hf:=hv.free
  have HV:=zH hv
  gi_wp2
  refine⟨by simp,.inl ⟨_,_,rfl,run_takeDeferred hK,?_⟩⟩
  have hc5:=(HV.out.put (.deferred none) hK rfl).cell
  refine⟨.int .i64 (cut s.data.toList room:Int),?_,rfl,zAu _ hB hK (by omega) (by omega)⟩
  simp[results,Tryz.f134,go_sem,hc5]
end Rle
namespace Rle
open Go.RowKit
variable {w:World}
theorem zWh {l m:T} {n:Nat} (h:n<=l.length):(l++m).take n=l.take n:=by rw[List.take_append_of_le_length h]
theorem Bld.drewN {B b:Nat} {l:T} (h:Bld w B b l) (n:Nat):Bld (w.drewN n) B b l:=
 h.kept (row:=none) ⟨rfl,rfl,rfl,Nat.le_refl _,fun _ _ _=>rfl⟩ (fun r e=>by cases e)
theorem zIy {a:World} {b:Option Nat} (h:Lib.OthersKept TY b a w) (n:Nat):Lib.OthersKept TY b a (w.drewN n):=h
theorem zHo (B b k:Nat) (c:UInt8) (n:Nat) (full:T) (most:Int) (lim:Nat) (hlim:(max most 0).toNat+1=lim) (W:World) (h:Bld W B b (full.take lim)) (hm:Boxed W k 3 (.int .i64 most)) (hk:k≠b) (hB:B<=W.heap.size)
  (hn:n<=255) (hf:full.length<=1000000):
  Calls Tryz.prog 114 #[.int .u8 (c.toNat:Int),.int .i64 (n:Int),.pointer (some ⟨b,0,none⟩),.pointer (some ⟨k,0,none⟩)] W fun e w'=>
   e= .returned (.tuple #[])/\Bld w' B b ((full++List.replicate n c).take lim)/\Below B W w'/\Lib.OthersKept TY (some b) W w'/\W.heap.size<=w'.heap.size:=by
 obtain⟨mx,hmx⟩:∃mx:Nat,max most 0=(mx:Int):=Int.eq_ofNat_of_zero_le (by omega)
 have hmx2:(if(0:Int)>most then(0:Int)else most)=(mx:Int):=by rw[<-hmx];split<;>omega
 have hl:lim=mx+1:=by omega
 have HB:=zH h
 have HM:=zH hm
 have HL:=zH hl
 clear h hm hl hlim
 go_enter Tryz.func114,Tryz.ntmps114
 go_wp2
 go_loopw [7] (fun i wr=>∃j:Nat,j<=n/\i= .int .i64 j/\RowKit.Hid (Bld wr B b ((full++List.replicate j c).take lim))/\RowKit.Hid (Below B W wr)/\RowKit.Hid (Lib.OthersKept TY (some b) W wr)/\W.heap.size<=wr.heap.size) (fun i _=>n-(intOf i).toNat)
 case atStart=>exact⟨0,by omega,rfl,by rw[List.replicate_zero,List.append_nil];exact HB,zH (Below.refl _ _),zH (Lib.OthersKept.refl _ _ _),Nat.le_refl _⟩
 case round=>
  obtain⟨j,hj,rfl,hb,hbel,hok,hz⟩:=hrel
  have hbx:Boxed wr k 3 (.int .i64 most):=(zDg hok.out HM.out hk (by decide)).trans HM.out
  have hcm:=hbx.cell
  have hll:((full++List.replicate j c).take lim).length=min lim (full.length+j):=by rw[List.length_take,List.length_append,List.length_replicate]
  obtain⟨L,hL⟩:=zB ((full++List.replicate j c).take lim)
  rw[hL]at hb hll
  have HLE:=zH hL
  obtain⟨ln,hln⟩:=zB L.length
  rw[hln]at hll
  have HLN:=zH hln
  have HLL:=zH hll
  have CL:=zTw B b L
  rw[hln]at CL
  have HCL:=zH CL
  clear hL hln hll hbx CL
  by_cases hlt:j<n
  ·have hln2:ln<=1001000:=by have:=HLL.out;omega
   by_cases hroom:mx<ln
   ·have hd:decide ((mx:Int)<(ln:Int))=true:=by simpa using hroom
    go_wp2
    go_quiet ((go_at_call 115;exact Calls.quiet_of_same (HCL.out _ (hb.out.drewN _))))
    go_wp2
    refine bodyPost_ret (results_none rfl _ _ _) rfl ⟨rfl,?_,below_drewN hbel.out _,zIy hok.out _,hz⟩
    have h1:lim<=full.length+j:=by have:=HLL.out;have:=HL.out;omega
    have e:(full++List.replicate n c).take lim=L:=by
     rw[<-HLE.out]
     have e2:List.replicate n c=List.replicate j c++List.replicate (n-j) c:=by rw[List.replicate_append_replicate];congr 1;omega
     rw[e2,<-List.append_assoc,zWh (by rw[List.length_append,List.length_replicate];exact h1)]
    rw[e]
    exact hb.out.drewN _
   ·have hd:decide ((mx:Int)<(ln:Int))=false:=by simpa using hroom
    go_wp2
    go_quiet ((go_at_call 115;exact Calls.quiet_of_same (HCL.out _ (hb.out.drewN _))))
    have hzq:B<=(wr.drewN nq).heap.size:=by have:=hz;show B<=wr.heap.size;omega
    go_wp2_with fail
    refine(zE7 B b L c _ (hb.out.drewN nq) (by rw[HLN.out];omega) hzq).mono ?_
    rintro e w2 ⟨rfl,h2,hb2,hk2,hz2⟩
    have H2:=zH h2
    clear h2
    go_wp2
    go_roundw
    case rel=>
     refine⟨j+1,by omega,by go_num,?_,zH ((below_drewN hbel.out nq).trans hb2),zH ((zIy hok.out nq).trans hk2),Nat.le_trans hz hz2⟩
     have h1:full.length+j<lim:=by have:=HLL.out;have:=HL.out;omega
     have e:(full++List.replicate (j+1) c).take lim=L++[c]:=by
      rw[<-HLE.out,List.replicate_succ',<-List.append_assoc,List.take_of_length_le (by simp;omega),List.take_of_length_le (l:=full++List.replicate j c) (by simp;omega)]
     rw[e]
     exact H2
    case measure=>simp[intOf];omega
  ·obtain rfl:j=n:=by omega
   go_wp2
   go_end0
   exact⟨rfl,by rw[HLE.out];exact hb.out,hbel.out,hok.out,hz⟩
end Rle
namespace Rle
open Go.RowKit
variable {c:UInt8}
theorem zYy (s:T):(zCm s).2.2.length<=52*s.length:=by have:=(zKe s).2.1;omega
theorem zYx (s:T):(zCm s).1<=4:=(zKe s).1
theorem zYw {st:U} (h:st.1=4):ust st c=(0,st.2.1,st.2.2++List.replicate c.toNat st.2.1):=by unfold ust;rw[if_pos h]
theorem zYv {st:U} (h:¬st.1=4) (h1:0<st.1) (h2:c=st.2.1):ust st c=(st.1+1,st.2.1,st.2.2++[st.2.1]):=by unfold ust;rw[if_neg h,if_pos ⟨h1,h2⟩]
theorem qCn {st:U} (h:¬st.1=4) (h1:¬(0<st.1/\c=st.2.1)):ust st c=(1,c,st.2.2++[c]):=by unfold ust;rw[if_neg h,if_neg h1]
theorem zHn (B b k:Nat) (c:UInt8) (full:T) (most:Int) (lim:Nat) (hlim:(max most 0).toNat+1=lim) (W:World) (h:Bld W B b (full.take lim)) (hm:Boxed W k 3 (.int .i64 most)) (hk:k≠b) (hB:B<=W.heap.size) (hf:full.length<=1000000):
  Calls Tryz.prog 114 #[.int .u8 (c.toNat:Int),.int .i64 1,.pointer (some ⟨b,0,none⟩),.pointer (some ⟨k,0,none⟩)] W fun e w'=>
   e= .returned (.tuple #[])/\Bld w' B b ((full++[c]).take lim)/\Below B W w'/\Lib.OthersKept TY (some b) W w'/\W.heap.size<=w'.heap.size:=
 zHo B b k c 1 full most lim hlim W h hm hk hB (by omega) hf
def zIi (s:T) (most:Int) (w:World) (e:Ending) (w':World):Prop:=
 e= .returned (.tuple #[.string (bs (zHr s most)),.int .i64 (zEw s most)])/\Below w.heap.size w w'
theorem zM0 (s:ByteArray) (most:Int) (hs:s.size<=10000) (hm1: -9223372036854775808<=most) (hm2:most<=9223372036854775807) (w:World):
  Calls Tryz.prog 40 #[.string s,.int .i64 most] w (zIi s.data.toList most w):=by
 obtain⟨lim,hlim⟩:=zB ((max most 0).toNat+1)
 have HLIM:=zH hlim
 clear hlim
 have hnil:bs []=(⟨#[]⟩:ByteArray):=by unfold bs;rfl
 have HNIL:=zH hnil
 clear hnil
 go_enter Tryz.func40,Tryz.ntmps40
 go_wp2
 have hv:=Bld.new (w.alloc (.cells #[.int .i64 most] 3))
 have hbox:=(Boxed.new w 3 (.int .i64 most)).alloc (.cells #[.pointer none,.slice none 0 0] 120)
 obtain⟨W0,hW0⟩:=zB ((w.alloc (.cells #[.int .i64 most] 3)).alloc (.cells #[.pointer none,.slice none 0 0] 120))
 have hsz:W0.heap.size=w.heap.size+2:=by rw[<-hW0];simp
 have hB0:Below w.heap.size w W0:=by rw[<-hW0];exact((Below.refl _ w).alloc (Nat.le_refl _) _).alloc (by simp) _
 rw[hW0]at hv hbox⊢
 rw[World.size_alloc]at hv
 have HV:=zH hv
 have HBOX:=zH hbox
 have HB0:=zH hB0
 have n1:w.heap.size≠w.heap.size+1:=by omega
 clear hv hbox hB0 hW0
 go_loopw [8,9,14] (fun rv lv i wr=>∃(k r:Nat) (c:UInt8) (o:T),k<=s.size/\i= .int .i64 k/\rv= .int .i64 (r:Int)/\lv= .int .u8 (c.toNat:Int)/\RowKit.Hid (zCm (s.data.toList.take k)=(r,c,o))/\RowKit.Hid (Bld wr (w.heap.size+1) (w.heap.size+1) (o.take lim))/\RowKit.Hid (Below w.heap.size w wr)/\RowKit.Hid (Lib.OthersKept TY (some (w.heap.size+1)) W0 wr)/\W0.heap.size<=wr.heap.size) (fun _ _ i _=>s.size-(intOf i).toNat)
 case atStart=>exact⟨0,0,0,[],by omega,rfl,rfl,rfl,zH rfl,zH (by simpa using HV.out),HB0,zH (Lib.OthersKept.refl _ _ _),Nat.le_refl _⟩
 case round=>
  obtain⟨k,r,c,o,hk,rfl,rfl,rfl,hst,hb,hbel,hok,hz⟩:=hrel
  have hbx:Boxed wr w.heap.size 3 (.int .i64 most):=(zDg hok.out HBOX.out n1 (by decide)).trans HBOX.out
  have hol:o.length<=520000:=by
   have h:=zYy (s.data.toList.take k)
   rw[hst.out,List.length_take,zAl]at h
   simp only at h
   omega
  have hr4:r<=4:=by have h:=zYx (s.data.toList.take k);rw[hst.out]at h;exact h
  have HBX:=zH hbx
  have hzz:w.heap.size+1<=wr.heap.size:=by omega
  clear hbx
  by_cases hlt:k<s.size
  ·have hsn:zCm (s.data.toList.take (k+1))=ust (r,c,o) (s[k]'hlt):=by
    rw[List.take_succ_eq_append_getElem (by rw[zAl];exact hlt),zV9,hst.out];rfl
   have HSN:=zH hsn
   have hbe:=zLo s[k] c
   have hk255:s[k].toNat<=255:=by have:=s[k].toNat_lt;omega
   clear hsn
   by_cases h4:r=4
   ·have ht:((r:Int)==4)=true:=by rw[h4];rfl
    have H4:=zH h4
    have hu:=zYw (st:=(r,c,o)) (c:=s[k]) h4
    have HU:=zH hu
    clear h4 hu hbe
    go_wp2_with fail
    refine(zHo (w.heap.size+1) (w.heap.size+1) w.heap.size c s[k].toNat o most lim HLIM.out _ hb.out HBX.out n1 hzz hk255 (by omega)).mono ?_
    rintro e w2 ⟨rfl,h2,hb2,hk2,hz2⟩
    have H2:=zH h2
    have HB2:=zH (hbel.out.trans (hb2.mono (by omega)))
    have HK2:=zH (hok.out.trans hk2)
    clear h2 hb2 hk2
    go_wp2
    go_roundw
    case rel=>exact⟨k+1,0,c,_,by omega,by go_num,rfl,rfl,zH (by rw[HSN.out,HU.out]),H2,HB2,HK2,by omega⟩
    case measure=>simp[intOf];omega
   ·have ht:((r:Int)==4)=false:=by simp;omega
    have H4:=zH h4
    clear h4
    by_cases hm:0<r/\s[k]=c
    ·obtain⟨h0,hc⟩:=hm
     have hu:=zYv (st:=(r,c,o)) (c:=s[k]) H4.out h0 hc
     rw[decide_eq_true hc]at hbe
     have HU:=zH hu
     clear hu hc
     go_wp2_with fail
     refine(zHn (w.heap.size+1) (w.heap.size+1) w.heap.size c o most lim HLIM.out _ hb.out HBX.out n1 hzz (by omega)).mono ?_
     rintro e w2 ⟨rfl,h2,hb2,hk2,hz2⟩
     have H2:=zH h2
     have HB2:=zH (hbel.out.trans (hb2.mono (by omega)))
     have HK2:=zH (hok.out.trans hk2)
     clear h2 hb2 hk2
     go_wp2
     go_roundw
     case rel=>exact⟨k+1,r+1,c,_,by omega,by go_num,by go_num,rfl,zH (by rw[HSN.out,HU.out]),H2,HB2,HK2,by omega⟩
     case measure=>simp[intOf];omega
    ·have hu:=qCn (st:=(r,c,o)) (c:=s[k]) H4.out hm
     have HU:=zH hu
     have hways:r=0\/(0<r/\¬s[k]=c):=by
      by_cases h0:r=0
      ·exact .inl h0
      ·exact .inr ⟨by omega,fun h=>hm ⟨by omega,h⟩⟩
     clear hu hm
     rcases hways with h0|⟨h0,hc⟩
     all_goals
      try rw[decide_eq_false hc]at hbe
      try clear hc
      try(have hgt:¬0<r:=(by omega);clear h0)
      go_wp2_with fail
      refine(zHn (w.heap.size+1) (w.heap.size+1) w.heap.size s[k] o most lim HLIM.out _ hb.out HBX.out n1 hzz (by omega)).mono ?_
      rintro e w2 ⟨rfl,h2,hb2,hk2,hz2⟩
      have H2:=zH h2
      have HB2:=zH (hbel.out.trans (hb2.mono (by omega)))
      have HK2:=zH (hok.out.trans hk2)
      clear h2 hb2 hk2
      go_wp2
      go_roundw
      case rel=>exact⟨k+1,1,s[k],_,by omega,by go_num,rfl,rfl,zH (by rw[HSN.out,HU.out]),H2,HB2,HK2,by omega⟩
      case measure=>simp[intOf];omega
  ·have hfull:s.data.toList.take k=s.data.toList:=List.take_of_length_le (by rw[zAl];omega)
   have hst2:=hst.out
   rw[hfull]at hst2
   have HST:=zH hst2
   have cl:=zTw (w.heap.size+1) (w.heap.size+1) (o.take lim)
   have hln:(o.take lim).length=min lim o.length:=by rw[List.length_take]
   obtain⟨ln,hln0⟩:=zB ((o.take lim).length)
   rw[hln0]at cl hln
   have CL:=zH cl
   have HLN:=zH hln
   clear cl hln hln0
   have hcm:=HBX.out.cell
   clear hfull hst2
   by_cases h4:r=4
   ·have ht:((r:Int)==4)=true:=by rw[h4];rfl
    have hcd:zEw s.data.toList most=3:=by unfold zEw;rw[HST.out,if_pos h4]
    have hrs:zHr s.data.toList most=[]:=by unfold zHr;rw[hcd];rfl
    have HCD:=zH hcd
    have HRS:=zH hrs
    clear h4 hcd hrs
    go_wp2
    go_ret2
    exact⟨by rw[HCD.out,HRS.out,HNIL.out];rfl,hbel.out⟩
   ·have ht:((r:Int)==4)=false:=by simp;omega
    by_cases hlong:most<(o.length:Int)
    ·have hd:most<(ln:Int):=by
      have h1:=HLIM.out
      have h2:=HLN.out
      omega
     have hcd:zEw s.data.toList most=4:=by unfold zEw;rw[HST.out,if_neg h4,if_pos hlong]
     have hrs:zHr s.data.toList most=[]:=by unfold zHr;rw[hcd];rfl
     have HCD:=zH hcd
     have HRS:=zH hrs
     clear h4 hcd hrs hlong
     go_wp2
     go_quiet ((go_at_call 115;exact Calls.quiet_of_same (CL.out _ (hb.out.drewN _))))
     go_wp2
     go_ret2
     exact⟨by rw[HCD.out,HRS.out,HNIL.out];rfl,below_drewN hbel.out _⟩
    ·have hd:¬most<(ln:Int):=by
      have h2:=HLN.out
      omega
     have hcd:zEw s.data.toList most=0:=by unfold zEw;rw[HST.out,if_neg h4,if_neg hlong]
     have hrs:zHr s.data.toList most=o:=by unfold zHr;rw[if_pos hcd,HST.out]
     have htk:o.take lim=o:=List.take_of_length_le (by have:=HLIM.out;omega)
     have HCD:=zH hcd
     have HRS:=zH hrs
     have HTK:=zH htk
     clear h4 hcd hrs hlong htk
     go_wp2
     go_quiet ((go_at_call 115;exact Calls.quiet_of_same (CL.out _ (hb.out.drewN _))))
     go_wp2_with fail
     refine(zD0 (w.heap.size+1) (w.heap.size+1) (o.take lim) _ (hb.out.drewN nq) hzz).mono ?_
     rintro e w2 ⟨rfl,hb2,hk2⟩
     rw[HTK.out]
     go_wp2
     go_ret2
     exact⟨by rw[HCD.out,HRS.out,<-qCh];rfl,(below_drewN hbel.out nq).trans (hb2.mono (by omega))⟩
end Rle
namespace Rle
open Go.RowKit
open Kit (zAe)
@[irreducible] def pk (c n:Int):Int:=if c<0 then-(c+1)%n else c%n
theorem qH (c n:Int) (h:1<=n):0<=pk c n:=by
 unfold pk;split<;>exact Int.emod_nonneg _ (by omega)
theorem qHa (c n:Int) (h:1<=n):pk c n<n:=by
 unfold pk;split<;>exact Int.emod_lt_of_pos _ (by omega)
theorem zHu (c n:Int) (w:World) (h1: -9223372036854775808<=c) (h2:c<=9223372036854775807) (h3:1<=n) (h4:n<=9223372036854775807):
  Calls Tryz.prog 66 #[.int .i64 c,.int .i64 n] w fun e w'=>e= .returned (.int .i64 (pk c n))/\w=w':=by
 have hpk:pk c n=if c<0 then-(c+1)%n else c%n:=by unfold pk;rfl
 have HP:=zH hpk
 clear hpk
 have hn:(n==0)=false:=by simp;omega
 by_cases hc:c<0
 all_goals
  go_enter Tryz.func66,Tryz.ntmps66
  go_wp2
  go_ret
  refine⟨zBw ?_,rfl⟩
  rw[HP.out]
  first
   |(rw[if_pos hc,<-Int.neg_tmod,Int.tmod_eq_emod_of_nonneg (by omega)])
   |rw[if_neg (by omega)]
theorem zQu (c:Int) (n:Nat) (h1: -9223372036854775808<=c) (h2:c<=9223372036854775807) (h3:1<=n) (h4:n<=1000000) (N:Int) (hN:N=(n:Int)):
  ∃q:Nat,q<n/\∀w:World,Calls Tryz.prog 66 #[.int .i64 c,.int .i64 N] w fun e w'=>e= .returned (.int .i64 (q:Int))/\w=w':=by
 subst hN
 obtain⟨q,hq⟩:=Int.eq_ofNat_of_zero_le (qH c (n:Int) (by omega))
 have hh:=qHa c (n:Int) (by omega)
 refine⟨q,by omega,?_⟩
 rw[<-hq]
 exact fun w=>zHu c (n:Int) w h1 h2 (by omega) (by omega)
def zGg (q:Nat):UInt8:=([0,1,4,97,98,255]:T).getD q 0
theorem zZr (w:World) (q:Nat) (hq:q<6):(w.alloc (.cells #[.int .u8 0,.int .u8 1,.int .u8 4,.int .u8 97,.int .u8 98,.int .u8 255] 5)).cell? ⟨w.heap.size,q,none⟩=some (.int .u8 ((zGg q).toNat:Int)):=by
 match q,hq with
 |0,_=>simp[zGg]
 |1,_=>simp[zGg]
 |2,_=>simp[zGg]
 |3,_=>simp[zGg]
 |4,_=>simp[zGg]
 |5,_=>simp[zGg]
def qBv (most:Nat) (w:World) (e:Ending) (w':World):Prop:=∃u:ByteArray,e= .returned (.string u)/\u.size<=most/\Below w.heap.size w w'
theorem qBu (a:Option Addr) (len cap:Nat) (g:Nat->Int×Int) (most:Nat) (hm:most<=1000) (M:Int) (hM:M=(most:Int)) (w:World) (h:Kit.zEq .i64 w a len cap g):
  Calls Tryz.prog 16 #[.slice a len cap,.int .i64 M] w (qBv most w):=by
 subst hM
 obtain⟨hlc,hcm,hg⟩:=h
 have HG:=zH hg
 unfold maxLen at hcm
 clear hg
 go_enter Tryz.func16,Tryz.ntmps16
 go_wp2
 go_loopw [5,6] (fun o i wr=>∃(k:Nat) (u:ByteArray),k<=len/\i= .int .i64 k/\o= .string u/\u.size<=most/\Below w.heap.size w wr) (fun _ i _=>len-(intOf i).toNat)
 case atStart=>exact⟨0,⟨#[]⟩,by omega,rfl,rfl,Nat.zero_le _,Below.refl _ _⟩
 case round=>
  obtain⟨k,u,hk,rfl,rfl,hu,hb⟩:=hrel
  by_cases hc:k<len/\u.size<most
  ·obtain⟨hc1,hc2⟩:=hc
   obtain⟨b,off,rfl,h0,h1,hw0,hw1⟩:=HG.out k hc1
   obtain⟨l0,u0⟩:=bounds_i64 hw0
   obtain⟨l1,u1⟩:=bounds_i64 hw1
   have hbl:b<w.heap.size:=block_lt_of_cell h0
   have r0:=hb.cell (p:=⟨b,off+k*2,none⟩) hbl
   rw[h0]at r0
   have r1:=hb.cell (p:=⟨b,off+k*2+1,none⟩) hbl
   rw[h1]at r1
   obtain⟨x0,hx0⟩:=zB ((g k).1)
   obtain⟨x1,hx1⟩:=zB ((g k).2)
   rw[hx0]at l0 u0 r0
   rw[hx1]at l1 u1 r1
   have hz:=hb.size
   have hne:b≠wr.heap.size:=by omega
   have hbz:b<wr.heap.size:=by omega
   have hc1r:=h1
   rw[hx1]at hc1r
   have HC1:=zH hc1r
   clear h0 h1 hw0 hw1 hx0 hx1 hc1r
   obtain⟨q0,hq0,cp0⟩:=zQu x0 6 l0 u0 (by omega) (by omega) 6 rfl
   obtain⟨q1,hq1,cp1⟩:=zQu x1 300 l1 u1 (by omega) (by omega) 300 rfl
   have hrb:=zZr wr q0 hq0
   obtain⟨c,hc⟩:=zB (zGg q0)
   rw[hc]at hrb
   have CP0:=zH cp0
   have CP1:=zH cp1
   clear cp0 cp1 hc
   go_wp2_with fail
   refine(CP0.out _).mono ?_
   rintro e w2 ⟨rfl,rfl⟩
   go_wp2
   obtain⟨wo,hwo⟩:=zB (wr.alloc (.cells #[.int .u8 0,.int .u8 1,.int .u8 4,.int .u8 97,.int .u8 98,.int .u8 255] 5))
   rw[hwo]
   have hbo:Below w.heap.size w wo:=by rw[<-hwo];exact hb.alloc hz _
   clear hwo hrb r0 r1
   go_loopw [5,8] (fun o i wr=>∃(j:Nat) (u:ByteArray),j<=1+q1/\i= .int .i64 j/\o= .string u/\u.size<=most/\Below w.heap.size w wr) (fun _ i _=>1+q1-(intOf i).toNat)
   case atStart=>exact⟨0,u,by omega,rfl,rfl,hu,hbo⟩
   case round=>
    obtain⟨j,v,hj,rfl,rfl,hv,hbv⟩:=hrel
    have r1:=hbv.cell (p:=⟨b,off+k*2+1,none⟩) hbl
    rw[HC1.out]at r1
    have hzv:=hbv.size
    have hcv:(convert 109 9 (.slice (some ⟨wr.heap.size,0,none⟩) 1 1)).run Tryz.prog (wr.alloc (.cells #[.int .u8 (c.toNat:Int)] 5))= .ok (.string ⟨#[c]⟩) (wr.alloc (.cells #[.int .u8 (c.toNat:Int)] 5)):=Kit.Src.text (P:=Tryz.prog) (src:=109) (dst:=9) (e:=5) (n:=1) (c:=1) (l:=[c]) (Kit.zAs wr (zAe c) 5) rfl Tryz.underlying109 Tryz.underlying5 Tryz.underlying9
    by_cases hc:j<1+q1/\v.size<most
    ·obtain⟨hc3,hc4⟩:=hc
     have hi3:(j:Int)<1+(q1:Int):=by omega
     have hsz1:(⟨#[c]⟩:ByteArray).size=1:=rfl
     have hsz2:(v++⟨#[c]⟩:ByteArray).size<=most:=by rw[ByteArray.size_append];omega
     have HS2:=zH hsz2
     clear hsz2
     go_wp2_with fail
     refine(CP1.out _).mono ?_
     rintro e w2 ⟨rfl,rfl⟩
     go_wp2
     go_roundw
     case rel=>exact⟨j+1,_,by omega,by go_num,rfl,HS2.out,hbv.alloc hzv _⟩
     case measure=>simp[intOf];omega
    ·clear hcv
     have hways:¬(j:Int)<1+(q1:Int)\/((j:Int)<1+(q1:Int)/\¬v.size<most):=by
      by_cases h:j<1+q1
      ·exact .inr ⟨by omega,fun h2=>hc ⟨h,h2⟩⟩
      ·exact .inl (by omega)
     clear hc
     rcases hways with h|⟨h,h'⟩
     all_goals
      go_wp2_with fail
      refine(CP1.out _).mono ?_
      rintro e w2 ⟨rfl,rfl⟩
      go_wp2
      go_roundw
      case rel=>exact⟨k+1,v,by omega,by go_num,rfl,hv,hbv⟩
      case measure=>simp[intOf];omega
  ·have hways:¬k<len\/(k<len/\¬u.size<most):=by
    by_cases h:k<len
    ·exact .inr ⟨h,fun h2=>hc ⟨h,h2⟩⟩
    ·exact .inl h
   clear hc
   rcases hways with h|⟨h,h'⟩
   all_goals
    go_wp2
    go_ret
    exact⟨u,rfl,hu,hb⟩
end Rle
end Go.Proofs.YtppnakkaljbmbaaGreatDoor
