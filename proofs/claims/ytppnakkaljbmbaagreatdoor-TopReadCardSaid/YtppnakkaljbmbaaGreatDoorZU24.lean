/- Steps of a proof; no condition beyond what each states. -/
import Derived.Test.YtppnakkaljbmbaaGreatDoorZU17
import Derived.Test.YtppnakkaljbmbaaGreatDoorZU23
set_option linter.unusedVariables false
set_option linter.unusedSimpArgs false
set_option maxRecDepth 100000
set_option maxHeartbeats 8000000
namespace Go.Proofs.YtppnakkaljbmbaaGreatDoor
namespace Hf
open Go.RowKit Go.Shelf Front Bt Zr Ix Rg
variable {w:World}
attribute [local go_sem] Oper.semAt_some
theorem zLt {F:Fence} {nn:Nat} {P:Program} {w':World} {ops:Array Oper} {rest:List Oper} {o:Oper} {a:Act} {Q:Exit->Act->World->Prop} (hg:o.guard=none) (s x:Operand) (t:TypeId)
  (ho:o.op= .call {callee:= .builtin .append,args:= #[s,x],argTypes:= #[t,t]}) {v y v':Value} (hs:a.eval s=v) (hx:a.eval x=y)
  (hr:(Builtin.append_ #[t,t] o.type #[v,y]).run P w= .ok v' w') (h:wpListIn F nn P ops Q rest (a.put o.dst v') w'):wpListIn F nn P ops Q (o::rest) a w:=by
 refine wpListIn_plain hg fun K hK'=> ?_
 unfold Oper.wpIn
 refine⟨?_,?_⟩
 ·simp[Oper.about,ho,resolve,Target.leads,Sem.run_pure]
 ·rw[Oper.semAt_plain F _ _ (by rw[ho];intro c hc';cases hc')]
  simp[execOp,ho,resolve,invoke,builtin,hs,hx,hr,Result.andThen]
  exact hK' _ _ h
theorem zG9 {W:World} {a:Option Addr} {xs:List Value} (h:Kit.Src W a xs) {l:Nat} {o:Obj} (o':Obj) (hl:W.heap[l]? =some o) (ho:o.isCells=false):Kit.Src (W.putObj l o') a xs:=by
 intro j u hu
 obtain⟨b,off,ha,hc⟩:=h j u hu
 refine⟨b,off,ha,?_⟩
 obtain⟨cs,t,f,hb⟩:=zO7 hc
 rw[World.cell?_of_block (w:=W) (a:=⟨b,off+j,none⟩)]
 ·exact hc
 ·refine World.putObj_heap_other ?_
  rintro rfl
  rw[hl]at hb
  obtain rfl:=Option.some.inj hb
  cases ho
def lv (l:List Nat) (n m:Nat):List Nat:=(List.range' n m).filter fun k=>decide (0<cnt l k)
theorem qD (l:List Nat) (n m:Nat):lv l n (m+1)=(if 0<cnt l n then[n]else[])++lv l (n+1) m:=by
 unfold lv
 rw[List.range'_succ,List.filter_cons]
 by_cases h:0<cnt l n<;>simp[h]
def LE (l:List Nat) (n:Nat) (W:World) (vs:Array Value):Prop:=∃(a:Option Addr) (c:Nat),vs= #[.agg #[.int .i64 (n:Int),.int .u64 (first l n:Int),.slice a (cnt l n) c]]/\Kit.Src W a ((whose l n).map ival)/\(∃g cs f,a=some ⟨g,0,none⟩/\W.heap[g]? =some (.cells cs 3 f))/\1<=n/\n<=20/\0<cnt l n
def zHl (l:List Nat) (n k:Nat):List Nat:=(List.range k).filter fun s=>l.getD s 0==n
theorem zV8 (l:List Nat) (n k:Nat):zHl l n (k+1)=zHl l n k++if l.getD k 0=n then[k]else[]:=by
 unfold zHl
 rw[List.range_succ,List.filter_append]
 congr 1
 rw[List.filter_cons,List.filter_nil]
 by_cases h:l.getD k 0=n
 ·rw[if_pos h,show(l.getD k 0==n)=true by simpa using h];rfl
 ·rw[if_neg h,show(l.getD k 0==n)=false by simpa using h];rfl
structure LvS (w:World) (L:Nat) (n f:Nat) (p:Option Addr) (m c:Nat) (xs:List Nat):Prop where
 blk:w.heap[L]? =some (.cells #[.int .i64 (n:Int),.int .u64 (f:Int),.slice p m c] 199 (0,0))
 own:Kit.Own w (L+1) 3 p m c (xs.map ival)
theorem cells3 {B:Nat} {u v x:Value} {t:TypeId} (h:w.heap[B]? =some (.cells #[u,v,x] t (0,0))):w.cell? ⟨B,0,none⟩=some u/\w.cell? ⟨B,1,none⟩=some v/\w.cell? ⟨B,2,none⟩=some x/\w.frozen? ⟨B,2,none⟩=false:=by
 refine⟨by simp[World.cell?,h],by simp[World.cell?,h],by simp[World.cell?,h],by simp[World.frozen?,h]⟩
theorem zMf (b:Nat) (a:Option Addr) (n c:Nat) (l:List Nat) (hl:l.length=n) (hr:Right l) (C:Nat->Prop) (hC:¬C b) (hCa:∀p,a=some p->¬C p.block) (W:World) (hCn:∀k,W.heap.size<=k->¬C k) (hbox:Boxed W b 23 (.slice a n c)) (hs:Kit.Src W a (l.map ival)):
  zR7 Tryz.prog 161 #[.pointer (some ⟨b,0,none⟩)] (LE l) (fun A B=>Below A.heap.size A B) C (lv l 1 20) W:=by
 intro k0 J Jx hJ hY h0
 refine callsIn_of_wp Tryz.func161 rfl trivial ?_ rfl
 simp only[Tryz.ntmps161,List.size_toArray,List.length_cons,List.length_nil,Nat.reduceAdd,Nat.reduceSub,Array.replicate_succ,Array.replicate_zero,List.push_toArray,List.append_toArray,List.nil_append,List.cons_append]
 have h258:=hr.most
 rw[hl]at h258
 have HBOX:=zH hbox
 have HS:=zH hs
 have HN:=zH hl
 have HJ:=zH hJ
 have HY:=zH hY
 have H0:=zH h0
 have HR:=zH hr
 clear hbox hs hl hJ hY h0 hr
 gi_wp2
 gi_loopw [3,4] (fun nv v wr=>∃(k:Nat) (pre:List Nat),1<=k/\k<=21/\v= .int .i64 (k:Int)/\nv= .int .u64 ((first l (k-1)+cnt l (k-1):Nat):Int)/\RowKit.Hid (lv l 1 20=pre++lv l k (21-k))/\RowKit.Hid (Boxed wr b 23 (.slice a n c))/\RowKit.Hid (Kit.Src wr a (l.map ival))/\RowKit.Hid (J pre wr)/\W.heap.size<=wr.heap.size) (fun _ v _=>21-(intOf v).toNat)
 case atStart=>exact⟨1,[],by omega,by omega,rfl,by simp[first,zRt HR.out.one],zH rfl,HBOX,HS,H0,Nat.le_refl _⟩
 case round=>
  obtain⟨k,pre,hk1,hk21,rfl,rfl,hlv,hbx,hsr,hj,hz⟩:=hrel
  obtain⟨wo,rfl⟩:∃wo:World,wo=wr:=⟨_,rfl⟩
  by_cases hlt:k<=20
  ·have hfk0:first l k=2*(first l (k-1)+cnt l (k-1))/\first l (k-1)+cnt l (k-1)<=1048576:=by
    obtain⟨q,rfl⟩:∃q,k=q+1:=⟨k-1,by omega⟩
    rw[Nat.add_sub_cancel]
    have hkr:=HR.out.zEs q (by omega)
    have hp2:2^q<=2^20:=Nat.pow_le_pow_right (by omega) (by omega)
    exact⟨rfl,by omega⟩
   obtain⟨hfs,hkr⟩:=hfk0
   obtain⟨f,hf⟩:=zB (first l (k-1)+cnt l (k-1))
   rw[hf]at hkr hfs⊢
   obtain⟨F,hF⟩:=zB (first l k)
   rw[hF]at hfs
   have HF:=zH hF
   clear hF
   have HFS:=zH hfs
   obtain⟨L,hL⟩:=zB wo.heap.size
   obtain⟨WL,hWL⟩:=zB (wo.alloc (.cells #[.int .i64 (k:Int),.int .u64 ((f:Int)*2),.slice none 0 0] 199))
   have hbL:Below L wo WL:=by rw[<-hWL,<-hL];exact(Below.refl _ _).alloc (Nat.le_refl _) _
   have hX:WL.heap[L]? =some (.cells #[.int .i64 (k:Int),.int .u64 (F:Int),.slice none 0 0] 199 (0,0)):=by
    rw[<-hWL,<-hL]
    show(wo.heap.push _)[wo.heap.size]? =_
    simp
    omega
   have hbB:b<L:=by rw[<-hL];exact Boxed.lt hbx.out
   obtain⟨_,_,z2,g2⟩:=cells3 hX
   obtain⟨WM,hWM⟩:=zB (WL.setCell ⟨L,2,none⟩ (.slice none 0 0))
   have hX2:WM.heap[L]? =some (.cells #[.int .i64 (k:Int),.int .u64 (F:Int),.slice none 0 0] 199 (0,0)):=by
    rw[<-hWM,heap_setCell_same WL L 2 _ _ _ hX];rfl
   have hbM:Below L wo WM:=by rw[<-hWM];exact hbL.setCell (p:=⟨L,2,none⟩) (Nat.le_refl _) _
   have hcb:WM.cell? ⟨b,0,none⟩=some (.slice a n c):=(show Boxed WM b 23 (.slice a n c)from(hbM.block b hbB).trans hbx.out).cell
   have HX:=zH (LvS.mk (xs:=[]) hX2 (Kit.Own.start _ _ _))
   have HBL:=zH hbM
   clear hX2 hbM
   have hkd:(k:Int)<=20:=by omega
   clear hf hfs hX hbL
   gi_wp2
   clear hWL hWM hcb z2 g2
   gi_loopw [19] (fun iv w'=>∃(i m:Nat) (p:Option Addr) (c':Nat),i<=n/\iv= .int .i64 (i:Int)/\m<=i/\RowKit.Hid (LvS w' L k F p m c' (zHl l k i))/\RowKit.Hid (Below L wo w')) (fun iv _=>n-(intOf iv).toNat)
   case atStart=>exact⟨0,0,none,0,by omega,rfl,by omega,HX,HBL⟩
   case round=>
    clear HX HBL
    obtain⟨i,m,p,c',hi,rfl,hmi,hls,hb⟩:=hrel
    obtain⟨y0,y1,y2,g2⟩:=cells3 hls.out.blk
    by_cases hin:i<n
    ·have hil:i<l.length:=by rw[HN.out];exact hin
     obtain⟨x,hx⟩:=zB (l[i])
     have hgd:l.getD i 0=x:=by rw[List.getD_eq_getElem?_getD,List.getElem?_eq_getElem hil,hx];rfl
     have hsc:=zV8 l k i
     rw[hgd]at hsc
     obtain⟨g,off,rfl,e0⟩:=(hsr.out.below (w':=wr) (by rw[hL];exact hb.out)) i (ival x) (by rw[List.getElem?_map,List.getElem?_eq_getElem hil,hx];rfl)
     have hmL:L<wr.heap.size:=zAd hls.out.blk
     by_cases hxn:x=k
     ·rw[if_pos hxn]at hsc
      obtain⟨p3,c3,w3,hr3,ho3,hg3⟩:=Kit.Own.app (ty:=23) (w:=wr.alloc (.cells #[.int .i64 (i:Int)] 3)) zNn (hls.out.own.alloc _) (some ⟨wr.heap.size,0,none⟩) 1 1 [ival i] (Kit.zAs wr _ 3) rfl (fun h=>by cases h) (zDr [i]) (by unfold maxLen;omega) (by omega) (by simp;omega)
      rw[show(zHl l k i).map ival++[ival i]=(zHl l k (i+1)).map ival by rw[hsc,List.map_append];rfl]at ho3
      have hbk:=hls.out.own.block
      have hb3:Below (L+1) wr w3:=((Below.refl _ _).alloc (by omega) _).trans ((Below.refl _ _).grown hg3 (by simp;omega) (fun k hk=>hbk k hk))
      have hX3:w3.heap[L]? =some (.cells #[.int .i64 (k:Int),.int .u64 (F:Int),.slice p m c'] 199 (0,0)):=(hb3.block L (by omega)).trans hls.out.blk
      obtain⟨_,_,v2,e2⟩:=cells3 hX3
      have H3:=zH (show LvS (w3.setCell ⟨L,2,none⟩ (.slice p3 (m+1) c3)) L k F p3 (m+1) c3 (zHl l k (i+1))from⟨by rw[heap_setCell_same w3 L 2 _ _ _ hX3];rfl,zD4 ho3 (Nat.lt_succ_self _) _⟩)
      have B3:=zH ((hb.out.trans (hb3.mono (by omega))).setCell (p:=⟨L,2,none⟩) (Nat.le_refl _) (.slice p3 (m+1) c3))
      have hxe:((x:Int)==(k:Int))=true:=by simp;omega
      clear ho3 hg3 hbk hb3 hX3 hsc hx hgd hxn y0 y1
      gi_wp2_with (gi_at_builtin;refine zLt rfl (.tmp 28) (.tmp 30) 23 rfl rfl rfl hr3 ?_)
      go_roundw
      case rel=>exact⟨i+1,m+1,p3,c3,by omega,by go_num,by omega,H3,B3⟩
      case measure=>simp only[intOf];omega
     ·rw[if_neg hxn,List.append_nil]at hsc
      have HSC:=zH hsc
      have hxe:((x:Int)==(k:Int))=false:=by simp;omega
      clear hsc hx hgd hxn y0 y1 y2 g2
      gi_wp2
      go_roundw
      case rel=>exact⟨i+1,m,p,c',by omega,by go_num,by omega,by rw[HSC.out];exact hls,hb⟩
      case measure=>simp only[intOf];omega
    ·obtain rfl:i=n:=by omega
     have hwho:zHl l k i=whose l k:=by unfold zHl whose;rw[HN.out]
     have hcm:cnt l k=m:=by
      have:=hls.out.own.len
      rw[List.length_map,hwho]at this
      exact this
     have hfk:=HFS.out
     have hls1:=qD l k (20-k)
     have hlv1:=hlv.out
     rw[show 21-k=20-k+1 by omega,hls1]at hlv1
     have hJ1:=HJ.out pre wo wr hj.out (by rw[hL];exact hb.out)
     have hmL:L<wr.heap.size:=zAd hls.out.blk
     rw[hcm]at hlv1
     have hbx2:Boxed wr b 23 (.slice a i c):=(hb.out.block b hbB).trans hbx.out
     have hsr2:Kit.Src wr a (l.map ival):=hsr.out.below (by rw[hL];exact hb.out)
     have hkr2:=HR.out.zEs k (by omega)
     rw[hcm,HF.out]at hkr2
     have hp3:2^k<=2^20:=Nat.pow_le_pow_right (by omega) (by omega)
     rcases Nat.eq_zero_or_pos m with hm0|hm0
     ·subst hm0
      rw[if_neg (by omega),List.nil_append]at hlv1
      have HLV:=zH (show lv l 1 20=pre++lv l (k+1) (21-(k+1))by rw[hlv1,show 21-(k+1)=20-k by omega])
      have HB2:=zH hbx2
      have HS2:=zH hsr2
      have HJ2:=zH hJ1
      have HCM:=zH hcm
      clear hlv1 hls1 hbx2 hsr2 hJ1 hcm hwho y0 y1 hfk
      gi_wp2
      refine⟨(fun f hf=>by cases hf),?_⟩
      rename_i hK _ _ _ _
      refine hK _ _ ?_
      gi_wp2
      go_roundw
      case rel=>exact⟨k+1,pre,by omega,by omega,by go_num,by rw[Nat.add_sub_cancel,HF.out,HCM.out];congr 1;have:=HFS.out;omega,HLV,HB2,HS2,HJ2,by omega⟩
      case measure=>simp only[intOf];omega
     ·rw[if_pos (by omega)]at hlv1
      have hpf:pre++[k]<+:lv l 1 20:=by rw[hlv1,<-List.append_assoc];exact List.prefix_append _ _
      have hgg:∃g cs f,p=some ⟨g,0,none⟩/\wr.heap[g]? =some (.cells cs 3 f):=by
       obtain⟨g,rfl,_⟩:=hls.out.own.at_ hm0
       obtain⟨cs,ff,hh⟩:=zLa hls.out.own
       exact⟨g,cs,ff,rfl,hh⟩
      obtain⟨fn,tmps,assign,body,hy,hR⟩:=HY.out pre k wr #[.agg #[.int .i64 (k:Int),.int .u64 (F:Int),.slice p m c']] hJ1
       ⟨p,c',by rw[HF.out,hcm],by rw[<-hwho];exact hls.out.own.src,hgg,by omega,by omega,by omega⟩ hpf
      have HR2:=zH hR
      have HPF:=zH hpf
      have HLV:=zH (show lv l 1 20=(pre++[k])++lv l (k+1) (21-(k+1))by rw[hlv1,show 21-(k+1)=20-k by omega,List.append_assoc])
      have HB2:=zH hbx2
      have HS2:=zH hsr2
      have HCM:=zH hcm
      have hmpos:(0:Int)<(m:Int):=by omega
      clear hlv1 hls1 hbx2 hsr2 hJ1 hcm hwho hfk hpf hR
      gi_wp2
      refine HR2.out.mono ?_
      rintro e W3 (⟨rfl,hJ3,hk3⟩|⟨rfl,hJx3⟩)
      ·have HB3:=zH (zIf HB2.out hk3 hC)
       have HS3:=zH (zP4 HS2.out hk3 hCa)
       have HJ3:=zH hJ3
       have hX3:=hk3.2 L _ _ _ hls.out.blk (hCn L (by omega))
       have hz3:=hk3.1
       obtain⟨_,_,v2,_⟩:=cells3 hX3
       have j1:IntKind.u64.wrap (m:Int)=(m:Int):=IntWalk.u64_in _ ⟨by omega,by omega⟩
       clear hJ3 hk3 hX3 y0 y1 y2 g2 hy
       gi_wp2
       go_roundw
       case rel=>exact⟨k+1,pre++[k],by omega,by omega,by go_num,by rw[Nat.add_sub_cancel,HF.out,HCM.out];congr 1;have:=HFS.out;omega,HLV,HB3,HS3,HJ3,by omega⟩
       case measure=>simp only[intOf];omega
      ·gi_wp2
       refine bodyPost_ret (results_none rfl _ _ _) rfl ?_
       exact⟨⟨_,rfl⟩,.inr ⟨_,HPF.out,hJx3⟩⟩
  ·obtain rfl:k=21:=by omega
   have hj0:J (lv l 1 20) wo:=by
    have:=hlv.out
    rw[show lv l 21 (21-21)=[]from rfl,List.append_nil]at this
    rw[this];exact hj.out
   have HJ0:=zH hj0
   clear hj0
   gi_wp2
   go_end0
   exact⟨⟨_,rfl⟩,.inl HJ0.out⟩
end Hf
namespace Wg
open Go.RowKit Hf Bt Zr Ix Front Ch
theorem zSe (x:Nat) (hx:x<=1048576) (w:World):
  Calls Tryz.prog 175 #[ival x] w fun e w'=>e= .returned (.bool ((fun _=>false) x))/\w'=w:=by
 have h1:decide ((x:Int)<0)=false:=decide_eq_false (by omega)
 have h2:decide ((1048576:Int)<(x:Int))=false:=decide_eq_false (by omega)
 go_enter Tryz.func175,Tryz.ntmps175
 go_wp2
 go_ret
 exact⟨rfl,rfl⟩
theorem zUe (l:List Nat) (a:Option Addr) (n c:Nat) (w:World) (hn:l.length=n) (hc:n<=1000000000) (hs:Kit.Src w a (l.map ival)) (hl:∀x∈l,x<=1048576):
  Calls Tryz.prog 123 #[.slice a n c] w fun e w'=>e= .returned (.bool true)/\w'=w:=by
 have HQ:=zH (zE5 (fun _=>false) l 175 a n c w hn hc hs (zHw Tryz.func175 rfl rfl) (fun x hx=>zSe x (hl x hx) w))
 rw[any_false]at HQ
 clear hn hs hl
 go_enter Tryz.func123,Tryz.ntmps123
 go_wp2_with fail
 (with_reducible refine HQ.out.mono ?_)
 rintro e w2 ⟨rfl,rfl⟩
 go_wp2
 go_ret
 exact⟨rfl,rfl⟩
theorem zP6 {w:World} {b off:Nat} {l:List Nat} (hs:Kit.Src w (some ⟨b,off,none⟩) (l.map ival)):∀j,j<(l.map (fun x:Nat=>(x:Int))).length->w.cell? ⟨b,off+j,none⟩=some (.int .i64 ((l.map (fun x:Nat=>(x:Int))).getD j 0)):=by
 intro j hj
 have hj2:j<l.length:=by simpa using hj
 obtain⟨b',off',ha,hc⟩:=hs j (ival l[j]) (by rw[List.getElem?_map,List.getElem?_eq_getElem hj2];rfl)
 injection ha with ha
 injection ha with h1 h3 _
 subst h1 h3
 rw[hc,List.getD_eq_getElem?_getD,List.getElem?_map,List.getElem?_eq_getElem hj2]
 rfl
theorem zO6 (l:List Nat) (a:Option Addr) (n c:Nat) (w:World) (hn:l.length=n) (h0:0<n) (hc:n<=1000000) (hs:Kit.Src w a (l.map ival)):
  Calls Tryz.prog 101 #[.slice a n c] w fun e w'=>∃G c',e= .returned (.slice (some ⟨G,0,none⟩) n c')/\Kit.Own w' w.heap.size 3 (some ⟨G,0,none⟩) n c' (l.map ival)/\Below w.heap.size w w':=by
 obtain⟨b,off,rfl,_⟩:=hs 0 (ival l[0]) (by rw[List.getElem?_map,List.getElem?_eq_getElem];rfl)
 have h:=Tryz.slices_Clone_int b off n c (l.map fun x:Nat=>(x:Int)) w (by simp;omega) (by omega) (zP6 hs)
 refine h.mono ?_
 rintro e w' ⟨v',he,ho,hne,hb⟩
 have e2:((l.map fun x:Nat=>(x:Int)).take n).map (Value.int .i64)=l.map ival:=by
  rw[List.take_of_length_le (by simp;omega),List.map_map];rfl
 rw[e2]at ho
 rcases ho.2 with⟨h2,_⟩|⟨g,cap,cur,hv,r⟩
 ·exact absurd h2 hne
 ·subst hv
  exact⟨g,cap,he,⟨ho.1,.inr ⟨g,cap,cur,rfl,r⟩⟩,hb⟩
theorem zKj (ws:List Nat) (a:Option Addr) (n c most:Nat) (w:World) (hn:ws.length=n) (h2:2<=n) (h258:n<=258) (hs:Kit.Src w a (ws.map ival)) (hsum:(Ch.one ws).sum<=20000) (hle:∀x∈ws,x<=1048576) (hm1:9<=most) (hm2:most<=20)
  (hmax:∀x∈lens (Ch.one ws),x<=most):
  Calls Tryz.prog 44 #[.slice a n c,.int .i64 (most:Int)] w fun e w'=>∃G,e= .returned (.tuple #[.slice (some ⟨G,0,none⟩) n n,.int .i64 0])/\w.heap.size<=G/\Kit.Src w' (some ⟨G,0,none⟩) ((lens (Ch.one ws)).map ival)/\zDj w' G/\Below w.heap.size w w':=by
 obtain⟨B,hB⟩:=zB w.heap.size
 have HW:=zH (zUe ws a n c w hn (by omega) hs hle)
 have HCL:=zH (zO6 ws a n c w hn (by omega) (by omega) hs)
 have j1:decide ((n:Int)<2)=false:=decide_eq_false (by omega)
 have j2:decide ((258:Int)<(n:Int))=false:=decide_eq_false (by omega)
 have j3:decide ((most:Int)<9)=false:=decide_eq_false (by omega)
 have j4:decide ((20:Int)<(most:Int))=false:=decide_eq_false (by omega)
 have HN:=zH hn
 have HSUM:=zH hsum
 have HMX:=zH hmax
 have HBB:=zH hB
 clear hn hs hsum hle hmax
 rw[hB]
 rw[hB]at HCL
 go_enter Tryz.func44,Tryz.ntmps44
 go_wp2_with fail
 (with_reducible refine HW.out.mono ?_)
 rintro e w2 ⟨rfl,rfl⟩
 go_wp2_with fail
 (with_reducible refine HCL.out.mono ?_)
 rintro e w3 ⟨G,c',rfl,ho3,hb3⟩
 have O3:=zH ho3
 have B3:=zH hb3
 obtain⟨g0,hg0,hBG,_,hnc,_,_⟩:=ho3.at_ (by omega)
 injection hg0 with hg0
 injection hg0 with hg0 _ _
 subst hg0
 clear ho3 hb3 HW HCL hB
 go_wp2
 go_loopw [37] (fun iv wr=>∃(j:Nat) (l:List Nat),j<=n/\iv= .int .i64 j/\RowKit.Hid (l.length=n/\l.take j=(Ch.one ws).take j/\l.drop j=ws.drop j)/\RowKit.Hid (Kit.Own wr B 3 (some ⟨G,0,none⟩) n c' (l.map ival))/\RowKit.Hid (Below B w2 wr)) (fun iv _=>n-(intOf iv).toNat)
 case atStart=>exact⟨0,ws,by omega,rfl,zH ⟨HN.out,by simp,rfl⟩,O3,B3⟩
 case round=>
  clear O3 B3
  obtain⟨j,l,hj,rfl,hl,hown,hb⟩:=hrel
  by_cases hlt:j<n
  ·have hjl:j<l.length:=by rw[hl.out.1];exact hlt
   have hjw:j<ws.length:=by rw[HN.out];exact hlt
   obtain⟨x,hx⟩:=zB (l[j])
   have hxw:ws[j]=x:=by
    have h1:=hl.out.2.2
    rw[List.drop_eq_getElem_cons hjl,List.drop_eq_getElem_cons hjw]at h1
    rw[<-hx];exact(List.cons.inj h1).1.symm
   obtain⟨g0,hg0,_,_,_,hcell,hfr⟩:=hown.out.at_ (by omega)
   injection hg0 with hg0
   injection hg0 with hg0 _ _
   subst hg0
   have x0:=hcell j hlt
   rw[List.getElem?_map,List.getElem?_eq_getElem hjl,Option.map_some,hx]at x0
   have f0:=hfr j
   have hset:=hown.out.set j (ival (max x 1)) hlt
   rw[<-List.map_set]at hset
   have hmx:(max (x:Int) 1)=((max x 1:Nat):Int):=by omega
   have HS:=zH hset
   have HL:=zH (show(l.set j (max x 1)).length=n/\(l.set j (max x 1)).take (j+1)=(Ch.one ws).take (j+1)/\(l.set j (max x 1)).drop (j+1)=ws.drop (j+1)from by
    refine⟨by rw[List.length_set];exact hl.out.1,?_,?_⟩
    ·have hjo:j<(Ch.one ws).length:=by rw[zHc];exact hjw
     rw[List.take_succ_eq_append_getElem (by rw[List.length_set];exact hjl),List.take_succ_eq_append_getElem hjo,List.take_set_of_le (Nat.le_refl _),hl.out.2.1,List.getElem_set_self]
     congr 2
     simp[Ch.one,hxw]
    ·rw[List.drop_set_of_lt (Nat.lt_succ_self _)]
     have h1:=hl.out.2.2
     rw[List.drop_eq_getElem_cons hjl,List.drop_eq_getElem_cons hjw]at h1
     exact(List.cons.inj h1).2)
   have HB:=zH (hb.out.setCell (p:=⟨G,j,none⟩) hBG (ival (max x 1)))
   obtain⟨y,hy⟩:=zB (max x 1)
   rw[hy]at hmx HS HL HB
   clear hx hxw hcell hfr hset hy
   go_wp2
   go_roundw
   case rel=>exact⟨j+1,l.set j y,by omega,by go_num,HL,HS,HB⟩
   case measure=>simp only[intOf];omega
  ·obtain rfl:n=j:=by omega
   have hlo:l=Ch.one ws:=by
    have h1:=hl.out.2.1
    rwa[List.take_of_length_le (by rw[hl.out.1];omega),List.take_of_length_le (by rw[zHc,HN.out];omega)]at h1
   subst hlo
   have HD:=zH (zVe (Ch.one ws) (some ⟨G,0,none⟩) n c' wr hl.out.1 h2 h258 hown.out.src (one_pos ws) HSUM.out)
   have hbz:=hb.out.size
   go_wp2_with fail
   (with_reducible refine HD.out.mono ?_)
   rintro e w5 ⟨G2,rfl,hG2,hs5,ht5,hb5⟩
   have T5:=zH ht5
   have S5:=zH hs5
   have B5:=zH (hb.out.trans (hb5.mono (by rw[<-HBB.out];exact hbz)))
   have hG2B:B<=G2:=by rw[<-HBB.out];omega
   have hzl:((lens (Ch.one ws)).map fun x:Nat=>(x:Int)).length=n:=by rw[List.length_map,zC0,zHc,HN.out]
   have HMC:=Tryz.slices_Max_int G2 0 n n ((lens (Ch.one ws)).map fun x:Nat=>(x:Int)) w5 (by omega) (by rw[hzl];omega) (by omega) (zP6 hs5)
   rw[List.take_of_length_le (by rw[hzl];omega)]at HMC
   have hmx:Lib.maxOf ((lens (Ch.one ws)).map fun x:Nat=>(x:Int))<=(most:Int):=max_le (most:Int) _ (by intro h;rw[h]at hzl;simp at hzl;omega) (fun z hz=>by obtain⟨x,hx,rfl⟩:=List.mem_map.1 hz;have:=HMX.out x hx;omega)
   obtain⟨mx,hmx2⟩:=zB (Lib.maxOf ((lens (Ch.one ws)).map fun x:Nat=>(x:Int)))
   rw[hmx2]at HMC hmx
   have HM:=zH HMC
   have j5:decide ((most:Int)<mx)=false:=decide_eq_false (by omega)
   clear hs5 ht5 hb5 HD HMC hmx2 hzl hmx hbz
   go_wp2
   go_loopw [9] (fun ov wr=>ov= .slice (some ⟨G2,0,none⟩) n n/\wr=w5) (fun _ _=>0)
   case atStart=>exact⟨rfl,rfl⟩
   case round=>
    obtain⟨rfl,rfl⟩:=hrel
    go_wp2_with fail
    (with_reducible refine HM.out.mono ?_)
    rintro e w6 ⟨rfl,rfl⟩
    go_wp2
    go_ret2
    exact⟨G2,rfl,hG2B,S5.out,T5.out,B5.out⟩
end Wg
namespace Ch
open Go.RowKit Go.Shelf Front Bt Zr Ix Rg Hf
attribute [local go_sem] Oper.semAt_some
def CE (x:List Nat) (W:World) (vs:Array Value):Prop:=∃a,vs= #[.slice a x.length x.length]/\Kit.Src W a (x.map ival)/\x≠[]/\x.length<=10
theorem zYf (b b2:Nat) (a:Option Addr) (n c:Nat) (l:List Nat) (hl:l.length=n) (hn:n<=1000000) (hnc:n<=c) (C:Nat->Prop) (hC:¬C b) (hC2:¬C b2) (hCa:∀p,a=some p->¬C p.block) (W:World) (hbox:Boxed W b 23 (.slice a n c)) (hbox2:Boxed W b2 3 (.int .i64 10)) (hs:Kit.Src W a (l.map ival)):
  zR7 Tryz.prog 160 #[.pointer (some ⟨b,0,none⟩),.pointer (some ⟨b2,0,none⟩)] CE (fun A B=>∃n,B=A.drewN n) C (grp l) W:=by
 intro k0 J Jx hJ hY h0
 refine callsIn_of_wp Tryz.func160 rfl trivial ?_ rfl
 simp only[Tryz.ntmps160,List.size_toArray,List.length_cons,List.length_nil,Nat.reduceAdd,Nat.reduceSub,Array.replicate_succ,Array.replicate_zero,List.push_toArray,List.append_toArray,List.nil_append,List.cons_append]
 have HBOX:=zH hbox
 have HBX2:=zH hbox2
 have HS:=zH hs
 have HN:=zH hl
 have HJ:=zH hJ
 have HY:=zH hY
 have H0:=zH h0
 clear hbox hbox2 hs hl hJ hY h0
 gi_wp2
 gi_loopw [4] (fun v wr=>∃(k i:Nat),i=10*k/\k<=(grp l).length/\v= .int .i64 (i:Int)/\RowKit.Hid (Boxed wr b 23 (.slice a n c))/\RowKit.Hid (Boxed wr b2 3 (.int .i64 10))/\RowKit.Hid (Kit.Src wr a (l.map ival))/\RowKit.Hid (J ((grp l).take k) wr)) (fun v _=>n+10-(intOf v).toNat)
 case atStart=>exact⟨0,0,rfl,by omega,rfl,HBOX,HBX2,HS,H0⟩
 case round=>
  clear HBOX HBX2 HS H0
  obtain⟨k,i,hik,hk,rfl,hbx,hbx2,hsr,hj⟩:=hrel
  have hgl:=zBx l
  rw[HN.out]at hgl
  by_cases hlt:i<n
  ·have hil:i<l.length:=by rw[HN.out];exact hlt
   have hg:=zJy l k (by rw[HN.out];omega)
   have hkl:k<(grp l).length:=by omega
   obtain⟨x,hx⟩:=zB ((l.drop (10*k)).take 10)
   rw[hx]at hg
   obtain⟨e,he⟩:=zB x.length
   have hee:e=min 10 (n-i):=by rw[<-he,<-hx,List.length_take,List.length_drop,HN.out,hik]
   obtain⟨g,off,rfl,e0⟩:=hsr.out i (ival (l[i]'hil)) (by rw[List.getElem?_map,List.getElem?_eq_getElem hil];rfl)
   have hsx:Kit.Src wr (some ⟨g,off+i,none⟩) (x.map ival):=by
    rw[<-hx,hik,List.map_take]
    exact(Src.drop hsr.out (10*k)).take 10
   have hnx:(grp l).take (k+1)=(grp l).take k++[x]:=by
    rw[List.take_succ_eq_append_getElem hkl]
    rw[List.getElem?_eq_getElem hkl]at hg
    rw[Option.some.inj hg]
   have hpf:(grp l).take k++[x]<+:grp l:=by rw[<-hnx];exact List.take_prefix _ _
   have hcb:=hbx.out.cell
   have hcb2:=hbx2.out.cell
   have HE:=zH he
   have HEE:=zH hee
   have HSX:=zH hsx
   have HNX:=zH hnx
   have HPF:=zH hpf
   have HX:=zH (show x≠[]/\x.length<=10 from by rw[he];exact⟨by intro h;rw[h]at he;simp at he;omega,by omega⟩)
   clear hx hg he hee hsx hnx hpf hgl
   have hic:i<c:=by omega
   have hmn:min (10:Int) ((n-i:Nat):Int)=(e:Int):=by have:=HEE.out;omega
   have hie:i+e<=n:=by have:=HEE.out;omega
   have hie2:i+e<=c:=by omega
   have he0:¬e=0:=by have:=HEE.out;omega
   have HIK:=zH hik
   clear hik
   gi_wp2
   gi_quiet (fail)
   have hj2:J ((grp l).take k) (wr.drewN nq):=HJ.out _ _ _ hj.out ⟨nq,rfl⟩
   obtain⟨fn,tmps,assign,body,hy,hR⟩:=HY.out ((grp l).take k) x (wr.drewN nq) #[.slice (some ⟨g,off+i,none⟩) e e] hj2 ⟨some ⟨g,off+i,none⟩,by rw[HE.out],HSX.out,HX.out⟩ HPF.out
   have HR:=zH hR
   clear hR hj2
   gi_wp2
   refine HR.out.mono ?_
   rintro r W3 (⟨rfl,hJ3,hk3⟩|⟨rfl,hJx3⟩)
   ·have HB3:=zH (zIf (W:=wr.drewN nq) hbx.out hk3 hC)
    have HB4:=zH (zIf (W:=wr.drewN nq) hbx2.out hk3 hC2)
    have HS3:=zH (zP4 (W:=wr.drewN nq) hsr.out hk3 hCa)
    have HJ3:=zH (show J ((grp l).take (k+1)) W3 by rw[HNX.out];exact hJ3)
    have hcb3:=HB4.out.cell
    clear hJ3 hk3
    gi_wp2
    go_roundw
    case rel=>exact⟨k+1,i+10,by have:=HIK.out;omega,by omega,by go_num,HB3,HB4,HS3,HJ3⟩
    case measure=>simp only[intOf];omega
   ·gi_wp2
    refine bodyPost_ret (results_none rfl _ _ _) rfl ?_
    exact⟨⟨_,rfl⟩,.inr ⟨_,HPF.out,hJx3⟩⟩
  ·have hk2:k=(grp l).length:=by omega
   have hj0:=hj.out
   rw[hk2,List.take_length]at hj0
   have HJ0:=zH hj0
   have hcb:=hbx.out.cell
   clear hj0
   gi_wp2
   go_end0
   exact⟨⟨_,rfl⟩,.inl HJ0.out⟩
end Ch
namespace Hf
open Go.RowKit Go.Shelf Front Bt Zr Ix Rg
def dn (l:List Nat) (pre:List Nat) (n i s:Nat):Bool:=pre.contains (l.getD s 0)||(l.getD s 0==n&&decide (rank l s<i))
def gW (l:List Nat) (d:Nat->Bool) (j:Nat):Value:=if d (j/2)then(if j%2=0 then .int .i64 (l.getD (j/2) 0:Int)else .int .u64 (zB9 l (j/2):Int))else(if j%2=0 then .int .i64 0 else .int .u64 0)
theorem zYs (l:List Nat) (n:Nat):(whose l n).Pairwise (·<·):=List.pairwise_lt_range.filter _
theorem zYt (l:List Nat) (n i:Nat) (hi:i<(whose l n).length):(whose l n)[i]<l.length/\l.getD (whose l n)[i] 0=n/\rank l (whose l n)[i]=i:=by
 have hm:=List.getElem_mem hi
 unfold whose at hm
 rw[List.mem_filter,List.mem_range]at hm
 have h1:l.getD (whose l n)[i] 0=n:=by
  have:=hm.2
  simpa [whose]using this
 have h0:(whose l n)[i]<l.length:=by simpa [whose]using hm.1
 refine⟨h0,h1,?_⟩
 have h2:=zDx l (whose l n)[i] h0
 rw[h1]at h2
 have h3:rank l (whose l n)[i]<(whose l n).length:=by
  rcases Nat.lt_or_ge (rank l (whose l n)[i]) (whose l n).length with h|h
  ·exact h
  ·rw[List.getElem?_eq_none h]at h2;cases h2
 rw[List.getElem?_eq_getElem h3]at h2
 have h4:=Option.some.inj h2
 have hp:=List.pairwise_iff_getElem.1 (zYs l n)
 rcases Nat.lt_trichotomy (rank l (whose l n)[i]) i with h|h|h
 ·have:=hp _ _ h3 hi h
  omega
 ·exact h
 ·have:=hp _ _ hi h3 h
  omega
theorem qD9 (l pre:List Nat) (n i s0:Nat) (h1:l.getD s0 0=n) (h2:rank l s0=i) (h3:s0<l.length) (s:Nat) (hs:s<l.length):dn l pre n (i+1) s=(dn l pre n i s||decide (s=s0)):=by
 unfold dn
 rw[Bool.eq_iff_iff]
 simp only[Bool.or_eq_true,Bool.and_eq_true,beq_iff_eq,decide_eq_true_eq]
 constructor
 ·rintro(h|⟨h,hr⟩)
  ·exact .inl (.inl h)
  ·by_cases e:rank l s<i
   ·exact .inl (.inr ⟨h,e⟩)
   ·right
    have hr2:rank l s=i:=by omega
    have e1:=zDx l s hs
    have e2:=zDx l s0 h3
    rw[h,hr2]at e1
    rw[h1,h2,e1]at e2
    exact Option.some.inj e2
 ·rintro((h|⟨h,hr⟩)|h)
  ·exact .inl h
  ·exact .inr ⟨h,by omega⟩
  ·subst h;exact .inr ⟨h1,by omega⟩
theorem qA8 (l pre:List Nat) (n s:Nat) (hs:s<l.length):dn l pre n (cnt l n) s=dn l (pre++[n]) 0 0 s:=by
 unfold dn
 rw[Bool.eq_iff_iff]
 simp only[Bool.or_eq_true,Bool.and_eq_true,beq_iff_eq,decide_eq_true_eq,List.contains_eq_mem,List.mem_append,List.mem_singleton]
 constructor
 ·rintro(h|⟨h,hr⟩)
  ·exact .inl (.inl h)
  ·exact .inl (.inr h)
 ·rintro((h|h)|⟨_,h⟩)
  ·exact .inl h
  ·refine .inr ⟨h,?_⟩
   have:=zJn l s hs
   rwa[h]at this
  ·omega
theorem qD8 (l pre:List Nat) (n m s:Nat):dn l pre n 0 s=dn l pre m 0 s:=by unfold dn;simp
theorem qGa {l:List Nat} (h:Right l) (s:Nat) (hs:s<l.length):dn l (lv l 1 20) 0 0 s=true:=by
 unfold dn
 have h1:l.getD s 0=l[s]:=by simp[List.getD_eq_getElem?_getD,List.getElem?_eq_getElem hs]
 have h2:=h.one _ (List.getElem_mem hs)
 have h3:=h.top _ (List.getElem_mem hs)
 have h4:=zJn l s hs
 rw[h1]at h4⊢
 have:l[s]∈lv l 1 20:=by
  unfold lv
  rw[List.mem_filter]
  exact⟨List.mem_range'_1.2 ⟨h2,by omega⟩,decide_eq_true (by omega)⟩
 simp[this]
theorem qDx (l:List Nat) (j:Nat):gW l (dn l [] 0 0) j=if j%2=0 then .int .i64 0 else .int .u64 0:=by
 unfold gW dn;simp
theorem qF4 (l:List Nat) (d:Nat->Bool) (s0 j:Nat):upd (upd (gW l d) (2*s0) (.int .i64 (l.getD s0 0:Int))) (2*s0+1) (.int .u64 (zB9 l s0:Int)) j=gW l (fun s=>d s||decide (s=s0)) j:=by
 unfold upd gW
 by_cases e1:j=2*s0+1
 ·subst e1
  rw[if_pos rfl,show(2*s0+1)/2=s0 by omega,show(2*s0+1)%2=1 by omega]
  simp
 ·rw[if_neg e1]
  by_cases e2:j=2*s0
  ·subst e2
   rw[if_pos rfl,show 2*s0/2=s0 by omega,show 2*s0%2=0 by omega]
   simp
  ·rw[if_neg e2]
   have:decide (j/2=s0)=false:=decide_eq_false (by omega)
   simp only[this,Bool.or_false]
theorem zU2 (w:World) (l:List Nat) (n:Nat) (hn:n<=100000):∃w',(Instr.makeSlice 184 (.int .i64 (n:Int)) (.int .i64 (n:Int))).run Tryz.prog w= .ok (.slice (some ⟨w.heap.size,0,none⟩) n n) w'/\
  Arr w' w.heap.size 188 (n*2) (gW l (dn l [] 0 0))/\Below w.heap.size w w'/\w'.heap.size=w.heap.size+1:=by
 have hinf:(Tryz.prog.info? 188).map (fun i=>(i.zero,i.size,i.bytes))=some (some (.agg #[.int .i64 0,.int .u64 0]),2,16):=by kernel_rfl
 obtain⟨i,hi,hz0,hz1,hz2⟩:=info_parts hinf
 have hr:=run_makeSlice (P:=Tryz.prog) w 184 188 i _ Tryz.underlying184 hi hz0 .i64 .i64 (n:Int) (n:Int) (by omega) (by omega) (by rw[hz1];omega) (by rw[hz2];omega) (by omega)
 refine⟨_,hr,?_,(Below.refl _ _).alloc (Nat.le_refl _) _,zA _ _⟩
 unfold Arr
 have e:madeCells (Value.agg #[.int .i64 0,.int .u64 0]).cells ((n:Int).toNat*i.size)=cellsOf (n*2) (gW l (dn l [] 0 0)):=by
  rw[hz1]
  show(Array.range (n*2)).map _=_
  refine zDm (fun k hk=> ?_)
  rw[qDx]
  show(#[Value.int .i64 0,.int .u64 0]:Array Value)[k%2]! =_
  rcases Nat.mod_two_eq_zero_or_one k with h|h<;>rw[h]<;>rfl
 rw[e]
 show(w.heap.push _)[w.heap.size]? =_
 simp
end Hf
end Go.Proofs.YtppnakkaljbmbaaGreatDoor
