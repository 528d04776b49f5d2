/- Steps of a proof; no condition beyond what each states. -/
import Derived.Test.YtppnakkaljbmbaaGreatDoorZU15
set_option linter.unusedVariables false
set_option linter.unusedSimpArgs false
set_option maxRecDepth 100000
set_option maxHeartbeats 8000000
namespace Go.Proofs.YtppnakkaljbmbaaGreatDoor
namespace Zr
open Go.RowKit Front Ix Bt
variable {s:ByteArray} {i:Nat}
def At (s:ByteArray) (i:Nat) (l:List Bool):Prop:=i+l.length<=8*s.size/\take s i l.length=l
theorem zKy (s:ByteArray) (i n k:Nat) (h:k<n):(take s i n)[k]? =some (zBm s (i+k)):=by
 unfold take;rw[List.getElem?_map,List.getElem?_range h];rfl
theorem take_add (s:ByteArray) (i n m:Nat):take s i (n+m)=take s i n++take s (i+n) m:=by
 induction m with
 |zero=>simp[take]
 |succ m ih=>rw[<-Nat.add_assoc,zEz,ih,zEz,List.append_assoc,Nat.add_assoc]
theorem At.app {l m:List Bool}:At s i (l++m)↔At s i l/\At s (i+l.length) m:=by
 unfold At
 rw[List.length_append,take_add]
 constructor
 ·rintro⟨h1,h2⟩
  have h3:=List.append_inj h2 (by rw[take_length])
  exact⟨⟨by omega,h3.1⟩,by omega,h3.2⟩
 ·rintro⟨⟨_,h1⟩,h2,h3⟩
  exact⟨by omega,by rw[h1,h3]⟩
theorem At.val {n v:Nat} (h:At s i (num v n)) (hv:v<2^n):Bt.val (take s i n)=v:=by
 have h2:=h.2
 rw[zAc]at h2
 rw[h2,zT,Nat.mod_eq_of_lt hv]
theorem At.one {b:Bool} (h:At s i [b]):Bt.val (take s i 1)=b.toNat:=by
 have h2:=h.2
 rw[show[b].length=1 from rfl]at h2
 rw[h2]
 simp[Bt.val]
def Rdr (w:World) (R:Nat) (s:ByteArray) (i:Nat):Prop:=w.heap[R]? =some (.cells #[.string s,.int .i64 (i:Int)] 194 (0,0))
structure Ch (R:Nat) (w w':World):Prop where
 below:Below R w w'
 old:∀k,k≠R->w'.heap[k]? =w.heap[k]?
theorem Ch.refl (R:Nat) (w:World):Ch R w w:=⟨Below.refl _ _,fun _ _=>rfl⟩
theorem Ch.trans {R:Nat} {w w' w'':World} (h:Ch R w w') (g:Ch R w' w''):Ch R w w'':=⟨h.below.trans g.below,fun k hk=>(g.old k hk).trans (h.old k hk)⟩
theorem zHq (R:Nat) (s:ByteArray) (i n:Nat) (hn:n<=62) (hi:i+n<=8*s.size) (hs:s.size<=100000000) (w:World) (h:Rdr w R s i):
  Calls Tryz.prog 107 #[.pointer (some ⟨R,0,none⟩),.int .i64 (n:Int)] w fun e w'=>e= .returned (.int .i64 (val (take s i n):Nat))/\Rdr w' R s (i+n)/\Ch R w w':=by
 have HG:=zH (fun W=>(zB7 s i n (by omega) hi (by omega) W).mono (fun _ _ h=>(⟨h.1,h.2.symm⟩:_/\_)))
 have hv:=zEy (take s i n)
 rw[take_length]at hv
 have hv2:(2:Nat)^n<=2^62:=Nat.pow_le_pow_right (by omega) hn
 obtain⟨v,hvv⟩:=zB (val (take s i n))
 rw[hvv]at hv HG⊢
 have hv3:v<4611686018427387904:=by omega
 obtain⟨x0,x1,f0,f1⟩:=zAf h
 have H:=zH h
 have i1:IntKind.i64.wrap (v:Int)=(v:Int):=IntWalk.i64_in _ ⟨by omega,by omega⟩
 have i2:IntKind.i64.wrap ((i:Int)+(n:Int))=(i:Int)+(n:Int):=IntWalk.i64_in _ ⟨by omega,by omega⟩
 clear h hvv hv hv2
 go_enter Tryz.func107,Tryz.ntmps107
 go_wp2
 go_quiet ((go_at_call 32;exact Calls.quiet_of_same (HG.out _)))
 go_wp2
 go_ret
 refine⟨rfl,?_,?_⟩
 ·have:=setBlock (x:= .int .i64 ((i:Int)+(n:Int))) 1 (show(w.drewN nq).heap[R]? =_ from H.out)
  unfold Rdr
  rw[this]
  simp
 ·refine⟨?_,fun k hk=>zAa hk⟩
  have hbd:Below R w (w.drewN nq):=(Below.refl R w).trans ⟨rfl,rfl,rfl,Nat.le_refl _,fun _ _=>rfl⟩
  exact hbd.setCell (p:=⟨R,1,none⟩) (Nat.le_refl _) _
theorem zC9 (R:Nat) (n:Nat) (h1:1<=n) (h2:n<=20) (w:World):
  Calls Tryz.prog 106 #[.pointer (some ⟨R,0,none⟩),.int .i64 (n:Int)] w fun e w'=>e= .returned (.int .i64 (n:Int))/\w'=w:=by
 have HM:=zH (zJw n h1 h2 w)
 go_enter Tryz.func106,Tryz.ntmps106
 go_wp2_with fail
 (with_reducible refine HM.out.mono ?_)
 rintro e w2 ⟨rfl,rfl⟩
 go_wp2
 go_ret
 exact⟨rfl,rfl⟩
theorem zZn (R:Nat) (s:ByteArray) (i now x:Nat) (hs:s.size<=100000000) (h1:1<=now) (h2:now<=20) (g1:1<=x) (g2:x<=20) (w:World) (h:Rdr w R s i) (ha:At s i (steps now x)):
  Calls Tryz.prog 108 #[.pointer (some ⟨R,0,none⟩),.int .i64 (now:Int)] w fun e w'=>e= .returned (.int .i64 (x:Int))/\Rdr w' R s (i+(steps now x).length)/\Ch R w w':=by
 obtain⟨J,hJ⟩:=zB (i+(steps now x).length)
 rw[hJ]
 have H0:=zH h
 have A0:=zH ha
 have J0:=zH hJ
 clear h ha hJ
 go_enter Tryz.func108,Tryz.ntmps108
 go_wp2
 go_loopw [1] (fun v wr=>∃(now i:Nat),v= .int .i64 now/\1<=now/\now<=20/\RowKit.Hid (Rdr wr R s i)/\RowKit.Hid (At s i (steps now x))/\RowKit.Hid (i+(steps now x).length=J)/\RowKit.Hid (Ch R w wr)) (fun v _=>(intOf v-x).natAbs)
 case atStart=>exact⟨now,i,rfl,h1,h2,H0,A0,J0,zH (Ch.refl _ _)⟩
 case round=>
  clear H0 A0 J0 h1 h2
  obtain⟨now,i,rfl,h1,h2,hr,hA,hJ,hch⟩:=hrel
  by_cases hup:now=x
  ·subst hup
   have hA1:=hA.out
   rw[zK1]at hA1
   have hJ1:=hJ.out
   rw[zK1]at hJ1
   have HQ:=zH (zHq R s i 1 (by omega) hA1.1 hs wr hr.out)
   rw[hA1.one]at HQ
   rw[show((1:Nat):Int)=1 from rfl,show((false.toNat:Nat):Int)=0 from rfl]at HQ
   go_wp2_with fail
   (with_reducible refine HQ.out.mono ?_)
   rintro e w2 ⟨rfl,hr2,hc2⟩
   have HR2:=zH hr2
   have HC2:=zH (hch.out.trans hc2)
   have HJ1:=zH hJ1
   clear hr2 hc2 hJ1 hA1
   go_wp2
   go_ret
   exact⟨rfl,by rw[<-HJ1.out];exact HR2.out,HC2.out⟩
  ·obtain⟨b,n2,hb2,hst⟩:∃(b:Bool) (n2:Nat),(n2:Int)=(now:Int)+1-2*(b.toNat:Nat)/\steps now x=[true,b]++steps n2 x/\1<=n2/\n2<=20/\((n2:Int)-x).natAbs<((now:Int)-x).natAbs:=by
    rcases Nat.lt_or_ge now x with hlt|hge
    ·exact⟨false,now+1,by simp,zP1 hlt,by omega,by omega,by omega⟩
    ·exact⟨true,now-1,by simp;omega,zL3 (by omega),by omega,by omega,by omega⟩
   obtain⟨hst,hn1,hn2,hms⟩:=hst
   have hA1:=hA.out
   rw[hst,show[true,b]=[true]++[b]from rfl,List.append_assoc]at hA1
   obtain⟨a1,hA2⟩:=At.app.1 hA1
   obtain⟨a2,a3⟩:=At.app.1 hA2
   rw[show[true].length=1 from rfl]at a2 a3
   rw[show[b].length=1 from rfl]at a3
   have HQ:=zH (zHq R s i 1 (by omega) a1.1 hs wr hr.out)
   rw[a1.one]at HQ
   rw[show((1:Nat):Int)=1 from rfl,show((true.toNat:Nat):Int)=1 from rfl]at HQ
   have A2:=zH a2
   have A3:=zH a3
   have HST:=zH hst
   have HMS:=zH hms
   clear hA1 a1 hA2 a2 a3 hst hms
   go_wp2_with fail
   (with_reducible refine HQ.out.mono ?_)
   clear HQ
   rintro e w2 ⟨rfl,hr2,hc2⟩
   have HQ:=zH (zHq R s (i+1) 1 (by omega) A2.out.1 hs w2 hr2)
   rw[A2.out.one,show((1:Nat):Int)=1 from rfl]at HQ
   have HC2:=zH (hch.out.trans hc2)
   clear hr2 hc2
   obtain⟨c,hc⟩:∃c:Int,((b.toNat:Nat):Int)=c:=⟨_,rfl⟩
   have hcr:0<=c/\c<=1:=by rw[<-hc];cases b<;>simp
   rw[hc]at HQ hb2
   clear hc
   go_wp2_with fail
   (with_reducible refine HQ.out.mono ?_)
   clear HQ
   rintro e w3 ⟨rfl,hr3,hc3⟩
   have HR3:=zH hr3
   have HC3:=zH (HC2.out.trans hc3)
   have HF:=zH (zC9 R n2 hn1 hn2 w3)
   rw[hb2]at HF
   have HB2:=zH hb2
   clear hr3 hc3 hb2
   go_wp2_with fail
   (with_reducible refine HF.out.mono ?_)
   rintro e w4 ⟨rfl,rfl⟩
   go_wp2
   go_roundw
   case rel=>exact⟨n2,i+1+1,by rw[HB2.out],hn1,hn2,HR3,A3,zH (by rw[<-hJ.out,HST.out,List.length_append];simp;omega),HC3⟩
   case measure=>simp only[intOf];rw[<-HB2.out];exact HMS.out
end Zr
namespace Zr
open Go.RowKit Front Ix Bt
variable {w w':World} {n c B i:Nat} {p:Option Addr} {l:List Nat} {s:ByteArray}
theorem zXt (p q r:Addr) (w:World):
  CallsD Tryz.prog 105 #[.pointer (some p),.pointer (some q),.pointer (some r)] .returning w fun e u' w'=>e= .returned (.tuple #[])/\u'= .returning/\w'=w:=by
 refine callsD_of_wpS Tryz.func105 rfl fun c₀ cs hu=> ?_
 apply wpS_seq
 apply wpS_region
 simp[wpOpsS,go_sem,recoverD,hu,Tryz.ntmps105,Exit.thenS]
 refine wpS_of_wp ?_
 go_wp2
 cases c₀
 simp_all [bodyPostS,results,Tryz.results105]
structure TK (w:World) (B:Nat) (p:Option Addr) (n c:Nat) (l:List Nat) (s:ByteArray) (i:Nat):Prop where
 b0:Boxed w B 23 (.slice p n c)
 b1:Boxed w (B+1) 3 (.int .i64 0)
 b2:Boxed w (B+2) 26 (.int .i64 0)
 rd:Rdr w (B+3) s i
 own:Kit.Own w (B+4) 3 p n c (l.map ival)
 size:B+4<=w.heap.size
theorem zJs {D:Nat} {e:TypeId} {a:Option Addr} {xs:List Value} (h:Kit.Own w D e a n c xs) (ho:∀k,D<=k->k<w.heap.size->w'.heap[k]? =w.heap[k]?):Kit.Own w' D e a n c xs:=by
 obtain⟨h1,h2⟩:=h
 refine⟨h1,?_⟩
 rcases h2 with h2|⟨g,cap,cur,hv,hbg,hg,r⟩
 ·exact .inl h2
 ·exact .inr ⟨g,cap,cur,hv,hbg,(ho g hbg (zAd hg)).trans hg,r⟩
theorem TK.ch {i':Nat} (h:TK w B p n c l s i) (hc:Ch (B+3) w w') (hr:Rdr w' (B+3) s i'):TK w' B p n c l s i':=
 ⟨(hc.old B (by omega)).trans h.b0,(hc.old (B+1) (by omega)).trans h.b1,(hc.old (B+2) (by omega)).trans h.b2,hr,zJs h.own (fun k hk _=>hc.old k (by omega)),Nat.le_trans h.size hc.below.size⟩
theorem TK.push {wa:World} {p':Option Addr} {n' c':Nat} {l':List Nat} (h:TK w B p n c l s i) (ha:Below w.heap.size w wa) (ho:Kit.Own w' (B+4) 3 p' n' c' (l'.map ival)) (hg:wa.grownBy w' (Value.ownBlock (.slice p n c))):
  TK (w'.setCell ⟨B,0,none⟩ (.slice p' n' c')) B p' n' c' l' s i/\Boxed w' B 23 (.slice p n c)/\Below B w (w'.setCell ⟨B,0,none⟩ (.slice p' n' c')):=by
 have hz:=h.size
 have hza:=ha.size
 have hbk:=h.own.block
 have old:∀k,k<B+4->w'.heap[k]? =w.heap[k]? :=fun k hk=>(hg.block k (by omega) (fun e=>by have:=hbk k e.symm;omega)).trans (ha.block k (by omega))
 have hsz:wa.heap.size<=w'.heap.size:=hg.size
 refine⟨⟨?_,?_,?_,?_,?_,by simp[World.setCell];omega⟩,(old B (by omega)).trans h.b0,?_⟩
 ·exact Boxed.set (.slice p' n' c') ((old B (by omega)).trans h.b0)
 ·exact(zAa (by omega)).trans ((old _ (by omega)).trans h.b1)
 ·exact(zAa (by omega)).trans ((old _ (by omega)).trans h.b2)
 ·exact(zAa (by omega)).trans ((old _ (by omega)).trans h.rd)
 ·exact zD4 ho (by omega) _
 ·have:Below B w w':=(ha.mono (by omega)).trans (Kit.zAq hg (by omega) (fun k hk=>by have:=hbk k hk;omega))
  exact this.setCell (p:=⟨B,0,none⟩) (Nat.le_refl _) _
theorem zI7 (s:ByteArray) (at_:Nat) (l:List Nat) (n:Nat) (w:World) (hn:l.length=n) (h2:2<=n) (h258:n<=258) (hs:s.size<=100000000) (hl:∀x∈l,1<=x/\x<=20) (ha:At s at_ (delta l)):
  Calls Tryz.prog 35 #[.string s,.int .i64 (at_:Int),.int .i64 (n:Int)] w fun e w'=>∃a' c',e= .returned (.tuple #[.slice a' n c',.int .i64 ((at_+(delta l).length:Nat):Int),.int .i64 0])/\Kit.Own w' w.heap.size 3 a' n c' (l.map ival)/\Below w.heap.size w w':=by
 have hmf:∀(fn:Fn) (first cap:Array Value) (w:World),(Instr.makeFunc fn first cap).run Tryz.prog w= .ok (.func fn first cap) w:=fun _ _ _ _=>rfl
 obtain⟨B,hB⟩:=zB w.heap.size
 have hB':=zH hB
 obtain⟨W1,hW1⟩:=zB (w.alloc (.cells #[.slice none 0 0] 23))
 obtain⟨W2,hW2⟩:=zB (W1.alloc (.cells #[.int .i64 0] 3))
 obtain⟨W3,hW3⟩:=zB (W2.alloc (.cells #[.int .i64 0] 26))
 obtain⟨W4,hW4⟩:=zB (W3.alloc (.cells #[.string s,.int .i64 (at_:Int)] 194))
 have z1:W1.heap.size=B+1:=by rw[<-hW1,zA,hB]
 have z2:W2.heap.size=B+2:=by rw[<-hW2,zA,z1]
 have z3:W3.heap.size=B+3:=by rw[<-hW3,zA,z2]
 have z4:W4.heap.size=B+4:=by rw[<-hW4,zA,z3]
 have b1:Below B w W1:=by rw[<-hW1,<-hB];exact(Below.refl _ _).alloc (Nat.le_refl _) _
 have b2:Below (B+1) W1 W2:=by rw[<-hW2,<-z1];exact(Below.refl _ _).alloc (Nat.le_refl _) _
 have b3:Below (B+2) W2 W3:=by rw[<-hW3,<-z2];exact(Below.refl _ _).alloc (Nat.le_refl _) _
 have b4:Below (B+3) W3 W4:=by rw[<-hW4,<-z3];exact(Below.refl _ _).alloc (Nat.le_refl _) _
 have new:∀(W:World) (o:Obj),(W.alloc o).heap[W.heap.size]? =some o:=fun W o=>by show(W.heap.push o)[W.heap.size]? =_;simp
 have c0:Boxed W4 B 23 (.slice none 0 0):=by
  show W4.heap[B]? =_
  rw[b4.block B (by omega),b3.block B (by omega),b2.block B (by omega),<-hW1,<-hB];exact new _ _
 have c1:Boxed W4 (B+1) 3 (.int .i64 0):=by
  show W4.heap[B+1]? =_
  rw[b4.block _ (by omega),b3.block _ (by omega),<-hW2,<-z1];exact new _ _
 have c2:Boxed W4 (B+2) 26 (.int .i64 0):=by
  show W4.heap[B+2]? =_
  rw[b4.block _ (by omega),<-hW3,<-z2];exact new _ _
 have c3:Rdr W4 (B+3) s at_:=by
  show W4.heap[B+3]? =_
  rw[<-hW4,<-z3];exact new _ _
 have K0:=zH (TK.mk (l:=[]) c0 c1 c2 c3 (Kit.Own.start _ _ _) (by omega))
 have HB0:=zH (show Below B w W4 from((b1.trans (b2.mono (by omega))).trans (b3.mono (by omega))).trans (b4.mono (by omega)))
 have HM:=zH (zQ4 n h2 h258 W3)
 have hl0:0<l.length:=by omega
 obtain⟨x0,hx0⟩:=zB (l.headD 0)
 have hx0l:1<=x0/\x0<=20:=by
  rw[<-hx0,List.headD_eq_head?_getD,List.head?_eq_getElem?,List.getElem?_eq_getElem hl0]
  exact hl _ (List.getElem_mem hl0)
 obtain⟨J,hJ⟩:=zB (at_+(delta l).length)
 rw[hJ]
 have hJ2:=hJ
 unfold delta at ha hJ2
 rw[hx0]at ha hJ2
 obtain⟨ha1,ha2⟩:=At.app.1 ha
 rw[zAc]at ha2
 rw[List.length_append,zAc]at hJ2
 have HQ:=zH (zHq (B+3) s at_ 5 (by omega) (by have:=ha1.1;rwa[zAc]at this) hs W4 c3)
 rw[ha1.val (show x0<2^5 by omega),show((5:Nat):Int)=5 from rfl]at HQ
 have HA:=zH ha2
 have HJ:=zH hJ2
 have HL:=zH hl
 have HN:=zH hn
 have ham:(at_:Int)<=8*(s.size:Int):=by have:=ha1.1;omega
 clear b1 b2 b3 b4 c0 c1 c2 c3 new ha ha1 ha2 hJ hJ2 hl hn hx0 hl0
 rw[hB]
 go_enter_defers Tryz.func35,Tryz.ntmps35
 go_wp2_with fail
 (with_reducible refine HM.out.mono ?_)
 rintro e w3 ⟨rfl,rfl⟩
 go_wp2_with fail
 clear hW1 hW2 hW3 hW4 z1 z2 z3 z4 hB
 (with_reducible refine HQ.out.mono ?_)
 rintro e w5 ⟨rfl,hr5,hc5⟩
 have K5:=zH (K0.out.ch hc5 hr5)
 have HB5:=zH (HB0.out.trans (hc5.below.mono (by omega)))
 have HF:=zH (zC9 (B+3) x0 hx0l.1 hx0l.2 w5)
 clear hr5 hc5
 go_wp2_with fail
 (with_reducible refine HF.out.mono ?_)
 rintro e w6 ⟨rfl,rfl⟩
 go_wp2
 clear K0 HB0 HQ HF HM
 go_loopw [28,10] (fun i v wr=>∃(j now q:Nat) (p:Option Addr) (c:Nat),j<=n/\i= .int .i64 j/\v= .int .i64 now/\1<=now/\now<=20/\RowKit.Hid (TK wr B p j c (l.take j) s q)/\RowKit.Hid (At s q (del now (l.drop j)))/\RowKit.Hid (q+(del now (l.drop j)).length=J)/\RowKit.Hid (Below B w wr)) (fun i _ _=>n-(intOf i).toNat)
 case atStart=>exact⟨0,x0,at_+5,none,0,by omega,rfl,rfl,hx0l.1,hx0l.2,K5,by rw[List.drop_zero];exact HA,by rw[List.drop_zero];exact zH (by have:=HJ.out;omega),HB5⟩
 case round=>
  clear K5 HA HJ HB5
  obtain⟨j,now,q,p,c,hj,rfl,rfl,h1,h20,hk,hat,hJ,hb⟩:=hrel
  by_cases hlt:j<n
  ·have hjl:j<l.length:=by rw[HN.out];exact hlt
   obtain⟨x,hx⟩:=zB (l[j])
   have hxl:1<=x/\x<=20:=by rw[<-hx];exact HL.out _ (List.getElem_mem hjl)
   have hd:=zRn l j now hjl
   rw[hx]at hd
   have ha:=hat.out
   rw[hd]at ha
   obtain⟨a1,a2⟩:=At.app.1 ha
   have hJ1:=hJ.out
   rw[hd,List.length_append]at hJ1
   have htk:l.take (j+1)=l.take j++[x]:=by rw[List.take_succ_eq_append_getElem hjl,hx]
   have HQ:=zH (zZn (B+3) s q now x hs h1 h20 hxl.1 hxl.2 wr hk.out.rd a1)
   have A2:=zH a2
   have J2:=zH (show q+(steps now x).length+(del x (l.drop (j+1))).length=J by omega)
   have HTK:=zH htk
   clear hd ha a1 a2 hJ1 htk hx hat hJ
   go_wp2_with fail
   (with_reducible refine HQ.out.mono ?_)
   clear HQ
   rintro e w2 ⟨rfl,hr2,hc2⟩
   have hk2:=hk.out.ch hc2 hr2
   have HB2:=zH (hb.out.trans (hc2.below.mono (by omega)))
   clear hr2 hc2
   have ha2:Below w2.heap.size w2 (w2.alloc (.cells #[.int .i64 (x:Int)] 3)):=(Below.refl _ _).alloc (Nat.le_refl _) _
   have hz:=hk2.size
   obtain⟨p3,c3,w3,hr3,ho3,hg3⟩:=Kit.Own.app (ty:=23) (w:=w2.alloc (.cells #[.int .i64 (x:Int)] 3)) zNn (hk2.own.alloc _) (some ⟨w2.heap.size,0,none⟩) 1 1 [ival x] (Kit.zAs w2 _ 3) rfl (fun h=>by cases h) (zDr [x]) (by unfold maxLen;omega) (by omega) (by simp;omega)
   rw[show(l.take j).map ival++[ival x]=(l.take (j+1)).map ival by rw[HTK.out,List.map_append];rfl]at ho3
   have hpp:=hk2.push ha2 ho3 hg3
   have y0:=hk2.b0.cell
   have y1:=hpp.2.1.cell
   have y2:=hpp.2.1.frozen
   have y3:=hk2.b0.frozen
   have K3:=zH hpp.1
   have HB3:=zH (HB2.out.trans hpp.2.2)
   clear hk2 ha2 ho3 hg3 hpp
   go_wp2_with (at_builtin;refine Kit.zAr rfl (.tmp 33) (.tmp 35) 23 rfl rfl rfl hr3 ?_)
   go_roundw
   case rel=>exact⟨j+1,x,q+(steps now x).length,p3,c3,by omega,by go_num,rfl,hxl.1,hxl.2,K3,A2,J2,HB3⟩
   case measure=>simp[intOf];omega
  ·obtain rfl:j=n:=by omega
   have hq:q=J:=by
    have:=hJ.out
    rw[List.drop_of_length_le (by rw[HN.out];omega),del]at this
    simpa using this
   subst hq
   have hlt2:l.take j=l:=List.take_of_length_le (by rw[HN.out];omega)
   have hk2:=hk.out
   rw[hlt2]at hk2
   have y0:=hk2.b0.cell
   have g0:=hk2.b0.frozen
   have y1:=hk2.b1.cell
   have g1:=hk2.b1.frozen
   have y2:=hk2.b2.cell
   have g2:=hk2.b2.frozen
   obtain⟨y3,y4,g3,g4⟩:=zAf hk2.rd
   have K2:=zH hk2
   clear hk2 hlt2
   go_wp2
   go_region
   obtain⟨F,hF⟩:=zB ((((wr.setCell ⟨B,0,none⟩ (.slice p j c)).setCell ⟨B+1,0,none⟩ (.int .i64 (q:Int))).setCell ⟨B+2,0,none⟩ (.int .i64 0)).drew)
   have q0:Boxed F B 23 (.slice p j c):=by
    rw[<-hF]
    exact(zAa (by omega)).trans ((zAa (by omega)).trans (K2.out.b0.set (.slice p j c)))
   have q1:Boxed F (B+1) 3 (.int .i64 (q:Int)):=by
    rw[<-hF]
    exact(zAa (by omega)).trans (Boxed.set (.int .i64 (q:Int)) ((zAa (by omega)).trans K2.out.b1))
   have q2:Boxed F (B+2) 26 (.int .i64 0):=by
    rw[<-hF]
    exact Boxed.set (.int .i64 0) ((zAa (by omega)).trans ((zAa (by omega)).trans K2.out.b2))
   have q3:Kit.Own F (B+4) 3 p j c (l.map ival):=by
    rw[<-hF]
    exact zJs K2.out.own (fun k h1 h2=>(zAa (by omega)).trans ((zAa (by omega)).trans (zAa (by omega))))
   have q4:Below B w F:=by
    rw[<-hF]
    exact(((hb.out.setCell (p:=⟨B,0,none⟩) (Nat.le_refl _) _).setCell (p:=⟨B+1,0,none⟩) (by simp) _).setCell (p:=⟨B+2,0,none⟩) (by simp) _).drew
   rw[hF]
   have r0:=q0.cell
   have r1:=q1.cell
   have r2:=q2.cell
   have Q3:=zH (q3.base (B':=B) (by omega))
   have Q4:=zH q4
   clear y0 g0 y1 g1 y2 g2 y3 y4 g3 g4 K2 hF q0 q1 q2 q3 q4
   go_wp2
   refine leaves_cons (f:=105) (args:= #[.pointer (some ⟨B,0,none⟩),.pointer (some ⟨B+1,0,none⟩),.pointer (some ⟨B+2,0,none⟩)]) (by simp) (by simp[go_sem]) ?_
   refine(zXt ⟨B,0,none⟩ ⟨B+1,0,none⟩ ⟨B+2,0,none⟩ F).mono ?_
   rintro e u' w'' ⟨rfl,rfl,rfl⟩
   simp[Leaves,settle,results,Tryz.results35,go_sem,r0,r1,r2]
   exact⟨p,c,⟨rfl,rfl⟩,Q3.out,Q4.out⟩
end Zr
namespace Sl
open Go.RowKit Front Bt Zr Ix
variable {w:World} {R:Nat}
def Pl (w:World) (R:Nat) (b:Bool):Prop:=w.heap[R]? =some (.cells #[.int .i64 ((b.toNat:Nat):Int),.int .i64 (((!b).toNat:Nat):Int),.int .i64 2,.int .i64 3,.int .i64 4,.int .i64 5,.int .i64 2] 175 (0,0))
theorem zC9 (w:World):
  Calls Tryz.prog 90 #[.int .i64 2] w fun e w'=>e= .returned (.bool true)/\w'=w:=by
 go_enter Tryz.func90,Tryz.ntmps90
 go_wp2
 go_ret
 exact⟨rfl,rfl⟩
theorem zSj (x B:Nat) (hx:x<=1) (w:World) (h:w.cell? ⟨B,0,none⟩=some (.int .i64 2)):
  Calls Tryz.prog 91 #[ival x,.pointer (some ⟨B,0,none⟩)] w fun e w'=>e= .returned (.bool ((fun _=>false) x))/\w'=w:=by
 have h1:decide ((x:Int)<0)=false:=decide_eq_false (by omega)
 have h2:decide ((2:Int)<=(x:Int))=false:=decide_eq_false (by omega)
 go_enter Tryz.func91,Tryz.ntmps91
 go_wp2
 go_ret
 exact⟨rfl,rfl⟩
def fk (k j:Nat):Nat:=if j<k then j else if j=6 then 2 else 0
theorem qF7 (k:Nat) (hk:k<6) (j:Nat):zAy (fk k) k k j=fk (k+1) j:=by
 unfold zAy fk
 by_cases e:j=k
 ·subst e;rw[if_pos rfl,if_pos (by omega)]
 ·rw[if_neg e]
  by_cases h1:j<k
  ·rw[if_pos h1,if_pos (by omega)]
  ·simp[h1,show ¬j<k+1 by omega]
theorem qG9 (h:zAm w R 175 7 (fk 6)):Pl w R false:=by
 have e:cellsOf 7 (fun j=> .int .i64 ((fk 6 j:Nat):Int))= #[.int .i64 0,.int .i64 1,.int .i64 2,.int .i64 3,.int .i64 4,.int .i64 5,.int .i64 2]:=by kernel_rfl
 unfold zAm Arr at h
 rw[e]at h
 exact h
theorem zQs {b:Bool} (h:Pl w R b):w.cell? ⟨R,0,none⟩=some (.int .i64 ((b.toNat:Nat):Int))/\w.cell? ⟨R,1,none⟩=some (.int .i64 (((!b).toNat:Nat):Int))/\(∀k,w.frozen? ⟨R,k,none⟩=false)/\w.cell? ⟨R,6,none⟩=some (.int .i64 2):=by
 refine⟨?_,?_,fun k=> ?_,?_⟩
 ·simp[World.cell?,show w.heap[R]? =_ from h]
 ·simp[World.cell?,show w.heap[R]? =_ from h]
 ·simp[World.frozen?,show w.heap[R]? =_ from h]
 ·simp[World.cell?,show w.heap[R]? =_ from h]
theorem zTq (w:World):
  Calls Tryz.prog 92 #[.int .i64 2] w fun e w'=>e= .returned (.pointer (some ⟨w.heap.size,0,none⟩))/\Pl w' w.heap.size false/\Below w.heap.size w w':=by
 obtain⟨R,hR⟩:=zB w.heap.size
 have hz:(#[.int .i64 0,.int .i64 0,.int .i64 0,.int .i64 0,.int .i64 0,.int .i64 0,.int .i64 2]:Array Value)=cellsOf 7 (fun j=> .int .i64 ((fk 0 j:Nat):Int)):=by kernel_rfl
 obtain⟨W,hW⟩:=zB (w.alloc (.cells #[.int .i64 0,.int .i64 0,.int .i64 0,.int .i64 0,.int .i64 0,.int .i64 0,.int .i64 2] 175))
 have hA0:zAm W R 175 7 (fk 0):=by
  show _=_
  rw[<-hW,hz,<-hR]
  show(w.heap.push _)[w.heap.size]? =_
  simp
 have hb0:Below R w W:=by rw[<-hW,<-hR];exact(Below.refl _ _).alloc (Nat.le_refl _) _
 have HA0:=zH hA0
 have HB0:=zH hb0
 clear hz hA0 hb0
 rw[hR]
 go_enter Tryz.func92,Tryz.ntmps92
 go_wp2
 clear hW
 go_loopw [8] (fun i wr=>∃k:Nat,k<=6/\i= .int .i64 k/\RowKit.Hid (zAm wr R 175 7 (fk k))/\RowKit.Hid (Below R w wr)) (fun i _=>6-(intOf i).toNat)
 case atStart=>exact⟨0,by omega,rfl,HA0,HB0⟩
 case round=>
  clear HA0 HB0
  obtain⟨k,hk,rfl,har,hb⟩:=hrel
  by_cases hlt:k<6
  ·have x0:=har.out.cell k (by omega)
   have f0:=har.out.free k
   have HNX:=zH ((har.out.set k k (V:=(k:Int)) rfl).congr (fun j _=>qF7 k hlt j))
   obtain⟨v0,hv0⟩:∃v0:Value,Value.int .i64 ((fk k k:Nat):Int)=v0:=⟨_,rfl⟩
   rw[hv0]at x0
   clear hv0
   go_wp2
   go_roundw
   case rel=>exact⟨k+1,by omega,by go_num,HNX,zH (hb.out.setCell (p:=⟨R,k,none⟩) (Nat.le_refl _) _)⟩
   case measure=>simp only[intOf];omega
  ·obtain rfl:k=6:=by omega
   go_wp2
   go_ret
   exact⟨rfl,qG9 har.out,hb.out⟩
theorem zMq (R:Nat) (b:Bool) (w:World) (h:Pl w R b):
  Calls Tryz.prog 94 #[.pointer (some ⟨R,0,none⟩),.int .i64 0] w fun e w'=>e= .returned (.int .i64 ((b.toNat:Nat):Int))/\Pl w' R b/\Ch R w w':=by
 obtain⟨x0,x1,fz,_⟩:=zQs h
 have f0:=fz 0
 have hcp:(Builtin.copy_ #[23,23] 3 #[.slice (some ⟨R,1,none⟩) 5 5,.slice (some ⟨R,0,none⟩) 0 6]).run Tryz.prog w.drew= .ok (.int .i64 0) w.drew:=
  run_copy_none w.drew _ _ _ 3 _ _ _ _ _ _ Tryz.underlying23 (by kernel_rfl) rfl
 have HS:=zH (show Pl ((w.drew).setCell ⟨R,0,none⟩ (.int .i64 ((b.toNat:Nat):Int))) R b from by
  unfold Pl
  rw[heap_setCell_same w.drew R 0 _ _ _ h]
  rfl)
 obtain⟨q,hq⟩:∃q:Int,((b.toNat:Nat):Int)=q:=⟨_,rfl⟩
 rw[hq]at x0 HS⊢
 clear h fz hq
 go_enter Tryz.func94,Tryz.ntmps94
 go_wp2
 go_region
 go_wp2
 go_ret
 exact⟨rfl,HS.out,⟨((Below.refl R w).drew).setCell (p:=⟨R,0,none⟩) (Nat.le_refl _) _,fun k hk=>zAa hk⟩⟩
theorem zMp (R:Nat) (b:Bool) (w:World) (h:Pl w R b):
  Calls Tryz.prog 94 #[.pointer (some ⟨R,0,none⟩),.int .i64 1] w fun e w'=>e= .returned (.int .i64 (((!b).toNat:Nat):Int))/\Pl w' R (!b)/\Ch R w w':=by
 obtain⟨x0,x1,fz,_⟩:=zQs h
 have f0:=fz 0
 have y0:w.drew.cell? ⟨R,0,none⟩=some (.int .i64 ((b.toNat:Nat):Int)):=x0
 have hcp:(Builtin.copy_ #[23,23] 3 #[.slice (some ⟨R,1,none⟩) 5 5,.slice (some ⟨R,0,none⟩) 1 6]).run Tryz.prog w.drew= .ok (.int .i64 1) (w.drew.setCell ⟨R,1,none⟩ (.int .i64 ((b.toNat:Nat):Int))):=by
  have:=run_copy_cells (P:=Tryz.prog) w.drew 23 23 3 3 R 1 5 5 ⟨R,0,none⟩ 1 6 [.int .i64 ((b.toNat:Nat):Int)] Tryz.underlying23 (by kernel_rfl) rfl
   (fun j v hj=>by match j,hj with|0,hj=>simp at hj;subst hj;rw[Kit.addr_add];exact y0)
   (fun j hj=>by simp at hj;subst hj;rw[show w.drew.cell? ⟨R,1+0,none⟩=_ from x1];rfl)
   (fun j hj=>fz (1+j)) (fun v hv=>by simp at hv;subst hv;rfl)
  rw[this]
  rfl
 have HS:=zH (show Pl ((w.drew.setCell ⟨R,1,none⟩ (.int .i64 ((b.toNat:Nat):Int))).setCell ⟨R,0,none⟩ (.int .i64 (((!b).toNat:Nat):Int))) R (!b)from by
  unfold Pl
  rw[heap_setCell_same _ R 0 _ _ _ (heap_setCell_same w.drew R 1 _ _ _ h),Bool.not_not]
  rfl)
 have z0:(w.drew.setCell ⟨R,1,none⟩ (.int .i64 ((b.toNat:Nat):Int))).cell? ⟨R,0,none⟩=some (.int .i64 ((b.toNat:Nat):Int)):=by
  rw[World.cell?_setCell_other _ _ _ _ (by intro e;injection e with _ e2 _;omega)];exact y0
 have g0:(w.drew.setCell ⟨R,1,none⟩ (.int .i64 ((b.toNat:Nat):Int))).frozen? ⟨R,0,none⟩=false:=by rw[World.frozen?_setCell];exact f0
 obtain⟨q,hq⟩:∃q:Int,((b.toNat:Nat):Int)=q:=⟨_,rfl⟩
 obtain⟨r,hr⟩:∃r:Int,(((!b).toNat:Nat):Int)=r:=⟨_,rfl⟩
 rw[hq]at x0 y0 z0 g0 hcp HS
 rw[hr]at x1 HS⊢
 clear h fz hq hr
 go_enter Tryz.func94,Tryz.ntmps94
 go_wp2
 go_region
 go_wp2
 go_ret
 exact⟨rfl,HS.out,⟨(((Below.refl R w).drew).setCell (p:=⟨R,1,none⟩) (Nat.le_refl _) _).setCell (p:=⟨R,0,none⟩) (Nat.le_refl _) _,fun k hk=>(zAa hk).trans (zAa hk)⟩⟩
end Sl
namespace Crc
open Go.RowKit
theorem zBw {k:IntKind} {a b:Int} (h:a=b):Ending.returned (.int k a)= .returned (.int k b):=by rw[h]
def fold (a b:BitVec 32):BitVec 32:=rot a^^^b
def unfold (a b:BitVec 32):BitVec 32:=qHx (a^^^b)
theorem qA2 (a b:BitVec 32) (w:World):
  Calls Tryz.prog 185 #[.int .u32 (U a),.int .u32 (U b)] w fun e w'=>e= .returned (.int .u32 (U (fold a b)))/\w=w':=by
 have ha:=zN0 a
 have ha':=zN1 a
 have hb:=zN0 b
 have hb':=zN1 b
 go_enter Tryz.func185,Tryz.ntmps185
 go_wp2
 go_ret
 exact⟨zBw (by rw[zVw,qEg,qH1,zPr];rfl),rfl⟩
theorem zSi (i:Nat) (hi:i<256) (w:World):
  Calls Tryz.prog 159 #[.int .i64 (i:Int)] w fun e w'=>e= .returned (.int .u32 (U (tab i)))/\w=w':=by
 go_enter Tryz.func159,Tryz.ntmps159
 go_wp2
 go_loop [3,7] (fun c k=>∃j:Nat,j<=8/\k= .int .i64 j/\c= .int .u32 (U (it j (BitVec.ofNat 32 i<<<24)))) (fun _ k=>8-(intOf k).toNat)
 case atStart=>exact⟨0,by omega,rfl,by rw[qEh i hi];rfl⟩
 case round=>
  obtain⟨j,hj,rfl,rfl⟩:=hrel
  obtain⟨X,hX⟩:∃X,X=it j (BitVec.ofNat 32 i<<<24):=⟨_,rfl⟩
  rw[<-hX]
  have HX:=zH hX
  clear hX
  have hx:=zN0 X
  have hx':=zN1 X
  by_cases hlt:j<8
  ·cases hm:X.msb
   all_goals
    have ha:=zNz X
    rw[hm]at ha
    have HM:=zH hm
    clear hm
    first
     |(have ha2:(bits .and .u32 (U X) (2147483648:Int)==0)=true:=ha)
     |(have ha2:(bits .and .u32 (U X) (2147483648:Int)==0)=false:=ha)
    clear ha
    go_wp2
    go_round
    case rel=>
     refine⟨j+1,by omega,by go_num,?_⟩
     rw[it,<-HX.out]
     first
      |rw[<-qG2 X HM.out]
      |rw[<-qE1 X HM.out]
    case measure=>simp[intOf];omega
  ·go_wp2
   go_ret
   have hj8:j=8:=by omega
   subst hj8
   exact⟨zBw (by rw[HX.out];rfl),rfl⟩
def cell (k i:Nat):Value:= .int .u32 (if i<k then U (tab i)else 0)
@[irreducible] def cells (k:Nat):Array Value:=((List.range 256).map (cell k)).toArray
theorem zFj (k:Nat):(cells k).size=256:=by simp[cells]
theorem zO8 (k i:Nat) (h:i<256):(cells k)[i]? =some (cell k i):=by
 simp[cells,h]
theorem zYj (k:Nat) (h:k<256):(cells k).setIfInBounds k (.int .u32 (U (tab k)))=cells (k+1):=by
 apply Array.ext
 ·simp[cells]
 ·intro i h1 h2
  have h3:i<256:=by simpa [cells]using h2
  rw[Array.getElem_setIfInBounds]
  ·split
   ·subst_vars;simp[cells,cell]
   ·simp only[cells,cell,List.getElem_toArray,List.getElem_map,List.getElem_range]
    by_cases h4:i<k
    ·rw[if_pos h4,if_pos (by omega)]
    ·rw[if_neg h4,if_neg (by omega)]
  ·simpa [cells]using h3
theorem zLu (w:World):(zeroValue 265).run Tryz.prog w= .ok (.agg (cells 0)) w:=by
 kernel_rfl
theorem cells_one (k:Nat):(cells k).all (·.oneCell')=true:=by
 rw[Array.all_eq_true]
 intro i hi
 simp[cells,cell,Value.oneCell']
theorem zMu (k:Nat):(Tryz.prog.info? 265).map (·.size)=some (cells k).size:=by rw[zFj];kernel_rfl
theorem qAm (w:World):
  Calls Tryz.prog 158 #[.func (.func 159) #[] #[]] w fun e w'=>e= .returned (.agg (cells 256))/\Below w.heap.size w w':=by
 have hal:=zLu
 go_enter Tryz.func158,Tryz.ntmps158
 go_wp2
 go_loopw [4] (fun i wr=>∃k:Nat,k<=256/\i= .int .i64 k/\wr=w.alloc (.cells (cells k) 265)) (fun i _=>256-(intOf i).toNat)
 case atStart=>exact⟨0,by omega,rfl,rfl⟩
 case round=>
  obtain⟨k,hk,rfl,rfl⟩:=hrel
  have hsz:=zFj k
  by_cases hlt:k<256
  ·have hc:=zO8 k k hlt
   have hlt':(k:Int)<256:=by omega
   go_wp2_with (go_at_call 159;refine(zSi k hlt _).mono ?_;rintro e w' ⟨rfl,rfl⟩)
   go_roundw
   case rel=>exact⟨k+1,by omega,by go_num,by rw[zYj k hlt]⟩
   case measure=>simp[intOf];omega
  ·have hi:=zMu k
   have h1:=cells_one k
   have hl:=heap_alloc_last w (.cells (cells k) 265)
   go_wp2_with (first|(refine wpList_load_row rfl 265 _ rfl w.heap.size rfl 265 (cells k) (0,0) _ hl Tryz.underlying265 rfl hi ?_)|(refine wpList_store_row rfl 265 _ _ rfl w.heap.size (cells k) rfl rfl 265 (cells k) hl hi rfl h1 ?_;rw[World.setRow_alloc_new]))
   refine bodyPost_ret (v:= .agg (cells k)) ?_ rfl ⟨by rw[show k=256 from by omega],(Below.refl _ _).alloc (Nat.le_refl _) _⟩
   exact results_cell_row rfl _ _ w.heap.size 265 (cells k) (0,0) _ rfl hl Tryz.underlying265 rfl hi
theorem zEz (s:ByteArray) (k:Nat) (h:k<s.size):s.data.toList.take (k+1)=s.data.toList.take k++[s[k]]:=by
 rw[List.take_succ_eq_append_getElem (by simpa using h)];rfl
theorem qAd (c:BitVec 32) (s:ByteArray) (hs:s.size<=maxLen) (w:World):
  Calls Tryz.prog 89 #[.int .u32 (U c),.string s] w fun e w'=>e= .returned (.int .u32 (U (more c s.data.toList)))/\Below w.heap.size w w':=by
 unfold maxLen at hs
 have hal:=zLu
 have hn:=qHn
 have hc:=zN0 c
 have hc':=zN1 c
 go_enter Tryz.func89,Tryz.ntmps89
 go_wp2_with fail
 refine(qAm _).mono ?_
 rintro e w1 ⟨rfl,hb⟩
 have hl:=heap_alloc_last w1 (.cells (cells 0) 265)
 have hi:=zMu 256
 have h1:=cells_one 256
 have hz:(cells 0).size=(cells 256).size:=by rw[zFj,zFj]
 have HZ:=zH hz
 clear hz
 go_wp2_with (refine wpList_store_row rfl 265 _ _ rfl w1.heap.size (cells 256) rfl rfl 265 (cells 0) hl hi HZ.out h1 ?_;rw[World.setRow_alloc_new])
 go_loop [0,12] (fun x i=>∃k:Nat,k<=s.size/\i= .int .i64 k/\x= .int .u32 (U (feeds (~~~ c) (s.data.toList.take k)))) (fun _ i=>s.size-(intOf i).toNat)
 case atStart=>exact⟨0,by omega,rfl,rfl⟩
 case round=>
  obtain⟨k,hk,rfl,rfl⟩:=hrel
  obtain⟨X,hX⟩:∃X,X=feeds (~~~ c) (s.data.toList.take k):=⟨_,rfl⟩
  rw[<-hX]
  have HX:=zH hX
  clear hX
  have hx:=zN0 X
  have hx':=zN1 X
  clear hl hi h1 HZ
  by_cases hlt:k<s.size
  ·obtain⟨j,hj⟩:∃j,j=look X s[k]:=⟨_,rfl⟩
   have hj2:=qDb X s[k]
   have hb2:=zXi X s[k]
   have hr:=qDa X s[k]
   rw[<-hj]at hj2 hb2 hr
   have HR:=zH hr
   clear hr
   clear hj
   have hcj:(cells 256)[j]? =some (.int .u32 (U (tab j))):=by rw[zO8 256 j hj2];unfold cell;rw[if_pos hj2]
   go_wp2
   go_round
   case rel=>exact⟨k+1,by omega,by go_num,by rw[zEz s k hlt,zVb,<-HX.out,<-HR.out]⟩
   case measure=>simp[intOf];omega
  ·go_wp2
   go_ret
   refine⟨zBw ?_,hb.alloc hb.size _⟩
   rw[HX.out,List.take_of_length_le (by simp;omega)]
   rfl
theorem zG7 (s:ByteArray) (hs:s.size<=maxLen) (w:World):
  Calls Tryz.prog 25 #[.string s] w fun e w'=>e= .returned (.int .u32 (U (sum s.data.toList)))/\Below w.heap.size w w':=by
 have h0:(0:Int)=U 0#32:=by unfold U;rfl
 go_enter Tryz.func25,Tryz.ntmps25
 go_wp2_with fail
 rw[h0]
 refine(qAd _ s hs _).mono ?_
 rintro e w1 ⟨rfl,hb⟩
 go_wp2
 go_ret
 exact⟨rfl,hb⟩
end Crc
end Go.Proofs.YtppnakkaljbmbaaGreatDoor
