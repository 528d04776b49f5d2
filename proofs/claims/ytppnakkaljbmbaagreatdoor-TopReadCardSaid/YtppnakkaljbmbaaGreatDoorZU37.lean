/- Steps of a proof; no condition beyond what each states. -/
import Derived.Test.YtppnakkaljbmbaaGreatDoorZU18
import Derived.Test.YtppnakkaljbmbaaGreatDoorZU36
set_option linter.unusedVariables false
set_option linter.unusedSimpArgs false
set_option maxRecDepth 100000
set_option maxHeartbeats 8000000
namespace Go.Proofs.YtppnakkaljbmbaaGreatDoor
namespace Bk
open Go.RowKit Hf Bt Zr Ix Front Wg Ch Sl Sq Us St Tn
theorem qB (p q:Addr) (w:World):
  CallsD Tryz.prog 284 #[.pointer (some p),.pointer (some q)] .returning w fun e u' w'=>e= .returned (.tuple #[])/\u'= .returning/\w'=w:=by
 refine callsD_of_wpS Tryz.func284 rfl fun c₀ cs hu=> ?_
 apply wpS_seq
 apply wpS_region
 simp[wpOpsS,go_sem,recoverD,hu,Tryz.ntmps284,Exit.thenS]
 refine wpS_of_wp ?_
 go_wp2
 cases c₀
 simp_all [bodyPostS,results,Tryz.results284]
theorem zDf {w:World} {B:Nat} {u v x y:Value} {t:TypeId} (h:w.heap[B]? =some (.cells #[u,v,x,y] t (0,0))):(w.cell? ⟨B,0,none⟩=some u/\w.cell? ⟨B,1,none⟩=some v/\w.cell? ⟨B,2,none⟩=some x/\w.cell? ⟨B,3,none⟩=some y)/\w.frozen? ⟨B,0,none⟩=false/\w.frozen? ⟨B,1,none⟩=false/\w.frozen? ⟨B,2,none⟩=false/\w.frozen? ⟨B,3,none⟩=false:=by
 refine⟨⟨?_,?_,?_,?_⟩,?_,?_,?_,?_⟩<;>simp[World.cell?,World.frozen?,h]
abbrev zEf:TypeId:=105
def qGe (s:ByteArray) (u i j:Nat):Value:= .agg #[.string s,.int .u32 (u:Int),.int .i64 (i:Int),.int .i64 (j:Int)]
theorem zFi (i room:Nat) (a s:ByteArray) (x:List UInt8) (w:World) (hs:a.size<=100000000) (hx:s.data.toList=x) (h0:0<x.length) (hr1:1<=room) (hr2:room<=360) (hl:Rle.Len x<=room) (ha:At a i (zAn x)):
  Calls Tryz.prog 247 #[.string a,.int .i64 (i:Int),.int .i64 (room:Int)] w fun e w'=>e= .returned (.tuple #[qGe s (zBa x) i (i+(zAn x).length),.int .i64 0])/\Below w.heap.size w w':=by
 have hmf:∀(fn:Fn) (first cap:Array Value) (w:World),(Instr.makeFunc fn first cap).run Tryz.prog w= .ok (.func fn first cap) w:=fun _ _ _ _=>rfl
 obtain⟨B,hB⟩:=zB w.heap.size
 have hB':=zH hB
 obtain⟨W1,hW1⟩:=zB (w.alloc (.cells #[.string ⟨#[]⟩,.int .u32 0,.int .i64 0,.int .i64 0] zEf))
 obtain⟨W2,hW2⟩:=zB (W1.alloc (.cells #[.int .i64 0] 26))
 obtain⟨W3,hW3⟩:=zB (W2.alloc (.cells #[.string a,.int .i64 (i:Int),.slice none 0 0,.slice none 0 0,.int .i64 0] TRd))
 have z1:W1.heap.size=B+1:=by rw[<-hW1,zA,hB]
 have z2:W2.heap.size=B+2:=by rw[<-hW2,zA,z1]
 have b1:Below B w W1:=by rw[<-hW1,<-hB];exact(Below.refl _ _).alloc (Nat.le_refl _) _
 have b2:Below (B+1) W1 W2:=by rw[<-hW2,<-z1];exact(Below.refl _ _).alloc (Nat.le_refl _) _
 have b3:Below (B+2) W2 W3:=by rw[<-hW3,<-z2];exact(Below.refl _ _).alloc (Nat.le_refl _) _
 have new:∀(W:World) (o:Obj),(W.alloc o).heap[W.heap.size]? =some o:=fun W o=>by show(W.heap.push o)[W.heap.size]? =_;simp
 have c1:W3.heap[B]? =some (.cells #[.string ⟨#[]⟩,.int .u32 0,.int .i64 0,.int .i64 0] zEf (0,0)):=by
  rw[b3.block B (by omega),b2.block B (by omega),<-hW1,<-hB]
  exact new _ _
 have c2:W3.heap[B+1]? =some (.cells #[.int .i64 0] 26 (0,0)):=by
  rw[b3.block (B+1) (by omega),<-hW2,<-z1]
  exact new _ _
 have c3:RD W3 (B+2) ⟨a,i,none,0,0,none,0,0,0⟩:=by
  unfold RD
  rw[<-hW3,<-z2]
  exact new _ _
 have b123:Below B w W3:=(b1.trans (b2.mono (by omega))).trans (b3.mono (by omega))
 have z3:W3.heap.size=B+3:=by rw[<-hW3,zA,z2]
 have HF:=zH (fun(w:World)=>zC9 room hr1 hr2 w)
 have HTX:=zH (zY7 (B+2) i room a s x W3 c3 hs hx h0 hr1 hr2 hl ha)
 have HSM:=zH (fun(W:World)=>show Calls Tryz.prog 25 #[.string s] W fun e w'=>e= .returned (.int .u32 (zBa x:Int))/\Below W.heap.size W w' from by
  have hb:=(Rle.zBu x).2
  have hsz:s.size=x.length:=by rw[<-hx];simp
  have h:=Crc.zG7 s (by unfold maxLen;omega) W
  rw[hx,show Crc.U (Crc.sum x)=(zBa x:Int)by unfold Crc.U zBa;rfl]at h
  exact h)
 have HM:=zH (fun(e:Int) (w:World)=>zJv e w)
 have HB:=zH b123
 have C1:=zH c1
 have C2:=zH c2
 have Z3:=zH z3
 obtain⟨sm,hsm⟩:=zB (zBa x)
 obtain⟨n,hn⟩:=zB ((zAn x).length)
 rw[hsm]at HSM
 rw[hsm,hn]at HTX
 rw[hsm,hn]
 have hi0:¬(i:Int)<0:=by omega
 have HW1:=zH hW1
 have HW2:=zH hW2
 have HW3:=zH hW3
 clear b1 b2 b3 c1 c2 c3 b123 new hx ha h0 hl hsm hn z3 hW1 hW2 hW3 z1 z2
 go_enter_defers Tryz.func247,Tryz.ntmps247
 go_wp2_with fail
 (with_reducible refine(HF.out _).mono ?_)
 rintro e w1 ⟨rfl,hw1⟩
 subst hw1
 go_wp2_with fail
 rw[show B+1+1=B+2 from rfl]
 rw[show((w.alloc (.cells #[.string ⟨#[]⟩,.int .u32 0,.int .i64 0,.int .i64 0] zEf)).alloc (.cells #[.int .i64 0] 26)).alloc (.cells #[.string a,.int .i64 (i:Int),.slice none 0 0,.slice none 0 0,.int .i64 0] TRd)=W3 by rw[HW1.out,HW2.out,HW3.out]]
 (with_reducible refine HTX.out.mono ?_)
 rintro e w4 ⟨rfl,⟨tp,tc,cq,KG,cc,hk⟩,hu⟩
 have K4:=zH hk
 have B4:=zH (HB.out.trans (hu.below.mono (show B<=B+2 by omega)))
 have D1:=zH ((hu.old B (by rw[Z3.out];omega) (by omega)).trans C1.out)
 have D2:=zH ((hu.old (B+1) (by rw[Z3.out];omega) (by omega)).trans C2.out)
 have Z4:=zH (show B+3<=w4.heap.size by have:=hu.size;rw[Z3.out]at this;exact this)
 clear hk hu HTX HW1 HW2 HW3 HB C1 C2 Z3
 go_wp2_with fail
 (with_reducible refine(HSM.out _).mono ?_)
 rintro e w5 ⟨rfl,hb5⟩
 have B5:=zH (B4.out.trans (hb5.mono (by have:=Z4.out;omega)))
 have K5:=K4.out.below hb5
 have d1:=(hb5.block B (by have:=Z4.out;omega)).trans D1.out
 have d2:=(hb5.block (B+1) (by have:=Z4.out;omega)).trans D2.out
 have x1:=K5.c1
 simp only at x1
 obtain⟨⟨y0,y1,y2,y3⟩,g0,g1,g2,g3⟩:=zDf d1
 have u0:w5.cell? ⟨B+1,0,none⟩=some (.int .i64 0):=by simp[World.cell?,d2]
 have v0:w5.frozen? ⟨B+1,0,none⟩=false:=by simp[World.frozen?,d2]
 clear hb5 K4 K5 D1 D2 d2 B4 Z4 HF
 go_wp2_with fail
 (with_reducible refine(HM.out _ _).mono ?_)
 rintro e w6 ⟨rfl,rfl⟩
 obtain⟨F1,hF1⟩:=zB ((((w6.setCell ⟨B,0,none⟩ (.string s)).setCell ⟨B,1,none⟩ (.int .u32 (sm:Int))).setCell ⟨B,2,none⟩ (.int .i64 (i:Int))).setCell ⟨B,3,none⟩ (.int .i64 ((i:Int)+(n:Int))))
 have e1:F1.heap[B]? =some (.cells #[.string s,.int .u32 (sm:Int),.int .i64 (i:Int),.int .i64 ((i:Int)+(n:Int))] zEf (0,0)):=by
  rw[<-hF1];exact zA3 3 _ (zA3 2 _ (zA3 1 _ (zA3 0 _ d1)))
 obtain⟨F,hF⟩:=zB (F1.setCell ⟨B+1,0,none⟩ (.int .i64 0))
 have e2:F.heap[B]? =some (.cells #[.string s,.int .u32 (sm:Int),.int .i64 (i:Int),.int .i64 ((i:Int)+(n:Int))] zEf (0,0)):=by
  rw[<-hF];exact qF8 (by omega) e1
 have u1:F1.cell? ⟨B+1,0,none⟩=some (.int .i64 0):=by
  rw[<-hF1,World.cell?_setCell_other _ _ _ _ (by intro e;injection e with e1 _ _;omega),World.cell?_setCell_other _ _ _ _ (by intro e;injection e with e1 _ _;omega),World.cell?_setCell_other _ _ _ _ (by intro e;injection e with e1 _ _;omega),World.cell?_setCell_other _ _ _ _ (by intro e;injection e with e1 _ _;omega)]
  exact u0
 have v1:F1.frozen? ⟨B+1,0,none⟩=false:=by
  rw[<-hF1,World.frozen?_setCell,World.frozen?_setCell,World.frozen?_setCell,World.frozen?_setCell]
  exact v0
 have r4:F.cell? ⟨B+1,0,none⟩=some (.int .i64 0):=by
  rw[<-hF]
  exact World.cell?_setCell_same _ _ _ (u:= .int .i64 0) u1
 have HF:=zH (show Below B w F by
  rw[<-hF,<-hF1]
  exact((((B5.out.setCell (p:=⟨B,0,none⟩) (Nat.le_refl _) _).setCell (p:=⟨B,1,none⟩) (Nat.le_refl _) _).setCell (p:=⟨B,2,none⟩) (Nat.le_refl _) _).setCell (p:=⟨B,3,none⟩) (Nat.le_refl _) _).setCell (p:=⟨B+1,0,none⟩) (Nat.le_succ _) _)
 obtain⟨⟨r0,r1,r2,r3⟩,_⟩:=zDf e2
 clear e1 e2 d1
 go_wp2
 refine leaves_cons (f:=284) (args:= #[.pointer (some ⟨B,0,none⟩),.pointer (some ⟨B+1,0,none⟩)]) (by simp) (by simp[go_sem]) ?_
 refine(qB ⟨B,0,none⟩ ⟨B+1,0,none⟩ F).mono ?_
 rintro e u' w'' ⟨rfl,rfl,rfl⟩
 simp[Leaves,settle,results,Tryz.results247,go_sem,r0,r1,r2,r3,r4]
 rw[hB'.out]
 exact⟨rfl,HF.out⟩
end Bk
namespace Sm
open Go.RowKit Hf Bt Zr Ix Front Wg Ch Sl Sq Us St Tn Bk Rg
abbrev zCf:TypeId:=65
theorem qEn:Kit.One Tryz.prog 224 zCf 4:=⟨Tryz.underlying224,⟨.int .u32 0,by kernel_rfl,rfl⟩⟩
structure RP (D:Nat) (A B:World):Prop where
 os:B.os=A.os
 tape:B.tape=A.tape
 output:B.output=A.output
 size:A.heap.size<=B.heap.size
 old:∀(k:Nat) (o:Obj),A.heap[k]? =some o->(k<D\/((∀cs f,o≠ .cells cs TSr f)/\(∀cs f,o≠ .cells cs zCf f)))->B.heap[k]? =some o
theorem RP.trans {D:Nat} {A B C:World} (h:RP D A B) (g:RP D B C):RP D A C:=⟨g.os.trans h.os,g.tape.trans h.tape,g.output.trans h.output,Nat.le_trans h.size g.size,fun k o hk h1=>g.old k o (h.old k o hk h1) h1⟩
theorem RP.below {A B:World} {D E:Nat} (h:Below E A B) (hE:E=A.heap.size):RP D A B:=⟨h.os,h.tape,h.output,h.size,fun k o hk _=>(h.block k (by rw[hE];exact zAd hk)).trans hk⟩
theorem RP.set {D:Nat} {A:World} {K i n c j:Nat} {a:ByteArray} {p:Option Addr} (h:SR A K a i p n c) (hD:D<=K) (v:Value):RP D A (A.setCell ⟨K,j,none⟩ v):=
 ⟨rfl,rfl,rfl,by simp,fun k o hk h1=>(zAa (fun e=>by
  subst e
  rw[show A.heap[k]? =_ from h]at hk
  injection hk with hk
  rcases h1 with h1|h1
  ·omega
  ·exact h1.1 _ _ hk.symm)).trans hk⟩
theorem RP.keeps {D:Nat} {A B:World} (h:RP D A B):KeepsOthers A B:=⟨h.size,fun k o hk ho=>h.old k o hk (.inr ⟨(fun cs f e=>by rw[e]at ho;cases ho),(fun cs f e=>by rw[e]at ho;cases ho)⟩)⟩
theorem RP.from {D E:Nat} {w A B:World} (h:RP D A B) (hb:Below E w A) (hE:E<=D) (hs:D<=A.heap.size):Below E w B:=
 hb.trans ⟨h.os,h.tape,h.output,h.size,fun k hk=>by
  have h1:A.heap[k]? =some A.heap[k]:=Array.getElem?_eq_getElem (by omega)
  rw[h1]
  exact h.old k _ h1 (.inl (by omega))⟩
structure SS (w:World) (K:Nat) (a:ByteArray) (i:Nat) (p:Option Addr) (n c:Nat) (l:List (BitVec 32)):Prop where
 rd:SR w K a i p n c
 own:Kit.Own w (K+1) zCf p n c (l.map zAx)
section
variable {w w':World} {K i n c:Nat} {a:ByteArray} {p:Option Addr} {l:List (BitVec 32)}
theorem SS.lt (h:SS w K a i p n c l):K<w.heap.size:=h.rd.lt
theorem SS.below (h:SS w K a i p n c l) (hb:Below w.heap.size w w'):SS w' K a i p n c l:=⟨h.rd.below hb,h.own.below hb (Nat.le_refl _)⟩
theorem SS.s1 (h:SS w K a i p n c l) (j:Nat) {V:Int} (hV:V=(j:Int)):SS (w.setCell ⟨K,1,none⟩ (.int .i64 V)) K a j p n c l:=⟨h.rd.s1 j hV,zCz h.own (Nat.lt_succ_self K) _⟩
theorem SS.alloc (h:SS w K a i p n c l) (o:Obj):SS (w.alloc o) K a i p n c l:=h.below ((Below.refl _ _).alloc (Nat.le_refl _) _)
theorem SS.drew (h:SS w K a i p n c l):SS w.drew K a i p n c l:=⟨h.rd,h.own⟩
theorem SS.sc {C:Nat->TypeId->Prop} (h:SS w K a i p n c l) (hs:Sc C w w') (h1:∀k,¬C k TSr) (h2:∀k,¬C k zCf):SS w' K a i p n c l:=by
 refine⟨hs.2 _ _ _ _ h.rd (h1 _),?_⟩
 obtain⟨h3,h4⟩:=h.own
 refine⟨h3,?_⟩
 rcases h4 with h4|⟨g,cap,cur,hv,hbg,hg,r⟩
 ·exact .inl h4
 ·exact .inr ⟨g,cap,cur,hv,hbg,hs.2 _ _ _ _ hg (h2 _),r⟩
theorem SS.push {D:Nat} (h:SS w K a i p n c l) (hD:D<=K) (x:BitVec 32) (hl:n<=100000):
  ∃p1 c1 w1 w2,(loadVar 224 ⟨K,2,none⟩).run Tryz.prog w= .ok (.slice p n c) w/\
   (loadVar 224 ⟨K,2,none⟩).run Tryz.prog (w.alloc (.cells #[zAx x] zCf))= .ok (.slice p n c) (w.alloc (.cells #[zAx x] zCf))/\
   (Builtin.append_ #[224,224] 224 #[.slice p n c,.slice (some ⟨w.heap.size,0,none⟩) 1 1]).run Tryz.prog (w.alloc (.cells #[zAx x] zCf))= .ok (.slice p1 (n+1) c1) w1/\
   (storeVar 224 ⟨K,2,none⟩ (.slice p1 (n+1) c1)).run Tryz.prog w1= .ok () w2/\SS w2 K a i p1 (n+1) c1 (l++[x])/\RP D w w2:=by
 have hal:=h.alloc (.cells #[zAx x] zCf)
 obtain⟨p1,c1,w1,hr,ho,hg⟩:=Kit.Own.app (ty:=224) qEn hal.own (some ⟨w.heap.size,0,none⟩) 1 1 [zAx x] (Kit.zAs w (zAx x) zCf) rfl (fun h=>by cases h) (zPv [x]) (by unfold maxLen;omega) (by omega) (by have:=hal.lt;omega)
 rw[show l.map zAx++[zAx x]=(l++[x]).map zAx by rw[List.map_append];rfl]at ho
 have hbk:=hal.own.block
 have hb:Below (K+1) (w.alloc (.cells #[zAx x] zCf)) w1:=Kit.zAq hg (by have:=hal.lt;omega) (fun k hk=>hbk k hk)
 have k1:SR w1 K a i p n c:=hal.rd.keep (hb.block K (Nat.lt_succ_self K))
 refine⟨p1,c1,w1,_,Kit.zAg h.rd.c2 (by kernel_rfl) (by kernel_rfl),Kit.zAg hal.rd.c2 (by kernel_rfl) (by kernel_rfl),hr,Kit.zDs k1.c2 (k1.fr 2) (by kernel_rfl) rfl rfl,⟨k1.s2 p1 (n+1) c1,zCz ho (Nat.lt_succ_self K) _⟩,?_⟩
 refine(RP.below ((Below.refl _ w).alloc (Nat.le_refl _) (.cells #[zAx x] zCf)) rfl).trans (RP.trans ?_ (RP.set k1 hD _))
 obtain⟨g1,g2,g3,hsz,hold⟩:=hg
 refine⟨g1,g2,g3,hsz,fun k o hk h1=>(hold k (zAd hk) (fun e=> ?_)).trans hk⟩
 cases p with
 |none=>cases e
 |some q=>
  rcases hal.own.2 with⟨e1,_⟩|⟨g,cap,cur,hv,hgK,hgg,_⟩
  ·cases e1
  ·injection hv with hv _ _
   injection hv with hv
   subst hv
   injection e with e
   subst e
   rw[hgg]at hk
   injection hk with hk
   rcases h1 with h1|h1
   ·omega
   ·exact h1.2 _ _ hk.symm
end
theorem qE3 {w:World} {B:Nat} {u v x y u' v' x' y':Value} (h:w.heap[B]? =some (.cells #[u,v,x,y] zEf (0,0))) (h1:∀z∈[u',v',x',y'],z.oneCell'=true):
  ∃w',(storeVar zEf ⟨B,0,none⟩ (.agg #[u',v',x',y'])).run Tryz.prog w= .ok () w'/\w'.heap[B]? =some (.cells #[u',v',x',y'] zEf (0,0))/\(∀k,k≠B->w'.heap[k]? =w.heap[k]?)/\(∀D,D<=B->Below D w w'):=by
 obtain⟨⟨c0,c1,c2,c3⟩,f0,f1,f2,f3⟩:=zDf h
 have hst:=run_storeVar_mid (P:=Tryz.prog) w B 0 zEf #[u',v',x',y'] (fun j hj=>by
  have hj4:j<4:=hj
  obtain rfl|rfl|rfl|rfl:j=0\/j=1\/j=2\/j=3:=by omega
  ·exact⟨by rw[show 0+0=0 from rfl,c0];rfl,f0⟩
  ·exact⟨by rw[show 0+1=1 from rfl,c1];rfl,f1⟩
  ·exact⟨by rw[show 0+2=2 from rfl,c2];rfl,f2⟩
  ·exact⟨by rw[show 0+3=3 from rfl,c3];rfl,f3⟩) (by kernel_rfl) (by simpa using h1)
 refine⟨_,hst,?_,?_,?_⟩
 ·exact zA3 3 _ (zA3 2 _ (zA3 1 _ (zA3 0 _ h)))
 ·exact fun k hk=>(zAa hk).trans ((zAa hk).trans ((zAa hk).trans (zAa hk)))
 ·exact fun D hD=>((((Below.refl _ w).setCell (p:=⟨B,0,none⟩) hD _).setCell (p:=⟨B,1,none⟩) hD _).setCell (p:=⟨B,2,none⟩) hD _).setCell (p:=⟨B,3,none⟩) hD _
def PV (lev:Nat) (ps:List T) (k:Nat):Value:= .agg #[.string (Rle.bs (ps.getD k [])),zAx (Crc.sum (ps.getD k [])),.int .i64 (pos ps k:Int),.int .i64 (pos ps (k+1):Int),.int .i64 ((40*lev:Nat):Int)]
def EP (lev:Nat) (ps:List T) (k:Nat) (_:World) (vs:Array Value):Prop:=vs= #[PV lev ps k,.int .i64 0]
structure Arc (lev:Nat) (ps:List T) (a:ByteArray) (n:Nat):Prop where
 len:ps.length=n
 lo:1<=lev
 hi:lev<=9
 size:a.size<=100000000
 many:n<=10000
 head:Hd a lev
 each:∀p∈ps,0<p.length/\Rle.Len p<=40*lev
 blk:∀k,k<n->At a (pos ps k) (zAn (ps.getD k []))
 fin:At a (pos ps n) (zF ps)
 rest:∃r,(8-(pos ps n+80)%8)%8=r/\pos ps n+80+r=8*a.size/\val (take a (pos ps n+80) r)=0
theorem Arc.mem {lev n:Nat} {ps:List T} {a:ByteArray} (h:Arc lev ps a n) {k:Nat} (hk:k<n):0<(ps.getD k []).length/\Rle.Len (ps.getD k [])<=40*lev:=by
 have h1:k<ps.length:=by rw[h.len];exact hk
 rw[List.getD_eq_getElem?_getD,List.getElem?_eq_getElem h1]
 exact h.each _ (List.getElem_mem h1)
theorem Arc.next {lev n:Nat} {ps:List T} {a:ByteArray} (h:Arc lev ps a n) {k:Nat} (hk:k<n):pos ps k+(zAn (ps.getD k [])).length=pos ps (k+1):=by
 have h1:k<ps.length:=by rw[h.len];exact hk
 rw[zZv ps k h1,List.getD_eq_getElem?_getD,List.getElem?_eq_getElem h1]
 rfl
theorem qGl (lev:Nat) (ps:List T) (h1:1<=lev) (h9:lev<=9) (hs:(zCt lev ps).size<=100000000) (hn:ps.length<=10000) (he:∀p∈ps,0<p.length/\Rle.Len p<=40*lev):Arc lev ps (zCt lev ps) ps.length:=by
 refine⟨rfl,h1,h9,hs,hn,fun k hk=>qBm lev (by omega) ps k hk,he,fun k hk=> ?_,qEd lev ps,⟨_,rfl,?_,?_⟩⟩
 ·rw[List.getD_eq_getElem?_getD,List.getElem?_eq_getElem hk]
  exact qGm lev ps k hk
 ·rw[zLr];omega
 ·refine qBl lev ps _ ?_
  rw[zLr];omega
end Sm
namespace Sm
open Go.RowKit Hf Bt Zr Ix Front Wg Ch Sl Sq Us St Tn Bk Rg
variable {w:World} {K i n c:Nat} {a:ByteArray} {p:Option Addr}
theorem SR.l0 (h:SR w K a i p n c):(loadVar 9 ⟨K,0,none⟩).run Tryz.prog w= .ok (.string a) w:=Kit.zAg h.c0 (by kernel_rfl) (by kernel_rfl)
theorem SR.l1 (h:SR w K a i p n c):(loadVar 3 ⟨K,1,none⟩).run Tryz.prog w= .ok (.int .i64 (i:Int)) w:=Kit.zAg h.c1 (by kernel_rfl) (by kernel_rfl)
theorem zW1 {pre:List Nat} {k:Nat} (hk:k<n):List.range k++[k]<+:List.range n:=by
 rw[<-List.range_succ]
 exact List.prefix_iff_eq_take.2 (by rw[List.length_range,List.take_range];congr 1;omega)
theorem RP.upd {D:Nat} {w':World} (h:Upd w w' K) (hD:D<=K) (hs:SR w K a i p n c):RP D w w':=
 ⟨h.below.os,h.below.tape,h.below.output,h.size,fun k o hk h1=>(h.old k (zAd hk) (fun e=>by
  subst e
  rw[show w.heap[k]? =_ from hs]at hk
  injection hk with hk
  rcases h1 with h1|h1
  ·omega
  ·exact h1.1 _ _ hk.symm)).trans hk⟩
def zVp (K:Nat) (w:World):Nat:=match w.cell? ⟨K,1,none⟩with
 |some (.int .i64 i)=>i.toNat
 |_=>0
theorem zJ7 (h:SR w K a i p n c):zVp K w=i:=by
 unfold zVp
 rw[h.c1]
 rfl
theorem zUl (D K l lev n:Nat) (hDK:D<=K) (ps:List T) (a:ByteArray) (A:Arc lev ps a n) (C:Nat->TypeId->Prop) (hC1:∀k,¬C k TSr) (hC2:∀k,¬C k zCf) (J Jx:List Nat->World->Prop) (hJ:∀pre A B,J pre A->RP D A B->J pre B)
  (hY:∀pre x W1 vs,J pre W1->EP lev ps x W1 vs->pre++[x]<+:List.range n->YieldAt Fence.wide 1 Tryz.prog l vs W1 fun e W'=>(e= .returned (.bool true)/\J (pre++[x]) W'/\Sc C W1 W')\/(e= .returned (.bool false)/\Jx (pre++[x]) W'))
  (w:World) (h:SR w K a 0 none 0 0) (h0:J [] w):
  CallsIn Fence.wide 2 Tryz.prog 189 #[.pointer (some ⟨K,0,none⟩),.func (.yield l) #[] #[]] w fun e w'=>
   (e= .returned (.bool true)/\J (List.range n) w'/\∃p c,SR w' K a (8*a.size) p n c)\/(e= .returned (.bool false)/\∃pre,pre<+:List.range n/\Jx pre w'):=by
 have HJ:=zH hJ
 have HY:=zH hY
 have HA:=zH A
 have HRM:=zH (zZm a lev A.size A.lo A.hi A.head w.drew)
 have K0:=zH (show SR w.drew K a 0 none 0 0 from h)
 have J0:=zH (hJ _ _ _ h0 (RP.below (B:=w.drew) ((Below.refl w.heap.size w).drew) rfl))
 obtain⟨m,hm⟩:=zB (40*lev)
 have hm2:m<=360:=by have:=A.hi;omega
 rw[hm]at HRM
 have HM:=zH hm
 clear hJ hY A h h0 hm
 refine callsIn_of_wp Tryz.func189 rfl trivial ?_ rfl
 simp only[Tryz.ntmps189,List.size_toArray,List.length_cons,List.length_nil,Nat.reduceAdd,Nat.reduceSub,Array.replicate_succ,Array.replicate_zero,List.push_toArray,List.append_toArray,List.nil_append,List.cons_append]
 gi_wp2
 refine Kit.zIq (by kernel_rfl) [] (fun _=>True) [0,1,2,4,0,16,32,64,128,264,512,1024,1024,4095,16383] 15 (by kernel_rfl) (by kernel_rfl) (by kernel_rfl) (by kernel_rfl) (by kernel_rfl) ?_
 refine zp [0,1,2,3,4,5,6,7,8]<|zk 10 (zP K 0)<|zk 11 (zP K 0)<|zk 12 (zP K 0)<|zt 13 (.string a) (zl 9 12 (K0.out.l0))<|zk 14 (zP K 0)<|zk 15 (zP K 0)<|zk 16 (zP K 1)<|zt 17 (.int .i64 0) (zl 3 16 (K0.out.l1))<|zk 18 (.int .i64 0)<|zn<|zd 9 19 245 #[.string a,.int .i64 0] (.tuple #[.int .i64 (m:Int),.int .i64 0]) HRM.out<|zp [10,11,12,13,14]<|zk 9 (.tuple #[.int .i64 (m:Int),.int .i64 0])<|zk 20 (zI m)<|zk 21 (.int .i64 0)<|zk 5 (zI m)<|zk 6 (.int .i64 0)<|zn<| ?_
 refine Kit.zRh (by kernel_rfl) ?_
 simp only[zP,zI,Act.put,List.setIfInBounds_toArray,List.set_cons_zero,List.set_cons_succ]
 clear HRM
 generalize w.drew=w1 at K0 J0⊢
 have c1:=K0.out.c1
 have c2:=K0.out.c2
 have f1:=K0.out.fr 1
 have f2:=K0.out.fr 2
 have S1:=SR.s1 K0.out 32 (V:=32) rfl
 have S2:=zH (SS.mk (l:=[]) (SR.s2 S1 none 0 0) (Kit.Own.start _ _ _))
 have J2:=zH (HJ.out _ _ _ (HJ.out _ _ _ J0.out (RP.set K0.out hDK (j:=1) (.int .i64 32))) (RP.set S1 hDK (j:=2) (.slice none 0 0)))
 clear S1 J0 K0
 rw[show((0:Nat):Int)=0 from rfl]at c1
 gi_wp2
 clear c1 c2 f1 f2
 gi_loopw [6] (fun ev wr=>∃(k c:Nat) (p:Option Addr),k<=n/\ev= .int .i64 0/\RowKit.Hid (SS wr K a (pos ps k) p k c ((ps.take k).map Crc.sum))/\RowKit.Hid (J (List.range k) wr)) (fun _ wr=>8*a.size+1-zVp K wr)
 case atStart=>exact⟨0,0,none,Nat.zero_le _,rfl,by rw[zZu];exact S2,J2⟩
 case round=>
  clear S2 J2
  obtain⟨k,c,p,hk,rfl,hss,hj⟩:=hrel
  have J1:=zH (HJ.out _ _ _ hj.out (RP.below (B:=wr.drew) ((Below.refl wr.heap.size wr).drew) rfl))
  have S1:=zH hss.out.drew
  have K1:=zH S1.out.rd
  obtain⟨i,hi⟩:=zB (pos ps k)
  have hat0:=zJ7 hss.out.rd
  rw[hi]at S1 K1 hat0
  have HI:=zH (And.intro hi hat0)
  clear hss hj hat0
  by_cases hlt:k<n
  ·obtain⟨x,hx⟩:=zB (ps.getD k [])
   have hat:=HA.out.blk k hlt
   have hmem:=HA.out.mem hlt
   have hnx:=HA.out.next hlt
   rw[hi,hx]at hat hnx
   rw[hx,HM.out]at hmem
   obtain⟨i2,hi2⟩:=zB (pos ps (k+1))
   rw[hi2]at hnx
   have hm48:At a i (num zA4 48):=Bk.At.left (by rw[zE6]at hat;exact hat)
   have hb:=Bk.At.bound hat
   have hb48:=Bk.At.bound hm48
   rw[zAc]at hb48
   have hs:=HA.out.size
   have HG:=zH ((zB7 a i 48 (by omega) hb48 (by omega) wr.drew).mono (fun _ _ h=>(⟨h.1,h.2.symm⟩:_/\_)))
   rw[At.val hm48 (by decide),show((zA4:Nat):Int)=54156738319193 from rfl,show((48:Nat):Int)=48 from rfl]at HG
   have hsu:(zBa x:Int)=Crc.U (Crc.sum x):=by unfold Crc.U zBa;rfl
   have HDC:=zH (fun W=>zFi i m a (Rle.bs x) x W hs (Rle.zBk x) hmem.1 (by have:=HM.out;have:=HA.out.lo;omega) hm2 hmem.2 hat)
   unfold qGe at HDC
   rw[hnx,hsu]at HDC
   have HX:=zH (And.intro hx (And.intro hi2 (And.intro hnx hb)))
   have hlen:48<=(zAn x).length:=by rw[zE6,List.length_append,zAc];omega
   have HLE:=zH (show i<i2 by omega)
   clear hi hx hat hmem hnx hi2 hm48 hb hb48 hs hsu hlen
   gi_wp2
   refine Kit.zIq (by kernel_rfl) [] (fun _=>True) [0,1,2,4,0,16,32,64,136,256,512,512,2047,8191] 14 (by kernel_rfl) (by kernel_rfl) (by kernel_rfl) (by kernel_rfl) (by kernel_rfl) ?_
   refine zp [0,1,2,3,4,5,6,7]<|zk 35 (zP K 0)<|zk 36 (zP K 0)<|zk 37 (zP K 0)<|zt 38 (.string a) (zl 9 37 (K1.out.l0))<|zk 39 (zP K 0)<|zk 40 (zP K 0)<|zk 41 (zP K 1)<|zt 42 (zI i) (zl 3 41 (K1.out.l1))<|zn<|zd 8 43 32 #[.string a,.int .i64 (i:Int),.int .i64 48] (.tuple #[.int .u64 54156738319193,.int .i64 0]) HG.out<|zp [9,10,11,12,13]<|zk 34 (.tuple #[.int .u64 54156738319193,.int .i64 0])<|zk 44 (.int .u64 54156738319193)<|zk 45 (.int .i64 0)<|zk 7 (.int .u64 54156738319193)<|zk 6 (.int .i64 0)<|zn<| ?_
   refine Kit.zRh (by kernel_rfl) ?_
   simp only[zP,zI,Act.put,List.setIfInBounds_toArray,List.set_cons_zero,List.set_cons_succ]
   clear HG K1
   generalize wr.drew=w2 at S1 J1⊢
   obtain⟨b,hb0⟩:=zB w2.heap.size
   obtain⟨W,hW⟩:=zB (w2.alloc (.cells #[.string ⟨#[]⟩,.int .u32 0,.int .i64 0,.int .i64 0] zEf))
   have hKb:K<b:=by rw[<-hb0];exact S1.out.lt
   have S2:=zH (show SS W.drew K a i p k c ((ps.take k).map Crc.sum)by rw[<-hW];exact(S1.out.alloc _).drew)
   have K2:=zH S2.out.rd
   have HZ:=zH (show W.drew.heap[b]? =some (.cells #[.string ⟨#[]⟩,.int .u32 0,.int .i64 0,.int .i64 0] zEf (0,0))by rw[<-hW,<-hb0];exact zAh w2 _)
   have B2:=zH (show Below b w2 W.drew by rw[<-hW,<-hb0];exact((Below.refl _ _).alloc (Nat.le_refl _) _).drew)
   have HW:=zH hW
   have HB0:=zH hb0
   clear S1 hW hb0
   gi_wp2
   rw[HB0.out,show w2.alloc (.cells #[.string ⟨#[]⟩,.int .u32 0,.int .i64 0,.int .i64 0] zEf)=W from HW.out]
   refine Kit.zIq (by kernel_rfl) [] (fun _=>True) [0,1,2,4,0,16,32,64,0,392,512,1024,1024,4095,16383] 15 (by kernel_rfl) (by kernel_rfl) (by kernel_rfl) (by kernel_rfl) (by kernel_rfl) ?_
   refine zp [0,1,2,3,4,5,6,7,8]<|zk 66 (zP K 0)<|zk 67 (zP K 0)<|zk 68 (zP K 0)<|zt 69 (.string a) (zl 9 68 (K2.out.l0))<|zk 70 (zP K 0)<|zk 71 (zP K 0)<|zk 72 (zP K 1)<|zt 73 (zI i) (zl 3 72 (K2.out.l1))<|zk 74 (zI m)<|zn<|zx 9 75 247 #[.string a,.int .i64 (i:Int),.int .i64 (m:Int)] (HDC.out _)<| ?_
   rintro e w5 ⟨rfl,hb5⟩
   have hbz:=(hb5.block b (zAd HZ.out)).trans HZ.out
   obtain⟨w6,hst6,hz6,ho6,hbl6⟩:=qE3 (u':= .string (Rle.bs x)) (v':= .int .u32 (Crc.U (Crc.sum x))) (x':= .int .i64 (i:Int)) (y':= .int .i64 (i2:Int)) hbz (by simp[Value.oneCell'])
   refine⟨_,rfl,.inr (.inr trivial),?_⟩
   refine zp [10]<|zk 65 (.tuple #[.agg #[.string (Rle.bs x),.int .u32 (Crc.U (Crc.sum x)),.int .i64 (i:Int),.int .i64 (i2:Int)],.int .i64 0])<|zn<|zu 12 77 (.int .i64 0)<|zp [11]<|zk 76 (.agg #[.string (Rle.bs x),.int .u32 (Crc.U (Crc.sum x)),.int .i64 (i:Int),.int .i64 (i2:Int)])<|zn<|zw 13 none (zr 105 8 76 (hst6)) (.inr (.inr trivial))<|zp [14]<|zk 6 (.int .i64 0)<|zn<| ?_
   refine Kit.zRh (by kernel_rfl) ?_
   simp only[zP,zI,Act.put,List.setIfInBounds_toArray,List.set_cons_zero,List.set_cons_succ]
   have hszb:b<W.drew.heap.size:=zAd HZ.out
   have S5:=S2.out.below hb5
   have S6:SS w6 K a i p k c ((ps.take k).map Crc.sum):=S5.sc (C:=fun q t=>q=b/\t=zEf) ⟨(hbl6 b (Nat.le_refl _)).size,fun q cs t f hq hc=>(ho6 q (fun e=>hc ⟨e,by subst e;rw[hbz]at hq;injection hq with hq;injection hq with _ hq _;exact hq.symm⟩)).trans hq⟩ (fun q h=>absurd h.2 (by decide)) (fun q h=>absurd h.2 (by decide))
   have J6:=HJ.out _ _ _ J1.out (RP.below ((B2.out.trans (hb5.mono (Nat.le_of_lt hszb))).trans (hbl6 b (Nat.le_refl _))) HB0.out.symm)
   have c1:=S6.rd.c1
   have f1:=S6.rd.fr 1
   have S7:=zH (S6.s1 i2 (V:=(i2:Int)) rfl)
   have J7:=zH (HJ.out _ _ _ J6 (RP.set S6.rd hDK (j:=1) (.int .i64 (i2:Int))))
   have z7:(w6.setCell ⟨K,1,none⟩ (.int .i64 (i2:Int))).heap[b]? =some (.cells #[.string (Rle.bs x),.int .u32 (Crc.U (Crc.sum x)),.int .i64 (i:Int),.int .i64 (i2:Int)] zEf (0,0)):=(zAa (Nat.ne_of_gt hKb)).trans hz6
   obtain⟨⟨_,_,_,e3⟩,_⟩:=zDf hz6
   obtain⟨w7,hw7⟩:=zB (w6.setCell ⟨K,1,none⟩ (.int .i64 (i2:Int)))
   rw[hw7]at S7 J7 z7
   have Z7:=zH z7
   clear hb5 hst6 hz6 ho6 hbl6 hbz S5 S6 J6 HDC K2 S2 HZ B2 HW HB0 J1 hszb z7
   gi_wp2
   have hk100:k<=100000:=by have:=HA.out.many;omega
   obtain⟨p1,d1,w8,w9,l2,l2a,hr8,hst9,S9,hrp⟩:=S7.out.drew.push (D:=D) hDK (Crc.sum x) hk100
   have LB:=zH (show(loadVar 65 ⟨b,1,none⟩).run Tryz.prog w7.drew= .ok (zAx (Crc.sum x)) w7.drew from Kit.zAg (by simp[World.cell?,show w7.drew.heap[b]? =_ from Z7.out];rfl) (by kernel_rfl) (by kernel_rfl))
   have L2:=zH l2
   have L2A:=zH l2a
   have HR8:=zH hr8
   have HST9:=zH hst9
   have z9:=hrp.old b _ (show w7.drew.heap[b]? =_ from Z7.out) (.inr ⟨(fun cs f e=>by injection e with _ e _;exact absurd e (by decide)),(fun cs f e=>by injection e with _ e _;exact absurd e (by decide))⟩)
   have J9:=HJ.out _ _ _ J7.out ((RP.below (B:=w7.drew) ((Below.refl w7.heap.size w7).drew) rfl).trans hrp)
   have SS9:=zH S9
   clear c1 f1 e3 hw7 l2 l2a hr8 hst9 S9 hrp S7 J7 Z7
   refine Kit.zIq (by kernel_rfl) [8,11] (fun W'=>(loadVar 224 ⟨K,2,none⟩).run Tryz.prog W'= .ok (.slice p k c) W') [0,0,2,4,8,0,32,64,144,511,1023,1535] 12 (by kernel_rfl) (by kernel_rfl) (by kernel_rfl) (by kernel_rfl) (by kernel_rfl) ?_
   refine zu 0 85 (zP K 0)<|zu 1 86 (zP K 0)<|zu 2 87 (zP K 0)<|zu 3 88 (zP K 2)<|zy 4 89 (.slice p k c) (fun w hS=>zl 224 88 (hS)) L2.out<|zp [5,6]<|zk 90 (zP b 1)<|zt 91 (zAx (Crc.sum x)) (zl 65 90 (LB.out))<|zn<| ?_
   refine Kit.zLe (w':=w7.drew.alloc (.cells #[zAx (Crc.sum x)] zCf)) 7 (some 92) (.slice (some ⟨w7.drew.heap.size,0,none⟩) 1 1) 255 (by kernel_rfl) (by kernel_rfl) rfl rfl (by kernel_rfl) (by kernel_rfl) (.inr (.inr (L2A.out))) ?_
   refine zo 8 93 (.slice p1 (k+1) d1) (Kit.zHb (.tmp 89) (.tmp 92) 224 rfl (by kernel_rfl) (by kernel_rfl) HR8.out) (.inr (.inl (by kernel_rfl)))<|zp [9,10]<|zk 94 (zP K 0)<|zk 95 (zP K 2)<|zn<|zw 11 none (zr 224 95 93 (HST9.out)) (.inr (.inl (by kernel_rfl)))<| ?_
   refine Kit.zRh (by kernel_rfl) ?_
   simp only[zP,zI,Act.put,List.setIfInBounds_toArray,List.set_cons_zero,List.set_cons_succ]
   obtain⟨⟨y0,y1,y2,y3⟩,_⟩:=zDf z9
   have hpf:=zW1 (pre:=[]) hlt
   obtain⟨fn,tmps,assign,body,hy,hR⟩:=HY.out (List.range k) k w9 #[.agg #[.string (Rle.bs x),.int .u32 (Crc.U (Crc.sum x)),.int .i64 (i:Int),.int .i64 (i2:Int),.int .i64 (m:Int)],.int .i64 0] J9
    (by unfold EP PV zAx;rw[HX.out.1,HI.out.1,HX.out.2.1,HM.out]) hpf
   have HR:=zH hR
   clear z9 J9 hR L2 L2A HR8 HST9 LB
   gi_wp2
   refine HR.out.mono ?_
   rintro e W3 (⟨rfl,hJ3,hs3⟩|⟨rfl,hJx3⟩)
   ·have S10:=zH (SS9.out.sc hs3 hC1 hC2)
    have J10:=zH hJ3
    clear hJ3 hs3 hy y0 y1 y2 y3 SS9
    gi_wp2
    go_roundw
    case rel=>
     refine⟨k+1,d1,p1,hlt,rfl,?_,?_⟩
     ·rw[HX.out.2.1]
      have hkl:k<ps.length:=by rw[HA.out.len];exact hlt
      have hxe:ps[k]=x:=by
       have:=HX.out.1
       rw[List.getD_eq_getElem?_getD,List.getElem?_eq_getElem hkl]at this
       exact this
      rw[List.take_succ_eq_append_getElem hkl,List.map_append,hxe]
      exact S10
     ·rw[List.range_succ]
      exact J10
    case measure=>
     rw[zJ7 S10.out.rd,HI.out.2]
     have:=HX.out.2.2.2
     have:=HX.out.2.2.1
     have:=HLE.out
     omega
   ·have HX3:=zH hJx3
    clear hJx3 hy y0 y1 y2 y3 SS9
    gi_wp2
    go_ret
    exact .inr ⟨rfl,_,hpf,HX3.out⟩
  ·obtain rfl:k=n:=by omega
   have hend:=HA.out.fin
   obtain⟨r,hr1,hr2,hz⟩:=HA.out.rest
   rw[hi]at hend hr1 hr2 hz
   have hm48:At a i (num zH0 48):=Bk.At.left hend
   have hb48:=Bk.At.bound hm48
   rw[zAc]at hb48
   have hs:=HA.out.size
   have HG:=zH ((zB7 a i 48 (by omega) hb48 (by omega) wr.drew).mono (fun _ _ h=>(⟨h.1,h.2.symm⟩:_/\_)))
   rw[At.val hm48 (by decide),show((zH0:Nat):Int)=25779555029136 from rfl,show((48:Nat):Int)=48 from rfl]at HG
   have hsrc:=S1.out.own.src
   rw[List.take_of_length_le (by rw[HA.out.len];exact Nat.le_refl _)]at hsrc
   have hne:∀q,p=some q->q.block≠K:=by
    rintro q rfl
    rcases S1.out.own.2 with⟨e1,_⟩|⟨g,cap,cur,hv,hg,_⟩
    ·cases e1
    ·injection hv with hv _ _
     injection hv with hv
     subst hv
     show g≠K
     omega
   have HEN:=zH (zFr K i k c r a p ps wr.drew S1.out.rd hs HA.out.len (by have:=HA.out.many;omega) hsrc hne hend hr1 hr2 hz)
   have S2:=zH S1.out
   clear hend hr1 hr2 hz hm48 hb48 hs hsrc hne hi
   gi_wp2
   refine Kit.zIq (by kernel_rfl) [] (fun _=>True) [0,1,2,4,0,16,32,64,136,256,512,512,2047,8191] 14 (by kernel_rfl) (by kernel_rfl) (by kernel_rfl) (by kernel_rfl) (by kernel_rfl) ?_
   refine zp [0,1,2,3,4,5,6,7]<|zk 35 (zP K 0)<|zk 36 (zP K 0)<|zk 37 (zP K 0)<|zt 38 (.string a) (zl 9 37 (K1.out.l0))<|zk 39 (zP K 0)<|zk 40 (zP K 0)<|zk 41 (zP K 1)<|zt 42 (zI i) (zl 3 41 (K1.out.l1))<|zn<|zd 8 43 32 #[.string a,.int .i64 (i:Int),.int .i64 48] (.tuple #[.int .u64 25779555029136,.int .i64 0]) HG.out<|zp [9,10,11,12,13]<|zk 34 (.tuple #[.int .u64 25779555029136,.int .i64 0])<|zk 44 (.int .u64 25779555029136)<|zk 45 (.int .i64 0)<|zk 7 (.int .u64 25779555029136)<|zk 6 (.int .i64 0)<|zn<| ?_
   refine Kit.zRh (by kernel_rfl) ?_
   simp only[zP,zI,Act.put,List.setIfInBounds_toArray,List.set_cons_zero,List.set_cons_succ]
   clear HG K1 S1
   generalize wr.drew=w2 at S2 J1 HEN⊢
   gi_wp2_with fail
   refine⟨trivial,(callsIn_wide.2 HEN.out).mono ?_⟩
   rintro e w3 ⟨rfl,hsr,hu⟩
   have J3:=zH (HJ.out _ _ _ J1.out (RP.upd hu hDK S2.out.rd))
   have S3:=zH hsr
   clear hsr hu HEN S2 J1
   gi_wp2
   refine⟨(fun f hf=>by cases hf),?_⟩
   apply_assumption
   gi_wp2
   go_ret
   exact .inl ⟨rfl,J3.out,_,_,S3.out⟩
end Sm
end Go.Proofs.YtppnakkaljbmbaaGreatDoor
