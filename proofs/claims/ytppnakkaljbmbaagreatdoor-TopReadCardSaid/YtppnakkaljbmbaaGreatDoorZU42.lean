/- Steps of a proof; no condition beyond what each states. -/
import Derived.Test.YtppnakkaljbmbaaGreatDoorZU41
set_option linter.unusedVariables false
set_option linter.unusedSimpArgs false
set_option maxRecDepth 100000
set_option maxHeartbeats 8000000
namespace Go.Proofs.YtppnakkaljbmbaaGreatDoor
namespace Sh
open Go.RowKit Hf Bt Zr Ix Front Wg Ch Sl Sq Us St Tn Bk Rg Sm
abbrev tSp:ByteArray:=⟨#[32]⟩
abbrev tNl:ByteArray:=⟨#[10]⟩
abbrev zIn:ByteArray:=⟨#[112,97,99,107]⟩
abbrev zKz:ByteArray:=⟨#[49]⟩
abbrev zDz:ByteArray:=⟨#[112,97,99,107,32,49,32,54,49,54,50]⟩
abbrev zE1:ByteArray:=⟨#[112,97,99,107,32,49,32,54,49,54,50,10]⟩
abbrev zE0:ByteArray:=⟨#[115,97,121,10]⟩
abbrev zPl:ByteArray:=⟨#[112,97,99,107,32,49,32,54,49,54,50,10,115,97,121,10]⟩
def HM (w:World):Prop:=∃m,w.cell? ⟨0,0,none⟩=some (.int .i64 m)
theorem zUn (w:World) (hm:HM w):Calls Tryz.prog 170 #[.string zDz,.string tSp] w fun e w'=>e= .returned (.slice (some ⟨w.heap.size,0,none⟩) 3 3)/\w'=w.alloc (.cells #[.string zIn,.string zKz,.string zBn] zAk):=by
 obtain⟨m,hm⟩:=hm
 have h:=Tryz.strings_Split zDz tSp m w (by decide) hm (by decide)
 rw[show Lib.countB zDz tSp=2 from by decide,show Lib.splitB tSp 0 2 zDz=[zIn,zKz,zBn]from by decide]at h
 exact h
theorem zWs (w:World) (hm:HM w):Calls Tryz.prog 170 #[.string zA5,.string tSp] w fun e w'=>e= .returned (.slice (some ⟨w.heap.size,0,none⟩) 1 1)/\w'=w.alloc (.cells #[.string zA5] zAk):=by
 obtain⟨m,hm⟩:=hm
 have h:=Tryz.strings_Split zA5 tSp m w (by decide) hm (by decide)
 rw[show Lib.countB zA5 tSp=0 from by decide,show Lib.splitB tSp 0 0 zA5=[zA5]from by decide]at h
 exact h
theorem zVv (w:World) (hm:HM w):Calls Tryz.prog 120 #[.string zPl,.string tNl] w fun e w'=>e= .returned (.slice (some ⟨w.heap.size,0,none⟩) 3 3)/\w'=w.alloc (.cells #[.string zE1,.string zE0,.string ⟨#[]⟩] zAk):=by
 obtain⟨m,hm⟩:=hm
 have h:=Tryz.strings_genSplit zPl tNl 1 (-1) 3 m w (by decide) hm (by decide) (by decide) (by decide) (by decide) (by decide)
 rw[show((1:Nat):Int)=1 from rfl,show Lib.splitB tNl 1 (3-1) zPl=[zE1,zE0,⟨#[]⟩]from by decide]at h
 have H:=zH h
 go_enter Tryz.func120,Tryz.ntmps120
 go_wp2_with fail
 (with_reducible refine H.out.mono ?_)
 rintro e w1 ⟨rfl,rfl⟩
 go_wp2
 go_ret
 exact⟨rfl,rfl⟩
theorem zWc (w:World):Calls Tryz.prog 122 #[.string zE1,.string tNl] w fun e w'=>e= .returned (.string zDz)/\w'=w:=by
 have h:=Tryz.strings_TrimSuffix zE1 tNl w (by decide)
 rw[show(⟨(Lib.trimSuffix zE1.data.toList tNl.data.toList).toArray⟩:ByteArray)=zDz from by decide]at h
 exact h
theorem zY6 (w:World):Calls Tryz.prog 122 #[.string zE0,.string tNl] w fun e w'=>e= .returned (.string zA5)/\w'=w:=by
 have h:=Tryz.strings_TrimSuffix zE0 tNl w (by decide)
 rw[show(⟨(Lib.trimSuffix zE0.data.toList tNl.data.toList).toArray⟩:ByteArray)=zA5 from by decide]at h
 exact h
end Sh
namespace Sh
open Go.RowKit Hf Bt Zr Ix Front Wg Ch Sl Sq Us St Tn Bk Rg Sm
theorem zQ1 {P:Program} {o:Oper} {a:Act} {w w':World} {K:Act->World->Prop} {Q:Exit->Act->World->Prop} (hv:(execOp a.eval o).run P w= .ok .skip w') (h:K (a.put o.dst undef) w'):Oper.wp P o a w K Q:=by
 unfold Oper.wp
 rw[hv]
 exact h
abbrev zEe:TypeId:=285
theorem zQ5 {w:World} {M c D i:Nat} {es:Array MapEntry} {k:List UInt8} {v:Value} (h:w.heap[M]? =some (.map es c)) (hk:Knows D es.toList) (hi:2<=i) (h1:zF4[i]? =some k) (h2:(zQg D)[i]? =some v):
  (Instr.lookup zBt (.map (some M)) (str k) true).run Tryz.prog w= .ok (.tuple #[v,.bool true]) w:=by
 obtain⟨j,hj⟩:=hk i k v hi h1 h2
 simp[Instr.lookup,run_underlying (show Tryz.prog.underlying zBt=some (.map zAk zEe)from Tryz.underlying287),MapKept.run_getObj_map h,MapKept.run_checkKey Tryz.underlying9 (show MapKept.IsKey .string (str k)from trivial),MapKept.run_findKey Tryz.underlying9 hj,Result.andThen]
theorem look_eq {P:Program} {w w':World} {ρ:Operand->Value} {o:Oper} {t:TypeId} {x y:Operand} {vx vy v:Value} {b:Bool} (ho:o.op= .lookup t x y b) (hx:ρ x=vx) (hy:ρ y=vy) (hr:(Instr.lookup t vx vy b).run P w= .ok v w'):(execOp ρ o).run P w= .ok (.value v) w':=by
 unfold execOp
 simp[ho,hx,hy,hr,Result.andThen]
theorem zWq {w:World} {B:Nat} {u v x u' v' x':Value} (h:w.heap[B]? =some (.cells #[u,v,x] zEe (0,0))) (h1:∀z∈[u',v',x'],z.oneCell'=true):
  ∃w',(storeVar zEe ⟨B,0,none⟩ (.agg #[u',v',x'])).run Tryz.prog w= .ok () w'/\w'.heap[B]? =some (.cells #[u',v',x'] zEe (0,0))/\(∀D,D<=B->Below D w w'):=by
 obtain⟨c0,c1,c2,f0,f1,f2⟩:=zBi h
 have hst:=run_storeVar_mid (P:=Tryz.prog) w B 0 zEe #[u',v',x'] (fun j hj=>by
  have hj4:j<3:=hj
  obtain rfl|rfl|rfl:j=0\/j=1\/j=2:=by omega
  ·exact⟨by rw[show 0+0=0 from rfl,c0];rfl,f0⟩
  ·exact⟨by rw[show 0+1=1 from rfl,c1];rfl,f1⟩
  ·exact⟨by rw[show 0+2=2 from rfl,c2];rfl,f2⟩) (by kernel_rfl) (by simpa using h1)
 refine⟨_,hst,?_,?_⟩
 ·exact zA3 2 _ (zA3 1 _ (zA3 0 _ h))
 ·exact fun D hD=>(((Below.refl _ w).setCell (p:=⟨B,0,none⟩) hD _).setCell (p:=⟨B,1,none⟩) hD _).setCell (p:=⟨B,2,none⟩) hD _
def MsD:List Nat:=[0,1,0,4,8,18,32,64,64,0,767,2047]
def LD:Nat:=13
def zL8:List Nat:=[1,4,5,6,7,8,9,10,11]
theorem zQj:∀i,i<12->LD.testBit i=false->i∈zL8:=by decide
structure IR (D B:Nat) (k form:List UInt8) (fn:Value) (on:Bool) (w1:World) (L:Nat) (w:World) (s21 s24 s25 s19 s26 s27 s6 s7:Value):Prop where
 i1:L.testBit 1=true->L.testBit 5=false->∃M es c,s21= .map (some M)/\B<=M/\w.heap[M]? =some (.map es c)/\Knows D es.toList
 i4:L.testBit 4=true->s24=str k
 i5:L.testBit 5=true->s25= .tuple #[row form fn on,.bool true]
 i6:L.testBit 6=true->s19= .tuple #[row form fn on,.bool true]
 i7:L.testBit 7=true->s26=row form fn on
 i8:L.testBit 8=true->s27= .bool true
 i11:L.testBit 11=true->s7= .bool true
 i9:L.testBit 9=true->∃A,s6= .pointer (some ⟨A,0,none⟩)/\B<=A/\(L.testBit 10=false->w.heap[A]? =some (.cells #[.string ⟨#[]⟩,.nilFunc,.bool false] zEe (0,0)))/\(L.testBit 10=true->w.heap[A]? =some (.cells #[str form,fn,.bool on] zEe (0,0)))
 bl:Below B w1 w
 le:B<=w1.heap.size
 pre:∀k,LD.testBit k=true->L.testBit k=true
 cl:L.testBit 10=true->L.testBit 9=true
section
variable {D B:Nat} {k form:List UInt8} {fn:Value} {on:Bool} {w1 w w':World} {L:Nat} {s21 s24 s25 s19 s26 s27 s6 s7:Value}
theorem ir4 (h:IR D B k form fn on w1 L w s21 s24 s25 s19 s26 s27 s6 s7):IR D B k form fn on w1 (L|||1<<<4) w s21 (str k) s25 s19 s26 s27 s6 s7:=
 ⟨fun h1 h5=>h.i1 (by rwa[bt (by decide)]at h1) (by rwa[bt (by decide)]at h5),fun _=>rfl,fun hh=>h.i5 (by rwa[bt (by decide)]at hh),fun hh=>h.i6 (by rwa[bt (by decide)]at hh),fun hh=>h.i7 (by rwa[bt (by decide)]at hh),fun hh=>h.i8 (by rwa[bt (by decide)]at hh),fun hh=>h.i11 (by rwa[bt (by decide)]at hh),fun h9=>(h.i9 (by rwa[bt (by decide)]at h9)).imp fun A hA=>⟨hA.1,hA.2.1,fun h0=>hA.2.2.1 (by rwa[bt (by decide)]at h0),fun h0=>hA.2.2.2 (by rwa[bt (by decide)]at h0)⟩,h.bl,h.le,fun k hk=>bm (h.pre k hk),fun hh=>bm (h.cl (by rwa[bt (by decide)]at hh))⟩
theorem ir5 (h:IR D B k form fn on w1 L w s21 s24 s25 s19 s26 s27 s6 s7):IR D B k form fn on w1 (L|||1<<<5) w s21 s24 (.tuple #[row form fn on,.bool true]) s19 s26 s27 s6 s7:=
 ⟨fun _ h5=>(by rw[bs]at h5;cases h5),fun hh=>h.i4 (by rwa[bt (by decide)]at hh),fun _=>rfl,fun hh=>h.i6 (by rwa[bt (by decide)]at hh),fun hh=>h.i7 (by rwa[bt (by decide)]at hh),fun hh=>h.i8 (by rwa[bt (by decide)]at hh),fun hh=>h.i11 (by rwa[bt (by decide)]at hh),fun h9=>(h.i9 (by rwa[bt (by decide)]at h9)).imp fun A hA=>⟨hA.1,hA.2.1,fun h0=>hA.2.2.1 (by rwa[bt (by decide)]at h0),fun h0=>hA.2.2.2 (by rwa[bt (by decide)]at h0)⟩,h.bl,h.le,fun k hk=>bm (h.pre k hk),fun hh=>bm (h.cl (by rwa[bt (by decide)]at hh))⟩
theorem ir6 (h:IR D B k form fn on w1 L w s21 s24 s25 s19 s26 s27 s6 s7):IR D B k form fn on w1 (L|||1<<<6) w s21 s24 s25 (.tuple #[row form fn on,.bool true]) s26 s27 s6 s7:=
 ⟨fun h1 h5=>h.i1 (by rwa[bt (by decide)]at h1) (by rwa[bt (by decide)]at h5),fun hh=>h.i4 (by rwa[bt (by decide)]at hh),fun hh=>h.i5 (by rwa[bt (by decide)]at hh),fun _=>rfl,fun hh=>h.i7 (by rwa[bt (by decide)]at hh),fun hh=>h.i8 (by rwa[bt (by decide)]at hh),fun hh=>h.i11 (by rwa[bt (by decide)]at hh),fun h9=>(h.i9 (by rwa[bt (by decide)]at h9)).imp fun A hA=>⟨hA.1,hA.2.1,fun h0=>hA.2.2.1 (by rwa[bt (by decide)]at h0),fun h0=>hA.2.2.2 (by rwa[bt (by decide)]at h0)⟩,h.bl,h.le,fun k hk=>bm (h.pre k hk),fun hh=>bm (h.cl (by rwa[bt (by decide)]at hh))⟩
theorem ir7 (h:IR D B k form fn on w1 L w s21 s24 s25 s19 s26 s27 s6 s7):IR D B k form fn on w1 (L|||1<<<7) w s21 s24 s25 s19 (row form fn on) s27 s6 s7:=
 ⟨fun h1 h5=>h.i1 (by rwa[bt (by decide)]at h1) (by rwa[bt (by decide)]at h5),fun hh=>h.i4 (by rwa[bt (by decide)]at hh),fun hh=>h.i5 (by rwa[bt (by decide)]at hh),fun hh=>h.i6 (by rwa[bt (by decide)]at hh),fun _=>rfl,fun hh=>h.i8 (by rwa[bt (by decide)]at hh),fun hh=>h.i11 (by rwa[bt (by decide)]at hh),fun h9=>(h.i9 (by rwa[bt (by decide)]at h9)).imp fun A hA=>⟨hA.1,hA.2.1,fun h0=>hA.2.2.1 (by rwa[bt (by decide)]at h0),fun h0=>hA.2.2.2 (by rwa[bt (by decide)]at h0)⟩,h.bl,h.le,fun k hk=>bm (h.pre k hk),fun hh=>bm (h.cl (by rwa[bt (by decide)]at hh))⟩
theorem ir8 (h:IR D B k form fn on w1 L w s21 s24 s25 s19 s26 s27 s6 s7):IR D B k form fn on w1 (L|||1<<<8) w s21 s24 s25 s19 s26 (.bool true) s6 s7:=
 ⟨fun h1 h5=>h.i1 (by rwa[bt (by decide)]at h1) (by rwa[bt (by decide)]at h5),fun hh=>h.i4 (by rwa[bt (by decide)]at hh),fun hh=>h.i5 (by rwa[bt (by decide)]at hh),fun hh=>h.i6 (by rwa[bt (by decide)]at hh),fun hh=>h.i7 (by rwa[bt (by decide)]at hh),fun _=>rfl,fun hh=>h.i11 (by rwa[bt (by decide)]at hh),fun h9=>(h.i9 (by rwa[bt (by decide)]at h9)).imp fun A hA=>⟨hA.1,hA.2.1,fun h0=>hA.2.2.1 (by rwa[bt (by decide)]at h0),fun h0=>hA.2.2.2 (by rwa[bt (by decide)]at h0)⟩,h.bl,h.le,fun k hk=>bm (h.pre k hk),fun hh=>bm (h.cl (by rwa[bt (by decide)]at hh))⟩
theorem qFx (h:IR D B k form fn on w1 L w s21 s24 s25 s19 s26 s27 s6 s7):IR D B k form fn on w1 (L|||1<<<11) w s21 s24 s25 s19 s26 s27 s6 (.bool true):=
 ⟨fun h1 h5=>h.i1 (by rwa[bt (by decide)]at h1) (by rwa[bt (by decide)]at h5),fun hh=>h.i4 (by rwa[bt (by decide)]at hh),fun hh=>h.i5 (by rwa[bt (by decide)]at hh),fun hh=>h.i6 (by rwa[bt (by decide)]at hh),fun hh=>h.i7 (by rwa[bt (by decide)]at hh),fun hh=>h.i8 (by rwa[bt (by decide)]at hh),fun _=>rfl,fun h9=>(h.i9 (by rwa[bt (by decide)]at h9)).imp fun A hA=>⟨hA.1,hA.2.1,fun h0=>hA.2.2.1 (by rwa[bt (by decide)]at h0),fun h0=>hA.2.2.2 (by rwa[bt (by decide)]at h0)⟩,h.bl,h.le,fun k hk=>bm (h.pre k hk),fun hh=>bm (h.cl (by rwa[bt (by decide)]at hh))⟩
theorem ir1 (h:IR D B k form fn on w1 L w s21 s24 s25 s19 s26 s27 s6 s7) {M c:Nat} {es:Array MapEntry} (hb:Below w.heap.size w w') (hM:B<=M) (hm:w'.heap[M]? =some (.map es c)) (hk:Knows D es.toList):IR D B k form fn on w1 (L|||1<<<1) w' (.map (some M)) s24 s25 s19 s26 s27 s6 s7:=
 ⟨fun _ _=>⟨M,es,c,rfl,hM,hm,hk⟩,fun hh=>h.i4 (by rwa[bt (by decide)]at hh),fun hh=>h.i5 (by rwa[bt (by decide)]at hh),fun hh=>h.i6 (by rwa[bt (by decide)]at hh),fun hh=>h.i7 (by rwa[bt (by decide)]at hh),fun hh=>h.i8 (by rwa[bt (by decide)]at hh),fun hh=>h.i11 (by rwa[bt (by decide)]at hh),fun h9=>(h.i9 (by rwa[bt (by decide)]at h9)).imp fun A hA=>⟨hA.1,hA.2.1,fun h0=>(fun x=>zAb x hb) (hA.2.2.1 (by rwa[bt (by decide)]at h0)),fun h0=>(fun x=>zAb x hb) (hA.2.2.2 (by rwa[bt (by decide)]at h0))⟩,h.bl.trans (hb.mono (Nat.le_trans h.le h.bl.size)),h.le,fun k hk=>bm (h.pre k hk),fun hh=>bm (h.cl (by rwa[bt (by decide)]at hh))⟩
theorem ir9 (h:IR D B k form fn on w1 L w s21 s24 s25 s19 s26 s27 s6 s7) (h9:L.testBit 9=false):IR D B k form fn on w1 (L|||1<<<9) (w.alloc (.cells #[.string ⟨#[]⟩,.nilFunc,.bool false] zEe)) s21 s24 s25 s19 s26 s27 (.pointer (some ⟨w.heap.size,0,none⟩)) s7:=
 ⟨fun h1 h5=>(h.i1 (by rwa[bt (by decide)]at h1) (by rwa[bt (by decide)]at h5)).imp fun M ⟨es,c,a1,a2,a3,a4⟩=>⟨es,c,a1,a2,zAb a3 ((Below.refl _ _).alloc (Nat.le_refl _) _),a4⟩,fun hh=>h.i4 (by rwa[bt (by decide)]at hh),fun hh=>h.i5 (by rwa[bt (by decide)]at hh),fun hh=>h.i6 (by rwa[bt (by decide)]at hh),fun hh=>h.i7 (by rwa[bt (by decide)]at hh),fun hh=>h.i8 (by rwa[bt (by decide)]at hh),fun hh=>h.i11 (by rwa[bt (by decide)]at hh),fun _=>⟨w.heap.size,rfl,Nat.le_trans h.le h.bl.size,fun _=>zAh w _,fun h0=>(by have:=h.cl (by rwa[bt (by decide)]at h0);rw[h9]at this;cases this)⟩,h.bl.trans ((Below.refl _ _).alloc (Nat.le_trans h.le h.bl.size) _),h.le,fun k hk=>bm (h.pre k hk),fun hh=>bm (h.cl (by rwa[bt (by decide)]at hh))⟩
theorem qFy {A:Nat} (h:IR D B k form fn on w1 L w s21 s24 s25 s19 s26 s27 (.pointer (some ⟨A,0,none⟩)) s7) (h9:L.testBit 9=true) (h5:L.testBit 5=true) (hA:B<=A) (hb:Below A w w') (hz:w'.heap[A]? =some (.cells #[str form,fn,.bool on] zEe (0,0))):IR D B k form fn on w1 (L|||1<<<10) w' s21 s24 s25 s19 s26 s27 (.pointer (some ⟨A,0,none⟩)) s7:=
 ⟨fun _ h=>(by rw[bm h5]at h;cases h),fun hh=>h.i4 (by rwa[bt (by decide)]at hh),fun hh=>h.i5 (by rwa[bt (by decide)]at hh),fun hh=>h.i6 (by rwa[bt (by decide)]at hh),fun hh=>h.i7 (by rwa[bt (by decide)]at hh),fun hh=>h.i8 (by rwa[bt (by decide)]at hh),fun hh=>h.i11 (by rwa[bt (by decide)]at hh),fun _=>⟨A,rfl,hA,fun h0=>(by rw[bs]at h0;cases h0),fun _=>hz⟩,h.bl.trans (hb.mono hA),h.le,fun k hk=>bm (h.pre k hk),fun _=>bm h9⟩
theorem zXq (h:IR D B k form fn on w1 L w s21 s24 s25 s19 s26 s27 s6 s7) (hall:∀i,i<12->L.testBit i=true):∃A,s6= .pointer (some ⟨A,0,none⟩)/\s7= .bool true/\s24=str k/\s25= .tuple #[row form fn on,.bool true]/\s19= .tuple #[row form fn on,.bool true]/\s26=row form fn on/\s27= .bool true/\B<=A/\w.heap[A]? =some (.cells #[str form,fn,.bool on] zEe (0,0))/\Below B w1 w:=by
 obtain⟨A,h1,h2,_,h3⟩:=h.i9 (hall 9 (by decide))
 exact⟨A,h1,h.i11 (hall 11 (by decide)),h.i4 (hall 4 (by decide)),h.i5 (hall 5 (by decide)),h.i6 (hall 6 (by decide)),h.i7 (hall 7 (by decide)),h.i8 (hall 8 (by decide)),h2,h3 (hall 10 (by decide)),h.bl⟩
theorem zRb (w:World):IR D w.heap.size k form fn on w LD w.drew undef undef undef undef undef undef undef undef:=by
 have no:∀b∈zL8,LD.testBit b=false:=by decide
 have g:∀b∈zL8,LD.testBit b=true->False:=fun b hb h=>by rw[no b hb]at h;cases h
 exact⟨fun h=>(g 1 (by decide) h).elim,fun h=>(g 4 (by decide) h).elim,fun h=>(g 5 (by decide) h).elim,fun h=>(g 6 (by decide) h).elim,fun h=>(g 7 (by decide) h).elim,fun h=>(g 8 (by decide) h).elim,fun h=>(g 11 (by decide) h).elim,fun h=>(g 9 (by decide) h).elim,(Below.refl _ _).drew,Nat.le_refl _,fun k hk=>hk,fun h=>(g 10 (by decide) h).elim⟩
end
def AK (w:World) (G k:Nat):Prop:=AG w G (if k=0 then 0 else 1) 0 0 (if k<2 then⟨#[]⟩else zCb)
end Sh
namespace Sh
open Go.RowKit Hf Bt Zr Ix Front Wg Ch Sl Sq Us St Tn Bk Rg Sm
def FRP (D B:Nat) (s21 s24 s25 s19 s26 s27 s6 s7:Value):Act:=⟨#[(.pointer (some ⟨D,0,none⟩)),(.string zDz),undef,undef,(.string ⟨#[]⟩),(.slice (some ⟨B,0,none⟩) 3 3),s6,s7,undef,undef,(.string zDz),(.bool false),(.bool false),(.string zDz),(.int .u8 112),(.bool false),(.bool false),(.string zDz),(.slice (some ⟨B,0,none⟩) 3 3),s19,(.pointer (some ⟨D,0,none⟩)),s21,(.slice (some ⟨B,0,none⟩) 3 3),(.pointer (some ⟨B,0,none⟩)),s24,s25,s26,s27,undef,undef,undef,undef,undef,undef,undef,undef,undef,undef,undef,undef,undef,undef,undef,undef,undef,undef,undef,undef,undef,undef,undef,undef,undef,undef,undef,undef,undef,undef,undef,undef,undef,undef,undef,undef,undef,undef,undef,undef,undef,undef,undef,undef,undef,undef,undef,undef,undef,undef],[]⟩
theorem qD7 (D:Nat) (a:ByteArray) (w:World) (h:DK w D a) (hm:HM w):
  Calls Tryz.prog 121 #[.pointer (some ⟨D,0,none⟩),.string zDz] w fun e w'=>e= .returned (.string zM2)/\DK w' D zC4/\Upd w w' D:=by
 obtain⟨B,hB⟩:=zB w.heap.size
 obtain⟨w1,hw1⟩:=zB (w.alloc (.cells #[.string zIn,.string zKz,.string zBn] zAk))
 have hb1:Below w.heap.size w w1:=by rw[<-hw1];exact(Below.refl _ _).alloc (Nat.le_refl _) _
 have z1:w1.heap[B]? =some (.cells #[.string zIn,.string zKz,.string zBn] zAk (0,0)):=by rw[<-hw1,<-hB];exact zAh w _
 have HSP:=zH (zUn w hm)
 have HW:=zH hw1
 have Z1:=zH z1
 have K1:=zH (h.below hb1)
 have U1:=zH (Upd.of_below hb1 (Nat.le_of_lt h.lt))
 rw[hw1,hB]at HSP
 have HLT:=zH (show B<w1.heap.size by rw[<-hB];exact Nat.lt_of_lt_of_le (by rw[<-hw1,zA];omega) (Nat.le_refl _))
 clear hb1 h hw1 z1 hm
 go_enter Tryz.func121,Tryz.ntmps121
 go_wp2_with fail
 (with_reducible refine HSP.out.mono ?_)
 rintro e w1 ⟨rfl,rfl⟩
 go_wp2_with fail
 refine zS [] (fun _=>True) MsD 12<|zu 0 20 (zP D 0)<|zu 2 22 (.slice (some ⟨B,0,none⟩) 3 3)<|zu 3 23 (zP B 0)<| ?_
 refine Kit.At_.cast (a':=FRP D B undef undef undef undef undef undef undef undef) ?_ (by kernel_rfl)
 refine Kit.qAo (fun L a wv=>∃s21 s24 s25 s19 s26 s27 s6 s7,a=FRP D B s21 s24 s25 s19 s26 s27 s6 s7/\IR D w1.heap.size [112,97,99,107] [110,104] (met 211 D) false w1 L wv s21 s24 s25 s19 s26 s27 s6 s7) (by kernel_rfl) ?_ ?_ 9 LD _ _ ⟨_,_,_,_,_,_,_,_,rfl,zRb w1⟩ (by kernel_rfl)
 ·intro L a wv i m hI hm hb hdep
  obtain⟨s21,s24,s25,s19,s26,s27,s6,s7,rfl,h⟩:=hI
  have hi:i<12:=(List.getElem?_eq_some_iff.1 hm).1
  have hi0:LD.testBit i=false:=by
   cases e:LD.testBit i with
   |false=>rfl
   |true=>rw[h.pre i e]at hb;cases hb
  have hr:=zQj i hi hi0
  clear hi hi0
  simp only[zL8,List.mem_cons,List.not_mem_nil,or_false]at hr
  rcases hr with rfl|rfl|rfl|rfl|rfl|rfl|rfl|rfl|rfl
  ·obtain rfl:(1:Nat)=m:=Option.some.inj hm
   refine⟨_,rfl,by kernel_rfl,zHy 171 #[.pointer (some ⟨D,0,none⟩)] (by kernel_rfl) (zQa D wv) ?_⟩
   rintro e w2 ⟨M,es,c,rfl,hM,hm2,hk2,hb2⟩
   exact⟨_,rfl,.inr (.inr trivial),.map (some M),s24,s25,s19,s26,s27,s6,s7,by kernel_rfl,ir1 h hb2 (Nat.le_trans (Nat.le_trans h.le h.bl.size) hM) hm2 hk2⟩
  ·obtain rfl:(8:Nat)=m:=Option.some.inj hm
   have hc:wv.cell? ⟨B,0,none⟩=some (.string zIn):=by simp[World.cell?,(h.bl.block B HLT.out).trans Z1.out]
   refine⟨_,rfl,by kernel_rfl,zA9 (str [112,97,99,107]) (Kit.zM7 (t:=9) (x:= .tmp 23) rfl (by kernel_rfl) (Kit.zAg (show _=some (str [112,97,99,107])from hc) (by kernel_rfl) (by kernel_rfl))) ⟨.inr (.inr trivial),s21,str [112,97,99,107],s25,s19,s26,s27,s6,s7,by kernel_rfl,ir4 h⟩⟩
  ·obtain rfl:(18:Nat)=m:=Option.some.inj hm
   obtain⟨M,es,c,rfl,hM,hm2,hk2⟩:=h.i1 (hdep 1 (by kernel_rfl)) hb
   obtain rfl:=h.i4 (hdep 4 (by kernel_rfl))
   refine⟨_,rfl,by kernel_rfl,zA9 (.tuple #[row [110,104] (met 211 D) false,.bool true]) (look_eq (t:=zBt) (x:= .tmp 21) (y:= .tmp 24) rfl (by kernel_rfl) (by kernel_rfl) (zQ5 (i:=2) hm2 hk2 (by decide) rfl rfl)) ⟨.inr (.inr trivial),.map (some M),str [112,97,99,107],.tuple #[row [110,104] (met 211 D) false,.bool true],s19,s26,s27,s6,s7,by kernel_rfl,ir5 h⟩⟩
  ·obtain rfl:(32:Nat)=m:=Option.some.inj hm
   obtain rfl:=h.i5 (hdep 5 (by kernel_rfl))
   refine⟨_,rfl,by kernel_rfl,zA9 (.tuple #[row [110,104] (met 211 D) false,.bool true]) (by kernel_rfl) ⟨.inr (.inr trivial),s21,s24,.tuple #[row [110,104] (met 211 D) false,.bool true],.tuple #[row [110,104] (met 211 D) false,.bool true],s26,s27,s6,s7,by kernel_rfl,ir6 h⟩⟩
  ·obtain rfl:(64:Nat)=m:=Option.some.inj hm
   obtain rfl:=h.i6 (hdep 6 (by kernel_rfl))
   refine⟨_,rfl,by kernel_rfl,zA9 (row [110,104] (met 211 D) false) (by kernel_rfl) ⟨.inr (.inr trivial),s21,s24,s25,.tuple #[row [110,104] (met 211 D) false,.bool true],row [110,104] (met 211 D) false,s27,s6,s7,by kernel_rfl,ir7 h⟩⟩
  ·obtain rfl:(64:Nat)=m:=Option.some.inj hm
   obtain rfl:=h.i6 (hdep 6 (by kernel_rfl))
   refine⟨_,rfl,by kernel_rfl,zA9 (.bool true) (by kernel_rfl) ⟨.inr (.inr trivial),s21,s24,s25,.tuple #[row [110,104] (met 211 D) false,.bool true],s26,.bool true,s6,s7,by kernel_rfl,ir8 h⟩⟩
  ·obtain rfl:(0:Nat)=m:=Option.some.inj hm
   refine⟨_,rfl,by kernel_rfl,zA9 (w':=wv.alloc (.cells #[.string ⟨#[]⟩,.nilFunc,.bool false] zEe)) (.pointer (some ⟨wv.heap.size,0,none⟩)) (by kernel_rfl) ⟨.inr (.inr trivial),s21,s24,s25,s19,s26,s27,.pointer (some ⟨wv.heap.size,0,none⟩),s7,by kernel_rfl,ir9 h hb⟩⟩
  ·obtain rfl:(767:Nat)=m:=Option.some.inj hm
   obtain⟨A,rfl,hA,hz0,_⟩:=h.i9 (hdep 9 (by kernel_rfl))
   obtain rfl:=h.i7 (hdep 7 (by kernel_rfl))
   obtain⟨w2,hst,hz2,hb2⟩:=zWq (u':=str [110,104]) (v':=met 211 D) (x':= .bool false) (hz0 hb) (by simp[Value.oneCell',str,met])
   refine⟨_,rfl,by kernel_rfl,zQ1 (Kit.zHa (t:=zEe) (x:= .tmp 6) (y:= .tmp 26) rfl (by kernel_rfl) (by kernel_rfl) hst) ⟨.inr (.inr trivial),s21,s24,s25,s19,row [110,104] (met 211 D) false,s27,.pointer (some ⟨A,0,none⟩),s7,by kernel_rfl,qFy h (hdep 9 (by kernel_rfl)) (hdep 5 (by kernel_rfl)) hA (hb2 A (Nat.le_refl _)) hz2⟩⟩
  ·obtain rfl:(2047:Nat)=m:=Option.some.inj hm
   obtain rfl:=h.i8 (hdep 8 (by kernel_rfl))
   refine⟨_,rfl,by kernel_rfl,zA9 (.bool true) (by kernel_rfl) ⟨.inr (.inr trivial),s21,s24,s25,s19,s26,.bool true,s6,.bool true,by kernel_rfl,qFx h⟩⟩
 intro L ac wr hI hall
 obtain⟨s21,s24,s25,s19,s26,s27,s6,s7,rfl,h⟩:=hI
 obtain⟨A,rfl,rfl,rfl,rfl,rfl,rfl,rfl,hA,hz,hbl⟩:=zXq h (fun i hi=>hall i hi)
 clear h hall
 have Z2:=zH ((hbl.block B HLT.out).trans Z1.out)
 have K2:=zH (K1.out.below hbl)
 have U2:=zH (U1.out.trans (Upd.of_below hbl (Nat.le_of_lt K1.out.lt)))
 have HDA:=zH (show D<A from Nat.lt_of_lt_of_le K1.out.lt hA)
 have HBA:=zH (show B<A from Nat.lt_of_lt_of_le HLT.out hA)
 have RA:=zH hz
 obtain⟨c0,c1,c2,f0,f1,f2⟩:=zBi hz
 simp only[str]at c0
 have C1:=zH c1
 have C2:=zH c2
 clear c1 c2 f0 f1 f2 hz hbl Z1 K1 U1 HLT HSP HW hA
 obtain⟨G,hG⟩:=zB wr.heap.size
 obtain⟨w3,hw3⟩:=zB (wr.alloc (.cells #[.int .i64 0,.int .i64 0,.int .i64 0,.string ⟨#[]⟩] zJc))
 have hb3:Below wr.heap.size wr w3:=by rw[<-hw3];exact(Below.refl _ _).alloc (Nat.le_refl _) _
 have G3:=zH (show AG w3 G 0 0 0 ⟨#[]⟩by rw[<-hw3,<-hG];exact zAh wr _)
 have K3:=zH (K2.out.below hb3)
 have U3:=zH (U2.out.trans (Upd.of_below hb3 (Nat.le_of_lt K2.out.lt)))
 have Z3:=zH (zAb Z2.out hb3)
 have R3:=zH (zAb RA.out hb3)
 have HAG:=zH (show A<G by rw[<-hG];exact zAd RA.out)
 have HW3:=zH hw3
 have HG:=zH hG
 clear hG hw3 hb3 K2 U2 Z2 RA C1 C2
 simp only[FRP]
 go_wp2_with fail
 clear c0
 rw[HG.out,show wr.alloc (.cells #[.int .i64 0,.int .i64 0,.int .i64 0,.string ⟨#[]⟩] zJc)=w3 from HW3.out]
 go_loopw [7,9] (fun ov iv wx=>∃k:Nat,k<=2/\ov= .bool true/\iv= .int .i64 k/\RowKit.Hid (AK wx G k)/\RowKit.Hid (Upd w3 wx G)) (fun _ iv _=>2-(intOf iv).toNat)
 case atStart=>exact⟨0,by omega,rfl,rfl,zH G3.out,zH ⟨fun _ _ _=>rfl,Below.refl _ _⟩⟩
 case round=>
  obtain⟨k,hk,rfl,rfl,hag,hup⟩:=hrel
  have hz3:=zAd G3.out
  have RX:=zH ((hup.out.old A (by have:=HAG.out;omega) (by have:=HAG.out;omega)).trans R3.out)
  have ZX:=zH ((hup.out.old B (by have:=HAG.out;have:=HBA.out;omega) (by have:=HAG.out;have:=HBA.out;omega)).trans Z3.out)
  have c0:wr.cell? ⟨A,0,none⟩=some (.string ⟨#[110,104]⟩):=by simp[World.cell?,RX.out,str]
  clear hz3
  obtain rfl|rfl|rfl:k=0\/k=1\/k=2:=by omega
  ·rw[show((0:Nat):Int)=0 from rfl]
   go_wp2_with fail
   have CF:=zH c0
   have CW:=zH (show wr.drew.cell? ⟨B,1,none⟩=some (.string zKz)from(zBi ZX.out).2.1)
   have HTK:=zH (qEs G 0 0 0 ⟨#[]⟩ wr.drew hag.out)
   clear c0
   refine zS [] (fun _=>True) [0,0,2,0,12,0,0,64,160,256,529,2047] 12<|zp [0,1,2,3,4,5,6,7,8,9]<|zk 48 (.int .i64 0)<|zk 49 (zP A 0)<|zt 50 (.string ⟨#[110,104]⟩) (zl 9 49 (Kit.zAg CF.out (by kernel_rfl) (by kernel_rfl)))<|zk 51 (.int .i64 0)<|zk 52 (.int .u8 110)<|zk 53 (.slice (some ⟨B,0,none⟩) 3 3)<|zk 54 (.int .i64 0)<|zk 55 (.int .i64 1)<|zk 56 (zP B 1)<|zt 57 (.string zKz) (zl 9 56 (Kit.zAg CW.out (by kernel_rfl) (by kernel_rfl)))<|zn<|zx 10 58 172 #[.pointer (some ⟨G,0,none⟩),.int .i64 0,.int .u8 110,.string zKz] HTK.out<| ?_
   rintro e w5 ⟨rfl,ag5,up5⟩
   refine⟨_,rfl,.inr (.inr trivial),?_⟩
   refine zp [11]<|zk 7 (.bool true)<|zn<|zE<| ?_
   simp only[zP,zI,Act.put,List.setIfInBounds_toArray,List.set_cons_zero,List.set_cons_succ]
   go_wp2
   go_roundw
   case rel=>exact⟨1,by omega,rfl,rfl,zH ag5,zH ((hup.out.trans (Upd.drew wr G)).trans up5)⟩
   case measure=>simp only[intOf];omega
  ·rw[show((1:Nat):Int)=1 from rfl]
   go_wp2_with fail
   have CF:=zH c0
   have CW:=zH (show wr.drew.cell? ⟨B,2,none⟩=some (.string zBn)from(zBi ZX.out).2.2.1)
   have HTK:=zH (qEt G 1 0 0 ⟨#[]⟩ wr.drew hag.out)
   clear c0
   refine zS [] (fun _=>True) [0,0,2,0,12,0,0,64,160,256,529,2047] 12<|zp [0,1,2,3,4,5,6,7,8,9]<|zk 48 (.int .i64 1)<|zk 49 (zP A 0)<|zt 50 (.string ⟨#[110,104]⟩) (zl 9 49 (Kit.zAg CF.out (by kernel_rfl) (by kernel_rfl)))<|zk 51 (.int .i64 1)<|zk 52 (.int .u8 104)<|zk 53 (.slice (some ⟨B,0,none⟩) 3 3)<|zk 54 (.int .i64 1)<|zk 55 (.int .i64 2)<|zk 56 (zP B 2)<|zt 57 (.string zBn) (zl 9 56 (Kit.zAg CW.out (by kernel_rfl) (by kernel_rfl)))<|zn<|zx 10 58 172 #[.pointer (some ⟨G,0,none⟩),.int .i64 1,.int .u8 104,.string zBn] HTK.out<| ?_
   rintro e w5 ⟨rfl,ag5,up5⟩
   refine⟨_,rfl,.inr (.inr trivial),?_⟩
   refine zp [11]<|zk 7 (.bool true)<|zn<|zE<| ?_
   simp only[zP,zI,Act.put,List.setIfInBounds_toArray,List.set_cons_zero,List.set_cons_succ]
   go_wp2
   go_roundw
   case rel=>exact⟨2,by omega,rfl,rfl,zH ag5,zH ((hup.out.trans (Upd.drew wr G)).trans up5)⟩
   case measure=>simp only[intOf];omega
  ·rw[show((2:Nat):Int)=2 from rfl]
   have c1:wr.cell? ⟨A,1,none⟩=some (.func (.func 211) #[.pointer (some ⟨D,0,none⟩)] #[]):=(zBi RX.out).2.1
   have c2:wr.cell? ⟨A,2,none⟩=some (.bool false):=(zBi RX.out).2.2.1
   have hD3:D<w3.heap.size:=K3.out.lt
   have KX:=zH (show DK wr D a from(hup.out.old D hD3 (by have:=HDA.out;have:=HAG.out;omega)).trans K3.out)
   have c9:=KX.out.c9
   have f9:=KX.out.fr 9
   have UX:=zH (show Upd w wr D from⟨fun k h1 h2=>(hup.out.old k (Nat.lt_of_lt_of_le h1 U3.out.below.size) (by have:=HBA.out;have:=HAG.out;omega)).trans (U3.out.old k h1 h2),U3.out.below.trans (hup.out.below.mono (by have:=HDA.out;have:=HAG.out;omega))⟩)
   have HPM:=zH (qFd D a wr KX.out)
   have ag:AG wr G 1 0 0 zCb:=hag.out
   obtain⟨⟨g0,g1,g2,g3⟩,q0,q1,q2,q3⟩:=zDf ag
   clear hag hup ag KX q0 q1 q2 q3
   go_wp2_with fail
   (with_reducible refine HPM.out.mono ?_)
   rintro e w6 ⟨rfl,k6,u6⟩
   have K6:=zH k6
   have U6:=zH (UX.out.trans u6)
   clear k6 u6
   go_wp2
   go_ret
   exact⟨rfl,K6.out,U6.out⟩
end Sh
end Go.Proofs.YtppnakkaljbmbaaGreatDoor
