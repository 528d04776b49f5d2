/- Steps of a proof; no condition beyond what each states. -/
import Derived.Shelf.Bytes.SlIndexAt
import Derived.Shelf.SlSortCmp.Insertion1
import Derived.Shelf.Slices.Clone
import Derived.Shelf.Slices.SearchI
import Derived.Shelf.Slices.Turned
import Derived.Shelf.SlicesE.Clone
import Derived.Shelf.Small.Wraps
import Derived.Shelf.Sort.Plain
import Derived.Shelf.Strings.BuilderK
import Derived.Test.YtppnakkaljbmbaaGreatDoorZU01
import Derived.Test.YtppnakkaljbmbaaGreatDoorZU02
import Derived.Test.YtppnakkaljbmbaaGreatDoorZU03
set_option linter.unusedVariables false
set_option linter.unusedSimpArgs false
set_option maxRecDepth 100000
set_option maxHeartbeats 8000000
section
namespace Go.Proofs
open Go.Shelf
def Tryz.zSv:Go.Shelf.Ren:=⟨fun|170=>115|n=>n,fun|70=>118|3=>3|0=>0|72=>120|37=>109|5=>5|n=>n,fun|n=>n⟩
theorem Tryz.qDi:Go.Proofs.Lays.n170 Tryz.prog Tryz.zSv:={
 mixed:=by kernel_rfl
 f170:=Tryz.func115.trans (congrArg some (by kernel_rfl))
 t0:=Tryz.underlying0
 a0:=Tryz.isAgg0
 z0:=Tryz.sizeOf0
 v0:=Tryz.zeroValue0
 t3:=Tryz.underlying3
 a3:=Tryz.isAgg3
 z3:=Tryz.sizeOf3
 v3:=Tryz.zeroValue3
 t37:=Tryz.underlying109
 a37:=Tryz.isAgg109
 z37:=Tryz.sizeOf109
 v37:=Tryz.zeroValue109
 t70:=Tryz.underlying118
 a70:=Tryz.isAgg118
 z70:=Tryz.sizeOf118
 v70:=Tryz.zeroValue118
 t72:=Tryz.underlying120
 a72:=Tryz.isAgg120
 z72:=Tryz.sizeOf120
 v72:=Tryz.zeroValue120}
open Go.RowKit in
theorem Tryz.Builder_Len (B b:Nat) (bs:List Value) (w:World) (h:Lib.IsBuilder 120 5 B b bs w):
  Calls Tryz.prog 115 #[.pointer (some ⟨b,0,none⟩)] w fun e w'=>e= .returned (.int .i64 bs.length)/\w'=w:=Any.Builder_Len Tryz.qDi B b bs w h
def Tryz.zKk:Go.Shelf.Ren:=⟨fun|169=>63|n=>n,fun|70=>118|9=>9|0=>0|72=>120|37=>109|127=>240|3=>3|5=>5|n=>n,fun|n=>n⟩
theorem Tryz.qDj:Go.Proofs.Lays.n169 Tryz.prog Tryz.zKk:={
 mixed:=by kernel_rfl
 f169:=Tryz.func63.trans (congrArg some (by kernel_rfl))
 t0:=Tryz.underlying0
 a0:=Tryz.isAgg0
 z0:=Tryz.sizeOf0
 v0:=Tryz.zeroValue0
 t3:=Tryz.underlying3
 a3:=Tryz.isAgg3
 z3:=Tryz.sizeOf3
 v3:=Tryz.zeroValue3
 t9:=Tryz.underlying9
 a9:=Tryz.isAgg9
 z9:=Tryz.sizeOf9
 v9:=Tryz.zeroValue9
 t37:=Tryz.underlying109
 a37:=Tryz.isAgg109
 z37:=Tryz.sizeOf109
 v37:=Tryz.zeroValue109
 t70:=Tryz.underlying118
 a70:=Tryz.isAgg118
 z70:=Tryz.sizeOf118
 v70:=Tryz.zeroValue118
 t72:=Tryz.underlying120
 a72:=Tryz.isAgg120
 z72:=Tryz.sizeOf120
 v72:=Tryz.zeroValue120
 t127:=Tryz.underlying240
 a127:=Tryz.isAgg240
 z127:=Tryz.sizeOf240
 v127:=Tryz.zeroValue240}
theorem Tryz.zKb:Builder.Extra Tryz.prog Tryz.zKk:={
 sizeBuilder:=by kernel_rfl
 liesBuilder:=by kernel_rfl
 t5:=Tryz.underlying5
 a5:=Tryz.isAgg5
 z5:=Tryz.sizeOf5
 v5:=Tryz.zeroValue5
 infoByte:=by kernel_rfl
 cellsByte:=by kernel_rfl
 sizeByte:=by kernel_rfl
 neB5:=by decide}
def Tryz.zSy:Go.Shelf.Ren:=⟨fun|122=>168|215=>206|n=>n,fun|3=>3|4=>4|n=>n,fun|n=>n⟩
theorem Tryz.qDn:Go.Proofs.Lays.n122 Tryz.prog Tryz.zSy:={
 mixed:=by kernel_rfl
 f122:=Tryz.func168.trans (congrArg some (by kernel_rfl))
 f215:=Tryz.func206.trans (congrArg some (by kernel_rfl))
 t3:=Tryz.underlying3
 a3:=Tryz.isAgg3
 z3:=Tryz.sizeOf3
 v3:=Tryz.zeroValue3
 t4:=Tryz.underlying4
 a4:=Tryz.isAgg4
 z4:=Tryz.sizeOf4
 v4:=Tryz.zeroValue4}
open Go.RowKit in
theorem Tryz.cmp_Compare_int (x y:Int) (w:World):
  Calls Tryz.prog 168 #[.int .i64 x,.int .i64 y] w fun e w'=>e= .returned (.int .i64 (Lib.compareInt x y))/\w'=w:=Any.cmp_Compare_int Tryz.qDn x y w
open Go.RowKit in
theorem Tryz.Builder_String_any_k (B b:Nat) (l:List UInt8) (w:World) (h:Lib.IsBuilderF 120 5 B b (Lib.byteCells l) w) (hBw:B<=w.heap.size):
  Calls Tryz.prog 63 #[.pointer (some ⟨b,0,none⟩)] w fun e w'=>e= .returned (.string ⟨l.toArray⟩)/\(Lib.IsBuilderF 120 5 B b (Lib.byteCells l) w'/\Below B w w'/\Lib.OthersKept 5 (some b) w w'):=Any.Builder_String_any_k Tryz.qDj Tryz.zKb B b l w h hBw
def Tryz.zSs:Go.Shelf.Ren:=⟨fun|189=>128|125=>180|257=>179|128=>240|129=>241|294=>231|295=>232|296=>233|297=>234|298=>235|299=>236|216=>237|300=>238|301=>239|328=>276|329=>277|330=>278|331=>279|332=>280|215=>206|343=>312|n=>n,fun|28=>23|3=>3|46=>178|0=>0|51=>65|53=>64|4=>4|183=>343|182=>342|131=>347|5=>5|9=>9|218=>385|222=>389|228=>433|229=>246|n=>n,fun|n=>n⟩
theorem Tryz.qDf:Go.Proofs.Lays.n189 Tryz.prog Tryz.zSs:={
 mixed:=by kernel_rfl
 f125:=Tryz.func180.trans (congrArg some (by kernel_rfl))
 f128:=Tryz.func240.trans (congrArg some (by kernel_rfl))
 f129:=Tryz.func241.trans (congrArg some (by kernel_rfl))
 f189:=Tryz.func128.trans (congrArg some (by kernel_rfl))
 f215:=Tryz.func206.trans (congrArg some (by kernel_rfl))
 f216:=Tryz.func237.trans (congrArg some (by kernel_rfl))
 f257:=Tryz.func179.trans (congrArg some (by kernel_rfl))
 f294:=Tryz.func231.trans (congrArg some (by kernel_rfl))
 f295:=Tryz.func232.trans (congrArg some (by kernel_rfl))
 f296:=Tryz.func233.trans (congrArg some (by kernel_rfl))
 f297:=Tryz.func234.trans (congrArg some (by kernel_rfl))
 f298:=Tryz.func235.trans (congrArg some (by kernel_rfl))
 f299:=Tryz.func236.trans (congrArg some (by kernel_rfl))
 f300:=Tryz.func238.trans (congrArg some (by kernel_rfl))
 f301:=Tryz.func239.trans (congrArg some (by kernel_rfl))
 f328:=Tryz.func276.trans (congrArg some (by kernel_rfl))
 f329:=Tryz.func277.trans (congrArg some (by kernel_rfl))
 f330:=Tryz.func278.trans (congrArg some (by kernel_rfl))
 f331:=Tryz.func279.trans (congrArg some (by kernel_rfl))
 f332:=Tryz.func280.trans (congrArg some (by kernel_rfl))
 f343:=Tryz.func312.trans (congrArg some (by kernel_rfl))
 t0:=Tryz.underlying0
 a0:=Tryz.isAgg0
 z0:=Tryz.sizeOf0
 v0:=Tryz.zeroValue0
 t3:=Tryz.underlying3
 a3:=Tryz.isAgg3
 z3:=Tryz.sizeOf3
 v3:=Tryz.zeroValue3
 t4:=Tryz.underlying4
 a4:=Tryz.isAgg4
 z4:=Tryz.sizeOf4
 v4:=Tryz.zeroValue4
 t5:=Tryz.underlying5
 a5:=Tryz.isAgg5
 z5:=Tryz.sizeOf5
 v5:=Tryz.zeroValue5
 t9:=Tryz.underlying9
 a9:=Tryz.isAgg9
 z9:=Tryz.sizeOf9
 v9:=Tryz.zeroValue9
 t28:=Tryz.underlying23
 a28:=Tryz.isAgg23
 z28:=Tryz.sizeOf23
 v28:=Tryz.zeroValue23
 t46:=Tryz.underlying178
 a46:=Tryz.isAgg178
 z46:=Tryz.sizeOf178
 v46:=Tryz.zeroValue178
 t51:=Tryz.underlying65
 a51:=Tryz.isAgg65
 z51:=Tryz.sizeOf65
 v51:=Tryz.zeroValue65
 t53:=Tryz.underlying64
 a53:=Tryz.isAgg64
 z53:=Tryz.sizeOf64
 v53:=Tryz.zeroValue64
 t131:=Tryz.underlying347
 a131:=Tryz.isAgg347
 z131:=Tryz.sizeOf347
 v131:=Tryz.zeroValue347
 t182:=Tryz.underlying342
 a182:=Tryz.isAgg342
 z182:=Tryz.sizeOf342
 v182:=Tryz.zeroValue342
 t183:=Tryz.underlying343
 a183:=Tryz.isAgg343
 z183:=Tryz.sizeOf343
 v183:=Tryz.zeroValue343
 t218:=Tryz.underlying385
 a218:=Tryz.isAgg385
 z218:=Tryz.sizeOf385
 v218:=Tryz.zeroValue385
 t222:=Tryz.underlying389
 a222:=Tryz.isAgg389
 z222:=Tryz.sizeOf389
 v222:=Tryz.zeroValue389
 t228:=Tryz.underlying433
 a228:=Tryz.isAgg433
 z228:=Tryz.sizeOf433
 v228:=Tryz.zeroValue433
 t229:=Tryz.underlying246
 a229:=Tryz.isAgg246
 z229:=Tryz.sizeOf246
 v229:=Tryz.zeroValue246}
open Go.Sort Go.RowKit in
theorem Tryz.slices_Sort_int (blk off cap:Nat) (zs:List Int) (w:World) (hH:Holds (Value.int .i64) w blk off zs.toArray) (hblk:blk<w.heap.size) (hsz:zs.length<4611686018427387904):
  Calls Tryz.prog 128 #[.slice (some ⟨blk,off,none⟩) zs.length cap] w fun e w'=>
   e= .returned (.tuple #[])/\∃n os,w'=grow (putRow (Value.int .i64) (Sort.ahead w n) blk off (zs.mergeSort fun x y=>decide (x<=y)).toArray) os:=Any.slices_Sort_int Tryz.qDf blk off cap zs w hH hblk hsz
def Tryz.zS1:Go.Shelf.Ren:=⟨fun|108=>93|n=>n,fun|28=>23|3=>3|0=>0|4=>4|n=>n,fun|n=>n⟩
theorem Tryz.qDq:Go.Proofs.Lays.n108 Tryz.prog Tryz.zS1:={
 mixed:=by kernel_rfl
 f108:=Tryz.func93.trans (congrArg some (by kernel_rfl))
 t0:=Tryz.underlying0
 a0:=Tryz.isAgg0
 z0:=Tryz.sizeOf0
 v0:=Tryz.zeroValue0
 t3:=Tryz.underlying3
 a3:=Tryz.isAgg3
 z3:=Tryz.sizeOf3
 v3:=Tryz.zeroValue3
 t4:=Tryz.underlying4
 a4:=Tryz.isAgg4
 z4:=Tryz.sizeOf4
 v4:=Tryz.zeroValue4
 t28:=Tryz.underlying23
 a28:=Tryz.isAgg23
 z28:=Tryz.sizeOf23
 v28:=Tryz.zeroValue23}
open Go.Lib in
theorem Tryz.slices_Index_int (b off n c:Nat) (zs:List Int) (x:Int) (w:World) (hz:n<=zs.length) (hbig:n<=9223372036854775807) (hc:∀j,j<zs.length->w.cell? ⟨b,off+j,none⟩=some (.int .i64 (zs.getD j 0))):
  Calls Tryz.prog 93 #[.slice (some ⟨b,off,none⟩) n c,.int .i64 x] w fun e w'=>e= .returned (.int .i64 (Lib.idxOf (zs.take n) x))/\w'=w:=Any.slices_Index_int Tryz.qDq b off n c zs x w hz hbig hc
def Tryz.zS0:Go.Shelf.Ren:=⟨fun|113=>125|n=>n,fun|28=>23|3=>3|4=>4|9=>9|20=>20|0=>0|n=>n,fun|n=>n⟩
theorem Tryz.qDp:Go.Proofs.Lays.n113 Tryz.prog Tryz.zS0:={
 mixed:=by kernel_rfl
 f113:=Tryz.func125.trans (congrArg some (by kernel_rfl))
 t0:=Tryz.underlying0
 a0:=Tryz.isAgg0
 z0:=Tryz.sizeOf0
 v0:=Tryz.zeroValue0
 t3:=Tryz.underlying3
 a3:=Tryz.isAgg3
 z3:=Tryz.sizeOf3
 v3:=Tryz.zeroValue3
 t4:=Tryz.underlying4
 a4:=Tryz.isAgg4
 z4:=Tryz.sizeOf4
 v4:=Tryz.zeroValue4
 t9:=Tryz.underlying9
 a9:=Tryz.isAgg9
 z9:=Tryz.sizeOf9
 v9:=Tryz.zeroValue9
 t20:=Tryz.underlying20
 a20:=Tryz.isAgg20
 z20:=Tryz.sizeOf20
 v20:=Tryz.zeroValue20
 t28:=Tryz.underlying23
 a28:=Tryz.isAgg23
 z28:=Tryz.sizeOf23
 v28:=Tryz.zeroValue23}
open Go.Lib in
theorem Tryz.slices_Max_int (b off n c:Nat) (zs:List Int) (w:World) (hn:0<n) (hz:n<=zs.length) (hbig:n<=9223372036854775807) (hc:∀j,j<zs.length->w.cell? ⟨b,off+j,none⟩=some (.int .i64 (zs.getD j 0))):
  Calls Tryz.prog 125 #[.slice (some ⟨b,off,none⟩) n c] w fun e w'=>e= .returned (.int .i64 (Lib.maxOf (zs.take n)))/\w'=w:=Any.slices_Max_int Tryz.qDp b off n c zs w hn hz hbig hc
def Tryz.zSz:Go.Shelf.Ren:=⟨fun|114=>126|n=>n,fun|28=>23|3=>3|4=>4|9=>9|20=>20|0=>0|n=>n,fun|n=>n⟩
theorem Tryz.qDo:Go.Proofs.Lays.n114 Tryz.prog Tryz.zSz:={
 mixed:=by kernel_rfl
 f114:=Tryz.func126.trans (congrArg some (by kernel_rfl))
 t0:=Tryz.underlying0
 a0:=Tryz.isAgg0
 z0:=Tryz.sizeOf0
 v0:=Tryz.zeroValue0
 t3:=Tryz.underlying3
 a3:=Tryz.isAgg3
 z3:=Tryz.sizeOf3
 v3:=Tryz.zeroValue3
 t4:=Tryz.underlying4
 a4:=Tryz.isAgg4
 z4:=Tryz.sizeOf4
 v4:=Tryz.zeroValue4
 t9:=Tryz.underlying9
 a9:=Tryz.isAgg9
 z9:=Tryz.sizeOf9
 v9:=Tryz.zeroValue9
 t20:=Tryz.underlying20
 a20:=Tryz.isAgg20
 z20:=Tryz.sizeOf20
 v20:=Tryz.zeroValue20
 t28:=Tryz.underlying23
 a28:=Tryz.isAgg23
 z28:=Tryz.sizeOf23
 v28:=Tryz.zeroValue23}
open Go.Lib in
theorem Tryz.slices_Min_int (b off n c:Nat) (zs:List Int) (w:World) (hn:0<n) (hz:n<=zs.length) (hbig:n<=9223372036854775807) (hc:∀j,j<zs.length->w.cell? ⟨b,off+j,none⟩=some (.int .i64 (zs.getD j 0))):
  Calls Tryz.prog 126 #[.slice (some ⟨b,off,none⟩) n c] w fun e w'=>e= .returned (.int .i64 (Lib.minOf (zs.take n)))/\w'=w:=Any.slices_Min_int Tryz.qDo b off n c zs w hn hz hbig hc
def Tryz.zPi:Go.Shelf.Ren:=⟨fun|15=>101|n=>n,fun|22=>23|3=>3|4=>4|n=>n,fun|n=>n⟩
theorem Tryz.zXm:Go.Proofs.Lays2.n15 Tryz.prog Tryz.zPi:={
 mixed:=by kernel_rfl
 f15:=Tryz.func101.trans (congrArg some (by kernel_rfl))
 t3:=Tryz.underlying3
 a3:=Tryz.isAgg3
 z3:=Tryz.sizeOf3
 v3:=Tryz.zeroValue3
 t4:=Tryz.underlying4
 a4:=Tryz.isAgg4
 z4:=Tryz.sizeOf4
 v4:=Tryz.zeroValue4
 t22:=Tryz.underlying23
 a22:=Tryz.isAgg23
 z22:=Tryz.sizeOf23
 v22:=Tryz.zeroValue23
 i3:=by kernel_rfl}
open Go.RowKit Go.Lib in
theorem Tryz.slices_Clone_int (b off n c:Nat) (zs:List Int) (w:World) (hz:n<=zs.length) (hbig:n*8<=140737488355328) (hc:∀j,j<zs.length->w.cell? ⟨b,off+j,none⟩=some (.int .i64 (zs.getD j 0))):
  Calls Tryz.prog 101 #[.slice (some ⟨b,off,none⟩) n c] w fun e w'=>∃v',e= .returned v'/\w'.ownsRow w.heap.size 3 1 v' n ((zs.take n).map (Value.int .i64))/\v'≠ .slice none 0 0/\Below w.heap.size w w':=Any.slices_Clone_int Tryz.zXm b off n c zs w hz hbig hc
def Tryz.zI1:Go.Shelf.Ren:=⟨fun|20=>281|n=>n,fun|24=>3|22=>23|3=>3|25=>29|4=>4|0=>0|n=>n,fun|n=>n⟩
theorem Tryz.zNl:Go.Proofs.SlLaysF.n20 Tryz.prog Tryz.zI1:={
 mixed:=by kernel_rfl
 f20:=⟨Tryz.f281.name,by decide,Tryz.func281.trans (congrArg some (by kernel_rfl))⟩
 t0:=Tryz.underlying0
 a0:=Tryz.isAgg0
 z0:=Tryz.sizeOf0
 v0:=Tryz.zeroValue0
 t3:=Tryz.underlying3
 a3:=Tryz.isAgg3
 z3:=Tryz.sizeOf3
 v3:=Tryz.zeroValue3
 t4:=Tryz.underlying4
 a4:=Tryz.isAgg4
 z4:=Tryz.sizeOf4
 v4:=Tryz.zeroValue4
 t22:=Tryz.underlying23
 a22:=Tryz.isAgg23
 z22:=Tryz.sizeOf23
 v22:=Tryz.zeroValue23
 a24:=Tryz.isAgg3
 z24:=Tryz.sizeOf3
 t25:=Tryz.underlying29
 a25:=Tryz.isAgg29
 z25:=Tryz.sizeOf29
 v25:=Tryz.zeroValue29}
open Go.RowKit Go.Lib Go.Sort in
theorem Tryz.insertionSortCmpFunc_s {α:Type} [Inhabited α] (enc:α->Value) (cf:α->α->Int) (g:Nat) (cb:Array Value) (blk off cap a b:Nat) (d0 d:Array α) (w0 w:World) (eg:∀args w,(callFunc g args).run Tryz.prog w= .ok (.enter g args) w) (hcmp:CmpLays1 Tryz.prog g cb enc cf blk off d0.size w0) (R:Row1 enc w0 blk off d0) (hs:d0.size=d.size) (S:SW enc w0 blk off d w) (hab:a<=b) (hb:b<=d.size) (hsz:d.size<4611686018427387904):
  Calls Tryz.prog 281 #[.slice (some ⟨blk,off,none⟩) d.size cap,.int .i64 a,.int .i64 b,.func (.func g) #[] cb] w fun e w'=>e= .returned (.tuple #[])/\SW enc w0 blk off (Sort.insertionSort (ltOf cf) d a b) w':=Any.insertionSortCmpFunc_s Tryz.zNl enc cf g cb blk off cap a b d0 d w0 w eg hcmp R hs S hab hb hsz
end Go.Proofs
end
namespace Go.Proofs.YtppnakkaljbmbaaGreatDoor
namespace St
open Go.RowKit Go.Lib Go.Sort Go.Proofs Tn
theorem qGd (x y:Int) (w:World):Calls Tryz.prog 168 #[.int .i64 x,.int .i64 y] w fun e w'=>e= .returned (.int .i64 (Lib.compareInt x y))/\w'=w:=Tryz.cmp_Compare_int x y w
theorem zKt (r:RK) (i j:Nat) (f:Nat->Nat) (w:World) (hs:r.s.size=r.n) (hn:r.n<=1000000) (hm:r.m<=2000000) (hi:i<r.n) (hj:j<r.n) (hc:∀k,k<r.n->w.cell? ⟨r.N,k,none⟩=some (.int .i64 (f k:Int))):
  Calls Tryz.prog 130 #[rv r,.int .i64 (i:Int),.int .i64 (j:Int)] w fun e w'=>e= .returned (.int .i64 (cf2 r.n r.m f i j))/\Grn w w':=by
 have h0:0<r.n:=by omega
 obtain⟨B,hB⟩:=zB w.heap.size
 obtain⟨W,hW⟩:=zB ((w.alloc (zNa r)).drew)
 have G1:Grn w W:=by rw[<-hW];exact(Grn.alloc w (zNa r)).trans (Grn.drew _)
 have HB:RB W B r:=by rw[<-hW,<-hB];exact(RB.new w r).grn (Grn.drew _)
 have L:=zH (fun(k:Nat) (hk:k<r.n) (W':World) (g:Grn W W')=>(G1.trans g).cell (hc k hk))
 have HA:=zH (fun(k:Nat) (hk:k<r.n) (W':World) (g:Grn W W')=>qGj r k (f ((k+r.m)%r.n)) W' hs h0 hn hm hk ((G1.trans g).cell (hc _ (Nat.mod_lt _ h0))))
 have HBX:=zH HB
 have HG:=zH G1
 have HI:=zH hi
 have HJ:=zH hj
 obtain⟨c0,hc0⟩:=zB (Lib.compareInt (f i:Int) (f j:Int))
 obtain⟨c1,hc1⟩:=zB (Lib.compareInt (f ((i+r.m)%r.n):Int) (f ((j+r.m)%r.n):Int))
 have hcf:cf2 r.n r.m f i j=if c0=0 then c1 else c0:=by unfold cf2;rw[hc0,hc1]
 rw[hcf]
 have OR:=zH (fun(b:Nat) (w:World)=>qFh c0 c1 b w)
 obtain⟨v,hv⟩:=zB ((if c0=0 then c1 else c0))
 rw[hv]at OR⊢
 clear hv
 have C0:=zH (show ∀W',Calls Tryz.prog 168 #[.int .i64 (f i:Int),.int .i64 (f j:Int)] W' fun e w'=>e= .returned (.int .i64 c0)/\w'=W' from fun W'=>by have h:=qGd (f i) (f j) W';rw[hc0]at h;exact h)
 have C1:=zH (show ∀W',Calls Tryz.prog 168 #[.int .i64 (f ((i+r.m)%r.n):Int),.int .i64 (f ((j+r.m)%r.n):Int)] W' fun e w'=>e= .returned (.int .i64 c1)/\w'=W' from fun W'=>by have h:=qGd (f ((i+r.m)%r.n)) (f ((j+r.m)%r.n)) W';rw[hc1]at h;exact h)
 have GW:=zH (show Grn W (w.alloc (zNa r)).drew by rw[hW];exact Grn.refl _)
 have HBB:=zH hB
 clear hs hn hm hi hj hc h0 G1 HB hB hW hc0 hc1 hcf
 unfold rv
 go_enter Tryz.func130,Tryz.ntmps130
 go_wp2
 rw[HBB.out]
 refine zS [16,17,18,19] (fun W9=>Grn W W9) [0,1,0,6,8,0,32,0,192,256,528,0,0,7168,0,0,57344,73728,132096,393216,1048575] 21<|zu 12 19 (zI i)<|zu 15 22 (zI j)<|zy 11 18 (rv r) (fun w hS=>zl 221 3 ((HBX.out.grn hS).ld)) GW.out<|zy 14 21 (rv r) (fun w hS=>zl 221 3 ((HBX.out.grn hS).ld)) GW.out<|zp [0,1,2,3,4,5,6,7,8,9]<|zk 7 (zP B 1)<|zt 8 (.slice (some ⟨r.N,0,none⟩) r.n r.c) ((fun w hS=>zl 23 7 ((HBX.out.grn hS).l1)) _ (GW.out))<|zk 9 (zI i)<|zt 10 (.pointer (some ⟨r.N,i,none⟩)) (Kit.zBo (t:=23) (x:=(.tmp 8)) (y:=(.tmp 9)) (g:=r.N) (n:=r.n) (c:=r.c) (k:=i) rfl (by kernel_rfl) (by kernel_rfl) HI.out Tryz.underlying23 (fun _=>Tryz.sizeOf3 _) _)<|zt 11 (.int .i64 (f i:Int)) ((fun w hS=>zl 3 10 (zE4 (L.out i HI.out _ hS))) _ (GW.out))<|zk 12 (zP B 1)<|zt 13 (.slice (some ⟨r.N,0,none⟩) r.n r.c) ((fun w hS=>zl 23 12 ((HBX.out.grn hS).l1)) _ (GW.out))<|zk 14 (zI j)<|zt 15 (.pointer (some ⟨r.N,j,none⟩)) (Kit.zBo (t:=23) (x:=(.tmp 13)) (y:=(.tmp 14)) (g:=r.N) (n:=r.n) (c:=r.c) (k:=j) rfl (by kernel_rfl) (by kernel_rfl) HJ.out Tryz.underlying23 (fun _=>Tryz.sizeOf3 _) _)<|zt 16 (.int .i64 (f j:Int)) ((fun w hS=>zl 3 15 (zE4 (L.out j HJ.out _ hS))) _ (GW.out))<|zn<|zd 10 17 168 #[.int .i64 (f i:Int),.int .i64 (f j:Int)] (.int .i64 c0) (C0.out _)<|zc 13 20 184 #[rv r,.int .i64 (i:Int)] (.int .i64 (f ((i+r.m)%r.n):Int)) (HA.out i HI.out _ GW.out)<| ?_
 refine fun w5 g5=>⟨.inr (.inr (GW.out.trans g5)),?_⟩
 refine zc 16 23 184 #[rv r,.int .i64 (j:Int)] (.int .i64 (f ((j+r.m)%r.n):Int)) (HA.out j HJ.out _ (GW.out.trans g5))<| ?_
 refine fun w6 g6=>⟨.inr (.inr ((GW.out.trans g5).trans g6)),?_⟩
 refine zd 17 24 168 #[.int .i64 (f ((i+r.m)%r.n):Int),.int .i64 (f ((j+r.m)%r.n):Int)] (.int .i64 c1) (C1.out _)<| ?_
 refine Kit.zLe (w':=w6.alloc (.cells #[.int .i64 c0,.int .i64 c1] 3)) 18 (some 25) (.slice (some ⟨w6.heap.size,0,none⟩) 2 2) 524287 (by kernel_rfl) (by kernel_rfl) rfl rfl (by kernel_rfl) (by kernel_rfl) (.inr (.inl (by kernel_rfl))) ?_
 refine zd 19 26 183 #[.slice (some ⟨w6.heap.size,0,none⟩) 2 2] (.int .i64 v) (OR.out _ _ (by simp) (by simp))<|zp [20]<|zk 6 (.int .i64 v)<|zn<|zE<| ?_
 simp only[zP,zI,Act.put,List.setIfInBounds_toArray,List.set_cons_zero,List.set_cons_succ]
 go_wp2
 go_ret
 exact⟨rfl,(HG.out.trans ((GW.out.trans g5).trans g6)).trans (Grn.alloc _ _)⟩
end St
namespace St
open Go.RowKit Go.Lib Go.Sort Go.Proofs
variable {α:Type} [Inhabited α]
theorem zGv (enc:α->Value) (fv:Value) (blk off cap a b n:Nat) (d0 d:Array α) (w0 w:World) (R:Row1 enc w0 blk off d0) (hs:d0.size=d.size) (S:SW enc w0 blk off d w) (hab:a+n<=b) (hb:b+n<=d.size) (hsz:d.size<4611686018427387904):
  Calls Tryz.prog 336 #[.slice (some ⟨blk,off,none⟩) d.size cap,.int .i64 (a:Int),.int .i64 (b:Int),.int .i64 (n:Int),fv] w fun e w'=>e= .returned (.tuple #[])/\∃d',Swr d a b n d'/\SW enc w0 blk off d' w':=by
 have hcl0:=R.hO.cells
 simp only[Value.cells]at hcl0
 have hst:=R.hO.store Tryz.prog
 have S0:Aside (SW enc w0 blk off d w):=S
 clear S
 go_enter Tryz.func336,Tryz.ntmps336
 go_wp2
 go_loopg [10] n (fun kx s10 wr=>∃(i:Nat) (dk:Array α),s10= .int .i64 i/\i<=n/\n-i<=kx/\Aside (Swr d a b i dk)/\Aside (SW enc w0 blk off dk wr))
 case atStart=>exact⟨0,d,rfl,by omega,by omega,Swr.start d a b,S0⟩
 case round=>
  clear S0
  obtain⟨i,dk,rfl,hin,hkx,SR,S1⟩:=hrel
  have hds:dk.size=d.size:=SR.out.size
  by_cases hlt:i<n
  ·have hz1:(i:Int)<(n:Int):=by omega
   go_wp2_with fail
   obtain⟨iN,hiN⟩:∃q,q=a+i:=⟨_,rfl⟩
   obtain⟨jN,hjN⟩:∃q,q=b+i:=⟨_,rfl⟩
   have ea:((a:Int)+(i:Int)).toNat=iN:=by omega
   have pa:(0:Int)<=(a:Int)+(i:Int):=by omega
   have ba:(a:Int)+(i:Int)<(d.size:Int):=by omega
   have ra:IntKind.i64.wrap ((a:Int)+(i:Int))=(a:Int)+(i:Int):=by rw[IntKind.wrap_i64];omega
   have ec:((b:Int)+(i:Int)).toNat=jN:=by omega
   have pc:(0:Int)<=(b:Int)+(i:Int):=by omega
   have bc:(b:Int)+(i:Int)<(d.size:Int):=by omega
   have rc:IntKind.i64.wrap ((b:Int)+(i:Int))=(b:Int)+(i:Int):=by rw[IntKind.wrap_i64];omega
   obtain⟨x1,hx1⟩:∃x,x=dk[a+i]! :=⟨_,rfl⟩
   obtain⟨y1,hy1⟩:∃x,x=dk[b+i]! :=⟨_,rfl⟩
   have S2:Aside (SW enc w0 blk off (swp dk (a+i) (b+i)) ((wr.setCell ⟨blk,off+iN,none⟩ (enc y1)).setCell ⟨blk,off+jN,none⟩ (enc x1)).drew):=by rw[hiN,hjN,hx1,hy1];exact S1.out.swapped R (a+i) (b+i) (by omega) (by omega)
   have SR2:Aside (Swr d a b (i+1) (swp dk (a+i) (b+i))):=SR.out.step (by omega) (by omega)
   have c1:=S1.out.c1 R (by omega) (a+i) (by omega)
   have c2:=S1.out.c1 R (by omega) (b+i) (by omega)
   have f1:=S1.out.f1 R (by omega) (a+i) (by omega)
   have f2:=S1.out.f1 R (by omega) (b+i) (by omega)
   obtain⟨u1,c3⟩:=S1.out.c2 R (by omega) (a+i) (b+i) (by omega) (by omega) (enc y1)
   rw[<-hjN,<-hiN]at c3
   rw[<-hx1,<-hiN]at c1
   rw[<-hy1,<-hjN]at c2
   rw[<-hiN]at f1
   rw[<-hjN]at f2
   clear S1 SR hx1 hy1 hiN hjN
   go_wp2_with fail
   go_big_region
   clear c1 c2 c3 f1 f2
   generalize ((wr.setCell ⟨blk,off+iN,none⟩ (enc y1)).setCell ⟨blk,off+jN,none⟩ (enc x1)).drew=w2 at S2⊢
   clear ea ec
   go_wp2
   go_roundg (n-(i+1))
   case measure=>omega
   case rel=>exact⟨i+1,swp dk (a+i) (b+i),by go_num,by omega,Nat.le_refl _,SR2,S2⟩
  ·obtain rfl:n=i:=by omega
   go_wp2
   go_end0
   exact⟨rfl,dk,SR.out,S1.out⟩
end St
namespace St
open Go.RowKit Go.Lib Go.Sort Go.Proofs
variable {α:Type} [Inhabited α]
theorem zZl (enc:α->Value) (fv:Value) (blk off cap a m b:Nat) (d0 d:Array α) (w0 w:World) (R:Row1 enc w0 blk off d0) (hs:d0.size=d.size) (S:SW enc w0 blk off d w) (ham:a<m) (hmb:m<b) (hb:b<=d.size) (hsz:d.size<1000000000):
  Calls Tryz.prog 313 #[.slice (some ⟨blk,off,none⟩) d.size cap,.int .i64 (a:Int),.int .i64 (m:Int),.int .i64 (b:Int),fv] w fun e w'=>e= .returned (.tuple #[])/\∃d',Rot d a m b d'/\SW enc w0 blk off d' w':=by
 have S0:Aside (SW enc w0 blk off d w):=S
 clear S
 obtain⟨i0,hi0⟩:=zB (m-a)
 obtain⟨j0,hj0⟩:=zB (b-m)
 have M0:Aside (Mid d a m b i0 j0 d):=by rw[<-hi0,<-hj0];exact Mid.start d (by omega) (by omega)
 have e1:(m:Int)-(a:Int)=(i0:Int):=by omega
 have e2:(b:Int)-(m:Int)=(j0:Int):=by omega
 go_enter Tryz.func313,Tryz.ntmps313
 go_wp2
 clear e1 e2
 go_loopg [10,11] (i0+j0) (fun kx s10 s11 wr=>∃(i j:Nat) (dk:Array α),s10= .int .i64 i/\s11= .int .i64 j/\0<i/\0<j/\i<=i0/\j<=j0/\i+j<=kx/\Aside (Mid d a m b i j dk)/\Aside (SW enc w0 blk off dk wr))
 case atStart=>exact⟨i0,j0,d,rfl,rfl,by omega,by omega,by omega,by omega,by omega,M0,S0⟩
 case round=>
  clear S0 M0
  obtain⟨i,j,dk,rfl,rfl,hi,hj,hi2,hj2,hkx,MD,S1⟩:=hrel
  have hds:dk.size=d.size:=MD.out.perm.1
  obtain⟨p,hp⟩:=zB (m-i)
  have e1:(m:Int)-(i:Int)=(p:Int):=by omega
  by_cases hne:i=j
  ·subst hne
   have hz:((i:Int)!=(i:Int))=false:=by simp
   have HC:=zH (zGv enc fv blk off cap p m i d0 dk w0 wr R (by omega) S1.out (by omega) (by omega) (by omega))
   rw[hds]at HC
   go_wp2_with fail
   (with_reducible refine HC.out.mono ?_)
   rintro e w2 ⟨rfl,d2,hsw,hs2⟩
   have h1:Rot d a m b d2:=MD.out.last (by omega) (by omega) (by omega) hb (by rw[hp];exact hsw)
   clear MD HC S1 hsw
   go_wp2
   go_end0
   exact⟨rfl,d2,h1,hs2⟩
  ·have hz:((i:Int)!=(j:Int))=true:=by simp;omega
   by_cases hlt:j<i
   ·have hz2:decide ((j:Int)<(i:Int))=true:=decide_eq_true (by omega)
    have HC:=zH (zGv enc fv blk off cap p m j d0 dk w0 wr R (by omega) S1.out (by omega) (by omega) (by omega))
    rw[hds]at HC
    go_wp2_with fail
    (with_reducible refine HC.out.mono ?_)
    rintro e w2 ⟨rfl,d2,hsw,hs2⟩
    have M2:Aside (Mid d a m b (i-j) j d2):=MD.out.more (by omega) (by omega) (by omega) hb hlt (by rw[hp];exact hsw)
    have S2:Aside (SW enc w0 blk off d2 w2):=hs2
    have e3:(i:Int)-(j:Int)=((i-j:Nat):Int):=by omega
    clear MD HC S1 hsw hs2
    go_wp2
    go_roundg (i-j+j)
    case measure=>omega
    case rel=>exact⟨i-j,j,d2,rfl,rfl,by omega,by omega,by omega,by omega,by omega,M2,S2⟩
   ·have hz2:decide ((j:Int)<(i:Int))=false:=decide_eq_false (by omega)
    obtain⟨q,hq⟩:=zB (m+j-i)
    have e2:(m:Int)+(j:Int)-(i:Int)=(q:Int):=by omega
    have HC:=zH (zGv enc fv blk off cap p q i d0 dk w0 wr R (by omega) S1.out (by omega) (by omega) (by omega))
    rw[hds]at HC
    go_wp2_with fail
    (with_reducible refine HC.out.mono ?_)
    rintro e w2 ⟨rfl,d2,hsw,hs2⟩
    have M2:Aside (Mid d a m b i (j-i) d2):=MD.out.less (by omega) (by omega) (by omega) hb (by omega) (by rw[hp,hq];exact hsw)
    have S2:Aside (SW enc w0 blk off d2 w2):=hs2
    have e3:(j:Int)-(i:Int)=((j-i:Nat):Int):=by omega
    clear MD HC S1 hsw hs2
    go_wp2
    go_roundg (i+(j-i))
    case measure=>omega
    case rel=>exact⟨i,j-i,d2,rfl,rfl,by omega,by omega,by omega,by omega,by omega,M2,S2⟩
end St
namespace St
open Go.RowKit Go.Lib Go.Sort Go.Proofs
variable {α:Type} [Inhabited α]
theorem zXk {lt t:α->α->Bool} {I:α->Nat} (h:Ord lt t I) {d:Array α} {a b hh q:Nat} (hp:Pre t I a (a+1) b d) (h1:a+1<=hh) (h2:hh<b) (ht:lt d[hh]! d[a]! =true) (hq:a+1<=q) (hqh:q<=hh):lt d[q]! d[a]! =true:=by
 by_cases e:q=hh
 ·subst e;exact ht
 ·rw[h.ask _ _ (hp.i a q (Nat.le_refl _) (by omega) hq (by omega))]
  rw[h.ask _ _ (hp.i a hh (Nat.le_refl _) (by omega) h1 h2)]at ht
  cases e2:t d[q]! d[a]! with
  |true=>rfl
  |false=>
   have:=h.swo.ntrans _ _ _ (hp.r q hh hq (by omega) h2) e2
   rw[this]at ht
   cases ht
theorem zGw {lt t:α->α->Bool} {I:α->Nat} (h:Ord lt t I) {d:Array α} {a m hh q:Nat} (hp:Pre t I a m (m+1) d) (h1:a<=hh) (h2:hh<m) (ht:lt d[m]! d[hh]! =false) (hq:a<=q) (hqh:q<=hh):lt d[m]! d[q]! =false:=by
 by_cases e:q=hh
 ·subst e;exact ht
 ·rw[h.ask _ _ (hp.i q m hq (by omega) (Nat.le_refl _) (by omega))]
  rw[h.ask _ _ (hp.i hh m h1 h2 (Nat.le_refl _) (by omega))]at ht
  exact h.swo.ntrans _ _ _ ht (hp.l q hh hq (by omega) h2)
theorem zWn (enc:α->Value) (cf:α->α->Int) {t:α->α->Bool} {I:α->Nat} (ho:Ord (ltOf cf) t I) (g:Nat) (cb:Array Value) (blk off cap a b:Nat) (d0 d:Array α) (w0 w:World) (eg:∀args w,(callFunc g args).run Tryz.prog w= .ok (.enter g args) w)
  (hcmp:CmpLays1 Tryz.prog g cb enc cf blk off d0.size w0) (R:Row1 enc w0 blk off d0) (hs:d0.size=d.size) (S:SW enc w0 blk off d w) (hab:a+1<b) (hb:b<=d.size) (hsz:d.size<1000000000) (hp:Pre t I a (a+1) b d):
  Calls Tryz.prog 282 #[.slice (some ⟨blk,off,none⟩) d.size cap,.int .i64 (a:Int),.int .i64 ((a+1:Nat):Int),.int .i64 (b:Int),.func (.func g) #[] cb] w fun e w'=>e= .returned (.tuple #[])/\∃d',(PermIn a b d d'/\SortedIn t a b d')/\SW enc w0 blk off d' w':=by
 have hcl0:=R.hO.cells
 simp only[Value.cells]at hcl0
 have hst:=R.hO.store Tryz.prog
 have mixed:Tryz.prog.follows .mixedOrders=true:=by kernel_rfl
 have S0:Aside (SW enc w0 blk off d w):=S
 have HC:=zH hcmp
 have HP:=zH hp
 have HO:=zH ho
 obtain⟨m,hm⟩:=zB (a+1)
 have z1:(((m:Int)-(a:Int))==1)=true:=by simp;omega
 have HM:=zH hm
 clear S hcmp hp ho
 rw[hm]
 have hma:a<m:=by omega
 have hma2:m<=a+1:=by omega
 clear hm
 go_enter Tryz.func282,Tryz.ntmps282
 go_wp2
 clear z1
 go_loopg [10,11] (b-m) (fun kx s10 s11 wr=>∃(i j:Nat),s10= .int .i64 i/\s11= .int .i64 j/\m<=i/\i<=j/\j<=b/\j-i<=kx/\Aside (∀q,a+1<=q->q<i->(ltOf cf) d[q]! d[a]! =true)/\Aside (j<b->(ltOf cf) d[j]! d[a]! =false)/\Aside (SW enc w0 blk off d wr))
 case atStart=>exact⟨m,b,rfl,rfl,by omega,by omega,by omega,by omega,fun q h1 h2=>by omega,fun h=>by omega,S0⟩
 case round=>
  clear S0
  obtain⟨i,j,rfl,rfl,hi,hij,hjb,hkx,H1,H2,S1⟩:=hrel
  by_cases hlt:i<j
  ·have hz1:(i:Int)<(j:Int):=by omega
   obtain⟨h,hh⟩:=zB ((i+j)/2)
   have eh:((i:Int)+(j:Int))/2=(h:Int):=by omega
   have hhb:(h:Int)<(d.size:Int):=by omega
   have hab2:(a:Int)<(d.size:Int):=by omega
   obtain⟨x1,hx1⟩:∃x,x=d[h]! :=⟨_,rfl⟩
   obtain⟨y1,hy1⟩:∃x,x=d[a]! :=⟨_,rfl⟩
   have l1:=S1.out.cl R (by omega) h (by omega)
   have l2:=S1.out.cl R (by omega) a (by omega)
   rw[<-hx1]at l1
   rw[<-hy1]at l2
   have hc:=S1.out.cmp HC.out (by omega) x1 y1
   cases hlv:(ltOf cf) d[h]! d[a]! with
   |true=>
    have hv:cf x1 y1<0:=by rw[hx1,hy1];exact of_decide_eq_true hlv
    have hd:decide (cf x1 y1<0)=true:=decide_eq_true hv
    have H3:Aside (∀q,a+1<=q->q<h+1->(ltOf cf) d[q]! d[a]! =true):=fun q h1 h2=>zXk HO.out HP.out (by omega) (by omega) hlv h1 (by omega)
    clear hx1 hy1 hlv hh
    go_wp2_with fail
    go_quiet_grown (first|(go_at_fn g;refine Calls.grown_of (hc _ _)))
    have S2:Aside (SW enc w0 blk off d (grow (wr.drewN nq) osq)):=S1.out.grown nq osq
    clear l1 l2 hc S1
    generalize grow (wr.drewN nq) osq=w2 at S2⊢
    clear nq osq
    go_wp2
    go_roundg (j-(h+1))
    case measure=>omega
    case rel=>exact⟨h+1,j,by go_num,rfl,by omega,by omega,by omega,by omega,H3,H2,S2⟩
   |false=>
    have hv:¬cf x1 y1<0:=by rw[hx1,hy1];exact of_decide_eq_false hlv
    have hd:decide (cf x1 y1<0)=false:=decide_eq_false hv
    have H3:Aside (h<b->(ltOf cf) d[h]! d[a]! =false):=fun _=>hlv
    clear hx1 hy1 hlv hh
    go_wp2_with fail
    go_quiet_grown (first|(go_at_fn g;refine Calls.grown_of (hc _ _)))
    have S2:Aside (SW enc w0 blk off d (grow (wr.drewN nq) osq)):=S1.out.grown nq osq
    clear l1 l2 hc S1
    generalize grow (wr.drewN nq) osq=w2 at S2⊢
    clear nq osq
    go_wp2
    go_roundg (h-i)
    case measure=>omega
    case rel=>exact⟨i,h,rfl,rfl,by omega,by omega,by omega,by omega,H1,H3,S2⟩
  ·obtain rfl:i=j:=by omega
   clear hij hkx
   go_wp2
   go_loopg [13] (i-a) (fun kx s13 wr=>∃(k:Nat) (dk:Array α),s13= .int .i64 k/\a<=k/\k+1<=i/\i-k<=kx/\Aside (Shl d a k dk)/\Aside (SW enc w0 blk off dk wr))
   case atStart=>exact⟨a,d,rfl,by omega,by omega,by omega,Shl.start d a,S1⟩
   case round=>
    clear S1
    obtain⟨k,dk,rfl,hak,hki,hkx,SH,S1⟩:=hrel
    have hds:dk.size=d.size:=SH.out.perm.1
    by_cases hlt2:k+1<i
    ·have hz2:decide ((k:Int)<(i:Int)-1)=true:=decide_eq_true (by omega)
     have hz3:(k:Int)<(i:Int)-1:=by omega
     go_wp2_with fail
     obtain⟨jN,hjN⟩:∃q,q=k+1:=⟨_,rfl⟩
     have ea:((k:Int)+1).toNat=jN:=by omega
     have pa:(0:Int)<=(k:Int)+1:=by omega
     have ba:(k:Int)+1<(d.size:Int):=by omega
     have bk:(k:Int)<(d.size:Int):=by omega
     have ra:IntKind.i64.wrap ((k:Int)+1)=(k:Int)+1:=by rw[IntKind.wrap_i64];omega
     obtain⟨x1,hx1⟩:∃x,x=dk[k]! :=⟨_,rfl⟩
     obtain⟨y1,hy1⟩:∃x,x=dk[k+1]! :=⟨_,rfl⟩
     have S2:Aside (SW enc w0 blk off (swp dk k (k+1)) ((wr.setCell ⟨blk,off+k,none⟩ (enc y1)).setCell ⟨blk,off+jN,none⟩ (enc x1)).drew):=by rw[hjN,hx1,hy1];exact S1.out.swapped R k (k+1) (by omega) (by omega)
     have SH2:Aside (Shl d a (k+1) (swp dk k (k+1))):=SH.out.step hak (by omega)
     have c1:=S1.out.c1 R (by omega) k (by omega)
     have c2:=S1.out.c1 R (by omega) (k+1) (by omega)
     have f1:=S1.out.f1 R (by omega) k (by omega)
     have f2:=S1.out.f1 R (by omega) (k+1) (by omega)
     obtain⟨u1,c3⟩:=S1.out.c2 R (by omega) k (k+1) (by omega) (by omega) (enc y1)
     rw[<-hjN]at c3
     rw[<-hx1]at c1
     rw[<-hy1,<-hjN]at c2
     rw[<-hjN]at f2
     clear S1 SH hx1 hy1 hjN
     go_wp2_with fail
     go_big_region
     clear c1 c2 c3 f1 f2
     generalize ((wr.setCell ⟨blk,off+k,none⟩ (enc y1)).setCell ⟨blk,off+jN,none⟩ (enc x1)).drew=w2 at S2⊢
     clear ea
     go_wp2
     go_roundg (i-(k+1))
     case measure=>omega
     case rel=>exact⟨k+1,swp dk k (k+1),by go_num,by omega,by omega,by omega,SH2,S2⟩
    ·obtain rfl:i=k+1:=by omega
     have hz2:decide ((k:Int)<((k+1:Nat):Int)-1)=false:=decide_eq_false (by omega)
     have hz3:¬(k:Int)<((k+1:Nat):Int)-1:=by omega
     have hfin:=zZ9 HO.out HP.out (i:=k+1) (by omega) (by omega) hb H1.out H2.out (by rw[Nat.add_sub_cancel];exact SH.out)
     have HF:=zH hfin
     clear hfin
     go_wp2
     try simp only[Exit.inBlock,Exit.then]
     refine bodyPost_ret (v:= .tuple #[]) (by kernel_rfl) rfl ?_
     exact⟨rfl,dk,HF.out,S1.out⟩
end St
end Go.Proofs.YtppnakkaljbmbaaGreatDoor
