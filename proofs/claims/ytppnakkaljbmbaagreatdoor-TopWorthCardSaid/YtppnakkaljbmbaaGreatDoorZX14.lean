/- Steps of a proof; no condition beyond what each states. -/
import Derived.Test.YtppnakkaljbmbaaGreatDoorZX00
import Derived.Shelf.Bytes.SlIndexAt
import Derived.Shelf.SlSortCmp.Insertion1
import Derived.Shelf.Slices.Clone
import Derived.Shelf.Slices.SearchI
import Derived.Shelf.Slices.Turned
import Derived.Shelf.SlicesE.Clone
import Derived.Shelf.Small.Wraps
import Derived.Shelf.Sort.Plain
import Derived.Shelf.Strings.BuilderK
import Derived.Test.YtppnakkaljbmbaaGreatDoorZX01
import Derived.Test.YtppnakkaljbmbaaGreatDoorZX02
set_option linter.unusedVariables false
set_option linter.unusedSimpArgs false
set_option maxRecDepth 100000
set_option maxHeartbeats 8000000
open List renaming length->kG
open Go.RowKit
open Go.Proofs.Tryz
open Go.Value renaming int->qV,string->qW,slice->qX,pointer->qY,tuple->qZ
open Go.IntKind renaming i64->qj
open Go.Obj renaming cells->qm
open Go.Ending renaming returned->qp
open Option renaming some->qw,none->qx
open Go renaming World->qy,Value->qz,Calls->yC
open Bool renaming true->yD,false->yE
open Go.Proofs.Tryz renaming prog->yG
open Go.RowKit renaming Below->yI
section
namespace Go.Proofs
open Go.Proofs.YtppnakkaljbmbaaGreatDoor
open Go.Shelf
def Tryz.zSv:Go.Shelf.Ren:=⟨fun|170=>115|n=>n,fun|70=>118|3=>3|0=>0|72=>120|37=>109|5=>5|n=>n,fun|n=>n⟩
theorem Tryz.qDi:Go.Proofs.Lays.n170 yG zSv:={
 mixed:=zf
 f170:=func115.trans (qPs qw zf)
 t0:=underlying0
 a0:=isAgg0
 z0:=sizeOf0
 v0:=zeroValue0
 t3:=underlying3
 a3:=isAgg3
 z3:=sizeOf3
 v3:=zeroValue3
 t37:=underlying109
 a37:=isAgg109
 z37:=sizeOf109
 v37:=zeroValue109
 t70:=underlying118
 a70:=isAgg118
 z70:=sizeOf118
 v70:=zeroValue118
 t72:=underlying120
 a72:=isAgg120
 z72:=sizeOf120
 v72:=zeroValue120}
open Go.RowKit in
theorem Tryz.Builder_Len (B b:Nat) (bs:List qz) (w:qy) (h:Lib.IsBuilder 120 5 B b bs w):
  yC yG 115 #[qY (qw ⟨b,0,qx⟩)] w fun e w'=>e=qp (qV qj (kG bs))/\w'=w:=Any.Builder_Len qDi B b bs w h
def Tryz.zKk:Go.Shelf.Ren:=⟨fun|169=>63|n=>n,fun|70=>118|9=>9|0=>0|72=>120|37=>109|127=>240|3=>3|5=>5|n=>n,fun|n=>n⟩
theorem Tryz.qDj:Go.Proofs.Lays.n169 yG zKk:={
 mixed:=zf
 f169:=func63.trans (qPs qw zf)
 t0:=underlying0
 a0:=isAgg0
 z0:=sizeOf0
 v0:=zeroValue0
 t3:=underlying3
 a3:=isAgg3
 z3:=sizeOf3
 v3:=zeroValue3
 t9:=underlying9
 a9:=isAgg9
 z9:=sizeOf9
 v9:=zeroValue9
 t37:=underlying109
 a37:=isAgg109
 z37:=sizeOf109
 v37:=zeroValue109
 t70:=underlying118
 a70:=isAgg118
 z70:=sizeOf118
 v70:=zeroValue118
 t72:=underlying120
 a72:=isAgg120
 z72:=sizeOf120
 v72:=zeroValue120
 t127:=underlying240
 a127:=isAgg240
 z127:=sizeOf240
 v127:=zeroValue240}
theorem Tryz.zKb:Builder.Extra yG zKk:={
 sizeBuilder:=zf
 liesBuilder:=zf
 t5:=underlying5
 a5:=isAgg5
 z5:=sizeOf5
 v5:=zeroValue5
 infoByte:=zf
 cellsByte:=zf
 sizeByte:=zf
 neB5:=by decide}
def Tryz.zSy:Go.Shelf.Ren:=⟨fun|122=>168|215=>206|n=>n,fun|3=>3|4=>4|n=>n,fun|n=>n⟩
theorem Tryz.qDn:Go.Proofs.Lays.n122 yG zSy:={
 mixed:=zf
 f122:=func168.trans (qPs qw zf)
 f215:=func206.trans (qPs qw zf)
 t3:=underlying3
 a3:=isAgg3
 z3:=sizeOf3
 v3:=zeroValue3
 t4:=underlying4
 a4:=isAgg4
 z4:=sizeOf4
 v4:=zeroValue4}
open Go.RowKit in
theorem Tryz.cmp_Compare_int (x y:Int) (w:qy):
  yC yG 168 #[qV qj x,qV qj y] w fun e w'=>e=qp (qV qj (Lib.compareInt x y))/\w'=w:=Any.cmp_Compare_int qDn x y w
open Go.RowKit in
theorem Tryz.Builder_String_any_k (B b:Nat) (l:List UInt8) (w:qy) (h:Lib.IsBuilderF 120 5 B b (Lib.byteCells l) w) (a:B<=w.heap.size):
  yC yG 63 #[qY (qw ⟨b,0,qx⟩)] w fun e w'=>e=qp (qW ⟨l.toArray⟩)/\(Lib.IsBuilderF 120 5 B b (Lib.byteCells l) w'/\yI B w w'/\Lib.OthersKept 5 (qw b) w w'):=Any.Builder_String_any_k qDj zKb B b l w h a
def Tryz.zSs:Go.Shelf.Ren:=⟨fun|189=>128|125=>180|257=>179|128=>240|129=>241|294=>231|295=>232|296=>233|297=>234|298=>235|299=>236|216=>237|300=>238|301=>239|328=>276|329=>277|330=>278|331=>279|332=>280|215=>206|343=>312|n=>n,fun|28=>23|3=>3|46=>178|0=>0|51=>65|53=>64|4=>4|183=>343|182=>342|131=>347|5=>5|9=>9|218=>385|222=>389|228=>433|229=>246|n=>n,fun|n=>n⟩
theorem Tryz.qDf:Go.Proofs.Lays.n189 yG zSs:={
 mixed:=zf
 f125:=func180.trans (qPs qw zf)
 f128:=func240.trans (qPs qw zf)
 f129:=func241.trans (qPs qw zf)
 f189:=func128.trans (qPs qw zf)
 f215:=func206.trans (qPs qw zf)
 f216:=func237.trans (qPs qw zf)
 f257:=func179.trans (qPs qw zf)
 f294:=func231.trans (qPs qw zf)
 f295:=func232.trans (qPs qw zf)
 f296:=func233.trans (qPs qw zf)
 f297:=func234.trans (qPs qw zf)
 f298:=func235.trans (qPs qw zf)
 f299:=func236.trans (qPs qw zf)
 f300:=func238.trans (qPs qw zf)
 f301:=func239.trans (qPs qw zf)
 f328:=func276.trans (qPs qw zf)
 f329:=func277.trans (qPs qw zf)
 f330:=func278.trans (qPs qw zf)
 f331:=func279.trans (qPs qw zf)
 f332:=func280.trans (qPs qw zf)
 f343:=func312.trans (qPs qw zf)
 t0:=underlying0
 a0:=isAgg0
 z0:=sizeOf0
 v0:=zeroValue0
 t3:=underlying3
 a3:=isAgg3
 z3:=sizeOf3
 v3:=zeroValue3
 t4:=underlying4
 a4:=isAgg4
 z4:=sizeOf4
 v4:=zeroValue4
 t5:=underlying5
 a5:=isAgg5
 z5:=sizeOf5
 v5:=zeroValue5
 t9:=underlying9
 a9:=isAgg9
 z9:=sizeOf9
 v9:=zeroValue9
 t28:=underlying23
 a28:=isAgg23
 z28:=sizeOf23
 v28:=zeroValue23
 t46:=underlying178
 a46:=isAgg178
 z46:=sizeOf178
 v46:=zeroValue178
 t51:=underlying65
 a51:=isAgg65
 z51:=sizeOf65
 v51:=zeroValue65
 t53:=underlying64
 a53:=isAgg64
 z53:=sizeOf64
 v53:=zeroValue64
 t131:=underlying347
 a131:=isAgg347
 z131:=sizeOf347
 v131:=zeroValue347
 t182:=underlying342
 a182:=isAgg342
 z182:=sizeOf342
 v182:=zeroValue342
 t183:=underlying343
 a183:=isAgg343
 z183:=sizeOf343
 v183:=zeroValue343
 t218:=underlying385
 a218:=isAgg385
 z218:=sizeOf385
 v218:=zeroValue385
 t222:=underlying389
 a222:=isAgg389
 z222:=sizeOf389
 v222:=zeroValue389
 t228:=underlying433
 a228:=isAgg433
 z228:=sizeOf433
 v228:=zeroValue433
 t229:=underlying246
 a229:=isAgg246
 z229:=sizeOf246
 v229:=zeroValue246}
open Go.Sort Go.RowKit in
theorem Tryz.slices_Sort_int (a off b:Nat) (zs:List Int) (w:qy) (f:Holds (Value.int qj) w a off zs.toArray) (c:a<w.heap.size) (d:kG zs<4611686018427387904):
  yC yG 128 #[qX (qw ⟨a,off,qx⟩) (kG zs) b] w fun e w'=>
   e=qp (qZ #[])/\∃n os,w'=grow (putRow (Value.int qj) (Sort.ahead w n) a off (zs.mergeSort fun x y=>decide (x<=y)).toArray) os:=Any.slices_Sort_int qDf a off b zs w f c d
def Tryz.zS1:Go.Shelf.Ren:=⟨fun|108=>93|n=>n,fun|28=>23|3=>3|0=>0|4=>4|n=>n,fun|n=>n⟩
theorem Tryz.qDq:Go.Proofs.Lays.n108 yG zS1:={
 mixed:=zf
 f108:=func93.trans (qPs qw zf)
 t0:=underlying0
 a0:=isAgg0
 z0:=sizeOf0
 v0:=zeroValue0
 t3:=underlying3
 a3:=isAgg3
 z3:=sizeOf3
 v3:=zeroValue3
 t4:=underlying4
 a4:=isAgg4
 z4:=sizeOf4
 v4:=zeroValue4
 t28:=underlying23
 a28:=isAgg23
 z28:=sizeOf23
 v28:=zeroValue23}
open Go.Lib in
theorem Tryz.slices_Index_int (b off n c:Nat) (zs:List Int) (x:Int) (w:qy) (f:n<=kG zs) (a:n<=9223372036854775807) (d:∀j,j<kG zs->w.cell? ⟨b,off+j,qx⟩=qw (qV qj (zs.getD j 0))):
  yC yG 93 #[qX (qw ⟨b,off,qx⟩) n c,qV qj x] w fun e w'=>e=qp (qV qj (Lib.idxOf (zs.take n) x))/\w'=w:=Any.slices_Index_int qDq b off n c zs x w f a d
def Tryz.zS0:Go.Shelf.Ren:=⟨fun|113=>125|n=>n,fun|28=>23|3=>3|4=>4|9=>9|20=>20|0=>0|n=>n,fun|n=>n⟩
theorem Tryz.qDp:Go.Proofs.Lays.n113 yG zS0:={
 mixed:=zf
 f113:=func125.trans (qPs qw zf)
 t0:=underlying0
 a0:=isAgg0
 z0:=sizeOf0
 v0:=zeroValue0
 t3:=underlying3
 a3:=isAgg3
 z3:=sizeOf3
 v3:=zeroValue3
 t4:=underlying4
 a4:=isAgg4
 z4:=sizeOf4
 v4:=zeroValue4
 t9:=underlying9
 a9:=isAgg9
 z9:=sizeOf9
 v9:=zeroValue9
 t20:=underlying20
 a20:=isAgg20
 z20:=sizeOf20
 v20:=zeroValue20
 t28:=underlying23
 a28:=isAgg23
 z28:=sizeOf23
 v28:=zeroValue23}
open Go.Lib in
theorem Tryz.slices_Max_int (b off n c:Nat) (zs:List Int) (w:qy) (f:0<n) (g:n<=kG zs) (a:n<=9223372036854775807) (d:∀j,j<kG zs->w.cell? ⟨b,off+j,qx⟩=qw (qV qj (zs.getD j 0))):
  yC yG 125 #[qX (qw ⟨b,off,qx⟩) n c] w fun e w'=>e=qp (qV qj (Lib.maxOf (zs.take n)))/\w'=w:=Any.slices_Max_int qDp b off n c zs w f g a d
def Tryz.zSz:Go.Shelf.Ren:=⟨fun|114=>126|n=>n,fun|28=>23|3=>3|4=>4|9=>9|20=>20|0=>0|n=>n,fun|n=>n⟩
theorem Tryz.qDo:Go.Proofs.Lays.n114 yG zSz:={
 mixed:=zf
 f114:=func126.trans (qPs qw zf)
 t0:=underlying0
 a0:=isAgg0
 z0:=sizeOf0
 v0:=zeroValue0
 t3:=underlying3
 a3:=isAgg3
 z3:=sizeOf3
 v3:=zeroValue3
 t4:=underlying4
 a4:=isAgg4
 z4:=sizeOf4
 v4:=zeroValue4
 t9:=underlying9
 a9:=isAgg9
 z9:=sizeOf9
 v9:=zeroValue9
 t20:=underlying20
 a20:=isAgg20
 z20:=sizeOf20
 v20:=zeroValue20
 t28:=underlying23
 a28:=isAgg23
 z28:=sizeOf23
 v28:=zeroValue23}
open Go.Lib in
theorem Tryz.slices_Min_int (b off n c:Nat) (zs:List Int) (w:qy) (f:0<n) (g:n<=kG zs) (a:n<=9223372036854775807) (d:∀j,j<kG zs->w.cell? ⟨b,off+j,qx⟩=qw (qV qj (zs.getD j 0))):
  yC yG 126 #[qX (qw ⟨b,off,qx⟩) n c] w fun e w'=>e=qp (qV qj (Lib.minOf (zs.take n)))/\w'=w:=Any.slices_Min_int qDo b off n c zs w f g a d
def Tryz.zPi:Go.Shelf.Ren:=⟨fun|15=>101|n=>n,fun|22=>23|3=>3|4=>4|n=>n,fun|n=>n⟩
theorem Tryz.zXm:Go.Proofs.Lays2.n15 yG zPi:={
 mixed:=zf
 f15:=func101.trans (qPs qw zf)
 t3:=underlying3
 a3:=isAgg3
 z3:=sizeOf3
 v3:=zeroValue3
 t4:=underlying4
 a4:=isAgg4
 z4:=sizeOf4
 v4:=zeroValue4
 t22:=underlying23
 a22:=isAgg23
 z22:=sizeOf23
 v22:=zeroValue23
 i3:=by kernel_rfl}
open Go.RowKit Go.Lib in
theorem Tryz.slices_Clone_int (b off n c:Nat) (zs:List Int) (w:qy) (f:n<=kG zs) (a:n*8<=140737488355328) (d:∀j,j<kG zs->w.cell? ⟨b,off+j,qx⟩=qw (qV qj (zs.getD j 0))):
  yC yG 101 #[qX (qw ⟨b,off,qx⟩) n c] w fun e w'=>∃v',e=qp v'/\w'.ownsRow w.heap.size 3 1 v' n ((zs.take n).map (Value.int qj))/\v'≠qX qx 0 0/\yI w.heap.size w w':=Any.slices_Clone_int zXm b off n c zs w f a d
def Tryz.zI1:Go.Shelf.Ren:=⟨fun|20=>281|n=>n,fun|24=>3|22=>23|3=>3|25=>29|4=>4|0=>0|n=>n,fun|n=>n⟩
theorem Tryz.zNl:Go.Proofs.SlLaysF.n20 yG zI1:={
 mixed:=zf
 f20:=⟨f281.name,z8,func281.trans (qPs qw zf)⟩
 t0:=underlying0
 a0:=isAgg0
 z0:=sizeOf0
 v0:=zeroValue0
 t3:=underlying3
 a3:=isAgg3
 z3:=sizeOf3
 v3:=zeroValue3
 t4:=underlying4
 a4:=isAgg4
 z4:=sizeOf4
 v4:=zeroValue4
 t22:=underlying23
 a22:=isAgg23
 z22:=sizeOf23
 v22:=zeroValue23
 a24:=isAgg3
 z24:=sizeOf3
 t25:=underlying29
 a25:=isAgg29
 z25:=sizeOf29
 v25:=zeroValue29}
open Go.RowKit Go.Lib Go.Sort in
theorem Tryz.insertionSortCmpFunc_s {α:Type} [Inhabited α] (enc:α->qz) (i:α->α->Int) (g:Nat) (h:Array qz) (c off j a b:Nat) (f d:Array α) (w0 w:qy) (n:∀args w,(callFunc g args).run yG w= .ok (.enter g args) w) (k:CmpLays1 yG g h enc i c off f.size w0) (R:Row1 enc w0 c off f) (p:f.size=d.size) (S:SW enc w0 c off d w) (l:a<=b) (o:b<=d.size) (m:d.size<4611686018427387904):
  yC yG 281 #[qX (qw ⟨c,off,qx⟩) d.size j,qV qj a,qV qj b,.func (.func g) #[] h] w fun e w'=>e=qp (qZ #[])/\SW enc w0 c off (Sort.insertionSort (ltOf i) d a b) w':=Any.insertionSortCmpFunc_s zNl enc i g h c off j a b f d w0 w n k R p S l o m
end Go.Proofs
end
namespace Go.Proofs.YtppnakkaljbmbaaGreatDoor
namespace St
open Go.Lib Go.Sort Go.Proofs Tn
theorem qGd (x y:Int) (w:qy):yC yG 168 #[qV qj x,qV qj y] w fun e w'=>e=qp (qV qj (Lib.compareInt x y))/\w'=w:=cmp_Compare_int x y w
theorem zKt (r:RK) (i j:Nat) (f:Nat->Nat) (w:qy) (X:r.s.size=r.n) (V:r.n<=1000000) (S:r.m<=2000000) (hi:i<r.n) (R:j<r.n) (I:∀k,k<r.n->w.cell? ⟨r.N,k,qx⟩=qw (qV qj (f k:Int))):
  yC yG 130 #[rv r,qV qj (i:Int),qV qj (j:Int)] w fun e w'=>e=qp (qV qj (cf2 r.n r.m f i j))/\Grn w w':=by
 have G:0<r.n:=za
 obtain⟨B,H⟩:=zB w.heap.size;obtain⟨W,u⟩:=zB ((w.alloc (zNa r)).drew);have q:Grn w W:=by rw[<-u];exact(Grn.alloc w (zNa r)).trans (Grn.drew _)
 have HB:RB W B r:=by rw[<-u,<-H];exact(RB.new w r).grn (Grn.drew _)
 obtain⟨L,N,a,HG,z,F⟩:=yU (fun(k:Nat) (K:k<r.n) (W':qy) (g:Grn W W')=>(q.trans g).cell (I k K)) (fun(k:Nat) (K:k<r.n) (W':qy) (g:Grn W W')=>qGj r k (f ((k+r.m)%r.n)) W' X G V S K ((q.trans g).cell (I _ (qRd _ G)))) HB q hi R;obtain⟨c0,d⟩:=zB (Lib.compareInt (f i:Int) (f j:Int));obtain⟨c1,l⟩:=zB (Lib.compareInt (f ((i+r.m)%r.n):Int) (f ((j+r.m)%r.n):Int));have o:cf2 r.n r.m f i j=if c0=0 then c1 else c0:=by unfold cf2;rw[d,l]
 rw[o];have O:=zH (fun(b:Nat) (w:qy)=>qFh c0 c1 b w);obtain⟨v,hv⟩:=zB ((if c0=0 then c1 else c0));rw[hv]at O⊢;clear hv;have Y:=yP (∀W',yC yG 168 #[qV qj (f i:Int),qV qj (f j:Int)] W' fun e w'=>e=qp (qV qj c0)/\w'=W') (fun W'=>by have h:=qGd (f i) (f j) W';rw[d]at h;exact h);have Z:=yP (∀W',yC yG 168 #[qV qj (f ((i+r.m)%r.n):Int),qV qj (f ((j+r.m)%r.n):Int)] W' fun e w'=>e=qp (qV qj c1)/\w'=W') (fun W'=>by have h:=qGd (f ((i+r.m)%r.n)) (f ((j+r.m)%r.n)) W';rw[l]at h;exact h);have GW:=yP (Grn W (w.alloc (zNa r)).drew) (by rw[u];exact Grn.refl _);have p:=zH H;clear X V S hi R I G q HB H u d l o;unfold rv;go_enter func130,ntmps130;go_wp2;rw[p.out];refine zS [16,17,18,19] (fun W9=>Grn W W9) [0,1,0,6,8,0,32,0,192,256,528,0,0,7168,0,0,57344,73728,132096,393216,1048575] 21<|zu 12 19 (zI i)<|zu 15 22 (zI j)<|zy 11 18 (rv r) (fun w m=>zl 221 3 ((a.out.grn m).ld)) GW.out<|zy 14 21 (rv r) (fun w m=>zl 221 3 ((a.out.grn m).ld)) GW.out<|zp [0,1,2,3,4,5,6,7,8,9]<|zk 7 (zP B 1)<|zt 8 (qX (qw ⟨r.N,0,qx⟩) r.n r.c) ((fun w m=>zl 23 7 ((a.out.grn m).l1)) _ (GW.out))<|zk 9 (zI i)<|zt 10 (qY (qw ⟨r.N,i,qx⟩)) (Kit.zBo (t:=23) (x:=(.tmp 8)) (y:=(.tmp 9)) (g:=r.N) (n:=r.n) (c:=r.c) (k:=i) rfl zf zf z.out underlying23 (fun _=>sizeOf3 _) _)<|zt 11 (qV qj (f i:Int)) ((fun w m=>zl 3 10 (zE4 (L.out i z.out _ m))) _ (GW.out))<|zk 12 (zP B 1)<|zt 13 (qX (qw ⟨r.N,0,qx⟩) r.n r.c) ((fun w m=>zl 23 12 ((a.out.grn m).l1)) _ (GW.out))<|zk 14 (zI j)<|zt 15 (qY (qw ⟨r.N,j,qx⟩)) (Kit.zBo (t:=23) (x:=(.tmp 13)) (y:=(.tmp 14)) (g:=r.N) (n:=r.n) (c:=r.c) (k:=j) rfl zf zf F.out underlying23 (fun _=>sizeOf3 _) _)<|zt 16 (qV qj (f j:Int)) ((fun w m=>zl 3 15 (zE4 (L.out j F.out _ m))) _ (GW.out))<|zn<|zd 10 17 168 #[qV qj (f i:Int),qV qj (f j:Int)] (qV qj c0) (Y.out _)<|zc 13 20 184 #[rv r,qV qj (i:Int)] (qV qj (f ((i+r.m)%r.n):Int)) (N.out i z.out _ GW.out)<| ?_
 refine fun w5 s=>⟨.inr (.inr (GW.out.trans s)),?_⟩;refine zc 16 23 184 #[rv r,qV qj (j:Int)] (qV qj (f ((j+r.m)%r.n):Int)) (N.out j F.out _ (GW.out.trans s))<| ?_
 refine fun M P=>⟨.inr (.inr ((GW.out.trans s).trans P)),?_⟩;refine zd 17 24 168 #[qV qj (f ((i+r.m)%r.n):Int),qV qj (f ((j+r.m)%r.n):Int)] (qV qj c1) (Z.out _)<| ?_
 refine Kit.zLe (w':=M.alloc (qm #[qV qj c0,qV qj c1] 3)) 18 (qw 25) (qX (qw ⟨M.heap.size,0,qx⟩) 2 2) 524287 zf zf rfl rfl zf zf (.inr (.inl zf)) ?_;refine zd 19 26 183 #[qX (qw ⟨M.heap.size,0,qx⟩) 2 2] (qV qj v) (O.out _ _ zm zm)<|zp [20]<|zk 6 (qV qj v)<|zn<|zE<| ?_
 simp only[zP,zI,Act.put,qPz,qPy,qP0];go_wp2;go_ret;exact⟨rfl,(HG.out.trans ((GW.out.trans s).trans P)).trans (Grn.alloc _ _)⟩
end St
namespace St
open Go.Lib Go.Sort Go.Proofs
variable {α:Type} [Inhabited α]
theorem zGv (enc:α->qz) (I:qz) (l off B a b n:Nat) (t d:Array α) (w0 w:qy) (R:Row1 enc w0 l off t) (hs:t.size=d.size) (S:SW enc w0 l off d w) (L:a+n<=b) (hb:b+n<=d.size) (W:d.size<4611686018427387904):
  yC yG 336 #[qX (qw ⟨l,off,qx⟩) d.size B,qV qj (a:Int),qV qj (b:Int),qV qj (n:Int),I] w fun e w'=>e=qp (qZ #[])/\∃d',Swr d a b n d'/\SW enc w0 l off d' w':=by
 have j:=R.hO.cells;simp only[Value.cells]at j;have V:=R.hO.store yG;have S0:Aside (SW enc w0 l off d w):=S;clear S;go_enter func336,ntmps336;go_wp2;go_loopg [10] n (fun K F wr=>∃(i:Nat) (dk:Array α),F=qV qj i/\i<=n/\n-i<=K/\Aside (Swr d a b i dk)/\Aside (SW enc w0 l off dk wr))
 case atStart=>exact⟨0,d,rfl,za,za,Swr.start d a b,S0⟩
 case round=>
  clear S0;obtain⟨i,dk,rfl,N,O,SR,m⟩:=hrel;have M:dk.size=d.size:=SR.out.size;by_cases P:i<n
  ·have X:(i:Int)<(n:Int):=za
   go_wp2_with fail;obtain⟨o,c⟩:∃q,q=a+i:=⟨_,rfl⟩;obtain⟨p,f⟩:∃q,q=b+i:=⟨_,rfl⟩;have G:((a:Int)+(i:Int)).toNat=o:=za
   have pa:(0:Int)<=(a:Int)+(i:Int):=za
   have Y:(a:Int)+(i:Int)<(d.size:Int):=za
   have ra:IntKind.i64.wrap ((a:Int)+(i:Int))=(a:Int)+(i:Int):=by rw[qT7];omega
   have H:((b:Int)+(i:Int)).toNat=p:=za
   have pc:(0:Int)<=(b:Int)+(i:Int):=za
   have Z:(b:Int)+(i:Int)<(d.size:Int):=za
   have rc:IntKind.i64.wrap ((b:Int)+(i:Int))=(b:Int)+(i:Int):=by rw[qT7];omega
   obtain⟨z,h⟩:∃x,x=dk[a+i]! :=⟨_,rfl⟩;obtain⟨r,g⟩:∃x,x=dk[b+i]! :=⟨_,rfl⟩;have s:Aside (SW enc w0 l off (swp dk (a+i) (b+i)) ((wr.setCell ⟨l,off+o,qx⟩ (enc r)).setCell ⟨l,off+p,qx⟩ (enc z)).drew):=by rw[c,f,h,g];exact m.out.swapped R (a+i) (b+i) za za
   have k:Aside (Swr d a b (i+1) (swp dk (a+i) (b+i))):=SR.out.step za za;have c1:=m.out.c1 R za (a+i) za;have c2:=m.out.c1 R za (b+i) za;have u:=m.out.f1 R za (a+i) za;have y:=m.out.f1 R za (b+i) za;obtain⟨u1,c3⟩:=m.out.c2 R za (a+i) (b+i) za za (enc r);rw[<-f,<-c]at c3;rw[<-h,<-c]at c1;rw[<-g,<-f]at c2;rw[<-c]at u;rw[<-f]at y;clear m SR h g c f;go_wp2_with fail;go_big_region;clear c1 c2 c3 u y;generalize ((wr.setCell ⟨l,off+o,qx⟩ (enc r)).setCell ⟨l,off+p,qx⟩ (enc z)).drew=w2 at s⊢;clear G H;go_wp2;go_roundg (n-(i+1))
   case measure=>exact za
   case rel=>exact⟨i+1,swp dk (a+i) (b+i),by go_num,za,qPq _,k,s⟩
  ·obtain rfl:n=i:=za
   go_wp2;go_end0;exact⟨rfl,dk,SR.out,m.out⟩
end St
namespace St
open Go.Lib Go.Sort Go.Proofs
variable {α:Type} [Inhabited α]
theorem zZl (enc:α->qz) (F:qz) (o off B a m b:Nat) (x d:Array α) (w0 w:qy) (R:Row1 enc w0 o off x) (hs:x.size=d.size) (S:SW enc w0 o off d w) (a0:a<m) (a4:m<b) (I:b<=d.size) (a5:d.size<1000000000):
  yC yG 313 #[qX (qw ⟨o,off,qx⟩) d.size B,qV qj (a:Int),qV qj (m:Int),qV qj (b:Int),F] w fun e w'=>e=qp (qZ #[])/\∃d',Rot d a m b d'/\SW enc w0 o off d' w':=by
 have S0:Aside (SW enc w0 o off d w):=S;clear S;obtain⟨y,n⟩:=zB (m-a);obtain⟨z,l⟩:=zB (b-m);have L:Aside (Mid d a m b y z d):=by rw[<-n,<-l];exact Mid.start d za za
 have M:(m:Int)-(a:Int)=(y:Int):=za
 have N:(b:Int)-(m:Int)=(z:Int):=za
 go_enter func313,ntmps313;go_wp2;clear M N;go_loopg [10,11] (y+z) (fun Z O P wr=>∃(i j:Nat) (dk:Array α),O=qV qj i/\P=qV qj j/\0<i/\0<j/\i<=y/\j<=z/\i+j<=Z/\Aside (Mid d a m b i j dk)/\Aside (SW enc w0 o off dk wr))
 case atStart=>exact⟨y,z,d,rfl,rfl,za,za,za,za,za,L,S0⟩
 case round=>
  clear S0 L;obtain⟨i,j,dk,rfl,rfl,hi,hj,a1,a2,a3,t,u⟩:=hrel;have g:dk.size=d.size:=t.out.perm.1;obtain⟨p,K⟩:=zB (m-i);have M:(m:Int)-(i:Int)=(p:Int):=za
  by_cases hne:i=j
  ·subst hne;have Y:((i:Int)!=(i:Int))=yE:=by simp
   have r:=zH (zGv enc F o off B p m i x dk w0 wr R za u.out za za za);rw[g]at r;go_wp2_with fail;(with_reducible refine r.out.mono ?_);rintro e w2 ⟨rfl,s,c,f⟩;have W:Rot d a m b s:=t.out.last za za za I (by rw[K];exact c);clear t r u c;go_wp2;go_end0;exact⟨rfl,s,W,f⟩
  ·have Y:((i:Int)!=(j:Int))=yD:=zq
   by_cases h:j<i
   ·have k:decide ((j:Int)<(i:Int))=yD:=qP9 za;have r:=zH (zGv enc F o off B p m j x dk w0 wr R za u.out za za za);rw[g]at r;go_wp2_with fail;(with_reducible refine r.out.mono ?_);rintro e w2 ⟨rfl,s,c,f⟩;have G:Aside (Mid d a m b (i-j) j s):=t.out.more za za za I h (by rw[K];exact c);have H:Aside (SW enc w0 o off s w2):=f;have V:(i:Int)-(j:Int)=((i-j:Nat):Int):=za
    clear t r u c f;go_wp2;go_roundg (i-j+j)
    case measure=>exact za
    case rel=>exact⟨i-j,j,s,rfl,rfl,za,za,za,za,za,G,H⟩
   ·have k:decide ((j:Int)<(i:Int))=yE:=qP1 za;obtain⟨q,X⟩:=zB (m+j-i);have N:(m:Int)+(j:Int)-(i:Int)=(q:Int):=za
    have r:=zH (zGv enc F o off B p q i x dk w0 wr R za u.out za za za);rw[g]at r;go_wp2_with fail;(with_reducible refine r.out.mono ?_);rintro e w2 ⟨rfl,s,c,f⟩;have G:Aside (Mid d a m b i (j-i) s):=t.out.less za za za I za (by rw[K,X];exact c);have H:Aside (SW enc w0 o off s w2):=f;have V:(j:Int)-(i:Int)=((j-i:Nat):Int):=za
    clear t r u c f;go_wp2;go_roundg (i+(j-i))
    case measure=>exact za
    case rel=>exact⟨i,j-i,s,rfl,rfl,za,za,za,za,za,G,H⟩
end St
namespace St
open Go.Lib Go.Sort Go.Proofs
variable {α:Type} [Inhabited α]
theorem zXk {lt t:α->α->Bool} {I:α->Nat} (h:Ord lt t I) {d:Array α} {a b c q:Nat} (g:Pre t I a (a+1) b d) (k:a+1<=c) (i:c<b) (f:lt d[c]! d[a]! =yD) (j:a+1<=q) (l:q<=c):lt d[q]! d[a]! =yD:=by
 by_cases e:q=c
 ·subst e;exact f
 ·rw[h.ask _ _ (g.i a q (qPq _) za j za)];rw[h.ask _ _ (g.i a c (qPq _) za k i)]at f;cases e2:t d[q]! d[a]! with
  |true=>rfl
  |false=>
   have:=h.swo.ntrans _ _ _ (g.r q c j za i) e2;rw[this]at f;cases f
theorem zGw {lt t:α->α->Bool} {I:α->Nat} (h:Ord lt t I) {d:Array α} {a m b q:Nat} (c:Pre t I a m (m+1) d) (j:a<=b) (g:b<m) (f:lt d[m]! d[b]! =yE) (i:a<=q) (k:q<=b):lt d[m]! d[q]! =yE:=by
 by_cases e:q=b
 ·subst e;exact f
 ·rw[h.ask _ _ (c.i q m i za (qPq _) za)];rw[h.ask _ _ (c.i b m j g (qPq _) za)]at f;exact h.swo.ntrans _ _ _ f (c.l q b i za g)
theorem zWn (enc:α->qz) (G:α->α->Int) {t:α->α->Bool} {I:α->Nat} (ho:Ord (ltOf G) t I) (g:Nat) (cb:Array qz) (z off a0 a b:Nat) (P d:Array α) (w0 w:qy) (eg:∀args w,(callFunc g args).run yG w= .ok (.enter g args) w)
  (Y:CmpLays1 yG g cb enc G z off P.size w0) (R:Row1 enc w0 z off P) (hs:P.size=d.size) (S:SW enc w0 z off d w) (a8:a+1<b) (hb:b<=d.size) (ag:d.size<1000000000) (hp:Pre t I a (a+1) b d):
  yC yG 282 #[qX (qw ⟨z,off,qx⟩) d.size a0,qV qj (a:Int),qV qj ((a+1:Nat):Int),qV qj (b:Int),.func (.func g) #[] cb] w fun e w'=>e=qp (qZ #[])/\∃d',(PermIn a b d d'/\SortedIn t a b d')/\SW enc w0 z off d' w':=by
 have p:=R.hO.cells;simp only[Value.cells]at p;have af:=R.hO.store yG;have a4:prog.follows .mixedOrders=yD:=zf
 have S0:Aside (SW enc w0 z off d w):=S;obtain⟨HC,HP,HO⟩:=yR Y hp ho;obtain⟨m,V⟩:=zB (a+1);have z1:(((m:Int)-(a:Int))==1)=yD:=zq
 have HM:=zH V;clear S Y hp ho;rw[V];have ae:a<m:=za
 have a7:m<=a+1:=za
 clear V;go_enter func282,ntmps282;go_wp2;clear z1;go_loopg [10,11] (b-m) (fun X a1 a2 wr=>∃(i j:Nat),a1=qV qj i/\a2=qV qj j/\m<=i/\i<=j/\j<=b/\j-i<=X/\Aside (∀q,a+1<=q->q<i->(ltOf G) d[q]! d[a]! =yD)/\Aside (j<b->(ltOf G) d[j]! d[a]! =yE)/\Aside (SW enc w0 z off d wr))
 case atStart=>exact⟨m,b,rfl,rfl,za,za,za,za,fun q h1 h2=>za,fun h=>za,S0⟩
 case round=>
  clear S0;obtain⟨i,j,rfl,rfl,hi,B,ab,o,Z,H2,y⟩:=hrel;by_cases ad:i<j
  ·have ah:(i:Int)<(j:Int):=za
   obtain⟨h,hh⟩:=zB ((i+j)/2);have eh:((i:Int)+(j:Int))/2=(h:Int):=za
   have aa:(h:Int)<(d.size:Int):=za
   have a5:(a:Int)<(d.size:Int):=za
   obtain⟨L,f⟩:∃x,x=d[h]! :=⟨_,rfl⟩;obtain⟨H,c⟩:∃x,x=d[a]! :=⟨_,rfl⟩;have l1:=y.out.cl R za h za;have l2:=y.out.cl R za a za;rw[<-f]at l1;rw[<-c]at l2;have N:=y.out.cmp HC.out za L H;cases hlv:(ltOf G) d[h]! d[a]! with
   |true=>
    have hv:G L H<0:=by rw[f,c];exact qTj hlv
    have hd:decide (G L H<0)=yD:=qP9 hv;have O:Aside (∀q,a+1<=q->q<h+1->(ltOf G) d[q]! d[a]! =yD):=fun q h1 h2=>zXk HO.out HP.out za za hlv h1 za;clear f c hlv hh;go_wp2_with fail;go_quiet_grown (first|(go_at_fn g;refine Calls.grown_of (N _ _)));have K:Aside (SW enc w0 z off d (grow (wr.drewN nq) osq)):=y.out.grown nq osq;clear l1 l2 N y;generalize grow (wr.drewN nq) osq=w2 at K⊢;clear nq osq;go_wp2;go_roundg (j-(h+1))
    case measure=>exact za
    case rel=>exact⟨h+1,j,by go_num,rfl,za,za,za,za,O,H2,K⟩
   |false=>
    have hv:¬G L H<0:=by rw[f,c];exact of_decide_eq_false hlv
    have hd:decide (G L H<0)=yE:=qP1 hv;have O:Aside (h<b->(ltOf G) d[h]! d[a]! =yE):=fun _=>hlv;clear f c hlv hh;go_wp2_with fail;go_quiet_grown (first|(go_at_fn g;refine Calls.grown_of (N _ _)));have K:Aside (SW enc w0 z off d (grow (wr.drewN nq) osq)):=y.out.grown nq osq;clear l1 l2 N y;generalize grow (wr.drewN nq) osq=w2 at K⊢;clear nq osq;go_wp2;go_roundg (h-i)
    case measure=>exact za
    case rel=>exact⟨i,h,rfl,rfl,za,za,za,za,Z,O,K⟩
  ·obtain rfl:i=j:=za
   clear B o;go_wp2;go_loopg [13] (i-a) (fun X a3 wr=>∃(k:Nat) (dk:Array α),a3=qV qj k/\a<=k/\k+1<=i/\i-k<=X/\Aside (Shl d a k dk)/\Aside (SW enc w0 z off dk wr))
   case atStart=>exact⟨a,d,rfl,za,za,za,Shl.start d a,y⟩
   case round=>
    clear y;obtain⟨k,dk,rfl,u,ac,o,M,y⟩:=hrel;have a9:dk.size=d.size:=M.out.perm.1;by_cases a6:k+1<i
    ·have r:decide ((k:Int)<(i:Int)-1)=yD:=qP9 za;have s:(k:Int)<(i:Int)-1:=za
     go_wp2_with fail;obtain⟨W,l⟩:∃q,q=k+1:=⟨_,rfl⟩;have ea:((k:Int)+1).toNat=W:=za
     have pa:(0:Int)<=(k:Int)+1:=za
     have ba:(k:Int)+1<(d.size:Int):=za
     have bk:(k:Int)<(d.size:Int):=za
     have ra:IntKind.i64.wrap ((k:Int)+1)=(k:Int)+1:=by rw[qT7];omega
     obtain⟨L,f⟩:∃x,x=dk[k]! :=⟨_,rfl⟩;obtain⟨H,c⟩:∃x,x=dk[k+1]! :=⟨_,rfl⟩;have K:Aside (SW enc w0 z off (swp dk k (k+1)) ((wr.setCell ⟨z,off+k,qx⟩ (enc H)).setCell ⟨z,off+W,qx⟩ (enc L)).drew):=by rw[l,f,c];exact y.out.swapped R k (k+1) za za
     have F:Aside (Shl d a (k+1) (swp dk k (k+1))):=M.out.step u za;have c1:=y.out.c1 R za k za;have c2:=y.out.c1 R za (k+1) za;have f1:=y.out.f1 R za k za;have f2:=y.out.f1 R za (k+1) za;obtain⟨u1,c3⟩:=y.out.c2 R za k (k+1) za za (enc H);rw[<-l]at c3;rw[<-f]at c1;rw[<-c,<-l]at c2;rw[<-l]at f2;clear y M f c l;go_wp2_with fail;go_big_region;clear c1 c2 c3 f1 f2;generalize ((wr.setCell ⟨z,off+k,qx⟩ (enc H)).setCell ⟨z,off+W,qx⟩ (enc L)).drew=w2 at K⊢;clear ea;go_wp2;go_roundg (i-(k+1))
     case measure=>exact za
     case rel=>exact⟨k+1,swp dk k (k+1),by go_num,za,za,za,F,K⟩
    ·obtain rfl:i=k+1:=za
     have r:decide ((k:Int)<((k+1:Nat):Int)-1)=yE:=qP1 za;have s:¬(k:Int)<((k+1:Nat):Int)-1:=za
     have n:=zZ9 HO.out HP.out (i:=k+1) za za hb Z.out H2.out (by rw[qSs];exact M.out);have HF:=zH n;clear n;go_wp2
     try simp only[Exit.inBlock,Exit.then]
     refine qP5 (v:=qZ #[]) zf rfl ?_;exact⟨rfl,dk,HF.out,y.out⟩
end St
namespace St
open Go.Lib Go.Sort Go.Proofs
variable {α:Type} [Inhabited α]
theorem zUk (enc:α->qz) (H:α->α->Int) {t:α->α->Bool} {I:α->Nat} (ho:Ord (ltOf H) t I) (g:Nat) (cb:Array qz) (G off a0 a m:Nat) (V d:Array α) (w0 w:qy) (eg:∀args w,(callFunc g args).run yG w= .ok (.enter g args) w)
  (Y:CmpLays1 yG g cb enc H G off V.size w0) (R:Row1 enc w0 G off V) (hs:V.size=d.size) (S:SW enc w0 G off d w) (a8:a+1<m) (hb:m<d.size) (ag:d.size<1000000000) (hp:Pre t I a m (m+1) d):
  yC yG 282 #[qX (qw ⟨G,off,qx⟩) d.size a0,qV qj (a:Int),qV qj (m:Int),qV qj ((m+1:Nat):Int),.func (.func g) #[] cb] w fun e w'=>e=qp (qZ #[])/\∃d',(PermIn a (m+1) d d'/\SortedIn t a (m+1) d')/\SW enc w0 G off d' w':=by
 have r:=R.hO.cells;simp only[Value.cells]at r;have af:=R.hO.store yG;have a4:prog.follows .mixedOrders=yD:=zf
 have S0:Aside (SW enc w0 G off d w):=S;obtain⟨HC,HP,HO⟩:=yR Y hp ho;obtain⟨b,o⟩:=zB (m+1);have z1:(((m:Int)-(a:Int))==1)=yE:=by rw[qSc];omega
 have z2:(((b:Int)-(m:Int))==1)=yD:=zq
 clear S Y hp ho;rw[o];have HB:=zH o;have ae:m<b:=za
 have a7:b<=m+1:=za
 clear o;go_enter func282,ntmps282;go_wp2;clear z1 z2;go_loopg [14,15] (m-a) (fun X a1 a2 wr=>∃(i j:Nat),a1=qV qj i/\a2=qV qj j/\a<=i/\i<=j/\j<=m/\j-i<=X/\Aside (∀q,a<=q->q<i->(ltOf H) d[m]! d[q]! =yE)/\Aside (j<m->(ltOf H) d[m]! d[j]! =yD)/\Aside (SW enc w0 G off d wr))
 case atStart=>exact⟨a,m,rfl,rfl,za,za,za,za,fun q h1 h2=>za,fun h=>za,S0⟩
 case round=>
  clear S0;obtain⟨i,j,rfl,rfl,hi,B,ac,p,Z,H2,z⟩:=hrel;by_cases ad:i<j
  ·have ah:(i:Int)<(j:Int):=za
   obtain⟨h,hh⟩:=zB ((i+j)/2);have eh:((i:Int)+(j:Int))/2=(h:Int):=za
   have ab:(h:Int)<(d.size:Int):=za
   have a5:(m:Int)<(d.size:Int):=za
   obtain⟨M,f⟩:∃x,x=d[m]! :=⟨_,rfl⟩;obtain⟨K,c⟩:∃x,x=d[h]! :=⟨_,rfl⟩;have l1:=z.out.cl R za m za;have l2:=z.out.cl R za h za;rw[<-f]at l1;rw[<-c]at l2;have O:=z.out.cmp HC.out za M K;cases hlv:(ltOf H) d[m]! d[h]! with
   |false=>
    have hv:¬H M K<0:=by rw[f,c];exact of_decide_eq_false hlv
    have hd:decide (H M K<0)=yE:=qP1 hv;have P:Aside (∀q,a<=q->q<h+1->(ltOf H) d[m]! d[q]! =yE):=fun q h1 h2=>zGw HO.out HP.out za za hlv h1 za;clear f c hlv hh;go_wp2_with fail;go_quiet_grown (first|(go_at_fn g;refine Calls.grown_of (O _ _)));have L:Aside (SW enc w0 G off d (grow (wr.drewN nq) osq)):=z.out.grown nq osq;clear l1 l2 O z;generalize grow (wr.drewN nq) osq=w2 at L⊢;clear nq osq;go_wp2;go_roundg (j-(h+1))
    case measure=>exact za
    case rel=>exact⟨h+1,j,by go_num,rfl,za,za,za,za,P,H2,L⟩
   |true=>
    have hv:H M K<0:=by rw[f,c];exact qTj hlv
    have hd:decide (H M K<0)=yD:=qP9 hv;have P:Aside (h<m->(ltOf H) d[m]! d[h]! =yD):=fun _=>hlv;clear f c hlv hh;go_wp2_with fail;go_quiet_grown (first|(go_at_fn g;refine Calls.grown_of (O _ _)));have L:Aside (SW enc w0 G off d (grow (wr.drewN nq) osq)):=z.out.grown nq osq;clear l1 l2 O z;generalize grow (wr.drewN nq) osq=w2 at L⊢;clear nq osq;go_wp2;go_roundg (h-i)
    case measure=>exact za
    case rel=>exact⟨i,h,rfl,rfl,za,za,za,za,Z,P,L⟩
  ·obtain rfl:i=j:=za
   clear B p;go_wp2;go_loopg [17] (m-i) (fun X a3 wr=>∃(k:Nat) (dk:Array α),a3=qV qj k/\i<=k/\k<=m/\k-i<=X/\Aside (Shr d m k dk)/\Aside (SW enc w0 G off dk wr))
   case atStart=>exact⟨m,d,rfl,za,za,za,Shr.start d m,z⟩
   case round=>
    clear z;obtain⟨k,dk,rfl,a9,u,p,N,z⟩:=hrel;have aa:dk.size=d.size:=N.out.perm.1;by_cases a6:i<k
    ·obtain⟨y,rfl⟩:∃y,k=y+1:=⟨k-1,za⟩;have s:decide ((i:Int)<((y+1:Nat):Int))=yD:=qP9 za;go_wp2_with fail;obtain⟨W,l⟩:∃q,q=y+1:=⟨_,rfl⟩;have ea:((y:Int)+1).toNat=W:=za
     have eb:((y:Int)+1-1)=(y:Int):=za
     have pa:(0:Int)<=(y:Int)+1:=za
     have ba:(y:Int)+1<(d.size:Int):=za
     have bk:(y:Int)<(d.size:Int):=za
     have ra:IntKind.i64.wrap ((y:Int)+1)=(y:Int)+1:=by rw[qT7];omega
     obtain⟨M,f⟩:∃x,x=dk[y+1]! :=⟨_,rfl⟩;obtain⟨K,c⟩:∃x,x=dk[y]! :=⟨_,rfl⟩;have L:Aside (SW enc w0 G off (swp dk (y+1) y) ((wr.setCell ⟨G,off+W,qx⟩ (enc K)).setCell ⟨G,off+y,qx⟩ (enc M)).drew):=by rw[l,f,c];exact z.out.swapped R (y+1) y za za
     have F:Aside (Shr d m y (swp dk (y+1) y)):=N.out.step u za;have c1:=z.out.c1 R za (y+1) za;have c2:=z.out.c1 R za y za;have f1:=z.out.f1 R za (y+1) za;have f2:=z.out.f1 R za y za;obtain⟨u1,c3⟩:=z.out.c2 R za (y+1) y za za (enc K);rw[<-l]at c3;rw[<-f,<-l]at c1;rw[<-c]at c2;rw[<-l]at f1;clear z N f c l;go_wp2_with fail;go_big_region;clear c1 c2 c3 f1 f2;generalize ((wr.setCell ⟨G,off+W,qx⟩ (enc K)).setCell ⟨G,off+y,qx⟩ (enc M)).drew=w2 at L⊢;clear ea;go_wp2;go_roundg (y-i)
     case measure=>exact za
     case rel=>exact⟨y,swp dk (y+1) y,rfl,za,za,za,F,L⟩
    ·obtain rfl:k=i:=za
     have s:decide ((k:Int)<(k:Int))=yE:=qP1 za;have n:=zXd HO.out HP.out (i:=k) za za hb Z.out H2.out N.out;rw[HB.out]at n;have HF:=zH n;clear n;go_wp2
     try simp only[Exit.inBlock,Exit.then]
     refine qP5 (v:=qZ #[]) zf rfl ?_;exact⟨rfl,dk,HF.out,z.out⟩
end St
namespace St
open Go.Lib Go.Sort Go.Proofs
variable {α:Type} [Inhabited α]
def qBs (enc:α->qz) (t:α->α->Bool) (I:α->Nat) (g:Nat) (h:Array qz) (c off f:Nat) (i:Array α) (w0:qy) (a m b:Nat):Prop:=
 ∀(d:Array α) (w:qy),i.size=d.size->SW enc w0 c off d w->b<=d.size->Pre t I a m b d->
  yC yG 282 #[qX (qw ⟨c,off,qx⟩) d.size f,qV qj (a:Int),qV qj (m:Int),qV qj (b:Int),.func (.func g) #[] h] w fun e w'=>e=qp (qZ #[])/\∃d',(PermIn a b d d'/\SortedIn t a b d')/\SW enc w0 c off d' w'
theorem zWm (enc:α->qz) (y:α->α->Int) {t:α->α->Bool} {I:α->Nat} (ho:Ord (ltOf y) t I) (g:Nat) (cb:Array qz) (a0 off a3 a m b:Nat) (d0:Array α) (w0:qy) (eg:∀args w,(callFunc g args).run yG w= .ok (.enter g args) w)
  (a5:CmpLays1 yG g cb enc y a0 off d0.size w0) (R:Row1 enc w0 a0 off d0) (a9:a+1<m) (ah:m+1<b) (ao:d0.size<1000000000)
  (ih:∀a' m' b',b'-a'<b-a->a'<m'->m'<b'->qBs enc t I g cb a0 off a3 d0 w0 a' m' b'):qBs enc t I g cb a0 off a3 d0 w0 a m b:=by
 intro d w hs S hb hp;have N:=R.hO.cells;simp only[Value.cells]at N;have an:=R.hO.store yG;have a6:prog.follows .mixedOrders=yD:=zf
 have S0:Aside (SW enc w0 a0 off d w):=S;obtain⟨HC,HP,HO,IH⟩:=yS a5 hp ho ih;have Z:d.size<1000000000:=za
 have z1:(((m:Int)-(a:Int))==1)=yE:=by rw[qSc];omega
 have z2:(((b:Int)-(m:Int))==1)=yE:=by rw[qSc];omega
 obtain⟨mid,M⟩:=zB ((a+b)/2);have ez:((a:Int)+(b:Int))/2=(mid:Int):=za
 have af:a+b<=2*mid+1:=za
 have ag:2*mid<=a+b:=za
 clear S a5 hp ho ih M;go_enter func282,ntmps282;go_upto_if 140 with fail;clear z1 z2 ez;go_cut [20,21] (fun a1 a4 wx=>∃lo hi:Nat,a1=qV qj lo/\a4=qV qj hi/\a<=lo/\lo<=hi/\hi<=m/\hi<=mid/\mid+m<=b+lo/\(a<lo->mid+m=b+lo)/\(hi<m->hi=mid)/\w=wx)
 case first=>
  by_cases ai:mid<m
  ·have hz:decide ((mid:Int)<(m:Int))=yD:=qP9 za;obtain⟨lo,ac⟩:=zB (mid+m-b);have e1:(mid:Int)+(m:Int)-(b:Int)=(lo:Int):=za
   go_wp2;go_meet;exact⟨lo,mid,rfl,rfl,za,za,za,za,za,za,za,rfl⟩
  ·have hz:decide ((mid:Int)<(m:Int))=yE:=qP1 za;go_wp2;go_meet;exact⟨a,m,rfl,rfl,za,za,za,za,za,za,za,rfl⟩
 case rest=>
  obtain⟨lo,hi,rfl,rfl,k1,k2,k3,k4,k5,k6,k7,rfl⟩:=hcut;go_wp2;go_loopg [20,21] (hi-lo) (fun kx a1 a4 wr=>∃(s r:Nat),a1=qV qj s/\a4=qV qj r/\lo<=s/\s<=r/\r<=hi/\r-s<=kx/\Aside (lo<s->(ltOf y) d[mid+m-s]! d[s-1]! =yE)/\Aside (r<hi->(ltOf y) d[mid+m-1-r]! d[r]! =yD)/\Aside (SW enc w0 a0 off d wr))
  case atStart=>exact⟨lo,hi,rfl,rfl,za,za,za,za,fun h=>za,fun h=>za,S0⟩
  case round=>
   clear S0;obtain⟨s,r,rfl,rfl,ad,am,ak,ab,H1,H2,q⟩:=hrel;by_cases ae:s<r
   ·have F:(s:Int)<(r:Int):=za
    obtain⟨c,K⟩:=zB ((s+r)/2);have ec:((s:Int)+(r:Int))/2=(c:Int):=za
    obtain⟨p,H⟩:=zB (mid+m-1-c);have ep:(mid:Int)+(m:Int)-1-(c:Int)=(p:Int):=za
    have rp:IntKind.i64.wrap (p:Int)=(p:Int):=by rw[qT7];omega
    have aa:(c:Int)<(d.size:Int):=za
    have aj:(p:Int)<(d.size:Int):=za
    obtain⟨x1,n⟩:∃x,x=d[p]! :=⟨_,rfl⟩;obtain⟨y1,l⟩:∃x,x=d[c]! :=⟨_,rfl⟩;have l1:=q.out.cl R za p za;have l2:=q.out.cl R za c za;rw[<-n]at l1;rw[<-l]at l2;have hc:=q.out.cmp HC.out za x1 y1;cases hlv:(ltOf y) d[p]! d[c]! with
    |false=>as_aux_lemma=>
     have hv:¬y x1 y1<0:=by rw[n,l];exact of_decide_eq_false hlv
     have hd:decide (y x1 y1<0)=yE:=qP1 hv;have H3:Aside (lo<c+1->(ltOf y) d[mid+m-(c+1)]! d[c+1-1]! =yE):=fun _=>by
      rw[show mid+m-(c+1)=p by omega,qSs];exact hlv
     have X:s<=c:=za
     have Y:c<r:=za
     clear n l hlv K H;go_wp2_with fail;go_quiet_grown (first|(go_at_fn g;refine Calls.grown_of (hc _ _)));have S2:Aside (SW enc w0 a0 off d (grow (wr.drewN nq) osq)):=q.out.grown nq osq;clear l1 l2 hc q;generalize grow (wr.drewN nq) osq=w2 at S2⊢;clear nq osq ep;go_wp2;go_roundg (r-(c+1))
     case measure=>exact za
     case rel=>exact⟨c+1,r,by go_num,rfl,za,za,za,za,H3,H2,S2⟩
    |true=>as_aux_lemma=>
     have hv:y x1 y1<0:=by rw[n,l];exact qTj hlv
     have hd:decide (y x1 y1<0)=yD:=qP9 hv;have H3:Aside (c<hi->(ltOf y) d[mid+m-1-c]! d[c]! =yD):=fun _=>by
      rw[H];exact hlv
     have X:s<=c:=za
     have Y:c<r:=za
     clear n l hlv K H;go_wp2_with fail;go_quiet_grown (first|(go_at_fn g;refine Calls.grown_of (hc _ _)));have S2:Aside (SW enc w0 a0 off d (grow (wr.drewN nq) osq)):=q.out.grown nq osq;clear l1 l2 hc q;generalize grow (wr.drewN nq) osq=w2 at S2⊢;clear nq osq ep;go_wp2;go_roundg (c-s)
     case measure=>exact za
     case rel=>exact⟨s,c,rfl,rfl,za,za,za,za,H1,H3,S2⟩
   ·obtain rfl:s=r:=za
    obtain⟨e,he⟩:=zB (mid+m-s);have ee:(mid:Int)+(m:Int)-(s:Int)=(e:Int):=za
    have F1:=yP (a<s->e<b->(ltOf y) d[e]! d[s-1]! =yE) (fun h1 h2=>by
     have h3:=H1.out za;rwa[he]at h3)
    have F2:=yP (s<m->m<e->(ltOf y) d[e-1]! d[s]! =yD) (fun h1 h2=>by
     have h3:=H2.out za;rwa[show mid+m-1-s=e-1 by omega]at h3)
    have g1:a<=s:=za
    have g2:s<=m:=za
    have g3:m<=e:=za
    have g4:e<=b:=za
    have g5:s+e=mid+m:=za
    have g6:s<=mid:=za
    have g7:mid<=e:=za
    clear H1 H2 he;go_upto_region 38 with fail;go_cut [20,24] (fun a1 a2 wx=>a1=qV qj s/\a2=qV qj e/\wr=wx)
    case first=>
     go_wp2;go_meet;exact⟨rfl,rfl,rfl⟩
    case rest=>
     obtain⟨rfl,rfl,rfl⟩:=hcut
     apply_assumption
     apply wp_seq_k;intro K2 a7;go_cut [20,24] (fun a1 a2 wx=>a1=qV qj s/\a2=qV qj e/\∃d1,Aside (Rot d s m e d1)/\Aside (SW enc w0 a0 off d1 wx))
     case first=>as_aux_lemma=>
      by_cases q1:s<m
      ·by_cases q2:m<e
       ·have b1:decide ((s:Int)<(m:Int))=yD:=qP9 za;have b2:decide ((m:Int)<(e:Int))=yD:=qP9 za;have HR:=zH (zZl enc (.func (.func g) #[] cb) a0 off a3 s m e d0 d w0 wr R hs q.out za za za Z);go_wp2_with fail;(with_reducible refine HR.out.mono ?_);rintro e' w2 ⟨rfl,z,L,B⟩;go_wp2;go_meet;exact⟨rfl,rfl,z,L,B⟩
       ·have b1:decide ((s:Int)<(m:Int))=yD:=qP9 za;have b2:decide ((m:Int)<(e:Int))=yE:=qP1 za;go_wp2;go_meet;exact⟨rfl,rfl,d,Rot.none d za za za,q.out⟩
      ·have b1:decide ((s:Int)<(m:Int))=yE:=qP1 za;go_wp2;go_meet;exact⟨rfl,rfl,d,Rot.none d za za za,q.out⟩
     case rest=>
      obtain⟨rfl,rfl,d1,G,q⟩:=hcut;obtain⟨W,rfl⟩:∃wo,wo=wc:=⟨_,rfl⟩;have F:d1.size=d.size:=G.out.perm.1;have HF:=zH (half HO.out HP.out g1 g2 g3 g4 hb g5 F1.out F2.out G.out)
      apply_assumption
      apply wp_seq_k;intro K3 a8;go_cut [20,24] (fun a1 a2 wx=>a1=qV qj s/\a2=qV qj e/\∃z,Aside (PermIn a mid d1 z/\SortedIn t a mid z)/\Aside (SW enc w0 a0 off z wx))
      case first=>as_aux_lemma=>
       by_cases q1:a<s
       ·by_cases q2:s<mid
        ·have b1:decide ((a:Int)<(s:Int))=yD:=qP9 za;have b2:decide ((s:Int)<(mid:Int))=yD:=qP9 za;have HR:=zH (IH.out a s mid za za za d1 W za q.out za HF.out.one);rw[F]at HR;go_wp2_with fail;(with_reducible refine HR.out.mono ?_);rintro e' w2 ⟨rfl,z,u,B⟩;go_wp2;go_meet;exact⟨rfl,rfl,z,u,B⟩
        ·have b1:decide ((a:Int)<(s:Int))=yD:=qP9 za;have b2:decide ((s:Int)<(mid:Int))=yE:=qP1 za;go_wp2;go_meet;exact⟨rfl,rfl,d1,⟨permIn_refl _ _ _,HF.out.one.done za⟩,q.out⟩
       ·have b1:decide ((a:Int)<(s:Int))=yE:=qP1 za;go_wp2;go_meet;exact⟨rfl,rfl,d1,⟨permIn_refl _ _ _,HF.out.one.done za⟩,q.out⟩
      case rest=>
       obtain⟨rfl,rfl,z,k,S2⟩:=hcut;obtain⟨V,rfl⟩:∃wo,wo=wc:=⟨_,rfl⟩;have P:z.size=d.size:=k.out.1.1.trans F;have j:=zH (HF.out.first za za za g7 k.out.1);have f:=yP (∀d3,PermIn mid b z d3->PermIn a b d d3) (fun d3 h3=>
        permIn_trans _ _ _ _ _ (permIn_trans _ _ _ _ _ (permIn_mono _ _ _ _ _ _ g1 g4 hb G.out.perm) (permIn_mono _ _ _ _ _ _ (qPq _) za za k.out.1)) (permIn_mono _ _ _ _ _ _ za (qPq _) za h3))
       as_aux_lemma=>
       by_cases q1:mid<e
       ·by_cases q2:e<b
        ·have b1:decide ((mid:Int)<(e:Int))=yD:=qP9 za;have b2:decide ((e:Int)<(b:Int))=yD:=qP9 za;have HR:=zH (IH.out mid e b za za za z V za S2.out za j.out.1);rw[P]at HR;go_wp2_with fail;(with_reducible refine HR.out.mono ?_);rintro e' w2 ⟨rfl,d3,u,O⟩;have i:=both za za za k.out.2 j.out.2 u.1 u.2;obtain⟨o,f⟩:=yQ i (f.out _ u.1);go_wp2;go_end0;exact⟨rfl,d3,⟨f.out,o.out⟩,O⟩
        ·have b1:decide ((mid:Int)<(e:Int))=yD:=qP9 za;have b2:decide ((e:Int)<(b:Int))=yE:=qP1 za;have i:=both za za za k.out.2 j.out.2 (permIn_refl _ _ _) (j.out.1.done za);obtain⟨o,f⟩:=yQ i (f.out _ (permIn_refl _ _ _));go_wp2;go_end0;exact⟨rfl,z,⟨f.out,o.out⟩,S2.out⟩
       ·have b1:decide ((mid:Int)<(e:Int))=yE:=qP1 za;have i:=both za za za k.out.2 j.out.2 (permIn_refl _ _ _) (j.out.1.done za);obtain⟨o,f⟩:=yQ i (f.out _ (permIn_refl _ _ _));go_wp2;go_end0;exact⟨rfl,z,⟨f.out,o.out⟩,S2.out⟩
end St
namespace St
open Go.Lib Go.Sort Go.Proofs
variable {α:Type} [Inhabited α]
theorem zUj (enc:α->qz) (h:α->α->Int) {t:α->α->Bool} {I:α->Nat} (n:Ord (ltOf h) t I) (g:Nat) (f:Array qz) (e off i:Nat) (c:Array α) (w0:qy) (l:∀args w,(callFunc g args).run yG w= .ok (.enter g args) w)
  (j:CmpLays1 yG g f enc h e off c.size w0) (R:Row1 enc w0 e off c) (q:c.size<1000000000):
  ∀(k a m b:Nat),b-a<=k->a<m->m<b->qBs enc t I g f e off i c w0 a m b
 |0,a,m,b,hk,h1,h2=>za
 |k+1,a,m,b,hk,h1,h2=>by
  by_cases s:m=a+1
  ·subst s;intro d w p S r o;exact zWn enc h n g f e off i a b c d w0 w l j R p S h2 r za o
  ·by_cases u:b=m+1
   ·subst u;intro d w p S r o;exact zUk enc h n g f e off i a m c d w0 w l j R p S za za za o
   ·exact zWm enc h n g f e off i a m b c w0 l j R za za q (fun a' m' b' z x y=>zUj enc h n g f e off i c w0 l j R q k a' m' b' za x y)
end St
end Go.Proofs.YtppnakkaljbmbaaGreatDoor
