/- Steps of a proof; no condition beyond what each states. -/
import Derived.Test.YtppnakkaljbmbaaGreatDoorZY00
import Derived.Shelf.Bytes.SlIndexAt
import Derived.Shelf.SlSortCmp.Insertion1
import Derived.Shelf.Slices.Clone
import Derived.Shelf.Slices.SearchI
import Derived.Shelf.Slices.Turned
import Derived.Shelf.SlicesE.Clone
import Derived.Shelf.Small.Wraps
import Derived.Shelf.Sort.Plain
import Derived.Shelf.Strings.BuilderK
import Derived.Test.YtppnakkaljbmbaaGreatDoorZY02
set_option linter.unusedVariables false
set_option linter.unusedSimpArgs false
set_option maxRecDepth 100000
set_option maxHeartbeats 8000000
open List renaming length->kN
open Go.Proofs.YtppnakkaljbmbaaGreatDoor.Kit renaming Src->yt,Own->yu,Own'->yx,zAe->xC,zAr->xG,zAs->xM,zBo->xY
open Go.Proofs.YtppnakkaljbmbaaGreatDoor.Rle renaming Len->xZ,cut->xg
open Go.Proofs.YtppnakkaljbmbaaGreatDoor.Us renaming alpha->xw
open Go.Proofs.YtppnakkaljbmbaaGreatDoor.Ch renaming one->kD
open Go.Proofs.YtppnakkaljbmbaaGreatDoor.Bt renaming ofNat_toNat->kI
open Go.RowKit
open Go.Proofs.Tryz
open Go.Value renaming int->qX,string->qY,slice->qZ,pointer->qc,tuple->qg,bool->qh,iface->ql
open Go.IntKind renaming i64->qm,u8->qo
open Go.Obj renaming cells->qp,deferred->qw
open Go.Ending renaming returned->qx
open Or renaming inr->qy,inl->qz
open Option renaming some->yA,none->yB
open Go renaming World->yC,Value->yD,TypeId->yE,Addr->yF,Calls->yG,undef->yN
open Bool renaming true->yH,false->yI
open Decidable renaming decide->yJ
open Go.Proofs.Tryz renaming prog->yK
open Go.RowKit renaming Hid->yL,Below->yM
open List renaming range->yO,replicate->yP
open Go.World renaming cell?->yQ
open Go.RowKit.Below renaming refl->yR
section
namespace Go.Proofs
open Go.Proofs.YtppnakkaljbmbaaGreatDoor
open Go.Shelf
def Tryz.zSv:Go.Shelf.Ren:=⟨fun|170=>115|n=>n,fun|70=>118|3=>3|0=>0|72=>120|37=>109|5=>5|n=>n,fun|n=>n⟩
theorem Tryz.qDi:Go.Proofs.Lays.n170 yK zSv:={
 mixed:=zf
 f170:=func115.trans (qPs yA zf)
 t0:=underlying0
 a0:=isAgg0
 z0:=sizeOf0
 v0:=zeroValue0
 t3:=underlying3
 a3:=isAgg3
 z3:=sizeOf3
 v3:=zeroValue3
 t37:=underlying109
 a37:=isAgg109
 z37:=sizeOf109
 v37:=zeroValue109
 t70:=underlying118
 a70:=isAgg118
 z70:=sizeOf118
 v70:=zeroValue118
 t72:=underlying120
 a72:=isAgg120
 z72:=sizeOf120
 v72:=zeroValue120}
open Go.RowKit in
theorem Tryz.Builder_Len (B b:Nat) (bs:List yD) (w:yC) (h:Lib.IsBuilder 120 5 B b bs w):
  yG yK 115 #[qc (yA ⟨b,0,yB⟩)] w fun e w'=>e=qx (qX qm (kN bs))/\w'=w:=Any.Builder_Len qDi B b bs w h
def Tryz.zKk:Go.Shelf.Ren:=⟨fun|169=>63|n=>n,fun|70=>118|9=>9|0=>0|72=>120|37=>109|127=>240|3=>3|5=>5|n=>n,fun|n=>n⟩
theorem Tryz.qDj:Go.Proofs.Lays.n169 yK zKk:={
 mixed:=zf
 f169:=func63.trans (qPs yA zf)
 t0:=underlying0
 a0:=isAgg0
 z0:=sizeOf0
 v0:=zeroValue0
 t3:=underlying3
 a3:=isAgg3
 z3:=sizeOf3
 v3:=zeroValue3
 t9:=underlying9
 a9:=isAgg9
 z9:=sizeOf9
 v9:=zeroValue9
 t37:=underlying109
 a37:=isAgg109
 z37:=sizeOf109
 v37:=zeroValue109
 t70:=underlying118
 a70:=isAgg118
 z70:=sizeOf118
 v70:=zeroValue118
 t72:=underlying120
 a72:=isAgg120
 z72:=sizeOf120
 v72:=zeroValue120
 t127:=underlying240
 a127:=isAgg240
 z127:=sizeOf240
 v127:=zeroValue240}
theorem Tryz.zKb:Builder.Extra yK zKk:={
 sizeBuilder:=zf
 liesBuilder:=zf
 t5:=underlying5
 a5:=isAgg5
 z5:=sizeOf5
 v5:=zeroValue5
 infoByte:=zf
 cellsByte:=zf
 sizeByte:=zf
 neB5:=by decide}
def Tryz.zSy:Go.Shelf.Ren:=⟨fun|122=>168|215=>206|n=>n,fun|3=>3|4=>4|n=>n,fun|n=>n⟩
theorem Tryz.qDn:Go.Proofs.Lays.n122 yK zSy:={
 mixed:=zf
 f122:=func168.trans (qPs yA zf)
 f215:=func206.trans (qPs yA zf)
 t3:=underlying3
 a3:=isAgg3
 z3:=sizeOf3
 v3:=zeroValue3
 t4:=underlying4
 a4:=isAgg4
 z4:=sizeOf4
 v4:=zeroValue4}
open Go.RowKit in
theorem Tryz.cmp_Compare_int (x y:Int) (w:yC):
  yG yK 168 #[qX qm x,qX qm y] w fun e w'=>e=qx (qX qm (Lib.compareInt x y))/\w'=w:=Any.cmp_Compare_int qDn x y w
open Go.RowKit in
theorem Tryz.Builder_String_any_k (B b:Nat) (l:List UInt8) (w:yC) (h:Lib.IsBuilderF 120 5 B b (Lib.byteCells l) w) (a:B<=w.heap.size):
  yG yK 63 #[qc (yA ⟨b,0,yB⟩)] w fun e w'=>e=qx (qY ⟨l.toArray⟩)/\(Lib.IsBuilderF 120 5 B b (Lib.byteCells l) w'/\yM B w w'/\Lib.OthersKept 5 (yA b) w w'):=Any.Builder_String_any_k qDj zKb B b l w h a
def Tryz.zSs:Go.Shelf.Ren:=⟨fun|189=>128|125=>180|257=>179|128=>240|129=>241|294=>231|295=>232|296=>233|297=>234|298=>235|299=>236|216=>237|300=>238|301=>239|328=>276|329=>277|330=>278|331=>279|332=>280|215=>206|343=>312|n=>n,fun|28=>23|3=>3|46=>178|0=>0|51=>65|53=>64|4=>4|183=>343|182=>342|131=>347|5=>5|9=>9|218=>385|222=>389|228=>433|229=>246|n=>n,fun|n=>n⟩
theorem Tryz.qDf:Go.Proofs.Lays.n189 yK zSs:={
 mixed:=zf
 f125:=func180.trans (qPs yA zf)
 f128:=func240.trans (qPs yA zf)
 f129:=func241.trans (qPs yA zf)
 f189:=func128.trans (qPs yA zf)
 f215:=func206.trans (qPs yA zf)
 f216:=func237.trans (qPs yA zf)
 f257:=func179.trans (qPs yA zf)
 f294:=func231.trans (qPs yA zf)
 f295:=func232.trans (qPs yA zf)
 f296:=func233.trans (qPs yA zf)
 f297:=func234.trans (qPs yA zf)
 f298:=func235.trans (qPs yA zf)
 f299:=func236.trans (qPs yA zf)
 f300:=func238.trans (qPs yA zf)
 f301:=func239.trans (qPs yA zf)
 f328:=func276.trans (qPs yA zf)
 f329:=func277.trans (qPs yA zf)
 f330:=func278.trans (qPs yA zf)
 f331:=func279.trans (qPs yA zf)
 f332:=func280.trans (qPs yA zf)
 f343:=func312.trans (qPs yA zf)
 t0:=underlying0
 a0:=isAgg0
 z0:=sizeOf0
 v0:=zeroValue0
 t3:=underlying3
 a3:=isAgg3
 z3:=sizeOf3
 v3:=zeroValue3
 t4:=underlying4
 a4:=isAgg4
 z4:=sizeOf4
 v4:=zeroValue4
 t5:=underlying5
 a5:=isAgg5
 z5:=sizeOf5
 v5:=zeroValue5
 t9:=underlying9
 a9:=isAgg9
 z9:=sizeOf9
 v9:=zeroValue9
 t28:=underlying23
 a28:=isAgg23
 z28:=sizeOf23
 v28:=zeroValue23
 t46:=underlying178
 a46:=isAgg178
 z46:=sizeOf178
 v46:=zeroValue178
 t51:=underlying65
 a51:=isAgg65
 z51:=sizeOf65
 v51:=zeroValue65
 t53:=underlying64
 a53:=isAgg64
 z53:=sizeOf64
 v53:=zeroValue64
 t131:=underlying347
 a131:=isAgg347
 z131:=sizeOf347
 v131:=zeroValue347
 t182:=underlying342
 a182:=isAgg342
 z182:=sizeOf342
 v182:=zeroValue342
 t183:=underlying343
 a183:=isAgg343
 z183:=sizeOf343
 v183:=zeroValue343
 t218:=underlying385
 a218:=isAgg385
 z218:=sizeOf385
 v218:=zeroValue385
 t222:=underlying389
 a222:=isAgg389
 z222:=sizeOf389
 v222:=zeroValue389
 t228:=underlying433
 a228:=isAgg433
 z228:=sizeOf433
 v228:=zeroValue433
 t229:=underlying246
 a229:=isAgg246
 z229:=sizeOf246
 v229:=zeroValue246}
open Go.Sort Go.RowKit in
theorem Tryz.slices_Sort_int (a off b:Nat) (zs:List Int) (w:yC) (f:Holds (Value.int qm) w a off zs.toArray) (c:a<w.heap.size) (d:kN zs<4611686018427387904):
  yG yK 128 #[qZ (yA ⟨a,off,yB⟩) (kN zs) b] w fun e w'=>
   e=qx (qg #[])/\∃n os,w'=grow (putRow (Value.int qm) (Sort.ahead w n) a off (zs.mergeSort fun x y=>decide (x<=y)).toArray) os:=Any.slices_Sort_int qDf a off b zs w f c d
def Tryz.zS1:Go.Shelf.Ren:=⟨fun|108=>93|n=>n,fun|28=>23|3=>3|0=>0|4=>4|n=>n,fun|n=>n⟩
theorem Tryz.qDq:Go.Proofs.Lays.n108 yK zS1:={
 mixed:=zf
 f108:=func93.trans (qPs yA zf)
 t0:=underlying0
 a0:=isAgg0
 z0:=sizeOf0
 v0:=zeroValue0
 t3:=underlying3
 a3:=isAgg3
 z3:=sizeOf3
 v3:=zeroValue3
 t4:=underlying4
 a4:=isAgg4
 z4:=sizeOf4
 v4:=zeroValue4
 t28:=underlying23
 a28:=isAgg23
 z28:=sizeOf23
 v28:=zeroValue23}
open Go.Lib in
theorem Tryz.slices_Index_int (b off n c:Nat) (zs:List Int) (x:Int) (w:yC) (f:n<=kN zs) (a:n<=9223372036854775807) (d:∀j,j<kN zs->w.cell? ⟨b,off+j,yB⟩=yA (qX qm (zs.getD j 0))):
  yG yK 93 #[qZ (yA ⟨b,off,yB⟩) n c,qX qm x] w fun e w'=>e=qx (qX qm (Lib.idxOf (zs.take n) x))/\w'=w:=Any.slices_Index_int qDq b off n c zs x w f a d
def Tryz.zS0:Go.Shelf.Ren:=⟨fun|113=>125|n=>n,fun|28=>23|3=>3|4=>4|9=>9|20=>20|0=>0|n=>n,fun|n=>n⟩
theorem Tryz.qDp:Go.Proofs.Lays.n113 yK zS0:={
 mixed:=zf
 f113:=func125.trans (qPs yA zf)
 t0:=underlying0
 a0:=isAgg0
 z0:=sizeOf0
 v0:=zeroValue0
 t3:=underlying3
 a3:=isAgg3
 z3:=sizeOf3
 v3:=zeroValue3
 t4:=underlying4
 a4:=isAgg4
 z4:=sizeOf4
 v4:=zeroValue4
 t9:=underlying9
 a9:=isAgg9
 z9:=sizeOf9
 v9:=zeroValue9
 t20:=underlying20
 a20:=isAgg20
 z20:=sizeOf20
 v20:=zeroValue20
 t28:=underlying23
 a28:=isAgg23
 z28:=sizeOf23
 v28:=zeroValue23}
open Go.Lib in
theorem Tryz.slices_Max_int (b off n c:Nat) (zs:List Int) (w:yC) (f:0<n) (g:n<=kN zs) (a:n<=9223372036854775807) (d:∀j,j<kN zs->w.cell? ⟨b,off+j,yB⟩=yA (qX qm (zs.getD j 0))):
  yG yK 125 #[qZ (yA ⟨b,off,yB⟩) n c] w fun e w'=>e=qx (qX qm (Lib.maxOf (zs.take n)))/\w'=w:=Any.slices_Max_int qDp b off n c zs w f g a d
def Tryz.zSz:Go.Shelf.Ren:=⟨fun|114=>126|n=>n,fun|28=>23|3=>3|4=>4|9=>9|20=>20|0=>0|n=>n,fun|n=>n⟩
theorem Tryz.qDo:Go.Proofs.Lays.n114 yK zSz:={
 mixed:=zf
 f114:=func126.trans (qPs yA zf)
 t0:=underlying0
 a0:=isAgg0
 z0:=sizeOf0
 v0:=zeroValue0
 t3:=underlying3
 a3:=isAgg3
 z3:=sizeOf3
 v3:=zeroValue3
 t4:=underlying4
 a4:=isAgg4
 z4:=sizeOf4
 v4:=zeroValue4
 t9:=underlying9
 a9:=isAgg9
 z9:=sizeOf9
 v9:=zeroValue9
 t20:=underlying20
 a20:=isAgg20
 z20:=sizeOf20
 v20:=zeroValue20
 t28:=underlying23
 a28:=isAgg23
 z28:=sizeOf23
 v28:=zeroValue23}
open Go.Lib in
theorem Tryz.slices_Min_int (b off n c:Nat) (zs:List Int) (w:yC) (f:0<n) (g:n<=kN zs) (a:n<=9223372036854775807) (d:∀j,j<kN zs->w.cell? ⟨b,off+j,yB⟩=yA (qX qm (zs.getD j 0))):
  yG yK 126 #[qZ (yA ⟨b,off,yB⟩) n c] w fun e w'=>e=qx (qX qm (Lib.minOf (zs.take n)))/\w'=w:=Any.slices_Min_int qDo b off n c zs w f g a d
def Tryz.zPi:Go.Shelf.Ren:=⟨fun|15=>101|n=>n,fun|22=>23|3=>3|4=>4|n=>n,fun|n=>n⟩
theorem Tryz.zXm:Go.Proofs.Lays2.n15 yK zPi:={
 mixed:=zf
 f15:=func101.trans (qPs yA zf)
 t3:=underlying3
 a3:=isAgg3
 z3:=sizeOf3
 v3:=zeroValue3
 t4:=underlying4
 a4:=isAgg4
 z4:=sizeOf4
 v4:=zeroValue4
 t22:=underlying23
 a22:=isAgg23
 z22:=sizeOf23
 v22:=zeroValue23
 i3:=by kernel_rfl}
open Go.RowKit Go.Lib in
theorem Tryz.slices_Clone_int (b off n c:Nat) (zs:List Int) (w:yC) (f:n<=kN zs) (a:n*8<=140737488355328) (d:∀j,j<kN zs->w.cell? ⟨b,off+j,yB⟩=yA (qX qm (zs.getD j 0))):
  yG yK 101 #[qZ (yA ⟨b,off,yB⟩) n c] w fun e w'=>∃v',e=qx v'/\w'.ownsRow w.heap.size 3 1 v' n ((zs.take n).map (Value.int qm))/\v'≠qZ yB 0 0/\yM w w w':=Any.slices_Clone_int zXm b off n c zs w f a d
def Tryz.zI1:Go.Shelf.Ren:=⟨fun|20=>281|n=>n,fun|24=>3|22=>23|3=>3|25=>29|4=>4|0=>0|n=>n,fun|n=>n⟩
theorem Tryz.zNl:Go.Proofs.SlLaysF.n20 yK zI1:={
 mixed:=zf
 f20:=⟨f281.name,qW,func281.trans (qPs yA zf)⟩
 t0:=underlying0
 a0:=isAgg0
 z0:=sizeOf0
 v0:=zeroValue0
 t3:=underlying3
 a3:=isAgg3
 z3:=sizeOf3
 v3:=zeroValue3
 t4:=underlying4
 a4:=isAgg4
 z4:=sizeOf4
 v4:=zeroValue4
 t22:=underlying23
 a22:=isAgg23
 z22:=sizeOf23
 v22:=zeroValue23
 a24:=isAgg3
 z24:=sizeOf3
 t25:=underlying29
 a25:=isAgg29
 z25:=sizeOf29
 v25:=zeroValue29}
open Go.RowKit Go.Lib Go.Sort in
theorem Tryz.insertionSortCmpFunc_s {α:Type} [Inhabited α] (enc:α->yD) (i:α->α->Int) (g:Nat) (h:Array yD) (c off j a b:Nat) (f d:Array α) (w0 w:yC) (n:∀args w,(callFunc g args).run yK w= .ok (.enter g args) w) (k:CmpLays1 yK g h enc i c off f.size w0) (R:Row1 enc w0 c off f) (p:f.size=d.size) (S:SW enc w0 c off d w) (l:a<=b) (o:b<=d.size) (m:d.size<4611686018427387904):
  yG yK 281 #[qZ (yA ⟨c,off,yB⟩) d.size j,qX qm a,qX qm b,.func (.func g) #[] h] w fun e w'=>e=qx (qg #[])/\SW enc w0 c off (Sort.insertionSort (ltOf i) d a b) w':=Any.insertionSortCmpFunc_s zNl enc i g h c off j a b f d w0 w n k R p S l o m
end Go.Proofs
end
namespace Go.Proofs.YtppnakkaljbmbaaGreatDoor
namespace St
open Go.Lib Go.Sort Go.Proofs Tn
theorem qGd (x y:Int) (w:yC):yG yK 168 #[qX qm x,qX qm y] w fun e w'=>e=qx (qX qm (Lib.compareInt x y))/\w'=w:=cmp_Compare_int x y w
theorem zKt (r:RK) (i j:Nat) (f:Nat->Nat) (w:yC) (X:r.s.size=r.n) (V:r.n<=1000000) (S:r.m<=2000000) (hi:i<r.n) (R:j<r.n) (I:∀k,k<r.n->w.cell? ⟨r.N,k,yB⟩=yA (qX qm (f k:Int))):
  yG yK 130 #[rv r,i,j] w fun e w'=>e=qx (qX qm (cf2 r.n r.m f i j))/\Grn w w':=by
 have G:0<r.n:=za
 obtain⟨B,H⟩:=zB w.heap.size;obtain⟨W,u⟩:=zB ((w.alloc (zNa r)).drew);have q:Grn w W:=by rw[<-u];exact(Grn.alloc w (zNa r)).trans (Grn.drew _)
 have HB:RB W B r:=by rw[<-u,<-H];exact(RB.new w r).grn (Grn.drew _)
 obtain⟨L,N,a,HG,z,F⟩:=yZ (fun(k:Nat) (K:k<r.n) (W':yC) (g:Grn W W')=>(q.trans g).cell (I k K)) (fun(k:Nat) (K:k<r.n) (W':yC) (g:Grn W W')=>qGj r k (f ((k+r.m)%r.n)) W' X G V S K ((q.trans g).cell (I _ (qRf _ G)))) HB q hi R;obtain⟨c0,d⟩:=zB (Lib.compareInt (f i:Int) (f j:Int));obtain⟨c1,l⟩:=zB (Lib.compareInt (f ((i+r.m)%r.n):Int) (f ((j+r.m)%r.n):Int));have o:cf2 r.n r.m f i j=if c0=0 then c1 else c0:=by unfold cf2;rw[d,l]
 rw[o];have O:=zH (fun(b:Nat) (w:yC)=>qFh c0 c1 b w);obtain⟨v,hv⟩:=zB ((if c0=0 then c1 else c0));rw[hv]at O⊢;clear hv;have Y:=yT (∀W',yG yK 168 #[qX qm (f i:Int),qX qm (f j:Int)] W' fun e w'=>e=qx (qX qm c0)/\w'=W') (fun W'=>by have h:=qGd (f i) (f j) W';rw[d]at h;exact h);have Z:=yT (∀W',yG yK 168 #[qX qm (f ((i+r.m)%r.n):Int),qX qm (f ((j+r.m)%r.n):Int)] W' fun e w'=>e=qx (qX qm c1)/\w'=W') (fun W'=>by have h:=qGd (f ((i+r.m)%r.n)) (f ((j+r.m)%r.n)) W';rw[l]at h;exact h);have GW:=yT (Grn W (w.alloc (zNa r)).drew) (by rw[u];exact Grn.refl _);have p:=zH H;clear X V S hi R I G q HB H u d l o;unfold rv;go_enter func130,ntmps130;go_wp2;rw[p.out];refine zS [16,17,18,19] (fun W9=>Grn W W9) [0,1,0,6,8,0,32,0,192,256,528,0,0,7168,0,0,57344,73728,132096,393216,1048575] 21<|zu 12 19 (zI i)<|zu 15 22 (zI j)<|zy 11 18 (rv r) (fun w m=>zl 221 3 ((a.out.grn m).ld)) GW.out<|zy 14 21 (rv r) (fun w m=>zl 221 3 ((a.out.grn m).ld)) GW.out<|zp [0,1,2,3,4,5,6,7,8,9]<|zk 7 (zP B 1)<|zt 8 (qZ (yA ⟨r.N,0,yB⟩) r.n r.c) ((fun w m=>zl 23 7 ((a.out.grn m).l1)) _ (GW.out))<|zk 9 (zI i)<|zt 10 (qc (yA ⟨r.N,i,yB⟩)) (xY (t:=23) (x:=(.tmp 8)) (y:=(.tmp 9)) (g:=r.N) (n:=r.n) (c:=r.c) (k:=i) rfl zf zf z.out underlying23 (fun _=>sizeOf3 _) _)<|zt 11 (qX qm (f i:Int)) ((fun w m=>zl 3 10 (zE4 (L.out i z.out _ m))) _ (GW.out))<|zk 12 (zP B 1)<|zt 13 (qZ (yA ⟨r.N,0,yB⟩) r.n r.c) ((fun w m=>zl 23 12 ((a.out.grn m).l1)) _ (GW.out))<|zk 14 (zI j)<|zt 15 (qc (yA ⟨r.N,j,yB⟩)) (xY (t:=23) (x:=(.tmp 13)) (y:=(.tmp 14)) (g:=r.N) (n:=r.n) (c:=r.c) (k:=j) rfl zf zf F.out underlying23 (fun _=>sizeOf3 _) _)<|zt 16 (qX qm (f j:Int)) ((fun w m=>zl 3 15 (zE4 (L.out j F.out _ m))) _ (GW.out))<|zn<|zd 10 17 168 #[qX qm (f i:Int),qX qm (f j:Int)] (qX qm c0) (Y.out _)<|zc 13 20 184 #[rv r,qX qm (i:Int)] (qX qm (f ((i+r.m)%r.n):Int)) (N.out i z.out _ GW.out)<| ?_
 refine fun w5 s=>⟨qy (qy (GW.out.trans s)),?_⟩;refine zc 16 23 184 #[rv r,qX qm (j:Int)] (qX qm (f ((j+r.m)%r.n):Int)) (N.out j F.out _ (GW.out.trans s))<| ?_
 refine fun M P=>⟨qy (qy ((GW.out.trans s).trans P)),?_⟩;refine zd 17 24 168 #[qX qm (f ((i+r.m)%r.n):Int),qX qm (f ((j+r.m)%r.n):Int)] (qX qm c1) (Z.out _)<| ?_
 refine Kit.zLe (w':=M.alloc (qp #[qX qm c0,qX qm c1] 3)) 18 (yA 25) (qZ (yA ⟨M,0,yB⟩) 2 2) 524287 zf zf rfl rfl zf zf (qy (qz zf)) ?_;refine zd 19 26 183 #[qZ (yA ⟨M,0,yB⟩) 2 2] (qX qm v) (O.out _ _ zm zm)<|zp [20]<|zk 6 (qX qm v)<|zn<|zE<| ?_
 simp only[zP,zI,Act.put,qPx,qPw,qPy];go_wp2;go_ret;exact⟨rfl,(HG.out.trans ((GW.out.trans s).trans P)).trans (Grn.alloc _ _)⟩
end St
namespace St
open Go.Lib Go.Sort Go.Proofs
variable {α:Type} [Inhabited α]
theorem zGv (enc:α->yD) (I:yD) (l off B a b n:Nat) (t d:Array α) (w0 w:yC) (R:Row1 enc w0 l off t) (hs:t.size=d.size) (S:SW enc w0 l off d w) (L:a+n<=b) (hb:b+n<=d.size) (W:d.size<4611686018427387904):
  yG yK 336 #[qZ (yA ⟨l,off,yB⟩) d.size B,a,b,n,I] w fun e w'=>e=qx (qg #[])/\∃d',Swr d a b n d'/\SW enc w0 l off d' w':=by
 have j:=R.hO.cells;simp only[Value.cells]at j;have V:=R.hO.store yK;have S0:Aside (SW enc w0 l off d w):=S;clear S;go_enter func336,ntmps336;go_wp2;go_loopg [10] n (fun K F wr=>∃(i:Nat) (dk:Array α),F=qX qm i/\i<=n/\n-i<=K/\Aside (Swr d a b i dk)/\Aside (SW enc w0 l off dk wr))
 case atStart=>exact⟨0,d,rfl,za,za,Swr.start d a b,S0⟩
 case round=>
  clear S0;obtain⟨i,dk,rfl,N,O,SR,m⟩:=hrel;have M:dk.size=d.size:=SR.out.size;by_cases P:i<n
  .have X:(i:Int)<(n:Int):=za
   go_wp2_with fail;obtain⟨o,c⟩:∃q,q=a+i:=⟨_,rfl⟩;obtain⟨p,f⟩:∃q,q=b+i:=⟨_,rfl⟩;have G:((a:Int)+(i:Int)).toNat=o:=za
   have pa:(0:Int)<=(a:Int)+(i:Int):=za
   have Y:(a:Int)+(i:Int)<(d.size:Int):=za
   have ra:IntKind.i64.wrap ((a:Int)+(i:Int))=(a:Int)+(i:Int):=by rw[qT8];omega
   have H:((b:Int)+(i:Int)).toNat=p:=za
   have pc:(0:Int)<=(b:Int)+(i:Int):=za
   have Z:(b:Int)+(i:Int)<(d.size:Int):=za
   have rc:IntKind.i64.wrap ((b:Int)+(i:Int))=(b:Int)+(i:Int):=by rw[qT8];omega
   obtain⟨z,h⟩:∃x,x=dk[a+i]! :=⟨_,rfl⟩;obtain⟨r,g⟩:∃x,x=dk[b+i]! :=⟨_,rfl⟩;have s:Aside (SW enc w0 l off (swp dk (a+i) (b+i)) ((wr.setCell ⟨l,off+o,yB⟩ (enc r)).setCell ⟨l,off+p,yB⟩ (enc z)).drew):=by rw[c,f,h,g];exact m.out.swapped R (a+i) (b+i) za za
   have k:Aside (Swr d a b (i+1) (swp dk (a+i) (b+i))):=SR.out.step za za;have c1:=m.out.c1 R za (a+i) za;have c2:=m.out.c1 R za (b+i) za;have u:=m.out.f1 R za (a+i) za;have y:=m.out.f1 R za (b+i) za;obtain⟨u1,c3⟩:=m.out.c2 R za (a+i) (b+i) za za (enc r);rw[<-f,<-c]at c3;rw[<-h,<-c]at c1;rw[<-g,<-f]at c2;rw[<-c]at u;rw[<-f]at y;clear m SR h g c f;go_wp2_with fail;go_big_region;clear c1 c2 c3 u y;generalize ((wr.setCell ⟨l,off+o,yB⟩ (enc r)).setCell ⟨l,off+p,yB⟩ (enc z)).drew=w2 at s⊢;clear G H;go_wp2;go_roundg (n-(i+1))
   case measure=>exact za
   case rel=>exact⟨i+1,swp dk (a+i) (b+i),by go_num,za,qPq _,k,s⟩
  .obtain rfl:n=i:=za
   go_wp2;go_end0;exact⟨rfl,dk,SR.out,m.out⟩
end St
namespace St
open Go.Lib Go.Sort Go.Proofs
variable {α:Type} [Inhabited α]
theorem zZl (enc:α->yD) (F:yD) (o off B a m b:Nat) (x d:Array α) (w0 w:yC) (R:Row1 enc w0 o off x) (hs:x.size=d.size) (S:SW enc w0 o off d w) (a0:a<m) (a4:m<b) (I:b<=d.size) (a5:d.size<1000000000):
  yG yK 313 #[qZ (yA ⟨o,off,yB⟩) d.size B,a,m,b,F] w fun e w'=>e=qx (qg #[])/\∃d',Rot d a m b d'/\SW enc w0 o off d' w':=by
 have S0:Aside (SW enc w0 o off d w):=S;clear S;obtain⟨y,n⟩:=zB (m-a);obtain⟨z,l⟩:=zB (b-m);have L:Aside (Mid d a m b y z d):=by rw[<-n,<-l];exact Mid.start d za za
 have M:(m:Int)-(a:Int)=(y:Int):=za
 have N:(b:Int)-(m:Int)=(z:Int):=za
 go_enter func313,ntmps313;go_wp2;clear M N;go_loopg [10,11] (y+z) (fun Z O P wr=>∃(i j:Nat) (dk:Array α),O=qX qm i/\P=qX qm j/\0<i/\0<j/\i<=y/\j<=z/\i+j<=Z/\Aside (Mid d a m b i j dk)/\Aside (SW enc w0 o off dk wr))
 case atStart=>exact⟨y,z,d,rfl,rfl,za,za,za,za,za,L,S0⟩
 case round=>
  clear S0 L;obtain⟨i,j,dk,rfl,rfl,hi,hj,a1,a2,a3,t,u⟩:=hrel;have g:dk.size=d.size:=t.out.perm.1;obtain⟨p,K⟩:=zB (m-i);have M:(m:Int)-(i:Int)=(p:Int):=za
  by_cases hne:i=j
  .subst hne;have Y:((i:Int)!=(i:Int))=yI:=by simp
   have r:=zH (zGv enc F o off B p m i x dk w0 wr R za u.out za za za);rw[g]at r;go_wp2_with fail;(with_reducible refine r.out.mono ?_);rintro e w2 ⟨rfl,s,c,f⟩;have W:Rot d a m b s:=t.out.last za za za I (by rw[K];exact c);clear t r u c;go_wp2;go_end0;exact⟨rfl,s,W,f⟩
  .have Y:((i:Int)!=(j:Int))=yH:=zq
   by_cases h:j<i
   .have k:decide ((j:Int)<(i:Int))=yH:=qQ za;have r:=zH (zGv enc F o off B p m j x dk w0 wr R za u.out za za za);rw[g]at r;go_wp2_with fail;(with_reducible refine r.out.mono ?_);rintro e w2 ⟨rfl,s,c,f⟩;have G:Aside (Mid d a m b (i-j) j s):=t.out.more za za za I h (by rw[K];exact c);have H:Aside (SW enc w0 o off s w2):=f;have V:(i:Int)-(j:Int)=((i-j:Nat):Int):=za
    clear t r u c f;go_wp2;go_roundg (i-j+j)
    case measure=>exact za
    case rel=>exact⟨i-j,j,s,rfl,rfl,za,za,za,za,za,G,H⟩
   .have k:decide ((j:Int)<(i:Int))=yI:=qP1 za;obtain⟨q,X⟩:=zB (m+j-i);have N:(m:Int)+(j:Int)-(i:Int)=(q:Int):=za
    have r:=zH (zGv enc F o off B p q i x dk w0 wr R za u.out za za za);rw[g]at r;go_wp2_with fail;(with_reducible refine r.out.mono ?_);rintro e w2 ⟨rfl,s,c,f⟩;have G:Aside (Mid d a m b i (j-i) s):=t.out.less za za za I za (by rw[K,X];exact c);have H:Aside (SW enc w0 o off s w2):=f;have V:(j:Int)-(i:Int)=((j-i:Nat):Int):=za
    clear t r u c f;go_wp2;go_roundg (i+(j-i))
    case measure=>exact za
    case rel=>exact⟨i,j-i,s,rfl,rfl,za,za,za,za,za,G,H⟩
end St
namespace St
open Go.Lib Go.Sort Go.Proofs
variable {α:Type} [Inhabited α]
theorem zXk {lt t:α->α->Bool} {I:α->Nat} (h:Ord lt t I) {d:Array α} {a b c q:Nat} (g:Pre t I a (a+1) b d) (k:a+1<=c) (i:c<b) (f:lt d[c]! d[a]! =yH) (j:a+1<=q) (l:q<=c):lt d[q]! d[a]! =yH:=by
 by_cases e:q=c
 .subst e;exact f
 .rw[h.ask _ _ (g.i a q (qPq _) za j za)];rw[h.ask _ _ (g.i a c (qPq _) za k i)]at f;cases e2:t d[q]! d[a]! with
  |true=>rfl
  |false=>
   have:=h.swo.ntrans _ _ _ (g.r q c j za i) e2;rw[this]at f;cases f
theorem zGw {lt t:α->α->Bool} {I:α->Nat} (h:Ord lt t I) {d:Array α} {a m b q:Nat} (c:Pre t I a m (m+1) d) (j:a<=b) (g:b<m) (f:lt d[m]! d[b]! =yI) (i:a<=q) (k:q<=b):lt d[m]! d[q]! =yI:=by
 by_cases e:q=b
 .subst e;exact f
 .rw[h.ask _ _ (c.i q m i za (qPq _) za)];rw[h.ask _ _ (c.i b m j g (qPq _) za)]at f;exact h.swo.ntrans _ _ _ f (c.l q b i za g)
theorem zWn (enc:α->yD) (G:α->α->Int) {t:α->α->Bool} {I:α->Nat} (ho:Ord (ltOf G) t I) (g:Nat) (cb:Array yD) (z off a0 a b:Nat) (P d:Array α) (w0 w:yC) (eg:∀args w,(callFunc g args).run yK w= .ok (.enter g args) w)
  (Y:CmpLays1 yK g cb enc G z off P.size w0) (R:Row1 enc w0 z off P) (hs:P.size=d.size) (S:SW enc w0 z off d w) (a8:a+1<b) (hb:b<=d.size) (ag:d.size<1000000000) (hp:Pre t I a (a+1) b d):
  yG yK 282 #[qZ (yA ⟨z,off,yB⟩) d.size a0,a,qX qm ((a+1:Nat):Int),b,.func (.func g) #[] cb] w fun e w'=>e=qx (qg #[])/\∃d',(PermIn a b d d'/\SortedIn t a b d')/\SW enc w0 z off d' w':=by
 have p:=R.hO.cells;simp only[Value.cells]at p;have af:=R.hO.store yK;have a4:prog.follows .mixedOrders=yH:=zf
 have S0:Aside (SW enc w0 z off d w):=S;obtain⟨HC,HP,HO⟩:=yV Y hp ho;obtain⟨m,V⟩:=zB (a+1);have z1:(((m:Int)-(a:Int))==1)=yH:=zq
 have HM:=zH V;clear S Y hp ho;rw[V];have ae:a<m:=za
 have a7:m<=a+1:=za
 clear V;go_enter func282,ntmps282;go_wp2;clear z1;go_loopg [10,11] (b-m) (fun X a1 a2 wr=>∃(i j:Nat),a1=qX qm i/\a2=qX qm j/\m<=i/\i<=j/\j<=b/\j-i<=X/\Aside (∀q,a+1<=q->q<i->(ltOf G) d[q]! d[a]! =yH)/\Aside (j<b->(ltOf G) d[j]! d[a]! =yI)/\Aside (SW enc w0 z off d wr))
 case atStart=>exact⟨m,b,rfl,rfl,za,za,za,za,fun q h1 h2=>za,fun h=>za,S0⟩
 case round=>
  clear S0;obtain⟨i,j,rfl,rfl,hi,B,ab,o,Z,H2,y⟩:=hrel;by_cases ad:i<j
  .have ah:(i:Int)<(j:Int):=za
   obtain⟨h,hh⟩:=zB ((i+j)/2);have eh:((i:Int)+(j:Int))/2=(h:Int):=za
   have aa:(h:Int)<(d.size:Int):=za
   have a5:(a:Int)<(d.size:Int):=za
   obtain⟨L,f⟩:∃x,x=d[h]! :=⟨_,rfl⟩;obtain⟨H,c⟩:∃x,x=d[a]! :=⟨_,rfl⟩;have l1:=y.out.cl R za h za;have l2:=y.out.cl R za a za;rw[<-f]at l1;rw[<-c]at l2;have N:=y.out.cmp HC.out za L H;cases hlv:(ltOf G) d[h]! d[a]! with
   |true=>
    have hv:G L H<0:=by rw[f,c];exact qTm hlv
    have hd:decide (G L H<0)=yH:=qQ hv;have O:Aside (∀q,a+1<=q->q<h+1->(ltOf G) d[q]! d[a]! =yH):=fun q h1 h2=>zXk HO.out HP.out za za hlv h1 za;clear f c hlv hh;go_wp2_with fail;go_quiet_grown (first|(go_at_fn g;refine Calls.grown_of (N _ _)));have K:Aside (SW enc w0 z off d (grow (wr.drewN nq) osq)):=y.out.grown nq osq;clear l1 l2 N y;generalize grow (wr.drewN nq) osq=w2 at K⊢;clear nq osq;go_wp2;go_roundg (j-(h+1))
    case measure=>exact za
    case rel=>exact⟨h+1,j,by go_num,rfl,za,za,za,za,O,H2,K⟩
   |false=>
    have hv:¬G L H<0:=by rw[f,c];exact of_decide_eq_false hlv
    have hd:decide (G L H<0)=yI:=qP1 hv;have O:Aside (h<b->(ltOf G) d[h]! d[a]! =yI):=fun _=>hlv;clear f c hlv hh;go_wp2_with fail;go_quiet_grown (first|(go_at_fn g;refine Calls.grown_of (N _ _)));have K:Aside (SW enc w0 z off d (grow (wr.drewN nq) osq)):=y.out.grown nq osq;clear l1 l2 N y;generalize grow (wr.drewN nq) osq=w2 at K⊢;clear nq osq;go_wp2;go_roundg (h-i)
    case measure=>exact za
    case rel=>exact⟨i,h,rfl,rfl,za,za,za,za,Z,O,K⟩
  .obtain rfl:i=j:=za
   clear B o;go_wp2;go_loopg [13] (i-a) (fun X a3 wr=>∃(k:Nat) (dk:Array α),a3=qX qm k/\a<=k/\k+1<=i/\i-k<=X/\Aside (Shl d a k dk)/\Aside (SW enc w0 z off dk wr))
   case atStart=>exact⟨a,d,rfl,za,za,za,Shl.start d a,y⟩
   case round=>
    clear y;obtain⟨k,dk,rfl,u,ac,o,M,y⟩:=hrel;have a9:dk.size=d.size:=M.out.perm.1;by_cases a6:k+1<i
    .have r:decide ((k:Int)<(i:Int)-1)=yH:=qQ za;have s:(k:Int)<(i:Int)-1:=za
     go_wp2_with fail;obtain⟨W,l⟩:∃q,q=k+1:=⟨_,rfl⟩;have ea:((k:Int)+1).toNat=W:=za
     have pa:(0:Int)<=(k:Int)+1:=za
     have ba:(k:Int)+1<(d.size:Int):=za
     have bk:(k:Int)<(d.size:Int):=za
     have ra:IntKind.i64.wrap ((k:Int)+1)=(k:Int)+1:=by rw[qT8];omega
     obtain⟨L,f⟩:∃x,x=dk[k]! :=⟨_,rfl⟩;obtain⟨H,c⟩:∃x,x=dk[k+1]! :=⟨_,rfl⟩;have K:Aside (SW enc w0 z off (swp dk k (k+1)) ((wr.setCell ⟨z,off+k,yB⟩ (enc H)).setCell ⟨z,off+W,yB⟩ (enc L)).drew):=by rw[l,f,c];exact y.out.swapped R k (k+1) za za
     have F:Aside (Shl d a (k+1) (swp dk k (k+1))):=M.out.step u za;have c1:=y.out.c1 R za k za;have c2:=y.out.c1 R za (k+1) za;have f1:=y.out.f1 R za k za;have f2:=y.out.f1 R za (k+1) za;obtain⟨u1,c3⟩:=y.out.c2 R za k (k+1) za za (enc H);rw[<-l]at c3;rw[<-f]at c1;rw[<-c,<-l]at c2;rw[<-l]at f2;clear y M f c l;go_wp2_with fail;go_big_region;clear c1 c2 c3 f1 f2;generalize ((wr.setCell ⟨z,off+k,yB⟩ (enc H)).setCell ⟨z,off+W,yB⟩ (enc L)).drew=w2 at K⊢;clear ea;go_wp2;go_roundg (i-(k+1))
     case measure=>exact za
     case rel=>exact⟨k+1,swp dk k (k+1),by go_num,za,za,za,F,K⟩
    .obtain rfl:i=k+1:=za
     have r:decide ((k:Int)<((k+1:Nat):Int)-1)=yI:=qP1 za;have s:¬(k:Int)<((k+1:Nat):Int)-1:=za
     have n:=zZ9 HO.out HP.out (i:=k+1) za za hb Z.out H2.out (by rw[qSr];exact M.out);have HF:=zH n;clear n;go_wp2
     try simp only[Exit.inBlock,Exit.then]
     refine qP5 (v:=qg #[]) zf rfl ?_;exact⟨rfl,dk,HF.out,y.out⟩
end St
namespace St
open Go.Lib Go.Sort Go.Proofs
variable {α:Type} [Inhabited α]
theorem zUk (enc:α->yD) (H:α->α->Int) {t:α->α->Bool} {I:α->Nat} (ho:Ord (ltOf H) t I) (g:Nat) (cb:Array yD) (G off a0 a m:Nat) (V d:Array α) (w0 w:yC) (eg:∀args w,(callFunc g args).run yK w= .ok (.enter g args) w)
  (Y:CmpLays1 yK g cb enc H G off V.size w0) (R:Row1 enc w0 G off V) (hs:V.size=d.size) (S:SW enc w0 G off d w) (a8:a+1<m) (hb:m<d.size) (ag:d.size<1000000000) (hp:Pre t I a m (m+1) d):
  yG yK 282 #[qZ (yA ⟨G,off,yB⟩) d.size a0,a,m,qX qm ((m+1:Nat):Int),.func (.func g) #[] cb] w fun e w'=>e=qx (qg #[])/\∃d',(PermIn a (m+1) d d'/\SortedIn t a (m+1) d')/\SW enc w0 G off d' w':=by
 have r:=R.hO.cells;simp only[Value.cells]at r;have af:=R.hO.store yK;have a4:prog.follows .mixedOrders=yH:=zf
 have S0:Aside (SW enc w0 G off d w):=S;obtain⟨HC,HP,HO⟩:=yV Y hp ho;obtain⟨b,o⟩:=zB (m+1);have z1:(((m:Int)-(a:Int))==1)=yI:=by rw[qSd];omega
 have z2:(((b:Int)-(m:Int))==1)=yH:=zq
 clear S Y hp ho;rw[o];have HB:=zH o;have ae:m<b:=za
 have a7:b<=m+1:=za
 clear o;go_enter func282,ntmps282;go_wp2;clear z1 z2;go_loopg [14,15] (m-a) (fun X a1 a2 wr=>∃(i j:Nat),a1=qX qm i/\a2=qX qm j/\a<=i/\i<=j/\j<=m/\j-i<=X/\Aside (∀q,a<=q->q<i->(ltOf H) d[m]! d[q]! =yI)/\Aside (j<m->(ltOf H) d[m]! d[j]! =yH)/\Aside (SW enc w0 G off d wr))
 case atStart=>exact⟨a,m,rfl,rfl,za,za,za,za,fun q h1 h2=>za,fun h=>za,S0⟩
 case round=>
  clear S0;obtain⟨i,j,rfl,rfl,hi,B,ac,p,Z,H2,z⟩:=hrel;by_cases ad:i<j
  .have ah:(i:Int)<(j:Int):=za
   obtain⟨h,hh⟩:=zB ((i+j)/2);have eh:((i:Int)+(j:Int))/2=(h:Int):=za
   have ab:(h:Int)<(d.size:Int):=za
   have a5:(m:Int)<(d.size:Int):=za
   obtain⟨M,f⟩:∃x,x=d[m]! :=⟨_,rfl⟩;obtain⟨K,c⟩:∃x,x=d[h]! :=⟨_,rfl⟩;have l1:=z.out.cl R za m za;have l2:=z.out.cl R za h za;rw[<-f]at l1;rw[<-c]at l2;have O:=z.out.cmp HC.out za M K;cases hlv:(ltOf H) d[m]! d[h]! with
   |false=>
    have hv:¬H M K<0:=by rw[f,c];exact of_decide_eq_false hlv
    have hd:decide (H M K<0)=yI:=qP1 hv;have P:Aside (∀q,a<=q->q<h+1->(ltOf H) d[m]! d[q]! =yI):=fun q h1 h2=>zGw HO.out HP.out za za hlv h1 za;clear f c hlv hh;go_wp2_with fail;go_quiet_grown (first|(go_at_fn g;refine Calls.grown_of (O _ _)));have L:Aside (SW enc w0 G off d (grow (wr.drewN nq) osq)):=z.out.grown nq osq;clear l1 l2 O z;generalize grow (wr.drewN nq) osq=w2 at L⊢;clear nq osq;go_wp2;go_roundg (j-(h+1))
    case measure=>exact za
    case rel=>exact⟨h+1,j,by go_num,rfl,za,za,za,za,P,H2,L⟩
   |true=>
    have hv:H M K<0:=by rw[f,c];exact qTm hlv
    have hd:decide (H M K<0)=yH:=qQ hv;have P:Aside (h<m->(ltOf H) d[m]! d[h]! =yH):=fun _=>hlv;clear f c hlv hh;go_wp2_with fail;go_quiet_grown (first|(go_at_fn g;refine Calls.grown_of (O _ _)));have L:Aside (SW enc w0 G off d (grow (wr.drewN nq) osq)):=z.out.grown nq osq;clear l1 l2 O z;generalize grow (wr.drewN nq) osq=w2 at L⊢;clear nq osq;go_wp2;go_roundg (h-i)
    case measure=>exact za
    case rel=>exact⟨i,h,rfl,rfl,za,za,za,za,Z,P,L⟩
  .obtain rfl:i=j:=za
   clear B p;go_wp2;go_loopg [17] (m-i) (fun X a3 wr=>∃(k:Nat) (dk:Array α),a3=qX qm k/\i<=k/\k<=m/\k-i<=X/\Aside (Shr d m k dk)/\Aside (SW enc w0 G off dk wr))
   case atStart=>exact⟨m,d,rfl,za,za,za,Shr.start d m,z⟩
   case round=>
    clear z;obtain⟨k,dk,rfl,a9,u,p,N,z⟩:=hrel;have aa:dk.size=d.size:=N.out.perm.1;by_cases a6:i<k
    .obtain⟨y,rfl⟩:∃y,k=y+1:=⟨k-1,za⟩;have s:decide ((i:Int)<((y+1:Nat):Int))=yH:=qQ za;go_wp2_with fail;obtain⟨W,l⟩:∃q,q=y+1:=⟨_,rfl⟩;have ea:((y:Int)+1).toNat=W:=za
     have eb:((y:Int)+1-1)=(y:Int):=za
     have pa:(0:Int)<=(y:Int)+1:=za
     have ba:(y:Int)+1<(d.size:Int):=za
     have bk:(y:Int)<(d.size:Int):=za
     have ra:IntKind.i64.wrap ((y:Int)+1)=(y:Int)+1:=by rw[qT8];omega
     obtain⟨M,f⟩:∃x,x=dk[y+1]! :=⟨_,rfl⟩;obtain⟨K,c⟩:∃x,x=dk[y]! :=⟨_,rfl⟩;have L:Aside (SW enc w0 G off (swp dk (y+1) y) ((wr.setCell ⟨G,off+W,yB⟩ (enc K)).setCell ⟨G,off+y,yB⟩ (enc M)).drew):=by rw[l,f,c];exact z.out.swapped R (y+1) y za za
     have F:Aside (Shr d m y (swp dk (y+1) y)):=N.out.step u za;have c1:=z.out.c1 R za (y+1) za;have c2:=z.out.c1 R za y za;have f1:=z.out.f1 R za (y+1) za;have f2:=z.out.f1 R za y za;obtain⟨u1,c3⟩:=z.out.c2 R za (y+1) y za za (enc K);rw[<-l]at c3;rw[<-f,<-l]at c1;rw[<-c]at c2;rw[<-l]at f1;clear z N f c l;go_wp2_with fail;go_big_region;clear c1 c2 c3 f1 f2;generalize ((wr.setCell ⟨G,off+W,yB⟩ (enc K)).setCell ⟨G,off+y,yB⟩ (enc M)).drew=w2 at L⊢;clear ea;go_wp2;go_roundg (y-i)
     case measure=>exact za
     case rel=>exact⟨y,swp dk (y+1) y,rfl,za,za,za,F,L⟩
    .obtain rfl:k=i:=za
     have s:decide ((k:Int)<(k:Int))=yI:=qP1 za;have n:=zXd HO.out HP.out (i:=k) za za hb Z.out H2.out N.out;rw[HB.out]at n;have HF:=zH n;clear n;go_wp2
     try simp only[Exit.inBlock,Exit.then]
     refine qP5 (v:=qg #[]) zf rfl ?_;exact⟨rfl,dk,HF.out,z.out⟩
end St
namespace St
open Go.Lib Go.Sort Go.Proofs
variable {α:Type} [Inhabited α]
def qBs (enc:α->yD) (t:α->α->Bool) (I:α->Nat) (g:Nat) (h:Array yD) (c off f:Nat) (i:Array α) (w0:yC) (a m b:Nat):Prop:=
 ∀(d:Array α) (w:yC),i.size=d.size->SW enc w0 c off d w->b<=d.size->Pre t I a m b d->
  yG yK 282 #[qZ (yA ⟨c,off,yB⟩) d.size f,a,m,b,.func (.func g) #[] h] w fun e w'=>e=qx (qg #[])/\∃d',(PermIn a b d d'/\SortedIn t a b d')/\SW enc w0 c off d' w'
theorem zWm (enc:α->yD) (y:α->α->Int) {t:α->α->Bool} {I:α->Nat} (ho:Ord (ltOf y) t I) (g:Nat) (cb:Array yD) (a0 off a3 a m b:Nat) (d0:Array α) (w0:yC) (eg:∀args w,(callFunc g args).run yK w= .ok (.enter g args) w)
  (a5:CmpLays1 yK g cb enc y a0 off d0.size w0) (R:Row1 enc w0 a0 off d0) (a9:a+1<m) (ah:m+1<b) (ao:d0.size<1000000000)
  (ih:∀a' m' b',b'-a'<b-a->a'<m'->m'<b'->qBs enc t I g cb a0 off a3 d0 w0 a' m' b'):qBs enc t I g cb a0 off a3 d0 w0 a m b:=by
 intro d w hs S hb hp;have N:=R.hO.cells;simp only[Value.cells]at N;have an:=R.hO.store yK;have a6:prog.follows .mixedOrders=yH:=zf
 have S0:Aside (SW enc w0 a0 off d w):=S;obtain⟨HC,HP,HO,IH⟩:=yX a5 hp ho ih;have Z:d.size<1000000000:=za
 have z1:(((m:Int)-(a:Int))==1)=yI:=by rw[qSd];omega
 have z2:(((b:Int)-(m:Int))==1)=yI:=by rw[qSd];omega
 obtain⟨mid,M⟩:=zB ((a+b)/2);have ez:((a:Int)+(b:Int))/2=(mid:Int):=za
 have af:a+b<=2*mid+1:=za
 have ag:2*mid<=a+b:=za
 clear S a5 hp ho ih M;go_enter func282,ntmps282;go_upto_if 140 with fail;clear z1 z2 ez;go_cut [20,21] (fun a1 a4 wx=>∃lo hi:Nat,a1=qX qm lo/\a4=qX qm hi/\a<=lo/\lo<=hi/\hi<=m/\hi<=mid/\mid+m<=b+lo/\(a<lo->mid+m=b+lo)/\(hi<m->hi=mid)/\w=wx)
 case first=>
  by_cases ai:mid<m
  .have hz:decide ((mid:Int)<(m:Int))=yH:=qQ za;obtain⟨lo,ac⟩:=zB (mid+m-b);have e1:(mid:Int)+(m:Int)-(b:Int)=(lo:Int):=za
   go_wp2;go_meet;exact⟨lo,mid,rfl,rfl,za,za,za,za,za,za,za,rfl⟩
  .have hz:decide ((mid:Int)<(m:Int))=yI:=qP1 za;go_wp2;go_meet;exact⟨a,m,rfl,rfl,za,za,za,za,za,za,za,rfl⟩
 case rest=>
  obtain⟨lo,hi,rfl,rfl,k1,k2,k3,k4,k5,k6,k7,rfl⟩:=hcut;go_wp2;go_loopg [20,21] (hi-lo) (fun kx a1 a4 wr=>∃(s r:Nat),a1=qX qm s/\a4=qX qm r/\lo<=s/\s<=r/\r<=hi/\r-s<=kx/\Aside (lo<s->(ltOf y) d[mid+m-s]! d[s-1]! =yI)/\Aside (r<hi->(ltOf y) d[mid+m-1-r]! d[r]! =yH)/\Aside (SW enc w0 a0 off d wr))
  case atStart=>exact⟨lo,hi,rfl,rfl,za,za,za,za,fun h=>za,fun h=>za,S0⟩
  case round=>
   clear S0;obtain⟨s,r,rfl,rfl,ad,am,ak,ab,H1,H2,q⟩:=hrel;by_cases ae:s<r
   .have F:(s:Int)<(r:Int):=za
    obtain⟨c,K⟩:=zB ((s+r)/2);have ec:((s:Int)+(r:Int))/2=(c:Int):=za
    obtain⟨p,H⟩:=zB (mid+m-1-c);have ep:(mid:Int)+(m:Int)-1-(c:Int)=(p:Int):=za
    have rp:IntKind.i64.wrap (p:Int)=(p:Int):=by rw[qT8];omega
    have aa:(c:Int)<(d.size:Int):=za
    have aj:(p:Int)<(d.size:Int):=za
    obtain⟨x1,n⟩:∃x,x=d[p]! :=⟨_,rfl⟩;obtain⟨y1,l⟩:∃x,x=d[c]! :=⟨_,rfl⟩;have l1:=q.out.cl R za p za;have l2:=q.out.cl R za c za;rw[<-n]at l1;rw[<-l]at l2;have hc:=q.out.cmp HC.out za x1 y1;cases hlv:(ltOf y) d[p]! d[c]! with
    |false=>as_aux_lemma=>
     have hv:¬y x1 y1<0:=by rw[n,l];exact of_decide_eq_false hlv
     have hd:decide (y x1 y1<0)=yI:=qP1 hv;have H3:Aside (lo<c+1->(ltOf y) d[mid+m-(c+1)]! d[c+1-1]! =yI):=fun _=>by
      rw[show mid+m-(c+1)=p by omega,qSr];exact hlv
     have X:s<=c:=za
     have Y:c<r:=za
     clear n l hlv K H;go_wp2_with fail;go_quiet_grown (first|(go_at_fn g;refine Calls.grown_of (hc _ _)));have S2:Aside (SW enc w0 a0 off d (grow (wr.drewN nq) osq)):=q.out.grown nq osq;clear l1 l2 hc q;generalize grow (wr.drewN nq) osq=w2 at S2⊢;clear nq osq ep;go_wp2;go_roundg (r-(c+1))
     case measure=>exact za
     case rel=>exact⟨c+1,r,by go_num,rfl,za,za,za,za,H3,H2,S2⟩
    |true=>as_aux_lemma=>
     have hv:y x1 y1<0:=by rw[n,l];exact qTm hlv
     have hd:decide (y x1 y1<0)=yH:=qQ hv;have H3:Aside (c<hi->(ltOf y) d[mid+m-1-c]! d[c]! =yH):=fun _=>by
      rw[H];exact hlv
     have X:s<=c:=za
     have Y:c<r:=za
     clear n l hlv K H;go_wp2_with fail;go_quiet_grown (first|(go_at_fn g;refine Calls.grown_of (hc _ _)));have S2:Aside (SW enc w0 a0 off d (grow (wr.drewN nq) osq)):=q.out.grown nq osq;clear l1 l2 hc q;generalize grow (wr.drewN nq) osq=w2 at S2⊢;clear nq osq ep;go_wp2;go_roundg (c-s)
     case measure=>exact za
     case rel=>exact⟨s,c,rfl,rfl,za,za,za,za,H1,H3,S2⟩
   .obtain rfl:s=r:=za
    obtain⟨e,he⟩:=zB (mid+m-s);have ee:(mid:Int)+(m:Int)-(s:Int)=(e:Int):=za
    have F1:=yT (a<s->e<b->(ltOf y) d[e]! d[s-1]! =yI) (fun h1 h2=>by
     have h3:=H1.out za;rwa[he]at h3)
    have F2:=yT (s<m->m<e->(ltOf y) d[e-1]! d[s]! =yH) (fun h1 h2=>by
     have h3:=H2.out za;rwa[show mid+m-1-s=e-1 by omega]at h3)
    have g1:a<=s:=za
    have g2:s<=m:=za
    have g3:m<=e:=za
    have g4:e<=b:=za
    have g5:s+e=mid+m:=za
    have g6:s<=mid:=za
    have g7:mid<=e:=za
    clear H1 H2 he;go_upto_region 38 with fail;go_cut [20,24] (fun a1 a2 wx=>a1=qX qm s/\a2=qX qm e/\wr=wx)
    case first=>
     go_wp2;go_meet;exact⟨rfl,rfl,rfl⟩
    case rest=>
     obtain⟨rfl,rfl,rfl⟩:=hcut
     apply_assumption
     apply wp_seq_k;intro K2 a7;go_cut [20,24] (fun a1 a2 wx=>a1=qX qm s/\a2=qX qm e/\∃d1,Aside (Rot d s m e d1)/\Aside (SW enc w0 a0 off d1 wx))
     case first=>as_aux_lemma=>
      by_cases q1:s<m
      .by_cases q2:m<e
       .have b1:decide ((s:Int)<(m:Int))=yH:=qQ za;have b2:decide ((m:Int)<(e:Int))=yH:=qQ za;have HR:=zH (zZl enc (.func (.func g) #[] cb) a0 off a3 s m e d0 d w0 wr R hs q.out za za za Z);go_wp2_with fail;(with_reducible refine HR.out.mono ?_);rintro e' w2 ⟨rfl,z,L,B⟩;go_wp2;go_meet;exact⟨rfl,rfl,z,L,B⟩
       .have b1:decide ((s:Int)<(m:Int))=yH:=qQ za;have b2:decide ((m:Int)<(e:Int))=yI:=qP1 za;go_wp2;go_meet;exact⟨rfl,rfl,d,Rot.none d za za za,q.out⟩
      .have b1:decide ((s:Int)<(m:Int))=yI:=qP1 za;go_wp2;go_meet;exact⟨rfl,rfl,d,Rot.none d za za za,q.out⟩
     case rest=>
      obtain⟨rfl,rfl,d1,G,q⟩:=hcut;obtain⟨W,rfl⟩:∃wo,wo=wc:=⟨_,rfl⟩;have F:d1.size=d.size:=G.out.perm.1;have HF:=zH (half HO.out HP.out g1 g2 g3 g4 hb g5 F1.out F2.out G.out)
      apply_assumption
      apply wp_seq_k;intro K3 a8;go_cut [20,24] (fun a1 a2 wx=>a1=qX qm s/\a2=qX qm e/\∃z,Aside (PermIn a mid d1 z/\SortedIn t a mid z)/\Aside (SW enc w0 a0 off z wx))
      case first=>as_aux_lemma=>
       by_cases q1:a<s
       .by_cases q2:s<mid
        .have b1:decide ((a:Int)<(s:Int))=yH:=qQ za;have b2:decide ((s:Int)<(mid:Int))=yH:=qQ za;have HR:=zH (IH.out a s mid za za za d1 W za q.out za HF.out.one);rw[F]at HR;go_wp2_with fail;(with_reducible refine HR.out.mono ?_);rintro e' w2 ⟨rfl,z,u,B⟩;go_wp2;go_meet;exact⟨rfl,rfl,z,u,B⟩
        .have b1:decide ((a:Int)<(s:Int))=yH:=qQ za;have b2:decide ((s:Int)<(mid:Int))=yI:=qP1 za;go_wp2;go_meet;exact⟨rfl,rfl,d1,⟨permIn_refl _ _ _,HF.out.one.done za⟩,q.out⟩
       .have b1:decide ((a:Int)<(s:Int))=yI:=qP1 za;go_wp2;go_meet;exact⟨rfl,rfl,d1,⟨permIn_refl _ _ _,HF.out.one.done za⟩,q.out⟩
      case rest=>
       obtain⟨rfl,rfl,z,k,S2⟩:=hcut;obtain⟨V,rfl⟩:∃wo,wo=wc:=⟨_,rfl⟩;have P:z.size=d.size:=k.out.1.1.trans F;have j:=zH (HF.out.first za za za g7 k.out.1);have f:=yT (∀d3,PermIn mid b z d3->PermIn a b d d3) (fun d3 h3=>
        permIn_trans _ _ _ _ _ (permIn_trans _ _ _ _ _ (permIn_mono _ _ _ _ _ _ g1 g4 hb G.out.perm) (permIn_mono _ _ _ _ _ _ (qPq _) za za k.out.1)) (permIn_mono _ _ _ _ _ _ za (qPq _) za h3))
       as_aux_lemma=>
       by_cases q1:mid<e
       .by_cases q2:e<b
        .have b1:decide ((mid:Int)<(e:Int))=yH:=qQ za;have b2:decide ((e:Int)<(b:Int))=yH:=qQ za;have HR:=zH (IH.out mid e b za za za z V za S2.out za j.out.1);rw[P]at HR;go_wp2_with fail;(with_reducible refine HR.out.mono ?_);rintro e' w2 ⟨rfl,d3,u,O⟩;have i:=both za za za k.out.2 j.out.2 u.1 u.2;obtain⟨o,f⟩:=yU i (f.out _ u.1);go_wp2;go_end0;exact⟨rfl,d3,⟨f.out,o.out⟩,O⟩
        .have b1:decide ((mid:Int)<(e:Int))=yH:=qQ za;have b2:decide ((e:Int)<(b:Int))=yI:=qP1 za;have i:=both za za za k.out.2 j.out.2 (permIn_refl _ _ _) (j.out.1.done za);obtain⟨o,f⟩:=yU i (f.out _ (permIn_refl _ _ _));go_wp2;go_end0;exact⟨rfl,z,⟨f.out,o.out⟩,S2.out⟩
       .have b1:decide ((mid:Int)<(e:Int))=yI:=qP1 za;have i:=both za za za k.out.2 j.out.2 (permIn_refl _ _ _) (j.out.1.done za);obtain⟨o,f⟩:=yU i (f.out _ (permIn_refl _ _ _));go_wp2;go_end0;exact⟨rfl,z,⟨f.out,o.out⟩,S2.out⟩
end St
namespace St
open Go.Lib Go.Sort Go.Proofs
variable {α:Type} [Inhabited α]
theorem zUj (enc:α->yD) (h:α->α->Int) {t:α->α->Bool} {I:α->Nat} (n:Ord (ltOf h) t I) (g:Nat) (f:Array yD) (e off i:Nat) (c:Array α) (w0:yC) (l:∀args w,(callFunc g args).run yK w= .ok (.enter g args) w)
  (j:CmpLays1 yK g f enc h e off c.size w0) (R:Row1 enc w0 e off c) (q:c.size<1000000000):
  ∀(k a m b:Nat),b-a<=k->a<m->m<b->qBs enc t I g f e off i c w0 a m b
 |0,a,m,b,hk,h1,h2=>za
 |k+1,a,m,b,hk,h1,h2=>by
  by_cases s:m=a+1
  .subst s;intro d w p S r o;exact zWn enc h n g f e off i a b c d w0 w l j R p S h2 r za o
  .by_cases u:b=m+1
   .subst u;intro d w p S r o;exact zUk enc h n g f e off i a m c d w0 w l j R p S za za za o
   .exact zWm enc h n g f e off i a m b c w0 l j R za za q (fun a' m' b' z x y=>zUj enc h n g f e off i c w0 l j R q k a' m' b' za x y)
end St
namespace St
open Go.Lib Go.Sort Go.Proofs
variable {α:Type} [Inhabited α]
structure Tw (t:α->α->Bool) (I:α->Nat) (n a:Nat) (d dk:Array α):Prop where
 mul:Mul 20 a
 fst:Fst I n 20 dk
 blk:Blk t n 20 0 a dk
 rest:∀p q,a<=p->p<q->q<n->I dk[p]! <I dk[q]!
 perm:PermIn 0 n d dk
theorem Tw.start {t:α->α->Bool} {I:α->Nat} {n:Nat} {d:Array α} (h:∀p q,p<q->q<n->I d[p]! <I d[q]!):Tw t I n 0 d d:=
 ⟨Mul.zero _,fun c _ p q e a b=>h p q za b,fun c _ _ a=>za,fun p q _ a b=>h p q a b,permIn_refl _ _ _⟩
theorem Tw.step {lt t:α->α->Bool} {I:α->Nat} {n a b:Nat} {d dk:Array α} (j:Ord lt t I) (h:Tw t I n a d dk) (r:n=d.size) (i:b=min (a+20) n) (o:a<=n):Tw t I n (a+20) d (insertionSort lt dk a b):=by
 have s:=h.perm.1;obtain⟨c,l⟩:=qAq j dk a b za za (fun m k f e g=>h.rest m k f e za);refine⟨h.mul.next,h.fst.perm h.mul za za za za c,h.blk.more h.mul za i c l,fun p q f e g=> ?_,?_⟩
 .rw[c.2.1 p (qy za),c.2.1 q (qy za)];exact h.rest p q za e g
 .exact permIn_trans _ _ _ _ _ h.perm (permIn_mono _ _ _ _ _ _ (qQl _) za za c)
theorem Tw.all {t:α->α->Bool} {I:α->Nat} {n a:Nat} {d dk:Array α} (h:Tw t I n a d dk) (g:n<=a):Fst I n 20 dk/\Blk t n 20 0 n dk:=
 ⟨h.fst,fun c b e f=>h.blk c b e za⟩
theorem zZb (enc:α->yD) (M:α->α->Int) {t:α->α->Bool} {I:α->Nat} (ho:Ord (ltOf M) t I) (g:Nat) (P:Array yD) (y off W:Nat) (d:Array α) (w0:yC) (eg:∀args w,(callFunc g args).run yK w= .ok (.enter g args) w)
  (a0:CmpLays1 yK g P enc M y off d.size w0) (R:Row1 enc w0 y off d) (a1:d.size<1000000) (w:yC) (S:SW enc w0 y off d w) (hI:∀p q,p<q->q<d.size->I d[p]! <I d[q]!):
  yG yK 242 #[qZ (yA ⟨y,off,yB⟩) d.size W,qX qm (d.size:Int),.func (.func g) #[] P] w fun e w'=>e=qx (qg #[])/\∃d',(PermIn 0 d.size d d'/\SortedIn t 0 d.size d')/\SW enc w0 y off d' w':=by
 have x:=R.hO.cells;simp only[Value.cells]at x;have S0:Aside (SW enc w0 y off d w):=S;obtain⟨HC,HO⟩:=yU a0 ho;obtain⟨n,hn⟩:=zB d.size;rw[hn]at a1 hI⊢;obtain⟨T0,H⟩:=yU (Tw.start (t:=t) hI) hn;clear S a0 ho hI hn;go_enter func242,ntmps242;go_wp2;go_loopg [7,8] n (fun Y s7 s8 wr=>∃(a:Nat) (dk:Array α),s7=qX qm a/\s8=qX qm ((a+20:Nat):Int)/\a<=n/\n-a<=Y/\yL (Tw t I n a d dk)/\Aside (SW enc w0 y off dk wr))
 case atStart=>exact⟨0,d,rfl,rfl,za,za,T0,S0⟩
 case round=>
  clear S0 T0;obtain⟨a,dk,rfl,rfl,k,o,TW,G⟩:=hrel;have c:dk.size=n:=by rw[TW.out.perm.1,H.out]
  obtain⟨b,V⟩:=zB (a+20);rw[V];by_cases r:b<=n
  .have l:decide ((b:Int)<=(n:Int))=yH:=qQ za;have z:=zH (insertionSortCmpFunc_s enc M g P y off W a b d dk w0 wr eg HC.out R (by rw[c,H.out]) G.out za za za);rw[c]at z;go_wp2_with fail;(with_reducible refine z.out.mono ?_);rintro e w2 ⟨rfl,h⟩;have S2:Aside (SW enc w0 y off (insertionSort (ltOf M) dk a b) w2):=h;have O:=zH (TW.out.step HO.out H.out.symm (b:=b) za k);rw[V]at O;clear h z TW G;go_wp2;go_roundg (n-b)
   case measure=>exact za
   case rel=>exact⟨b,_,rfl,by go_num,za,za,O,S2⟩
  .have l:decide ((b:Int)<=(n:Int))=yI:=qP1 za;have z:=zH (insertionSortCmpFunc_s enc M g P y off W a n d dk w0 wr eg HC.out R (by rw[c,H.out]) G.out za za za);rw[c]at z;go_wp2_with fail;(with_reducible refine z.out.mono ?_);rintro e w2 ⟨rfl,h⟩;have S2:Aside (SW enc w0 y off (insertionSort (ltOf M) dk a n) w2):=h;have O:=zH (TW.out.step HO.out H.out.symm (b:=n) za k);obtain⟨A2,P2⟩:=yU (O.out.all za) O.out.perm;clear O z TW h G l r V k o;go_wp2;go_loopg [6,7,8] n (fun Y s6 s7 s8 wr=>∃(s:Nat) (dk:Array α),s6=qX qm s/\0<s/\s<=2000000/\n-s<=Y/\yL (Fst I n s dk/\Blk t n s 0 n dk)/\yL (PermIn 0 n d dk)/\Aside (SW enc w0 y off dk wr))
   case atStart=>exact⟨20,_,rfl,za,za,za,A2,P2,S2⟩
   case round=>
    clear S2 P2 A2;obtain⟨s,dk,rfl,j,h,o,Z,K,G⟩:=hrel;have c:dk.size=n:=by rw[K.out.1,H.out]
    by_cases r:s<n
    .have l:decide ((s:Int)<(n:Int))=yH:=qQ za;have L0:=zH (Lev.start Z.out.1 Z.out.2);clear Z c;go_wp2;go_loopg [7,8] n (fun Y s7 s8 wr=>∃(a:Nat) (dk:Array α),s7=qX qm a/\s8=qX qm ((a+2*s:Nat):Int)/\a<=n/\n-a<=Y/\yL (Lev t I n s a dk)/\yL (PermIn 0 n d dk)/\Aside (SW enc w0 y off dk wr))
     case atStart=>exact⟨0,dk,rfl,by go_num,za,za,L0,K,G⟩
     case round=>
      clear L0 K G dk;obtain⟨a,dk,rfl,rfl,k,o,L,K,G⟩:=hrel;have c:dk.size=n:=by rw[K.out.1,H.out]
      obtain⟨b,V⟩:=zB (a+2*s);rw[V];by_cases u:b<=n
      .have B:decide ((b:Int)<=(n:Int))=yH:=qQ za;have z:=zH (zUj enc M HO.out g P y off W d w0 eg HC.out R (by rw[H.out];omega) (b-a) a (a+s) b (qPq _) za za dk wr (by rw[c,H.out]) G.out za (L.out.pre za za j za));rw[c]at z;obtain⟨m,hm⟩:=zB (a+s);rw[hm]at z;have em:(a:Int)+(s:Int)=(m:Int):=za
       go_wp2_with fail;(with_reducible refine z.out.mono ?_);rintro e w3 ⟨rfl,X,f,i⟩;have S3:Aside (SW enc w0 y off X w3):=i;obtain⟨N,P3⟩:=yU (L.out.more (b:=b) za za j za f.1 f.2) (permIn_trans _ _ _ _ _ K.out (permIn_mono _ _ _ _ _ _ (qQl _) u za f.1));rw[V]at N;clear i z L K G f em;go_wp2;go_roundg (n-b)
       case measure=>exact za
       case rel=>exact⟨b,X,rfl,by go_num,za,za,N,P3,S3⟩
      .have B:decide ((b:Int)<=(n:Int))=yI:=qP1 za;obtain⟨m,hm⟩:=zB (a+s);have em:(a:Int)+(s:Int)=(m:Int):=za
       by_cases a2:m<n
       .have F:decide ((m:Int)<(n:Int))=yH:=qQ za;have z:=zH (zUj enc M HO.out g P y off W d w0 eg HC.out R (by rw[H.out];omega) (n-a) a (a+s) n (qPq _) za za dk wr (by rw[c,H.out]) G.out za (L.out.pre za za j za));rw[c,hm]at z;go_wp2_with fail;(with_reducible refine z.out.mono ?_);rintro e w3 ⟨rfl,X,f,i⟩;have S3:Aside (SW enc w0 y off X w3):=i;obtain⟨N,P3⟩:=yU ((L.out.more (b:=n) za za j za f.1 f.2).end_ za) (permIn_trans _ _ _ _ _ K.out (permIn_mono _ _ _ _ _ _ (qQl _) (qPq _) za f.1));clear i z L K G f em;go_wp2;go_roundg (n-2*s)
        case measure=>exact za
        case rel=>exact⟨2*s,X,by go_num,za,za,za,N,P3,S3⟩
       .have F:decide ((m:Int)<(n:Int))=yI:=qP1 za;have N:=zH ((L.out.tail j za).end_ za);clear L;go_wp2;go_roundg (n-2*s)
        case measure=>exact za
        case rel=>exact⟨2*s,dk,by go_num,za,za,za,N,K,G⟩
    .have l:decide ((s:Int)<(n:Int))=yI:=qP1 za;have HF:=zH (Z.out.2.all za);go_wp2;go_end0;exact⟨rfl,dk,⟨K.out,HF.out⟩,G.out⟩
theorem zP3 (enc:α->yD) (f:α->α->Int) {t:α->α->Bool} {I:α->Nat} (u:Ord (ltOf f) t I) (g:Nat) (c:Array yD) (b off i:Nat) (d:Array α) (r:∀args w,(callFunc g args).run yK w= .ok (.enter g args) w)
  (w:yC) (h:CmpLays1 yK g c enc f b off d.size w) (R:Row1 enc w b off d) (j:d.size<1000000) (S:SW enc w b off d w) (l:∀p q,p<q->q<d.size->I d[p]! <I d[q]!):
  yG yK 181 #[qZ (yA ⟨b,off,yB⟩) d.size i,.func (.func g) #[] c] w fun e w'=>e=qx (qg #[])/\∃d',(PermIn 0 d.size d d'/\SortedIn t 0 d.size d')/\SW enc w b off d' w':=by
 have k:=zH (zZb enc f u g c b off i d w r h R j w S l);obtain⟨n,m⟩:=zB d.size;rw[m]at k⊢;clear h R j S l m;go_enter func181,ntmps181;go_wp2_with fail;(with_reducible refine k.out.mono ?_);rintro e w2 ⟨rfl,o,s,a⟩;go_wp2;go_end0;exact⟨rfl,o,s,a⟩
end St
namespace St
open Go.Shelf Go.Lib Go.Sort Go.Proofs Tn Front
variable {w:yC} {g n B c m k:Nat} {os:Array Obj} {e:yE} {K:Nat->Nat}
theorem zRe {α:Type} [Inhabited α] (enc:α->yD) {a:Array yD} {fr:Nat×Nat} (d:Array α) (b:w.heap[g]? =yA (qp a e fr)):
  (sortWorld enc w g 0 n d os).heap[g]? =yA (qp (Sort.putCells enc 0 d a) e fr):=by
 have f:g<w.heap.size:=(qQ7.1 b).1;unfold sortWorld;rw[qUb _ _ (by rw[size_putRow];exact f)];simp[Sort.putRow,Sort.mapBlock,Sort.ahead,qQt,b,Sort.onCells]
theorem zD7 {α:Type} [Inhabited α] (enc:α->yD) (d:Array α):w.grownBy (sortWorld enc w g 0 n d os) (yA g):=by
 unfold sortWorld;refine⟨rfl,rfl,rfl,by simp[Sort.putRow,Sort.mapBlock,Sort.ahead],fun k a hne=> ?_⟩;rw[qUb _ _ (by rw[size_putRow];exact a)];have:g≠k:=fun e=>hne (by rw[e]);simp[Sort.putRow,Sort.mapBlock,Sort.ahead,qQt,this]
theorem zWg {α:Type} [Inhabited α] (enc:α->yD) (a:Array yD) (d:Array α) (h:d.size<=a.size):(Sort.putCells enc 0 d a).toList.take d.size=d.toList.map enc:=by
 apply qRt;intro j;by_cases b:j<d.size
 .rw[qUe b,qS4,qP3,qS4];simp[Sort.putCells,b,show j<a.size by omega]
 .rw[List.getElem?_take_eq_none za,qQq zq]
theorem zKi {α:Type} [Inhabited α] (enc:α->yD) {xs:List yD} (h:yu w B e (yA ⟨g,0,yB⟩) n c xs) (d:Array α) (hd:d.size=n):yu (sortWorld enc w g 0 m d os) B e (yA ⟨g,0,yB⟩) n c (d.toList.map enc):=by
 obtain⟨q,j⟩:=h;refine⟨by simp[hd],?_⟩;rcases j with⟨j,_⟩|⟨g',p,a,hv,b,o,i,f,l,r⟩
 .cases j
 .injection hv with ha hn hc
  injection ha with ha
  injection ha with ha
  subst ha hc;refine qy ⟨g,c,_,rfl,b,zRe enc d o,i,f,by simp[Sort.putCells,l],?_⟩;rw[Nat.mul_one,<-hd];exact zWg enc a d (by rw[l];omega)
theorem zOk {α:Type} [Inhabited α] (enc:α->yD) {d:Array α} (h:yu w B e (yA ⟨g,0,yB⟩) n c (d.toList.map enc)) (f:0<n):Holds enc w g 0 d:=by
 obtain⟨g',a,_,_,_,i,l⟩:=h.at_ f;injection a with a
 injection a with a _ _
 subst a;have o:=h.len;intro j b;rw[qQj,Array.length_toList]at o;refine⟨?_,l _⟩;rw[qQd,i j za,qP3,qS4,qT3 b,qS9 d j b];rfl
theorem zT4 {α:Type} (d:Array α) (h:d.size=n):d.extract 0 n=d:=by subst h;simp
def tK (K:Nat->Nat) (x y:Fin (k+1)):Bool:=yJ (K x.val<K y.val)||(K x.val==K y.val&&yJ (x.val<y.val))
theorem zM3 {x y:Fin (k+1)}:tK K x y=yH↔K x.val<K y.val\/(K x.val=K y.val/\x.val<y.val):=by simp[tK]
theorem zK0 {x y:Fin (k+1)}:tK K x y=yI↔K y.val<K x.val\/(K y.val=K x.val/\y.val<=x.val):=by
 rw[<-Bool.not_eq_true,zM3];omega
theorem qEv (K:Nat->Nat) (k:Nat):SWO (tK K (k:=k)):=
 ⟨fun x=>by rw[zK0];omega,fun x y z a b=>by rw[zM3]at*;omega,fun x y z a b=>by rw[zK0]at*;omega⟩
def cfF (n m:Nat) (f:Nat->Nat) (x y:Fin (k+1)):Int:=cf2 n m f x.val y.val
theorem qFf {f:Nat->Nat} (b:n=k+1) (h:∀i j,i<n->j<n->(cf2 n m f i j<0↔K i<K j)):Ord (ltOf (cfF n m f (k:=k))) (tK K) (fun x=>x.val):=by
 refine⟨qEv K k,fun x y a=> ?_⟩;rw[qSg,zM3];show yJ (cf2 n m f y.val x.val<0)=yH↔_;rw[qRm,h y.val x.val za za];omega
def zG1 (x:Fin (k+1)):yD:=qX qm ((x.val:Nat):Int)
theorem qA6:OneCell (zG1 (k:=k)):=by
 intro x;rfl
def fr (k:Nat):Array (Fin (k+1)):=(List.finRange (k+1)).toArray
theorem zFq (k:Nat):(fr k).size=k+1:=by simp[fr]
theorem qF6 (k:Nat):(fr k).toList.map zG1=(yO (k+1)).map ival:=by
 apply qRt;intro j;by_cases a:j<k+1
 .simp[fr,a,zG1,ival]
 .rw[qQq (by simp[fr];omega),qQq zq]
theorem qCa (k j:Nat) (h:j<k+1):((fr k)[j]!).val=j:=by
 rw[qS9 (fr k) j (by rw[zFq];exact h)];simp[fr]
theorem zGc {d:Array (Fin (k+1))} (r:PermIn 0 (k+1) (fr k) d) (s:SortedIn (tK K) 0 (k+1) d):
  (d.toList.map Fin.val).Perm (yO (k+1))/\By K (d.toList.map Fin.val)/\d.size=k+1:=by
 obtain⟨c,_,b⟩:=r;have hd:d.size=k+1:=by rw[c,zFq]
 have a:(d.toList.map Fin.val).Perm (yO (k+1)):=by
  rw[zT4 d hd,zT4 (fr k) (zFq k)]at b;have q:=b.map Fin.val;refine q.trans ?_;have:(fr k).toList.map Fin.val=yO (k+1):=by
   apply qRt;intro j;by_cases l:j<k+1
   .simp[fr,l]
   .rw[qQq (by simp[fr];omega),qQq zq]
  rw[this]
 have h:(d.toList.map Fin.val).Nodup:=a.nodup_iff.2 qTx;refine⟨a,?_,hd⟩;unfold By;rw[qSf];intro i j hi l o;have g:i<d.size:=by simpa using hi
 have f:j<d.size:=by simpa using l
 have p:=s i j za o za;rw[qS9 d i g,qS9 d j f,zK0]at p;have hne:(d.toList.map Fin.val)[i]≠(d.toList.map Fin.val)[j]:=fun e=>by
  have:=zOo h hi l e;omega
 simp only[List.getElem_map,Array.getElem_toList]at hne⊢;omega
abbrev TI_:yE:=305
def iv (r:RK):yD:=ql TR (rv r)
theorem zWu (r:RK) (b i j:Nat) (f:Nat->Nat) (w:yC) (q:r.s.size=r.n) (p:r.n<=1000000) (o:r.m<=2000000) (hi:i<r.n) (l:j<r.n) (h:∀k,k<r.n->w.cell? ⟨r.N,k,yB⟩=yA (qX qm (f k:Int))) (d:w.cell? ⟨b,0,yB⟩=yA (iv r)):
  yG yK 182 #[i,j,qc (yA ⟨b,0,yB⟩)] w fun e w'=>e=qx (qX qm (cf2 r.n r.m f i j))/\Grn w w':=by
 have a:=zH (zKt r i j f w q p o hi l h);obtain⟨v,hv⟩:=zB (cf2 r.n r.m f i j);rw[hv]at a⊢;clear q p o hi l h hv;unfold iv at d;unfold rv at d a;have t:∀w,(method 625 TR (.agg #[qY r.s,qZ (yA ⟨r.N,0,yB⟩) r.n r.c,qX qm (r.m:Int)]) "pressmark/turns.compare").run yK w= .ok (130,.agg #[qY r.s,qZ (yA ⟨r.N,0,yB⟩) r.n r.c,qX qm (r.m:Int)]) w:=fun _=>zf
 go_enter func182,ntmps182;go_wp2_with fail;(with_reducible refine a.out.mono ?_);rintro e w2 ⟨rfl,s⟩;go_wp2;go_ret;exact⟨rfl,s⟩
theorem qHr (r:RK) (k S G:Nat) (f:Nat->Nat) (W:yC) (t:r.n=k+1) (q:r.s.size=r.n) (p:r.n<=1000000) (o:r.m<=2000000) (i:∀k,k<r.n->W.cell? ⟨r.N,k,yB⟩=yA (qX qm (f k:Int))) (h:W.cell? ⟨S,0,yB⟩=yA (iv r)) (b:r.N≠G) (d:S≠G):
  CmpLays1 yK 182 #[qc (yA ⟨S,0,yB⟩)] (zG1 (k:=k)) (cfF r.n r.m f) G 0 (fr k).size W:=by
 intro m os dk s x y;have a:=zD7 (zG1 (k:=k)) (w:=W) (g:=G) (n:=m) (os:=os) dk;exact zWu r S x.val y.val f _ q p o za za (fun j l=>a.cell (i j l) (fun e=>by injection e with e;exact b e)) (a.cell h (fun e=>by injection e with e;exact d e))
theorem zZc (r:RK) (K f:Nat->Nat) (G c B:Nat) (w:yC) (hs:r.s.size=r.n) (H:0<r.n) (O:r.n<=100000) (hm:r.m<=2000000) (X:∀i j,i<r.n->j<r.n->(cf2 r.n r.m f i j<0↔K i<K j)) (L:r.N≠G) (hc:∀k,k<r.n->w.cell? ⟨r.N,k,yB⟩=yA (qX qm (f k:Int)))
  (P:yu w B 3 (yA ⟨G,0,yB⟩) r.n c ((yO r.n).map ival)):
  yG yK 129 #[qZ (yA ⟨G,0,yB⟩) r.n c,iv r] w fun e w'=>e=qx (qg #[])/\∃o:List Nat,o.Perm (yO r.n)/\By K o/\yu w' B 3 (yA ⟨G,0,yB⟩) r.n c (o.map ival)/\w.grownBy w' (yA G):=by
 obtain⟨k,z⟩:∃k,r.n=k+1:=⟨r.n-1,za⟩;obtain⟨S,M⟩:=zB w.heap.size;obtain⟨W,y⟩:=zB (w.alloc (qp #[iv r] TI_));have u:G<w.heap.size:=by
  obtain⟨g',a,_,a0,_⟩:=P.at_ H;injection a with a
  injection a with a _ _
  omega
 have Z:W.cell? ⟨S,0,yB⟩=yA (iv r):=by rw[<-y,<-M];simp
 have l:w.grownBy W (yA G):=by rw[<-y];exact qR4 w _ _
 have b:yu W B 3 (yA ⟨G,0,yB⟩) r.n c ((fr k).toList.map zG1):=by rw[qF6,<-z,<-y];exact P.alloc _
 have t:∀k,k<r.n->W.cell? ⟨r.N,k,yB⟩=yA (qX qm (f k:Int)):=fun j hj=>l.cell (hc j hj) (fun e=>by injection e with e;exact L e);have N:=zOk zG1 b H;have g:=zP3 (zG1 (k:=k)) (cfF r.n r.m f) (qFf z X) 182 #[qc (yA ⟨S,0,yB⟩)] G 0 c (fr k) (enters_of func182 zf rfl) W (qHr r k S G f W z hs za hm t Z L za) ⟨qA6,N,by rw[<-y];simp;omega⟩ (by rw[zFq];omega) (SW.start N) (fun p q I s=>by rw[zFq]at s;rw[qCa k p za,qCa k q s];exact I);rw[zFq]at g;have HF:=yT (∀d w',(PermIn 0 (k+1) (fr k) d/\SortedIn (tK K) 0 (k+1) d)/\SW zG1 W G 0 d w'->∃o:List Nat,o.Perm (yO (k+1))/\By K o/\yu w' B 3 (yA ⟨G,0,yB⟩) (k+1) c (o.map ival)/\w.grownBy w' (yA G)) (fun d w' h=>by
  obtain⟨⟨I,s⟩,m,os,rfl⟩:=h;obtain⟨h3,h4,h5⟩:=zGc I s;rw[z]at b;refine⟨_,h3,h4,?_,l.trans (zD7 _ _)⟩;have h6:=zKi (zG1 (k:=k)) (m:=m) (os:=os) b d h5;rw[qRr];exact h6)
 obtain⟨F,V,HS⟩:=yV g y M;clear g y M Z l b t N u hc P X L hs O hm H;unfold iv at*;rw[z];clear z;obtain⟨n,O⟩:=zB (k+1);obtain⟨R,Y⟩:=zB (rv r);rw[Y]at V⊢;clear Y O;go_enter func129,ntmps129;go_wp2_with fail;rw[HS.out,show w.alloc (qp #[ql TR R] TI_)=W from V.out];(with_reducible refine F.out.mono ?_);rintro e w2 ⟨rfl,d2,s,x⟩;go_wp2;go_end0;exact⟨rfl,HF.out d2 w2 ⟨s,x⟩⟩
end St
namespace St
open Go.Lib Go.Sort Go.Proofs Front
theorem zHf:∀{l m:List Int},l.Perm m->l.Pairwise (·<=·)->m.Pairwise (·<=·)->l=m
 |[],m,hp,_,_=>hp.symm.eq_nil.symm▸rfl
 |x::l,m,hp,hl,hm=>by
  cases m with
  |nil=>exact absurd hp.length_eq zm
  |cons y m=>
   obtain⟨b,c⟩:=qQ3.1 hl;obtain⟨d,f⟩:=qQ3.1 hm;have e:x=y:=by
    rcases qP6.1 (hp.mem_iff.1 (qTw))with e|g
    .exact e
    .rcases qP6.1 (hp.mem_iff.2 (qTw (a:=y) (l:=m)))with e|h
     .exact e.symm
     .have i:=b y h;have j:=d x g;omega
   subst e;rw[zHf (hp.cons_inv) c f]
def zs (l:List Nat):List Int:=l.map fun k:Nat=>(k:Int)
theorem qCj {l:List Nat} {n:Nat} (d:l.Perm (yO n)):(zs l).mergeSort (fun x y=>decide (x<=y))=zs (yO n):=by
 refine zHf ((List.mergeSort_perm _ _).trans (d.map _)) ?_ ?_
 .have h:=List.pairwise_mergeSort (le:=fun x y:Int=>decide (x<=y)) (fun a b c e f=>by simp at*;omega) (fun a b=>zq) (zs l);exact h.imp (fun h=>by simpa using h)
 .unfold zs;rw[List.pairwise_map];have h:(yO n).Pairwise (·<·):=List.pairwise_lt_range;exact h.imp (fun h=>za)
theorem zV1 (l:List Nat):(zs l).map (Value.int qm)=l.map ival:=by unfold zs;rw[qRr];rfl
theorem zXp (l:List Nat) (g n c B:Nat) (w:yC) (k:kN l=n) (b:0<n) (r:n<=1000000) (h:yu w B 3 (yA ⟨g,0,yB⟩) n c (l.map ival)) (o:l.Perm (yO n)):
  yG yK 128 #[qZ (yA ⟨g,0,yB⟩) n c] w fun e w'=>e=qx (qg #[])/\yu w' B 3 (yA ⟨g,0,yB⟩) n c ((yO n).map ival)/\w.grownBy w' (yA g):=by
 have p:kN (zs l)=n:=by unfold zs;rw[qQj,k]
 have j:Holds (Value.int qm) w g 0 (zs l).toArray:=zOk (Value.int qm) (by simpa [zV1]using h) b;have i:g<w.heap.size:=by
  obtain⟨g',a,_,q,_⟩:=h.at_ b;injection a with a
  injection a with a _ _
  omega
 have d:=slices_Sort_int g 0 c (zs l) w j i za;rw[p]at d;refine d.mono ?_;rintro e w' ⟨rfl,m,os,rfl⟩;rw[qCj o];have f:=zKi (Value.int qm) (m:=m) (os:=os) h (zs (yO n)).toArray (by simp[zs]);rw[show((zs (yO n)).toArray.toList.map (Value.int qm))=(yO n).map ival from by rw[<-zV1]]at f;exact⟨rfl,f,zD7 (Value.int qm) _⟩
end St
namespace St
open Go.Lib Go.Sort Go.Proofs Tn Bt Front Zr Wg
variable {w w' w0:yC} {R N' a c B G n N m:Nat} {V:Int} {l o:List Nat} {s:ByteArray} {f:Nat->Nat}
def RX (w:yC) (R:Nat) (r:RK):Prop:=w.heap[R]? =yA (qp #[qY r.s,qZ (yA ⟨r.N,0,yB⟩) r.n r.c,qX qm (r.m:Int)] TR)
theorem RX.rb {r:RK} (h:RX w R r):RB w R r:=by
 unfold RX at h;refine⟨?_,?_,?_⟩<;>simp[yQ,h]
theorem RX.fr {r:RK} (h:RX w R r) (i:Nat):w.frozen? ⟨R,i,yB⟩=yI:=by
 unfold RX at h;simp[World.frozen?,h]
theorem RX.lt {r:RK} (h:RX w R r):R<w.heap.size:=(qQ7.1 h).1
theorem RX.keep {r:RK} (h:RX w R r) (e:w'.heap[R]? =w.heap[R]?):RX w' R r:=e.trans h
theorem RX.set1 {r:RK} (h:RX w R r):RX (w.setCell ⟨R,1,yB⟩ (qZ (yA ⟨N',0,yB⟩) r.n r.n)) R ⟨r.s,N',r.n,r.n,r.m⟩:=by
 unfold RX at*;simp[World.setCell,qQt,h]
theorem RX.set2 {m':Nat} {r:RK} (h:RX w R r) (b:V=(m':Int)):RX (w.setCell ⟨R,2,yB⟩ (qX qm V)) R ⟨r.s,r.N,r.n,r.c,m'⟩:=by
 subst b;unfold RX at*;simp[World.setCell,qQt,h]
theorem zCw {k:Nat} (i:Nat) (v:yD) (h:a≠k):(w.setCell ⟨a,i,yB⟩ v).heap[k]? =w.heap[k]? :=by
 simp[World.setCell,qQt,h]
theorem zMb {D:Nat} {p:Option yF} {j:Nat} (h:yu w D 3 p j c (l.map ival)) (x:Nat) (t:j<=1000000) (g:D<=w.heap.size):
  ∃e c' w',(Builtin.append_ #[23,23] 23 #[qZ p j c,qZ (yA ⟨w,0,yB⟩) 1 1]).run yK (w.alloc (qp #[x] 3))= .ok (qZ e (j+1) c') w'/\
   yu w' D 3 e (j+1) c' ((l++[x]).map ival)/\yM D w w':=by
 obtain⟨k,c3,r,a,d,b⟩:=Kit.Own.app (ty:=23) (w:=w.alloc (qp #[x] 3)) zFn (h.alloc _) (yA ⟨w,0,yB⟩) 1 1 [ival x] (xM w _ 3) rfl (fun h=>by cases h) (zDr [x]) (by unfold maxLen;omega) za zq;refine⟨k,c3,r,a,by rw[qQb];exact d,?_⟩;exact((yR _ _).alloc g _).trans ((yR _ _).grown b zq (fun q i=>h.block q i))
structure OS (w0:yC) (B G c:Nat) (s:ByteArray) (n:Nat) (l o:List Nat) (N m:Nat) (f:Nat->Nat) (w:yC):Prop where
 own:yu w (B+2) 3 (yA ⟨G,0,yB⟩) n c (o.map ival)
 box:RX w (B+1) ⟨s,N,n,n,m⟩
 arr:zAm w N 3 n f
 below:yM B w0 w
 bg:B+2<=G
 gn:N≠G/\N≠B+1/\B<=N
 perm:o.Perm (yO n)
 rk:Rk l f (up1 m)
theorem OS.sorted {d:List Nat} (h:OS w0 B G c s n l o N m f w) (r:yu w' (B+2) 3 (yA ⟨G,0,yB⟩) n c (d.map ival)) (t:d.Perm (yO n)) (b:w.grownBy w' (yA G)):OS w0 B G c s n l d N m f w':=by
 have i:=h.bg;have j:=h.gn;have k:=h.box.lt;have p:=h.arr.lt;exact⟨r,h.box.keep (b.block _ k (fun e=>by injection e with e;omega)),h.arr.keep (b.block _ p (fun e=>by injection e with e;omega)),h.below.trans ((yR _ _).grown b za (fun q g=>by injection g with g;omega)),i,j,t,h.rk⟩
theorem OS.alloc (h:OS w0 B G c s n l o N m f w) (x:Obj):OS w0 B G c s n l o N m f (w.alloc x):=by
 have b:=h.box.lt;have d:=h.arr.lt;exact⟨h.own.alloc _,h.box.keep (Lib.alloc_old w _ _ b),h.arr.keep (Lib.alloc_old w _ _ d),h.below.alloc za _,h.bg,h.gn,h.perm,h.rk⟩
theorem OS.grn (h:OS w0 B G c s n l o N m f w) (g:Grn w w'):OS w0 B G c s n l o N m f w':=by
 have b:=h.box.lt;have d:=h.arr.lt;exact⟨h.own.below g.below (qPq _),h.box.keep (g.block _ b),h.arr.keep (g.block _ d),h.below.trans (g.below.mono za),h.bg,h.gn,h.perm,h.rk⟩
theorem OS.drew (h:OS w0 B G c s n l o N m f w):OS w0 B G c s n l o N m f w.drew:=h.grn (Grn.drew w)
theorem OS.zCw (h:OS w0 B G c s n l o N m f w) (j:a≠G) (d:a≠N) (g:a≠B+1) (b:B<=a) (i:Nat) (v:yD):OS w0 B G c s n l o N m f (w.setCell ⟨a,i,yB⟩ v):=
 ⟨qRz h.own (zB1 w a i v) (qy (by intro e;simp[Value.ownBlock]at e;omega)),h.box.keep (St.zCw _ _ g),h.arr.keep (St.zCw _ _ d),h.below.setCell (p:=⟨a,i,yB⟩) b v,h.bg,h.gn,h.perm,h.rk⟩
theorem OS.next {M:Nat} {F:Nat->Nat} (h:OS w0 B G c s n l o N m f w) (g:zAm w N' 3 n F) (j:N'≠G) (k:N'≠B+1) (i:B<=N') (b:Rk l F (up1 M)) (q:V=(M:Int)):
  OS w0 B G c s n l o N' M F ((w.setCell ⟨B+1,1,yB⟩ (qZ (yA ⟨N',0,yB⟩) n n)).setCell ⟨B+1,2,yB⟩ (qX qm V)):=by
 have d:=h.bg;refine⟨qRz (qRz h.own (zB1 w (B+1) 1 _) (qy (by intro e;simp[Value.ownBlock]at e;omega))) (zB1 _ (B+1) 2 _) (qy (by intro e;simp[Value.ownBlock]at e;omega)),?_,?_,(h.below.setCell (p:=⟨B+1,1,yB⟩) (qRu B) _).setCell (p:=⟨B+1,2,yB⟩) (qRu B) _,d,⟨j,k,i⟩,h.perm,b⟩
 .exact RX.set2 (RX.set1 (N':=N') h.box) q
 .exact(g.keep (St.zCw (a:=B+1) 1 _ za)).keep (St.zCw (a:=B+1) 2 _ za)
def fk (l:List Nat) (k j:Nat):Nat:=if j<k then l.getD j 0 else 0
theorem zOm (s:ByteArray) (n:Nat) (hn:s.size=n) (h0:0<n) (hs:n<=100000) (w:yC):
  yG yK 47 #[qY s] w fun e w'=>∃G c,e=qx (qZ (yA ⟨G,0,yB⟩) n c)/\yu w' w.heap.size 3 (yA ⟨G,0,yB⟩) n c ((zHx (bl s)).map ival)/\yM w w w':=by
 obtain⟨B,hB⟩:=zB w.heap.size;have L:=zF2 w n za;rw[hB]at L;obtain⟨l,hl⟩:=zB (bl s);have a9:kN l=n:=by rw[<-hl,zB2,hn]
 have aa:∀(i:Nat) (h:i<s.size),l.getD i 0=s[i].toNat:=fun i h=>by rw[<-hl,zRx s i h]
 have av:Bytes l:=by
  rw[<-hl];intro x hx;obtain⟨u,_,rfl⟩:=qQg.1 hx;exact qTi u
 rw[hl];obtain⟨r,bf,a8⟩:=yV a9 aa av;obtain⟨W1,Y⟩:=zB (w.alloc (qp (cellsOf n (fun _=>qX qm 0)) 3));have z1:W1.heap.size=B+1:=by rw[<-Y,zA,hB]
 obtain⟨W,hW⟩:=zB (W1.alloc (zNa ⟨s,B,n,n,0⟩));have bn:W.heap.size=B+2:=by rw[<-hW,zA,z1]
 have ba:zAm W B 3 n (fk l 0):=by
  have h:=zAm.zeros B w n 3 hB;rw[Y]at h;rw[<-hW];exact(h.keep (Lib.alloc_old W1 _ B za)).congr (fun k _=>by simp[fk])
 have b2:RX W (B+1) ⟨s,B,n,n,0⟩:=by
  unfold RX;rw[<-hW,<-z1];show(W1.heap.push _)[W1.heap.size]? =_;simp
 have au:yM B w W:=by
  rw[<-hW,<-Y,<-hB];exact((yR _ _).alloc (qPq _) _).alloc (by rw[zA];omega) _
 obtain⟨b4,ak,az⟩:=yV ba b2 au;rw[hB];obtain⟨b3,HW⟩:=yU Y hW;clear hl a9 aa av ba b2 au z1 Y hW bn;go_enter func47,ntmps47;go_wp2;clear L;rw[show(w.alloc (qp (cellsOf n fun x=>qX qm 0) 3)).alloc (qp #[qY s,qZ (yA ⟨B,0,yB⟩) n n,qX qm 0] TR)=W from by rw[b3.out];exact HW.out];clear b3 HW hB W1;go_loopw [2,15] (fun ov iv wr=>∃(k c:Nat) (p:Option yF),k<=n/\iv=qX qm k/\ov=qZ p k c/\yL (yu wr (B+2) 3 p k c ((yO k).map ival))/\yL (zAm wr B 3 n (fk l k))/\yL (RX wr (B+1) ⟨s,B,n,n,0⟩)/\yL (yM B w wr)) (fun _ iv _=>n-(intOf iv).toNat)
 case atStart=>exact⟨0,0,yB,za,rfl,rfl,zH (Kit.Own.start _ _ _),b4,ak,az⟩
 case round=>
  clear b4 ak az W;obtain⟨k,c,p,hk,rfl,rfl,I,a1,S,hb⟩:=hrel;by_cases K:k<n
  .have an:B+2<=wr.heap.size:=by have:=S.out.lt;omega
   obtain⟨p3,c3,w3,ax,Z,a4⟩:=zMb I.out k za an;have b8:=yT (yu w3 (B+2) 3 p3 (k+1) c3 ((yO (k+1)).map ival)) (by rw[qQw];exact Z);have a2:=a1.out.keep (a4.block B za);have ab:=S.out.keep (a4.block (B+1) za);have x0:=ab.rb.c1;have x1:=a2.cell k K;have x2:=a2.free k;simp only at x0;have bp:k<s.size:=za
   have HA:=zH ((a2.set k (l.getD k 0) (V:=(s[k].toNat:Int)) (by rw[bf.out k bp])).congr (g:=fk l (k+1)) (fun j _=>by
    unfold zAy fk;by_cases e:j=k
    .subst e;rw[qPr rfl,qPr za]
    .rw[qPt e];by_cases h:j<k
     .rw[qPr h,qPr za]
     .rw[qPt h,qPt za]))
   obtain⟨HX,bq,HO⟩:=yV (ab.keep (zCw (a:=B) k (qX qm (s[k].toNat:Int)) za)) ((hb.out.trans (a4.mono za)).setCell (p:=⟨B,k,yB⟩) (qPq _) (qX qm (s[k].toNat:Int))) (zD4 (i:=k) b8.out (by omega:B<B+2) (qX qm (s[k].toNat:Int)));clear Z a4 a2 ab I a1 S hb b8 an;go_wp2_with (at_builtin;refine xG rfl (.tmp 18) (.tmp 20) 23 rfl rfl rfl ax ?_);clear ax;go_region;rw[IntWalk.wrap64_in (s[k].toNat:Int) (by have:=qTi s[k];omega)];go_wp2;go_roundw
   case rel=>exact⟨k+1,c3,p3,za,by go_num,rfl,zH (HO.out.below (yR _ _).drew (qPq _)),HA,HX,zH bq.out.drew⟩
   case measure=>exact z8
  .obtain rfl:n=k:=za
   obtain⟨G,rfl,bo,hG,c8,_,_⟩:=I.out.at_ h0;have bj:=S.out.lt;have S0:=zH (OS.mk I.out S.out a1.out hb.out bo za (qTu _) (zZo (fun j hj=>by unfold fk;rw[qPr (by rw[r.out]at hj;exact hj)])):OS w B G c s n l (yO n) B 0 (fk l n) wr);clear I a1 S hb bj hG K hk;go_wp2;go_loopg [2] n (fun kx s2 wr=>∃(o:List Nat) (N m:Nat) (f:Nat->Nat),s2=qZ (yA ⟨G,0,yB⟩) n c/\m<n/\n-m<=kx/\yL (OS w B G c s n l o N m f wr))
   case atStart=>exact⟨_,B,0,_,rfl,za,za,S0⟩
   case round=>
    clear S0;obtain⟨o,N,m,f,rfl,hm,cc,z⟩:=hrel;have hI:=zXp o G n c (B+2) wr (by rw[z.out.perm.length_eq,qQ9]) h0 za z.out.own z.out.perm;have HI:=zH hI;clear hI;go_wp2_with fail;(with_reducible refine HI.out.mono ?_);rintro e w2 ⟨rfl,ay,b9⟩;have S2:=zH (z.out.sorted ay (qTu _) b9);clear HI z ay b9;have HT:=zH (zZc ⟨s,N,n,n,m⟩ (C l (up2 m)) f G c (B+2) w2 hn h0 hs (by show m<=2000000;omega) (fun i j hi hj=>by
     have h:=zUr a8.out S2.out.rk i j (by rw[r.out];exact hi) (by rw[r.out];exact hj);rw[r.out]at h;exact h) S2.out.gn.1 (fun k hk=>S2.out.arr.cell k hk) S2.out.own)
    unfold iv rv at HT;obtain⟨x0,x1,x2⟩:=S2.out.box.rb;go_wp2_with fail;(with_reducible refine HT.out.mono ?_);rintro e w3 ⟨rfl,o3,am,ai,Z,ar⟩;obtain⟨S3,ag⟩:=yU (S2.out.sorted Z am ar) ai;obtain⟨N',a0⟩:=zB w3.heap.size;have L:=zF2 w3 n za;rw[a0]at L;obtain⟨S4,A4⟩:=yU (S3.out.alloc (qp (cellsOf n (fun _=>qX qm 0)) 3)) (zAm.zeros N' w3 n 3 a0);have bw:N<N':=by rw[<-a0];exact S3.out.arr.lt
    have bx:B+1<N':=by rw[<-a0];exact S3.out.box.lt
    have bu:G<N':=by
     obtain⟨g',d,_,bz,_⟩:=S3.out.own.at_ h0;injection d with d
     injection d with d _ _
     omega
    obtain⟨w4,aj⟩:=zB (w3.alloc (qp (cellsOf n (fun _=>qX qm 0)) 3));rw[aj]at L S4 A4;clear HT S2 x0 x1 x2 am ai Z ar S3 a0 aj;go_wp2;clear L;go_loopw [6] (fun iv wr=>∃(i:Nat) (F:Nat->Nat),1<=i/\i<=n/\iv=qX qm i/\yL (OS w B G c s n l o3 N m f wr)/\yL (zAm wr N' 3 n F)/\yL (∀p,p<i->F (o3.getD p 0)=rkP (C l (up2 m)) o3 p)/\yL (∀k,k<n->F k<=n)) (fun iv _=>n-(intOf iv).toNat)
    case atStart=>exact⟨1,fun _=>0,za,za,by go_num,S4,A4,zH (fun p hp=>(by obtain rfl:p=0:=za;rfl)),zH (fun k _=>qQl _)⟩
    case round=>
     clear S4 A4;obtain⟨i,F,c6,c7,rfl,z,hA,hF,a5⟩:=hrel;by_cases K:i<n
     .obtain⟨j,hj⟩:=zB (i-1);have b0:j+1=i:=za
      have ac:kN o3=n:=by rw[z.out.perm.length_eq,qQ9]
      obtain⟨g',d,_,_,_,H,_⟩:=z.out.own.at_ h0;injection d with d
      injection d with d _ _
      subst d;obtain⟨a,ha⟩:=zB (o3.getD j 0);obtain⟨b,hb⟩:=zB (o3.getD i 0);have X:a<n:=by rw[<-ha];exact zNc z.out.perm j za
      have a7:b<n:=by rw[<-hb];exact zNc z.out.perm i za
      have cG:∀k,k<n->wr.cell? ⟨G,k,yB⟩=yA (qX qm (o3.getD k 0:Int)):=fun k hk=>by
       rw[H k hk,qP3,qPu za,qPz,qPu za];rfl
      have ca:=cG j za;have cb:=cG i K;rw[ha]at ca;rw[hb]at cb;have cF:=hA.out.cell a X;have b6:=hA.out.cell b a7;have fb:=hA.out.free b;have R:F a=rkP (C l (up2 m)) o3 j:=by rw[<-ha];exact hF.out j za
      have bd:=a5.out a X;have bi:=zWz (C l (up2 m)) o3 j;have ad:=Kit.zDs (P:=yK) (t:=3) (v:=qX qm (F a:Int)) (w:=wr.drew) b6 fb zf rfl rfl;obtain⟨w5,O⟩:=zB (wr.drew.setCell ⟨N',b,yB⟩ (qX qm (F a:Int)));have S5:=yT (OS w B G c s n l o3 N m f w5) (by rw[<-O];exact z.out.drew.zCw za za za za _ _);have A5:=yT (zAm w5 N' 3 n (zAy F b (F a))) (by rw[<-O];exact zAm.set (w:=wr.drew) hA.out b (F a) rfl);rw[O]at ad;obtain⟨ST,CA,CB,CF⟩:=yX ad (zE4 (w:=wr.drew) ca) (zE4 (w:=wr.drew) cb) (zE4 (w:=wr.drew) cF);have NE:N'≠G:=za
      obtain⟨b7,b5⟩:=yU (zE4 (w:=w5.drew) (show w5.cell? ⟨G,j,yB⟩=_ by rw[<-O,qQf _ _ _ _ (by intro e;injection e with e1 _ _;omega)];exact ca)) (zE4 (w:=w5.drew) (show w5.cell? ⟨G,i,yB⟩=_ by rw[<-O,qQf _ _ _ _ (by intro e;injection e with e1 _ _;omega)];exact cb));have WJ:=yT (IntKind.i64.wrap ((i:Int)-1)=(j:Int)) (by rw[qQa _ za];omega);obtain⟨bc,HC⟩:=yU (S5.out.drew.box.rb.ld) (zKt ⟨s,N,n,n,m⟩ a b f w5.drew hn (by show n<=1000000;omega) (by show m<=2000000;omega) X a7 (fun k hk=>S5.out.drew.arr.cell k hk));have CZ:=yT (cf2 n m f a b=0↔C l (up2 m) a=C l (up2 m) b) (by have h:=qCw a8.out z.out.rk a b (by rw[r.out];exact X) (by rw[r.out];exact a7);rw[r.out]at h;exact h)
      have af:=yT (∀p,p<i->o3.getD p 0≠b) (fun p hp e=>by
       have:=zQw z.out.perm (p:=p) (q:=i) za za (by rw[e,hb]);omega)
      have HJ:=yT (j<n) (by omega);obtain⟨HI,bh,b1,ap,ae,ah⟩:=yZ K X a7 ha hb R;clear H cG ca cb cF b6 fb ad O z hA ha hb R ac;obtain⟨v,hv⟩:=zB (cf2 n m f a b);rw[hv]at CZ;have ao:=yT (yG yK 130 #[rv ⟨s,N,n,n,m⟩,a,b] w5.drew fun e w'=>e=qx (qX qm v)/\Grn w5.drew w') (by rw[<-hv];exact HC.out);clear HC hv;go_wp2;refine zS [] (fun _=>True) [0,0,0,6,8,0,0,0,128,320,512,1056,2048,8191,16383] 15<|zp [0,1,2,3,4,5,6,7,8,9,10,11,12,13]<|zk 46 (qZ (yA ⟨N',0,yB⟩) n n)<|zk 47 (qZ (yA ⟨G,0,yB⟩) n c)<|zk 48 (zI i)<|zt 49 (zP G i) (xY (t:=23) (x:=(.tmp 47)) (y:=(.tmp 48)) (g:=G) (n:=n) (c:=c) (k:=i) rfl zf zf HI.out underlying23 (fun _=>sizeOf3 _) _)<|zt 50 (zI b) (zl 3 49 (CB.out))<|zk 51 (qZ (yA ⟨N',0,yB⟩) n n)<|zk 52 (qZ (yA ⟨G,0,yB⟩) n c)<|zk 53 (zI i)<|zt 54 (zI j) (Kit.zM6 (x:= .tmp 53) (y:= .const (qX qm 1)) rfl zf zf WJ.out _)<|zt 55 (zP G j) (xY (t:=23) (x:=(.tmp 52)) (y:=(.tmp 54)) (g:=G) (n:=n) (c:=c) (k:=j) rfl zf zf HJ.out underlying23 (fun _=>sizeOf3 _) _)<|zt 56 (zI a) (zl 3 55 (CA.out))<|zt 57 (zP N' a) (xY (t:=23) (x:=(.tmp 51)) (y:=(.tmp 56)) (g:=N') (n:=n) (c:=n) (k:=a) rfl zf zf bh.out underlying23 (fun _=>sizeOf3 _) _)<|zt 58 (qX qm (F a:Int)) (zl 3 57 (CF.out))<|zt 59 (zP N' b) (xY (t:=23) (x:=(.tmp 46)) (y:=(.tmp 50)) (g:=N') (n:=n) (c:=n) (k:=b) rfl zf zf b1.out underlying23 (fun _=>sizeOf3 _) _)<|zn<|zw 14 yB (zr 3 59 58 (ST.out)) (qy (qy trivial))<|zE<| ?_
      simp only[zP,zI,Act.put,qPx,qPw,qPy];go_wp2;refine zS [] (fun _=>True) [0,0,0,4,10,16,0,0,192,256,545,1024] 12<|zp [0,1,2,3,4,5,6,7,8,9]<|zt 60 (rv ⟨s,N,n,n,m⟩) (zl 221 3 (bc.out))<|zk 61 (qZ (yA ⟨G,0,yB⟩) n c)<|zk 62 (zI i)<|zt 63 (zI j) (Kit.zM6 (x:= .tmp 62) (y:= .const (qX qm 1)) rfl zf zf WJ.out _)<|zt 64 (zP G j) (xY (t:=23) (x:=(.tmp 61)) (y:=(.tmp 63)) (g:=G) (n:=n) (c:=c) (k:=j) rfl zf zf HJ.out underlying23 (fun _=>sizeOf3 _) _)<|zt 65 (zI a) (zl 3 64 (b7.out))<|zk 66 (qZ (yA ⟨G,0,yB⟩) n c)<|zk 67 (zI i)<|zt 68 (zP G i) (xY (t:=23) (x:=(.tmp 66)) (y:=(.tmp 67)) (g:=G) (n:=n) (c:=c) (k:=i) rfl zf zf HI.out underlying23 (fun _=>sizeOf3 _) _)<|zt 69 (zI b) (zl 3 68 (b5.out))<|zn<|zc 10 70 130 #[rv ⟨s,N,n,n,m⟩,qX qm (a:Int),qX qm (b:Int)] (qX qm v) ao.out<| ?_
      refine fun w6 g6=>⟨qy (qy trivial),?_⟩;refine zp [11]<|zk 71 (qh (v !=0))<|zn<|zE<| ?_
      simp only[zP,zI,Act.put,qPx,qPw,qPy];obtain⟨S6,A6⟩:=yU (S5.out.drew.grn g6) (A5.out.keep (g6.block N' (by have:=A5.out.lt;exact this)));have a3:=yT (∀(q:Nat) (F':Nat->Nat),F'=zAy (zAy F b (F a)) b (F a+q)->(q=if C l (up2 m) a=C l (up2 m) b then 0 else 1)->(∀p,p<i+1->F' (o3.getD p 0)=rkP (C l (up2 m)) o3 p)/\∀k,k<n->F' k<=n) (fun q F' br hq=>by
       subst br;refine⟨fun p hp=> ?_,fun k hk=> ?_⟩
       .by_cases e:p=i
        .subst e;rw[ae.out,zCj,ah.out,<-b0];show _=rkP (C l (up2 m)) o3 j+_;rw[hq,ap.out,b0,ae.out]
        .rw[zBb _ _ _ _ (af.out p za),zBb _ _ _ _ (af.out p za)];exact hF.out p za
       .unfold zAy;by_cases e:k=b
        .rw[qPr e];have:q<=1:=by rw[hq];split<;>omega
         have h1:=ah.out;omega
        .rw[qPt e,qPt e];exact a5.out k hk)
      clear S5 A5 hF a5 af ah ap g6 bc b7 b5 ao ST CA CB CF;by_cases a6:v=0
      .subst a6;have HQ:=zH (a3.out 0 _ rfl (by rw[qPr (CZ.out.1 rfl)]));have A7:=yT (zAm w6 N' 3 n (zAy (zAy F b (F a)) b (F a+0))) (A6.out.congr (fun k _=>by
        unfold zAy;by_cases e:k=b
        .rw[qPr e,qPr e,qRi]
        .rw[qPt e,qPt e]))
       clear a3 A6 CZ;go_wp2;go_roundw
       case rel=>exact⟨i+1,_,za,za,by go_num,S6,A7,zH HQ.out.1,zH HQ.out.2⟩
       case measure=>exact z8
      .have cf:(v !=0)=yH:=by simpa using a6
       have HQ:=zH (a3.out 1 _ rfl (by rw[qPt (fun e=>a6 (CZ.out.2 e))]));have x0:w6.cell? ⟨G,i,yB⟩=yA (qX qm (b:Int)):=by
        obtain⟨g',d,_,_,_,H,_⟩:=S6.out.own.at_ h0;injection d with d
        injection d with d _ _
        subst d;have ac:kN o3=n:=by rw[S6.out.perm.length_eq,qQ9]
        rw[H i K,qP3,qPu za];have h5:=ae.out;rw[qPz,qPu za]at h5;simp only[qQ5]at h5;rw[h5];rfl
       have x1:=A6.out.cell b b1.out;rw[zCj]at x1;have x2:=A6.out.free b;obtain⟨A7,S7⟩:=yU (A6.out.set b (F a+1) (V:=((F a:Nat):Int)+1) za) (S6.out.zCw (a:=N') NE za za za b (qX qm (((F a:Nat):Int)+1)));obtain⟨Fa,R⟩:=zB (F a);rw[R]at x1 A7 S7 HQ;rw[R]at bd;clear a3 A6 CZ S6 a6 R bi;go_wp2;go_roundw
       case rel=>exact⟨i+1,_,za,za,by go_num,S7,A7,zH HQ.out.1,zH HQ.out.2⟩
       case measure=>exact z8
     .obtain rfl:n=i:=za
      have ac:kN o3=n:=by rw[z.out.perm.length_eq,qQ9]
      have aq:=qCx (s:=l) (F:=F) (M:=up2 m) (o:=o3) (by rw[r.out];exact z.out.perm) ag.out (fun p hp=>hF.out p za);have bb:=zH aq;obtain⟨_,x1,x2⟩:=z.out.box.rb;have f1:=z.out.box.fr 1;have f2:=z.out.box.fr 2;simp only at x1 x2;obtain⟨M,hM⟩:=zB (up2 m);have ce:max (2*(m:Int)) 1=(M:Int):=by rw[<-hM];unfold up2;omega
      have S5:=zH (z.out.next (F:=F) hA.out (M:=M) za za za (by
       have:up1 M=M:=by rw[<-hM];unfold up1 up2;omega
       rw[this,<-hM];exact bb.out) (V:=(M:Int)) rfl)
      have cd:m<M:=by rw[<-hM];unfold up2;omega
      have HD:=yT (n<=M->o3=zHx l) (fun h=>qCy a8.out (by rw[r.out];exact z.out.perm) ag.out (by rw[r.out,hM];exact h));clear hM z hF a5 hA aq bb ag;by_cases bg:M<n
      .have bk:decide ((M:Int)>=(n:Int))=yI:=qP1 za;go_wp2;go_roundg (n-M)
       case measure=>exact za
       case rel=>exact⟨o3,N',M,F,rfl,bg,za,S5⟩
      .have bk:decide ((M:Int)>=(n:Int))=yH:=qQ za;have HE:=zH (HD.out za);go_wp2;go_ret;exact⟨G,c,rfl,by rw[<-HE.out];exact S5.out.own.base za,S5.out.below⟩
end St
namespace St
open Go.Lib Go.Sort Go.Proofs Tn Bt Front Zr
def zLl (l:List UInt8) (k:Nat):UInt8:=l.getD (k%kN l) 0
def lastB (l:List UInt8) (o:List Nat):List UInt8:=o.map fun k=>zLl l (k+kN l-1)
theorem qHl (l:List UInt8) (h:0<kN l) (k:Nat):(zLl l k).toNat=cyc (l.map UInt8.toNat) k:=by
 unfold zLl cyc;have a:k%kN l<kN l:=qRf _ h;simp[qPz,qPu a]
theorem zXn (l:List UInt8) (h:0<kN l) (o:List Nat):(lastB l o).map UInt8.toNat=lastOf (l.map UInt8.toNat) o:=by
 unfold lastB lastOf;rw[qRr];refine qRy (fun k _=> ?_);rw[Function.comp,qHl l h,qQj]
def zF1 (s:ByteArray):List Nat:=zHx (bl s)
def zA8 (s:ByteArray):Nat:=(zF1 s).idxOf 0
def lastT (s:ByteArray):ByteArray:=⟨(lastB s.data.toList (zF1 s)).toArray⟩
theorem zF0 (s:ByteArray):kN (zF1 s)=s.size:=by unfold zF1 zHx;rw[zCn,zB2]
theorem zQ0 (s:ByteArray) (h:0<s.size):0∈zF1 s:=by
 have a:=(zD5 (bl s)).perm;refine a.mem_iff.2 (qQn.2 ?_);rw[zB2];exact h
theorem zDq (s:ByteArray) (h:0<s.size):zA8 s<s.size:=by
 have a:=List.idxOf_lt_length_iff.2 (zQ0 s h);rw[zF0]at a;exact a
theorem zLd (s:ByteArray) (h:0<s.size):(zF1 s).getD (zA8 s) 0=0:=by
 have a:=List.idxOf_lt_length_iff.2 (zQ0 s h);unfold zA8;rw[qPz,qPu a];exact List.getElem_idxOf a
theorem zCp (s:ByteArray):(lastT s).size=s.size:=by
 show(lastB _ _).toArray.size=_;simp[lastB,zF0]
def Tu (s t:ByteArray) (k:Nat):Prop:=t.size=s.size/\∀h:t.size-1<t.size,t[t.size-1]=zLl s.data.toList (k+s.size-1)
theorem qGx (s:ByteArray) (k:Nat) (f:k<s.size):Tu s (s.extract k s.size++s.extract 0 k) k:=by
 have a:(s.extract k s.size++s.extract 0 k).size=s.size:=by
  rw[ByteArray.size_append,qS1,qS1];omega
 refine⟨a,fun h=> ?_⟩;unfold zLl;have d:kN s.data.toList=s.size:=by simp
 rw[d];have b:∀(j:Nat) (c:j<s.size),s.data.toList.getD j 0=s[j]:=fun j c=>by
  rw[qPz,qPu (by rw[d];exact c)];rfl
 by_cases e:k=0
 .subst e;rw[show(0+s.size-1)%s.size=s.size-1 from by rw[qQd];exact qRh za];rw[b _ za];rw[ByteArray.getElem_append_left (by rw[qS1,a];omega),ByteArray.getElem_extract];congr 1;rw[a];omega
 .rw[show(k+s.size-1)%s.size=k-1 from by rw[show k+s.size-1=(k-1)+s.size by omega,Nat.add_mod_right];exact qRh za];rw[b _ za];rw[ByteArray.getElem_append_right (by rw[qS1,a];omega),ByteArray.getElem_extract];congr 1;rw[qS1,a];omega
theorem zY5 (s:ByteArray) (k:Nat) (b:k<s.size) (j:s.size<=1000000) (w:yC):
  yG yK 75 #[.agg #[qY s],k] w fun e w'=>∃t,e=qx (qY t)/\Tu s t k/\yM w w w':=by
 have f:(0:Int)<=(k:Int):=za
 have g:(k:Int)<=(s.size:Int):=za
 have d:=zH (qGx s k b);have h:(s.extract k s.size).size<=1000000:=by rw[qS1];omega
 have i:(s.extract 0 k).size<=1000000:=by rw[qS1];omega
 obtain⟨W,a⟩:=zB (w.alloc (qp #[qY s] 144));have l:W.cell? ⟨w,0,yB⟩=yA (qY s):=by rw[<-a];simp
 have HB:=yT (yM w w W) (by rw[<-a];exact(yR _ _).alloc (qPq _) _);have c:=zH a;clear a b;go_enter func75,ntmps75;go_wp2;rw[c.out];go_quiet (fail);go_wp2;go_ret;exact⟨_,rfl,d.out,HB.out.trans ⟨rfl,rfl,rfl,qPq _,fun _ _=>rfl⟩⟩
theorem zKn (s:ByteArray) (n:Nat) (hn:s.size=n) (h0:0<n) (hs:n<=100000) (w:yC):
  yG yK 19 #[qY s] w fun e w'=>e=qx (qg #[qY (lastT s),qX qm (zA8 s:Int)])/\yM w w w':=by
 have HO:=zH (zOm s n hn h0 hs w);obtain⟨B,hB⟩:=zB w.heap.size;rw[hB]at HO⊢;obtain⟨l,hl⟩:=zB s.data.toList;have Y:kN l=n:=by rw[<-hl,<-hn];simp
 obtain⟨o,y⟩:=zB (zF1 s);have N:kN o=n:=by rw[<-y,zF0,hn]
 have W:∀i,i<n->o.getD i 0<n:=fun i hi=>by
  have h:=zNc (zD5 (bl s)).perm i (by show i<kN (zF1 s);rw[zF0,hn];exact hi);rw[zB2,hn]at h;rw[<-y];exact h
 have m:zA8 s=o.idxOf 0:=by unfold zA8;rw[y]
 have V:o.idxOf 0<n:=by rw[<-m,<-hn];exact zDq s za
 have x:∀i,i<n->(o.getD i 0=0↔i=o.idxOf 0):=fun i hi=>by
  constructor
  .intro e;have h:=zLd s za;rw[y,m]at h;have hp:=(zD5 (bl s)).perm;rw[show zHx (bl s)=o from y]at hp;exact zQw hp za za (by rw[e,h])
  .rintro rfl;have h:=zLd s za;rwa[y,m]at h
 have b:lastT s=⟨(lastB l o).toArray⟩:=by unfold lastT;rw[hl,y]
 rw[b,m];rw[show zHx (bl s)=o from y]at HO;obtain⟨g,hg⟩:=zB (o.idxOf 0);rw[hg]at V x⊢;obtain⟨af,HL,ae,ag,ad,HN⟩:=yZ Y hl N W x hn;have a4:=yT (kN (lastB l o)=n) (by simp[lastB,N]);have ah:=zH hB;clear hl Y y N W m x b hg hB;go_enter func19,ntmps19;go_wp2_with fail;(with_reducible refine HO.out.mono ?_);rintro e w2 ⟨G,c,rfl,a,z⟩;obtain⟨X,ab⟩:=yU a z;clear a z HO;go_wp2;go_loopw [3,4,11] (fun gv ov iv wr=>∃(i ci q:Nat) (p:Option yF),i<=n/\iv=qX qm i/\gv=qX qm q/\yL (q=if g<i then g else 0)/\ov=qZ p i ci/\yL (yu wr B TB p i ci (((lastB l o).take i).map xC))/\yL (yu wr B 3 (yA ⟨G,0,yB⟩) n c (o.map ival))/\yL (yM B w wr)) (fun _ _ iv _=>n-(intOf iv).toNat)
 case atStart=>exact⟨0,0,0,yB,za,rfl,rfl,zH zm,rfl,zH (Kit.Own.start _ _ _),X,ab⟩
 case round=>
  clear X ab;obtain⟨i,ci,q,p,hi,rfl,rfl,hq,rfl,I,a,z⟩:=hrel;by_cases b:i<n
  .obtain⟨g',f,_,ak,_,K,_⟩:=a.out.at_ h0;injection f with f
   injection f with f _ _
   subst f;have x0:=K i b;have F:i<kN o:=by rw[ae.out];exact b
   have S:=ag.out i b;rw[qP3,qPu F,qRs]at x0;rw[qPz,qPu F,qQ5]at S;obtain⟨k,hk⟩:=zB (o[i]);rw[hk]at x0 S;have j:=ad.out i b;rw[qPz,qPu F,qQ5,hk]at j;obtain⟨HT,HK,ai⟩:=yV (zY5 s k (by rw[HN.out];exact S) (by rw[HN.out];omega) wr) hk F;clear K hk;unfold ival at x0;go_wp2_with fail;(with_reducible refine HT.out.mono ?_);rintro e w3 ⟨t,rfl,M,r⟩;have a2:=M.1;rw[HN.out]at a2;have L:=M.2 za;rw[HN.out]at L;obtain⟨u,hu⟩:=zB (zLl l (k+n-1));rw[HL.out,hu]at L;have an:∀h:n-1<t.size,t[n-1]=u:=fun h=>by
    rw[<-L];simp only[a2]
   have d:=I.out.below r (qPq _);have ao:=r.size;have a5:=z.out.size;rw[ah.out]at a5;obtain⟨p4,c4,w4,a7,aa,O⟩:=Kit.Own.app (ty:=109) (w:=w3.alloc (qp #[qX qo (u.toNat:Int)] TB)) zNh (d.alloc _) (yA ⟨w3,0,yB⟩) 1 1 [xC u] (xM w3 _ TB) rfl (fun h=>by cases h) (Kit.zG [u]) (by unfold maxLen;omega) za zq;have a0:(lastB l o)[i]? =yA u:=by
    unfold lastB;rw[qP3,qPu ai.out,HK.out,af.out,qRs,hu]
   have ac:=yT (yu w4 B TB p4 (i+1) c4 (((lastB l o).take (i+1)).map xC)) (by
    rw[List.take_add_one,a0,qQb];exact aa)
   have aj:yM B w3 w4:=((yR _ _).alloc za _).trans ((yR _ _).grown O zq (fun q hq=>d.block q hq));have a3:=zH (z.out.trans ((r.mono a5).trans aj));have H:=(a.out.below r (qPq _)).alloc (qp #[qX qo (u.toNat:Int)] TB);obtain⟨cs,fz,Z⟩:=zLa H;have hne:=own_ne (d.alloc (qp #[qX qo (u.toNat:Int)] TB)) Z qW;have a1:=zH (qRz H O (qy (by rw[zGj H];exact fun e=>hne e.symm)));clear H Z hne;clear a0 O aa d a I z r M L hu HT x0;by_cases a8:k=0
   .subst a8;have a6:i=g:=j.1 rfl;subst a6;have R:=yT (i=if i<i+1 then i else 0) (by rw[qPr za]);clear j hq;go_wp2_with (at_builtin;refine xG rfl (.tmp 20) (.tmp 26) 109 rfl rfl rfl a7 ?_);go_roundw
    case rel=>exact⟨i+1,c4,i,p4,za,by go_num,rfl,R,rfl,ac,a1,a3⟩
    case measure=>exact z8
   .have a6:i≠g:=fun e=>a8 (j.2 e);have hz:((k:Int)==0)=yI:=by rw[qSd];omega
    have R:=yT (q=if g<i+1 then g else 0) (by
     rw[hq.out];by_cases h:g<i
     .rw[qPr h,qPr za]
     .rw[qPt h,qPt za])
    clear j hq;go_wp2_with (at_builtin;refine xG rfl (.tmp 20) (.tmp 26) 109 rfl rfl rfl a7 ?_);go_roundw
    case rel=>exact⟨i+1,c4,q,p4,za,by go_num,rfl,R,rfl,ac,a1,a3⟩
    case measure=>exact z8
  .obtain rfl:n=i:=za
   rw[qPr V]at hq;obtain rfl:g=q:=hq.out.symm;have a9:(lastB l o).take n=lastB l o:=qQc (by rw[a4.out];exact qPq _);rw[a9]at I;have am:=Kit.Src.text (P:=yK) (n:=n) (c:=ci) (src:=109) (dst:=9) I.out.src a4.out underlying109 underlying5 underlying9;clear a9;go_wp2;go_ret2;exact⟨rfl,z.out⟩
end St
namespace Sq
open Front Us Tn St Zr
theorem zUx {a b:Nat} (c:a<256) (d:b<256) (e:UInt8.ofNat a=UInt8.ofNat b):a=b:=by
 have h:=qPs UInt8.toNat e;rwa[kI c,kI d]at h
theorem zS7 (l:List Nat):(xw l 256).Nodup:=by
 unfold xw;have h:((yO 256).filter fun c=>decide (c∈l)).Nodup:=List.nodup_range.filter _;unfold List.Nodup at h⊢;rw[List.pairwise_map];refine h.imp_of_mem (fun{a b} f g d e=>d ?_);exact zUx (qQn.1 (qT1.1 f).1) (qQn.1 (qT1.1 g).1) e
theorem zYo (l:List Nat) (c:UInt8):c∈xw l 256↔c.toNat∈l:=by
 unfold xw;rw[qQg];constructor
 .rintro⟨a,e,rfl⟩;obtain⟨b,d⟩:=qT1.1 e;rw[kI (qQn.1 b)];simpa using d
 .intro h;exact⟨c.toNat,List.mem_filter.2 ⟨List.mem_range.2 (UInt8.toNat_lt c),by simpa using h⟩,UInt8.ofNat_toNat⟩
theorem zS8 {l m:List Nat} (h:∀c,c<256->(c∈l↔c∈m)):xw l 256=xw m 256:=by
 unfold xw;congr 1;refine List.filter_congr (fun c d=> ?_);have:=h c (qQn.1 d);by_cases a:c∈l
 .rw[qQ a,qQ (this.1 a)]
 .rw[qP1 a,qP1 (fun b=>a (this.2 b))]
def al (p:ByteArray):List UInt8:=(zAj p).data.toList
theorem zVt (p:ByteArray):al p=xw (bl p) 256:=by unfold al zAj;simp
theorem zR3 (p:ByteArray):right (al p)=yH:=by rw[zIu,zVt];exact zS7 _
theorem zR4 (p:ByteArray) (c:UInt8):c∈al p↔c∈p.data.toList:=by
 rw[zVt,zYo];unfold bl;rw[qQg];constructor
 .rintro⟨a,b,e⟩;rw[<-UInt8.toNat_inj.1 e];exact b
 .intro h;exact⟨c,h,rfl⟩
theorem zR5 (p:ByteArray):kN (al p)=(zAj p).size:=by unfold al;simp
theorem zFk (p:ByteArray):(zAj p).size<=256:=by rw[<-zR5,zVt];exact Us.zPe _ _
theorem zMz (p:ByteArray) (h:0<p.size):0<(zAj p).size:=by
 have a:0<kN p.data.toList:=by simpa using h
 have b:=(zR4 p _).2 (qP9 a);rw[<-zR5];exact List.length_pos_of_mem b
theorem zVu (p:ByteArray):zAj (zAj p)=zAj p:=by
 show(⟨(xw (bl (zAj p)) 256).toArray⟩:ByteArray)=⟨(xw (bl p) 256).toArray⟩;rw[zS8 (l:=bl (zAj p)) (m:=bl p)];intro c d;have h:=zR4 p (UInt8.ofNat c);have e:∀q:ByteArray,c∈bl q↔UInt8.ofNat c∈q.data.toList:=fun q=>by
  unfold bl;rw[qQg];constructor
  .rintro⟨a,b,rfl⟩;rw[UInt8.ofNat_toNat];exact b
  .intro h;exact⟨_,h,kI d⟩
 rw[e,e];exact h
def la (p:ByteArray):List UInt8:=(lastT p).data.toList
theorem zU6 (p:ByteArray):la p=lastB p.data.toList (zF1 p):=by unfold la lastT;simp
theorem zMi (p:ByteArray) (h:0<p.size):all (al p) (la p)=yH:=by
 rw[zUa];intro c a;rw[zU6]at a;rw[zR4];unfold lastB at a;obtain⟨k,_,rfl⟩:=qQg.1 a;unfold zLl;have d:0<kN p.data.toList:=by simpa using h
 have b:=qRf (k+kN p.data.toList-1) d;rw[qPz,qPu b];exact qP9 b
def plc (p:ByteArray):List Nat:=zB4 (al p) (la p)
theorem zTm (p:ByteArray) (h:0<p.size):zFw (al p) (la p)=plc p/\codeF (al p) (la p)=0:=by
 have a:=zRr (al p) (la p) (zR3 p) (zMi p h);exact⟨zQm _ _ a,a⟩
theorem zDb (p:ByteArray):kN (plc p)=p.size:=by
 unfold plc;rw[zDi,zU6];simp[lastB,zF0]
theorem zQr (p:ByteArray) (h:0<p.size):∀k∈plc p,k<(zAj p).size:=by
 rw[<-zR5];exact zNb _ _ (zMi p h)
def sy (p:ByteArray):List Nat:=enc 0 (plc p)
def sym (p:ByteArray):List Nat:=sy p++[(zAj p).size+1]
theorem zL1 (p:ByteArray):kN (sy p)<=p.size:=by
 have:=zJz (plc p) 0;rw[zDb]at this;unfold sy;omega
theorem zPm (p:ByteArray) (h:0<p.size):∀y∈sy p,y<=(zAj p).size:=zNq (plc p) 0 _ (zQr p h) (zMz p h)
theorem zCv (p:ByteArray):kN (sym p)=kN (sy p)+1:=by simp[sym]
theorem zPz (p:ByteArray) (h:0<p.size):∀y∈sym p,y<(zAj p).size+2:=by
 intro y b;unfold sym at b;rcases qSi.1 b with a|a
 .have:=zPm p h y a;omega
 .obtain rfl:=qRe.1 a;omega
theorem zP0 (p:ByteArray):dec (kN (sy p)) (sy p)=plc p:=by
 have h:=zNs (plc p) 0 (kN (sy p)) (qPq _);simpa [sy]using h
theorem zZx (p:ByteArray) (h:0<p.size):unp (al p) (plc p)=la p:=zPx _ _ (zMi p h)
theorem zK9 (p:ByteArray) (h:0<p.size):zIv (al p) ((plc p).map fun k:Nat=>(k:Int))=la p/\zC3 (al p) ((plc p).map fun k:Nat=>(k:Int))=0:=by
 have a:=zRs (al p) ((plc p).map fun k:Nat=>(k:Int)) (zR3 p) (qF0 _ _ (zNb _ _ (zMi p h)));refine⟨?_,a⟩;rw[zTj _ _ a,qC7];exact zZx p h
theorem zVk (p:ByteArray):Bytes (bl p):=by
 intro x a;obtain⟨u,_,rfl⟩:=qQg.1 a;exact qTi u
theorem qB5 (p:ByteArray) (h:0<p.size):bl (lastT p)=lastOf (bl p) (zF1 p):=by
 show(la p).map UInt8.toNat=_;rw[zU6,zXn _ (by simpa using h)];rfl
theorem zTa (p:ByteArray) (h:0<p.size):unL (lastT p) (zA8 p)=p.data.toList:=by
 have d:(lastT p).size=p.size:=zCp p;apply qRt;intro i;by_cases hi:i<p.size
 .have b:=zYl (s:=bl p) (o:=zF1 p) (v:=zA7 (bl (lastT p))) (zVk p) (by rw[zB2];exact h) (zD5 _) (by rw[qB5 p h];exact zCl _) (zA8 p) (by rw[zB2];exact zDq p h) (zLd p h) i (by rw[zB2];exact hi);rw[<-qB5 p h]at b;unfold unL;rw[List.getElem?_map,List.getElem?_range (by rw[d];exact hi),Option.map_some,List.getElem?_eq_getElem (by simpa using hi)];congr 1;apply UInt8.toNat_inj.1;have c:∀(q:ByteArray) (j:Nat),(bl q).getD j 0=(q.data.getD j 0).toNat:=fun q j=>by
   unfold bl;rw[qPz,qP3];by_cases a:j<q.data.size
   .rw[List.getElem?_eq_getElem (by simpa using a),Option.map_some,Option.getD_some];simp only[Array.getD,Array.getElem_toList];rw[dif_pos a];rfl
   .rw[List.getElem?_eq_none (by simpa using a)];simp only[Array.getD];rw[dif_neg a];rfl
  rw[c,c]at b;rw[b];simp only[Array.getD,Array.getElem_toList];rw[dif_pos (show i<p.data.size from hi)];rfl
 .rw[qQq (by rw[zTb,d];omega),qQq zq]
end Sq
namespace Sl
open Front Bt Zr Ix
variable {w:yC} {D n c:Nat} {a:Option yF} {ls:List (List Bool)}
def zC8 (b:Bool) (n:Nat):List Bool:=if n=b.toNat then[yI]else[yH,yI]
def zAz:Bool->List Nat->List Bool
 |_,[]=>[]
 |b,n::r=>zC8 b n++zAz (n==1) r
theorem zK4:∀(b:Bool) (l:List Nat),kN (zAz b l)<=2*kN l
 |_,[]=>qPq _
 |b,n::r=>by
  have:=zK4 (n==1) r;rw[zAz,qP0,qP4];unfold zC8;split<;>simp<;>omega
theorem zOd (l:List Nat) (j:Nat) (b:Bool) (d:j<kN l):zAz b (l.drop j)=zC8 b l[j]++zAz (l[j]==1) (l.drop (j+1)):=by
 rw[qSb d,zAz]
theorem zQz {w':yC} {e:yE} (h:yx LB w D e a n c ls) (m:∀k,D<=k->k<w.heap.size->w'.heap[k]? =w.heap[k]?):yx LB w' D e a n c ls:=by
 obtain⟨l,i⟩:=h;refine⟨l,?_⟩;rcases i with i|⟨g,f,d,hv,b,j,r⟩
 .exact qz i
 .exact qy ⟨g,f,d,hv,b,(m g b (zAd j)).trans j,r⟩
theorem zPo:Kit.zVx yK 70 51 LB.k 24:=⟨underlying70,.agg #[qY ⟨#[]⟩,qX qm 0],zf,rfl⟩
theorem zFd {B:Nat} (h:yx LB w B 51 a n c ls):RdB w a ls:=by
 refine⟨h.rd,fun p e=> ?_⟩;obtain⟨_,d⟩:=h;rcases d with⟨d,_⟩|⟨g,i,b,hv,_,f,_⟩
 .injection d with d _ _
  rw[e]at d;cases d
 .injection hv with ha _ _
  rw[e]at ha;injection ha with ha
  subst ha;exact⟨b,(0,0),f⟩
theorem qHj (n:Nat) (b:Bool) (d:n<=1):Lib.idxOf [((b.toNat:Nat):Int),(((!b).toNat:Nat):Int),2,3,4,5] (n:Int)=if n=b.toNat then 0 else 1:=by
 rcases qP8 n 1 with h|h
 .obtain rfl:n=0:=za
  cases b<;>rfl
 .obtain rfl:n=1:=za
  cases b<;>rfl
theorem qG8 {R:Nat} {b:Bool} (h:Pl w R b):∀j,j<[((b.toNat:Nat):Int),(((!b).toNat:Nat):Int),2,3,4,5].length->w.cell? ⟨R,0+j,yB⟩=yA (qX qm ([((b.toNat:Nat):Int),(((!b).toNat:Nat):Int),2,3,4,5].getD j 0)):=by
 intro j d;simp at d;have:j=0\/j=1\/j=2\/j=3\/j=4\/j=5:=za
 rcases this with rfl|rfl|rfl|rfl|rfl|rfl<;>simp[yQ,show w.heap[R]? =_ from h]
theorem zR2 {p:Option yF} {j:Nat} (h:yx LB w D 51 p j c ls) (m:List Bool) (o:D<=w.heap.size) (u:j<=100000):
  ∃e c' w',(Builtin.append_ #[70,70] 70 #[qZ p j c,qZ (yA ⟨w.heap.size+1,0,yB⟩) 1 1]).run yK ((w.alloc (qp #[qY (pk m),qX qm (kN m:Int)] 51)).alloc (qp #[qY (pk m),qX qm (kN m:Int)] 51))= .ok (qZ e (j+1) c') w'/\
   yx LB w' D 51 e (j+1) c' (ls++[m])/\(∀k,k<D->w'.heap[k]? =w.heap[k]?)/\yM D w w'/\w.heap.size<=w'.heap.size:=by
 obtain⟨d,a⟩:=zB (w.alloc (qp #[qY (pk m),qX qm (kN m:Int)] 51));have t:d.heap.size=w.heap.size+1:=by rw[<-a,zA]
 rw[a,<-t];have s:Kit.Rd LB (d.alloc (qp (LB.cl m).toArray 51)) (yA ⟨d,0,yB⟩) [m]:=Kit.zFo d m 51;have r:yx LB (d.alloc (qp (LB.cl m).toArray 51)) D 51 p j c ls:=by rw[<-a];exact(h.alloc _).alloc _
 obtain⟨e,c',w',g,i,l⟩:=r.app (ty:=70) zPo (yA ⟨d,0,yB⟩) 1 1 [m] s rfl (fun h=>by cases h) (by unfold maxLen;omega) za (by rw[zA];omega);have q:yM D w (d.alloc (qp (LB.cl m).toArray 51)):=by rw[<-a];exact((yR _ _).alloc o _).alloc (by rw[zA];omega) _
 have b:yM D w w':=q.trans (Kit.zAq l (by rw[zA];omega) (fun k f=>h.block k f));exact⟨e,c',w',g,i,fun k f=>b.block k f,b,b.size⟩
theorem zK2 (l:List Nat) (a:Option yF) (n c:Nat) (w:yC) (hn:kN l=n) (aj:n<=10000) (hs:yt w a (l.map ival)) (hl:∀x∈l,x<=1):
  yG yK 26 #[qZ a n c,qX qm 2] w fun e w'=>e=qx (qg #[zAe (zAz yI l),qX qm 0])/\yM w w w':=by
 have ai:∀(fn:Fn) (first ah:Array yD) (w:yC),(Instr.makeFunc fn first ah).run yK w= .ok (.func fn first ah) w:=fun _ _ _ _=>rfl;obtain⟨B,z⟩:=zB w.heap.size;obtain⟨W1,K⟩:=zB (w.alloc (qp #[qX qm 2] 3));obtain⟨q,I⟩:=zB (W1.alloc (qp #[qY ⟨#[]⟩,qX qm 0] 51));have z1:W1.heap.size=B+1:=by rw[<-K,zA,z]
 have z2:q.heap.size=B+2:=by rw[<-I,zA,z1]
 have b1:yM B w W1:=by rw[<-K,<-z];exact(yR _ _).alloc (qPq _) _
 have b2:yM (B+1) W1 q:=by rw[<-I,<-z1];exact(yR _ _).alloc (qPq _) _
 have new:∀(W:yC) (o:Obj),(W.alloc o).heap[W.heap.size]? =yA o:=fun W o=>by show(W.heap.push o)[W.heap.size]? =_;simp
 have c0:Boxed q B 3 (qX qm 2):=by
  show q.heap[B]? =_;rw[b2.block B za,<-K,<-z];exact new _ _
 have c1:q.heap[B+1]? =yA (qp #[qY ⟨#[]⟩,qX qm 0] 51):=by
  rw[<-I,<-z1];exact new _ _
 have a1:yM B w q:=b1.trans (b2.mono za);have a7:yt q a (l.map ival):=hs.below (by rw[z];exact a1);have x0:=c0.cell;have HQ:=zH (zO3 (fun _=>yI) l 91 (qc (yA ⟨B,0,yB⟩)) a n c q hn za a7 (zHw func91 rfl rfl) (fun x hx=>zSj x B (hl x hx) q x0));rw[any_false]at HQ;obtain⟨HF,HO⟩:=yU (zC9 q) (zTq q);rw[z2]at HO;obtain⟨C1,a3,HS,HL,HN⟩:=yY c1 a1 hs hl hn;obtain⟨T,y⟩:=zB (zAz yI l);have ab:=zK4 yI l;rw[y,hn]at ab;rw[y];have HT:=zH y;clear b1 b2 new c0 c1 a1 hs a7 hl hn y;rw[z];go_enter func26,ntmps26;go_wp2_with fail;(with_reducible refine HF.out.mono ?_);rintro e w2 ⟨rfl,rfl⟩;go_wp2_with fail;(with_reducible refine HQ.out.mono ?_);rintro e w2 ⟨rfl,rfl⟩;go_wp2_with fail;clear K I z1 x0;(with_reducible refine HO.out.mono ?_);rintro e w3 ⟨rfl,R,a2⟩;obtain⟨P3,a5,C3⟩:=yV R (a3.out.trans (a2.mono za)) ((a2.block (B+1) za).trans C1.out);have a8:B+2<w3.heap.size:=zAd R;clear R a2 HQ HF HO C1 a3;go_wp2;go_loopw [25,7] (fun i v wr=>∃(j:Nat) (b:Bool) (ls:List (List Bool)) (p:Option yF) (c:Nat),j<=n/\i=qX qm j/\v=qZ p j c/\yL (Pl wr (B+2) b)/\yL (yx LB wr (B+3) 51 p j c ls)/\yL (ls.flatten++zAz b (l.drop j)=T)/\yL (wr.heap[B+1]? =yA (qp #[qY ⟨#[]⟩,qX qm 0] 51))/\yL (yM B w wr)/\B+2<wr.heap.size) (fun i _ _=>n-(intOf i).toNat)
 case atStart=>exact⟨0,yI,[],yB,0,za,rfl,rfl,P3,zH (Kit.Own'.start _ _ _),zH (by rw[qR1,HT.out];rfl),C3,a5,a8⟩
 case round=>
  clear P3 a5 C3 a8;obtain⟨j,b,ls,p,c',hj,rfl,rfl,hp,t,y,L,hb,hz⟩:=hrel;by_cases ad:j<n
  .have P:j<kN l:=by rw[HN.out];exact ad
   obtain⟨x,hx⟩:=zB (l[j]);have ag:x<=1:=by rw[<-hx];exact HL.out _ (qP9 P)
   obtain⟨g,off,rfl,e0⟩:=(HS.out.below (w':=wr) (by rw[z];exact hb.out)) j (ival x) (by rw[qP3,qPu P,hx];rfl);have hd:=zOd l j b P;rw[hx]at hd;have a4:ls.flatten++(zC8 b x++zAz (x==1) (l.drop (j+1)))=T:=by rw[<-hd];exact y.out
   have HI:=zH (slices_Index_int (B+2) 0 6 6 [((b.toNat:Nat):Int),(((!b).toNat:Nat):Int),2,3,4,5] (x:Int) wr zm za (by rw[show(B+2)=B+2 from rfl];exact qG8 hp.out));rw[show List.take 6 [((b.toNat:Nat):Int),(((!b).toNat:Nat):Int),2,3,4,5]=[((b.toNat:Nat):Int),(((!b).toNat:Nat):Int),2,3,4,5]from rfl,qHj x b ag]at HI;have a9:=zH a4;clear hd a4 hx y;by_cases s:x=b.toNat
   .rw[qPr s]at HI;have M:=zH s;clear s;go_wp2_with fail;(with_reducible refine HI.out.mono ?_);rintro e w4 ⟨rfl,rfl⟩;have X:=zH (zMq (B+2) b w4 hp.out);go_wp2_with fail;(with_reducible refine X.out.mono ?_);rintro e w5 ⟨rfl,H,m⟩;have HP:=zH (zD1 [] 0 1 (m':=zC8 b x) (by rw[qB2];unfold zC8;rw[qPr M.out];rfl) (d:=⟨#[]⟩) rfl (k:=0) (V:=0) (N:=1) rfl rfl rfl za za zm w5);have af:=m.below.size;have F:yx LB w5 (B+3) 51 p j c' ls:=zQz t.out (fun k h1 _=>m.old k za);obtain⟨S,Y,P5,O5⟩:=yX ((m.old (B+1) za).trans L.out) (hb.out.trans (m.below.mono za)) H F;clear H m e0 F;go_wp2_with fail;(with_reducible refine HP.out.mono ?_);rintro e w6 ⟨rfl,f⟩;have ae:=f.size;obtain⟨p',c2,w8,Z,u,r,G,ac⟩:=zR2 (O5.out.below f (qPq _)) (zC8 b x) za za;have P8:=yT (Pl w8 (B+2) b) ((r (B+2) za).trans ((f.block (B+2) za).trans P5.out));obtain⟨C8,B8,O8⟩:=yV ((r (B+1) za).trans ((f.block (B+1) za).trans S.out)) (Y.out.trans ((f.mono za).trans (G.mono za))) u;have T8:=yT ((ls++[zC8 b x]).flatten++zAz (x==1) (l.drop (j+1))=T) (by rw[List.flatten_append,List.append_assoc];simpa using a9.out);clear f u r G;go_wp2_with (at_builtin;refine xG rfl (.tmp 51) (.tmp 53) 70 rfl rfl rfl Z ?_);go_roundw
    case rel=>exact⟨j+1,(x==1),ls++[zC8 b x],p',c2,za,by go_num,rfl,by rw[show(x==1)=b from by rw[M.out];cases b<;>rfl];exact P8,O8,T8,C8,B8,za⟩
    case measure=>exact z8
   .rw[qPt s]at HI;have O:x=(!b).toNat:=by cases b<;>simp at s⊢<;>omega
    obtain⟨M,aa⟩:=yU s O;clear s O;go_wp2_with fail;(with_reducible refine HI.out.mono ?_);rintro e w4 ⟨rfl,rfl⟩;have X:=zH (zMp (B+2) b w4 hp.out);go_wp2_with fail;(with_reducible refine X.out.mono ?_);rintro e w5 ⟨rfl,H,m⟩;have HP:=zH (zD1 [] 2 2 (m':=zC8 b x) (by rw[qB1];unfold zC8;rw[qPt M.out];rfl) (d:=⟨#[]⟩) rfl (k:=0) (V:=2) (N:=2) rfl rfl rfl za za zm w5);have af:=m.below.size;have F:yx LB w5 (B+3) 51 p j c' ls:=zQz t.out (fun k h1 _=>m.old k za);obtain⟨S,Y,P5,O5⟩:=yX ((m.old (B+1) za).trans L.out) (hb.out.trans (m.below.mono za)) H F;clear H m e0 F;go_wp2_with fail;(with_reducible refine HP.out.mono ?_);rintro e w6 ⟨rfl,f⟩;have ae:=f.size;obtain⟨p',c2,w8,Z,u,r,G,ac⟩:=zR2 (O5.out.below f (qPq _)) (zC8 b x) za za;have P8:=yT (Pl w8 (B+2) (!b)) ((r (B+2) za).trans ((f.block (B+2) za).trans P5.out));obtain⟨C8,B8,O8⟩:=yV ((r (B+1) za).trans ((f.block (B+1) za).trans S.out)) (Y.out.trans ((f.mono za).trans (G.mono za))) u;have T8:=yT ((ls++[zC8 b x]).flatten++zAz (x==1) (l.drop (j+1))=T) (by rw[List.flatten_append,List.append_assoc];simpa using a9.out);clear f u r G;go_wp2_with (at_builtin;refine xG rfl (.tmp 51) (.tmp 53) 70 rfl rfl rfl Z ?_);go_roundw
    case rel=>exact⟨j+1,(x==1),ls++[zC8 b x],p',c2,za,by go_num,rfl,by rw[show(x==1)=(!b)from by rw[aa.out];cases b<;>rfl];exact P8,O8,T8,C8,B8,za⟩
    case measure=>exact z8
  .obtain rfl:j=n:=za
   have a6:ls.flatten=T:=by
    have:=y.out;rwa[qSv (by rw[HN.out];omega),zAz,qQv]at this
   have HC:=zH (zFs p j c' ls wr t.out.len (by
    rcases qQz j with h|h
    .omega
    .exact(t.out.at_ h).choose_spec.2.2.2) za (zFd t.out) (by rw[a6];omega))
   rw[a6]at HC;unfold zAe at HC;obtain⟨y0,y1,f0,f1⟩:=zAf L.out;go_wp2_with fail;(with_reducible refine HC.out.mono ?_);rintro e w4 ⟨rfl,a0⟩;clear y0 y1 f0 f1;obtain⟨y0,y1,f0,f1⟩:=zAf ((a0.block (B+1) za).trans L.out);have H4:=zH (hb.out.trans (a0.mono za));clear a0;go_wp2
   try simp only[Exit.inBlock,Exit.then]
   exact qP5 (zEk rfl _ _ (B+1) _ _ _ rfl rfl (Bt.zCy y0) (Bt.zCx y1)) rfl ⟨rfl,zCs H4.out za⟩
end Sl
namespace Bk
open Tn Zr Ch Hf Bt Sq Us Sl St
theorem zWp (a b:Nat) (c:a<=20) (d:b<=20):kN (steps a b)<=41:=by
 unfold steps;simp;omega
theorem zT5:∀(l:List Nat) (a:Nat),a<=20->(∀x∈l,x<=20)->kN (del a l)<=41*kN l
 |[],_,_,_=>by simp[del]
 |n::r,a,h,hl=>by
  have c:=zWp a n h (hl n zm);have d:=zT5 r n (hl n zm) (fun x b=>hl x (by simp[b]));rw[del,qP0,qP4];omega
theorem zI8 (l:List Nat) (b:∀x∈l,x<=20):kN (delta l)<=5+41*kN l:=by
 unfold delta;rw[qP0,zAc];have c:l.headD 0<=20:=by
  cases l with
  |nil=>simp
  |cons a r=>exact b a zm
 have:=zT5 l _ c b;omega
theorem qAf (l:List Nat):kN (zC2 l)<=272:=by
 unfold zC2;rw[qP0,zAc];have:=zIt l 16;omega
theorem zN2 (t:List Nat) (a:∀x∈t,x<=20):∀g:List Nat,kN (g.flatMap (word t))<=20*kN g
 |[]=>by simp
 |s::g=>by
  rw[qSk,qP0,zCu,qP4];have b:=zN2 t a g;have c:t.getD s 0<=20:=by
   rw[qPz];cases h:t[s]? with
   |none=>simp
   |some x=>exact a x (qSs h)
  omega
def pkT (x:List UInt8):ByteArray:=⟨(Rle.pack x).toArray⟩
def codes (p:ByteArray):Nat:=(zAj p).size+2
def tab (p:ByteArray) (k:Nat):List Nat:=tb (sym p) (codes p) k
def cho (p:ByteArray):List Nat:=chosen (sym p) (codes p)
def zGb (p:ByteArray) (i:Nat):List Nat:=if(cho p).getD i 0=1 then tab p 1 else tab p 0
def groups (p:ByteArray):List (List Nat):=grp (sym p)
def zBe (p:ByteArray) (i:Nat):List Bool:=((groups p).getD i []).flatMap (word (zGb p i))
def zA4:Nat:=54156738319193
def zBa (x:List UInt8):Nat:=(Crc.sum x).toNat
def zCg (x:List UInt8):List (List Bool):=[num zA4 48,num (zBa x) 32,num (zA8 (pkT x)) 16,zC2 (bl (zAj (pkT x))),num 2 3,num (kN (cho (pkT x))) 15,zAz yI (cho (pkT x))]
def zIg (x:List UInt8):List (List Bool):=zCg x++[delta (tab (pkT x) 0),delta (tab (pkT x) 1)]++(yO (kN (groups (pkT x)))).map (zBe (pkT x))
def zAn (x:List UInt8):List Bool:=(zIg x).flatten
theorem zF8 (p:ByteArray) (h:0<p.size):3<=codes p/\codes p<=258:=by
 have a:=zMz p h;have b:=zFk p;unfold codes;omega
theorem zIo (p:ByteArray):kN (sym p)<=p.size+1:=by
 rw[zCv];have:=zL1 p;omega
theorem zC6 (p:ByteArray) (h:0<p.size) (b:p.size<=1000) (k:Nat):Right (tab p k):=by
 have a:=zF8 p h;have c:=zIo p;exact zDn _ _ _ za za za
theorem zG6 (p:ByteArray) (k:Nat):kN (tab p k)=codes p:=zG5 _ _ _
theorem zJ4 (p:ByteArray):kN (cho p)=kN (groups p):=zIe _ _
theorem zYh (p:ByteArray):∀x∈cho p,x<=1:=zGr _ _
theorem zFg (p:ByteArray):kN (groups p)=(kN (sym p)+9)/10:=zBx _
theorem zI2 (p:ByteArray) (a:p.size<=1000):kN (groups p)<=101:=by
 rw[zFg];have:=zIo p;omega
theorem zU7 (p:ByteArray):0<kN (groups p):=by
 rw[zFg,zCv];omega
theorem zSf (p:ByteArray) (h:0<p.size) (a:p.size<=1000) (i:Nat):Right (zGb p i):=by
 unfold zGb;split
 .exact zC6 p h a 1
 .exact zC6 p h a 0
theorem qAz (p:ByteArray) (i:Nat) (hi:i<kN (groups p)):(groups p).getD i []∈groups p:=by
 rw[qPz,qPu hi];exact qP9 hi
theorem qAy (p:ByteArray) (h:0<p.size) (i:Nat) (hi:i<kN (groups p)):kN ((groups p).getD i [])<=10/\∀s∈(groups p).getD i [],s<codes p:=by
 obtain⟨_,a,b⟩:=zHg (qAz p i hi);exact⟨a,fun s c=>zPz p h s (b s c)⟩
theorem zS3 (p:ByteArray) (h:0<p.size) (a:p.size<=1000) (i:Nat) (hi:i<kN (groups p)):kN (zBe p i)<=200:=by
 have b:=zN2 (zGb p i) (zSf p h a i).top ((groups p).getD i []);have c:=(qAy p h i hi).1;unfold zBe;omega
theorem zEt {α:Type} (b:Nat):∀ls:List (List α),(∀l∈ls,kN l<=b)->kN ls.flatten<=b*kN ls
 |[],_=>by simp
 |l::ls,h=>by
  have c:=zEt b ls (fun l a=>h l (by simp[a]));have d:=h l zm;rw[qSz,qP0,qP4,Nat.mul_add,Nat.mul_one];omega
theorem zXv (x:List UInt8) (h:0<(pkT x).size) (b:(pkT x).size<=1000):∀l∈zCg x,kN l<=300:=by
 intro l a;have d:=qAf (bl (zAj (pkT x)));have e:=zK4 yI (cho (pkT x));have c:=zI2 (pkT x) b;rw[<-zJ4]at c;unfold zCg at a;simp only[qP6,qT9,or_false]at a;rcases a with rfl|rfl|rfl|rfl|rfl|rfl|rfl
 .rw[zAc];omega
 .rw[zAc];omega
 .rw[zAc];omega
 .omega
 .rw[zAc];omega
 .rw[zAc];omega
 .omega
theorem zO (p:ByteArray) (h:0<p.size) (b:p.size<=1000) (k:Nat):kN (delta (tab p k))<=11000:=by
 have a:=zI8 (tab p k) (zC6 p h b k).top;rw[zG6]at a;have:=zF8 p h;omega
theorem zLp (x:List UInt8) (h:0<(pkT x).size) (a:(pkT x).size<=1000):kN (zAn x)<=45000:=by
 have b:=zEt 300 (zCg x) (zXv x h a);have c:=zEt 200 ((yO (kN (groups (pkT x)))).map (zBe (pkT x))) (fun l d=>by
  obtain⟨i,hi,rfl⟩:=qQg.1 d;exact zS3 (pkT x) h a i (qQn.1 hi))
 have e:=zO (pkT x) h a 0;have f:=zO (pkT x) h a 1;have g:=zI2 (pkT x) a;rw[qQj,qQ9]at c;rw[show(zCg x).length=7 from rfl]at b;unfold zAn zIg;rw[qR0,qR0,qP0,qP0];simp only[qSz,List.flatten_nil,qQv,qP0];omega
theorem zFy (x:List UInt8):(pkT x).size=xZ x:=by show(Rle.pack x).toArray.size=_;simp[xZ]
theorem zJp (x:List UInt8) (h:0<kN x):0<(pkT x).size:=by
 have:=Rle.zBu x;rw[zFy];omega
end Bk
namespace Sm
open Tn Zr Bt Bk
abbrev T:=List UInt8
def pieces (a:Nat):Nat->T->List T
 |0,_=>[]
 |n+1,x=>if x=[]then[]else x.take (xg x a)::pieces a n (x.drop (xg x a))
def pcs (a:Nat) (x:T):List T:=pieces a (kN x) x
theorem zNr (a:Nat) (x:T) (h:x≠[]) (d:1<=a):kN (x.drop (xg x a))<kN x:=by
 have b:=Rle.zJ2 x a h za;have c:0<kN x:=qSm.2 h;rw[qQo];omega
theorem zKh (a:Nat) (c:1<=a):∀(n m:Nat) (x:T),kN x<=n->kN x<=m->pieces a n x=pieces a m x
 |0,0,x,_,_=>rfl
 |0,m+1,x,h,_=>by
  have:x=[]:=qQ0 za;subst this;simp[pieces]
 |n+1,0,x,_,h=>by
  have:x=[]:=qQ0 za;subst this;simp[pieces]
 |n+1,m+1,x,h,g=>by
  unfold pieces;by_cases b:x=[]
  .rw[qPr b,qPr b]
  .have:=zNr a x b c;rw[qPt b,qPt b,zKh a c n m _ za za]
theorem zB6 (a:Nat):pcs a []=[]:=rfl
theorem zBq (a:Nat) (x:T) (h:x≠[]) (b:1<=a):pcs a x=x.take (xg x a)::pcs a (x.drop (xg x a)):=by
 have d:=zNr a x h b;have e:0<kN x:=qSm.2 h;obtain⟨n,c⟩:∃n,kN x=n+1:=⟨kN x-1,za⟩;unfold pcs;rw[c,pieces,qPt h,zKh a b n (kN (x.drop (xg x a))) _ za (qPq _)]
theorem zJr {M:T->Prop} (a:Nat) (e:1<=a) (b:M []) (d:∀x,x≠[]->M (x.drop (xg x a))->M x):∀(n:Nat) (x:T),kN x<=n->M x
 |0,x,h=>by
  have:x=[]:=qQ0 za;subst this;exact b
 |n+1,x,h=>by
  by_cases c:x=[]
  .subst c;exact b
  .have:=zNr a x c e;exact d x c (zJr a e b d n _ za)
theorem zHv (a:Nat) (b:1<=a) (x:T):(pcs a x).flatten=x:=by
 refine zJr (M:=fun x=>(pcs a x).flatten=x) a b rfl (fun x c d=> ?_) (kN x) x (qPq _);rw[zBq a x c b,qSz,d,qSa]
theorem zJq (a:Nat) (c:1<=a) (x:T):∀p∈pcs a x,0<kN p/\xZ p<=a:=by
 refine zJr (M:=fun x=>∀p∈pcs a x,0<kN p/\xZ p<=a) a c (by simp[zB6]) (fun x d e=> ?_) (kN x) x (qPq _);rw[zBq a x d c];intro p b;rcases qP6.1 b with rfl|b
 .have f:=Rle.zJ2 x a d za;have g:=Rle.zLm x a za;rw[qQh];omega
 .exact e p b
theorem zOh (a:Nat) (j:40<=a) (x:T):30*kN (pcs a x)<=kN x+29:=by
 refine zJr (M:=fun x=>30*kN (pcs a x)<=kN x+29) a za (by simp[zB6]) (fun x b f=> ?_) (kN x) x (qPq _);rw[zBq a x b za,qP4];have c:=Rle.zLm x a za;have g:=Rle.zBu (x.take (xg x a+1));have h:kN (x.take (xg x a+1))<=xg x a+1:=by rw[qQh];omega
 rw[qQo]at f;have i:=Rle.zJ2 x a b za;by_cases d:xg x a<kN x
 .have:=c.2.2 d;omega
 .have e:x.drop (xg x a)=[]:=by rw[List.drop_eq_nil_iff];omega
  rw[e,zB6];have:0<kN x:=qSm.2 b;simp;omega
def zBp (a:Nat):List Bool:=num 80 8++(num 77 8++(num 107 8++num (48+a) 8))
theorem zTz:∀a:Fin 10,pkL (zBp a.val)=[80,77,107,UInt8.ofNat (48+a.val)]:=by decide+kernel
theorem zDw (a:Nat):kN (zBp a)=32:=by simp[zBp,zAc]
def zH0:Nat:=25779555029136
def zVr (a:List T):BitVec 32:=(a.map Crc.sum).foldl Crc.fold 0#32
def zF (a:List T):List Bool:=num zH0 48++num (zVr a).toNat 32
theorem zRi (a:List T):kN (zF a)=80:=by simp[zF,zAc]
def qBn (b:Nat) (a:List T):List (List Bool):=zBp b::(a.map zAn++[zF a])
def zFa (a:Nat) (b:List T):List Bool:=(qBn a b).flatten
def zCt (a:Nat) (b:List T):ByteArray:=pk (zFa a b)
def pos (a:List T) (k:Nat):Nat:=32+((a.take k).map zAn).flatten.length
theorem zZu (a:List T):pos a 0=32:=by simp[pos]
theorem zZv (a:List T) (k:Nat) (h:k<kN a):pos a (k+1)=pos a k+kN (zAn a[k]):=by
 unfold pos;rw[qQp h,qQb,qR0,qP0,qQe,qSp,qSz,List.flatten_nil,qQv];omega
theorem zYn (b:Nat) (a:List T) (k:Nat) (h:k<kN a):zFa b a=(zBp b++((a.take k).map zAn).flatten)++zAn a[k]++(((a.drop (k+1)).map zAn).flatten++zF a):=by
 have:a=a.take k++a[k]::a.drop (k+1):=by rw[List.getElem_cons_drop,qSa]
 have c:(a.map zAn).flatten=((a.take k).map zAn).flatten++(zAn a[k]++((a.drop (k+1)).map zAn).flatten):=by
  rw[<-qSz,<-qQe,<-qR0,<-qQb,<-this]
 unfold zFa qBn;rw[qSz,qR0,c];simp
theorem zLs (b:Nat) (a:List T):zFa b a=(zBp b++(a.map zAn).flatten)++zF a++[]:=by
 unfold zFa qBn;simp
theorem zJ8 (b:Nat) (a:List T):kN (zFa b a)=pos a (kN a)+80:=by
 rw[zLs];simp only[qP0,zDw,zRi,pos,qS7,qQy]
theorem zVo (a m b:List Bool):At (pk (a++m++b)) (kN a) m:=by
 have f:kN (a++m++b)<=8*(pk (a++m++b)).size:=by rw[zDu];unfold zA2;omega
 simp only[qP0]at f;refine⟨za,?_⟩;refine List.ext_getElem (by rw[take_length]) (fun j e c=> ?_);have d:=zKy (pk (a++m++b)) (kN a) (kN m) j c;rw[qPu e]at d;rw[qPv d,zGo _ _ za,qPz,qQr,qS3 za,Nat.add_sub_cancel_left,qR7 c,qPu c];rfl
theorem qGm (b:Nat) (a:List T) (k:Nat) (h:k<kN a):At (zCt b a) (pos a k) (zAn a[k]):=by
 have c:=zVo (zBp b++((a.take k).map zAn).flatten) (zAn a[k]) (((a.drop (k+1)).map zAn).flatten++zF a);rw[<-zYn,qP0,zDw]at c;exact c
theorem qEd (b:Nat) (a:List T):At (zCt b a) (pos a (kN a)) (zF a):=by
 have c:=zVo (zBp b++(a.map zAn).flatten) (zF a) [];rw[<-zLs,qP0,zDw]at c;unfold pos;rw[qS7];exact c
theorem zLr (b:Nat) (a:List T):(zCt b a).size=(pos a (kN a)+80+7)/8:=by
 unfold zCt;rw[zDu,zJ8];rfl
theorem val_zero:∀n:Nat,val (yP n yI)=0
 |0=>rfl
 |n+1=>by rw[qSn,zKx,val_zero n];simp
theorem qBl (b:Nat) (a:List T) (r:Nat) (h:pos a (kN a)+80+r<=8*(zCt b a).size):val (take (zCt b a) (pos a (kN a)+80) r)=0:=by
 have:take (zCt b a) (pos a (kN a)+80) r=yP r yI:=by
  refine List.ext_getElem (by rw[take_length,qT0]) (fun j c f=> ?_);rw[take_length]at c;have d:=zKy (zCt b a) (pos a (kN a)+80) r j c;rw[qPu (by rw[take_length];exact c)]at d;rw[qPv d,List.getElem_replicate];have e:=zGo (zFa b a) (pos a (kN a)+80+j) (by
   show _<8*(zCt b a).size;omega)
  rw[show zCt b a=pk (zFa b a)from rfl,e,zDe];rw[zJ8];omega
 rw[this,val_zero]
theorem qBm (a:Nat) (e:a<10) (c:List T) (k:Nat) (d:k<4):(zCt a c).data.toList[k]? =yA (([80,77,107,UInt8.ofNat (48+a)]:T).getD k 0):=by
 have b:(pkL (zBp a))[k]? =yA (([80,77,107,UInt8.ofNat (48+a)]:T).getD k 0):=by
  rw[zTz ⟨a,e⟩]
  match k,d with
  |0,_=>rfl
  |1,_=>rfl
  |2,_=>rfl
  |3,_=>rfl
 have f:k<zA2 (kN (zBp a)):=by rw[zDw];unfold zA2;omega
 rw[zFz _ _ f]at b;show(pkL (zFa a c))[k]? =_;rw[zFz _ _ (by rw[zJ8];unfold zA2;omega),<-b];congr 2;refine zDv (fun j g=> ?_);rw[zLs,qPz,qPz,qQr,qQr,qR7 (by rw[zDw];omega)]
theorem zW3 (a:List T) (h:∀p∈a,0<kN p/\xZ p<=1000) (k:Nat):pos a k<=32+45000*kN a:=by
 unfold pos;have c:=zEt 45000 ((a.take k).map zAn) (fun l d=>by
  obtain⟨p,e,rfl⟩:=qQg.1 d;have b:=h p (qUg e);exact zLp p (zJp p b.1) (by rw[zFy];exact b.2))
 rw[qQj,qQh]at c;have:45000*min k (kN a)<=45000*kN a:=Nat.mul_le_mul_left _ (Nat.min_le_right _ _);omega
end Sm
namespace Sq
open Front Ix
theorem indexB (l:List Nat) (f:Nat) (v:yD) (a:Option yF) (n c:Nat) (w:yC) (p:kN l=n) (z:n<=1000000000) (q:yt w a (l.map ival)) (u:zG3 f)
  (H:∀x∈l,∀W,yM w w W->yG yK f #[ival x,v] W fun e w'=>e=qx (qh yI)/\yM W W w'):
  yG yK 152 #[qZ a n c,.func (.func f) #[] #[v]] w fun e w'=>e=qx (qX qm (-1))/\yM w w w':=by
 obtain⟨t,s,r⟩:=yV q p H;unfold zG3 at u;clear q p H;go_enter func152,ntmps152;go_wp2;go_loopw [8] (fun i wr=>∃k:Nat,k<=n/\i=qX qm k/\yL (yM w w wr)) (fun i _=>n-(intOf i).toNat)
 case atStart=>exact⟨0,za,rfl,zH (yR _ _)⟩
 case round=>
  obtain⟨k,B,rfl,j⟩:=hrel;by_cases h:k<n
  .have g:k<kN l:=by rw[s.out];exact h
   obtain⟨x,m⟩:=zB (l[k]);obtain⟨b,off,rfl,y⟩:=(t.out.below j.out) k (ival x) (by rw[qP3,qPu g,m];rfl);have o:=zH (r.out x (by rw[<-m];exact qP9 g) wr j.out);clear m;go_wp2_with fail;(with_reducible refine o.out.mono ?_);rintro e w2 ⟨rfl,d⟩;have HB:=zH (j.out.trans (d.mono j.out.size));clear d o j;go_wp2;go_roundw
   case rel=>exact⟨k+1,za,by go_num,HB⟩
   case measure=>exact qV
  .obtain rfl:k=n:=za
   go_wp2;go_ret;exact⟨rfl,j.out⟩
theorem zYc (l:List Nat) (f:Nat) (v:yD) (a:Option yF) (n c:Nat) (w:yC) (d:kN l=n) (j:n<=1000000000) (g:yt w a (l.map ival)) (b:zG3 f)
  (H:∀x∈l,∀W,yM w w W->yG yK f #[ival x,v] W fun e w'=>e=qx (qh yI)/\yM W W w'):
  yG yK 79 #[qZ a n c,.func (.func f) #[] #[v]] w fun e w'=>e=qx (qh yI)/\yM w w w':=by
 have h:=zH (indexB l f v a n c w d j g b H);clear d g b H;go_enter func79,ntmps79;go_wp2_with fail;(with_reducible refine h.out.mono ?_);rintro e w2 ⟨rfl,i⟩;go_wp2;go_ret;exact⟨rfl,i⟩
end Sq
namespace Hf
open Front Bt Zr
def takeC (l:List Nat) (k j:Nat):Nat:=(l.take k).count j
theorem zUi (l:List Nat) (k:Nat) (a:k<kN l) (j:Nat):zAy (takeC l k) l[k] (takeC l k l[k]+1) j=takeC l (k+1) j:=by
 unfold zAy takeC;rw[qQp a,List.count_append,List.count_singleton];by_cases e:j=l[k]
 .subst e;simp
 .rw[qPt e];have:(l[k]==j)=yI:=by simp;exact fun h=>e h.symm
  simp[this]
theorem zY9 (l:List Nat) (k j:Nat):takeC l k j<=k:=by
 unfold takeC;have b:=List.count_le_length (a:=j) (l:=l.take k);rw[qQh]at b;omega
def zId (l:List Nat) (j:Nat):yD:=qX qm ((cnt l j:Nat):Int)
theorem qBd (l:List Nat) (n:Nat):(cellsOf n (zId l)).all (·.oneCell')=yH:=by
 rw[qUf];intro v hv;simp only[cellsOf,Array.mem_map]at hv;obtain⟨j,_,rfl⟩:=hv;rfl
theorem zS4 (l:List Nat) (a:Option yF) (n c:Nat) (w:yC) (Z:kN l=n) (a0:n<=100000) (hs:yt w a (l.map ival)) (Y:∀x∈l,x<=20):
  yG yK 127 #[qZ a n c] w fun e w'=>e=qx (.agg (cellsOf 21 (zId l)))/\yM w w w':=by
 obtain⟨B,y⟩:=zB w.heap.size;have hz:(#[qX qm 0,qX qm 0,qX qm 0,qX qm 0,qX qm 0,qX qm 0,qX qm 0,qX qm 0,qX qm 0,qX qm 0,qX qm 0,qX qm 0,qX qm 0,qX qm 0,qX qm 0,qX qm 0,qX qm 0,qX qm 0,qX qm 0,qX qm 0,qX qm 0]:Array yD)=cellsOf 21 (fun _=>qX qm 0):=zf
 have h:=zAm.zeros B w 21 218 y;rw[<-hz]at h;obtain⟨W,M⟩:=zB (w.alloc (qp (#[qX qm 0,qX qm 0,qX qm 0,qX qm 0,qX qm 0,qX qm 0,qX qm 0,qX qm 0,qX qm 0,qX qm 0,qX qm 0,qX qm 0,qX qm 0,qX qm 0,qX qm 0,qX qm 0,qX qm 0,qX qm 0,qX qm 0,qX qm 0,qX qm 0]:Array yD) 218));have F:yM B w W:=by rw[<-M,<-y];exact(yR _ _).alloc (qPq _) _
 rw[M]at h;obtain⟨G,s,HS,HL,X⟩:=yY h F hs Y Z;rw[y];clear hz h F hs Y Z;go_enter func127,ntmps127;go_wp2;clear M;go_loopw [7] (fun i wr=>∃k:Nat,k<=n/\i=qX qm k/\yL (zAm wr B 218 21 (takeC l k))/\yL (yM B w wr)) (fun i _=>n-(intOf i).toNat)
 case atStart=>exact⟨0,za,rfl,zH (G.out.congr (fun j _=>by simp[takeC])),s⟩
 case round=>
  clear G s;obtain⟨k,hk,rfl,f,N⟩:=hrel;by_cases K:k<n
  .have m:k<kN l:=by rw[X.out];exact K
   have d:=zUi l k m;have H:=zY9 l k l[k];have I:=HL.out _ (qP9 m);obtain⟨x,O⟩:=zB (l[k]);obtain⟨g,off,rfl,e0⟩:=(HS.out.below (w':=wr) (by rw[y];exact N.out)) k (ival x) (by rw[qP3,qPu m,O];rfl);rw[O]at d H I;have x0:=f.out.cell x za;have f0:=f.out.free x;have t:=zH ((f.out.set x (takeC l k x+1) (V:=((takeC l k x:Nat):Int)+1) za).congr (fun j _=>d j));obtain⟨q,hq⟩:=zB (takeC l k x);rw[hq]at x0 H t;clear d O hq;go_wp2;go_roundw
   case rel=>exact⟨k+1,za,by go_num,t,zH (N.out.setCell (p:=⟨B,x,yB⟩) (qPq _) _)⟩
   case measure=>exact qV
  .obtain rfl:k=n:=za
   have b:Arr wr B 218 21 (zId l):=by
    have:=f.out.congr (g:=cnt l) (fun j _=>by unfold takeC;rw[qQc (by rw[X.out];omega),Wg.zJ]);exact this
   have o:(prog.info? 218).map (·.size)=yA 21:=zf
   have u:(cellsOf 21 (zId l)).size=21:=cellsOf_size _ _;have d:=zE2 (P:=yK) wr B 218 _ (cellsOf 21 (zId l)) b rfl (qBd l 21);rw[setRow_self wr B _ 218 (0,0) b]at d;obtain⟨z,r⟩:=zB (cellsOf 21 (zId l));unfold Arr at b;rw[r]at b d u;have R:=zH b;have S:=yT ((prog.info? 218).map (·.size)=yA z.size) (by rw[u];exact o);have L:=zH r;clear b o r;go_wp2_with (refine wpList_load_row rfl 218 (.tmp 2) rfl B rfl 218 z (0,0) (.array 21 3) R.out underlying218 rfl S.out ?_)
   try simp only[Exit.inBlock,Exit.then]
   rw[L.out];exact qP5 (results_cell_row rfl _ _ B 218 z (0,0) (.array 21 3) rfl R.out underlying218 rfl S.out) rfl ⟨rfl,N.out⟩
theorem zI5 (m:Int):∀(zs:List Int) (a:Int),a<=m->(∀z∈zs,z<=m)->zs.foldl max a<=m
 |[],a,h,_=>h
 |z::zs,a,h,hz=>zI5 m zs (max a z) (by have:=hz z zm;omega) (fun y b=>hz y (by simp[b]))
theorem zI4 (m:Int):∀(zs:List Int) (a:Int),m<=a->(∀z∈zs,m<=z)->m<=zs.foldl min a
 |[],a,h,_=>h
 |z::zs,a,h,hz=>zI4 m zs (min a z) (by have:=hz z zm;omega) (fun y b=>hz y (by simp[b]))
theorem max_le (m:Int) (zs:List Int) (a:zs≠[]) (h:∀z∈zs,z<=m):Lib.maxOf zs<=m:=by
 unfold Lib.maxOf;cases zs with
 |nil=>exact absurd rfl a
 |cons z r=>exact zI5 m _ _ (h z zm) h
theorem qFp (m:Int) (zs:List Int) (a:zs≠[]) (h:∀z∈zs,m<=z):m<=Lib.minOf zs:=by
 unfold Lib.minOf;cases zs with
 |nil=>exact absurd rfl a
 |cons z r=>exact zI4 m _ _ (h z zm) h
def left (l:List Nat):Nat->Int
 |0=>1
 |k+1=>((2^k:Nat):Int)-((first l k+cnt l k:Nat):Int)
theorem zXl (l:List Nat) (k:Nat):left l (k+1)=(if 0<k then 2*left l k else left l k)-((cnt l k:Nat):Int):=by
 cases k with
 |zero=>simp[left,first]
 |succ k=>
  rw[qPr za];simp only[left,first,qRq];push_cast;omega
theorem zMh {l:List Nat} (h:Right l) (k:Nat) (c:k<=21):0<=left l k/\left l k<=2097152:=by
 cases k with
 |zero=>simp[left]
 |succ k=>
  have a:=h.zEs k za;have b:2^k<=2^20:=qR9 za za;simp only[left];omega
theorem qGc (l:List Nat) (n:Nat):cnt l n<=kN l:=by rw[Wg.zJ];exact List.count_le_length
theorem zCk (l:List Nat) (a:Option yF) (n c:Nat) (w:yC) (hn:kN l=n) (hs:yt w a (l.map ival)) (X:Right l):
  yG yK 45 #[qZ a n c] w fun e w'=>e=qx (qX qm 0)/\yM w w w':=by
 have h2:=X.two;have O:=X.most;rw[hn]at h2 O;obtain⟨b,r,rfl,_⟩:=hs 0 (ival l[0]) (by rw[qP3,qPu];rfl);obtain⟨zs,g⟩:∃zs:List Int,l.map (fun x:Nat=>(x:Int))=zs:=⟨_,rfl⟩;have o:kN zs=n:=by rw[<-g,qQj,hn]
 have f:∀j,j<kN zs->w.cell? ⟨b,r+j,yB⟩=yA (qX qm (zs.getD j 0)):=by
  intro j hj;have N:j<kN l:=za
  obtain⟨b',a0,ha,hc⟩:=hs j (ival l[j]) (by rw[qP3,qPu N];rfl);injection ha with ha
  injection ha with h1 h3 _
  subst h1 h3;rw[hc,<-g,qPz,qP3,qPu N];rfl
 have hne:zs≠[]:=by intro h;rw[h]at o;simp at o;omega
 have H:Lib.maxOf zs<=20:=max_le 20 zs hne (fun z Y=>by rw[<-g]at Y;obtain⟨x,hx,rfl⟩:=qQg.1 Y;have:=X.top x hx;omega);have K:1<=Lib.minOf zs:=qFp 1 zs hne (fun z Y=>by rw[<-g]at Y;obtain⟨x,hx,rfl⟩:=qQg.1 Y;have:=X.one x hx;omega);obtain⟨Z,H2⟩:=yU (slices_Min_int b r n c zs w za za za f) (slices_Max_int b r n c zs w za za za f);rw[qQc za]at Z H2;obtain⟨mn,s⟩:=zB (Lib.minOf zs);obtain⟨mx,p⟩:=zB (Lib.maxOf zs);rw[s]at Z K;rw[p]at H2 H;have j1:decide (mn<1)=yI:=qP1 za;have j2:decide ((20:Int)<mx)=yI:=qP1 za;have j3:decide ((n:Int)<2)=yI:=qP1 za;have j4:decide ((258:Int)<(n:Int))=yI:=qP1 za;obtain⟨H3,HR,R⟩:=yV (zS4 l _ n c w hn za hs X.top) X (qGc l);clear f s p g hs o hne K H X;go_enter func45,ntmps45;go_wp2_with fail;(with_reducible refine Z.out.mono ?_);rintro e w2 ⟨rfl,rfl⟩;go_wp2_with fail;(with_reducible refine H2.out.mono ?_);rintro e w3 ⟨rfl,rfl⟩;go_wp2_with fail;(with_reducible refine H3.out.mono ?_);rintro e w4 ⟨rfl,M⟩;obtain⟨S,I⟩:=yU M (fun k (hk:k<21)=>zCe 21 (zId l) k hk);obtain⟨cs,L⟩:=zB (cellsOf 21 (zId l));rw[L]at I⊢;clear M L j1 j2 j3 j4 Z H2 H3;go_wp2;go_loopw [3,26] (fun lv i wr=>∃k:Nat,k<=21/\i=qX qm k/\lv=qX qm (left l k)/\wr=w4) (fun _ i _=>21-(intOf i).toNat)
 case atStart=>exact⟨0,za,rfl,rfl,rfl⟩
 case round=>
  obtain⟨k,hk,rfl,rfl,rfl⟩:=hrel;by_cases B:k<21
  .have m:=zE8 (P:=yK) (t:=218) (n:=21) (e:=3) underlying218 (fun _=>isAgg3 _) (fun _=>sizeOf3 _) cs k _ B (I.out k B) wr;unfold zId at m;have V:=zMh HR.out k za;have F:=zMh HR.out (k+1) za;have d:=zXl l k;have W:=R.out k;have a2:=HR.out.most;obtain⟨q,hq⟩:=zB (cnt l k);obtain⟨y,hy⟩:=zB (left l k);rw[hq]at m d W;rw[hy]at d V⊢;by_cases G:0<k
   .rw[qPr G]at d;rw[d]at F;have u:=zH d;have i4:decide (2*y-(q:Int)<0)=yI:=qP1 za;have a1:(0:Int)<(k:Int):=za
    clear d hq hy G;go_wp2;go_roundw
    case rel=>exact⟨k+1,za,by go_num,by rw[u.out];congr 1;omega,trivial⟩
    case measure=>exact z8
   .obtain rfl:k=0:=za
    rw[qPt za]at d;rw[d]at F;have u:=zH d;have i4:decide (y-(q:Int)<0)=yI:=qP1 za;rw[show((0:Nat):Int)=0 from rfl]at m;clear d hq hy;go_wp2;go_roundw
    case rel=>exact⟨0+1,za,by go_num,by rw[u.out],trivial⟩
    case measure=>exact z8
  .obtain rfl:k=21:=za
   go_wp2;go_ret;exact⟨rfl,S.out⟩
end Hf
namespace Hf
open Go.Shelf Front Bt Zr Rg
variable {w:yC}
attribute [local go_sem] Oper.semAt_some
theorem zLt {F:Fence} {e:Nat} {P:Program} {w':yC} {d:Array Oper} {rest:List Oper} {o:Oper} {a:Act} {Q:Exit->Act->yC->Prop} (i:o.guard=yB) (s x:Operand) (t:yE)
  (b:o.op= .call {callee:= .builtin .append,args:= #[s,x],argTypes:= #[t,t]}) {v y v':yD} (k:a.eval s=v) (l:a.eval x=y)
  (j:(Builtin.append_ #[t,t] o.type #[v,y]).run P w= .ok v' w') (h:wpListIn F e P d Q rest (a.put o.dst v') w'):wpListIn F e P d Q (o::rest) a w:=by
 refine wpListIn_plain i fun K f=> ?_;unfold Oper.wpIn;refine⟨?_,?_⟩
 .simp[Oper.about,b,resolve,Target.leads,qSo]
 .rw[Oper.semAt_plain F _ _ (by rw[b];intro c g;cases g)];simp[execOp,b,resolve,invoke,builtin,k,l,j,Result.andThen];exact f _ _ h
theorem zG9 {W:yC} {a:Option yF} {xs:List yD} (h:yt W a xs) {l:Nat} {o:Obj} (n:Obj) (i:W.heap[l]? =yA o) (k:o.isCells=yI):yt (W.putObj l n) a xs:=by
 intro j u m;obtain⟨b,c,g,e⟩:=h j u m;refine⟨b,c,g,?_⟩;obtain⟨p,t,f,d⟩:=zO7 e;rw[qRg (w:=W) (a:=⟨b,c+j,yB⟩)]
 .exact e
 .refine World.putObj_heap_other ?_;rintro rfl;rw[i]at d;obtain rfl:=qPv d;cases k
def lv (l:List Nat) (n m:Nat):List Nat:=(List.range' n m).filter fun k=>decide (0<cnt l k)
theorem qD (l:List Nat) (n m:Nat):lv l n (m+1)=(if 0<cnt l n then[n]else[])++lv l (n+1) m:=by
 unfold lv;rw[List.range'_succ,qTk];by_cases h:0<cnt l n<;>simp[h]
def LE (l:List Nat) (n:Nat) (W:yC) (d:Array yD):Prop:=∃(a:Option yF) (c:Nat),d= #[.agg #[n,qX .u64 (first l n:Int),qZ a (cnt l n) c]]/\yt W a ((whose l n).map ival)/\(∃g b f,a=yA ⟨g,0,yB⟩/\W.heap[g]? =yA (qp b 3 f))/\1<=n/\n<=20/\0<cnt l n
def zHl (l:List Nat) (n k:Nat):List Nat:=(yO k).filter fun s=>l.getD s 0==n
theorem zV8 (l:List Nat) (n k:Nat):zHl l n (k+1)=zHl l n k++if l.getD k 0=n then[k]else[]:=by
 unfold zHl;rw[qQw,List.filter_append];congr 1;rw[qTk,List.filter_nil];by_cases h:l.getD k 0=n
 .rw[if_pos h,show(l.getD k 0==n)=yH by simpa using h];rfl
 .rw[if_neg h,show(l.getD k 0==n)=yI by simpa using h];rfl
structure LvS (w:yC) (L:Nat) (n f:Nat) (p:Option yF) (m c:Nat) (xs:List Nat):Prop where
 blk:w.heap[L]? =yA (qp #[n,qX .u64 (f:Int),qZ p m c] 199)
 own:yu w (L+1) 3 p m c (xs.map ival)
theorem cells3 {B:Nat} {u v x:yD} {t:yE} (h:w.heap[B]? =yA (qp #[u,v,x] t)):w.cell? ⟨B,0,yB⟩=yA u/\w.cell? ⟨B,1,yB⟩=yA v/\w.cell? ⟨B,2,yB⟩=yA x/\w.frozen? ⟨B,2,yB⟩=yI:=by
 refine⟨by simp[yQ,h],by simp[yQ,h],by simp[yQ,h],by simp[World.frozen?,h]⟩
theorem zMf (b:Nat) (a:Option yF) (n c:Nat) (l:List Nat) (hl:kN l=n) (hr:Right l) (C:Nat->Prop) (hC:¬C b) (b7:∀p,a=yA p->¬C p.block) (W:yC) (b8:∀k,W.heap.size<=k->¬C k) (b6:Boxed W b 23 (qZ a n c)) (hs:yt W a (l.map ival)):
  zR7 yK 161 #[qc (yA ⟨b,0,yB⟩)] (LE l) (fun A B=>yM A A B) C (lv l 1 20) W:=by
 intro k0 J Jx hJ hY h0;refine qS8 func161 rfl trivial ?_ rfl;simp only[ntmps161,qQ2,qP4,qQy,Nat.reduceAdd,Nat.reduceSub,qR,qRa,qRb,qRc,qQm,qQs];have an:=hr.most;rw[hl]at an;obtain⟨ao,HS,HN,HJ,HY,H0,HR⟩:=yg b6 hs hl hJ hY h0 hr;clear b6 hs hl hJ hY h0 hr;gi_wp2;gi_loopw [3,4] (fun nv v wr=>∃(k:Nat) (pre:List Nat),1<=k/\k<=21/\v=qX qm (k:Int)/\nv=qX .u64 ((first l (k-1)+cnt l (k-1):Nat):Int)/\yL (lv l 1 20=pre++lv l k (21-k))/\yL (Boxed wr b 23 (qZ a n c))/\yL (yt wr a (l.map ival))/\yL (J pre wr)/\W.heap.size<=wr.heap.size) (fun _ v _=>21-(intOf v).toNat)
 case atStart=>exact⟨1,[],za,za,rfl,by simp[first,zRt HR.out.one],zH rfl,ao,HS,H0,qPq _⟩
 case round=>
  obtain⟨k,pre,bb,ba,rfl,rfl,ai,Y,ac,hj,hz⟩:=hrel;obtain⟨wo,rfl⟩:∃wo:yC,wo=wr:=⟨_,rfl⟩;by_cases bd:k<=20
  .have aj:first l k=2*(first l (k-1)+cnt l (k-1))/\first l (k-1)+cnt l (k-1)<=1048576:=by
    obtain⟨q,rfl⟩:∃q,k=q+1:=⟨k-1,za⟩;rw[qSr];have a6:=HR.out.zEs q za;have bg:2^q<=2^20:=qR9 za za;exact⟨rfl,za⟩
   obtain⟨M,a6⟩:=aj;obtain⟨f,hf⟩:=zB (first l (k-1)+cnt l (k-1));rw[hf]at a6 M⊢;obtain⟨F,hF⟩:=zB (first l k);rw[hF]at M;have HF:=zH hF;clear hF;have a2:=zH M;obtain⟨L,y⟩:=zB wo.heap.size;obtain⟨WL,Z⟩:=zB (wo.alloc (qp #[k,qX .u64 ((f:Int)*2),qZ yB 0 0] 199));have a7:yM L wo WL:=by rw[<-Z,<-y];exact(yR _ _).alloc (qPq _) _
   have hX:WL.heap[L]? =yA (qp #[k,qX .u64 (F:Int),qZ yB 0 0] 199):=by
    rw[<-Z,<-y];show(wo.heap.push _)[wo.heap.size]? =_;simp;omega
   have aa:b<L:=by rw[<-y];exact Boxed.lt Y.out
   obtain⟨_,_,z2,g2⟩:=cells3 hX;obtain⟨WM,P⟩:=zB (WL.setCell ⟨L,2,yB⟩ (qZ yB 0 0));have ab:WM.heap[L]? =yA (qp #[k,qX .u64 (F:Int),qZ yB 0 0] 199):=by
    rw[<-P,qT7 WL L 2 _ _ _ hX];rfl
   have V:yM L wo WM:=by rw[<-P];exact a7.setCell (p:=⟨L,2,yB⟩) (qPq _) _
   have av:WM.cell? ⟨b,0,yB⟩=yA (qZ a n c):=(show Boxed WM b 23 (qZ a n c)from(V.block b aa).trans Y.out).cell;obtain⟨HX,ae⟩:=yU (LvS.mk (xs:=[]) ab (Kit.Own.start _ _ _)) V;clear ab V;have bc:(k:Int)<=20:=za
   clear hf M hX a7;gi_wp2;clear Z P av z2 g2;gi_loopw [19] (fun iv w'=>∃(i m:Nat) (p:Option yF) (c':Nat),i<=n/\iv=qX qm (i:Int)/\m<=i/\yL (LvS w' L k F p m c' (zHl l k i))/\yL (yM L wo w')) (fun iv _=>n-(intOf iv).toNat)
   case atStart=>exact⟨0,0,yB,0,za,rfl,za,HX,ae⟩
   case round=>
    clear HX ae;obtain⟨i,m,p,c',hi,rfl,bf,j,z⟩:=hrel;obtain⟨y0,y1,y2,g2⟩:=cells3 j.out.blk;by_cases b3:i<n
    .have ah:i<kN l:=by rw[HN.out];exact b3
     obtain⟨x,hx⟩:=zB (l[i]);have O:l.getD i 0=x:=by rw[qPz,qPu ah,hx];rfl
     have r:=zV8 l k i;rw[O]at r;obtain⟨g,off,rfl,e0⟩:=(ac.out.below (w':=wr) (by rw[y];exact z.out)) i (ival x) (by rw[qP3,qPu ah,hx];rfl);have b4:L<wr.heap.size:=zAd j.out.blk;by_cases N:x=k
     .rw[qPr N]at r;obtain⟨p3,c3,w3,b5,S,ad⟩:=Kit.Own.app (ty:=23) (w:=wr.alloc (qp #[i] 3)) zNn (j.out.own.alloc _) (yA ⟨wr,0,yB⟩) 1 1 [ival i] (xM wr _ 3) rfl (fun h=>by cases h) (zDr [i]) (by unfold maxLen;omega) za zq;rw[show(zHl l k i).map ival++[ival i]=(zHl l k (i+1)).map ival by rw[r,qQb];rfl]at S;have ag:=j.out.own.block;have a4:yM (L+1) wr w3:=((yR _ _).alloc za _).trans ((yR _ _).grown ad zq (fun k hk=>ag k hk));have s:w3.heap[L]? =yA (qp #[k,qX .u64 (F:Int),qZ p m c'] 199):=(a4.block L za).trans j.out.blk;obtain⟨_,_,v2,e2⟩:=cells3 s;have H3:=yT (LvS (w3.setCell ⟨L,2,yB⟩ (qZ p3 (m+1) c3)) L k F p3 (m+1) c3 (zHl l k (i+1))) ⟨by rw[qT7 w3 L 2 _ _ _ s];rfl,zD4 S (qQ8 _) _⟩;have B3:=zH ((z.out.trans (a4.mono za)).setCell (p:=⟨L,2,yB⟩) (qPq _) (qZ p3 (m+1) c3));have ax:((x:Int)==(k:Int))=yH:=zq
      clear S ad ag a4 s r hx O N y0 y1;gi_wp2_with (gi_at_builtin;refine zLt rfl (.tmp 28) (.tmp 30) 23 rfl rfl rfl b5 ?_);go_roundw
      case rel=>exact⟨i+1,m+1,p3,c3,za,by go_num,za,H3,B3⟩
      case measure=>exact z8
     .rw[qPt N,qQv]at r;have b1:=zH r;have ax:((x:Int)==(k:Int))=yI:=zq
      clear r hx O N y0 y1 y2 g2;gi_wp2;go_roundw
      case rel=>exact⟨i+1,m,p,c',za,by go_num,za,by rw[b1.out];exact j,z⟩
      case measure=>exact z8
    .obtain rfl:i=n:=za
     have t:zHl l k i=whose l k:=by unfold zHl whose;rw[HN.out]
     have o:cnt l k=m:=by
      have:=j.out.own.len;rw[qQj,t]at this;exact this
     have a9:=a2.out;have I:=qD l k (20-k);have d:=ai.out;rw[show 21-k=20-k+1 by omega,I]at d;have K:=HJ.out pre wo wr hj.out (by rw[y];exact z.out);have b4:L<wr.heap.size:=zAd j.out.blk;rw[o]at d;have u:Boxed wr b 23 (qZ a i c):=(z.out.block b aa).trans Y.out;have G:yt wr a (l.map ival):=ac.out.below (by rw[y];exact z.out);have am:=HR.out.zEs k za;rw[o,HF.out]at am;have bh:2^k<=2^20:=qR9 za za;rcases qQz m with a0|a0
     .subst a0;rw[qPt za,qQm]at d;have a5:=yT (lv l 1 20=pre++lv l (k+1) (21-(k+1))) (by rw[d,show 21-(k+1)=20-k by omega]);obtain⟨a3,X,b0,a1⟩:=yX u G K o;clear d I u G K o t y0 y1 a9;gi_wp2;refine⟨(fun f hf=>by cases hf),?_⟩
      rename_i hK _ _ _ _
      refine hK _ _ ?_;gi_wp2;go_roundw
      case rel=>exact⟨k+1,pre,za,za,by go_num,by rw[qSr,HF.out,a1.out];congr 1;have:=a2.out;omega,a5,a3,X,b0,za⟩
      case measure=>exact z8
     .rw[qPr za]at d;have R:pre++[k]<+:lv l 1 20:=by rw[d,<-qQr];exact List.prefix_append _ _
      have au:∃g cs f,p=yA ⟨g,0,yB⟩/\wr.heap[g]? =yA (qp cs 3 f):=by
       obtain⟨g,rfl,_⟩:=j.out.own.at_ a0;obtain⟨cs,ff,hh⟩:=zLa j.out.own;exact⟨g,cs,ff,rfl,hh⟩
      obtain⟨fn,tmps,assign,body,hy,hR⟩:=HY.out pre k wr #[.agg #[k,qX .u64 (F:Int),qZ p m c']] K
       ⟨p,c',by rw[HF.out,o],by rw[<-t];exact j.out.own.src,au,za,za,za⟩ R
      obtain⟨az,aq⟩:=yU hR R;have a5:=yT (lv l 1 20=(pre++[k])++lv l (k+1) (21-(k+1))) (by rw[d,show 21-(k+1)=20-k by omega,qQr]);obtain⟨a3,X,a1⟩:=yV u G o;have b9:(0:Int)<(m:Int):=za
      clear d I u G K o t a9 R hR;gi_wp2;refine az.out.mono ?_;rintro e W3 (⟨rfl,af,H⟩|⟨rfl,ak⟩)
      .obtain⟨ap,b2,ay⟩:=yV (zIf a3.out H hC) (zP4 X.out H b7) af;have s:=H.2 L _ _ _ j.out.blk (b8 L za);have bi:=H.1;obtain⟨_,_,v2,_⟩:=cells3 s;have j1:IntKind.u64.wrap (m:Int)=(m:Int):=qSh _ ⟨za,za⟩;clear af H s y0 y1 y2 g2 hy;gi_wp2;go_roundw
       case rel=>exact⟨k+1,pre++[k],za,za,by go_num,by rw[qSr,HF.out,a1.out];congr 1;have:=a2.out;omega,a5,ap,b2,ay,za⟩
       case measure=>exact z8
      .gi_wp2;refine qP5 (qSx rfl _ _ _) rfl ?_;exact⟨⟨_,rfl⟩,qy ⟨_,aq.out,ak⟩⟩
  .obtain rfl:k=21:=za
   have a8:J (lv l 1 20) wo:=by
    have:=ai.out;rw[show lv l 21 (21-21)=[]from rfl,qQv]at this;rw[this];exact hj.out
   have ar:=zH a8;clear a8;gi_wp2;go_end0;exact⟨⟨_,rfl⟩,qz ar.out⟩
end Hf
namespace Wg
open Hf Bt Zr Ix Front Ch
theorem zSe (x:Nat) (c:x<=1048576) (w:yC):
  yG yK 175 #[ival x] w fun e w'=>e=qx (qh ((fun _=>yI) x))/\w'=w:=by
 have a:decide ((x:Int)<0)=yI:=qP1 za;have b:decide ((1048576:Int)<(x:Int))=yI:=qP1 za;go_enter func175,ntmps175;go_wp2;go_ret;exact⟨rfl,rfl⟩
theorem zUe (l:List Nat) (a:Option yF) (n c:Nat) (w:yC) (f:kN l=n) (h:n<=1000000000) (g:yt w a (l.map ival)) (d:∀x∈l,x<=1048576):
  yG yK 123 #[qZ a n c] w fun e w'=>e=qx (qh yH)/\w'=w:=by
 have b:=zH (zE5 (fun _=>yI) l 175 a n c w f h g (zHw func175 rfl rfl) (fun x i=>zSe x (d x i) w));rw[any_false]at b;clear f g d;go_enter func123,ntmps123;go_wp2_with fail;(with_reducible refine b.out.mono ?_);rintro e w2 ⟨rfl,rfl⟩;go_wp2;go_ret;exact⟨rfl,rfl⟩
theorem zP6 {w:yC} {b off:Nat} {l:List Nat} (f:yt w (yA ⟨b,off,yB⟩) (l.map ival)):∀j,j<kN (l.map (fun x:Nat=>(x:Int)))->w.cell? ⟨b,off+j,yB⟩=yA (qX qm ((l.map (fun x:Nat=>(x:Int))).getD j 0)):=by
 intro j e;have a:j<kN l:=by simpa using e
 obtain⟨b',g,c,d⟩:=f j (ival l[j]) (by rw[qP3,qPu a];rfl);injection c with c
 injection c with h1 h3 _
 subst h1 h3;rw[d,qPz,qP3,qPu a];rfl
theorem zO6 (l:List Nat) (a:Option yF) (n c:Nat) (w:yC) (u:kN l=n) (s:0<n) (t:n<=1000000) (k:yt w a (l.map ival)):
  yG yK 101 #[qZ a n c] w fun e w'=>∃G c',e=qx (qZ (yA ⟨G,0,yB⟩) n c')/\yu w' w.heap.size 3 (yA ⟨G,0,yB⟩) n c' (l.map ival)/\yM w w w':=by
 obtain⟨b,i,rfl,_⟩:=k 0 (ival l[0]) (by rw[qP3,qPu];rfl);have h:=slices_Clone_int b i n c (l.map fun x:Nat=>(x:Int)) w zq za (zP6 k);refine h.mono ?_;rintro e w' ⟨v',q,j,hne,p⟩;have m:((l.map fun x:Nat=>(x:Int)).take n).map (Value.int qm)=l.map ival:=by
  rw[qQc zq,qRr];rfl
 rw[m]at j;rcases j.2 with⟨o,_⟩|⟨g,d,f,hv,r⟩
 .exact absurd o hne
 .subst hv;exact⟨g,d,q,⟨j.1,qy ⟨g,d,f,rfl,r⟩⟩,p⟩
theorem zKj (ws:List Nat) (a:Option yF) (n c most:Nat) (w:yC) (hn:kN ws=n) (h2:2<=n) (a3:n<=258) (hs:yt w a (ws.map ival)) (a1:(kD ws).sum<=20000) (a2:∀x∈ws,x<=1048576) (a5:9<=most) (a6:most<=20)
  (a0:∀x∈lens (kD ws),x<=most):
  yG yK 44 #[qZ a n c,most] w fun e w'=>∃G,e=qx (qg #[qZ (yA ⟨G,0,yB⟩) n n,qX qm 0])/\w.heap.size<=G/\yt w' (yA ⟨G,0,yB⟩) ((lens (kD ws)).map ival)/\zDj w' G/\yM w w w':=by
 obtain⟨B,hB⟩:=zB w.heap.size;obtain⟨HW,H⟩:=yU (zUe ws a n c w hn za hs a2) (zO6 ws a n c w hn za za hs);have j1:decide ((n:Int)<2)=yI:=qP1 za;have j2:decide ((258:Int)<(n:Int))=yI:=qP1 za;have j3:decide ((most:Int)<9)=yI:=qP1 za;have j4:decide ((20:Int)<(most:Int))=yI:=qP1 za;obtain⟨HN,S,X,N⟩:=yX hn a1 a0 hB;clear hn hs a1 a2 a0;rw[hB];rw[hB]at H;go_enter func44,ntmps44;go_wp2_with fail;(with_reducible refine HW.out.mono ?_);rintro e w2 ⟨rfl,rfl⟩;go_wp2_with fail;(with_reducible refine H.out.mono ?_);rintro e w3 ⟨G,c',rfl,t,P⟩;obtain⟨O3,B3⟩:=yU t P;obtain⟨g0,b,W,_,a7,_,_⟩:=t.at_ za;injection b with b
 injection b with b _ _
 subst b;clear t P HW H hB;go_wp2;go_loopw [37] (fun iv wr=>∃(j:Nat) (l:List Nat),j<=n/\iv=qX qm j/\yL (kN l=n/\l.take j=(kD ws).take j/\l.drop j=ws.drop j)/\yL (yu wr B 3 (yA ⟨G,0,yB⟩) n c' (l.map ival))/\yL (yM B w2 wr)) (fun iv _=>n-(intOf iv).toNat)
 case atStart=>exact⟨0,ws,za,rfl,zH ⟨HN.out,zm,rfl⟩,O3,B3⟩
 case round=>
  clear O3 B3;obtain⟨j,l,hj,rfl,q,f,hb⟩:=hrel;by_cases m:j<n
  .have i:j<kN l:=by rw[q.out.1];exact m
   have F:j<kN ws:=by rw[HN.out];exact m
   obtain⟨x,hx⟩:=zB (l[j]);have M:ws[j]=x:=by
    have Z:=q.out.2.2;rw[qSb i,qSb F]at Z;rw[<-hx];exact(List.cons.inj Z).1.symm
   obtain⟨g0,b,_,_,_,o,L⟩:=f.out.at_ za;injection b with b
   injection b with b _ _
   subst b;have x0:=o j m;rw[qP3,qPu i,qRs,hx]at x0;have f0:=L j;have g:=f.out.set j (ival (max x 1)) m;rw[<-List.map_set]at g;have k:(max (x:Int) 1)=((max x 1:Nat):Int):=za
   have HS:=zH g;have HL:=yT (kN (l.set j (max x 1))=n/\(l.set j (max x 1)).take (j+1)=(kD ws).take (j+1)/\(l.set j (max x 1)).drop (j+1)=ws.drop (j+1)) (by
    refine⟨by rw[qR2];exact q.out.1,?_,?_⟩
    .have Y:j<kN (kD ws):=by rw[zHc];exact F
     rw[qQp (by rw[qR2];exact i),qQp Y,List.take_set_of_le (qPq _),q.out.2.1,List.getElem_set_self];congr 2;simp[kD,M]
    .rw[List.drop_set_of_lt (qQ8 _)];have Z:=q.out.2.2;rw[qSb i,qSb F]at Z;exact(List.cons.inj Z).2)
   have HB:=zH (hb.out.setCell (p:=⟨G,j,yB⟩) W (ival (max x 1)));obtain⟨y,hy⟩:=zB (max x 1);rw[hy]at k HS HL HB;clear hx M o L g hy;go_wp2;go_roundw
   case rel=>exact⟨j+1,l.set j y,za,by go_num,HL,HS,HB⟩
   case measure=>exact z8
  .obtain rfl:n=j:=za
   have V:l=kD ws:=by
    have Z:=q.out.2.1;rwa[qQc (by rw[q.out.1];omega),qQc (by rw[zHc,HN.out];omega)]at Z
   subst V;have HD:=zH (zVe (kD ws) (yA ⟨G,0,yB⟩) n c' wr q.out.1 h2 a3 f.out.src (one_pos ws) S.out);have I:=hb.out.size;go_wp2_with fail;(with_reducible refine HD.out.mono ?_);rintro e w5 ⟨G2,rfl,a4,u,K,O⟩;obtain⟨T5,S5,B5⟩:=yV K u (hb.out.trans (O.mono (by rw[<-N.out];exact I)));have R:B<=G2:=by rw[<-N.out];omega
   have d:kN ((lens (kD ws)).map fun x:Nat=>(x:Int))=n:=by rw[qQj,zC0,zHc,HN.out]
   have r:=slices_Max_int G2 0 n n ((lens (kD ws)).map fun x:Nat=>(x:Int)) w5 za (by rw[d];omega) za (zP6 u);rw[qQc (by rw[d];omega)]at r;have k:Lib.maxOf ((lens (kD ws)).map fun x:Nat=>(x:Int))<=(most:Int):=max_le (most:Int) _ (by intro h;rw[h]at d;simp at d;omega) (fun z hz=>by obtain⟨x,hx,rfl⟩:=qQg.1 hz;have:=X.out x hx;omega);obtain⟨mx,s⟩:=zB (Lib.maxOf ((lens (kD ws)).map fun x:Nat=>(x:Int)));rw[s]at r k;have HM:=zH r;have j5:decide ((most:Int)<mx)=yI:=qP1 za;clear u K O HD r s d k I;go_wp2;go_loopw [9] (fun ov wr=>ov=qZ (yA ⟨G2,0,yB⟩) n n/\wr=w5) (fun _ _=>0)
   case atStart=>exact⟨rfl,rfl⟩
   case round=>
    obtain⟨rfl,rfl⟩:=hrel;go_wp2_with fail;(with_reducible refine HM.out.mono ?_);rintro e w6 ⟨rfl,rfl⟩;go_wp2;go_ret2;exact⟨G2,rfl,R,S5.out,T5.out,B5.out⟩
end Wg
namespace Ch
open Go.Shelf Front Bt Zr Rg
attribute [local go_sem] Oper.semAt_some
def CE (x:List Nat) (W:yC) (b:Array yD):Prop:=∃a,b= #[qZ a (kN x) (kN x)]/\yt W a (x.map ival)/\x≠[]/\kN x<=10
theorem zYf (b z:Nat) (a:Option yF) (n c:Nat) (l:List Nat) (hl:kN l=n) (hn:n<=1000000) (ai:n<=c) (C:Nat->Prop) (hC:¬C b) (a9:¬C z) (aa:∀p,a=yA p->¬C p.block) (W:yC) (a8:Boxed W b 23 (qZ a n c)) (a7:Boxed W z 3 (qX qm 10)) (hs:yt W a (l.map ival)):
  zR7 yK 160 #[qc (yA ⟨b,0,yB⟩),qc (yA ⟨z,0,yB⟩)] CE (fun A B=>∃n,B=A.drewN n) C (grp l) W:=by
 intro k0 J Jx hJ hY h0;refine qS8 func160 rfl trivial ?_ rfl;simp only[ntmps160,qQ2,qP4,qQy,Nat.reduceAdd,Nat.reduceSub,qR,qRa,qRb,qRc,qQm,qQs];obtain⟨G,F,HS,y,HJ,HY,H0⟩:=yg a8 a7 hs hl hJ hY h0;clear a8 a7 hs hl hJ hY h0;gi_wp2;gi_loopw [4] (fun v wr=>∃(k i:Nat),i=10*k/\k<=kN (grp l)/\v=qX qm (i:Int)/\yL (Boxed wr b 23 (qZ a n c))/\yL (Boxed wr z 3 (qX qm 10))/\yL (yt wr a (l.map ival))/\yL (J ((grp l).take k) wr)) (fun v _=>n+10-(intOf v).toNat)
 case atStart=>exact⟨0,0,rfl,za,rfl,G,F,HS,H0⟩
 case round=>
  clear G F HS H0;obtain⟨k,i,f,hk,rfl,t,o,s,hj⟩:=hrel;have L:=zBx l;rw[y.out]at L;by_cases a2:i<n
  .have P:i<kN l:=by rw[y.out];exact a2
   have hg:=zJy l k (by rw[y.out];omega);have N:k<kN (grp l):=za
   obtain⟨x,hx⟩:=zB ((l.drop (10*k)).take 10);rw[hx]at hg;obtain⟨e,q⟩:=zB (kN x);have H:e=min 10 (n-i):=by rw[<-q,<-hx,qQh,qQo,y.out,f]
   obtain⟨g,u,rfl,e0⟩:=s.out i (ival (l[i]'P)) (by rw[qP3,qPu P];rfl);have R:yt wr (yA ⟨g,u+i,yB⟩) (x.map ival):=by
    rw[<-hx,f,qTy];exact(Src.drop s.out (10*k)).take 10
   have w:(grp l).take (k+1)=(grp l).take k++[x]:=by
    rw[qQp N];rw[qPu N]at hg;rw[qPv hg]
   have M:(grp l).take k++[x]<+:grp l:=by rw[<-w];exact List.take_prefix _ _
   have a1:=t.out.cell;have ab:=o.out.cell;obtain⟨HE,m,a0,X,I⟩:=yY q H R w M;have HX:=yT (x≠[]/\kN x<=10) (by rw[q];exact⟨by intro h;rw[h]at q;simp at q;omega,za⟩);clear hx hg q H R w M L;have af:i<c:=za
   have ah:min (10:Int) ((n-i:Nat):Int)=(e:Int):=by have:=m.out;omega
   have ag:i+e<=n:=by have:=m.out;omega
   have ad:i+e<=c:=za
   have ae:¬e=0:=by have:=m.out;omega
   have a6:=zH f;clear f;gi_wp2;gi_quiet (fail);have S:J ((grp l).take k) (wr.drewN nq):=HJ.out _ _ _ hj.out ⟨nq,rfl⟩;obtain⟨fn,tmps,assign,body,hy,hR⟩:=HY.out ((grp l).take k) x (wr.drewN nq) #[qZ (yA ⟨g,u+i,yB⟩) e e] S ⟨yA ⟨g,u+i,yB⟩,by rw[HE.out],a0.out,HX.out⟩ I.out;have HR:=zH hR;clear hR S;gi_wp2;refine HR.out.mono ?_;rintro r W3 (⟨rfl,O,d⟩|⟨rfl,V⟩)
   .obtain⟨Y,K,a5⟩:=yV (zIf (W:=wr.drewN nq) t.out d hC) (zIf (W:=wr.drewN nq) o.out d a9) (zP4 (W:=wr.drewN nq) s.out d aa);have a4:=yT (J ((grp l).take (k+1)) W3) (by rw[X.out];exact O);have ac:=K.out.cell;clear O d;gi_wp2;go_roundw
    case rel=>exact⟨k+1,i+10,by have:=a6.out;omega,za,by go_num,Y,K,a5,a4⟩
    case measure=>exact z8
   .gi_wp2;refine qP5 (qSx rfl _ _ _) rfl ?_;exact⟨⟨_,rfl⟩,qy ⟨_,I.out,V⟩⟩
  .have a3:k=kN (grp l):=za
   have j:=hj.out;rw[a3,qS7]at j;have Z:=zH j;have a1:=t.out.cell;clear j;gi_wp2;go_end0;exact⟨⟨_,rfl⟩,qz Z.out⟩
end Ch
namespace Hf
open Go.Shelf Front Bt
def dn (l:List Nat) (pre:List Nat) (n i s:Nat):Bool:=pre.contains (l.getD s 0)||(l.getD s 0==n&&yJ (rank l s<i))
def gW (l:List Nat) (d:Nat->Bool) (j:Nat):yD:=if d (j/2)then(if j%2=0 then qX qm (l.getD (j/2) 0:Int)else qX .u64 (zB9 l (j/2):Int))else(if j%2=0 then qX qm 0 else qX .u64 0)
theorem zYs (l:List Nat) (n:Nat):(whose l n).Pairwise (·<·):=List.pairwise_lt_range.filter _
theorem zYt (l:List Nat) (n i:Nat) (hi:i<kN (whose l n)):(whose l n)[i]<kN l/\l.getD (whose l n)[i] 0=n/\rank l (whose l n)[i]=i:=by
 have b:=qP9 hi;unfold whose at b;rw[qT1,qQn]at b;have e:l.getD (whose l n)[i] 0=n:=by
  have:=b.2;simpa [whose]using this
 have d:(whose l n)[i]<kN l:=by simpa [whose]using b.1
 refine⟨d,e,?_⟩;have a:=zDx l (whose l n)[i] d;rw[e]at a;have c:rank l (whose l n)[i]<kN (whose l n):=by
  rcases qP8 (rank l (whose l n)[i]) (kN (whose l n)) with h|h
  .exact h
  .rw[qQq h]at a;cases a
 rw[qPu c]at a;have g:=qPv a;have f:=qSf.1 (zYs l n);rcases qTq (rank l (whose l n)[i]) i with h|h|h
 .have:=f _ _ c hi h;omega
 .exact h
 .have:=f _ _ hi c h;omega
theorem qD9 (l pre:List Nat) (n i b:Nat) (f:l.getD b 0=n) (g:rank l b=i) (j:b<kN l) (s:Nat) (k:s<kN l):dn l pre n (i+1) s=(dn l pre n i s||yJ (s=b)):=by
 unfold dn;rw[qSg];simp only[qTv,qQ1,qSq,qRm];constructor
 .rintro(h|⟨h,hr⟩)
  .exact qz (qz h)
  .by_cases e:rank l s<i
   .exact qz (qy ⟨h,e⟩)
   .right;have a:rank l s=i:=za
    have c:=zDx l s k;have d:=zDx l b j;rw[h,a]at c;rw[f,g,c]at d;exact qPv d
 .rintro((h|⟨h,hr⟩)|h)
  .exact qz h
  .exact qy ⟨h,za⟩
  .subst h;exact qy ⟨f,za⟩
theorem qA8 (l pre:List Nat) (n s:Nat) (a:s<kN l):dn l pre n (cnt l n) s=dn l (pre++[n]) 0 0 s:=by
 unfold dn;rw[qSg];simp only[qTv,qQ1,qSq,qRm,List.contains_eq_mem,qSi,qRe];constructor
 .rintro(h|⟨h,hr⟩)
  .exact qz (qz h)
  .exact qz (qy h)
 .rintro((h|h)|⟨_,h⟩)
  .exact qz h
  .refine qy ⟨h,?_⟩;have:=zJn l s a;rwa[h]at this
  .omega
theorem qD8 (l pre:List Nat) (n m s:Nat):dn l pre n 0 s=dn l pre m 0 s:=by unfold dn;simp
theorem qGa {l:List Nat} (h:Right l) (s:Nat) (a:s<kN l):dn l (lv l 1 20) 0 0 s=yH:=by
 unfold dn;have b:l.getD s 0=l[s]:=by simp[qPz,qPu a]
 have c:=h.one _ (qP9 a);have e:=h.top _ (qP9 a);have d:=zJn l s a;rw[b]at d⊢;have:l[s]∈lv l 1 20:=by
  unfold lv;rw[qT1];exact⟨List.mem_range'_1.2 ⟨c,za⟩,qQ za⟩
 simp[this]
theorem qDx (l:List Nat) (j:Nat):gW l (dn l [] 0 0) j=if j%2=0 then qX qm 0 else qX .u64 0:=by
 unfold gW dn;simp
theorem qF4 (l:List Nat) (d:Nat->Bool) (a j:Nat):upd (upd (gW l d) (2*a) (qX qm (l.getD a 0:Int))) (2*a+1) (qX .u64 (zB9 l a:Int)) j=gW l (fun s=>d s||yJ (s=a)) j:=by
 unfold upd gW;by_cases b:j=2*a+1
 .subst b;rw[qPr rfl,show(2*a+1)/2=a by omega,show(2*a+1)%2=1 by omega];simp
 .rw[qPt b];by_cases c:j=2*a
  .subst c;rw[qPr rfl,show 2*a/2=a by omega,show 2*a%2=0 by omega];simp
  .rw[qPt c];have:decide (j/2=a)=yI:=qP1 za;simp only[this,Bool.or_false]
theorem zU2 (w:yC) (l:List Nat) (n:Nat) (j:n<=100000):∃w',(Instr.makeSlice 184 (qX qm (n:Int)) (qX qm (n:Int))).run yK w= .ok (qZ (yA ⟨w,0,yB⟩) n n) w'/\
  Arr w' w.heap.size 188 (n*2) (gW l (dn l [] 0 0))/\yM w w w'/\w'.heap.size=w.heap.size+1:=by
 have b:(prog.info? 188).map (fun i=>(i.zero,i.size,i.bytes))=yA (yA (.agg #[qX qm 0,qX .u64 0]),2,16):=zf
 obtain⟨i,hi,d,a,c⟩:=qRv b;have f:=run_makeSlice (P:=yK) w 184 188 i _ underlying184 hi d qm qm (n:Int) (n:Int) za za (by rw[a];omega) (by rw[c];omega) za;refine⟨_,f,?_,(yR _ _).alloc (qPq _) _,zA _ _⟩;unfold Arr;have e:madeCells (Value.agg #[qX qm 0,qX .u64 0]).cells ((n:Int).toNat*i.size)=cellsOf (n*2) (gW l (dn l [] 0 0)):=by
  rw[a];show(Array.range (n*2)).map _=_;refine zDm (fun k g=> ?_);rw[qDx];show(#[Value.int qm 0,qX .u64 0]:Array yD)[k%2]! =_;rcases qU k with h|h<;>rw[h]<;>rfl
 rw[e];show(w.heap.push _)[w.heap.size]? =_;simp
end Hf
namespace Hf
open Go.Shelf Front Bt Zr Rg
variable {B G l n:Nat} {w0 w5 W:yC} {d:Nat->Bool} {t:yE} {o:Obj}
attribute [local go_sem] Oper.semAt_some
theorem zMg (a:Option yF) (n c:Nat) (w:yC):
  yG yK 109 #[qZ a n c] w fun e w'=>e=qx (.func (.func 161) #[] #[qc (yA ⟨w,0,yB⟩)])/\w.alloc (qp #[qZ a n c] 23)=w':=by
 have f:∀(fn:Fn) (first b:Array yD) (w:yC),(Instr.makeFunc fn first b).run yK w= .ok (.func fn first b) w:=fun _ _ _ _=>rfl;go_enter func109,ntmps109;go_wp2;go_ret;exact⟨rfl,rfl⟩
structure WI (B G:Nat) (w0 w5:yC) (l:List Nat) (n:Nat) (d:Nat->Bool) (W:yC):Prop where
 arr:Arr W G 188 (n*2) (gW l d)
 out:Boxed W (G+1) 184 (qZ (yA ⟨G,0,yB⟩) n n)
 below:yM B w0 W
 size:w5.heap.size<=W.heap.size
theorem WI.keep {W':yC} {l:List Nat} (h:WI B G w0 w5 l n d W) (a:yM W W W') (b:B<=W.heap.size):WI B G w0 w5 l n d W':=
 ⟨(a.block G h.arr.lt).trans h.arr,(a.block (G+1) (Boxed.lt h.out)).trans h.out,h.below.trans (a.mono b),qP2 h.size a.size⟩
theorem qEc {g:Nat->yD} (h:Arr W B t n g) (c:Obj) (a:W.heap[l]? =yA o) (b:o.isCells=yI):Arr (W.putObj l c) B t n g:=by
 refine(World.putObj_heap_other ?_).trans h;rintro rfl;rw[show W.heap[B]? =_ from h]at a;obtain rfl:=qPv a;cases b
theorem zBl {a:Array yD} {f:Nat×Nat} (h:W.heap[B]? =yA (qp a t f)) (e:Obj) (b:W.heap[l]? =yA o) (c:o.isCells=yI):(W.putObj l e).heap[B]? =yA (qp a t f):=by
 refine(World.putObj_heap_other ?_).trans h;rintro rfl;rw[h]at b;obtain rfl:=qPv b;cases c
theorem WI.put {l0:List Nat} (h:WI B G w0 w5 l0 n d W) (a:Obj) (b:W.heap[l]? =yA o) (c:o.isCells=yI) (e:B<=l) (f:B<=W.heap.size):WI B G w0 w5 l0 n d (W.putObj l a):=
 ⟨qEc h.arr a b c,zA6 h.out a b c,zAu a h.below b e f,by rw[putObj_size];exact h.size⟩
theorem WI.congr {l:List Nat} {d':Nat->Bool} (h:WI B G w0 w5 l n d W) (e:∀s,s<n->d s=d' s):WI B G w0 w5 l n d' W:=
 ⟨h.arr.congr (fun k a=>by unfold gW;rw[e (k/2) za]),h.out,h.below,h.size⟩
def WJ (B G:Nat) (w0 w5:yC) (l:List Nat) (n:Nat) (a:Option yF) (c:Nat) (pre:List Nat) (k:Nat) (h:Array yD) (b:Act) (W:yC):Prop:=∃(g:Nat) (c' L:Nat) (e:Array yD) (f:Nat×Nat),
 h= #[.agg #[k,qX .u64 (first l k:Int),qZ (yA ⟨g,0,yB⟩) (cnt l k) c']]/\b={tmps:= #[qZ a n c,yN,qZ yB 0 0,qX qm 0,qX qm 0,qc (yA ⟨G+1,0,yB⟩),qc (yA ⟨L,0,yB⟩),yN,yN,qZ a n c,qX qm 0,qX qm 0,qh yI,yN,qZ a n c,qX qm (n:Int),qZ (yA ⟨G,0,yB⟩) n n,qZ a n c,.func (.func 161) #[] #[qc (yA ⟨G+2,0,yB⟩)],.agg #[k,qX .u64 (first l k:Int),qZ (yA ⟨g,0,yB⟩) (cnt l k) c'],yN,yN,yN,yN,yN,yN,yN,yN,yN,yN,yN,yN,yN,yN,yN,yN,yN,yN,yN,yN,yN],defers:=[]}/\
 W.heap[L]? =yA (qp #[k,qX .u64 (first l k:Int),qZ (yA ⟨g,0,yB⟩) (cnt l k) c'] 199)/\WI B G w0 w5 l n (dn l pre 0 0) W/\yt W (yA ⟨g,0,yB⟩) ((whose l k).map ival)/\W.heap[g]? =yA (qp e 3 f)/\1<=k/\k<=20/\0<cnt l k
theorem zV7 (l:List Nat) (a:Option yF) (n c:Nat) (w:yC) (hn:kN l=n) (hs:yt w a (l.map ival)) (ha:∀p,a=yA p->p.block<w.heap.size) (hr:Right l):
  yG yK 102 #[qZ a n c] w fun e w'=>∃G,e=qx (qg #[qZ (yA ⟨G,0,yB⟩) n n,qX qm 0])/\w.heap.size<=G/\Arr w' G 188 (n*2) (gW l (dn l (lv l 1 20) 0 0))/\yM w w w':=by
 have b2:∀(fn:Fn) (first ax:Array yD) (w:yC),(Instr.makeFunc fn first ax).run yK w= .ok (.func fn first ax) w:=fun _ _ _ _=>rfl;obtain⟨B,hB⟩:=zB w.heap.size;have ad:=hr.most;rw[hn]at ad;obtain⟨HC,HS,HN⟩:=yV (zCk l a n c w hn hs hr) hs hn;rw[hB]at ha;obtain⟨HA,HR⟩:=yU ha hr;clear hs hn ha hr;rw[hB];refine(qQi (n:=3)).1 ?_;refine callsIn_of_wp_marks func102 rfl trivial ?_ rfl;simp only[ntmps102,qQ2,qP4,qQy,Nat.reduceAdd,Nat.reduceSub,qR,qRa,qRb,qRc,qQm,qQs];gi_wp2_with fail;refine⟨trivial,(qQi.2 HC.out).mono ?_⟩;rintro e w2 ⟨rfl,M⟩;rw[hB]at M;have a6:B<=w2.heap.size:=by have:=M.size;omega
 obtain⟨w3,a3,O,R,N⟩:=zU2 w2 l n za;obtain⟨G,hG⟩:=zB w2.heap.size;rw[hG]at a3 O R N a6;obtain⟨w4,u⟩:=zB (w3.alloc (qp #[qZ (yA ⟨G,0,yB⟩) n n] 184));have S:w4.heap.size=G+2:=by rw[<-u,zA,N]
 have a7:Arr w4 G 188 (n*2) (gW l (dn l [] 0 0)):=by
  rw[<-u];exact(Lib.alloc_old w3 _ G za).trans O
 have a5:Boxed w4 (G+1) 184 (qZ (yA ⟨G,0,yB⟩) n n):=by
  have:=Boxed.new w3 184 (qZ (yA ⟨G,0,yB⟩) n n);rw[u,N]at this;exact this
 obtain⟨w5,d⟩:=zB (w4.alloc (qp #[qZ a n c] 23));have b6:w5.heap.size=G+3:=by rw[<-d,zA,S]
 have A5:=yT (Arr w5 G 188 (n*2) (gW l (dn l [] 0 0))) (by rw[<-d];exact(Lib.alloc_old w4 _ G za).trans a7);have O5:=yT (Boxed w5 (G+1) 184 (qZ (yA ⟨G,0,yB⟩) n n)) (by rw[<-d];exact a5.alloc _);have X5:=yT (Boxed w5 (G+2) 23 (qZ a n c)) (by
  have:=Boxed.new w4 23 (qZ a n c);rw[d,S]at this;exact this)
 have B5:=yT (yM B w w5) (by
  rw[<-d,<-u];exact((M.trans (R.mono a6)).alloc za _).alloc zq _)
 have HL:=zH (zMg a n c w4);rw[S,d]at HL;clear O R a7 a5 M d HC;gi_wp2_with fail;clear a3 u;refine⟨trivial,(qQi.2 HL.out).mono ?_⟩;rintro e w6 ⟨rfl,rfl⟩;clear HL;gi_wp2;refine zL9 (gf:=161) (lb:= #[qc (yA ⟨G+2,0,yB⟩)]) rfl (enters_of func161 zf rfl)
  (LE l) (fun A B=>yM A A B) (fun k _=>k=G) (lv l 1 20)
  (fun A D h=>⟨h.size,fun k o y _=>(h.block k (zAd y)).trans y⟩)
  (fun _ _ _ h=>by obtain⟨a,c,rfl,_⟩:=h;rfl)
  (fun x W k o o' vs y z h=>by
   obtain⟨a,c,h1,h2,⟨g,cs,f,h3,h4⟩,h5⟩:=h;exact⟨a,c,h1,zG9 h2 o' y z,⟨g,cs,f,h3,zBl h4 o' y z⟩,h5⟩)
  (fun W hW=>zMf (G+2) a n c l HN.out HR.out _ za (fun p hp h=>by have:=HA.out p hp;omega) W (fun k y h=>by have:=hW.size;omega) (zAp X5.out (hW.block _ za)) ((HS.out.below (by rw[hB];exact B5.out)).below hW))
  (fun pre W=>WI B G w w5 l n (dn l pre 0 0) W)
  (fun _ _ _=>False)
  (fun pre W k o o' y z av hi=>hi.put o' z av za (by have:=hi.size;omega))
  (fun _ _ _ _ _ _ _ _ _ h=>h)
  (fun pre A D hi z=>hi.keep z (by have:=hi.size;omega))
  (fun o o'=>⟨(Lib.alloc_old _ o' G (by rw[zA];omega)).trans ((Lib.alloc_old w5 o G za).trans A5.out),(O5.out.alloc o).alloc o',(B5.out.alloc za o).alloc zq o',zq⟩)
  (WJ B G w w5 l n a c)
  (fun pre x vs ac W k o o' y z av h=>by
   obtain⟨g,c',L,cs,f,h1,h2,h3,h4,h5,h6,h7⟩:=h;exact⟨g,c',L,cs,f,h1,h2,zBl h3 o' z av,h4.put o' z av za (by have:=h4.size;omega),zG9 h5 o' z av,zBl h6 o' z av,h7⟩)
  ?assign ?body ?done ?stop
 case assign=>
  rintro k pre x W vs K aj hi ⟨a',c',rfl,H,⟨g,cs,f,rfl,hg⟩,h1,h2,h3⟩ hK;obtain⟨F,hF⟩:=zB (first l x);obtain⟨m,hm⟩:=zB (cnt l x);obtain⟨Wc,a1⟩:=zB (W.alloc (qp #[x,qX .u64 (F:Int),qZ (yA ⟨g,0,yB⟩) m c'] 199));have b:yM W W Wc:=by rw[<-a1];exact(yR _ _).alloc (qPq _) _
  have hX:Wc.heap[W.heap.size]? =yA (qp #[x,qX .u64 (F:Int),qZ (yA ⟨g,0,yB⟩) m c'] 199):=by
   rw[<-a1];show(W.heap.push _)[W.heap.size]? =_;simp
  have a9:=fun ac=>hK ac Wc ⟨b.size,fun k o y _=>(b.block k (zAd y)).trans y⟩ (Sc.below b);have Y:=H.below b;have a0:=hi.keep b (by have:=hi.size;omega);have ab:=(b.block g (zAd hg)).trans hg;have Z:=zH (fun ac h=>a9 ac ⟨g,c',W.heap.size,cs,f,rfl,h,by rw[hF,hm];exact hX,a0,Y,ab,h1,h2,h3⟩);rw[hF,hm]at Z⊢;clear hK a9 hi H hg hX Y a0 ab b;gi_wp2;exact Z.out _ rfl
 case body=>
  rintro k pre x W vs ac aj ⟨g,c',L,cs,f,rfl,rfl,hL,hi,H,hg,h1,h2,h3⟩ ay;obtain⟨F,hF⟩:=zB (first l x);obtain⟨m,hm⟩:=zB (cnt l x);have an:L≠G:=by rintro rfl;have:=hi.arr;unfold Arr at this;rw[hL]at this;injection this with this;injection this with _ this _;exact absurd this qW
  have af:g≠G:=by rintro rfl;have:=hi.arr;unfold Arr at this;rw[hg]at this;injection this with this;injection this with _ this _;exact absurd this qW
  have aa:kN (whose l x)=m:=hm;have ag:=HR.out.zEs x h2;have b3:2^x<=2^20:=qR9 za za;rw[hF,hm]at hL ag⊢;have HI:=zH hi;have am:=yT (∃I,W.heap[G]? =yA (qp I 188)) ⟨_,hi.arr⟩;obtain⟨aq,az,ai,HF,HM,ar⟩:=yZ H hg hL hF hm aa;obtain⟨y0,y1,y2,_⟩:=cells3 hL;clear hi H hg hL hF hm aa;obtain⟨wo,rfl⟩:∃wo:yC,wo=W:=⟨_,rfl⟩;gi_wp2;clear y0 y1 y2;gi_loopw [23] (fun iv wr=>∃i:Nat,i<=m/\iv=qX qm (i:Int)/\yL (WI B G w w5 l n (dn l pre x i) wr)/\yL (∀k,k≠G->wr.heap[k]? =wo.heap[k]?)/\wr.heap.size=wo.heap.size) (fun iv _=>m-(intOf iv).toNat)
  case atStart=>exact⟨0,za,rfl,zH (HI.out.congr (fun s _=>qD8 l pre 0 x s)),zH (fun _ _=>rfl),rfl⟩
  case round=>
   clear HI;obtain⟨i,b1,rfl,hi,r,ah⟩:=hrel;by_cases ak:i<m
   .have X:i<kN (whose l x):=by rw[ar.out];exact ak
    obtain⟨q1,q2,q3⟩:=zYt l x i X;obtain⟨q,P⟩:=zB ((whose l x)[i]);rw[P]at q1 q2 q3;obtain⟨g',off,V,e0⟩:=aq.out i (ival q) (by rw[qP3,qPu X,P];rfl);injection V with V
    injection V with e1 e2 _
    subst e1 e2;have ao:wr.cell? ⟨g,0+i,yB⟩=yA (ival q):=by rw[qRg (w:=wo) (a:=⟨g,0+i,yB⟩) (r.out g af)];exact e0
    rw[qQd]at ao;obtain⟨y0,y1,y2,_⟩:=cells3 ((r.out L an).trans ai.out);have yo:=hi.out.out.cell;have b4:q<n:=by rw[<-HN.out];exact q1
    have x0:=hi.out.arr.cell (q*2) za;have x1:=hi.out.arr.cell (q*2+1) za;have f0:=hi.out.arr.free (q*2);have f1:=hi.out.arr.free (q*2+1);obtain⟨u0,a4⟩:=zB (gW l (dn l pre x i) (q*2));obtain⟨u1,a8⟩:=zB (gW l (dn l pre x i) (q*2+1));rw[a4]at x0;rw[a8]at x1;have a2:zB9 l q=F+i:=by unfold zB9;rw[q2,q3,HF.out]
    have au:=yT (Arr ((wr.setCell ⟨G,q*2,yB⟩ (qX qm (x:Int))).setCell ⟨G,q*2+1,yB⟩ (qX .u64 ((F:Int)+(i:Int)))) G 188 (n*2) (gW l (dn l pre x (i+1)))) (by
     refine((hi.out.arr.set (q*2) (qX qm (x:Int))).set (q*2+1) (qX .u64 ((F:Int)+(i:Int)))).congr (fun j hj=> ?_);have:=qF4 l (dn l pre x i) q j;rw[q2,a2,qTs,qRo 2 q]at this;rw[this];unfold gW;rw[qD9 l pre x i q q2 q3 q1 (j/2) (by rw[HN.out];omega)])
    have b5:(wr.setCell ⟨G,q*2,yB⟩ (qX qm (x:Int))).cell? ⟨G,q*2+1,yB⟩=yA u1:=by
     rw[qQf _ _ _ _ (by intro e;injection e with _ e2 _;omega)];exact x1
    have b0:(wr.setCell ⟨G,q*2,yB⟩ (qX qm (x:Int))).frozen? ⟨G,q*2+1,yB⟩=yI:=by rw[qSw];exact f1
    have j1:IntKind.u64.wrap (i:Int)=(i:Int):=qSh _ ⟨za,za⟩;clear P a4 a8 a2 e0 x1 f1 q1 q2 q3 X;gi_wp2;go_roundw
    case rel=>
     refine⟨i+1,za,by go_num,zH ⟨au.out,(zAa za).trans ((zAa za).trans hi.out.out),(hi.out.below.setCell (p:=⟨G,q*2,yB⟩) za _).setCell (p:=⟨G,q*2+1,yB⟩) za _,by simp[World.setCell];exact hi.out.size⟩,zH (fun k y=>(zAa y).trans ((zAa y).trans (r.out k y))),by simp[World.setCell];exact ah⟩
    case measure=>exact z8
   .obtain rfl:i=m:=za
    gi_wp2;have ap:∀(k:Nat) (o:Obj),wo.heap[k]? =yA o->o.isCells=yI->wr.heap[k]? =yA o:=fun k o y z=>by
     rw[r.out k]
     .exact y
     .rintro rfl;have:=hi.out.arr;have h2:=zAd y;obtain⟨I,ae⟩:∃I,wo.heap[k]? =yA (qp I 188):=am.out;rw[ae]at y;obtain rfl:=qPv y;cases z
    refine⟨⟨za,ap⟩,⟨za,fun k cs t f y hne=>by rw[r.out k hne];exact y⟩,?_⟩;refine hi.out.congr (fun s hs=> ?_);rw[<-HM.out,qA8 l pre x s (by rw[HN.out];exact hs)]
 case done=>
  rintro D W hD hi hK;have yo:=hi.out.cell;have HI:=zH hi;clear hi;gi_wp2;refine⟨zm,qz ⟨_,_,rfl,run_takeDeferred hK,?_⟩⟩;have h2:=HI.out.put (qw yB) hK rfl za (by have:=HI.out.size;omega);refine⟨qg #[qZ (yA ⟨G,0,yB⟩) n n,qX qm 0],by simp[results,f102,go_sem],⟨G,rfl,za,h2.arr,h2.below⟩⟩
 case stop=>
  rintro D c pre W _ _ h _;exact h.elim
end Hf
namespace Ch
open Go.Shelf Front Bt Zr Rg Hf
variable {w w0 W:yC} {D l n c E k B:Nat} {e:yE} {xs vs:List yD} {o:Obj} {p:Option yF} {gs pre:List (List Nat)}
attribute [local go_sem] Oper.semAt_some
abbrev TL_:yE:=23
theorem qFj:Kit.One yK 60 TL_ 24:=⟨underlying60,qZ yB 0 0,zf,rfl⟩
theorem zTo {a:Option yF} (h:yu w D e a n c xs) (t:Obj) (q:w.heap[l]? =yA o) (s:o.isCells=yI):yu (w.putObj l t) D e a n c xs:=by
 obtain⟨m,i⟩:=h;refine⟨m,?_⟩;rcases i with i|⟨g,f,b,hv,d,j,r⟩
 .exact qz i
 .refine qy ⟨g,f,b,hv,d,?_,r⟩;rw[World.putObj_heap_other]
  .exact j
  .rintro rfl;rw[q]at j;obtain rfl:=qPv j;cases s
structure Gr (w:yC) (D:Nat) (p:Option yF) (k c:Nat) (vs:List yD) (gs:List (List Nat)):Prop where
 own:yu w D TL_ p k c vs
 len:kN gs=k
 each:∀(i:Nat) (g:List Nat),gs[i]? =yA g->∃(G c':Nat),vs[i]? =yA (Value.slice (yA ⟨G,0,yB⟩) (kN g) c')/\kN g<=c'/\yu w D 3 (yA ⟨G,0,yB⟩) (kN g) c' (g.map ival)
theorem Gr.start (w:yC) (D:Nat):Gr w D yB 0 0 [] []:=⟨Kit.Own.start _ _ _,rfl,fun i g h=>by simp at h⟩
theorem Gr.below {w':yC} (h:Gr w D p k c vs gs) (b:yM E w w') (a:w.heap.size<=E):Gr w' D p k c vs gs:=
 ⟨h.own.below b a,h.len,fun i g hi=>by obtain⟨G,c',d,f,j⟩:=h.each i g hi;exact⟨G,c',d,f,j.below b a⟩⟩
theorem Gr.put (h:Gr w D p k c vs gs) (a:Obj) (b:w.heap[l]? =yA o) (d:o.isCells=yI):Gr (w.putObj l a) D p k c vs gs:=
 ⟨zTo h.own a b d,h.len,fun i g hi=>by obtain⟨G,c',f,j,m⟩:=h.each i g hi;exact⟨G,c',f,j,zTo m a b d⟩⟩
theorem zXc {g:Nat} (h:yu w D e (yA ⟨g,0,yB⟩) n c xs):D<=g/\∃a f,w.heap[g]? =yA (qp a e f):=by
 rcases h.2 with⟨b,_⟩|⟨g',j,m,hv,d,i,_⟩
 .cases b
 .injection hv with hv _ _
  injection hv with hv
  injection hv with hv
  subst hv;exact⟨d,_,_,i⟩
theorem Gr.base (h:Gr w D p k c vs gs) (a:E<=D):Gr w E p k c vs gs:=
 ⟨h.own.base a,h.len,fun i g hi=>by obtain⟨G,c',b,d,f⟩:=h.each i g hi;exact⟨G,c',b,d,f.base a⟩⟩
theorem Gr.set {i:Nat} (h:Gr w D p k c vs gs) (m:B<D) (v:yD):Gr (w.setCell ⟨B,i,yB⟩ v) D p k c vs gs:=by
 have b:∀{e:yE} {a:Option yF} {n c:Nat} {xs:List yD},yu w D e a n c xs->yu (w.setCell ⟨B,i,yB⟩ v) D e a n c xs:=fun h=>zD4 h m v;exact⟨b h.own,h.len,fun i g hi=>by obtain⟨G,c',d,f,j⟩:=h.each i g hi;exact⟨G,c',d,f,b j⟩⟩
theorem Gr.app {G c':Nat} {g:List Nat} (h:Gr w D p k c vs gs) (hg:yu w D 3 (yA ⟨G,0,yB⟩) (kN g) c' (g.map ival)) (hc:kN g<=c') (hk:k<=100000) (hD:D<=w.heap.size):
  ∃H c2 w',(Builtin.append_ #[60,60] 60 #[qZ p k c,qZ (yA ⟨w,0,yB⟩) 1 1]).run yK (w.alloc (qp #[qZ (yA ⟨G,0,yB⟩) (kN g) c'] TL_))= .ok (qZ H (k+1) c2) w'/\
   Gr w' D H (k+1) c2 (vs++[qZ (yA ⟨G,0,yB⟩) (kN g) c']) (gs++[g])/\yM D w w'/\(∀b,b<w.heap.size->(∀K f,w.heap[b]?≠yA (qp K TL_ f))->w'.heap[b]? =w.heap[b]?):=by
 have N:=h.own.alloc (qp #[qZ (yA ⟨G,0,yB⟩) (kN g) c'] TL_);obtain⟨H,c2,w',Z,h2,I⟩:=N.app (ty:=60) qFj (yA ⟨w,0,yB⟩) 1 1 [qZ (yA ⟨G,0,yB⟩) (kN g) c'] (xM w _ TL_) rfl (fun h=>by cases h) (by intro u O;simp at O;subst O;rfl) (by unfold maxLen;omega) za (by rw[zA];omega);have M:yM w w (w.alloc (qp #[qZ (yA ⟨G,0,yB⟩) (kN g) c'] TL_)):=(yR _ _).alloc (qPq _) _;have d:=h.own.len;have ne:∀{t y:Nat} {x:List Nat},yu w D 3 (yA ⟨t,0,yB⟩) (kN x) y (x.map ival)->(Value.slice (yA ⟨t,0,yB⟩) (kN x) y).ownBlock≠Value.ownBlock (qZ p k c):=fun{t y x} F e=>by
  obtain⟨_,K,f,n⟩:=zXc F;have z:(Value.slice p k c).ownBlock=yA t:=by rw[<-e];rfl
  obtain⟨_,q⟩:=h.own;rcases q with⟨q,_⟩|⟨g',o,m,hv,_,a,_⟩
  .injection q with q _ _
   subst q;simp[Value.ownBlock]at z
  .injection hv with ha _ _
   subst ha;simp[Value.ownBlock]at z;subst z;rw[n]at a;injection a with a
   injection a with _ a _
   exact absurd a qW
 have P:∀{t y:Nat} {x:List Nat},yu w D 3 (yA ⟨t,0,yB⟩) (kN x) y (x.map ival)->yu w' D 3 (yA ⟨t,0,yB⟩) (kN x) y (x.map ival):=fun F=>qRz (F.alloc (qp #[qZ (yA ⟨G,0,yB⟩) (kN g) c'] TL_)) I (qy (ne F));refine⟨H,c2,w',Z,⟨h2,by rw[qP0,h.len];rfl,fun i x hi=> ?_⟩,?_,fun b S V=> ?_⟩
 .rcases qP8 i (kN gs) with j|l
  .rw[qR7 j]at hi;obtain⟨t,y,z,X,Y⟩:=h.each i x hi;exact⟨t,y,by rw[qR7 (by rw[d,<-h.len];exact j)];exact z,X,P Y⟩
  .rw[qS3 l]at hi;have r:i-kN gs=0:=by
    rcases qQz (i-kN gs)with L|L
    .exact L
    .rw[qQq zq]at hi;cases hi
   rw[r]at hi;simp at hi;subst hi;have s:i=kN gs:=za
   subst s;exact⟨G,c',by rw[qS3 (by rw[d,h.len];exact qPq _),d,h.len,Nat.sub_self];rfl,hc,P hg⟩
 .exact(M.mono hD).trans (Kit.zAq I (by rw[zA];omega) (fun b R=>N.block b R))
 .refine(I.block b (by rw[zA];omega) (fun e=> ?_)).trans (M.block b S);obtain⟨_,q⟩:=h.own;rcases q with⟨q,_⟩|⟨g',o,m,hv,_,a,_⟩
  .injection q with q _ _
   subst q;simp[Value.ownBlock]at e
  .injection hv with ha _ _
   subst ha;simp[Value.ownBlock]at e;subst e;exact V _ _ a
theorem zYg (a:Option yF) (n c:Nat) (w:yC):
  yG yK 100 #[qZ a n c,qX qm 10] w fun e w'=>e=qx (.func (.func 160) #[] #[qc (yA ⟨w,0,yB⟩),qc (yA ⟨w.heap.size+1,0,yB⟩)])/\(w.alloc (qp #[qZ a n c] TL_)).alloc (qp #[qX qm 10] 3)=w':=by
 have d:∀(fn:Fn) (first b:Array yD) (w:yC),(Instr.makeFunc fn first b).run yK w= .ok (.func fn first b) w:=fun _ _ _ _=>rfl;go_enter func100,ntmps100;go_wp2;go_ret;exact⟨rfl,rfl⟩
structure GI (B:Nat) (w0:yC) (pre:List (List Nat)) (W:yC):Prop where
 h:∃p k c vs,Boxed W B 60 (qZ p k c)/\Gr W (B+3) p k c vs pre
 below:yM B w0 W
 size:B+3<=W.heap.size
theorem GI.put (h:GI B w0 pre W) (a:Obj) (b:W.heap[l]? =yA o) (d:o.isCells=yI) (m:B<=l):GI B w0 pre (W.putObj l a):=by
 obtain⟨⟨p,k,c,vs,f,g⟩,i,j⟩:=h;exact⟨⟨p,k,c,vs,zA6 f a b d,g.put a b d⟩,zAu a i b m za,by rw[putObj_size];exact j⟩
theorem GI.draw (h:GI B w0 pre W) (n:Nat):GI B w0 pre (W.drewN n):=by
 obtain⟨⟨p,k,c,vs,b,a⟩,d,f⟩:=h;exact⟨⟨p,k,c,vs,b,⟨a.own,a.len,a.each⟩⟩,below_drewN d n,f⟩
theorem GI.grow {W':yC} (h:GI B w0 pre W) (a:yM W W W'):GI B w0 pre W':=by
 obtain⟨⟨p,k,c,vs,d,f⟩,b,g⟩:=h;exact⟨⟨p,k,c,vs,zAp d (a.block B za),f.below a (qPq _)⟩,b.trans (a.mono (by have:=b.size;omega)),qP2 g a.size⟩
theorem zH8 (m:List Nat) (a:Option yF) (n c:Nat) (w:yC) (hn:kN m=n) (aj:n<=100000) (af:n<=c) (hs:yt w a (m.map ival)) (ha:∀p,a=yA p->p.block<w.heap.size):
  yG yK 29 #[qZ a n c] w fun e w'=>∃p c' vs,e=qx (qZ p (kN (grp m)) c')/\Gr w' w.heap.size p (kN (grp m)) c' vs (grp m)/\yM w w w':=by
 obtain⟨B,hB⟩:=zB w.heap.size;obtain⟨W1,s⟩:=zB (w.alloc (qp #[qZ yB 0 0] 60));have z1:W1.heap.size=B+1:=by rw[<-s,zA,hB]
 have b1:yM B w W1:=by rw[<-s,<-hB];exact(yR _ _).alloc (qPq _) _
 have x0:Boxed W1 B 60 (qZ yB 0 0):=by rw[<-s,<-hB];exact Boxed.new w _ _
 have HQ:=zH (zYg a n c W1);obtain⟨W2,d⟩:=zB (W1.alloc (qp #[qZ a n c] TL_));obtain⟨W3,g⟩:=zB (W2.alloc (qp #[qX qm 10] 3));have z2:W2.heap.size=B+2:=by rw[<-d,zA,z1]
 have z3:W3.heap.size=B+3:=by rw[<-g,zA,z2]
 have b2:yM (B+1) W1 W2:=by rw[<-d,<-z1];exact(yR _ _).alloc (qPq _) _
 have b3:yM (B+2) W2 W3:=by rw[<-g,<-z2];exact(yR _ _).alloc (qPq _) _
 have y1:Boxed W3 (B+1) TL_ (qZ a n c):=by
  refine zAp ?_ (b3.block _ za);rw[<-d,<-z1];exact Boxed.new _ _ _
 have y2:Boxed W3 (B+2) 3 (qX qm 10):=by rw[<-g,<-z2];exact Boxed.new _ _ _
 have I:yM B w W3:=(b1.trans (b2.mono za)).trans (b3.mono za);have y0:Boxed W3 B 60 (qZ yB 0 0):=zAp (zAp x0 (b2.block _ za)) (b3.block _ za);rw[z1,d,g]at HQ;obtain⟨K0,Y1,Y2,S3⟩:=yX (GI.mk (B:=B) (w0:=w) (pre:=[]) ⟨yB,0,0,[],y0,Gr.start _ _⟩ I za) y1 y2 (hs.below (by rw[hB];exact I));have HA:=yT (∀p,a=yA p->¬(p.block=B\/B+3<=p.block)) (fun p hp h=>by have:=ha p hp;omega);obtain⟨HN,HZ⟩:=yU hn z3;clear hn hs ha z1 z2 z3 b1 b2 b3 I x0 y0 y1 y2 d g;rw[hB];refine(qQi (n:=3)).1 ?_;refine callsIn_of_wp_marks func29 rfl trivial ?_ rfl;simp only[ntmps29,qQ2,qP4,qQy,Nat.reduceAdd,Nat.reduceSub,qR,qRa,qRb,qRc,qQm,qQs];gi_wp2_with fail;clear s;refine⟨trivial,(qQi.2 HQ.out).mono ?_⟩;rintro e w4 ⟨rfl,rfl⟩;clear HQ hB;gi_wp2;refine zDt (gf:=160) (lb:= #[qc (yA ⟨B+1,0,yB⟩),qc (yA ⟨B+2,0,yB⟩)]) rfl (enters_of func160 zf rfl)
  CE (fun A B=>∃n,B=A.drewN n) (fun k=>k=B\/B+3<=k) (grp m) zKr (fun _ _ _ h=>by obtain⟨a,rfl,_⟩:=h;rfl) (fun x W k o o' vs y ho h=>by
   obtain⟨a,h1,h2,h3⟩:=h;exact⟨a,h1,zG9 h2 o' y ho,h3⟩)
  (fun W hW=>zYf (B+1) (B+2) a n c m HN.out za af _ za za HA.out W (zAp Y1.out (hW.block _ (by rw[HZ.out];omega))) (zAp Y2.out (hW.block _ (by rw[HZ.out];omega))) (S3.out.below hW))
  (GI B w)
  (fun _ _ _=>False)
  (fun pre W k o o' y ho ae hi=>hi.put o' ho ae (by rw[HZ.out]at y;omega))
  (fun _ _ _ _ _ _ _ _ _ h=>h)
  (fun pre A D hi ho=>by obtain⟨m,rfl⟩:=ho;exact hi.draw m)
  (fun o o'=>(K0.out.grow ((yR _ _).alloc (qPq _) o)).grow ((yR _ _).alloc (qPq _) o'))
  (fun vs=>{tmps:= #[qZ a n c,yN,qc (yA ⟨B,0,yB⟩),vs.getD 0 yN,qZ a n c,.func (.func 160) #[] #[qc (yA ⟨B+1,0,yB⟩),qc (yA ⟨B+2,0,yB⟩)],vs.getD 0 yN,yN,yN,yN,yN,yN,yN],defers:=[]}) ?assign ?body ?done ?stop
 case assign=>
  rintro k x W vs K ⟨i,rfl,_⟩ hK;gi_wp2;exact hK
 case body=>
  rintro k pre x W vs ak hi ⟨a',rfl,Z,M,ag⟩ a2;obtain⟨⟨p,q,c',us,hv,z⟩,R,hz⟩:=hi;have hq:q<=100000:=by
   have h1:=z.len;obtain⟨r,hr⟩:=a2;have h2:=qPs List.length hr;rw[qP0,qP0,zBx,HN.out]at h2;simp at h2;omega
  obtain⟨ac,HV,HG,a9⟩:=yX (Wg.zO6 x a' (kN x) (kN x) W.drew rfl (qSm.2 M) za Z) hv z R;have S:=hv.cell;have a3:=zH (qSm.2 M);clear hv z R Z M;gi_wp2;refine Kit.zKq zf zf ?_;refine Kit.zP2 [4,5] (fun W9=>Boxed W9 B 60 (qZ p q c')) [0,0,2,4,13,31] 6 zf zf zf zf ?_;refine zy 0 7 (qZ p q c') (fun w hS=>zl 60 2 (Kit.zAg hS.cell zf zf)) HV.out<|zp [1]<|zk 8 (qZ a' (kN x) (kN x))<|zn<|zx 2 9 101 #[qZ a' (kN x) (kN x)] ac.out<| ?_
  rintro e w5 ⟨G,cc,rfl,L,Y⟩;have b:yM W W w5:=(show yM W W W.drew from(yR _ _).drew).trans Y;have l:Boxed w5 B 60 (qZ p q c'):=zAp HV.out (b.block B za);have a0:=HG.out.below b (qPq _);have N:=L.base (B':=B+3) hz;obtain⟨g1,ai,_,_,a8,_,_⟩:=L.at_ a3.out;obtain⟨p2,c2,w6,X,V,u,O⟩:=a0.app N a8 hq (by have:=b.size;omega);have F:Boxed w6 B 60 (qZ p q c'):=zAp l (O B (by have:=b.size;omega) (fun cs f e=>by rw[show w5.heap[B]? =_ from l]at e;injection e with e;injection e with _ e _;exact absurd e qW));have st6:=Kit.zDs F.cell F.frozen (P:=yK) (t:=60) (v:=qZ p2 (q+1) c2) zf rfl rfl;obtain⟨a4,ad⟩:=yU X st6;have a5:=yT (Boxed (w5.alloc (qp #[qZ (yA ⟨G,0,yB⟩) (kN x) cc] TL_)) B 60 (qZ p q c')) (l.alloc _);refine⟨_,rfl,qy (qy l),?_⟩;refine zo 3 10 (qZ (yA ⟨w5,0,yB⟩) 1 1) zf (qy (qy (a5.out)))<|zo 4 11 (qZ p2 (q+1) c2) (Kit.zHb (.tmp 7) (.tmp 10) 60 rfl zf zf a4.out) (qy (qz zf))<|zw 5 yB (zr 60 2 11 (ad.out)) (qy (qz zf))<|zE<| ?_
  simp only[zP,zI,Act.put,qPx,qPw,qPy];rw[show ∀(Q:Exit->Act->yC->Prop) (a:Act) (w:yC),Kit.zDy Q .normal a w=Q .normal a w from fun _ _ _=>rfl];obtain⟨w7,j⟩:=zB (w6.setCell ⟨B,0,yB⟩ (qZ p2 (q+1) c2));have am:=b.size;have an:=u.size;have K7:=yT (KeepsOthers W w7) (by
   rw[<-j];refine KeepsOthers.trans (B:=w6) ⟨za,fun k o y ho=> ?_⟩ (KeepsOthers.setCell _ _ _);have a6:=zAd y;have h5:=(b.block k a6).trans y;refine(O k (zAd h5) (fun cs f e=> ?_)).trans h5;rw[h5]at e;injection e with e
   subst e;cases ho)
  have S7:=yT (Sb (fun k=>k=B\/B+3<=k) W w7) (by
   rw[<-j];refine⟨by simp[World.setCell];omega,fun k cs t f y hc=> ?_⟩;rw[zAa (by intro e;exact hc (qz e)),u.block k za];exact(b.block k (zAd y)).trans y)
  have I7:=yT (GI B w (pre++[x]) w7) (by
   rw[<-j];exact⟨⟨p2,q+1,c2,_,F.set _,V.set za _⟩,((a9.out.trans (b.mono za)).trans (u.mono za)).setCell (p:=⟨B,0,yB⟩) (qPq _) _,by simp[World.setCell];omega⟩)
  rw[j];clear j l F st6 X V u O a0 L N Y b S;gi_wp2;exact⟨K7.out,S7.out,I7.out⟩
 case done=>
  rintro D W hD ⟨⟨p,k,c',vs,hv,z⟩,ab,hz⟩ hK;have a1:=z.len;subst a1;have S:=hv.cell;have ah:=hv.frozen;obtain⟨HV,HG⟩:=yU hv z;clear hv z;gi_wp2;have H:=(KeepsOthers.setCell W ⟨B,0,yB⟩ (qZ p (kN (grp m)) c')).same D _ hK rfl;refine⟨zm,qz ⟨_,_,rfl,run_takeDeferred H,?_⟩⟩;have a7:Boxed (W.setCell ⟨B,0,yB⟩ (qZ p (kN (grp m)) c')) B 60 (qZ p (kN (grp m)) c'):=HV.out.set _;have aa:=(zA6 a7 (qw yB) H rfl).cell;refine⟨qZ p (kN (grp m)) c',?_,p,c',vs,rfl,?_,?_⟩
  .simp[results,f29,go_sem,aa]
  .exact((HG.out.set za _).put (qw yB) H rfl).base za
  .exact zAu _ (ab.setCell (p:=⟨B,0,yB⟩) (qPq _) _) H (by rw[HZ.out]at hD;omega) (by simp[World.setCell];omega)
 case stop=>
  rintro D c pre W _ _ h _;exact h.elim
end Ch
end Go.Proofs.YtppnakkaljbmbaaGreatDoor
