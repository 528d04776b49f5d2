/- Steps of a proof; no condition beyond what each states. -/
import Derived.Test.YtppnakkaljbmbaaGreatDoorZX00
import Derived.Test.YtppnakkaljbmbaaGreatDoorZX33
set_option linter.unusedVariables false
set_option linter.unusedSimpArgs false
set_option maxRecDepth 100000
set_option maxHeartbeats 8000000
open Go.Proofs.YtppnakkaljbmbaaGreatDoor.Kit renaming zAg->yh
open Go.RowKit
open Go.Proofs.Tryz
open Go.Value renaming int->qV,string->qW,slice->qX,pointer->qY,tuple->qZ,bool->qc,nilFunc->qg
open Go.IntKind renaming i64->qj,u8->ql
open Go.Obj renaming cells->qm
open Go.Ending renaming returned->qp
open Option renaming some->qw,none->qx
open Go renaming World->qy,Value->qz,TypeId->yA,Calls->yC,undef->yJ
open Bool renaming true->yD,false->yE
open Go.Proofs.Tryz renaming prog->yG
open Go.RowKit renaming Hid->yH,Below->yI
open Go.World renaming cell?->yM
open Go.RowKit.Below renaming refl->yN
namespace Go.Proofs.YtppnakkaljbmbaaGreatDoor
namespace Sh
open Zr
theorem zQa (D:Nat) (w:qy):
  yC yG 171 #[qY (qw ⟨D,0,qx⟩)] w fun e w'=>∃M u c,e=qp (.map (qw M))/\w.heap.size<=M/\w'.heap[M]? =qw (.map u c)/\Knows D u.toList/\yI w.heap.size w w':=by
 go_enter func171,ntmps171
 try go_wp2_with fail
 refine zS [] (fun _=>True) MS 77<|zu 1 4 (zP D 0)<|zu 2 5 (zP D 0)<|zu 3 6 (zP D 0)<|zu 4 7 (zP D 0)<|zu 8 10 (zP D 0)<|zu 9 11 (zP D 0)<|zu 10 12 (zP D 0)<|zu 11 13 (zP D 1)<|zu 15 16 (zP D 0)<|zu 16 17 (met 211 D)<|zu 17 18 (row [110,104] (met 211 D) yE)<|zu 19 19 (zP D 0)<|zu 20 20 (met 212 D)<|zu 21 21 (row [110,104] (met 212 D) yE)<|zu 23 22 (zP D 0)<|zu 24 23 (met 213 D)<|zu 25 24 (row [110] (met 213 D) yE)<|zu 27 25 (zP D 0)<|zu 28 26 (met 214 D)<|zu 29 27 (row [110] (met 214 D) yE)<|zu 31 28 (zP D 0)<|zu 32 29 (met 215 D)<|zu 33 30 (row [] (met 215 D) yE)<|zu 35 31 (zP D 0)<|zu 36 32 (met 216 D)<|zu 37 33 (row [] (met 216 D) yE)<|zu 39 34 (zP D 0)<|zu 40 35 (met 217 D)<|zu 41 36 (row [] (met 217 D) yE)<|zu 43 37 (zP D 0)<|zu 44 38 (met 218 D)<|zu 45 39 (row [] (met 218 D) yE)<|zu 47 40 (zP D 0)<|zu 48 41 (met 219 D)<|zu 49 42 (row [110,110] (met 219 D) yE)<|zu 51 43 (zP D 0)<|zu 52 44 (met 220 D)<|zu 53 45 (row [110,110] (met 220 D) yE)<|zu 55 46 (zP D 0)<|zu 56 47 (met 221 D)<|zu 57 48 (row [110,110,110] (met 221 D) yD)<|zu 59 49 (zP D 0)<|zu 60 50 (met 222 D)<|zu 61 51 (row [110,110,110] (met 222 D) yD)<|zu 63 52 (zP D 0)<|zu 64 53 (met 223 D)<|zu 65 54 (row [110] (met 223 D) yD)<|zu 67 55 (zP D 0)<|zu 68 56 (met 224 D)<|zu 69 57 (row [] (met 224 D) yD)<|zu 71 58 (zP D 0)<|zu 72 59 (met 225 D)<|zu 73 60 (row [] (met 225 D) yD)<| ?_
 refine Kit.At_.cast (a':=FR D (.map qx) yJ yJ yJ yJ yJ yJ) ?_ zf;refine Kit.qAo (IV D w.heap.size w) zf ?_ ?_ 24 L0 _ _ ⟨_,_,_,_,_,_,_,rfl,qAn D w⟩ zf
 ·intro L a s i m y j r l;obtain⟨s2,s3,p,q,n,o,k,rfl,h⟩:=y;have hi:i<77:=(qSj.1 j).1;have b:L0.testBit i=yE:=by
   cases e:L0.testBit i with
   |false=>rfl
   |true=>rw[h.pre i e]at r;cases r
  have f:=rest_of i hi b;clear hi b;simp only[zL7,qP7,qT8,or_false]at f;rcases f with rfl|rfl|rfl|rfl|rfl|rfl|rfl|rfl|rfl|rfl|rfl|rfl|rfl|rfl|rfl|rfl|rfl|rfl|rfl|rfl|rfl|rfl|rfl|rfl
  ·obtain rfl:(0:Nat)=m:=qPv j;refine⟨_,rfl,zf,zA9 (w':=s.alloc (.map #[] 0)) (.map (qw s.heap.size)) zf ⟨.inr (.inr trivial),s2,.map (qw s.heap.size),p,q,n,o,k,zf,st0 h r⟩⟩
  ·obtain rfl:(18:Nat)=m:=qPv j;refine⟨_,rfl,zf,zHy 210 #[qY (qw ⟨D,0,qx⟩),qY (qw ⟨D,0,qx⟩)] zf (zTh D ⟨D,0,qx⟩ s) (fun e w2 t=>⟨zBy s.heap.size,t.1,.inr (.inr trivial),s2,s3,zBy s.heap.size,q,n,o,k,zf,st5 h _ t.2⟩)⟩
  ·obtain rfl:(32:Nat)=m:=qPv j;obtain⟨x,rfl⟩:=h.i5 (l 5 zf);refine⟨_,rfl,zf,zA9 (row [104] (zBy x) yE) zf ⟨.inr (.inr trivial),s2,s3,zBy x,row [104] (zBy x) yE,n,o,k,zf,st6 h x⟩⟩
  ·obtain rfl:(65:Nat)=m:=qPv j;obtain⟨x,rfl⟩:=h.i6 (l 6 zf);obtain⟨w2,f,g⟩:=stI (i:=0) (v:=row [104] (zBy x) yE) h (l 0 zf) rfl rfl r (fun t=>absurd t z8);refine⟨_,rfl,zf,zBd (.tmp 3) (.const (str [97,114,99,104,105,118,101])) (.tmp 9) zBt rfl zf zf zf f ⟨.inr (.inr trivial),s2,s3,p,row [104] (zBy x) yE,n,o,k,zf,g⟩⟩
  ·obtain rfl:(2336:Nat)=m:=qPv j;refine⟨_,rfl,zf,zHy 210 #[qY (qw ⟨D,0,qx⟩),qY (qw ⟨D,1,qx⟩)] zf (zTh D ⟨D,1,qx⟩ s) (fun e w2 t=>⟨zBy s.heap.size,t.1,.inr (.inr trivial),s2,s3,p,q,zBy s.heap.size,o,k,zf,qHw h _ t.2⟩)⟩
  ·obtain rfl:(4096:Nat)=m:=qPv j;obtain⟨x,rfl⟩:=h.i12 (l 12 zf);refine⟨_,rfl,zf,zA9 (row [104] (zBy x) yE) zf ⟨.inr (.inr trivial),s2,s3,p,q,zBy x,row [104] (zBy x) yE,k,zf,qHv h x⟩⟩
  ·obtain rfl:(8193:Nat)=m:=qPv j;obtain⟨x,rfl⟩:=h.i13 (l 13 zf);obtain⟨w2,f,g⟩:=stI (i:=1) (v:=row [104] (zBy x) yE) h (l 0 zf) rfl rfl r (fun t=>absurd t z8);refine⟨_,rfl,zf,zBd (.tmp 3) (.const (str [115,105,100,101,99,97,114])) (.tmp 15) zBt rfl zf zf zf f ⟨.inr (.inr trivial),s2,s3,p,q,n,row [104] (zBy x) yE,k,zf,g⟩⟩
  ·obtain rfl:(131073:Nat)=m:=qPv j;obtain⟨w2,f,g⟩:=stI (i:=2) (v:=row [110,104] (met 211 D) yE) h (l 0 zf) rfl rfl r (fun _=>rfl);refine⟨_,rfl,zf,zBd (.tmp 3) (.const (str [112,97,99,107])) (.tmp 18) zBt rfl zf zf zf f ⟨.inr (.inr trivial),s2,s3,p,q,n,o,k,zf,g⟩⟩
  ·obtain rfl:(2097153:Nat)=m:=qPv j;obtain⟨w2,f,g⟩:=stI (i:=3) (v:=row [110,104] (met 212 D) yE) h (l 0 zf) rfl rfl r (fun _=>rfl);refine⟨_,rfl,zf,zBd (.tmp 3) (.const (str [109,111,114,101])) (.tmp 21) zBt rfl zf zf zf f ⟨.inr (.inr trivial),s2,s3,p,q,n,o,k,zf,g⟩⟩
  ·obtain rfl:(33554433:Nat)=m:=qPv j;obtain⟨w2,f,g⟩:=stI (i:=4) (v:=row [110] (met 213 D) yE) h (l 0 zf) rfl rfl r (fun _=>rfl);refine⟨_,rfl,zf,zBd (.tmp 3) (.const (str [116,117,114,110])) (.tmp 24) zBt rfl zf zf zf f ⟨.inr (.inr trivial),s2,s3,p,q,n,o,k,zf,g⟩⟩
  ·obtain rfl:(536870913:Nat)=m:=qPv j;obtain⟨w2,f,g⟩:=stI (i:=5) (v:=row [110] (met 214 D) yE) h (l 0 zf) rfl rfl r (fun _=>rfl);refine⟨_,rfl,zf,zBd (.tmp 3) (.const (str [99,117,116])) (.tmp 27) zBt rfl zf zf zf f ⟨.inr (.inr trivial),s2,s3,p,q,n,o,k,zf,g⟩⟩
  ·obtain rfl:(8589934593:Nat)=m:=qPv j;obtain⟨w2,f,g⟩:=stI (i:=6) (v:=row [] (met 215 D) yE) h (l 0 zf) rfl rfl r (fun _=>rfl);refine⟨_,rfl,zf,zBd (.tmp 3) (.const (str [98,121,116,101,115])) (.tmp 30) zBt rfl zf zf zf f ⟨.inr (.inr trivial),s2,s3,p,q,n,o,k,zf,g⟩⟩
  ·obtain rfl:(137438953473:Nat)=m:=qPv j;obtain⟨w2,f,g⟩:=stI (i:=7) (v:=row [] (met 216 D) yE) h (l 0 zf) rfl rfl r (fun _=>rfl);refine⟨_,rfl,zf,zBd (.tmp 3) (.const (str [115,97,121])) (.tmp 33) zBt rfl zf zf zf f ⟨.inr (.inr trivial),s2,s3,p,q,n,o,k,zf,g⟩⟩
  ·obtain rfl:(2199023255553:Nat)=m:=qPv j;obtain⟨w2,f,g⟩:=stI (i:=8) (v:=row [] (met 217 D) yE) h (l 0 zf) rfl rfl r (fun _=>rfl);refine⟨_,rfl,zf,zBd (.tmp 3) (.const (str [105,110,100,101,120])) (.tmp 36) zBt rfl zf zf zf f ⟨.inr (.inr trivial),s2,s3,p,q,n,o,k,zf,g⟩⟩
  ·obtain rfl:(35184372088833:Nat)=m:=qPv j;obtain⟨w2,f,g⟩:=stI (i:=9) (v:=row [] (met 218 D) yE) h (l 0 zf) rfl rfl r (fun _=>rfl);refine⟨_,rfl,zf,zBd (.tmp 3) (.const (str [115,97,118,101])) (.tmp 39) zBt rfl zf zf zf f ⟨.inr (.inr trivial),s2,s3,p,q,n,o,k,zf,g⟩⟩
  ·obtain rfl:(562949953421313:Nat)=m:=qPv j;obtain⟨w2,f,g⟩:=stI (i:=10) (v:=row [110,110] (met 219 D) yE) h (l 0 zf) rfl rfl r (fun _=>rfl);refine⟨_,rfl,zf,zBd (.tmp 3) (.const (str [111,112,101,110])) (.tmp 42) zBt rfl zf zf zf f ⟨.inr (.inr trivial),s2,s3,p,q,n,o,k,zf,g⟩⟩
  ·obtain rfl:(9007199254740993:Nat)=m:=qPv j;obtain⟨w2,f,g⟩:=stI (i:=11) (v:=row [110,110] (met 220 D) yE) h (l 0 zf) rfl rfl r (fun _=>rfl);refine⟨_,rfl,zf,zBd (.tmp 3) (.const (str [111,112,101,110,98,121])) (.tmp 45) zBt rfl zf zf zf f ⟨.inr (.inr trivial),s2,s3,p,q,n,o,k,zf,g⟩⟩
  ·obtain rfl:(144115188075855873:Nat)=m:=qPv j;obtain⟨w2,f,g⟩:=stI (i:=12) (v:=row [110,110,110] (met 221 D) yD) h (l 0 zf) rfl rfl r (fun _=>rfl);refine⟨_,rfl,zf,zBd (.tmp 3) (.const (str [114,101,97,100])) (.tmp 48) zBt rfl zf zf zf f ⟨.inr (.inr trivial),s2,s3,p,q,n,o,k,zf,g⟩⟩
  ·obtain rfl:(2305843009213693953:Nat)=m:=qPv j;obtain⟨w2,f,g⟩:=stI (i:=13) (v:=row [110,110,110] (met 222 D) yD) h (l 0 zf) rfl rfl r (fun _=>rfl);refine⟨_,rfl,zf,zBd (.tmp 3) (.const (str [97,115,107])) (.tmp 51) zBt rfl zf zf zf f ⟨.inr (.inr trivial),s2,s3,p,q,n,o,k,zf,g⟩⟩
  ·obtain rfl:(36893488147419103233:Nat)=m:=qPv j;obtain⟨w2,f,g⟩:=stI (i:=14) (v:=row [110] (met 223 D) yD) h (l 0 zf) rfl rfl r (fun _=>rfl);refine⟨_,rfl,zf,zBd (.tmp 3) (.const (str [115,116,101,112])) (.tmp 54) zBt rfl zf zf zf f ⟨.inr (.inr trivial),s2,s3,p,q,n,o,k,zf,g⟩⟩
  ·obtain rfl:(590295810358705651713:Nat)=m:=qPv j;obtain⟨w2,f,g⟩:=stI (i:=15) (v:=row [] (met 224 D) yD) h (l 0 zf) rfl rfl r (fun _=>rfl);refine⟨_,rfl,zf,zBd (.tmp 3) (.const (str [115,104,101,108,102])) (.tmp 57) zBt rfl zf zf zf f ⟨.inr (.inr trivial),s2,s3,p,q,n,o,k,zf,g⟩⟩
  ·obtain rfl:(9444732965739290427393:Nat)=m:=qPv j;obtain⟨w2,f,g⟩:=stI (i:=16) (v:=row [] (met 225 D) yD) h (l 0 zf) rfl rfl r (fun _=>rfl);refine⟨_,rfl,zf,zBd (.tmp 3) (.const (str [114,101,97,100,101,114,115])) (.tmp 60) zBt rfl zf zf zf f ⟨.inr (.inr trivial),s2,s3,p,q,n,o,k,zf,g⟩⟩
  ·obtain rfl:(37778931862957161709567:Nat)=m:=qPv j;refine⟨_,rfl,zf,zA9 s3 zf ⟨.inr (.inr trivial),s2,s3,p,q,n,o,s3,zf,qHu h (l 0 zf)⟩⟩
  ·obtain rfl:(75557863725914323419135:Nat)=m:=qPv j;refine⟨_,rfl,zf,zA9 k zf ⟨.inr (.inr trivial),k,s3,p,q,n,o,k,zf,qHt h (l 0 zf) (h.i75 (l 75 zf))⟩⟩
 ·intro L a s y z;obtain⟨s2,s3,p,q,n,o,k,rfl,h⟩:=y;obtain⟨M,u,c,rfl,B,j,F,d⟩:=qFu h (fun i hi=>z i hi);clear h z;simp only[FR];go_wp2;go_ret;exact⟨M,u,c,rfl,B,j,F,d⟩
end Sh
namespace Sh
open Sm
abbrev tSp:ByteArray:=⟨#[32]⟩
abbrev tNl:ByteArray:=⟨#[10]⟩
abbrev zIn:ByteArray:=⟨#[112,97,99,107]⟩
abbrev zKz:ByteArray:=⟨#[49]⟩
abbrev zDz:ByteArray:=⟨#[112,97,99,107,32,49,32,54,49,54,50]⟩
abbrev zE1:ByteArray:=⟨#[112,97,99,107,32,49,32,54,49,54,50,10]⟩
abbrev zE0:ByteArray:=⟨#[115,97,121,10]⟩
abbrev zPl:ByteArray:=⟨#[112,97,99,107,32,49,32,54,49,54,50,10,115,97,121,10]⟩
def HM (w:qy):Prop:=∃m,w.cell? ⟨0,0,qx⟩=qw (qV qj m)
theorem zUn (w:qy) (a:HM w):yC yG 170 #[qW zDz,qW tSp] w fun e w'=>e=qp (qX (qw ⟨w.heap.size,0,qx⟩) 3 3)/\w'=w.alloc (qm #[qW zIn,qW zKz,qW zBn] zAk):=by
 obtain⟨m,a⟩:=a;have h:=strings_Split zDz tSp m w z8 a z8;rw[show Lib.countB zDz tSp=2 from z8,show Lib.splitB tSp 0 2 zDz=[zIn,zKz,zBn]from z8]at h;exact h
theorem zWs (w:qy) (a:HM w):yC yG 170 #[qW zA5,qW tSp] w fun e w'=>e=qp (qX (qw ⟨w.heap.size,0,qx⟩) 1 1)/\w'=w.alloc (qm #[qW zA5] zAk):=by
 obtain⟨m,a⟩:=a;have h:=strings_Split zA5 tSp m w z8 a z8;rw[show Lib.countB zA5 tSp=0 from z8,show Lib.splitB tSp 0 0 zA5=[zA5]from z8]at h;exact h
theorem zVv (w:qy) (a:HM w):yC yG 120 #[qW zPl,qW tNl] w fun e w'=>e=qp (qX (qw ⟨w.heap.size,0,qx⟩) 3 3)/\w'=w.alloc (qm #[qW zE1,qW zE0,qW ⟨#[]⟩] zAk):=by
 obtain⟨m,a⟩:=a;have h:=strings_genSplit zPl tNl 1 (-1) 3 m w z8 a z8 z8 z8 z8 z8;rw[show((1:Nat):Int)=1 from rfl,show Lib.splitB tNl 1 (3-1) zPl=[zE1,zE0,⟨#[]⟩]from z8]at h;have H:=zH h;go_enter func120,ntmps120;go_wp2_with fail;(with_reducible refine H.out.mono ?_);rintro e b ⟨rfl,rfl⟩;go_wp2;go_ret;exact⟨rfl,rfl⟩
theorem zWc (w:qy):yC yG 122 #[qW zE1,qW tNl] w fun e w'=>e=qp (qW zDz)/\w'=w:=by
 have h:=strings_TrimSuffix zE1 tNl w z8;rw[show(⟨(Lib.trimSuffix zE1.data.toList tNl.data.toList).toArray⟩:ByteArray)=zDz from z8]at h;exact h
theorem zY6 (w:qy):yC yG 122 #[qW zE0,qW tNl] w fun e w'=>e=qp (qW zA5)/\w'=w:=by
 have h:=strings_TrimSuffix zE0 tNl w z8;rw[show(⟨(Lib.trimSuffix zE0.data.toList tNl.data.toList).toArray⟩:ByteArray)=zA5 from z8]at h;exact h
end Sh
namespace Sh
open Zr Front Wg Ch Sq Tn Sm
theorem zQ1 {P:Program} {o:Oper} {a:Act} {w w':qy} {K:Act->qy->Prop} {Q:Exit->Act->qy->Prop} (hv:(execOp a.eval o).run P w= .ok .skip w') (h:K (a.put o.dst yJ) w'):Oper.wp P o a w K Q:=by
 unfold Oper.wp;rw[hv];exact h
abbrev zEe:yA:=285
theorem zQ5 {w:qy} {M c D i:Nat} {a:Array MapEntry} {k:List UInt8} {v:qz} (h:w.heap[M]? =qw (.map a c)) (f:Knows D a.toList) (hi:2<=i) (b:zF4[i]? =qw k) (d:(zQg D)[i]? =qw v):
  (Instr.lookup zBt (.map (qw M)) (str k) yD).run yG w= .ok (qZ #[v,qc yD]) w:=by
 obtain⟨j,e⟩:=f i k v hi b d;simp[Instr.lookup,qTl (show prog.underlying zBt=qw (.map zAk zEe)from underlying287),MapKept.run_getObj_map h,MapKept.run_checkKey underlying9 (show MapKept.IsKey .string (str k)from trivial),MapKept.run_findKey underlying9 e,Result.andThen]
theorem look_eq {P:Program} {w w':qy} {ρ:Operand->qz} {o:Oper} {t:yA} {x y:Operand} {a c v:qz} {b:Bool} (d:o.op= .lookup t x y b) (f:ρ x=a) (g:ρ y=c) (e:(Instr.lookup t a c b).run P w= .ok v w'):(execOp ρ o).run P w= .ok (.value v) w':=by
 unfold execOp;simp[d,f,g,e,Result.andThen]
theorem zWq {w:qy} {B:Nat} {u v x u' v' x':qz} (h:w.heap[B]? =qw (qm #[u,v,x] zEe)) (f:∀z∈[u',v',x'],z.oneCell'=yD):
  ∃w',(storeVar zEe ⟨B,0,qx⟩ (.agg #[u',v',x'])).run yG w= .ok () w'/\w'.heap[B]? =qw (qm #[u',v',x'] zEe)/\(∀D,D<=B->yI D w w'):=by
 obtain⟨c0,c1,c2,c,d,e⟩:=zBi h;have a:=qSm (P:=yG) w B 0 zEe #[u',v',x'] (fun j g=>by
  have i:j<3:=g;obtain rfl|rfl|rfl:j=0\/j=1\/j=2:=za
  ·exact⟨by rw[show 0+0=0 from rfl,c0];rfl,c⟩
  ·exact⟨by rw[show 0+1=1 from rfl,c1];rfl,d⟩
  ·exact⟨by rw[show 0+2=2 from rfl,c2];rfl,e⟩) zf (by simpa using f)
 refine⟨_,a,?_,?_⟩
 ·exact zA3 2 _ (zA3 1 _ (zA3 0 _ h))
 ·exact fun D b=>(((yN _ w).setCell (p:=⟨B,0,qx⟩) b _).setCell (p:=⟨B,1,qx⟩) b _).setCell (p:=⟨B,2,qx⟩) b _
def MsD:List Nat:=[0,1,0,4,8,18,32,64,64,0,767,2047]
def LD:Nat:=13
def zL8:List Nat:=[1,4,5,6,7,8,9,10,11]
theorem zQj:∀i,i<12->LD.testBit i=yE->i∈zL8:=z8
structure IR (D B:Nat) (k form:List UInt8) (fn:qz) (on:Bool) (w1:qy) (L:Nat) (w:qy) (s21 s24 s25 s19 s26 s27 s6 s7:qz):Prop where
 i1:L.testBit 1=yD->L.testBit 5=yE->∃M es c,s21= .map (qw M)/\B<=M/\w.heap[M]? =qw (.map es c)/\Knows D es.toList
 i4:L.testBit 4=yD->s24=str k
 i5:L.testBit 5=yD->s25=qZ #[row form fn on,qc yD]
 i6:L.testBit 6=yD->s19=qZ #[row form fn on,qc yD]
 i7:L.testBit 7=yD->s26=row form fn on
 i8:L.testBit 8=yD->s27=qc yD
 i11:L.testBit 11=yD->s7=qc yD
 i9:L.testBit 9=yD->∃A,s6=qY (qw ⟨A,0,qx⟩)/\B<=A/\(L.testBit 10=yE->w.heap[A]? =qw (qm #[qW ⟨#[]⟩,qg,qc yE] zEe))/\(L.testBit 10=yD->w.heap[A]? =qw (qm #[str form,fn,qc on] zEe))
 bl:yI B w1 w
 le:B<=w1.heap.size
 pre:∀k,LD.testBit k=yD->L.testBit k=yD
 cl:L.testBit 10=yD->L.testBit 9=yD
section
variable {D B:Nat} {k form:List UInt8} {fn:qz} {on:Bool} {w1 w w':qy} {L:Nat} {s21 s24 s25 s19 s26 s27 s6 s7:qz}
theorem ir4 (h:IR D B k form fn on w1 L w s21 s24 s25 s19 s26 s27 s6 s7):IR D B k form fn on w1 (L|||1<<<4) w s21 (str k) s25 s19 s26 s27 s6 s7:=
 ⟨fun d e=>h.i1 (by rwa[bt z8]at d) (by rwa[bt z8]at e),fun _=>rfl,fun a=>h.i5 (by rwa[bt z8]at a),fun a=>h.i6 (by rwa[bt z8]at a),fun a=>h.i7 (by rwa[bt z8]at a),fun a=>h.i8 (by rwa[bt z8]at a),fun a=>h.i11 (by rwa[bt z8]at a),fun f=>(h.i9 (by rwa[bt z8]at f)).imp fun A b=>⟨b.1,b.2.1,fun c=>b.2.2.1 (by rwa[bt z8]at c),fun c=>b.2.2.2 (by rwa[bt z8]at c)⟩,h.bl,h.le,fun k g=>bm (h.pre k g),fun a=>bm (h.cl (by rwa[bt z8]at a))⟩
theorem ir5 (h:IR D B k form fn on w1 L w s21 s24 s25 s19 s26 s27 s6 s7):IR D B k form fn on w1 (L|||1<<<5) w s21 s24 (qZ #[row form fn on,qc yD]) s19 s26 s27 s6 s7:=
 ⟨fun _ d=>(by rw[bs]at d;cases d),fun a=>h.i4 (by rwa[bt z8]at a),fun _=>rfl,fun a=>h.i6 (by rwa[bt z8]at a),fun a=>h.i7 (by rwa[bt z8]at a),fun a=>h.i8 (by rwa[bt z8]at a),fun a=>h.i11 (by rwa[bt z8]at a),fun e=>(h.i9 (by rwa[bt z8]at e)).imp fun A b=>⟨b.1,b.2.1,fun c=>b.2.2.1 (by rwa[bt z8]at c),fun c=>b.2.2.2 (by rwa[bt z8]at c)⟩,h.bl,h.le,fun k f=>bm (h.pre k f),fun a=>bm (h.cl (by rwa[bt z8]at a))⟩
theorem ir6 (h:IR D B k form fn on w1 L w s21 s24 s25 s19 s26 s27 s6 s7):IR D B k form fn on w1 (L|||1<<<6) w s21 s24 s25 (qZ #[row form fn on,qc yD]) s26 s27 s6 s7:=
 ⟨fun d e=>h.i1 (by rwa[bt z8]at d) (by rwa[bt z8]at e),fun a=>h.i4 (by rwa[bt z8]at a),fun a=>h.i5 (by rwa[bt z8]at a),fun _=>rfl,fun a=>h.i7 (by rwa[bt z8]at a),fun a=>h.i8 (by rwa[bt z8]at a),fun a=>h.i11 (by rwa[bt z8]at a),fun f=>(h.i9 (by rwa[bt z8]at f)).imp fun A b=>⟨b.1,b.2.1,fun c=>b.2.2.1 (by rwa[bt z8]at c),fun c=>b.2.2.2 (by rwa[bt z8]at c)⟩,h.bl,h.le,fun k g=>bm (h.pre k g),fun a=>bm (h.cl (by rwa[bt z8]at a))⟩
theorem ir7 (h:IR D B k form fn on w1 L w s21 s24 s25 s19 s26 s27 s6 s7):IR D B k form fn on w1 (L|||1<<<7) w s21 s24 s25 s19 (row form fn on) s27 s6 s7:=
 ⟨fun d e=>h.i1 (by rwa[bt z8]at d) (by rwa[bt z8]at e),fun a=>h.i4 (by rwa[bt z8]at a),fun a=>h.i5 (by rwa[bt z8]at a),fun a=>h.i6 (by rwa[bt z8]at a),fun _=>rfl,fun a=>h.i8 (by rwa[bt z8]at a),fun a=>h.i11 (by rwa[bt z8]at a),fun f=>(h.i9 (by rwa[bt z8]at f)).imp fun A b=>⟨b.1,b.2.1,fun c=>b.2.2.1 (by rwa[bt z8]at c),fun c=>b.2.2.2 (by rwa[bt z8]at c)⟩,h.bl,h.le,fun k g=>bm (h.pre k g),fun a=>bm (h.cl (by rwa[bt z8]at a))⟩
theorem ir8 (h:IR D B k form fn on w1 L w s21 s24 s25 s19 s26 s27 s6 s7):IR D B k form fn on w1 (L|||1<<<8) w s21 s24 s25 s19 s26 (qc yD) s6 s7:=
 ⟨fun d e=>h.i1 (by rwa[bt z8]at d) (by rwa[bt z8]at e),fun a=>h.i4 (by rwa[bt z8]at a),fun a=>h.i5 (by rwa[bt z8]at a),fun a=>h.i6 (by rwa[bt z8]at a),fun a=>h.i7 (by rwa[bt z8]at a),fun _=>rfl,fun a=>h.i11 (by rwa[bt z8]at a),fun f=>(h.i9 (by rwa[bt z8]at f)).imp fun A b=>⟨b.1,b.2.1,fun c=>b.2.2.1 (by rwa[bt z8]at c),fun c=>b.2.2.2 (by rwa[bt z8]at c)⟩,h.bl,h.le,fun k g=>bm (h.pre k g),fun a=>bm (h.cl (by rwa[bt z8]at a))⟩
theorem qFx (h:IR D B k form fn on w1 L w s21 s24 s25 s19 s26 s27 s6 s7):IR D B k form fn on w1 (L|||1<<<11) w s21 s24 s25 s19 s26 s27 s6 (qc yD):=
 ⟨fun d e=>h.i1 (by rwa[bt z8]at d) (by rwa[bt z8]at e),fun a=>h.i4 (by rwa[bt z8]at a),fun a=>h.i5 (by rwa[bt z8]at a),fun a=>h.i6 (by rwa[bt z8]at a),fun a=>h.i7 (by rwa[bt z8]at a),fun a=>h.i8 (by rwa[bt z8]at a),fun _=>rfl,fun f=>(h.i9 (by rwa[bt z8]at f)).imp fun A b=>⟨b.1,b.2.1,fun c=>b.2.2.1 (by rwa[bt z8]at c),fun c=>b.2.2.2 (by rwa[bt z8]at c)⟩,h.bl,h.le,fun k g=>bm (h.pre k g),fun a=>bm (h.cl (by rwa[bt z8]at a))⟩
theorem ir1 (h:IR D B k form fn on w1 L w s21 s24 s25 s19 s26 s27 s6 s7) {M c:Nat} {d:Array MapEntry} (f:yI w.heap.size w w') (j:B<=M) (l:w'.heap[M]? =qw (.map d c)) (g:Knows D d.toList):IR D B k form fn on w1 (L|||1<<<1) w' (.map (qw M)) s24 s25 s19 s26 s27 s6 s7:=
 ⟨fun _ _=>⟨M,d,c,rfl,j,l,g⟩,fun a=>h.i4 (by rwa[bt z8]at a),fun a=>h.i5 (by rwa[bt z8]at a),fun a=>h.i6 (by rwa[bt z8]at a),fun a=>h.i7 (by rwa[bt z8]at a),fun a=>h.i8 (by rwa[bt z8]at a),fun a=>h.i11 (by rwa[bt z8]at a),fun i=>(h.i9 (by rwa[bt z8]at i)).imp fun A b=>⟨b.1,b.2.1,fun e=>(fun x=>zAb x f) (b.2.2.1 (by rwa[bt z8]at e)),fun e=>(fun x=>zAb x f) (b.2.2.2 (by rwa[bt z8]at e))⟩,h.bl.trans (f.mono (qP4 h.le h.bl.size)),h.le,fun k g=>bm (h.pre k g),fun a=>bm (h.cl (by rwa[bt z8]at a))⟩
theorem ir9 (h:IR D B k form fn on w1 L w s21 s24 s25 s19 s26 s27 s6 s7) (m:L.testBit 9=yE):IR D B k form fn on w1 (L|||1<<<9) (w.alloc (qm #[qW ⟨#[]⟩,qg,qc yE] zEe)) s21 s24 s25 s19 s26 s27 (qY (qw ⟨w.heap.size,0,qx⟩)) s7:=
 ⟨fun j l=>(h.i1 (by rwa[bt z8]at j) (by rwa[bt z8]at l)).imp fun M ⟨g,c,b,d,e,f⟩=>⟨g,c,b,d,zAb e ((yN _ _).alloc (qPq _) _),f⟩,fun a=>h.i4 (by rwa[bt z8]at a),fun a=>h.i5 (by rwa[bt z8]at a),fun a=>h.i6 (by rwa[bt z8]at a),fun a=>h.i7 (by rwa[bt z8]at a),fun a=>h.i8 (by rwa[bt z8]at a),fun a=>h.i11 (by rwa[bt z8]at a),fun _=>⟨w.heap.size,rfl,qP4 h.le h.bl.size,fun _=>zAh w _,fun i=>(by have:=h.cl (by rwa[bt z8]at i);rw[m]at this;cases this)⟩,h.bl.trans ((yN _ _).alloc (qP4 h.le h.bl.size) _),h.le,fun k n=>bm (h.pre k n),fun a=>bm (h.cl (by rwa[bt z8]at a))⟩
theorem qFy {A:Nat} (h:IR D B k form fn on w1 L w s21 s24 s25 s19 s26 s27 (qY (qw ⟨A,0,qx⟩)) s7) (e:L.testBit 9=yD) (d:L.testBit 5=yD) (c:B<=A) (f:yI A w w') (i:w'.heap[A]? =qw (qm #[str form,fn,qc on] zEe)):IR D B k form fn on w1 (L|||1<<<10) w' s21 s24 s25 s19 s26 s27 (qY (qw ⟨A,0,qx⟩)) s7:=
 ⟨fun _ h=>(by rw[bm d]at h;cases h),fun a=>h.i4 (by rwa[bt z8]at a),fun a=>h.i5 (by rwa[bt z8]at a),fun a=>h.i6 (by rwa[bt z8]at a),fun a=>h.i7 (by rwa[bt z8]at a),fun a=>h.i8 (by rwa[bt z8]at a),fun a=>h.i11 (by rwa[bt z8]at a),fun _=>⟨A,rfl,c,fun b=>(by rw[bs]at b;cases b),fun _=>i⟩,h.bl.trans (f.mono c),h.le,fun k g=>bm (h.pre k g),fun _=>bm e⟩
theorem zXq (h:IR D B k form fn on w1 L w s21 s24 s25 s19 s26 s27 s6 s7) (a:∀i,i<12->L.testBit i=yD):∃A,s6=qY (qw ⟨A,0,qx⟩)/\s7=qc yD/\s24=str k/\s25=qZ #[row form fn on,qc yD]/\s19=qZ #[row form fn on,qc yD]/\s26=row form fn on/\s27=qc yD/\B<=A/\w.heap[A]? =qw (qm #[str form,fn,qc on] zEe)/\yI B w1 w:=by
 obtain⟨A,b,c,_,d⟩:=h.i9 (a 9 z8);exact⟨A,b,h.i11 (a 11 z8),h.i4 (a 4 z8),h.i5 (a 5 z8),h.i6 (a 6 z8),h.i7 (a 7 z8),h.i8 (a 8 z8),c,d (a 10 z8),h.bl⟩
theorem zRb (w:qy):IR D w.heap.size k form fn on w LD w.drew yJ yJ yJ yJ yJ yJ yJ yJ:=by
 have no:∀b∈zL8,LD.testBit b=yE:=z8
 have g:∀b∈zL8,LD.testBit b=yD->False:=fun b a h=>by rw[no b a]at h;cases h
 exact⟨fun h=>(g 1 z8 h).elim,fun h=>(g 4 z8 h).elim,fun h=>(g 5 z8 h).elim,fun h=>(g 6 z8 h).elim,fun h=>(g 7 z8 h).elim,fun h=>(g 8 z8 h).elim,fun h=>(g 11 z8 h).elim,fun h=>(g 9 z8 h).elim,(yN _ _).drew,qPq _,fun k c=>c,fun h=>(g 10 z8 h).elim⟩
end
def AK (w:qy) (G k:Nat):Prop:=AG w G (if k=0 then 0 else 1) 0 0 (if k<2 then⟨#[]⟩else zCb)
end Sh
namespace Sh
open Bt Zr Wg Ch Sq St Tn Bk Sm
def FRP (D B:Nat) (b c d a e f g h:qz):Act:=⟨#[(qY (qw ⟨D,0,qx⟩)),(qW zDz),yJ,yJ,(qW ⟨#[]⟩),(qX (qw ⟨B,0,qx⟩) 3 3),g,h,yJ,yJ,(qW zDz),(qc yE),(qc yE),(qW zDz),(qV ql 112),(qc yE),(qc yE),(qW zDz),(qX (qw ⟨B,0,qx⟩) 3 3),a,(qY (qw ⟨D,0,qx⟩)),b,(qX (qw ⟨B,0,qx⟩) 3 3),(qY (qw ⟨B,0,qx⟩)),c,d,e,f,yJ,yJ,yJ,yJ,yJ,yJ,yJ,yJ,yJ,yJ,yJ,yJ,yJ,yJ,yJ,yJ,yJ,yJ,yJ,yJ,yJ,yJ,yJ,yJ,yJ,yJ,yJ,yJ,yJ,yJ,yJ,yJ,yJ,yJ,yJ,yJ,yJ,yJ,yJ,yJ,yJ,yJ,yJ,yJ,yJ,yJ,yJ,yJ,yJ,yJ],[]⟩
theorem qD7 (D:Nat) (a:ByteArray) (w:qy) (h:DK w D a) (q:HM w):
  yC yG 121 #[qY (qw ⟨D,0,qx⟩),qW zDz] w fun e w'=>e=qp (qW zM2)/\DK w' D zC4/\Upd w w' D:=by
 obtain⟨B,hB⟩:=zB w.heap.size;obtain⟨w1,f⟩:=zB (w.alloc (qm #[qW zIn,qW zKz,qW zBn] zAk));have N:yI w.heap.size w w1:=by rw[<-f];exact(yN _ _).alloc (qPq _) _
 have z1:w1.heap[B]? =qw (qm #[qW zIn,qW zKz,qW zBn] zAk):=by rw[<-f,<-hB];exact zAh w _
 obtain⟨s,HW,Z1,K1,U1⟩:=yT (zUn w q) f z1 (h.below N) (Upd.of_below N (qP6 h.lt));rw[f,hB]at s;have o:=yP (B<w1.heap.size) (by rw[<-hB];exact qQv (by rw[<-f,zA];omega) (qPq _));clear N h f z1 q;go_enter func121,ntmps121;go_wp2_with fail;(with_reducible refine s.out.mono ?_);rintro e w1 ⟨rfl,rfl⟩;go_wp2_with fail;refine zS [] (fun _=>True) MsD 12<|zu 0 20 (zP D 0)<|zu 2 22 (qX (qw ⟨B,0,qx⟩) 3 3)<|zu 3 23 (zP B 0)<| ?_
 refine Kit.At_.cast (a':=FRP D B yJ yJ yJ yJ yJ yJ yJ yJ) ?_ zf;refine Kit.qAo (fun L a wv=>∃a0 a1 a2 a6 a3 a4 s6 z,a=FRP D B a0 a1 a2 a6 a3 a4 s6 z/\IR D w1.heap.size [112,97,99,107] [110,104] (met 211 D) yE w1 L wv a0 a1 a2 a6 a3 a4 s6 z) zf ?_ ?_ 9 LD _ _ ⟨_,_,_,_,_,_,_,_,rfl,zRb w1⟩ zf
 ·intro L a wv i m hI q hb a5;obtain⟨a0,a1,a2,a6,a3,a4,s6,z,rfl,h⟩:=hI;have hi:i<12:=(qSj.1 q).1;have P:LD.testBit i=yE:=by
   cases e:LD.testBit i with
   |false=>rfl
   |true=>rw[h.pre i e]at hb;cases hb
  have hr:=zQj i hi P;clear hi P;simp only[zL8,qP7,qT8,or_false]at hr;rcases hr with rfl|rfl|rfl|rfl|rfl|rfl|rfl|rfl|rfl
  ·obtain rfl:(1:Nat)=m:=qPv q;refine⟨_,rfl,zf,zHy 171 #[qY (qw ⟨D,0,qx⟩)] zf (zQa D wv) ?_⟩;rintro e w2 ⟨M,es,c,rfl,hM,I,F,K⟩;exact⟨_,rfl,.inr (.inr trivial),.map (qw M),a1,a2,a6,a3,a4,s6,z,zf,ir1 h K (qP4 (qP4 h.le h.bl.size) hM) I F⟩
  ·obtain rfl:(8:Nat)=m:=qPv q;have hc:wv.cell? ⟨B,0,qx⟩=qw (qW zIn):=by simp[yM,(h.bl.block B o.out).trans Z1.out]
   refine⟨_,rfl,zf,zA9 (str [112,97,99,107]) (Kit.zM7 (t:=9) (x:= .tmp 23) rfl zf (yh (show _=qw (str [112,97,99,107])from hc) zf zf)) ⟨.inr (.inr trivial),a0,str [112,97,99,107],a2,a6,a3,a4,s6,z,zf,ir4 h⟩⟩
  ·obtain rfl:(18:Nat)=m:=qPv q;obtain⟨M,es,c,rfl,hM,I,F⟩:=h.i1 (a5 1 zf) hb;obtain rfl:=h.i4 (a5 4 zf);refine⟨_,rfl,zf,zA9 (qZ #[row [110,104] (met 211 D) yE,qc yD]) (look_eq (t:=zBt) (x:= .tmp 21) (y:= .tmp 24) rfl zf zf (zQ5 (i:=2) I F z8 rfl rfl)) ⟨.inr (.inr trivial),.map (qw M),str [112,97,99,107],qZ #[row [110,104] (met 211 D) yE,qc yD],a6,a3,a4,s6,z,zf,ir5 h⟩⟩
  ·obtain rfl:(32:Nat)=m:=qPv q;obtain rfl:=h.i5 (a5 5 zf);refine⟨_,rfl,zf,zA9 (qZ #[row [110,104] (met 211 D) yE,qc yD]) zf ⟨.inr (.inr trivial),a0,a1,qZ #[row [110,104] (met 211 D) yE,qc yD],qZ #[row [110,104] (met 211 D) yE,qc yD],a3,a4,s6,z,zf,ir6 h⟩⟩
  ·obtain rfl:(64:Nat)=m:=qPv q;obtain rfl:=h.i6 (a5 6 zf);refine⟨_,rfl,zf,zA9 (row [110,104] (met 211 D) yE) zf ⟨.inr (.inr trivial),a0,a1,a2,qZ #[row [110,104] (met 211 D) yE,qc yD],row [110,104] (met 211 D) yE,a4,s6,z,zf,ir7 h⟩⟩
  ·obtain rfl:(64:Nat)=m:=qPv q;obtain rfl:=h.i6 (a5 6 zf);refine⟨_,rfl,zf,zA9 (qc yD) zf ⟨.inr (.inr trivial),a0,a1,a2,qZ #[row [110,104] (met 211 D) yE,qc yD],a3,qc yD,s6,z,zf,ir8 h⟩⟩
  ·obtain rfl:(0:Nat)=m:=qPv q;refine⟨_,rfl,zf,zA9 (w':=wv.alloc (qm #[qW ⟨#[]⟩,qg,qc yE] zEe)) (qY (qw ⟨wv.heap.size,0,qx⟩)) zf ⟨.inr (.inr trivial),a0,a1,a2,a6,a3,a4,qY (qw ⟨wv.heap.size,0,qx⟩),z,zf,ir9 h hb⟩⟩
  ·obtain rfl:(767:Nat)=m:=qPv q;obtain⟨A,rfl,hA,X,_⟩:=h.i9 (a5 9 zf);obtain rfl:=h.i7 (a5 7 zf);obtain⟨w2,Y,S,K⟩:=zWq (u':=str [110,104]) (v':=met 211 D) (x':=qc yE) (X hb) (by simp[Value.oneCell',str,met]);refine⟨_,rfl,zf,zQ1 (Kit.zHa (t:=zEe) (x:= .tmp 6) (y:= .tmp 26) rfl zf zf Y) ⟨.inr (.inr trivial),a0,a1,a2,a6,row [110,104] (met 211 D) yE,a4,qY (qw ⟨A,0,qx⟩),z,zf,qFy h (a5 9 zf) (a5 5 zf) hA (K A (qPq _)) S⟩⟩
  ·obtain rfl:(2047:Nat)=m:=qPv q;obtain rfl:=h.i8 (a5 8 zf);refine⟨_,rfl,zf,zA9 (qc yD) zf ⟨.inr (.inr trivial),a0,a1,a2,a6,a3,qc yD,s6,qc yD,zf,qFx h⟩⟩
 intro L ac wr hI a7;obtain⟨a0,a1,a2,a6,a3,a4,s6,z,rfl,h⟩:=hI;obtain⟨A,rfl,rfl,rfl,rfl,rfl,rfl,rfl,hA,hz,j⟩:=zXq h (fun i hi=>a7 i hi);clear h a7;obtain⟨Z2,K2,U2⟩:=yR ((j.block B o.out).trans Z1.out) (K1.out.below j) (U1.out.trans (Upd.of_below j (qP6 K1.out.lt)));have O:=yP (D<A) (qQv K1.out.lt hA);have p:=yP (B<A) (qQv o.out hA);have RA:=zH hz;obtain⟨c0,c1,c2,f0,f1,f2⟩:=zBi hz;simp only[str]at c0;obtain⟨C1,C2⟩:=yQ c1 c2;clear c1 c2 f0 f1 f2 hz j Z1 K1 U1 o s HW hA;obtain⟨G,hG⟩:=zB wr.heap.size;obtain⟨w3,l⟩:=zB (wr.alloc (qm #[qV qj 0,qV qj 0,qV qj 0,qW ⟨#[]⟩] zJc));have g:yI wr.heap.size wr w3:=by rw[<-l];exact(yN _ _).alloc (qPq _) _
 have G3:=yP (AG w3 G 0 0 0 ⟨#[]⟩) (by rw[<-l,<-hG];exact zAh wr _);obtain⟨K3,U3,Z3,R3⟩:=yS (K2.out.below g) (U2.out.trans (Upd.of_below g (qP6 K2.out.lt))) (zAb Z2.out g) (zAb RA.out g);have d:=yP (A<G) (by rw[<-hG];exact zAd RA.out);obtain⟨R,HG⟩:=yQ l hG;clear hG l g K2 U2 Z2 RA C1 C2;simp only[FRP];go_wp2_with fail;clear c0;rw[HG.out,show wr.alloc (qm #[qV qj 0,qV qj 0,qV qj 0,qW ⟨#[]⟩] zJc)=w3 from R.out];go_loopw [7,9] (fun ov iv wx=>∃k:Nat,k<=2/\ov=qc yD/\iv=qV qj k/\yH (AK wx G k)/\yH (Upd w3 wx G)) (fun _ iv _=>2-(intOf iv).toNat)
 case atStart=>exact⟨0,za,rfl,rfl,zH G3.out,zH ⟨fun _ _ _=>rfl,yN _ _⟩⟩
 case round=>
  obtain⟨k,hk,rfl,rfl,n,b⟩:=hrel;have W:=zAd G3.out;obtain⟨RX,ZX⟩:=yQ ((b.out.old A (by have:=d.out;omega) (by have:=d.out;omega)).trans R3.out) ((b.out.old B (by have:=d.out;have:=p.out;omega) (by have:=d.out;have:=p.out;omega)).trans Z3.out);have c0:wr.cell? ⟨A,0,qx⟩=qw (qW ⟨#[110,104]⟩):=by simp[yM,RX.out,str]
  clear W;obtain rfl|rfl|rfl:k=0\/k=1\/k=2:=za
  ·rw[show((0:Nat):Int)=0 from rfl];go_wp2_with fail;have CF:=zH c0;have CW:=yP (wr.drew.cell? ⟨B,1,qx⟩=qw (qW zKz)) (zBi ZX.out).2.1;have r:=zH (qEs G 0 0 0 ⟨#[]⟩ wr.drew n.out);clear c0;refine zS [] (fun _=>True) [0,0,2,0,12,0,0,64,160,256,529,2047] 12<|zp [0,1,2,3,4,5,6,7,8,9]<|zk 48 (qV qj 0)<|zk 49 (zP A 0)<|zt 50 (qW ⟨#[110,104]⟩) (zl 9 49 (yh CF.out zf zf))<|zk 51 (qV qj 0)<|zk 52 (qV ql 110)<|zk 53 (qX (qw ⟨B,0,qx⟩) 3 3)<|zk 54 (qV qj 0)<|zk 55 (qV qj 1)<|zk 56 (zP B 1)<|zt 57 (qW zKz) (zl 9 56 (yh CW.out zf zf))<|zn<|zx 10 58 172 #[qY (qw ⟨G,0,qx⟩),qV qj 0,qV ql 110,qW zKz] r.out<| ?_
   rintro e w5 ⟨rfl,H,u⟩;refine⟨_,rfl,.inr (.inr trivial),?_⟩;refine zp [11]<|zk 7 (qc yD)<|zn<|zE<| ?_
   simp only[zP,zI,Act.put,qPz,qPy,qP0];go_wp2;go_roundw
   case rel=>exact⟨1,za,rfl,rfl,zH H,zH ((b.out.trans (Upd.drew wr G)).trans u)⟩
   case measure=>simp only[intOf];omega
  ·rw[show((1:Nat):Int)=1 from rfl];go_wp2_with fail;have CF:=zH c0;have CW:=yP (wr.drew.cell? ⟨B,2,qx⟩=qw (qW zBn)) (zBi ZX.out).2.2.1;have r:=zH (qEt G 1 0 0 ⟨#[]⟩ wr.drew n.out);clear c0;refine zS [] (fun _=>True) [0,0,2,0,12,0,0,64,160,256,529,2047] 12<|zp [0,1,2,3,4,5,6,7,8,9]<|zk 48 (qV qj 1)<|zk 49 (zP A 0)<|zt 50 (qW ⟨#[110,104]⟩) (zl 9 49 (yh CF.out zf zf))<|zk 51 (qV qj 1)<|zk 52 (qV ql 104)<|zk 53 (qX (qw ⟨B,0,qx⟩) 3 3)<|zk 54 (qV qj 1)<|zk 55 (qV qj 2)<|zk 56 (zP B 2)<|zt 57 (qW zBn) (zl 9 56 (yh CW.out zf zf))<|zn<|zx 10 58 172 #[qY (qw ⟨G,0,qx⟩),qV qj 1,qV ql 104,qW zBn] r.out<| ?_
   rintro e w5 ⟨rfl,H,u⟩;refine⟨_,rfl,.inr (.inr trivial),?_⟩;refine zp [11]<|zk 7 (qc yD)<|zn<|zE<| ?_
   simp only[zP,zI,Act.put,qPz,qPy,qP0];go_wp2;go_roundw
   case rel=>exact⟨2,za,rfl,rfl,zH H,zH ((b.out.trans (Upd.drew wr G)).trans u)⟩
   case measure=>simp only[intOf];omega
  ·rw[show((2:Nat):Int)=2 from rfl];have c1:wr.cell? ⟨A,1,qx⟩=qw (.func (.func 211) #[qY (qw ⟨D,0,qx⟩)] #[]):=(zBi RX.out).2.1;have c2:wr.cell? ⟨A,2,qx⟩=qw (qc yE):=(zBi RX.out).2.2.1;have Z:D<w3.heap.size:=K3.out.lt;have KX:=yP (DK wr D a) ((b.out.old D Z (by have:=O.out;have:=d.out;omega)).trans K3.out);have c9:=KX.out.c9;have f9:=KX.out.fr 9;have UX:=yP (Upd w wr D) ⟨fun k h1 h2=>(b.out.old k (qQv h1 U3.out.below.size) (by have:=p.out;have:=d.out;omega)).trans (U3.out.old k h1 h2),U3.out.below.trans (b.out.below.mono (by have:=O.out;have:=d.out;omega))⟩;have V:=zH (qFd D a wr KX.out);have ag:AG wr G 1 0 0 zCb:=n.out;obtain⟨⟨g0,g1,g2,g3⟩,q0,q1,q2,q3⟩:=zDf ag;clear n b ag KX q0 q1 q2 q3;go_wp2_with fail;(with_reducible refine V.out.mono ?_);rintro e w6 ⟨rfl,k6,u6⟩;obtain⟨K6,U6⟩:=yQ k6 (UX.out.trans u6);clear k6 u6;go_wp2;go_ret;exact⟨rfl,K6.out,U6.out⟩
end Sh
namespace Sh
open Bt Zr Wg Ch Sq St Tn Bk Sm
def FRS (D B:Nat) (b c d a e f g h:qz):Act:=⟨#[(qY (qw ⟨D,0,qx⟩)),(qW zA5),yJ,yJ,(qW ⟨#[]⟩),(qX (qw ⟨B,0,qx⟩) 1 1),g,h,yJ,yJ,(qW zA5),(qc yE),(qc yE),(qW zA5),(qV ql 115),(qc yE),(qc yE),(qW zA5),(qX (qw ⟨B,0,qx⟩) 1 1),a,(qY (qw ⟨D,0,qx⟩)),b,(qX (qw ⟨B,0,qx⟩) 1 1),(qY (qw ⟨B,0,qx⟩)),c,d,e,f,yJ,yJ,yJ,yJ,yJ,yJ,yJ,yJ,yJ,yJ,yJ,yJ,yJ,yJ,yJ,yJ,yJ,yJ,yJ,yJ,yJ,yJ,yJ,yJ,yJ,yJ,yJ,yJ,yJ,yJ,yJ,yJ,yJ,yJ,yJ,yJ,yJ,yJ,yJ,yJ,yJ,yJ,yJ,yJ,yJ,yJ,yJ,yJ,yJ,yJ],[]⟩
theorem qG (D:Nat) (w:qy) (h:DK w D zC4) (q:HM w):
  yC yG 121 #[qY (qw ⟨D,0,qx⟩),qW zA5] w fun e w'=>e=qp (qW zJh)/\DK w' D zC4/\Upd w w' D:=by
 obtain⟨B,hB⟩:=zB w.heap.size;obtain⟨w1,d⟩:=zB (w.alloc (qm #[qW zA5] zAk));have F:yI w.heap.size w w1:=by rw[<-d];exact(yN _ _).alloc (qPq _) _
 have z1:w1.heap[B]? =qw (qm #[qW zA5] zAk):=by rw[<-d,<-hB];exact zAh w _
 obtain⟨p,HW,Z1,K1,U1⟩:=yT (zWs w q) d z1 (h.below F) (Upd.of_below F (qP6 h.lt));rw[d,hB]at p;have n:=yP (B<w1.heap.size) (by rw[<-hB];exact qQv (by rw[<-d,zA];omega) (qPq _));clear F h d z1 q;go_enter func121,ntmps121;go_wp2_with fail;(with_reducible refine p.out.mono ?_);rintro e w1 ⟨rfl,rfl⟩;go_wp2_with fail;refine zS [] (fun _=>True) MsD 12<|zu 0 20 (zP D 0)<|zu 2 22 (qX (qw ⟨B,0,qx⟩) 1 1)<|zu 3 23 (zP B 0)<| ?_
 refine Kit.At_.cast (a':=FRS D B yJ yJ yJ yJ yJ yJ yJ yJ) ?_ zf;refine Kit.qAo (fun L a wv=>∃X Y Z a3 a0 a1 s6 z,a=FRS D B X Y Z a3 a0 a1 s6 z/\IR D w1.heap.size [115,97,121] [] (met 216 D) yE w1 L wv X Y Z a3 a0 a1 s6 z) zf ?_ ?_ 9 LD _ _ ⟨_,_,_,_,_,_,_,_,rfl,zRb w1⟩ zf
 ·intro L a wv i m hI q hb a2;obtain⟨X,Y,Z,a3,a0,a1,s6,z,rfl,h⟩:=hI;have hi:i<12:=(qSj.1 q).1;have K:LD.testBit i=yE:=by
   cases e:LD.testBit i with
   |false=>rfl
   |true=>rw[h.pre i e]at hb;cases hb
  have hr:=zQj i hi K;clear hi K;simp only[zL8,qP7,qT8,or_false]at hr;rcases hr with rfl|rfl|rfl|rfl|rfl|rfl|rfl|rfl|rfl
  ·obtain rfl:(1:Nat)=m:=qPv q;refine⟨_,rfl,zf,zHy 171 #[qY (qw ⟨D,0,qx⟩)] zf (zQa D wv) ?_⟩;rintro e w2 ⟨M,es,c,rfl,hM,s,r,u⟩;exact⟨_,rfl,.inr (.inr trivial),.map (qw M),Y,Z,a3,a0,a1,s6,z,zf,ir1 h u (qP4 (qP4 h.le h.bl.size) hM) s r⟩
  ·obtain rfl:(8:Nat)=m:=qPv q;have hc:wv.cell? ⟨B,0,qx⟩=qw (qW zA5):=by simp[yM,(h.bl.block B n.out).trans Z1.out]
   refine⟨_,rfl,zf,zA9 (str [115,97,121]) (Kit.zM7 (t:=9) (x:= .tmp 23) rfl zf (yh (show _=qw (str [115,97,121])from hc) zf zf)) ⟨.inr (.inr trivial),X,str [115,97,121],Z,a3,a0,a1,s6,z,zf,ir4 h⟩⟩
  ·obtain rfl:(18:Nat)=m:=qPv q;obtain⟨M,es,c,rfl,hM,s,r⟩:=h.i1 (a2 1 zf) hb;obtain rfl:=h.i4 (a2 4 zf);refine⟨_,rfl,zf,zA9 (qZ #[row [] (met 216 D) yE,qc yD]) (look_eq (t:=zBt) (x:= .tmp 21) (y:= .tmp 24) rfl zf zf (zQ5 (i:=7) s r z8 rfl rfl)) ⟨.inr (.inr trivial),.map (qw M),str [115,97,121],qZ #[row [] (met 216 D) yE,qc yD],a3,a0,a1,s6,z,zf,ir5 h⟩⟩
  ·obtain rfl:(32:Nat)=m:=qPv q;obtain rfl:=h.i5 (a2 5 zf);refine⟨_,rfl,zf,zA9 (qZ #[row [] (met 216 D) yE,qc yD]) zf ⟨.inr (.inr trivial),X,Y,qZ #[row [] (met 216 D) yE,qc yD],qZ #[row [] (met 216 D) yE,qc yD],a0,a1,s6,z,zf,ir6 h⟩⟩
  ·obtain rfl:(64:Nat)=m:=qPv q;obtain rfl:=h.i6 (a2 6 zf);refine⟨_,rfl,zf,zA9 (row [] (met 216 D) yE) zf ⟨.inr (.inr trivial),X,Y,Z,qZ #[row [] (met 216 D) yE,qc yD],row [] (met 216 D) yE,a1,s6,z,zf,ir7 h⟩⟩
  ·obtain rfl:(64:Nat)=m:=qPv q;obtain rfl:=h.i6 (a2 6 zf);refine⟨_,rfl,zf,zA9 (qc yD) zf ⟨.inr (.inr trivial),X,Y,Z,qZ #[row [] (met 216 D) yE,qc yD],a0,qc yD,s6,z,zf,ir8 h⟩⟩
  ·obtain rfl:(0:Nat)=m:=qPv q;refine⟨_,rfl,zf,zA9 (w':=wv.alloc (qm #[qW ⟨#[]⟩,qg,qc yE] zEe)) (qY (qw ⟨wv.heap.size,0,qx⟩)) zf ⟨.inr (.inr trivial),X,Y,Z,a3,a0,a1,qY (qw ⟨wv.heap.size,0,qx⟩),z,zf,ir9 h hb⟩⟩
  ·obtain rfl:(767:Nat)=m:=qPv q;obtain⟨A,rfl,hA,S,_⟩:=h.i9 (a2 9 zf);obtain rfl:=h.i7 (a2 7 zf);obtain⟨w2,V,O,u⟩:=zWq (u':=str []) (v':=met 216 D) (x':=qc yE) (S hb) (by simp[Value.oneCell',str,met]);refine⟨_,rfl,zf,zQ1 (Kit.zHa (t:=zEe) (x:= .tmp 6) (y:= .tmp 26) rfl zf zf V) ⟨.inr (.inr trivial),X,Y,Z,a3,row [] (met 216 D) yE,a1,qY (qw ⟨A,0,qx⟩),z,zf,qFy h (a2 9 zf) (a2 5 zf) hA (u A (qPq _)) O⟩⟩
  ·obtain rfl:(2047:Nat)=m:=qPv q;obtain rfl:=h.i8 (a2 8 zf);refine⟨_,rfl,zf,zA9 (qc yD) zf ⟨.inr (.inr trivial),X,Y,Z,a3,a0,qc yD,s6,qc yD,zf,qFx h⟩⟩
 intro L ac wr hI a4;obtain⟨X,Y,Z,a3,a0,a1,s6,z,rfl,h⟩:=hI;obtain⟨A,rfl,rfl,rfl,rfl,rfl,rfl,rfl,hA,hz,j⟩:=zXq h (fun i hi=>a4 i hi);clear h a4;obtain⟨Z2,K2,U2⟩:=yR ((j.block B n.out).trans Z1.out) (K1.out.below j) (U1.out.trans (Upd.of_below j (qP6 K1.out.lt)));have H:=yP (D<A) (qQv K1.out.lt hA);have o:=yP (B<A) (qQv n.out hA);have RA:=zH hz;obtain⟨c0,c1,c2,f0,f1,f2⟩:=zBi hz;simp only[str]at c0;obtain⟨C1,C2⟩:=yQ c1 c2;clear c1 c2 f0 f1 f2 hz j Z1 K1 U1 n p HW hA;obtain⟨G,hG⟩:=zB wr.heap.size;obtain⟨w3,l⟩:=zB (wr.alloc (qm #[qV qj 0,qV qj 0,qV qj 0,qW ⟨#[]⟩] zJc));have g:yI wr.heap.size wr w3:=by rw[<-l];exact(yN _ _).alloc (qPq _) _
 have G3:=yP (AG w3 G 0 0 0 ⟨#[]⟩) (by rw[<-l,<-hG];exact zAh wr _);obtain⟨K3,U3,Z3,R3⟩:=yS (K2.out.below g) (U2.out.trans (Upd.of_below g (qP6 K2.out.lt))) (zAb Z2.out g) (zAb RA.out g);have b:=yP (A<G) (by rw[<-hG];exact zAd RA.out);obtain⟨N,HG⟩:=yQ l hG;clear hG l g K2 U2 Z2 RA C1 C2;simp only[FRS];go_wp2_with fail;clear c0;rw[HG.out,show wr.alloc (qm #[qV qj 0,qV qj 0,qV qj 0,qW ⟨#[]⟩] zJc)=w3 from N.out];go_loopw [7,9] (fun ov iv wx=>∃k:Nat,k<=0/\ov=qc yD/\iv=qV qj k/\yH (AK wx G k)/\yH (Upd w3 wx G)) (fun _ iv _=>0-(intOf iv).toNat)
 case atStart=>exact⟨0,za,rfl,rfl,zH G3.out,zH ⟨fun _ _ _=>rfl,yN _ _⟩⟩
 case round=>
  obtain⟨k,hk,rfl,rfl,I,f⟩:=hrel;have R:=zAd G3.out;obtain⟨RX,ZX⟩:=yQ ((f.out.old A (by have:=b.out;omega) (by have:=b.out;omega)).trans R3.out) ((f.out.old B (by have:=b.out;have:=o.out;omega) (by have:=b.out;have:=o.out;omega)).trans Z3.out);have c0:wr.cell? ⟨A,0,qx⟩=qw (qW ⟨#[]⟩):=by simp[yM,RX.out,str]
  clear R;obtain rfl:k=0:=za
  ·rw[show((0:Nat):Int)=0 from rfl];have c1:wr.cell? ⟨A,1,qx⟩=qw (.func (.func 216) #[qY (qw ⟨D,0,qx⟩)] #[]):=(zBi RX.out).2.1;have c2:wr.cell? ⟨A,2,qx⟩=qw (qc yE):=(zBi RX.out).2.2.1;have W:D<w3.heap.size:=K3.out.lt;have KX:=yP (DK wr D zC4) ((f.out.old D W (by have:=H.out;have:=b.out;omega)).trans K3.out);have c9:=KX.out.c9;have f9:=KX.out.fr 9;have UX:=yP (Upd w wr D) ⟨fun k h1 h2=>(f.out.old k (qQv h1 U3.out.below.size) (by have:=o.out;have:=b.out;omega)).trans (U3.out.old k h1 h2),U3.out.below.trans (f.out.below.mono (by have:=H.out;have:=b.out;omega))⟩;have P:=zH (qG5 D 0 0 0 ⟨#[]⟩ wr KX.out);have ag:AG wr G 0 0 0 ⟨#[]⟩:=I.out;obtain⟨⟨g0,g1,g2,g3⟩,q0,q1,q2,q3⟩:=zDf ag;clear I f ag KX q0 q1 q2 q3;go_wp2_with fail;(with_reducible refine P.out.mono ?_);rintro e w6 ⟨rfl,k6,u6⟩;obtain⟨K6,U6⟩:=yQ k6 (UX.out.trans u6);clear k6 u6;go_wp2;go_ret;exact⟨rfl,K6.out,U6.out⟩
end Sh
end Go.Proofs.YtppnakkaljbmbaaGreatDoor
