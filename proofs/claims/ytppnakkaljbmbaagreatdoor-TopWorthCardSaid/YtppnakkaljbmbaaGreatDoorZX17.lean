/- Steps of a proof; no condition beyond what each states. -/
import Derived.Test.YtppnakkaljbmbaaGreatDoorZX00
import Derived.Test.YtppnakkaljbmbaaGreatDoorZX16
set_option linter.unusedVariables false
set_option linter.unusedSimpArgs false
set_option maxRecDepth 100000
set_option maxHeartbeats 8000000
open List renaming length->kG
open Go.Proofs.YtppnakkaljbmbaaGreatDoor.Kit renaming Src->yZ,Own->yg
open Go.Proofs.YtppnakkaljbmbaaGreatDoor.Ch renaming one->xg
open Go.RowKit
open Go.Proofs.Tryz
open Go.Value renaming int->qV,slice->qX,pointer->qY,tuple->qZ,bool->qc
open Go.IntKind renaming i64->qj
open Go.Obj renaming cells->qm,deferred->qo
open Go.Ending renaming returned->qp
open Option renaming some->qw,none->qx
open Go renaming World->qy,Value->qz,TypeId->yA,Addr->yB,Calls->yC,undef->yJ
open Bool renaming true->yD,false->yE
open Decidable renaming decide->yF
open Go.Proofs.Tryz renaming prog->yG
open Go.RowKit renaming Hid->yH,Below->yI
open Go.RowKit.Below renaming refl->yN
namespace Go.Proofs.YtppnakkaljbmbaaGreatDoor
namespace Wg
open Hf Bt Zr Ix Front Ch
theorem zSe (x:Nat) (c:x<=1048576) (w:qy):
  yC yG 175 #[ival x] w fun e w'=>e=qp (qc ((fun _=>yE) x))/\w'=w:=by
 have a:decide ((x:Int)<0)=yE:=qP1 za;have b:decide ((1048576:Int)<(x:Int))=yE:=qP1 za;go_enter func175,ntmps175;go_wp2;go_ret;exact⟨rfl,rfl⟩
theorem zUe (l:List Nat) (a:Option yB) (n c:Nat) (w:qy) (f:kG l=n) (h:n<=1000000000) (g:yZ w a (l.map ival)) (d:∀x∈l,x<=1048576):
  yC yG 123 #[qX a n c] w fun e w'=>e=qp (qc yD)/\w'=w:=by
 have b:=zH (zE5 (fun _=>yE) l 175 a n c w f h g (zHw func175 rfl rfl) (fun x i=>zSe x (d x i) w));rw[any_false]at b;clear f g d;go_enter func123,ntmps123;go_wp2_with fail;(with_reducible refine b.out.mono ?_);rintro e w2 ⟨rfl,rfl⟩;go_wp2;go_ret;exact⟨rfl,rfl⟩
theorem zP6 {w:qy} {b off:Nat} {l:List Nat} (f:yZ w (qw ⟨b,off,qx⟩) (l.map ival)):∀j,j<kG (l.map (fun x:Nat=>(x:Int)))->w.cell? ⟨b,off+j,qx⟩=qw (qV qj ((l.map (fun x:Nat=>(x:Int))).getD j 0)):=by
 intro j e;have a:j<kG l:=by simpa using e
 obtain⟨b',g,c,d⟩:=f j (ival l[j]) (by rw[qP2,qPu a];rfl);injection c with c
 injection c with h1 h3 _
 subst h1 h3;rw[d,qPw,qP2,qPu a];rfl
theorem zO6 (l:List Nat) (a:Option yB) (n c:Nat) (w:qy) (u:kG l=n) (s:0<n) (t:n<=1000000) (k:yZ w a (l.map ival)):
  yC yG 101 #[qX a n c] w fun e w'=>∃G c',e=qp (qX (qw ⟨G,0,qx⟩) n c')/\yg w' w.heap.size 3 (qw ⟨G,0,qx⟩) n c' (l.map ival)/\yI w.heap.size w w':=by
 obtain⟨b,i,rfl,_⟩:=k 0 (ival l[0]) (by rw[qP2,qPu];rfl);have h:=slices_Clone_int b i n c (l.map fun x:Nat=>(x:Int)) w zq za (zP6 k);refine h.mono ?_;rintro e w' ⟨v',q,j,hne,p⟩;have m:((l.map fun x:Nat=>(x:Int)).take n).map (Value.int qj)=l.map ival:=by
  rw[qQg zq,qRr];rfl
 rw[m]at j;rcases j.2 with⟨o,_⟩|⟨g,d,f,hv,r⟩
 ·exact absurd o hne
 ·subst hv;exact⟨g,d,q,⟨j.1,.inr ⟨g,d,f,rfl,r⟩⟩,p⟩
theorem zKj (ws:List Nat) (a:Option yB) (n c most:Nat) (w:qy) (hn:kG ws=n) (h2:2<=n) (a3:n<=258) (hs:yZ w a (ws.map ival)) (a1:(xg ws).sum<=20000) (a2:∀x∈ws,x<=1048576) (a5:9<=most) (a6:most<=20)
  (a0:∀x∈lens (xg ws),x<=most):
  yC yG 44 #[qX a n c,qV qj (most:Int)] w fun e w'=>∃G,e=qp (qZ #[qX (qw ⟨G,0,qx⟩) n n,qV qj 0])/\w.heap.size<=G/\yZ w' (qw ⟨G,0,qx⟩) ((lens (xg ws)).map ival)/\zDj w' G/\yI w.heap.size w w':=by
 obtain⟨B,hB⟩:=zB w.heap.size;obtain⟨HW,H⟩:=yQ (zUe ws a n c w hn za hs a2) (zO6 ws a n c w hn za za hs);have j1:decide ((n:Int)<2)=yE:=qP1 za;have j2:decide ((258:Int)<(n:Int))=yE:=qP1 za;have j3:decide ((most:Int)<9)=yE:=qP1 za;have j4:decide ((20:Int)<(most:Int))=yE:=qP1 za;obtain⟨HN,S,X,N⟩:=yS hn a1 a0 hB;clear hn hs a1 a2 a0;rw[hB];rw[hB]at H;go_enter func44,ntmps44;go_wp2_with fail;(with_reducible refine HW.out.mono ?_);rintro e w2 ⟨rfl,rfl⟩;go_wp2_with fail;(with_reducible refine H.out.mono ?_);rintro e w3 ⟨G,c',rfl,t,P⟩;obtain⟨O3,B3⟩:=yQ t P;obtain⟨g0,b,W,_,a7,_,_⟩:=t.at_ za;injection b with b
 injection b with b _ _
 subst b;clear t P HW H hB;go_wp2;go_loopw [37] (fun iv wr=>∃(j:Nat) (l:List Nat),j<=n/\iv=qV qj j/\yH (kG l=n/\l.take j=(xg ws).take j/\l.drop j=ws.drop j)/\yH (yg wr B 3 (qw ⟨G,0,qx⟩) n c' (l.map ival))/\yH (yI B w2 wr)) (fun iv _=>n-(intOf iv).toNat)
 case atStart=>exact⟨0,ws,za,rfl,zH ⟨HN.out,zm,rfl⟩,O3,B3⟩
 case round=>
  clear O3 B3;obtain⟨j,l,hj,rfl,q,f,hb⟩:=hrel;by_cases m:j<n
  ·have i:j<kG l:=by rw[q.out.1];exact m
   have F:j<kG ws:=by rw[HN.out];exact m
   obtain⟨x,hx⟩:=zB (l[j]);have M:ws[j]=x:=by
    have Z:=q.out.2.2;rw[qSa i,qSa F]at Z;rw[<-hx];exact(List.cons.inj Z).1.symm
   obtain⟨g0,b,_,_,_,o,L⟩:=f.out.at_ za;injection b with b
   injection b with b _ _
   subst b;have x0:=o j m;rw[qP2,qPu i,qRs,hx]at x0;have f0:=L j;have g:=f.out.set j (ival (max x 1)) m;rw[<-List.map_set]at g;have k:(max (x:Int) 1)=((max x 1:Nat):Int):=za
   have HS:=zH g;have HL:=yP (kG (l.set j (max x 1))=n/\(l.set j (max x 1)).take (j+1)=(xg ws).take (j+1)/\(l.set j (max x 1)).drop (j+1)=ws.drop (j+1)) (by
    refine⟨by rw[qR1];exact q.out.1,?_,?_⟩
    ·have Y:j<kG (xg ws):=by rw[zHc];exact F
     rw[qQo (by rw[qR1];exact i),qQo Y,List.take_set_of_le (qPq _),q.out.2.1,List.getElem_set_self];congr 2;simp[xg,M]
    ·rw[List.drop_set_of_lt (qQ6 _)];have Z:=q.out.2.2;rw[qSa i,qSa F]at Z;exact(List.cons.inj Z).2)
   have HB:=zH (hb.out.setCell (p:=⟨G,j,qx⟩) W (ival (max x 1)));obtain⟨y,hy⟩:=zB (max x 1);rw[hy]at k HS HL HB;clear hx M o L g hy;go_wp2;go_roundw
   case rel=>exact⟨j+1,l.set j y,za,by go_num,HL,HS,HB⟩
   case measure=>simp only[intOf];omega
  ·obtain rfl:n=j:=za
   have V:l=xg ws:=by
    have Z:=q.out.2.1;rwa[qQg (by rw[q.out.1];omega),qQg (by rw[zHc,HN.out];omega)]at Z
   subst V;have HD:=zH (zVe (xg ws) (qw ⟨G,0,qx⟩) n c' wr q.out.1 h2 a3 f.out.src (one_pos ws) S.out);have I:=hb.out.size;go_wp2_with fail;(with_reducible refine HD.out.mono ?_);rintro e w5 ⟨G2,rfl,a4,u,K,O⟩;obtain⟨T5,S5,B5⟩:=yR K u (hb.out.trans (O.mono (by rw[<-N.out];exact I)));have R:B<=G2:=by rw[<-N.out];omega
   have d:kG ((lens (xg ws)).map fun x:Nat=>(x:Int))=n:=by rw[qQi,zC0,zHc,HN.out]
   have r:=slices_Max_int G2 0 n n ((lens (xg ws)).map fun x:Nat=>(x:Int)) w5 za (by rw[d];omega) za (zP6 u);rw[qQg (by rw[d];omega)]at r;have k:Lib.maxOf ((lens (xg ws)).map fun x:Nat=>(x:Int))<=(most:Int):=max_le (most:Int) _ (by intro h;rw[h]at d;simp at d;omega) (fun z hz=>by obtain⟨x,hx,rfl⟩:=qQf.1 hz;have:=X.out x hx;omega);obtain⟨mx,s⟩:=zB (Lib.maxOf ((lens (xg ws)).map fun x:Nat=>(x:Int)));rw[s]at r k;have HM:=zH r;have j5:decide ((most:Int)<mx)=yE:=qP1 za;clear u K O HD r s d k I;go_wp2;go_loopw [9] (fun ov wr=>ov=qX (qw ⟨G2,0,qx⟩) n n/\wr=w5) (fun _ _=>0)
   case atStart=>exact⟨rfl,rfl⟩
   case round=>
    obtain⟨rfl,rfl⟩:=hrel;go_wp2_with fail;(with_reducible refine HM.out.mono ?_);rintro e w6 ⟨rfl,rfl⟩;go_wp2;go_ret2;exact⟨G2,rfl,R,S5.out,T5.out,B5.out⟩
end Wg
namespace Ch
open Go.Shelf Front Bt Zr Rg
attribute [local go_sem] Oper.semAt_some
def CE (x:List Nat) (W:qy) (b:Array qz):Prop:=∃a,b= #[qX a (kG x) (kG x)]/\yZ W a (x.map ival)/\x≠[]/\kG x<=10
theorem zYf (b z:Nat) (a:Option yB) (n c:Nat) (l:List Nat) (hl:kG l=n) (hn:n<=1000000) (ai:n<=c) (C:Nat->Prop) (hC:¬C b) (a9:¬C z) (aa:∀p,a=qw p->¬C p.block) (W:qy) (a8:Boxed W b 23 (qX a n c)) (a7:Boxed W z 3 (qV qj 10)) (hs:yZ W a (l.map ival)):
  zR7 yG 160 #[qY (qw ⟨b,0,qx⟩),qY (qw ⟨z,0,qx⟩)] CE (fun A B=>∃n,B=A.drewN n) C (grp l) W:=by
 intro k0 J Jx hJ hY h0;refine qS6 func160 rfl trivial ?_ rfl;simp only[ntmps160,qQ0,qP3,qQx,Nat.reduceAdd,Nat.reduceSub,qQ9,qR,qRa,qRb,qQl,qQr];obtain⟨G,F,HS,y,HJ,HY,H0⟩:=yV a8 a7 hs hl hJ hY h0;clear a8 a7 hs hl hJ hY h0;gi_wp2;gi_loopw [4] (fun v wr=>∃(k i:Nat),i=10*k/\k<=kG (grp l)/\v=qV qj (i:Int)/\yH (Boxed wr b 23 (qX a n c))/\yH (Boxed wr z 3 (qV qj 10))/\yH (yZ wr a (l.map ival))/\yH (J ((grp l).take k) wr)) (fun v _=>n+10-(intOf v).toNat)
 case atStart=>exact⟨0,0,rfl,za,rfl,G,F,HS,H0⟩
 case round=>
  clear G F HS H0;obtain⟨k,i,f,hk,rfl,t,o,s,hj⟩:=hrel;have L:=zBx l;rw[y.out]at L;by_cases a2:i<n
  ·have P:i<kG l:=by rw[y.out];exact a2
   have hg:=zJy l k (by rw[y.out];omega);have N:k<kG (grp l):=za
   obtain⟨x,hx⟩:=zB ((l.drop (10*k)).take 10);rw[hx]at hg;obtain⟨e,q⟩:=zB (kG x);have H:e=min 10 (n-i):=by rw[<-q,<-hx,qQh,qQn,y.out,f]
   obtain⟨g,u,rfl,e0⟩:=s.out i (ival (l[i]'P)) (by rw[qP2,qPu P];rfl);have R:yZ wr (qw ⟨g,u+i,qx⟩) (x.map ival):=by
    rw[<-hx,f,qTx];exact(Src.drop s.out (10*k)).take 10
   have w:(grp l).take (k+1)=(grp l).take k++[x]:=by
    rw[qQo N];rw[qPu N]at hg;rw[qPv hg]
   have M:(grp l).take k++[x]<+:grp l:=by rw[<-w];exact List.take_prefix _ _
   have a1:=t.out.cell;have ab:=o.out.cell;obtain⟨HE,m,a0,X,I⟩:=yT q H R w M;have HX:=yP (x≠[]/\kG x<=10) (by rw[q];exact⟨by intro h;rw[h]at q;simp at q;omega,za⟩);clear hx hg q H R w M L;have af:i<c:=za
   have ah:min (10:Int) ((n-i:Nat):Int)=(e:Int):=by have:=m.out;omega
   have ag:i+e<=n:=by have:=m.out;omega
   have ad:i+e<=c:=za
   have ae:¬e=0:=by have:=m.out;omega
   have a6:=zH f;clear f;gi_wp2;gi_quiet (fail);have S:J ((grp l).take k) (wr.drewN nq):=HJ.out _ _ _ hj.out ⟨nq,rfl⟩;obtain⟨fn,tmps,assign,body,hy,hR⟩:=HY.out ((grp l).take k) x (wr.drewN nq) #[qX (qw ⟨g,u+i,qx⟩) e e] S ⟨qw ⟨g,u+i,qx⟩,by rw[HE.out],a0.out,HX.out⟩ I.out;have HR:=zH hR;clear hR S;gi_wp2;refine HR.out.mono ?_;rintro r W3 (⟨rfl,O,d⟩|⟨rfl,V⟩)
   ·obtain⟨Y,K,a5⟩:=yR (zIf (W:=wr.drewN nq) t.out d hC) (zIf (W:=wr.drewN nq) o.out d a9) (zP4 (W:=wr.drewN nq) s.out d aa);have a4:=yP (J ((grp l).take (k+1)) W3) (by rw[X.out];exact O);have ac:=K.out.cell;clear O d;gi_wp2;go_roundw
    case rel=>exact⟨k+1,i+10,by have:=a6.out;omega,za,by go_num,Y,K,a5,a4⟩
    case measure=>simp only[intOf];omega
   ·gi_wp2;refine qP5 (qSy rfl _ _ _) rfl ?_;exact⟨⟨_,rfl⟩,.inr ⟨_,I.out,V⟩⟩
  ·have a3:k=kG (grp l):=za
   have j:=hj.out;rw[a3,qTg]at j;have Z:=zH j;have a1:=t.out.cell;clear j;gi_wp2;go_end0;exact⟨⟨_,rfl⟩,.inl Z.out⟩
end Ch
namespace Hf
open Go.Shelf Front Bt
def dn (l:List Nat) (pre:List Nat) (n i s:Nat):Bool:=pre.contains (l.getD s 0)||(l.getD s 0==n&&yF (rank l s<i))
def gW (l:List Nat) (d:Nat->Bool) (j:Nat):qz:=if d (j/2)then(if j%2=0 then qV qj (l.getD (j/2) 0:Int)else qV .u64 (zB9 l (j/2):Int))else(if j%2=0 then qV qj 0 else qV .u64 0)
theorem zYs (l:List Nat) (n:Nat):(whose l n).Pairwise (·<·):=List.pairwise_lt_range.filter _
theorem zYt (l:List Nat) (n i:Nat) (hi:i<kG (whose l n)):(whose l n)[i]<kG l/\l.getD (whose l n)[i] 0=n/\rank l (whose l n)[i]=i:=by
 have b:=qQ hi;unfold whose at b;rw[qT0,qQm]at b;have e:l.getD (whose l n)[i] 0=n:=by
  have:=b.2;simpa [whose]using this
 have d:(whose l n)[i]<kG l:=by simpa [whose]using b.1
 refine⟨d,e,?_⟩;have a:=zDx l (whose l n)[i] d;rw[e]at a;have c:rank l (whose l n)[i]<kG (whose l n):=by
  rcases qP8 (rank l (whose l n)[i]) (kG (whose l n)) with h|h
  ·exact h
  ·rw[qQp h]at a;cases a
 rw[qPu c]at a;have g:=qPv a;have f:=qSf.1 (zYs l n);rcases qTn (rank l (whose l n)[i]) i with h|h|h
 ·have:=f _ _ c hi h;omega
 ·exact h
 ·have:=f _ _ hi c h;omega
theorem qD9 (l pre:List Nat) (n i b:Nat) (f:l.getD b 0=n) (g:rank l b=i) (j:b<kG l) (s:Nat) (k:s<kG l):dn l pre n (i+1) s=(dn l pre n i s||yF (s=b)):=by
 unfold dn;rw[qSg];simp only[qTu,qQ7,qSr,qRl];constructor
 ·rintro(h|⟨h,hr⟩)
  ·exact .inl (.inl h)
  ·by_cases e:rank l s<i
   ·exact .inl (.inr ⟨h,e⟩)
   ·right;have a:rank l s=i:=za
    have c:=zDx l s k;have d:=zDx l b j;rw[h,a]at c;rw[f,g,c]at d;exact qPv d
 ·rintro((h|⟨h,hr⟩)|h)
  ·exact .inl h
  ·exact .inr ⟨h,za⟩
  ·subst h;exact .inr ⟨f,za⟩
theorem qA8 (l pre:List Nat) (n s:Nat) (a:s<kG l):dn l pre n (cnt l n) s=dn l (pre++[n]) 0 0 s:=by
 unfold dn;rw[qSg];simp only[qTu,qQ7,qSr,qRl,List.contains_eq_mem,qSi,qRm];constructor
 ·rintro(h|⟨h,hr⟩)
  ·exact .inl (.inl h)
  ·exact .inl (.inr h)
 ·rintro((h|h)|⟨_,h⟩)
  ·exact .inl h
  ·refine .inr ⟨h,?_⟩;have:=zJn l s a;rwa[h]at this
  ·omega
theorem qD8 (l pre:List Nat) (n m s:Nat):dn l pre n 0 s=dn l pre m 0 s:=by unfold dn;simp
theorem qGa {l:List Nat} (h:Right l) (s:Nat) (a:s<kG l):dn l (lv l 1 20) 0 0 s=yD:=by
 unfold dn;have b:l.getD s 0=l[s]:=by simp[qPw,qPu a]
 have c:=h.one _ (qQ a);have e:=h.top _ (qQ a);have d:=zJn l s a;rw[b]at d⊢;have:l[s]∈lv l 1 20:=by
  unfold lv;rw[qT0];exact⟨List.mem_range'_1.2 ⟨c,za⟩,qP9 za⟩
 simp[this]
theorem qDx (l:List Nat) (j:Nat):gW l (dn l [] 0 0) j=if j%2=0 then qV qj 0 else qV .u64 0:=by
 unfold gW dn;simp
theorem qF4 (l:List Nat) (d:Nat->Bool) (a j:Nat):upd (upd (gW l d) (2*a) (qV qj (l.getD a 0:Int))) (2*a+1) (qV .u64 (zB9 l a:Int)) j=gW l (fun s=>d s||yF (s=a)) j:=by
 unfold upd gW;by_cases b:j=2*a+1
 ·subst b;rw[qPr rfl,show(2*a+1)/2=a by omega,show(2*a+1)%2=1 by omega];simp
 ·rw[qPt b];by_cases c:j=2*a
  ·subst c;rw[qPr rfl,show 2*a/2=a by omega,show 2*a%2=0 by omega];simp
  ·rw[qPt c];have:decide (j/2=a)=yE:=qP1 za;simp only[this,Bool.or_false]
theorem zU2 (w:qy) (l:List Nat) (n:Nat) (j:n<=100000):∃w',(Instr.makeSlice 184 (qV qj (n:Int)) (qV qj (n:Int))).run yG w= .ok (qX (qw ⟨w.heap.size,0,qx⟩) n n) w'/\
  Arr w' w.heap.size 188 (n*2) (gW l (dn l [] 0 0))/\yI w.heap.size w w'/\w'.heap.size=w.heap.size+1:=by
 have b:(prog.info? 188).map (fun i=>(i.zero,i.size,i.bytes))=qw (qw (.agg #[qV qj 0,qV .u64 0]),2,16):=zf
 obtain⟨i,hi,d,a,c⟩:=qR0 b;have f:=run_makeSlice (P:=yG) w 184 188 i _ underlying184 hi d qj qj (n:Int) (n:Int) za za (by rw[a];omega) (by rw[c];omega) za;refine⟨_,f,?_,(yN _ _).alloc (qPq _) _,zA _ _⟩;unfold Arr;have e:madeCells (Value.agg #[qV qj 0,qV .u64 0]).cells ((n:Int).toNat*i.size)=cellsOf (n*2) (gW l (dn l [] 0 0)):=by
  rw[a];show(Array.range (n*2)).map _=_;refine zDm (fun k g=> ?_);rw[qDx];show(#[Value.int qj 0,qV .u64 0]:Array qz)[k%2]! =_;rcases qT9 k with h|h<;>rw[h]<;>rfl
 rw[e];show(w.heap.push _)[w.heap.size]? =_;simp
end Hf
namespace Hf
open Go.Shelf Front Bt Zr Rg
variable {B G l n:Nat} {w0 w5 W:qy} {d:Nat->Bool} {t:yA} {o:Obj}
attribute [local go_sem] Oper.semAt_some
theorem zMg (a:Option yB) (n c:Nat) (w:qy):
  yC yG 109 #[qX a n c] w fun e w'=>e=qp (.func (.func 161) #[] #[qY (qw ⟨w.heap.size,0,qx⟩)])/\w.alloc (qm #[qX a n c] 23)=w':=by
 have f:∀(fn:Fn) (first b:Array qz) (w:qy),(Instr.makeFunc fn first b).run yG w= .ok (.func fn first b) w:=fun _ _ _ _=>rfl;go_enter func109,ntmps109;go_wp2;go_ret;exact⟨rfl,rfl⟩
structure WI (B G:Nat) (w0 w5:qy) (l:List Nat) (n:Nat) (d:Nat->Bool) (W:qy):Prop where
 arr:Arr W G 188 (n*2) (gW l d)
 out:Boxed W (G+1) 184 (qX (qw ⟨G,0,qx⟩) n n)
 below:yI B w0 W
 size:w5.heap.size<=W.heap.size
theorem WI.keep {W':qy} {l:List Nat} (h:WI B G w0 w5 l n d W) (a:yI W.heap.size W W') (b:B<=W.heap.size):WI B G w0 w5 l n d W':=
 ⟨(a.block G h.arr.lt).trans h.arr,(a.block (G+1) (Boxed.lt h.out)).trans h.out,h.below.trans (a.mono b),qP4 h.size a.size⟩
theorem qEc {g:Nat->qz} (h:Arr W B t n g) (c:Obj) (a:W.heap[l]? =qw o) (b:o.isCells=yE):Arr (W.putObj l c) B t n g:=by
 refine(World.putObj_heap_other ?_).trans h;rintro rfl;rw[show W.heap[B]? =_ from h]at a;obtain rfl:=qPv a;cases b
theorem zBl {a:Array qz} {f:Nat×Nat} (h:W.heap[B]? =qw (qm a t f)) (e:Obj) (b:W.heap[l]? =qw o) (c:o.isCells=yE):(W.putObj l e).heap[B]? =qw (qm a t f):=by
 refine(World.putObj_heap_other ?_).trans h;rintro rfl;rw[h]at b;obtain rfl:=qPv b;cases c
theorem WI.put {l0:List Nat} (h:WI B G w0 w5 l0 n d W) (a:Obj) (b:W.heap[l]? =qw o) (c:o.isCells=yE) (e:B<=l) (f:B<=W.heap.size):WI B G w0 w5 l0 n d (W.putObj l a):=
 ⟨qEc h.arr a b c,zA6 h.out a b c,zAu a h.below b e f,by rw[putObj_size];exact h.size⟩
theorem WI.congr {l:List Nat} {d':Nat->Bool} (h:WI B G w0 w5 l n d W) (e:∀s,s<n->d s=d' s):WI B G w0 w5 l n d' W:=
 ⟨h.arr.congr (fun k a=>by unfold gW;rw[e (k/2) za]),h.out,h.below,h.size⟩
def WJ (B G:Nat) (w0 w5:qy) (l:List Nat) (n:Nat) (a:Option yB) (c:Nat) (pre:List Nat) (k:Nat) (h:Array qz) (b:Act) (W:qy):Prop:=∃(g:Nat) (c' L:Nat) (e:Array qz) (f:Nat×Nat),
 h= #[.agg #[qV qj (k:Int),qV .u64 (first l k:Int),qX (qw ⟨g,0,qx⟩) (cnt l k) c']]/\b={tmps:= #[qX a n c,yJ,qX qx 0 0,qV qj 0,qV qj 0,qY (qw ⟨G+1,0,qx⟩),qY (qw ⟨L,0,qx⟩),yJ,yJ,qX a n c,qV qj 0,qV qj 0,qc yE,yJ,qX a n c,qV qj (n:Int),qX (qw ⟨G,0,qx⟩) n n,qX a n c,.func (.func 161) #[] #[qY (qw ⟨G+2,0,qx⟩)],.agg #[qV qj (k:Int),qV .u64 (first l k:Int),qX (qw ⟨g,0,qx⟩) (cnt l k) c'],yJ,yJ,yJ,yJ,yJ,yJ,yJ,yJ,yJ,yJ,yJ,yJ,yJ,yJ,yJ,yJ,yJ,yJ,yJ,yJ,yJ],defers:=[]}/\
 W.heap[L]? =qw (qm #[qV qj (k:Int),qV .u64 (first l k:Int),qX (qw ⟨g,0,qx⟩) (cnt l k) c'] 199)/\WI B G w0 w5 l n (dn l pre 0 0) W/\yZ W (qw ⟨g,0,qx⟩) ((whose l k).map ival)/\W.heap[g]? =qw (qm e 3 f)/\1<=k/\k<=20/\0<cnt l k
theorem zV7 (l:List Nat) (a:Option yB) (n c:Nat) (w:qy) (hn:kG l=n) (hs:yZ w a (l.map ival)) (ha:∀p,a=qw p->p.block<w.heap.size) (hr:Right l):
  yC yG 102 #[qX a n c] w fun e w'=>∃G,e=qp (qZ #[qX (qw ⟨G,0,qx⟩) n n,qV qj 0])/\w.heap.size<=G/\Arr w' G 188 (n*2) (gW l (dn l (lv l 1 20) 0 0))/\yI w.heap.size w w':=by
 have b2:∀(fn:Fn) (first ax:Array qz) (w:qy),(Instr.makeFunc fn first ax).run yG w= .ok (.func fn first ax) w:=fun _ _ _ _=>rfl;obtain⟨B,hB⟩:=zB w.heap.size;have ad:=hr.most;rw[hn]at ad;obtain⟨HC,HS,HN⟩:=yR (zCk l a n c w hn hs hr) hs hn;rw[hB]at ha;obtain⟨HA,HR⟩:=yQ ha hr;clear hs hn ha hr;rw[hB];refine(qQj (n:=3)).1 ?_;refine callsIn_of_wp_marks func102 rfl trivial ?_ rfl;simp only[ntmps102,qQ0,qP3,qQx,Nat.reduceAdd,Nat.reduceSub,qQ9,qR,qRa,qRb,qQl,qQr];gi_wp2_with fail;refine⟨trivial,(qQj.2 HC.out).mono ?_⟩;rintro e w2 ⟨rfl,M⟩;rw[hB]at M;have a6:B<=w2.heap.size:=by have:=M.size;omega
 obtain⟨w3,a3,O,R,N⟩:=zU2 w2 l n za;obtain⟨G,hG⟩:=zB w2.heap.size;rw[hG]at a3 O R N a6;obtain⟨w4,u⟩:=zB (w3.alloc (qm #[qX (qw ⟨G,0,qx⟩) n n] 184));have S:w4.heap.size=G+2:=by rw[<-u,zA,N]
 have a7:Arr w4 G 188 (n*2) (gW l (dn l [] 0 0)):=by
  rw[<-u];exact(Lib.alloc_old w3 _ G za).trans O
 have a5:Boxed w4 (G+1) 184 (qX (qw ⟨G,0,qx⟩) n n):=by
  have:=Boxed.new w3 184 (qX (qw ⟨G,0,qx⟩) n n);rw[u,N]at this;exact this
 obtain⟨w5,d⟩:=zB (w4.alloc (qm #[qX a n c] 23));have b6:w5.heap.size=G+3:=by rw[<-d,zA,S]
 have A5:=yP (Arr w5 G 188 (n*2) (gW l (dn l [] 0 0))) (by rw[<-d];exact(Lib.alloc_old w4 _ G za).trans a7);have O5:=yP (Boxed w5 (G+1) 184 (qX (qw ⟨G,0,qx⟩) n n)) (by rw[<-d];exact a5.alloc _);have X5:=yP (Boxed w5 (G+2) 23 (qX a n c)) (by
  have:=Boxed.new w4 23 (qX a n c);rw[d,S]at this;exact this)
 have B5:=yP (yI B w w5) (by
  rw[<-d,<-u];exact((M.trans (R.mono a6)).alloc za _).alloc zq _)
 have HL:=zH (zMg a n c w4);rw[S,d]at HL;clear O R a7 a5 M d HC;gi_wp2_with fail;clear a3 u;refine⟨trivial,(qQj.2 HL.out).mono ?_⟩;rintro e w6 ⟨rfl,rfl⟩;clear HL;gi_wp2;refine zL9 (gf:=161) (lb:= #[qY (qw ⟨G+2,0,qx⟩)]) rfl (enters_of func161 zf rfl)
  (LE l) (fun A B=>yI A.heap.size A B) (fun k _=>k=G) (lv l 1 20)
  (fun A D h=>⟨h.size,fun k o y _=>(h.block k (zAd y)).trans y⟩)
  (fun _ _ _ h=>by obtain⟨a,c,rfl,_⟩:=h;rfl)
  (fun x W k o o' vs y z h=>by
   obtain⟨a,c,h1,h2,⟨g,cs,f,h3,h4⟩,h5⟩:=h;exact⟨a,c,h1,zG9 h2 o' y z,⟨g,cs,f,h3,zBl h4 o' y z⟩,h5⟩)
  (fun W hW=>zMf (G+2) a n c l HN.out HR.out _ za (fun p hp h=>by have:=HA.out p hp;omega) W (fun k y h=>by have:=hW.size;omega) (zAp X5.out (hW.block _ za)) ((HS.out.below (by rw[hB];exact B5.out)).below hW))
  (fun pre W=>WI B G w w5 l n (dn l pre 0 0) W)
  (fun _ _ _=>False)
  (fun pre W k o o' y z av hi=>hi.put o' z av za (by have:=hi.size;omega))
  (fun _ _ _ _ _ _ _ _ _ h=>h)
  (fun pre A D hi z=>hi.keep z (by have:=hi.size;omega))
  (fun o o'=>⟨(Lib.alloc_old _ o' G (by rw[zA];omega)).trans ((Lib.alloc_old w5 o G za).trans A5.out),(O5.out.alloc o).alloc o',(B5.out.alloc za o).alloc zq o',zq⟩)
  (WJ B G w w5 l n a c)
  (fun pre x vs ac W k o o' y z av h=>by
   obtain⟨g,c',L,cs,f,h1,h2,h3,h4,h5,h6,h7⟩:=h;exact⟨g,c',L,cs,f,h1,h2,zBl h3 o' z av,h4.put o' z av za (by have:=h4.size;omega),zG9 h5 o' z av,zBl h6 o' z av,h7⟩)
  ?assign ?body ?done ?stop
 case assign=>
  rintro k pre x W vs K aj hi ⟨a',c',rfl,H,⟨g,cs,f,rfl,hg⟩,h1,h2,h3⟩ hK;obtain⟨F,hF⟩:=zB (first l x);obtain⟨m,hm⟩:=zB (cnt l x);obtain⟨Wc,a1⟩:=zB (W.alloc (qm #[qV qj (x:Int),qV .u64 (F:Int),qX (qw ⟨g,0,qx⟩) m c'] 199));have b:yI W.heap.size W Wc:=by rw[<-a1];exact(yN _ _).alloc (qPq _) _
  have hX:Wc.heap[W.heap.size]? =qw (qm #[qV qj (x:Int),qV .u64 (F:Int),qX (qw ⟨g,0,qx⟩) m c'] 199):=by
   rw[<-a1];show(W.heap.push _)[W.heap.size]? =_;simp
  have a9:=fun ac=>hK ac Wc ⟨b.size,fun k o y _=>(b.block k (zAd y)).trans y⟩ (Sc.below b);have Y:=H.below b;have a0:=hi.keep b (by have:=hi.size;omega);have ab:=(b.block g (zAd hg)).trans hg;have Z:=zH (fun ac h=>a9 ac ⟨g,c',W.heap.size,cs,f,rfl,h,by rw[hF,hm];exact hX,a0,Y,ab,h1,h2,h3⟩);rw[hF,hm]at Z⊢;clear hK a9 hi H hg hX Y a0 ab b;gi_wp2;exact Z.out _ rfl
 case body=>
  rintro k pre x W vs ac aj ⟨g,c',L,cs,f,rfl,rfl,hL,hi,H,hg,h1,h2,h3⟩ ay;obtain⟨F,hF⟩:=zB (first l x);obtain⟨m,hm⟩:=zB (cnt l x);have an:L≠G:=by rintro rfl;have:=hi.arr;unfold Arr at this;rw[hL]at this;injection this with this;injection this with _ this _;exact absurd this z8
  have af:g≠G:=by rintro rfl;have:=hi.arr;unfold Arr at this;rw[hg]at this;injection this with this;injection this with _ this _;exact absurd this z8
  have aa:kG (whose l x)=m:=hm;have ag:=HR.out.zEs x h2;have b3:2^x<=2^20:=qR8 za za;rw[hF,hm]at hL ag⊢;have HI:=zH hi;have am:=yP (∃I,W.heap[G]? =qw (qm I 188)) ⟨_,hi.arr⟩;obtain⟨aq,az,ai,HF,HM,ar⟩:=yU H hg hL hF hm aa;obtain⟨y0,y1,y2,_⟩:=cells3 hL;clear hi H hg hL hF hm aa;obtain⟨wo,rfl⟩:∃wo:qy,wo=W:=⟨_,rfl⟩;gi_wp2;clear y0 y1 y2;gi_loopw [23] (fun iv wr=>∃i:Nat,i<=m/\iv=qV qj (i:Int)/\yH (WI B G w w5 l n (dn l pre x i) wr)/\yH (∀k,k≠G->wr.heap[k]? =wo.heap[k]?)/\wr.heap.size=wo.heap.size) (fun iv _=>m-(intOf iv).toNat)
  case atStart=>exact⟨0,za,rfl,zH (HI.out.congr (fun s _=>qD8 l pre 0 x s)),zH (fun _ _=>rfl),rfl⟩
  case round=>
   clear HI;obtain⟨i,b1,rfl,hi,r,ah⟩:=hrel;by_cases ak:i<m
   ·have X:i<kG (whose l x):=by rw[ar.out];exact ak
    obtain⟨q1,q2,q3⟩:=zYt l x i X;obtain⟨q,P⟩:=zB ((whose l x)[i]);rw[P]at q1 q2 q3;obtain⟨g',off,V,e0⟩:=aq.out i (ival q) (by rw[qP2,qPu X,P];rfl);injection V with V
    injection V with e1 e2 _
    subst e1 e2;have ao:wr.cell? ⟨g,0+i,qx⟩=qw (ival q):=by rw[qRe (w:=wo) (a:=⟨g,0+i,qx⟩) (r.out g af)];exact e0
    rw[qQc]at ao;obtain⟨y0,y1,y2,_⟩:=cells3 ((r.out L an).trans ai.out);have yo:=hi.out.out.cell;have b4:q<n:=by rw[<-HN.out];exact q1
    have x0:=hi.out.arr.cell (q*2) za;have x1:=hi.out.arr.cell (q*2+1) za;have f0:=hi.out.arr.free (q*2);have f1:=hi.out.arr.free (q*2+1);obtain⟨u0,a4⟩:=zB (gW l (dn l pre x i) (q*2));obtain⟨u1,a8⟩:=zB (gW l (dn l pre x i) (q*2+1));rw[a4]at x0;rw[a8]at x1;have a2:zB9 l q=F+i:=by unfold zB9;rw[q2,q3,HF.out]
    have au:=yP (Arr ((wr.setCell ⟨G,q*2,qx⟩ (qV qj (x:Int))).setCell ⟨G,q*2+1,qx⟩ (qV .u64 ((F:Int)+(i:Int)))) G 188 (n*2) (gW l (dn l pre x (i+1)))) (by
     refine((hi.out.arr.set (q*2) (qV qj (x:Int))).set (q*2+1) (qV .u64 ((F:Int)+(i:Int)))).congr (fun j hj=> ?_);have:=qF4 l (dn l pre x i) q j;rw[q2,a2,qTq,qRo 2 q]at this;rw[this];unfold gW;rw[qD9 l pre x i q q2 q3 q1 (j/2) (by rw[HN.out];omega)])
    have b5:(wr.setCell ⟨G,q*2,qx⟩ (qV qj (x:Int))).cell? ⟨G,q*2+1,qx⟩=qw u1:=by
     rw[qQe _ _ _ _ (by intro e;injection e with _ e2 _;omega)];exact x1
    have b0:(wr.setCell ⟨G,q*2,qx⟩ (qV qj (x:Int))).frozen? ⟨G,q*2+1,qx⟩=yE:=by rw[qSx];exact f1
    have j1:IntKind.u64.wrap (i:Int)=(i:Int):=qSh _ ⟨za,za⟩;clear P a4 a8 a2 e0 x1 f1 q1 q2 q3 X;gi_wp2;go_roundw
    case rel=>
     refine⟨i+1,za,by go_num,zH ⟨au.out,(zAa za).trans ((zAa za).trans hi.out.out),(hi.out.below.setCell (p:=⟨G,q*2,qx⟩) za _).setCell (p:=⟨G,q*2+1,qx⟩) za _,by simp[World.setCell];exact hi.out.size⟩,zH (fun k y=>(zAa y).trans ((zAa y).trans (r.out k y))),by simp[World.setCell];exact ah⟩
    case measure=>simp only[intOf];omega
   ·obtain rfl:i=m:=za
    gi_wp2;have ap:∀(k:Nat) (o:Obj),wo.heap[k]? =qw o->o.isCells=yE->wr.heap[k]? =qw o:=fun k o y z=>by
     rw[r.out k]
     ·exact y
     ·rintro rfl;have:=hi.out.arr;have h2:=zAd y;obtain⟨I,ae⟩:∃I,wo.heap[k]? =qw (qm I 188):=am.out;rw[ae]at y;obtain rfl:=qPv y;cases z
    refine⟨⟨za,ap⟩,⟨za,fun k cs t f y hne=>by rw[r.out k hne];exact y⟩,?_⟩;refine hi.out.congr (fun s hs=> ?_);rw[<-HM.out,qA8 l pre x s (by rw[HN.out];exact hs)]
 case done=>
  rintro D W hD hi hK;have yo:=hi.out.cell;have HI:=zH hi;clear hi;gi_wp2;refine⟨zm,.inl ⟨_,_,rfl,run_takeDeferred hK,?_⟩⟩;have h2:=HI.out.put (qo qx) hK rfl za (by have:=HI.out.size;omega);refine⟨qZ #[qX (qw ⟨G,0,qx⟩) n n,qV qj 0],by simp[results,f102,go_sem],⟨G,rfl,za,h2.arr,h2.below⟩⟩
 case stop=>
  rintro D c pre W _ _ h _;exact h.elim
end Hf
namespace Ch
open Go.Shelf Front Bt Zr Rg Hf
variable {w w0 W:qy} {D l n c E k B:Nat} {e:yA} {xs vs:List qz} {o:Obj} {p:Option yB} {gs pre:List (List Nat)}
attribute [local go_sem] Oper.semAt_some
abbrev TL_:yA:=23
theorem qFj:Kit.One yG 60 TL_ 24:=⟨underlying60,qX qx 0 0,zf,rfl⟩
theorem zTo {a:Option yB} (h:yg w D e a n c xs) (t:Obj) (q:w.heap[l]? =qw o) (s:o.isCells=yE):yg (w.putObj l t) D e a n c xs:=by
 obtain⟨m,i⟩:=h;refine⟨m,?_⟩;rcases i with i|⟨g,f,b,hv,d,j,r⟩
 ·exact .inl i
 ·refine .inr ⟨g,f,b,hv,d,?_,r⟩;rw[World.putObj_heap_other]
  ·exact j
  ·rintro rfl;rw[q]at j;obtain rfl:=qPv j;cases s
structure Gr (w:qy) (D:Nat) (p:Option yB) (k c:Nat) (vs:List qz) (gs:List (List Nat)):Prop where
 own:yg w D TL_ p k c vs
 len:kG gs=k
 each:∀(i:Nat) (g:List Nat),gs[i]? =qw g->∃(G c':Nat),vs[i]? =qw (Value.slice (qw ⟨G,0,qx⟩) (kG g) c')/\kG g<=c'/\yg w D 3 (qw ⟨G,0,qx⟩) (kG g) c' (g.map ival)
theorem Gr.start (w:qy) (D:Nat):Gr w D qx 0 0 [] []:=⟨Kit.Own.start _ _ _,rfl,fun i g h=>by simp at h⟩
theorem Gr.below {w':qy} (h:Gr w D p k c vs gs) (b:yI E w w') (a:w.heap.size<=E):Gr w' D p k c vs gs:=
 ⟨h.own.below b a,h.len,fun i g hi=>by obtain⟨G,c',d,f,j⟩:=h.each i g hi;exact⟨G,c',d,f,j.below b a⟩⟩
theorem Gr.put (h:Gr w D p k c vs gs) (a:Obj) (b:w.heap[l]? =qw o) (d:o.isCells=yE):Gr (w.putObj l a) D p k c vs gs:=
 ⟨zTo h.own a b d,h.len,fun i g hi=>by obtain⟨G,c',f,j,m⟩:=h.each i g hi;exact⟨G,c',f,j,zTo m a b d⟩⟩
theorem zXc {g:Nat} (h:yg w D e (qw ⟨g,0,qx⟩) n c xs):D<=g/\∃a f,w.heap[g]? =qw (qm a e f):=by
 rcases h.2 with⟨b,_⟩|⟨g',j,m,hv,d,i,_⟩
 ·cases b
 ·injection hv with hv _ _
  injection hv with hv
  injection hv with hv
  subst hv;exact⟨d,_,_,i⟩
theorem Gr.base (h:Gr w D p k c vs gs) (a:E<=D):Gr w E p k c vs gs:=
 ⟨h.own.base a,h.len,fun i g hi=>by obtain⟨G,c',b,d,f⟩:=h.each i g hi;exact⟨G,c',b,d,f.base a⟩⟩
theorem Gr.set {i:Nat} (h:Gr w D p k c vs gs) (m:B<D) (v:qz):Gr (w.setCell ⟨B,i,qx⟩ v) D p k c vs gs:=by
 have b:∀{e:yA} {a:Option yB} {n c:Nat} {xs:List qz},yg w D e a n c xs->yg (w.setCell ⟨B,i,qx⟩ v) D e a n c xs:=fun h=>zD4 h m v;exact⟨b h.own,h.len,fun i g hi=>by obtain⟨G,c',d,f,j⟩:=h.each i g hi;exact⟨G,c',d,f,b j⟩⟩
theorem Gr.app {G c':Nat} {g:List Nat} (h:Gr w D p k c vs gs) (hg:yg w D 3 (qw ⟨G,0,qx⟩) (kG g) c' (g.map ival)) (hc:kG g<=c') (hk:k<=100000) (hD:D<=w.heap.size):
  ∃H c2 w',(Builtin.append_ #[60,60] 60 #[qX p k c,qX (qw ⟨w.heap.size,0,qx⟩) 1 1]).run yG (w.alloc (qm #[qX (qw ⟨G,0,qx⟩) (kG g) c'] TL_))= .ok (qX H (k+1) c2) w'/\
   Gr w' D H (k+1) c2 (vs++[qX (qw ⟨G,0,qx⟩) (kG g) c']) (gs++[g])/\yI D w w'/\(∀b,b<w.heap.size->(∀K f,w.heap[b]?≠qw (qm K TL_ f))->w'.heap[b]? =w.heap[b]?):=by
 have N:=h.own.alloc (qm #[qX (qw ⟨G,0,qx⟩) (kG g) c'] TL_);obtain⟨H,c2,w',Z,h2,I⟩:=N.app (ty:=60) qFj (qw ⟨w.heap.size,0,qx⟩) 1 1 [qX (qw ⟨G,0,qx⟩) (kG g) c'] (Kit.zAs w _ TL_) rfl (fun h=>by cases h) (by intro u O;simp at O;subst O;rfl) (by unfold maxLen;omega) za (by rw[zA];omega);have M:yI w.heap.size w (w.alloc (qm #[qX (qw ⟨G,0,qx⟩) (kG g) c'] TL_)):=(yN _ _).alloc (qPq _) _;have d:=h.own.len;have ne:∀{t y:Nat} {x:List Nat},yg w D 3 (qw ⟨t,0,qx⟩) (kG x) y (x.map ival)->(Value.slice (qw ⟨t,0,qx⟩) (kG x) y).ownBlock≠Value.ownBlock (qX p k c):=fun{t y x} F e=>by
  obtain⟨_,K,f,n⟩:=zXc F;have z:(Value.slice p k c).ownBlock=qw t:=by rw[<-e];rfl
  obtain⟨_,q⟩:=h.own;rcases q with⟨q,_⟩|⟨g',o,m,hv,_,a,_⟩
  ·injection q with q _ _
   subst q;simp[Value.ownBlock]at z
  ·injection hv with ha _ _
   subst ha;simp[Value.ownBlock]at z;subst z;rw[n]at a;injection a with a
   injection a with _ a _
   exact absurd a z8
 have P:∀{t y:Nat} {x:List Nat},yg w D 3 (qw ⟨t,0,qx⟩) (kG x) y (x.map ival)->yg w' D 3 (qw ⟨t,0,qx⟩) (kG x) y (x.map ival):=fun F=>qRy (F.alloc (qm #[qX (qw ⟨G,0,qx⟩) (kG g) c'] TL_)) I (.inr (ne F));refine⟨H,c2,w',Z,⟨h2,by rw[qPx,h.len];rfl,fun i x hi=> ?_⟩,?_,fun b S V=> ?_⟩
 ·rcases qP8 i (kG gs) with j|l
  ·rw[qR6 j]at hi;obtain⟨t,y,z,X,Y⟩:=h.each i x hi;exact⟨t,y,by rw[qR6 (by rw[d,<-h.len];exact j)];exact z,X,P Y⟩
  ·rw[qS4 l]at hi;have r:i-kG gs=0:=by
    rcases qQy (i-kG gs)with L|L
    ·exact L
    ·rw[qQp zq]at hi;cases hi
   rw[r]at hi;simp at hi;subst hi;have s:i=kG gs:=za
   subst s;exact⟨G,c',by rw[qS4 (by rw[d,h.len];exact qPq _),d,h.len,Nat.sub_self];rfl,hc,P hg⟩
 ·exact(M.mono hD).trans (Kit.zAq I (by rw[zA];omega) (fun b R=>N.block b R))
 ·refine(I.block b (by rw[zA];omega) (fun e=> ?_)).trans (M.block b S);obtain⟨_,q⟩:=h.own;rcases q with⟨q,_⟩|⟨g',o,m,hv,_,a,_⟩
  ·injection q with q _ _
   subst q;simp[Value.ownBlock]at e
  ·injection hv with ha _ _
   subst ha;simp[Value.ownBlock]at e;subst e;exact V _ _ a
theorem zYg (a:Option yB) (n c:Nat) (w:qy):
  yC yG 100 #[qX a n c,qV qj 10] w fun e w'=>e=qp (.func (.func 160) #[] #[qY (qw ⟨w.heap.size,0,qx⟩),qY (qw ⟨w.heap.size+1,0,qx⟩)])/\(w.alloc (qm #[qX a n c] TL_)).alloc (qm #[qV qj 10] 3)=w':=by
 have d:∀(fn:Fn) (first b:Array qz) (w:qy),(Instr.makeFunc fn first b).run yG w= .ok (.func fn first b) w:=fun _ _ _ _=>rfl;go_enter func100,ntmps100;go_wp2;go_ret;exact⟨rfl,rfl⟩
structure GI (B:Nat) (w0:qy) (pre:List (List Nat)) (W:qy):Prop where
 h:∃p k c vs,Boxed W B 60 (qX p k c)/\Gr W (B+3) p k c vs pre
 below:yI B w0 W
 size:B+3<=W.heap.size
theorem GI.put (h:GI B w0 pre W) (a:Obj) (b:W.heap[l]? =qw o) (d:o.isCells=yE) (m:B<=l):GI B w0 pre (W.putObj l a):=by
 obtain⟨⟨p,k,c,vs,f,g⟩,i,j⟩:=h;exact⟨⟨p,k,c,vs,zA6 f a b d,g.put a b d⟩,zAu a i b m za,by rw[putObj_size];exact j⟩
theorem GI.draw (h:GI B w0 pre W) (n:Nat):GI B w0 pre (W.drewN n):=by
 obtain⟨⟨p,k,c,vs,b,a⟩,d,f⟩:=h;exact⟨⟨p,k,c,vs,b,⟨a.own,a.len,a.each⟩⟩,below_drewN d n,f⟩
theorem GI.grow {W':qy} (h:GI B w0 pre W) (a:yI W.heap.size W W'):GI B w0 pre W':=by
 obtain⟨⟨p,k,c,vs,d,f⟩,b,g⟩:=h;exact⟨⟨p,k,c,vs,zAp d (a.block B za),f.below a (qPq _)⟩,b.trans (a.mono (by have:=b.size;omega)),qP4 g a.size⟩
theorem zH8 (m:List Nat) (a:Option yB) (n c:Nat) (w:qy) (hn:kG m=n) (aj:n<=100000) (af:n<=c) (hs:yZ w a (m.map ival)) (ha:∀p,a=qw p->p.block<w.heap.size):
  yC yG 29 #[qX a n c] w fun e w'=>∃p c' vs,e=qp (qX p (kG (grp m)) c')/\Gr w' w.heap.size p (kG (grp m)) c' vs (grp m)/\yI w.heap.size w w':=by
 obtain⟨B,hB⟩:=zB w.heap.size;obtain⟨W1,s⟩:=zB (w.alloc (qm #[qX qx 0 0] 60));have z1:W1.heap.size=B+1:=by rw[<-s,zA,hB]
 have b1:yI B w W1:=by rw[<-s,<-hB];exact(yN _ _).alloc (qPq _) _
 have x0:Boxed W1 B 60 (qX qx 0 0):=by rw[<-s,<-hB];exact Boxed.new w _ _
 have HQ:=zH (zYg a n c W1);obtain⟨W2,d⟩:=zB (W1.alloc (qm #[qX a n c] TL_));obtain⟨W3,g⟩:=zB (W2.alloc (qm #[qV qj 10] 3));have z2:W2.heap.size=B+2:=by rw[<-d,zA,z1]
 have z3:W3.heap.size=B+3:=by rw[<-g,zA,z2]
 have b2:yI (B+1) W1 W2:=by rw[<-d,<-z1];exact(yN _ _).alloc (qPq _) _
 have b3:yI (B+2) W2 W3:=by rw[<-g,<-z2];exact(yN _ _).alloc (qPq _) _
 have y1:Boxed W3 (B+1) TL_ (qX a n c):=by
  refine zAp ?_ (b3.block _ za);rw[<-d,<-z1];exact Boxed.new _ _ _
 have y2:Boxed W3 (B+2) 3 (qV qj 10):=by rw[<-g,<-z2];exact Boxed.new _ _ _
 have I:yI B w W3:=(b1.trans (b2.mono za)).trans (b3.mono za);have y0:Boxed W3 B 60 (qX qx 0 0):=zAp (zAp x0 (b2.block _ za)) (b3.block _ za);rw[z1,d,g]at HQ;obtain⟨K0,Y1,Y2,S3⟩:=yS (GI.mk (B:=B) (w0:=w) (pre:=[]) ⟨qx,0,0,[],y0,Gr.start _ _⟩ I za) y1 y2 (hs.below (by rw[hB];exact I));have HA:=yP (∀p,a=qw p->¬(p.block=B\/B+3<=p.block)) (fun p hp h=>by have:=ha p hp;omega);obtain⟨HN,HZ⟩:=yQ hn z3;clear hn hs ha z1 z2 z3 b1 b2 b3 I x0 y0 y1 y2 d g;rw[hB];refine(qQj (n:=3)).1 ?_;refine callsIn_of_wp_marks func29 rfl trivial ?_ rfl;simp only[ntmps29,qQ0,qP3,qQx,Nat.reduceAdd,Nat.reduceSub,qQ9,qR,qRa,qRb,qQl,qQr];gi_wp2_with fail;clear s;refine⟨trivial,(qQj.2 HQ.out).mono ?_⟩;rintro e w4 ⟨rfl,rfl⟩;clear HQ hB;gi_wp2;refine zDt (gf:=160) (lb:= #[qY (qw ⟨B+1,0,qx⟩),qY (qw ⟨B+2,0,qx⟩)]) rfl (enters_of func160 zf rfl)
  CE (fun A B=>∃n,B=A.drewN n) (fun k=>k=B\/B+3<=k) (grp m) zKr (fun _ _ _ h=>by obtain⟨a,rfl,_⟩:=h;rfl) (fun x W k o o' vs y ho h=>by
   obtain⟨a,h1,h2,h3⟩:=h;exact⟨a,h1,zG9 h2 o' y ho,h3⟩)
  (fun W hW=>zYf (B+1) (B+2) a n c m HN.out za af _ za za HA.out W (zAp Y1.out (hW.block _ (by rw[HZ.out];omega))) (zAp Y2.out (hW.block _ (by rw[HZ.out];omega))) (S3.out.below hW))
  (GI B w)
  (fun _ _ _=>False)
  (fun pre W k o o' y ho ae hi=>hi.put o' ho ae (by rw[HZ.out]at y;omega))
  (fun _ _ _ _ _ _ _ _ _ h=>h)
  (fun pre A D hi ho=>by obtain⟨m,rfl⟩:=ho;exact hi.draw m)
  (fun o o'=>(K0.out.grow ((yN _ _).alloc (qPq _) o)).grow ((yN _ _).alloc (qPq _) o'))
  (fun vs=>{tmps:= #[qX a n c,yJ,qY (qw ⟨B,0,qx⟩),vs.getD 0 yJ,qX a n c,.func (.func 160) #[] #[qY (qw ⟨B+1,0,qx⟩),qY (qw ⟨B+2,0,qx⟩)],vs.getD 0 yJ,yJ,yJ,yJ,yJ,yJ,yJ],defers:=[]}) ?assign ?body ?done ?stop
 case assign=>
  rintro k x W vs K ⟨i,rfl,_⟩ hK;gi_wp2;exact hK
 case body=>
  rintro k pre x W vs ak hi ⟨a',rfl,Z,M,ag⟩ a2;obtain⟨⟨p,q,c',us,hv,z⟩,R,hz⟩:=hi;have hq:q<=100000:=by
   have h1:=z.len;obtain⟨r,hr⟩:=a2;have h2:=qPs List.length hr;rw[qPx,qPx,zBx,HN.out]at h2;simp at h2;omega
  obtain⟨ac,HV,HG,a9⟩:=yS (Wg.zO6 x a' (kG x) (kG x) W.drew rfl (qSn.2 M) za Z) hv z R;have S:=hv.cell;have a3:=zH (qSn.2 M);clear hv z R Z M;gi_wp2;refine Kit.zKq zf zf ?_;refine Kit.zP2 [4,5] (fun W9=>Boxed W9 B 60 (qX p q c')) [0,0,2,4,13,31] 6 zf zf zf zf ?_;refine zy 0 7 (qX p q c') (fun w hS=>zl 60 2 (Kit.zAg hS.cell zf zf)) HV.out<|zp [1]<|zk 8 (qX a' (kG x) (kG x))<|zn<|zx 2 9 101 #[qX a' (kG x) (kG x)] ac.out<| ?_
  rintro e w5 ⟨G,cc,rfl,L,Y⟩;have b:yI W.heap.size W w5:=(show yI W.heap.size W W.drew from(yN _ _).drew).trans Y;have l:Boxed w5 B 60 (qX p q c'):=zAp HV.out (b.block B za);have a0:=HG.out.below b (qPq _);have N:=L.base (B':=B+3) hz;obtain⟨g1,ai,_,_,a8,_,_⟩:=L.at_ a3.out;obtain⟨p2,c2,w6,X,V,u,O⟩:=a0.app N a8 hq (by have:=b.size;omega);have F:Boxed w6 B 60 (qX p q c'):=zAp l (O B (by have:=b.size;omega) (fun cs f e=>by rw[show w5.heap[B]? =_ from l]at e;injection e with e;injection e with _ e _;exact absurd e z8));have st6:=Kit.zDs F.cell F.frozen (P:=yG) (t:=60) (v:=qX p2 (q+1) c2) zf rfl rfl;obtain⟨a4,ad⟩:=yQ X st6;have a5:=yP (Boxed (w5.alloc (qm #[qX (qw ⟨G,0,qx⟩) (kG x) cc] TL_)) B 60 (qX p q c')) (l.alloc _);refine⟨_,rfl,.inr (.inr l),?_⟩;refine zo 3 10 (qX (qw ⟨w5.heap.size,0,qx⟩) 1 1) zf (.inr (.inr (a5.out)))<|zo 4 11 (qX p2 (q+1) c2) (Kit.zHb (.tmp 7) (.tmp 10) 60 rfl zf zf a4.out) (.inr (.inl zf))<|zw 5 qx (zr 60 2 11 (ad.out)) (.inr (.inl zf))<|zE<| ?_
  simp only[zP,zI,Act.put,qPz,qPy,qP0];rw[show ∀(Q:Exit->Act->qy->Prop) (a:Act) (w:qy),Kit.zDy Q .normal a w=Q .normal a w from fun _ _ _=>rfl];obtain⟨w7,j⟩:=zB (w6.setCell ⟨B,0,qx⟩ (qX p2 (q+1) c2));have am:=b.size;have an:=u.size;have K7:=yP (KeepsOthers W w7) (by
   rw[<-j];refine KeepsOthers.trans (B:=w6) ⟨za,fun k o y ho=> ?_⟩ (KeepsOthers.setCell _ _ _);have a6:=zAd y;have h5:=(b.block k a6).trans y;refine(O k (zAd h5) (fun cs f e=> ?_)).trans h5;rw[h5]at e;injection e with e
   subst e;cases ho)
  have S7:=yP (Sb (fun k=>k=B\/B+3<=k) W w7) (by
   rw[<-j];refine⟨by simp[World.setCell];omega,fun k cs t f y hc=> ?_⟩;rw[zAa (by intro e;exact hc (.inl e)),u.block k za];exact(b.block k (zAd y)).trans y)
  have I7:=yP (GI B w (pre++[x]) w7) (by
   rw[<-j];exact⟨⟨p2,q+1,c2,_,F.set _,V.set za _⟩,((a9.out.trans (b.mono za)).trans (u.mono za)).setCell (p:=⟨B,0,qx⟩) (qPq _) _,by simp[World.setCell];omega⟩)
  rw[j];clear j l F st6 X V u O a0 L N Y b S;gi_wp2;exact⟨K7.out,S7.out,I7.out⟩
 case done=>
  rintro D W hD ⟨⟨p,k,c',vs,hv,z⟩,ab,hz⟩ hK;have a1:=z.len;subst a1;have S:=hv.cell;have ah:=hv.frozen;obtain⟨HV,HG⟩:=yQ hv z;clear hv z;gi_wp2;have H:=(KeepsOthers.setCell W ⟨B,0,qx⟩ (qX p (kG (grp m)) c')).same D _ hK rfl;refine⟨zm,.inl ⟨_,_,rfl,run_takeDeferred H,?_⟩⟩;have a7:Boxed (W.setCell ⟨B,0,qx⟩ (qX p (kG (grp m)) c')) B 60 (qX p (kG (grp m)) c'):=HV.out.set _;have aa:=(zA6 a7 (qo qx) H rfl).cell;refine⟨qX p (kG (grp m)) c',?_,p,c',vs,rfl,?_,?_⟩
  ·simp[results,f29,go_sem,aa]
  ·exact((HG.out.set za _).put (qo qx) H rfl).base za
  ·exact zAu _ (ab.setCell (p:=⟨B,0,qx⟩) (qPq _) _) H (by rw[HZ.out]at hD;omega) (by simp[World.setCell];omega)
 case stop=>
  rintro D c pre W _ _ h _;exact h.elim
end Ch
namespace Ch
open Front Bt Zr Ix Hf
theorem qA (x n B:Nat) (c:x<n) (w:qy) (h:w.cell? ⟨B,0,qx⟩=qw (qV qj (n:Int))):
  yC yG 154 #[ival x,qY (qw ⟨B,0,qx⟩)] w fun e w'=>e=qp (qc ((fun _=>yE) x))/\w'=w:=by
 have a:decide ((x:Int)<0)=yE:=qP1 za;have b:decide (n<=x)=yE:=qP1 za;go_enter func154,ntmps154;go_wp2;go_ret;exact⟨rfl,rfl⟩
theorem zTr (l:List Nat) (a:Option yB) (k c n:Nat) (w:qy) (j:kG l=k) (p:k<=1000000000) (m:yZ w a (l.map ival)) (i:∀x∈l,x<n):
  yC yG 83 #[qX a k c,qV qj (n:Int)] w fun e w'=>e=qp (qc yE)/\yI w.heap.size w w':=by
 have r:∀(fn:Fn) (first f:Array qz) (w:qy),(Instr.makeFunc fn first f).run yG w= .ok (.func fn first f) w:=fun _ _ _ _=>rfl;obtain⟨W,h⟩:=zB (w.alloc (qm #[qV qj (n:Int)] 3));have b:yI w.heap.size w W:=by rw[<-h];exact(yN _ _).alloc (qPq _) _
 have d:W.cell? ⟨w.heap.size,0,qx⟩=qw (qV qj (n:Int)):=by rw[<-h];simp
 obtain⟨B,o⟩:=zB w.heap.size;rw[o]at d;have g:=zH (zO3 (fun _=>yE) l 154 (qY (qw ⟨B,0,qx⟩)) a k c W j p (m.below b) (zHw func154 rfl rfl) (fun x q=>qA x n B (i x q) W d));rw[any_false]at g;have HB:=zH b;clear j m i d b;go_enter func83,ntmps83;go_wp2_with fail;(with_reducible refine g.out.mono ?_);rintro e w2 ⟨rfl,rfl⟩;go_wp2;go_ret;exact⟨rfl,HB.out⟩
theorem zYb (t g:List Nat) (s:Nat):cost t (g++[s])=cost t g+t.getD s 0:=by unfold cost;rw[qQd,List.sum_append];simp
theorem zT6 (t:List Nat) (a:∀x∈t,x<=20):∀g:List Nat,cost t g<=20*kG g
 |[]=>qPq _
 |s::g=>by
  have b:=zT6 t a g;have h:t.getD s 0<=20:=by
   rw[qPw];cases h:t[s]? with
   |none=>simp
   |some x=>exact a x (qSt h)
  show t.getD s 0+cost t g<=_;rw[qP3];omega
theorem zRy (t g:List Nat) (a:Option yB) (n c:Nat) (I:Option yB) (k c2:Nat) (w:qy) (M:kG t=n) (O:yZ w a (t.map ival)) (N:Right t) (L:kG g=k) (a1:k<=10000) (y:yZ w I (g.map ival)) (K:∀x∈g,x<n):
  yC yG 84 #[qX a n c,qX I k c2] w fun e w'=>e=qp (qZ #[qV qj (cost t g:Int),qV qj 0])/\yI w.heap.size w w':=by
 obtain⟨R,V,HS,G,HN,S,Z,HR⟩:=yX (zCk t a n c w M O N) (fun W (hb:yI w.heap.size w W)=>zTr g I k c2 n W L za (y.below hb) K) O y M L K N;clear O y M L K N;go_enter func84,ntmps84;go_wp2_with fail;(with_reducible refine R.out.mono ?_);rintro e w2 ⟨rfl,h⟩;obtain⟨p,P⟩:=yQ (V.out w2 h) h;clear h V R;go_wp2_with fail;(with_reducible refine p.out.mono ?_);rintro e w3 ⟨rfl,r⟩;have z:=zH (P.out.trans (r.mono P.out.size));clear r p;go_wp2;go_loopw [4,20] (fun nv iv wr=>∃j:Nat,j<=k/\iv=qV qj j/\nv=qV qj (cost t (g.take j):Int)/\wr=w3) (fun _ iv _=>k-(intOf iv).toNat)
 case atStart=>exact⟨0,za,rfl,rfl,rfl⟩
 case round=>
  obtain⟨j,hj,rfl,rfl,rfl⟩:=hrel;by_cases B:j<k
  ·have i:j<kG g:=by rw[S.out];exact B
   obtain⟨s,f⟩:=zB (g[j]);have F:s<n:=by rw[<-f];exact Z.out _ (qQ i)
   have o:s<kG t:=by rw[HN.out];exact F
   obtain⟨b2,o2,rfl,e0⟩:=(G.out.below z.out) j (ival s) (by rw[qP2,qPu i,f];rfl);obtain⟨b1,o1,rfl,e1⟩:=(HS.out.below z.out) s (ival t[s]) (by rw[qP2,qPu o];rfl);have m:g.take (j+1)=g.take j++[s]:=by rw[qQo i,f]
   have b:=zYb t (g.take j) s;rw[<-m,qPw,qPu o]at b;have l:=zT6 t HR.out.top (g.take (j+1));rw[qQh]at l;obtain⟨u,Y⟩:=zB (t[s]);rw[Y]at e1 b;obtain⟨q,X⟩:=zB (cost t (g.take j));rw[X]at b⊢;have d:cost t (g.take (j+1))=q+u:=b;have H:=zH d;rw[d]at l;have a0:q+u<=200000:=za
   clear m b d Y X f l;go_wp2;go_roundw
   case rel=>exact⟨j+1,za,by go_num,by rw[H.out];go_num,trivial⟩
   case measure=>simp only[intOf];omega
  ·obtain rfl:k=j:=za
   have HT:=yP (g.take k=g) (qQg (by rw[S.out];omega));go_wp2;go_ret2;exact⟨by rw[HT.out];rfl,z.out⟩
end Ch
end Go.Proofs.YtppnakkaljbmbaaGreatDoor
