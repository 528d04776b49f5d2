/- Steps of a proof; no condition beyond what each states. -/
import Derived.Test.YtppnakkaljbmbaaGreatDoorZU07
set_option linter.unusedVariables false
set_option linter.unusedSimpArgs false
set_option maxRecDepth 100000
set_option maxHeartbeats 8000000
namespace Go.Proofs.YtppnakkaljbmbaaGreatDoor
namespace Front
open Go.RowKit
open Kit (zAe)
theorem zJj (w:World) (p:Option Addr) (l:List Value) (h:l=[]):Kit.Src w p l:=by subst h;exact Kit.Src.nil w p
theorem zHn {a s:T} {w w':World} {e:Ending} (h:zR6 a s w e w'):
  ∃A n cp p m c,e= .returned (.tuple #[.agg #[.slice A n cp,.slice p m c],.int .i64 (codeF a s)])/\n=(zN a s).length/\m=(zFw a s).length/\Kit.Src w' A ((zN a s).map zAe)/\Kit.Src w' p ((zFw a s).map ival)/\Below w.heap.size w w'/\(p=none->c=0)/\AdF p m c:=by
 obtain⟨hb,⟨h1,rfl⟩|⟨h1,h2,rfl⟩|⟨h1,h2,g,cp,p,c,rfl,hby,hsrc,hpn,had⟩⟩:=h
 ·have hc:=zYd a s h1
  have e1:=zQn a s (by rw[hc];decide)
  have e2:=zQl a s (by rw[hc];decide)
  exact⟨none,0,0,none,0,0,by rw[hc],by rw[e1];rfl,by rw[e2];rfl,zJj _ _ _ (by rw[e1];rfl),zJj _ _ _ (by rw[e2];rfl),hb,fun _=>rfl,.inl ⟨rfl,rfl,rfl⟩⟩
 ·have hc:=zVg a s h1 h2
  have e1:=zQn a s (by rw[hc];decide)
  have e2:=zQl a s (by rw[hc];decide)
  exact⟨none,0,0,none,0,0,by rw[hc],by rw[e1];rfl,by rw[e2];rfl,zJj _ _ _ (by rw[e1];rfl),zJj _ _ _ (by rw[e2];rfl),hb,fun _=>rfl,.inl ⟨rfl,rfl,rfl⟩⟩
 ·have hc:=zRr a s h1 h2
  have e1:=qCz a s hc
  have e2:=zQm a s hc
  exact⟨_,a.length,cp,p,s.length,c,by rw[hc],by rw[e1,zKp s a h2],by rw[e2,zDi],by rw[e1];exact hby.src,by rw[e2];exact hsrc,hb,hpn,had⟩
theorem zMo (a s:ByteArray) (ha:a.size<=1000) (hs:s.size<=1000) (w:World):
  Calls Tryz.prog 21 #[.string a,.string s] w (fun e w'=>∃p c,e= .returned (.tuple #[.slice p (zFw a.data.toList s.data.toList).length c,.int .i64 (codeF a.data.toList s.data.toList)])/\Kit.Src w' p ((zFw a.data.toList s.data.toList).map ival)/\Below w.heap.size w w'/\(p=none->c=0)/\AdF p (zFw a.data.toList s.data.toList).length c):=by
 go_enter Tryz.func21,Tryz.ntmps21
 go_wp2_with fail
 refine(zHo a s ha hs w).mono ?_
 intro e w1 h
 obtain⟨A,n,cp,p,m,c,rfl,hn,hm,h1,h2,hb,hpn,had⟩:=zHn h
 have H2:=zH h2
 have HAD:=zH (show AdF p (zFw a.data.toList s.data.toList).length c by rw[<-hm];exact had)
 have HM:=zH hm
 have HPN:=zH hpn
 clear h h1 h2 hn hm hpn had
 have hlt:=hb.size
 go_wp2
 go_ret2
 exact⟨p,c,by rw[<-HM.out];rfl,H2.out.below ((Below.refl _ _).alloc (Nat.le_refl _) _),hb.alloc hlt _,HPN.out,HAD.out⟩
end Front
namespace Front
open Go.RowKit
open Kit (zAe)
abbrev qAp (x:Int):Value:= .int .i64 x
def zSb (a:T) (l:List Int) (w:World) (e:Ending) (w':World):Prop:=
 e= .returned (.tuple #[.string ⟨(zIv a l).toArray⟩,.int .i64 (zC3 a l)])/\Below w.heap.size w w'
theorem qE4 {w:World} {p:Option Addr} {l:List Int} (h:Kit.Src w p (l.map qAp)) (k:Nat) (hk:k<l.length):∃b off,p=some ⟨b,off,none⟩/\b<w.heap.size/\w.cell? ⟨b,off+k,none⟩=some (.int .i64 l[k]):=by
 obtain⟨b,off,ha,hc⟩:=h k (qAp l[k]) (by rw[List.getElem?_map,List.getElem?_eq_getElem hk];rfl)
 exact⟨b,off,ha,block_lt_of_cell hc,hc⟩
theorem one_byte:Kit.One Tryz.prog 109 5 1:=⟨Tryz.underlying109,.int .u8 0,by kernel_rfl,rfl⟩
theorem zO5 (a:T) (l:List Int) (k:Nat) (hk:k<l.length) (hr:right a=true) (h:¬(0<=l[k]/\l[k]<(a.length:Int))):zC3 a l=5:=by
 refine zVh a l hr ?_
 rw[Bool.eq_false_iff]
 intro h2
 exact h ((zNo _ _).1 h2 _ (List.getElem_mem hk))
structure Bak (w:World) (b g n cp B:Nat) (l:T) (v:Value) (out:T):Prop where
 byt:Byt w g l
 len:l.length=n
 ncp:n<=cp
 cpm:cp<=maxLen
 gB:g<B
 bB:b<B
 ne:g≠b
 BB:B<=w.heap.size
 bytes:w.cell? ⟨b,0,none⟩=some (.slice (some ⟨g,0,none⟩) n cp)
 out:∃a c,v= .slice a out.length c/\Kit.Own w B 5 a out.length c (out.map zAe)
theorem zLq (a:ByteArray) (ha:a.size<=1000) (p:Option Addr) (c n:Nat) (l:List Int) (hl:l.length=n) (hn:n<=100000) (w:World) (hsrc:Kit.Src w p (l.map qAp)):
  Calls Tryz.prog 38 #[.string a,.slice p n c] w (zSb a.data.toList l w):=by
 have HSRC:=zH hsrc
 clear hsrc
 go_enter Tryz.func38,Tryz.ntmps38
 go_wp2_with fail
 refine(zGf a (by unfold maxLen;omega) _).mono ?_
 rintro e w1 ⟨rfl,b1⟩
 by_cases hr:right a.data.toList=true
 ·rw[hr]
  have HR:=zH hr
  have HL:=zH hl
  clear hr hl
  have hcv:=run_bytes_of_string (P:=Tryz.prog) w1 9 109 5 a Tryz.underlying9 Tryz.underlying109 Tryz.underlying5
  have hge:=grownCap_ge w1 a.size 0 5
  have hle:=grownCap_le_maxLen w1 a.size 0 5 (by unfold maxLen;omega)
  have hby:=Byt.new w1 a (grownCap w1 a.size 0 5) 5
  obtain⟨cp,hcp⟩:=zB (grownCap w1 a.size 0 5)
  rw[hcp]at hcv hge hle hby
  obtain⟨wB,hB⟩:=zB (w1.drew.alloc (.cells (bytesRow a cp) 5 ((bytesRow a cp).size,(bytesRow a cp).size+1)))
  rw[hB]at hcv hby
  have hsz2:wB.heap.size=w1.heap.size+1:=by
   rw[<-hB]
   show(w1.heap.push _).size=_
   rw[Array.size_push]
  have hs1:=b1.size
  have hbB:Below w.heap.size w wB:=by rw[<-hB];exact b1.drew.alloc hs1 _
  obtain⟨wC,hC⟩:∃wC,wC=wB.alloc (.cells #[.slice (some ⟨w1.heap.size,0,none⟩) a.size cp] 150):=⟨_,rfl⟩
  have hszC:wC.heap.size=w1.heap.size+2:=by
   rw[hC]
   show(wB.heap.push _).size=_
   rw[Array.size_push];omega
  have hbC:Below w.heap.size w wC:=by rw[hC];exact hbB.alloc (by omega) _
  have hbyC:Byt wC w1.heap.size a.data.toList:=by rw[hC];exact hby.grown (World.grownBy_alloc _ _ none) (by simp)
  have hC0:wC.cell? ⟨w1.heap.size+1,0,none⟩=some (.slice (some ⟨w1.heap.size,0,none⟩) a.size cp):=by rw[hC,<-hsz2];simp
  obtain⟨i,hi,hz0,hz1,hz2⟩:=info_parts (show(Tryz.prog.info? 5).map (fun i=>(i.zero,i.size,i.bytes))=some (some (.int .u8 0),1,1)from by kernel_rfl)
  obtain⟨wD,hmk,howD,hgD⟩:=run_make_own (P:=Tryz.prog) (w:=wC) (w1.heap.size+2) 109 5 i _ 1 Tryz.underlying109 hi hz0 hz1 .i64 .i64 n (by rw[hz2];omega) (by unfold maxLen;omega) (by omega)
  rw[hszC]at hmk howD
  have hbak:Bak wD (w1.heap.size+1) w1.heap.size a.size cp (w1.heap.size+2) a.data.toList (.slice (some ⟨w1.heap.size+2,0,none⟩) 0 n) []:={
   byt:=hbyC.grown hgD (by simp),len:=zAl a,ncp:=hge,cpm:=hle,gB:=by omega,bB:=by omega,ne:=by omega
   BB:=by have:=hgD.size;omega
   bytes:=cell_grown hgD hC0 (by simp)
   out:=⟨_,_,rfl,howD⟩}
  have hbD:Below w.heap.size w wD:=hbC.trans ((Below.refl _ _).grown hgD (by omega) (fun k hk=>by cases hk))
  have HBAK:=zH hbak
  have HGE:=zH hge
  have HLE:=zH hle
  clear hbak hbyC hC0 hi hz0 hz1 hz2 howD hgD hbC hbB hby hcp hge hle
  have hbs:w1.heap.size+1<w1.heap.size+2:=by omega
  subst hC
  go_wp2
  clear hmk hcv hB hszC hsz2
  go_loopw [7,21] (fun v i wr=>∃k:Nat,k<=n/\i= .int .i64 k/\RowKit.Hid (Bak wr (w1.heap.size+1) w1.heap.size a.size cp (w1.heap.size+2) (unf a.data.toList (zBs (l.take k))) v (unp a.data.toList (zBs (l.take k))))/\RowKit.Hid (inR a.data.toList.length (l.take k)=true)/\Below w.heap.size w wr) (fun _ i _=>n-(intOf i).toNat)
  case atStart=>exact⟨0,by omega,rfl,HBAK,zH rfl,hbD⟩
  case round=>
   obtain⟨k,hk,rfl,ht,hin,hb⟩:=hrel
   by_cases hlt:k<n
   ·have hkl:k<l.length:=by rw[HL.out];exact hlt
    obtain⟨b0,off,rfl,hbl,hcell⟩:=qE4 HSRC.out k hkl
    have hcw:_:=hb.cell (p:=⟨b0,off+k,none⟩) hbl
    rw[hcell]at hcw
    have hcb:=ht.out.bytes
    obtain⟨x,hx⟩:=zB (l[k])
    rw[hx]at hcell hcw
    have HX:=zH hx
    clear hx
    by_cases hneg:x<0
    ·have h5:=zO5 a.data.toList l k hkl HR.out (by rw[HX.out];omega)
     have h6:=zK7 a.data.toList l (by rw[h5];decide)
     have H5:=zH h5
     have H6:=zH h6
     clear h5 h6
     go_wp2
     go_ret2
     exact⟨by rw[H5.out,H6.out];rfl,hb⟩
    ·obtain⟨q,rfl⟩:=Int.eq_ofNat_of_zero_le (show 0<=x by omega)
     by_cases hbig:q<a.size
     ·have hulen:(unf a.data.toList (zBs (l.take k))).length=a.size:=by
       rw[zLz _ _ (qC8 _ _ hin.out),zAl]
      obtain⟨y,hy⟩:=zB ((unf a.data.toList (zBs (l.take k))).getD q 0)
      have HY:=zH hy
      have HUL:=zH hulen
      clear hy hulen
      go_wp2_with fail
      refine(zPy _ w1.heap.size a.size cp (unf a.data.toList (zBs (l.take k))) q HUL.out (by omega) HGE.out HLE.out ht.out.byt).mono ?_
      rintro e w2 ⟨rfl,hby2,hg2⟩
      rw[HY.out]
      obtain⟨oa,oc,rfl,hown⟩:=ht.out.out
      have hown2:=zIx hown hg2 (by omega)
      have hz2:=hg2.size
      have hzz:=ht.out.BB
      have hol:(unp a.data.toList (zBs (l.take k))).length<=100000:=by rw[zLx];unfold zBs;rw[List.length_map,List.length_take];omega
      obtain⟨a3,c3,w3,hr3,ho3,hg3⟩:=Kit.Own.app (ty:=109) (w:=w2.alloc (.cells #[.int .u8 (y.toNat:Int)] 5)) one_byte (hown2.alloc _) (some ⟨w2.heap.size,0,none⟩) 1 1 [zAe y] (Kit.zAs w2 _ 5) rfl (fun h=>by cases h) (Kit.zG [y]) (by unfold maxLen;omega) (by omega) (by simp;omega)
      have hnb:∀q,q<w1.heap.size+2->some q≠(Value.slice oa (unp a.data.toList (zBs (l.take k))).length oc).ownBlock:=fun q hq e=>by have:=(hown.block) q e.symm;omega
      have hul2:(bring (unf a.data.toList (zBs (l.take k))) q).length=a.size:=by rw[zD6 _ _ (by rw[HUL.out];omega),HUL.out]
      have hz3:=hg3.size
      have hbak3:Bak w3 (w1.heap.size+1) w1.heap.size a.size cp (w1.heap.size+2) (bring (unf a.data.toList (zBs (l.take k))) q) (.slice a3 ((unp a.data.toList (zBs (l.take k))).length+1) c3) (unp a.data.toList (zBs (l.take k))++[y]):={
       byt:=(hby2.grown (World.grownBy_alloc w2 _ none) (by simp)).grown hg3 (hnb _ (by omega)),len:=hul2,ncp:=HGE.out,cpm:=HLE.out,gB:=by omega,bB:=by omega,ne:=by omega
       BB:=by simp at hz3;omega
       bytes:=cell_grown hg3 (cell_grown (World.grownBy_alloc w2 _ none) (cell_grown hg2 hcb (by intro e;injection e with e;simp at e)) (by simp)) (hnb _ (by omega))
       out:=⟨a3,c3,by rw[List.length_append];rfl,by rw[List.length_append,List.map_append];exact ho3⟩}
      have hbel3:Below w.heap.size w w3:=hb.trans ((zCi hg2 hs1 (by omega)).trans (((Below.refl _ _).alloc (by omega) _).trans ((Below.refl _ _).grown hg3 (by simp;omega) (fun q hq=>by have:=hown.block q hq;omega))))
      have hstep:RowKit.Hid (unf a.data.toList (zBs (l.take (k+1)))=bring (unf a.data.toList (zBs (l.take k))) q/\unp a.data.toList (zBs (l.take (k+1)))=unp a.data.toList (zBs (l.take k))++[y]/\inR a.data.toList.length (l.take (k+1))=true):=by
       have e:l.take (k+1)=l.take k++[(q:Int)]:=by rw[List.take_succ_eq_append_getElem hkl,HX.out]
       refine zH ⟨?_,?_,?_⟩
       ·rw[e,zOp,zY2];rfl
       ·rw[e,zOp,zY0,<-HY.out];rfl
       ·rw[e,qAr,hin.out,Bool.true_and,decide_eq_true_eq,zAl];omega
      have HB3:=zH hbak3
      have HBL:=zH hbel3
      clear hbak3 hbel3 ho3 hg3 hown hown2 hby2 hg2 hnb hul2 hcw hcb hol hb
      go_wp2_with (at_builtin;refine Kit.zAr rfl (.tmp 34) (.tmp 38) 109 rfl rfl rfl hr3 ?_)
      go_roundw
      case rel=>
       refine⟨k+1,by omega,by go_num,?_,zH hstep.out.2.2,HBL.out⟩
       rw[hstep.out.1,hstep.out.2.1]
       exact HB3
      case measure=>simp[intOf];omega
     ·have h5:=zO5 a.data.toList l k hkl HR.out (by rw[HX.out,zAl];omega)
      have h6:=zK7 a.data.toList l (by rw[h5];decide)
      have H5:=zH h5
      have H6:=zH h6
      clear h5 h6
      go_wp2
      go_ret2
      exact⟨by rw[H5.out,H6.out];rfl,hb⟩
   ·obtain rfl:k=n:=by omega
    have hfull:l.take k=l:=List.take_of_length_le (by rw[HL.out];omega)
    rw[hfull]at ht hin
    have hc0:=zRs a.data.toList l HR.out hin.out
    have hre:=zTj a.data.toList l hc0
    have HC:=zH hc0
    have HE:=zH hre
    obtain⟨oa,oc,rfl,hown⟩:=ht.out.out
    have hcv2:=hown.src.text (P:=Tryz.prog) (src:=109) (dst:=9) (e:=5) (c:=oc) rfl Tryz.underlying109 Tryz.underlying5 Tryz.underlying9
    clear hfull hc0 hre hown
    go_wp2
    go_ret2
    exact⟨by rw[HC.out,HE.out];rfl,hb⟩
 ·rw[Bool.not_eq_true]at hr
  rw[hr]
  have hc:=zYe a.data.toList l hr
  have e1:=zK7 a.data.toList l (by rw[hc];decide)
  have HC:=zH hc
  have HE:=zH e1
  clear hc e1
  go_wp2
  go_ret2
  exact⟨by rw[HC.out,HE.out];rfl,b1⟩
end Front
namespace Zr
open Go.RowKit Front
theorem zMt (n:Nat) (hn:n<=1000000) (w:World):
  Calls Tryz.prog 46 #[.int .i64 (n:Int)] w fun e w'=>∃a c,e= .returned (.slice a (digits n).length c)/\Kit.Own w' w.heap.size 3 a (digits n).length c ((digits n).map ival)/\Below w.heap.size w w':=by
 go_enter Tryz.func46,Tryz.ntmps46
 go_wp2
 go_loopw [0,2] (fun i v wr=>∃(k:Nat) (d:List Nat) (p:Option Addr) (c:Nat),i= .int .i64 k/\v= .slice p d.length c/\k<=1000000/\RowKit.Hid (d++digits k=digits n)/\RowKit.Hid (Kit.Own wr w.heap.size 3 p d.length c (d.map ival))/\RowKit.Hid (Below w.heap.size w wr)) (fun i _ _=>(intOf i).toNat)
 case atStart=>exact⟨n,[],none,0,rfl,rfl,hn,zH rfl,zH (Kit.Own.start _ _ _),zH (Below.refl _ _)⟩
 case round=>
  obtain⟨k,d,p,c,rfl,rfl,hk,hd,hown,hb⟩:=hrel
  rcases Nat.eq_zero_or_pos k with h0|h0
  ·subst h0
   have h1:=hd.out
   rw[zEu,List.append_nil]at h1
   subst h1
   go_wp2
   go_ret
   exact⟨p,c,rfl,hown.out,hb.out⟩
  ·obtain⟨q,rfl⟩:∃q,k=q+1:=⟨k-1,by omega⟩
   have h1:=hd.out
   rw[zFh h0,Nat.add_sub_cancel]at h1
   have hdl:d.length<=1000000:=by
    have h2:=zIa n
    have h3:(digits n).length=d.length+((digits (q/2)).length+1):=by rw[<-h1];simp
    omega
   obtain⟨m,hm⟩:=zB d.length
   rw[hm]at hown hdl⊢
   have hz:=hb.out.size
   obtain⟨p3,c3,w3,hr3,ho3,hg3⟩:=Kit.Own.app (ty:=23) (w:=wr.alloc (.cells #[.int .i64 ((q%2:Nat):Int)] 3)) zFn (hown.out.alloc _) (some ⟨wr.heap.size,0,none⟩) 1 1 [ival (q%2)] (Kit.zAs wr _ 3) rfl (fun h=>by cases h) (zDr [q%2]) (by unfold maxLen;omega) (by omega) (by simp;omega)
   have hb3:Below w.heap.size w w3:=hb.out.trans (((Below.refl _ _).alloc hz _).trans ((Below.refl _ _).grown hg3 (by simp;omega) (fun q hq=>hown.out.block q hq)))
   have HO3:=zH ho3
   have HB3:=zH hb3
   have HD:=zH h1
   have HM:=zH hm
   clear ho3 hb3 hg3 h1 hm hz hd
   have i0:IntKind.i64.wrap (((q+1:Nat):Int)-1)=(q:Int):=by rw[IntWalk.i64_in _ ⟨by omega,by omega⟩];omega
   have i1:(q:Int).tmod 2=((q%2:Nat):Int):=by rw[Int.tmod_eq_emod_of_nonneg (by omega)];rfl
   have i2:(q:Int).tdiv 2=((q/2:Nat):Int):=by rw[Int.tdiv_eq_ediv_of_nonneg (by omega)];rfl
   go_wp2_with (at_builtin;refine Kit.zAr rfl (.tmp 8) (.tmp 12) 23 rfl rfl rfl hr3 ?_)
   go_roundw
   case rel=>exact⟨q/2,d++[q%2],p3,c3,rfl,by rw[List.length_append,HM.out];rfl,by omega,zH (by rw[List.append_assoc];exact HD.out),zH (by rw[List.length_append,HM.out,List.map_append];exact HO3.out),HB3⟩
   case measure=>simp[intOf];omega
end Zr
namespace Ix
open Go.RowKit Front
def fi (P:Nat->Bool):List Nat->Nat
 |[]=>0
 |x::r=>if P x then 0 else fi P r+1
theorem qCc (P:Nat->Bool):∀l,fi P l<=l.length
 |[]=>Nat.le_refl _
 |x::r=>by have:=qCc P r;unfold fi;split<;>rw[List.length_cons]<;>omega
theorem qCd (P:Nat->Bool):∀(l:List Nat) (k:Nat) (hk:k<l.length),(∀j (hj:j<k),P (l[j]'(by omega))=false)->P l[k]=true->fi P l=k
 |[],k,hk,_,_=>by simp at hk
 |x::r,0,_,_,h=>by simp at h;unfold fi;rw[if_pos h]
 |x::r,k+1,hk,h0,h=>by
  have h1:P x=false:=h0 0 (by omega)
  unfold fi
  rw[h1,if_neg (by simp),qCd P r k (by simpa using hk) (fun j hj=>by have:=h0 (j+1) (by omega);simpa using this) (by simpa using h)]
theorem zT3 (P:Nat->Bool):∀l:List Nat,(∀x∈l,P x=false)->fi P l=l.length
 |[],_=>rfl
 |x::r,h=>by
  unfold fi
  rw[h x (by simp),if_neg (by simp),zT3 P r (fun y hy=>h y (by simp[hy]))]
  rfl
@[irreducible] def ix (P:Nat->Bool) (l:List Nat):Int:=if fi P l<l.length then(fi P l:Int)else-1
theorem qB6 (P:Nat->Bool) (l:List Nat) (k:Nat) (hk:k<l.length) (h0:∀j (hj:j<k),P (l[j]'(by omega))=false) (h:P l[k]=true):ix P l=(k:Int):=by
 unfold ix;rw[qCd P l k hk h0 h,if_pos hk]
theorem zNm (P:Nat->Bool) (l:List Nat) (h:∀j (hj:j<l.length),P l[j]=false):ix P l= -1:=by
 unfold ix
 rw[zT3 P l (fun x hx=>by obtain⟨j,hj,rfl⟩:=List.getElem_of_mem hx;exact h j hj),if_neg (Nat.lt_irrefl _)]
theorem zXo (P:Nat->Bool) (l:List Nat):decide (0<=ix P l)=l.any P:=by
 by_cases h:∀x∈l,P x=false
 ·rw[zNm P l (fun j hj=>h _ (List.getElem_mem hj))]
  rw[List.any_eq_false.2 (fun x hx=>by rw[h x hx];simp)]
  rfl
 ·have h2:l.any P=true:=by
   rw[List.any_eq_true]
   apply Classical.byContradiction
   intro hn
   exact h (fun x hx=>by cases hp:P x with|false=>rfl|true=>exact absurd ⟨x,hx,hp⟩ hn)
  have h3:fi P l<l.length:=by
   rcases Nat.lt_or_ge (fi P l) l.length with h4|h4
   ·exact h4
   ·exfalso
    have:∀m:List Nat,m.length<=fi P m->∀x∈m,P x=false:=by
     intro m
     induction m with
     |nil=>intro _ x hx;cases hx
     |cons y r ih=>
      intro hm x hx
      unfold fi at hm
      split at hm
      ·simp at hm
      ·rename_i hy
       rcases List.mem_cons.1 hx with rfl|hx
       ·simpa using hy
       ·exact ih (by simpa using hm) x hx
    exact h (this l h4)
  rw[h2]
  unfold ix
  rw[if_pos h3]
  simp
def zG3 (f:Nat):Prop:=∀(args:Array Value) (w:World),(callFunc f args).run Tryz.prog w= .ok (.enter f args) w
theorem zHw {f:Nat} {fn:Func} {c:Code} (hf:Tryz.prog.funcs[f]? =some fn) (hname:(fn.name== "runtime.NumGoroutine")=false) (hb:fn.body=some c):zG3 f:=by
 intro args w
 have h1:fn.name≠ "runtime.NumGoroutine":=by simpa using hname
 simp[callFunc,hf,h1,hb]
theorem zBw {k:IntKind} {a b:Int} (h:a=b):Ending.returned (.int k a)= .returned (.int k b):=by rw[h]
theorem qFz (P:Nat->Bool) (l:List Nat) (f:Nat) (a:Option Addr) (n c:Nat) (w:World) (hn:l.length=n) (hc:n<=1000000000) (hs:Kit.Src w a (l.map ival)) (hf:zG3 f)
  (H:∀x∈l,Calls Tryz.prog f #[ival x] w fun e w'=>e= .returned (.bool (P x))/\w'=w):
  Calls Tryz.prog 152 #[.slice a n c,.func (.func f) #[] #[]] w fun e w'=>e= .returned (.int .i64 (ix P l))/\w'=w:=by
 have HS:=zH hs
 have HN:=zH hn
 have HH:=zH H
 unfold zG3 at hf
 clear hs hn H
 go_enter Tryz.func152,Tryz.ntmps152
 go_wp2
 go_loopw [8] (fun i wr=>∃k:Nat,k<=n/\i= .int .i64 k/\wr=w/\RowKit.Hid (∀j (hj:j<l.length),j<k->P l[j]=false)) (fun i _=>n-(intOf i).toNat)
 case atStart=>exact⟨0,by omega,rfl,rfl,zH (fun j _ hj=>absurd hj (by omega))⟩
 case round=>
  obtain⟨k,hk,rfl,rfl,hno⟩:=hrel
  by_cases hlt:k<n
  ·have hlk:k<l.length:=by rw[HN.out];exact hlt
   obtain⟨x,hx⟩:=zB (l[k])
   obtain⟨b,off,rfl,e0⟩:=HS.out k (ival x) (by rw[List.getElem?_map,List.getElem?_eq_getElem hlk,hx];rfl)
   have HQ:=zH (HH.out x (by rw[<-hx];exact List.getElem_mem hlk))
   have HLK:=zH hlk
   have HX:=zH hx
   clear hx
   go_wp2_with fail
   (with_reducible refine HQ.out.mono ?_)
   rintro e w2 ⟨rfl,rfl⟩
   cases hp:P x with
   |true=>
    have HP:=zH hp
    clear hp
    go_wp2
    go_ret
    exact⟨zBw (qB6 P l k HLK.out (fun j hj=>hno.out j (by have:=HLK.out;omega) hj) (by rw[HX.out];exact HP.out)).symm,rfl⟩
   |false=>
    have HP:=zH hp
    clear hp
    go_wp2
    go_roundw
    case rel=>
     refine⟨k+1,by omega,by go_num,trivial,zH (fun j hj hjk=> ?_)⟩
     by_cases e:j=k
     ·subst e;rw[HX.out];exact HP.out
     ·exact hno.out j hj (by omega)
    case measure=>simp[intOf];omega
  ·obtain rfl:k=n:=by omega
   go_wp2
   go_ret
   exact⟨zBw (zNm P l (fun j hj=>hno.out j hj (by rw[<-HN.out];exact hj))).symm,rfl⟩
theorem zE5 (P:Nat->Bool) (l:List Nat) (f:Nat) (a:Option Addr) (n c:Nat) (w:World) (hn:l.length=n) (hc:n<=1000000000) (hs:Kit.Src w a (l.map ival)) (hf:zG3 f)
  (H:∀x∈l,Calls Tryz.prog f #[ival x] w fun e w'=>e= .returned (.bool (P x))/\w'=w):
  Calls Tryz.prog 79 #[.slice a n c,.func (.func f) #[] #[]] w fun e w'=>e= .returned (.bool (l.any P))/\w'=w:=by
 have HQ:=zH (qFz P l f a n c w hn hc hs hf H)
 have hx:=zXo P l
 clear hn hs hf H
 go_enter Tryz.func79,Tryz.ntmps79
 go_wp2_with fail
 (with_reducible refine HQ.out.mono ?_)
 rintro e w2 ⟨rfl,rfl⟩
 go_wp2
 go_ret
 exact⟨rfl,rfl⟩
theorem zXs (P:Nat->Bool) (l:List Nat) (f:Nat) (v:Value) (a:Option Addr) (n c:Nat) (w:World) (hn:l.length=n) (hc:n<=1000000000) (hs:Kit.Src w a (l.map ival)) (hf:zG3 f)
  (H:∀x∈l,Calls Tryz.prog f #[ival x,v] w fun e w'=>e= .returned (.bool (P x))/\w'=w):
  Calls Tryz.prog 152 #[.slice a n c,.func (.func f) #[] #[v]] w fun e w'=>e= .returned (.int .i64 (ix P l))/\w'=w:=by
 have HS:=zH hs
 have HN:=zH hn
 have HH:=zH H
 unfold zG3 at hf
 clear hs hn H
 go_enter Tryz.func152,Tryz.ntmps152
 go_wp2
 go_loopw [8] (fun i wr=>∃k:Nat,k<=n/\i= .int .i64 k/\wr=w/\RowKit.Hid (∀j (hj:j<l.length),j<k->P l[j]=false)) (fun i _=>n-(intOf i).toNat)
 case atStart=>exact⟨0,by omega,rfl,rfl,zH (fun j _ hj=>absurd hj (by omega))⟩
 case round=>
  obtain⟨k,hk,rfl,rfl,hno⟩:=hrel
  by_cases hlt:k<n
  ·have hlk:k<l.length:=by rw[HN.out];exact hlt
   obtain⟨x,hx⟩:=zB (l[k])
   obtain⟨b,off,rfl,e0⟩:=HS.out k (ival x) (by rw[List.getElem?_map,List.getElem?_eq_getElem hlk,hx];rfl)
   have HQ:=zH (HH.out x (by rw[<-hx];exact List.getElem_mem hlk))
   have HLK:=zH hlk
   have HX:=zH hx
   clear hx
   go_wp2_with fail
   (with_reducible refine HQ.out.mono ?_)
   rintro e w2 ⟨rfl,rfl⟩
   cases hp:P x with
   |true=>
    have HP:=zH hp
    clear hp
    go_wp2
    go_ret
    exact⟨zBw (qB6 P l k HLK.out (fun j hj=>hno.out j (by have:=HLK.out;omega) hj) (by rw[HX.out];exact HP.out)).symm,rfl⟩
   |false=>
    have HP:=zH hp
    clear hp
    go_wp2
    go_roundw
    case rel=>
     refine⟨k+1,by omega,by go_num,trivial,zH (fun j hj hjk=> ?_)⟩
     by_cases e:j=k
     ·subst e;rw[HX.out];exact HP.out
     ·exact hno.out j hj (by omega)
    case measure=>simp[intOf];omega
  ·obtain rfl:k=n:=by omega
   go_wp2
   go_ret
   exact⟨zBw (zNm P l (fun j hj=>hno.out j hj (by rw[<-HN.out];exact hj))).symm,rfl⟩
theorem zO3 (P:Nat->Bool) (l:List Nat) (f:Nat) (v:Value) (a:Option Addr) (n c:Nat) (w:World) (hn:l.length=n) (hc:n<=1000000000) (hs:Kit.Src w a (l.map ival)) (hf:zG3 f)
  (H:∀x∈l,Calls Tryz.prog f #[ival x,v] w fun e w'=>e= .returned (.bool (P x))/\w'=w):
  Calls Tryz.prog 79 #[.slice a n c,.func (.func f) #[] #[v]] w fun e w'=>e= .returned (.bool (l.any P))/\w'=w:=by
 have HQ:=zH (zXs P l f v a n c w hn hc hs hf H)
 have hx:=zXo P l
 clear hn hs hf H
 go_enter Tryz.func79,Tryz.ntmps79
 go_wp2_with fail
 (with_reducible refine HQ.out.mono ?_)
 rintro e w2 ⟨rfl,rfl⟩
 go_wp2
 go_ret
 exact⟨rfl,rfl⟩
end Ix
namespace Zr
open Go.RowKit Front Ix
theorem zWx (t:Nat):∀l:List Nat,row t l=fi (fun x=>decide (t<x)) l
 |[]=>rfl
 |x::r=>by
  unfold row fi
  by_cases h:x<=t
  ·rw[if_pos h,zWx t r,decide_eq_false (by omega),if_neg (by simp)]
  ·rw[if_neg h,decide_eq_true (by omega),if_pos rfl]
theorem qFt (t:Nat) (l:List Nat):(row t l=l.length/\ix (fun x=>decide (t<x)) l= -1)\/(row t l<l.length/\ix (fun x=>decide (t<x)) l=(row t l:Int)):=by
 rw[zWx]
 have:=qCc (fun x=>decide (t<x)) l
 unfold ix
 by_cases h:fi (fun x=>decide (t<x)) l<l.length
 ·rw[if_pos h];exact .inr ⟨h,rfl⟩
 ·rw[if_neg h];exact .inl ⟨by omega,rfl⟩
theorem zZk (x t B:Nat) (hx:x<=1000000000) (ht:t<=1000000000) (w:World) (h:w.cell? ⟨B,0,none⟩=some (ival t)):
  Calls Tryz.prog 153 #[ival x,.pointer (some ⟨B,0,none⟩)] w fun e w'=>e= .returned (.bool (decide (t<x)))/\w'=w:=by
 have h1:decide ((t:Int)<(x:Int))=decide (t<x):=by simp
 go_enter Tryz.func153,Tryz.ntmps153
 go_wp2
 go_ret
 simp
theorem zJm (l:List Nat) (t:Nat) (a:Option Addr) (n c:Nat) (w:World) (hn:l.length=n) (hc:n<=1000000000) (hs:Kit.Src w a (l.map ival)) (hl:∀x∈l,x<=1000000000) (ht:t<=1000000000):
  Calls Tryz.prog 82 #[.slice a n c,.int .i64 (t:Int)] w fun e w'=>e= .returned (.int .i64 (row t l:Int))/\Below w.heap.size w w':=by
 have hmf:∀(fn:Fn) (first cap:Array Value) (w:World),(Instr.makeFunc fn first cap).run Tryz.prog w= .ok (.func fn first cap) w:=fun _ _ _ _=>rfl
 obtain⟨W,hW⟩:=zB (w.alloc (.cells #[ival t] 3))
 have hb:Below w.heap.size w W:=by rw[<-hW];exact(Below.refl _ _).alloc (Nat.le_refl _) _
 have h0:W.cell? ⟨w.heap.size,0,none⟩=some (ival t):=by rw[<-hW];simp
 have hs2:Kit.Src W a (l.map ival):=hs.below hb
 have HQ:=zH (zXs (fun x=>decide (t<x)) l 153 (.pointer (some ⟨w.heap.size,0,none⟩)) a n c W hn hc hs2 (zHw Tryz.func153 rfl rfl)
  (fun x hx=>zZk x t w.heap.size (hl x hx) ht W h0))
 have HB:=zH hb
 have hcs:=qFt t l
 rw[hn]at hcs
 have HC:=zH hcs
 clear hn hs hs2 hl h0 hb hcs
 obtain⟨z,hz⟩:=zB (ix (fun x=>decide (t<x)) l)
 obtain⟨r,hr⟩:=zB (row t l)
 rw[hz]at HQ HC
 rw[hr]at HC⊢
 clear hz hr
 go_enter Tryz.func82,Tryz.ntmps82
 go_wp2_with fail
 clear hW
 (with_reducible refine HQ.out.mono ?_)
 rintro e w2 ⟨rfl,rfl⟩
 rcases HC.out with⟨rfl,rfl⟩|⟨hlt,rfl⟩
 ·go_wp2
  go_ret
  exact⟨rfl,HB.out⟩
 ·have h1:decide ((r:Int)<0)=false:=decide_eq_false (by omega)
  go_wp2
  go_ret
  exact⟨rfl,HB.out⟩
end Zr
namespace Zr
open Go.RowKit Front Ix
theorem zVn (x:Nat) (hx:x<=1000000000) (w:World):
  Calls Tryz.prog 151 #[ival x] w fun e w'=>e= .returned (.bool ((fun _=>false) x))/\w'=w:=by
 have h1:decide ((x:Int)<0)=false:=decide_eq_false (by omega)
 go_enter Tryz.func151,Tryz.ntmps151
 go_wp2
 go_ret
 exact⟨rfl,rfl⟩
theorem any_false (l:List Nat):l.any (fun _=>false)=false:=by simp
theorem zPc (l:List Nat) (a:Option Addr) (n c:Nat) (w:World) (hn:l.length=n) (hc:n<=1000000000) (hs:Kit.Src w a (l.map ival)) (hl:∀x∈l,x<=1000000000):
  Calls Tryz.prog 78 #[.slice a n c] w fun e w'=>e= .returned (.bool false)/\w'=w:=by
 have HQ:=zH (zE5 (fun _=>false) l 151 a n c w hn hc hs (zHw Tryz.func151 rfl rfl) (fun x hx=>zVn x (hl x hx) w))
 rw[any_false]at HQ
 clear hn hs hl
 go_enter Tryz.func78,Tryz.ntmps78
 go_wp2_with fail
 (with_reducible refine HQ.out.mono ?_)
 rintro e w2 ⟨rfl,rfl⟩
 go_wp2
 go_ret
 exact⟨rfl,rfl⟩
end Zr
namespace Zr
open Go.RowKit Front Ix Bt
variable {w w':World} {D R n c:Nat} {a:Option Addr} {l:List Nat}
structure Ls (w:World) (D R:Nat) (a:Option Addr) (n c:Nat) (l:List Nat):Prop where
 blk:w.heap[R]? =some (.cells #[.slice a n c] 158 (0,0))
 own:Kit.Own w D 3 a n c (l.map ival)
 base:D<=R
theorem zAd {k:Nat} {o:Obj} (h:w.heap[k]? =some o):k<w.heap.size:=by
 rcases Nat.lt_or_ge k w.heap.size with hlt|hge
 ·exact hlt
 ·rw[Array.getElem?_eq_none hge]at h;cases h
theorem Ls.lt (h:Ls w D R a n c l):R<w.heap.size:=zAd h.blk
theorem Ls.len (h:Ls w D R a n c l):l.length=n:=by
 have:=h.own.len;simpa using this
theorem own_ne {B:Nat} {e t:TypeId} {xs:List Value} {cs:Array Value} {f:Nat×Nat} (h:Kit.Own w B e a n c xs) (hR:w.heap[R]? =some (.cells cs t f)) (ht:t≠e):
  (Value.slice a n c).ownBlock≠some R:=by
 intro hk
 obtain⟨_,h2⟩:=h
 rcases h2 with⟨h2,_⟩|⟨g,cap,cur,hv,hbg,hg,_⟩
 ·injection h2 with h2 _ _
  subst h2
  simp[Value.ownBlock]at hk
 ·injection hv with ha _ hc
  subst ha
  simp[Value.ownBlock]at hk
  subst hk
  rw[hR]at hg
  injection hg with hg
  injection hg with _ hg _
  exact ht hg
theorem Ls.below {E:Nat} (h:Ls w D R a n c l) (hb:Below E w w') (hE:E=w.heap.size):Ls w' D R a n c l:=by
 subst hE
 exact⟨(hb.block R h.lt).trans h.blk,h.own.below hb (Nat.le_refl _),h.base⟩
theorem Ls.put {a':Option Addr} {n' c':Nat} {l':List Nat} (h:Ls w D R a n c l) (ho:Kit.Own w' D 3 a' n' c' (l'.map ival)) (hg:w.grownBy w' (Value.ownBlock (.slice a n c))):
  Ls (w'.setCell ⟨R,0,none⟩ (.slice a' n' c')) D R a' n' c' l'/\Below D w (w'.setCell ⟨R,0,none⟩ (.slice a' n' c')):=by
 have hne:=own_ne h.own h.blk (by decide)
 have hR:w'.heap[R]? =some (.cells #[.slice a n c] 158 (0,0)):=(hg.block R h.lt (fun e=>hne e.symm)).trans h.blk
 have hb:Below D w w':=Kit.zAq hg (Nat.le_trans h.base (Nat.le_of_lt h.lt)) (fun k hk=>h.own.block k hk)
 refine⟨⟨?_,?_,h.base⟩,hb.setCell h.base _⟩
 ·simp[World.setCell,Array.getElem?_modify,hR]
 ·exact World.ownsRow.kept ho (zB1 w' R 0 _) (.inr (own_ne ho hR (by decide)))
theorem zNn:Kit.One Tryz.prog 23 3 8:=zFn
theorem zJx (D R:Nat) (a:Option Addr) (n c:Nat) (l:List Nat) (x:Option Addr) (m cx:Nat) (news:List Nat) (w:World) (h:Ls w D R a n c l)
  (hs:Kit.Src w x (news.map ival)) (hm:news.length=m) (hx:x=none->m=0/\cx=0) (hmax:n+m<=1000000):
  Calls Tryz.prog 81 #[.pointer (some ⟨R,0,none⟩),.slice x m cx] w fun e w'=>e= .returned (.tuple #[])/\∃a' c',Ls w' D R a' (n+m) c' (l++news)/\Below D w w':=by
 obtain⟨a',c',w',hr,ho,hg⟩:=Kit.Own.app (ty:=23) zNn h.own x m cx (news.map ival) hs (by simpa using hm) hx (by intro u hu;obtain⟨y,_,rfl⟩:=List.mem_map.1 hu;rfl) (by unfold maxLen;omega) (by omega) (by have:=h.base;have:=h.lt;omega)
 rw[<-List.map_append]at ho
 have HP:=zH (h.put ho hg)
 obtain⟨e0,f0⟩:=zEb h.blk
 have hne:=own_ne h.own h.blk (by decide)
 obtain⟨e1,f1⟩:=zEb ((hg.block R h.lt (fun e=>hne e.symm)).trans h.blk)
 clear h hs ho hg
 go_enter Tryz.func81,Tryz.ntmps81
 go_wp2_with (at_builtin;refine Kit.zAr rfl (.tmp 8) (.tmp 9) 23 rfl rfl rfl hr ?_)
 go_end0
 exact⟨rfl,a',c',HP.out.1,HP.out.2⟩
end Zr
end Go.Proofs.YtppnakkaljbmbaaGreatDoor
