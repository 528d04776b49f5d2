/- Steps of a proof; no condition beyond what each states. -/
import Derived.Test.YtppnakkaljbmbaaGreatDoorZU02
import Derived.Test.YtppnakkaljbmbaaGreatDoorZU09
set_option linter.unusedVariables false
set_option linter.unusedSimpArgs false
set_option maxRecDepth 100000
set_option maxHeartbeats 8000000
namespace Go.Proofs.YtppnakkaljbmbaaGreatDoor
namespace Tn
open Go.RowKit Front Bt Zr
def bl (s:ByteArray):List Nat:=s.data.toList.map UInt8.toNat
theorem zB2 (s:ByteArray):(bl s).length=s.size:=by simp[bl]
theorem zRx (s:ByteArray) (i:Nat) (h:i<s.size):(bl s).getD i 0=s[i].toNat:=by
 have h':i<s.data.toList.length:=by simpa using h
 simp[bl,List.getD_eq_getElem?_getD,List.getElem?_map,List.getElem?_eq_getElem h']
 rfl
def g1 (l:List Nat) (k j:Nat):Nat:=if j=0 then 0 else E l k (j-1)
theorem zV (l:List Nat) (k c:Nat):g1 l k (c+1)=E l k c:=by simp[g1]
theorem qC (l:List Nat) (k j:Nat):g1 l k j<=k:=by unfold g1;split;omega;exact qH2 _ _ _
theorem qD2 (l:List Nat) (k c:Nat) (h:l.getD k 0=c) (j:Nat):zAy (g1 l k) (c+1) (g1 l k (c+1)+1) j=g1 l (k+1) j:=by
 unfold zAy
 by_cases e:j=c+1
 ·subst e;rw[if_pos rfl,zV,zV,zR9,if_pos h]
 ·rw[if_neg e]
  unfold g1
  by_cases e0:j=0
  ·rw[if_pos e0,if_pos e0]
  ·rw[if_neg e0,if_neg e0,zR9,if_neg (by omega)];rfl
def g2 (l:List Nat) (c j:Nat):Nat:=if j<=c then A l j else g1 l l.length j
theorem qD0 (l:List Nat) (j:Nat):g1 l l.length j=g2 l 0 j:=by
 unfold g2
 by_cases e:j=0
 ·subst e;rw[if_pos (Nat.le_refl _),qGu];rfl
 ·rw[if_neg (by omega)]
theorem qB9 (l:List Nat) (c j:Nat):g2 l c j<=l.length:=by unfold g2;split;exact qH3 _ _;exact qC _ _ _
theorem qD1 (l:List Nat) (c:Nat) (j:Nat):zAy (g2 l c) (c+1) (g2 l c (c+1)+g2 l c c) j=g2 l (c+1) j:=by
 unfold zAy
 by_cases e:j=c+1
 ·subst e
  rw[if_pos rfl]
  unfold g2
  rw[if_neg (by omega),if_pos (Nat.le_refl _),if_pos (Nat.le_refl _),zV,qGv];omega
 ·rw[if_neg e]
  unfold g2
  by_cases e0:j<=c
  ·rw[if_pos e0,if_pos (by omega)]
  ·rw[if_neg e0,if_neg (by omega)]
def g3 (l:List Nat) (k j:Nat):Nat:=A l j+E l k j
theorem qDy (l:List Nat) (j:Nat) (h:j<=256):g2 l 256 j=g3 l 0 j:=by unfold g2 g3;rw[if_pos h,zYq];rfl
theorem qDz (l:List Nat) (k c:Nat) (h:l.getD k 0=c) (j:Nat):zAy (g3 l k) c (g3 l k c+1) j=g3 l (k+1) j:=by
 unfold zAy g3
 rw[zR9]
 by_cases e:j=c
 ·subst e;rw[if_pos rfl,if_pos h];omega
 ·rw[if_neg e,if_neg (by omega)];omega
theorem zUf (s:ByteArray) (hs:s.size<=1000000) (w:World):
  Calls Tryz.prog 113 #[.string s] w fun e w'=>∃a' c',e= .returned (.slice a' s.size c')/\Kit.Own w' w.heap.size 3 a' s.size c' ((zA7 (bl s)).map ival)/\Below w.heap.size w w':=by
 obtain⟨B,hB⟩:=zB w.heap.size
 have hz:Tryz.zeroCells274=cellsOf 257 (fun _=> .int .i64 0):=by kernel_rfl
 have hA0:=zAm.zeros B w 257 274 hB
 rw[<-hz]at hA0
 obtain⟨l,hl⟩:=zB (bl s)
 have hlen:l.length=s.size:=by rw[<-hl,zB2]
 have hget:∀(i:Nat) (h:i<s.size),l.getD i 0=s[i].toNat:=fun i h=>by rw[<-hl,zRx s i h]
 rw[hl]
 have HLEN:=zH hlen
 have HGET:=zH hget
 obtain⟨W,hW⟩:=zB (w.alloc (.cells Tryz.zeroCells274 274))
 have hb0:Below B w W:=by rw[<-hW,<-hB];exact(Below.refl _ _).alloc (Nat.le_refl _) _
 rw[hW]at hA0
 have HA0:=zH hA0
 have HB0:=zH hb0
 rw[hB]
 clear hz hl hlen hget hA0 hb0
 go_enter Tryz.func113,Tryz.ntmps113
 go_wp2
 clear hW
 go_loopw [10] (fun i wr=>∃k:Nat,k<=s.size/\i= .int .i64 k/\RowKit.Hid (zAm wr B 274 257 (g1 l k))/\RowKit.Hid (Below B w wr)) (fun i _=>s.size-(intOf i).toNat)
 case atStart=>exact⟨0,by omega,rfl,zH (HA0.out.congr (fun k _=>by simp[g1,zYq])),HB0⟩
 case round=>
  clear HA0 HB0
  obtain⟨k,hk,rfl,har,hb⟩:=hrel
  by_cases hlt:k<s.size
  ·obtain⟨c,hc⟩:=zB (s[k].toNat)
   have hc2:c<256:=by rw[<-hc];exact UInt8.toNat_lt _
   have hE:=qC l k (c+1)
   have x0:=har.out.cell (c+1) (by omega)
   have f0:=har.out.free (c+1)
   have HNX:=zH ((har.out.set (c+1) (g1 l k (c+1)+1) (V:=((g1 l k (c+1):Nat):Int)+1) (by omega)).congr (fun j _=>qD2 l k c (by rw[HGET.out k hlt,hc]) j))
   obtain⟨q,hq⟩:=zB (g1 l k (c+1))
   rw[hq]at x0 hE HNX
   clear hq
   go_wp2
   go_roundw
   case rel=>exact⟨k+1,by omega,by go_num,HNX,zH (hb.out.setCell (p:=⟨B,c+1,none⟩) (Nat.le_refl _) _)⟩
   case measure=>simp[intOf];omega
  ·obtain rfl:k=s.size:=by omega
   have HA1:=zH (har.out.congr (g:=g2 l 0) (fun j _=>by rw[<-HLEN.out];exact qD0 l j))
   clear har
   go_wp2
   go_loopw [23] (fun i wr=>∃c:Nat,c<=256/\i= .int .i64 c/\RowKit.Hid (zAm wr B 274 257 (g2 l c))/\RowKit.Hid (Below B w wr)) (fun i _=>256-(intOf i).toNat)
   case atStart=>exact⟨0,by omega,rfl,HA1,hb⟩
   case round=>
    clear HA1 hb
    obtain⟨c,hc,rfl,har,hb⟩:=hrel
    by_cases hlt:c<256
    ·have h1:=qB9 l c (c+1)
     have h2:=qB9 l c c
     rw[HLEN.out]at h1 h2
     have x0:=har.out.cell (c+1) (by omega)
     have x1:=har.out.cell c (by omega)
     have f0:=har.out.free (c+1)
     have HNX:=zH ((har.out.set (c+1) (g2 l c (c+1)+g2 l c c) (V:=((g2 l c (c+1):Nat):Int)+((g2 l c c:Nat):Int)) (by omega)).congr (fun j _=>qD1 l c j))
     obtain⟨q,hq⟩:=zB (g2 l c (c+1))
     obtain⟨r,hr⟩:=zB (g2 l c c)
     rw[hq]at x0 h1 HNX
     rw[hr]at x1 h2 HNX
     clear hq hr
     go_wp2
     go_region
     go_wp2
     go_roundw
     case rel=>exact⟨c+1,by omega,by go_num,zH HNX.out,zH (hb.out.setCell (p:=⟨B,c+1,none⟩) (Nat.le_refl _) _).drew⟩
     case measure=>simp[intOf];omega
    ·obtain rfl:c=256:=by omega
     have HA2:=zH (har.out.congr (g:=g3 l 0) (fun j hj=>qDy l j (by omega)))
     obtain⟨w5,hmk,ho5,hb5⟩:=zOr wr s.size (by omega)
     have HA3:=zH (HA2.out.keep (hb5.block B HA2.out.lt))
     have HB3:=zH (hb.out.trans (hb5.mono (by have:=HA2.out.lt;omega)))
     have hGB:B<wr.heap.size:=HA2.out.lt
     obtain⟨G,hG⟩:=zB wr.heap.size
     rw[hG]at hmk ho5 hGB
     have HO3:=zH ho5
     clear har HA2 hb ho5 hb5 hG
     go_wp2
     clear hmk
     go_loopw [41] (fun i wr=>∃(k:Nat) (o:List Nat),k<=s.size/\i= .int .i64 k/\o.length=s.size/\RowKit.Hid (∀i,i<k->o.getD (pos l i) 0=i)/\RowKit.Hid (zAm wr B 274 257 (g3 l k))/\RowKit.Hid (Kit.Own wr G 3 (some ⟨G,0,none⟩) s.size s.size (o.map ival))/\RowKit.Hid (Below B w wr)) (fun i _=>s.size-(intOf i).toNat)
     case atStart=>exact⟨0,List.replicate s.size 0,by omega,rfl,by simp,zH (fun i hi=>by omega),HA3,HO3,HB3⟩
     case round=>
      clear HA3 HO3 HB3
      obtain⟨k,o,hk,rfl,hol,hpos,har,hown,hb⟩:=hrel
      by_cases hlt:k<s.size
      ·obtain⟨c,hc⟩:=zB (s[k].toNat)
       have hc2:c<256:=by rw[<-hc];exact UInt8.toNat_lt _
       have hlc:l.getD k 0=c:=by rw[HGET.out k hlt,hc]
       have x0:=har.out.cell c (by omega)
       have f0:=har.out.free c
       have hpk:g3 l k c=pos l k:=by unfold g3 pos;rw[hlc]
       have hpl:=qFc l k (by rw[HLEN.out];exact hlt)
       rw[HLEN.out]at hpl
       obtain⟨q,hq⟩:=zB (pos l k)
       rw[hq]at hpl
       rw[hpk,hq]at x0
       obtain⟨G',hG',_,_,_,hcell,hfr⟩:=hown.out.at_ (by omega)
       injection hG' with hG'
       injection hG' with hG' _ _
       subst hG'
       have y0:=hcell q hpl
       rw[List.getElem?_map,List.getElem?_eq_getElem (show q<o.length by omega),Option.map_some]at y0
       have f1:=hfr q
       obtain⟨v0,hv0⟩:=zB (ival o[q])
       rw[hv0]at y0
       have x1:(wr.setCell ⟨G,q,none⟩ (.int .i64 (k:Int))).cell? ⟨B,c,none⟩=some (.int .i64 (q:Int)):=by
        rw[World.cell?_setCell_other _ _ _ _ (by intro e;injection e with e1 _ _;omega)];exact x0
       have f2:(wr.setCell ⟨G,q,none⟩ (.int .i64 (k:Int))).frozen? ⟨B,c,none⟩=false:=by rw[World.frozen?_setCell];exact f0
       have ho2:=hown.out.set q (ival k) hpl
       rw[<-List.map_set]at ho2
       have HO:=zH (zD4 (i:=c) ho2 hGB (.int .i64 ((q:Int)+1)))
       have ha2:zAm (wr.setCell ⟨G,q,none⟩ (ival k)) B 274 257 (g3 l k):=har.out.keep (zAa (by omega))
       have HA:=zH ((ha2.set c (g3 l k c+1) (V:=(q:Int)+1) (by rw[hpk,hq];omega)).congr (fun j _=>qDz l k c hlc j))
       have HB:=zH ((hb.out.setCell (p:=⟨G,q,none⟩) (Nat.le_of_lt hGB) (ival k)).setCell (p:=⟨B,c,none⟩) (Nat.le_refl _) (.int .i64 ((q:Int)+1)))
       have HP:=zH (show ∀i,i<k+1->(o.set q k).getD (pos l i) 0=i from by
        intro i hi
        by_cases e:i=k
        ·subst e
         rw[hq,List.getD_eq_getElem?_getD,List.getElem?_set_self (by omega)];rfl
        ·have hne:q≠pos l i:=fun h=>e (qC0 l i k (by rw[HLEN.out];omega) (by rw[HLEN.out];omega) (by rw[hq];exact h.symm))
         rw[List.getD_eq_getElem?_getD,List.getElem?_set_ne hne,<-List.getD_eq_getElem?_getD]
         exact hpos.out i (by omega))
       clear hcell hfr hv0 ho2 ha2 hpk hq hlc
       go_wp2
       go_roundw
       case rel=>exact⟨k+1,o.set q k,by omega,by go_num,by rw[List.length_set];exact hol,HP,HA,HO,HB⟩
       case measure=>simp[intOf];omega
      ·obtain rfl:k=s.size:=by omega
       have hend:=qEl l o (by rw[hol,HLEN.out]) (fun i hi=>hpos.out i (by rw[HLEN.out]at hi;exact hi))
       have HE:=zH hend
       clear hend
       go_wp2
       go_ret
       exact⟨some ⟨G,0,none⟩,s.size,rfl,by rw[<-HE.out];exact hown.out.base (by omega),hb.out⟩
end Tn
namespace Tn
open Go.RowKit Front Bt Zr
def unL (s:ByteArray) (g:Nat):List UInt8:=(List.range s.size).map fun i=>s.data.getD (walk (zA7 (bl s)) g (i+1)) 0
theorem zTb (s:ByteArray) (g:Nat):(unL s g).length=s.size:=by simp[unL]
theorem walk_lt (s:ByteArray) (g:Nat) (hg:g<s.size):∀k,walk (zA7 (bl s)) g k<s.size
 |0=>hg
 |k+1=>by
  have ih:=walk_lt s g hg k
  have hl:(zA7 (bl s)).length=s.size:=by rw[show(zA7 (bl s)).length=(bl s).length from zCn _ _,zB2]
  show(zA7 (bl s)).getD _ 0<_
  rw[List.getD_eq_getElem?_getD,List.getElem?_eq_getElem (by omega)]
  have:=List.mem_range.1 ((zCl (bl s)).perm.mem_iff.1 (List.getElem_mem (show walk (zA7 (bl s)) g k<(zA7 (bl s)).length by omega)))
  rw[zB2]at this
  exact this
theorem zU3 (w:World) (n:Nat) (hn:n<=1000000):∃w',(Instr.makeSlice 109 (.int .i64 (n:Int)) (.int .i64 (n:Int))).run Tryz.prog w= .ok (.slice (some ⟨w.heap.size,0,none⟩) n n) w'/\
  Kit.Own w' w.heap.size TB (some ⟨w.heap.size,0,none⟩) n n ((List.replicate n (0:UInt8)).map Kit.zAe)/\Below w.heap.size w w':=by
 obtain⟨z,hz,hzs⟩:=zNh.row
 obtain⟨i,hi,hz0,hz1,hz2⟩:=info_parts hz
 have hzi:(Value.int .u8 0)=z:=by
  have h2:(Tryz.prog.info? TB).map (fun i=>i.zero)=some (some (.int .u8 0)):=by kernel_rfl
  rw[hi]at h2
  simp only[Option.map_some,Option.some.injEq]at h2
  rw[hz0]at h2
  exact(Option.some.inj h2).symm
 obtain⟨w',hr,ho,hg⟩:=run_makeSlice_full (P:=Tryz.prog) (w:=w) w.heap.size 109 TB i z 1 zNh.ut hi hz0 hz1 .i64 .i64 n (by omega) (by rw[hz2];omega) (by unfold maxLen;omega) (Nat.le_refl _)
 refine⟨w',hr,?_,(Below.refl _ _).grown hg (Nat.le_refl _) (fun k hk=>by cases hk)⟩
 subst hzi
 rw[Nat.mul_one,show(Value.int .u8 0).cells= #[.int .u8 0]from rfl,toList_madeCells_one]at ho
 rw[List.map_replicate]
 exact ho
theorem zHm (s:ByteArray) (g:Nat) (hs:s.size<=1000000) (hg:g<s.size) (w:World):
  Calls Tryz.prog 39 #[.string s,.int .i64 (g:Int)] w fun e w'=>e= .returned (.tuple #[.string ⟨(unL s g).toArray⟩,.int .i64 0])/\Below w.heap.size w w':=by
 obtain⟨B,hB⟩:=zB w.heap.size
 have HV:=zH (zUf s hs w)
 rw[hB]at HV
 have hvl:(zA7 (bl s)).length=s.size:=by rw[show(zA7 (bl s)).length=(bl s).length from zCn _ _,zB2]
 have HW:=zH (walk_lt s g hg)
 obtain⟨U,hU⟩:=zB (unL s g)
 have HU0:=zH (show ∀i,i<s.size->U[i]? =some (s.data.getD (walk (zA7 (bl s)) g (i+1)) 0)from fun i hi=>by rw[<-hU];unfold unL;rw[List.getElem?_map,List.getElem?_range hi];rfl)
 have HUL:=zH (show U.length=s.size by rw[<-hU,zTb])
 obtain⟨v,hv⟩:=zB (zA7 (bl s))
 rw[hv]at HV hvl HU0 HW
 rw[hU]
 have HVL:=zH hvl
 clear hU hv hvl
 rw[hB]
 have hg2:¬max (s.size:Int) 1<=(g:Int):=by omega
 go_enter Tryz.func39,Tryz.ntmps39
 go_wp2_with fail
 (with_reducible refine HV.out.mono ?_)
 rintro e w2 ⟨a',c',rfl,ho2,hb2⟩
 have hz2:B<=w2.heap.size:=by have:=hb2.size;omega
 obtain⟨w3,hmk,ho3,hb3⟩:=zU3 w2 s.size (by omega)
 have hsrc:=(ho2.below hb3 (Nat.le_refl _))
 have HB3:=zH (hb2.trans (hb3.mono hz2))
 obtain⟨a0,ha0,hBa,hat⟩:=ho2.at_ (by omega)
 obtain⟨ha1,ha2,_⟩:=hat
 have hlt2:a0<w2.heap.size:=ha1
 obtain⟨G,hG⟩:=zB w2.heap.size
 rw[hG]at hmk ho3 hz2 hlt2
 subst ha0
 have HS3:=zH hsrc
 have HO3:=zH ho3
 clear hsrc ho2 ho3 hb2 hb3 hG ha1 HV hg2
 go_wp2
 clear hmk
 go_loopw [27,8] (fun i v0 wr=>∃(k:Nat) (o:List UInt8),k<=s.size/\i= .int .i64 k/\v0= .int .i64 (walk v g k:Int)/\RowKit.Hid (o.length=s.size/\o.take k=U.take k)/\RowKit.Hid (Kit.Own wr B 3 (some ⟨a0,0,none⟩) s.size c' (v.map ival))/\RowKit.Hid (Kit.Own wr G TB (some ⟨G,0,none⟩) s.size s.size (o.map Kit.zAe))/\RowKit.Hid (Below B w wr)) (fun i _ _=>s.size-(intOf i).toNat)
 case atStart=>exact⟨0,List.replicate s.size 0,by omega,rfl,rfl,zH ⟨by simp,by simp⟩,HS3,HO3,HB3⟩
 case round=>
  clear HS3 HO3 HB3
  obtain⟨k,o,hk,rfl,rfl,ho,hsv,hown,hb⟩:=hrel
  by_cases hlt:k<s.size
  ·have hp:=HW.out k
   obtain⟨p,hpe⟩:=zB (walk v g k)
   rw[hpe]at hp⊢
   have hp2:=HW.out (k+1)
   have hstep:walk v g (k+1)=v.getD p 0:=by rw[<-hpe];rfl
   have hpv:p<v.length:=by rw[HVL.out];exact hp
   obtain⟨q,hq⟩:=zB (walk v g (k+1))
   rw[hq]at hp2
   have hvq:v[p]=q:=by rw[<-hq,hstep,List.getD_eq_getElem?_getD,List.getElem?_eq_getElem hpv];rfl
   obtain⟨a1,ha1,_,_,_,hcell,_⟩:=hsv.out.at_ (by omega)
   injection ha1 with ha1
   injection ha1 with ha1 _ _
   subst ha1
   have y0:=hcell p hp
   rw[List.getElem?_map,List.getElem?_eq_getElem hpv,hvq,Option.map_some]at y0
   obtain⟨G',hG',_,_,_,hcell2,hfr2⟩:=hown.out.at_ (by omega)
   injection hG' with hG'
   injection hG' with hG' _ _
   subst hG'
   have y1:=hcell2 k hlt
   have hok:k<o.length:=by rw[ho.out.1];exact hlt
   rw[List.getElem?_map,List.getElem?_eq_getElem hok,Option.map_some]at y1
   obtain⟨v0,hv0⟩:=zB (Kit.zAe o[k])
   rw[hv0]at y1
   have f1:=hfr2 k
   obtain⟨c,hc⟩:=zB (s[q])
   have hUk:U[k]? =some c:=by
    rw[HU0.out k hlt,hq,<-hc]
    congr 1
    exact zRf s q hp2
   have ho2:=hown.out.set k (Kit.zAe c) hlt
   rw[<-List.map_set]at ho2
   have HO:=zH ho2
   have HS:=zH (World.ownsRow.kept hsv.out (zB1 wr G k (Kit.zAe c)) (.inr (by intro e;simp[Value.ownBlock]at e;omega)))
   have HB:=zH (hb.out.setCell (p:=⟨G,k,none⟩) hz2 (Kit.zAe c))
   have HK:=zH (show(o.set k c).length=s.size/\(o.set k c).take (k+1)=U.take (k+1)from by
    refine⟨by rw[List.length_set];exact ho.out.1,?_⟩
    have hUk2:k<U.length:=by rw[HUL.out];exact hlt
    rw[List.take_succ_eq_append_getElem (by rw[List.length_set];exact hok),List.take_succ_eq_append_getElem hUk2,List.take_set_of_le (Nat.le_refl _),ho.out.2]
    rw[List.getElem_set_self]
    rw[List.getElem?_eq_getElem hUk2]at hUk
    rw[Option.some.inj hUk])
   have HQ:=zH hq
   clear hpe hstep hq hvq hcell hcell2 hfr2 hv0 hUk ho2
   go_wp2
   go_roundw
   case rel=>exact⟨k+1,o.set k c,by omega,by go_num,by rw[HQ.out],HK,HS,HO,HB⟩
   case measure=>simp[intOf];omega
  ·obtain rfl:k=s.size:=by omega
   have hoU:o=U:=by
    have h1:=ho.out.2
    rwa[List.take_of_length_le (by rw[ho.out.1];omega),List.take_of_length_le (by rw[HUL.out];omega)]at h1
   subst hoU
   have hcv:=Kit.Src.text (P:=Tryz.prog) (n:=s.size) (c:=s.size) (src:=109) (dst:=9) hown.out.src HUL.out Tryz.underlying109 Tryz.underlying5 Tryz.underlying9
   go_wp2
   go_ret2
   exact⟨rfl,hb.out⟩
end Tn
namespace Hf
open Bt
variable {l:List Nat}
def whose (l:List Nat) (n:Nat):List Nat:=(List.range l.length).filter fun s=>l.getD s 0==n
def cnt (l:List Nat) (n:Nat):Nat:=(whose l n).length
def first(l:List Nat):Nat->Nat
 |0=>0
 |n+1=>2*(first l n+cnt l n)
def rank (l:List Nat) (s:Nat):Nat:=((List.range s).filter fun i=>l.getD i 0==l.getD s 0).length
def zB9 (l:List Nat) (s:Nat):Nat:=first l (l.getD s 0)+rank l s
def word (l:List Nat) (s:Nat):List Bool:=num (zB9 l s) (l.getD s 0)
structure Right (l:List Nat):Prop where
 two:2<=l.length
 most:l.length<=258
 one:∀x∈l,1<=x
 top:∀x∈l,x<=20
 zEs:∀n,n<=20->first l n+cnt l n<=2^n
theorem zGh (p:Nat->Bool):∀(n s:Nat),s<n->p s=true->((List.range n).filter p)[((List.range s).filter p).length]? =some s
 |0,s,h,_=>by omega
 |n+1,s,h,hp=>by
  rw[List.range_succ,List.filter_append]
  rcases Nat.lt_or_ge s n with h1|h1
  ·have ih:=zGh p n s h1 hp
   rw[List.getElem?_append_left]
   ·exact ih
   ·rcases Nat.lt_or_ge ((List.range s).filter p).length ((List.range n).filter p).length with h2|h2
    ·exact h2
    ·rw[List.getElem?_eq_none h2]at ih;cases ih
  ·obtain rfl:s=n:=by omega
   rw[List.getElem?_append_right (Nat.le_refl _),Nat.sub_self]
   simp[hp]
theorem zDx (l:List Nat) (s:Nat) (hs:s<l.length):(whose l (l.getD s 0))[rank l s]? =some s:=
 zGh (fun i=>l.getD i 0==l.getD s 0) l.length s hs (by simp)
theorem zJn (l:List Nat) (s:Nat) (hs:s<l.length):rank l s<cnt l (l.getD s 0):=by
 have h:=zDx l s hs
 rcases Nat.lt_or_ge (rank l s) (cnt l (l.getD s 0))with h1|h1
 ·exact h1
 ·rw[List.getElem?_eq_none h1]at h;cases h
theorem zRt (h:∀x∈l,1<=x):cnt l 0=0:=by
 unfold cnt whose
 rw[List.length_eq_zero_iff,List.filter_eq_nil_iff]
 intro s hs hp
 have hs:=List.mem_range.1 hs
 have:l.getD s 0=l[s]:=by simp[List.getD_eq_getElem?_getD,List.getElem?_eq_getElem hs]
 have h1:=h l[s] (List.getElem_mem hs)
 have h2:l.getD s 0=0:=by simpa using hp
 omega
theorem zMr (l:List Nat):∀(d n:Nat),(first l n+cnt l n)*2^d<=first l (n+d)+(if d=0 then cnt l n else 0)
 |0,n=>by simp
 |d+1,n=>by
  have ih:=zMr l d n
  rw[if_neg (by omega),Nat.pow_succ]
  have e:first l (n+(d+1))=2*(first l (n+d)+cnt l (n+d)):=rfl
  rw[e]
  by_cases hd:d=0
  ·subst hd
   simp at ih⊢
   omega
  ·rw[if_neg hd]at ih
   have:(first l n+cnt l n)*(2^d*2)=2*((first l n+cnt l n)*2^d):=by rw[<-Nat.mul_assoc,Nat.mul_comm _ 2]
   omega
theorem zF6 {s:Nat} (hs:s<l.length):l.getD s 0∈l:=by
 have:l.getD s 0=l[s]:=by simp[List.getD_eq_getElem?_getD,List.getElem?_eq_getElem hs]
 rw[this]
 exact List.getElem_mem hs
theorem zPt (h:Right l) (s:Nat) (hs:s<l.length):zB9 l s<2^l.getD s 0:=by
 have h1:=zJn l s hs
 have h2:=h.zEs (l.getD s 0) (h.top _ (zF6 hs))
 unfold zB9
 omega
theorem zSc (h:Right l) (s:Nat) (hs:s<l.length) (n:Nat) (hn:n<l.getD s 0):first l n+cnt l n<=zB9 l s/2^(l.getD s 0-n):=by
 have h1:=zMr l (l.getD s 0-n) n
 rw[if_neg (by omega),show n+(l.getD s 0-n)=l.getD s 0 by omega]at h1
 rw[Nat.le_div_iff_mul_le (Nat.two_pow_pos _)]
 unfold zB9
 omega
theorem qAa (v n k:Nat) (hk:k<=n):(num v n).take k=num (v/2^(n-k)) k:=by
 unfold num
 rw[<-List.map_take,List.take_range,Nat.min_eq_left hk]
 refine List.map_congr_left fun i hi=> ?_
 have:=List.mem_range.1 hi
 rw[Nat.testBit_div_two_pow]
 congr 1
 omega
theorem zCu (l:List Nat) (s:Nat):(word l s).length=l.getD s 0:=zAc _ _
theorem zPh (h:Right l) (s:Nat) (hs:s<l.length) (n:Nat) (hn:n<=l.getD s 0):val ((word l s).take n)=zB9 l s/2^(l.getD s 0-n):=by
 unfold word
 rw[qAa _ _ _ hn,zT,Nat.mod_eq_of_lt]
 rw[Nat.div_lt_iff_lt_mul (Nat.two_pow_pos _),<-Nat.pow_add,show n+(l.getD s 0-n)=l.getD s 0 by omega]
 exact zPt h s hs
end Hf
namespace Wg
open Hf
variable {m n S:Nat} {p:Nat×Nat}
inductive Tr where
 |leaf (i:Nat)
 |node (a b:Tr)
def Tr.height:Tr->Nat
 | .leaf _=>0
 | .node a b=>max a.height b.height+1
def Tr.leaves:Tr->List (Nat×Nat)
 | .leaf i=>[(i,0)]
 | .node a b=>(a.leaves++b.leaves).map fun p=>(p.1,p.2+1)
def Tr.names (t:Tr):List Nat:=t.leaves.map Prod.fst
theorem Tr.zU1 (a b:Tr):(Tr.node a b).names=a.names++b.names:=by
 simp[Tr.names,Tr.leaves,Function.comp_def]
theorem Tr.zLk:∀(t:Tr) (p:Nat×Nat),p∈t.leaves->p.2<=t.height
 | .leaf i,p,h=>by simp[Tr.leaves]at h;subst h;exact Nat.zero_le _
 | .node a b,p,h=>by
  simp only[Tr.leaves,List.mem_map,List.mem_append]at h
  obtain⟨q,hq,rfl⟩:=h
  rcases hq with hq|hq
  ·have:=Tr.zLk a q hq;simp only[Tr.height];omega
  ·have:=Tr.zLk b q hq;simp only[Tr.height];omega
theorem Tr.zEs:∀(t:Tr) (H:Nat),t.height<=H->(t.leaves.map fun p=>2^(H-p.2)).sum=2^H
 | .leaf i,H,_=>by simp[Tr.leaves]
 | .node a b,H,h=>by
  simp only[Tr.height]at h
  obtain⟨H',rfl⟩:∃H',H=H'+1:=⟨H-1,by omega⟩
  have iha:=Tr.zEs a H' (by omega)
  have ihb:=Tr.zEs b H' (by omega)
  simp only[Tr.leaves,List.map_map,Function.comp_def,List.map_append,List.sum_append]
  have e:∀d,H'+1-(d+1)=H'-d:=fun d=>by omega
  simp only[e]
  rw[iha,ihb,Nat.pow_succ]
  omega
def fib:Nat->Nat
 |0=>0
 |1=>1
 |n+2=>fib (n+1)+fib n
theorem zO1:∀n,fib n<=fib (n+1)
 |0=>by decide
 |1=>by decide
 |n+2=>by show fib (n+1)+fib n<=fib (n+2)+fib (n+1);have:=zO1 n;show fib (n+1)+fib n<=(fib (n+1)+fib n)+fib (n+1);omega
theorem qA4 (h:m<=n):fib m<=fib n:=by
 obtain⟨k,rfl⟩:∃k,n=m+k:=⟨n-m,by omega⟩
 clear h
 induction k with
 |zero=>exact Nat.le_refl _
 |succ k ih=>exact Nat.le_trans ih (zO1 _)
structure Q where
 w:Nat
 x:Nat
 t:Tr
def before (a b:Q):Prop:=a.w<b.w\/(a.w=b.w/\a.x<b.x)
instance (a b:Q):Decidable (before a b):=inferInstanceAs (Decidable (_\/_))
theorem before_trans {a b c:Q} (h1:before a b) (h2:before b c):before a c:=by unfold before at*;omega
theorem before_total {a b:Q} (h:a.x≠b.x):¬before a b->before b a:=by unfold before;omega
theorem zPd {a b:Q} (h:before a b):a.w<=b.w:=by unfold before at h;omega
def ins (e:Q):List Q->List Q
 |[]=>[e]
 |y::r=>if before e y then e::y::r else y::ins e r
theorem zBh (e:Q):∀q:List Q,(ins e q).Perm (e::q)
 |[]=>List.Perm.refl _
 |y::r=>by
  unfold ins
  split
  ·exact List.Perm.refl _
  ·exact((zBh e r).cons y).trans (List.Perm.swap e y r)
theorem zH5 (e:Q):∀q:List Q,q.Pairwise before->(∀y∈q,y.x≠e.x)->(ins e q).Pairwise before
 |[],_,_=>by simp[ins]
 |y::r,h,hx=>by
  obtain⟨h1,h2⟩:=List.pairwise_cons.1 h
  unfold ins
  split
  ·rename_i hb
   refine List.pairwise_cons.2 ⟨fun z hz=> ?_,h⟩
   rcases List.mem_cons.1 hz with rfl|hz
   ·exact hb
   ·exact before_trans hb (h1 z hz)
  ·rename_i hb
   have hyb:before y e:=before_total (Ne.symm (hx y (by simp))) hb
   refine List.pairwise_cons.2 ⟨fun z hz=> ?_,zH5 e r h2 (fun z hz=>hx z (by simp[hz]))⟩
   rcases List.mem_cons.1 ((zBh e r).mem_iff.1 hz)with rfl|hz
   ·exact hyb
   ·exact h1 z hz
def build:Nat->Nat->List Q->List Q
 |0,_,q=>q
 |k+1,n,a::b::r=>build k (n+1) (ins ⟨a.w+b.w,n,.node a.t b.t⟩ r)
 |_+1,_,q=>q
def zAt:Nat->List Nat->List Q->List Q
 |_,[],q=>q
 |i,w::ws,q=>zAt (i+1) ws (ins ⟨w,i,.leaf i⟩ q)
def tree (ws:List Nat):Tr:=
 match build (ws.length-1) ws.length (zAt 0 ws [])with
 |[e]=>e.t
 |_=> .leaf 0
def zHh (t:Tr) (i:Nat):Nat:=((t.leaves.find? fun p=>p.1==i).map Prod.snd).getD 0
def lens (ws:List Nat):List Nat:=(List.range ws.length).map (zHh (tree ws))
structure Inv (m S n:Nat) (q:List Q):Prop where
 sorted:q.Pairwise before
 below:∀e∈q,e.x<n
 apart:(q.map Q.x).Nodup
 sum:(q.map Q.w).sum=S
 names:(q.flatMap fun e=>e.t.names).Perm (List.range m)
 fib1:∀e∈q,fib (e.t.height+2)<=e.w
 fib2:∀e∈q,∀f∈q,fib (e.t.height+1)<=f.w
theorem Inv.leaf {q:List Q} (h:Inv m S m q) (w:Nat) (hw:1<=w) (hall:∀e∈q,e.t.height=0/\1<=e.w):Inv (m+1) (S+w) (m+1) (ins ⟨w,m,.leaf m⟩ q):=by
 have hp:=zBh ⟨w,m,.leaf m⟩ q
 have hmem:∀e∈ins ⟨w,m,.leaf m⟩ q,e.t.height=0/\1<=e.w:=by
  intro e he
  rcases List.mem_cons.1 (hp.mem_iff.1 he)with rfl|he
  ·exact⟨rfl,hw⟩
  ·exact hall e he
 refine⟨zH5 _ _ h.sorted (fun y hy=>by have:=h.below y hy;show y.x≠m;omega),fun e he=> ?_,?_,?_,?_,fun e he=> ?_,fun e he f hf=> ?_⟩
 ·rcases List.mem_cons.1 (hp.mem_iff.1 he)with rfl|he
  ·exact Nat.lt_succ_self _
  ·have:=h.below e he;omega
 ·rw[(hp.map Q.x).nodup_iff,List.map_cons,List.nodup_cons]
  refine⟨fun hx=> ?_,h.apart⟩
  obtain⟨e,he,hex⟩:=List.mem_map.1 hx
  have:=h.below e he
  have hex:e.x=m:=hex
  omega
 ·rw[(hp.map Q.w).sum_nat,List.map_cons,List.sum_cons,h.sum]
  show w+S=_
  omega
 ·refine(hp.flatMap_right _).trans ?_
  rw[List.flatMap_cons,List.range_succ]
  show([m]++_).Perm _
  exact(List.perm_append_comm).trans (h.names.append_right _)
 ·obtain⟨h1,h2⟩:=hmem e he
  rw[h1];exact h2
 ·obtain⟨h1,_⟩:=hmem e he
  obtain⟨_,h2⟩:=hmem f hf
  rw[h1];exact h2
theorem Inv.join {a b:Q} {r:List Q} (h:Inv m S n (a::b::r)):Inv m S (n+1) (ins ⟨a.w+b.w,n,.node a.t b.t⟩ r):=by
 have hp:=zBh ⟨a.w+b.w,n,.node a.t b.t⟩ r
 obtain⟨s1,s2⟩:=List.pairwise_cons.1 h.sorted
 obtain⟨s3,s4⟩:=List.pairwise_cons.1 s2
 have hab:=zPd (s1 b (by simp))
 have hbe:∀e∈r,b.w<=e.w:=fun e he=>zPd (s3 e he)
 have fa:=h.fib1 a (by simp)
 have fb:=h.fib1 b (by simp)
 have fab:=h.fib2 a (by simp) b (by simp)
 have fba:=h.fib2 b (by simp) a (by simp)
 have hnew:fib (max a.t.height b.t.height+1+2)<=a.w+b.w:=by
  show fib (max a.t.height b.t.height+2)+fib (max a.t.height b.t.height+1)<=_
  rcases Nat.le_total a.t.height b.t.height with hh|hh
  ·rw[Nat.max_eq_right hh];omega
  ·rw[Nat.max_eq_left hh];omega
 have hnew2:∀w,b.w<=w->fib (max a.t.height b.t.height+1+1)<=w:=by
  intro w hw
  rcases Nat.le_total a.t.height b.t.height with hh|hh
  ·rw[Nat.max_eq_right hh];exact Nat.le_trans fb hw
  ·rw[Nat.max_eq_left hh];exact Nat.le_trans fa (Nat.le_trans hab hw)
 have hin:∀e∈ins ⟨a.w+b.w,n,.node a.t b.t⟩ r,e=⟨a.w+b.w,n,.node a.t b.t⟩\/e∈r:=fun e he=>List.mem_cons.1 (hp.mem_iff.1 he)
 have hr:∀e∈r,e∈a::b::r:=fun e he=>by simp[he]
 refine⟨zH5 _ _ s4 (fun y hy=>by have:=h.below y (hr y hy);show y.x≠n;omega),fun e he=> ?_,?_,?_,?_,fun e he=> ?_,fun e he f hf=> ?_⟩
 ·rcases hin e he with rfl|he
  ·exact Nat.lt_succ_self _
  ·have:=h.below e (hr e he);omega
 ·rw[(hp.map Q.x).nodup_iff,List.map_cons,List.nodup_cons]
  have ha:=h.apart
  rw[List.map_cons,List.map_cons,List.nodup_cons,List.nodup_cons]at ha
  refine⟨fun hx=> ?_,ha.2.2⟩
  obtain⟨e,he,hex⟩:=List.mem_map.1 hx
  have:=h.below e (hr e he)
  have hex:e.x=n:=hex
  omega
 ·rw[(hp.map Q.w).sum_nat,List.map_cons,List.sum_cons]
  have hs:=h.sum
  rw[List.map_cons,List.map_cons,List.sum_cons,List.sum_cons]at hs
  show a.w+b.w+_=S
  omega
 ·refine(hp.flatMap_right _).trans ?_
  rw[List.flatMap_cons]
  have hn:=h.names
  rw[List.flatMap_cons,List.flatMap_cons]at hn
  show((Tr.node a.t b.t).names++_).Perm _
  rw[Tr.zU1,List.append_assoc]
  exact hn
 ·rcases hin e he with rfl|he
  ·exact hnew
  ·exact h.fib1 e (hr e he)
 ·rcases hin e he with rfl|he
  ·rcases hin f hf with rfl|hf
   ·exact hnew2 _ (by show b.w<=a.w+b.w;omega)
   ·exact hnew2 _ (hbe f hf)
  ·rcases hin f hf with rfl|hf
   ·exact Nat.le_trans (h.fib2 e (hr e he) a (by simp)) (by show a.w<=a.w+b.w;omega)
   ·exact h.fib2 e (hr e he) f (hr f hf)
theorem Inv.start:∀(ws:List Nat) (i S:Nat) (q:List Q),Inv i S i q->(∀e∈q,e.t.height=0/\1<=e.w)->(∀w∈ws,1<=w)->Inv (i+ws.length) (S+ws.sum) (i+ws.length) (zAt i ws q)/\(zAt i ws q).length=q.length+ws.length
 |[],i,S,q,h,_,_=>⟨by simpa [zAt]using h,by simp[zAt]⟩
 |w::ws,i,S,q,h,hall,hw=>by
  have hp:=zBh ⟨w,i,.leaf i⟩ q
  have h1:=h.leaf w (hw w (by simp)) hall
  have h2:=Inv.start ws (i+1) (S+w) (ins ⟨w,i,.leaf i⟩ q) h1 (fun e he=>by
   rcases List.mem_cons.1 (hp.mem_iff.1 he)with rfl|he
   ·exact⟨rfl,hw w (by simp)⟩
   ·exact hall e he) (fun v hv=>hw v (by simp[hv]))
  rw[List.length_cons,List.sum_cons]
  rw[show i+1+ws.length=i+(ws.length+1)by omega,show S+w+ws.sum=S+(w+ws.sum)by omega]at h2
  refine⟨h2.1,?_⟩
  show(zAt (i+1) ws (ins ⟨w,i,.leaf i⟩ q)).length=_
  rw[h2.2,hp.length_eq,List.length_cons]
  omega
theorem zO9 (k n:Nat) (q:List Q) (h:k<q.length):(build k n q).length=q.length-k:=by
 induction k generalizing n q with
 |zero=>simp[build]
 |succ k ih=>
  match q,h with
  |a::b::r,h=>
   have hl:=(zBh ⟨a.w+b.w,n,.node a.t b.t⟩ r).length_eq
   rw[List.length_cons]at hl
   show(build k (n+1) _).length=_
   rw[ih _ _ (by rw[hl];simp at h;omega),hl]
   simp
theorem Inv.build (k n:Nat) (q:List Q) (h:Inv m S n q) (hl:k<q.length):Inv m S (n+k) (build k n q):=by
 induction k generalizing n q with
 |zero=>exact h
 |succ k ih=>
  match q,h,hl with
  |a::b::r,h,hl=>
   have hl2:=(zBh ⟨a.w+b.w,n,.node a.t b.t⟩ r).length_eq
   rw[List.length_cons]at hl2
   have:=ih (n+1) _ h.join (by rw[hl2];simp at hl;omega)
   rwa[show n+1+k=n+(k+1)by omega]at this
theorem Inv.nil:Inv 0 0 0 []:=⟨List.Pairwise.nil,fun e h=>(by cases h),List.nodup_nil,rfl,List.Perm.refl _,fun e h=>(by cases h),fun e h=>(by cases h)⟩
theorem zN9 (ws:List Nat) (h1:1<=ws.length) (hpos:∀w∈ws,1<=w):(tree ws).names.Perm (List.range ws.length)/\fib ((tree ws).height+2)<=ws.sum:=by
 obtain⟨hs,hl⟩:=Inv.start ws 0 0 [] Inv.nil (fun e h=>by cases h) hpos
 rw[Nat.zero_add,Nat.zero_add]at hs
 simp at hl
 have hb:=hs.build (ws.length-1) ws.length _ (by rw[hl];omega)
 have hbl:=zO9 (ws.length-1) ws.length (zAt 0 ws []) (by rw[hl];omega)
 rw[hl]at hbl
 unfold tree
 match hq:build (ws.length-1) ws.length (zAt 0 ws []),hbl with
 |[e],_=>
  rw[hq]at hb
  refine⟨by simpa using hb.names,?_⟩
  have:=hb.fib1 e (by simp)
  have hsum:=hb.sum
  simp at hsum
  rw[<-hsum]
  exact this
 |[],hbl=>simp at hbl;omega
 |_::_::_,hbl=>simp at hbl;omega
theorem zX4 {l:List (Nat×Nat)} (h:(l.map Prod.fst).Nodup) (hp:p∈l):l.find? (fun q=>q.1==p.1)=some p:=by
 induction l with
 |nil=>cases hp
 |cons q r ih=>
  rw[List.map_cons,List.nodup_cons]at h
  rw[List.find?_cons]
  rcases List.mem_cons.1 hp with rfl|hp
  ·simp
  ·have hne:(q.1==p.1)=false:=by
    rw[beq_eq_false_iff_ne]
    intro e
    exact h.1 (by rw[e];exact List.mem_map.2 ⟨p,hp,rfl⟩)
   rw[hne]
   exact ih h.2 hp
theorem zKs {t:Tr} (h:t.names.Nodup) (hp:p∈t.leaves):zHh t p.1=p.2:=by
 unfold zHh
 rw[zX4 h hp]
 rfl
theorem zSq {t:Tr} (h:t.names.Perm (List.range m)):t.leaves.Perm ((List.range m).map fun i=>(i,zHh t i)):=by
 have hn:t.names.Nodup:=h.nodup_iff.2 List.nodup_range
 have e:t.leaves=t.names.map fun i=>(i,zHh t i):=by
  unfold Tr.names
  rw[List.map_map]
  conv=>lhs;rw[<-List.map_id t.leaves]
  refine List.map_congr_left fun p hp=> ?_
  simp only[Function.comp,id]
  rw[zKs hn hp]
 rw[e]
 exact h.map _
theorem zC0 (ws:List Nat):(lens ws).length=ws.length:=by simp[lens]
theorem zJ (l:List Nat) (n:Nat):cnt l n=l.count n:=by
 unfold cnt whose
 have e:l=(List.range l.length).map fun s=>l.getD s 0:=by
  apply List.ext_getElem?
  intro i
  rw[List.getElem?_map]
  rcases Nat.lt_or_ge i l.length with h|h
  ·rw[List.getElem?_range h,List.getElem?_eq_getElem h]
   simp[List.getD_eq_getElem?_getD,List.getElem?_eq_getElem h]
  ·rw[List.getElem?_eq_none h,List.getElem?_eq_none (by simpa using h)]
   rfl
 conv=>rhs;rw[e]
 rw[List.count_eq_length_filter,List.filter_map,List.length_map]
 congr 1
def part (l:List Nat) (n:Nat):Nat:=(l.map fun x=>if x<=n then 2^(20-x)else 0).sum
theorem zXa (l:List Nat) (n:Nat):part l (n+1)=part l n+l.count (n+1)*2^(20-(n+1)):=by
 induction l with
 |nil=>simp[part]
 |cons x l ih=>
  unfold part at ih⊢
  rw[List.map_cons,List.map_cons,List.sum_cons,List.sum_cons,ih,List.count_cons]
  by_cases h:x=n+1
  ·subst h
   rw[if_pos (Nat.le_refl _),if_neg (by omega),beq_self_eq_true,if_pos rfl,Nat.add_mul,Nat.one_mul]
   omega
  ·have h2:(x==n+1)=false:=by simpa using h
   rw[h2]
   by_cases h3:x<=n
   ·rw[if_pos (by omega),if_pos h3];simp;omega
   ·rw[if_neg (by omega),if_neg h3];simp
theorem zOi:∀{l:List Nat},(∀x∈l,1<=x)->part l 0=0
 |[],_=>rfl
 |x::l,h=>by
  have ih:=zOi (l:=l) (fun y hy=>h y (by simp[hy]))
  have hx:=h x (by simp)
  unfold part at ih⊢
  rw[List.map_cons,List.sum_cons,ih,if_neg (by omega)]
theorem zMd {l:List Nat} (h:∀x∈l,1<=x):∀n,n<=20->(first l n+cnt l n)*2^(20-n)=part l n
 |0,_=>by
  rw[zOi h,zRt h]
  show(0+0)*_=0
  rw[Nat.add_zero,Nat.zero_mul]
 |n+1,hn=>by
  have ih:=zMd h n (by omega)
  rw[zXa,<-ih,zJ l (n+1)]
  show(2*(first l n+cnt l n)+_)*_=_
  rw[Nat.add_mul,show 20-n=20-(n+1)+1 by omega,Nat.pow_succ,Nat.mul_comm 2,Nat.mul_assoc,Nat.mul_comm 2]
theorem qC1 (l:List Nat) (n:Nat):part l n<=(l.map fun x=>2^(20-x)).sum:=by
 induction l with
 |nil=>simp[part]
 |cons x l ih=>
  unfold part at ih⊢
  rw[List.map_cons,List.map_cons,List.sum_cons,List.sum_cons]
  generalize 2^(20-x)=K
  split
  ·omega
  ·omega
theorem zU4 (ws:List Nat) (h2:2<=ws.length) (h258:ws.length<=258) (hpos:∀w∈ws,1<=w) (hsum:ws.sum<=20000):Right (lens ws):=by
 obtain⟨hn,hf⟩:=zN9 ws (by omega) hpos
 have hh:(tree ws).height<=20:=by
  rcases Nat.lt_or_ge 20 (tree ws).height with h|h
  ·have:=qA4 (show 23<=(tree ws).height+2 by omega)
   have h23:fib 23=28657:=by decide+kernel
   omega
  ·exact h
 have hp:=zSq hn
 have hall:∀x∈lens ws,1<=x/\x<=20:=by
  intro x hx
  unfold lens at hx
  obtain⟨i,hi,rfl⟩:=List.mem_map.1 hx
  have hl:(i,zHh (tree ws) i)∈(tree ws).leaves:=hp.mem_iff.2 (List.mem_map.2 ⟨i,hi,rfl⟩)
  refine⟨?_,Nat.le_trans ((tree ws).zLk _ hl) hh⟩
  cases ht:tree ws with
  |leaf j=>
   have:=hn.length_eq
   rw[ht]at this
   simp[Tr.names,Tr.leaves]at this
   omega
  |node a b=>
   rw[ht]at hl
   simp only[Tr.leaves,List.mem_map]at hl
   obtain⟨q,_,hq⟩:=hl
   injection hq with _ h5
   omega
 refine⟨by rw[zC0];exact h2,by rw[zC0];exact h258,fun x hx=>(hall x hx).1,fun x hx=>(hall x hx).2,fun n hn20=> ?_⟩
 have h1:=zMd (fun x hx=>(hall x hx).1) n hn20
 have h3:=qC1 (lens ws) n
 have h4:((lens ws).map fun x=>2^(20-x)).sum=2^20:=by
  have hk:=(tree ws).zEs 20 hh
  rw[(hp.map fun p=>2^(20-p.2)).sum_nat,List.map_map]at hk
  unfold lens
  rw[List.map_map]
  exact hk
 rw[h4,<-h1]at h3
 have h5:2^20=2^n*2^(20-n):=by rw[<-Nat.pow_add];congr 1;omega
 rw[h5]at h3
 exact Nat.le_of_mul_le_mul_right h3 (Nat.two_pow_pos _)
end Wg
end Go.Proofs.YtppnakkaljbmbaaGreatDoor
