/- Steps of a proof; no condition beyond what each states. -/
import Derived.Test.YtppnakkaljbmbaaGreatDoorZU26
set_option linter.unusedVariables false
set_option linter.unusedSimpArgs false
set_option maxRecDepth 100000
set_option maxHeartbeats 8000000
namespace Go.Proofs.YtppnakkaljbmbaaGreatDoor
namespace Ch
open Go.RowKit Front Bt Zr Ix Hf Wg
theorem three (W:World) (E:Nat) (hE:W.heap.size=E) (o1 o2 o3:Obj):(((W.alloc o1).alloc o2).alloc o3).heap[E]? =some o1/\(((W.alloc o1).alloc o2).alloc o3).heap[E+1]? =some o2/\(((W.alloc o1).alloc o2).alloc o3).heap[E+2]? =some o3/\Below E W (((W.alloc o1).alloc o2).alloc o3):=by
 subst hE
 have k1:Below (W.heap.size+1) (W.alloc o1) ((W.alloc o1).alloc o2):=(Below.refl _ _).alloc (by rw[zA];exact Nat.le_refl _) _
 have k2:Below (W.heap.size+2) ((W.alloc o1).alloc o2) (((W.alloc o1).alloc o2).alloc o3):=(Below.refl _ _).alloc (by rw[zA,zA];exact Nat.le_refl _) _
 refine⟨?_,?_,?_,(((Below.refl _ _).alloc (Nat.le_refl _) _).alloc (by rw[zA];omega) _).alloc (by rw[zA,zA];omega) _⟩
 ·exact(k2.block _ (by omega)).trans ((k1.block _ (by omega)).trans (zAh W o1))
 ·have h:=zAh (W.alloc o1) o2
  rw[zA]at h
  exact(k2.block _ (by omega)).trans h
 ·have h:=zAh ((W.alloc o1).alloc o2) o3
  rw[zA,zA]at h
  exact h
theorem zZ6 {w:World} {D:Nat} {p:Option Addr} {j c:Nat} {l:List Nat} (h:Kit.Own w D 3 p j c (l.map ival)) (x:Nat) (hj:j<=1000000) (hD:D<=w.heap.size):
  ∃p' c' w',(Builtin.append_ #[23,23] 23 #[.slice p j c,.slice (some ⟨w.heap.size,0,none⟩) 1 1]).run Tryz.prog (w.alloc (.cells #[.int .i64 (x:Int)] 3))= .ok (.slice p' (j+1) c') w'/\
   Kit.Own w' D 3 p' (j+1) c' ((l++[x]).map ival)/\Below D w w':=by
 obtain⟨p3,c3,w3,hr3,ho3,hg3⟩:=Kit.Own.app (ty:=23) (w:=w.alloc (.cells #[.int .i64 (x:Int)] 3)) zFn (h.alloc _) (some ⟨w.heap.size,0,none⟩) 1 1 [ival x] (Kit.zAs w _ 3) rfl (fun h=>by cases h) (zDr [x]) (by unfold maxLen;omega) (by omega) (by simp;omega)
 refine⟨p3,c3,w3,hr3,by rw[List.map_append];exact ho3,?_⟩
 exact((Below.refl _ _).alloc hD _).trans ((Below.refl _ _).grown hg3 (by simp;omega) (fun q hq=>h.block q hq))
theorem zL0 (m:List Nat) (n:Nat) (a:Option Addr) (k c:Nat) (w:World) (hk:m.length=k) (hkc:k<=c) (h1:1<=k) (hk2:k<=10000) (h2:2<=n) (h258:n<=258) (hs:Kit.Src w a (m.map ival)) (hm:∀s∈m,s<n) (ha:∀p,a=some p->p.block<w.heap.size):
  Calls Tryz.prog 23 #[.slice a k c,.int .i64 (n:Int)] w fun e w'=>∃p cp q cq G0 G1,e= .returned (.tuple #[.slice p 2 cp,.slice q (grp m).length cq,.int .i64 0])/\
   Kit.Src w' p [.slice (some ⟨G0,0,none⟩) n n,.slice (some ⟨G1,0,none⟩) n n]/\Kit.Src w' (some ⟨G0,0,none⟩) ((tb m n 0).map ival)/\Kit.Src w' (some ⟨G1,0,none⟩) ((tb m n 1).map ival)/\Kit.Src w' q ((chosen m n).map ival)/\Below w.heap.size w w':=by
 obtain⟨B,hB⟩:=zB w.heap.size
 have HO:=zH (zTr m a k c n w hk (by omega) hs hm)
 have j1:decide ((n:Int)<2)=false:=decide_eq_false (by omega)
 have j2:decide ((258:Int)<(n:Int))=false:=decide_eq_false (by omega)
 have j3:((k:Int)==0)=false:=by rw[beq_eq_false_iff_ne];omega
 have j4:decide ((1048576:Int)<(k:Int))=false:=decide_eq_false (by omega)
 have HS:=zH hs
 have HM:=zH hm
 have HK:=zH hk
 have HA:=zH ha
 have HBB:=zH hB
 clear hs hm hk ha
 rw[hB]
 go_enter Tryz.func23,Tryz.ntmps23
 go_wp2_with fail
 (with_reducible refine HO.out.mono ?_)
 rintro e w2 ⟨rfl,hb2⟩
 rw[hB]at hb2
 have B2:=zH hb2
 obtain⟨E,hE⟩:=zB w2.drew.heap.size
 have hBE:B<=E:=by rw[<-hE];exact Nat.le_trans (by rw[<-hB];exact Nat.le_refl _) hb2.size
 have HE:=zH hE
 clear hb2 HO hB hE j1 j2 j3 j4
 go_upto_region 5 with fail
 go_cut [7] (fun s7 wx=>∃x y z,s7= .pointer (some ⟨z,0,none⟩)/\RowKit.Hid (We B w m n 0 x y z wx))
 case first=>
  refine zS [] (fun _=>True) [0,1,0,4,10,0,63] 7<|zu 0 45 (zI n)<|zu 2 47 (zI n)<| ?_
  refine Kit.qEr 1 3 5 (by kernel_rfl) ?_ ?_ ?_
  ·
   refine Kit.zFb (some 46) (.slice (some ⟨E,0,none⟩) n n) 7 (by kernel_rfl) rfl rfl (by kernel_rfl) (zEr (x:= .tmp 45) (y:= .tmp 45) (n:=n) (by omega) rfl (by kernel_rfl) (by kernel_rfl) (by rw[HE.out]) rfl) (.inr (.inr trivial)) ?_
   refine Kit.zY4 3 5 (by kernel_rfl) ?_ ?_
   ·
    refine Kit.zFb (some 48) (.slice (some ⟨E+1,0,none⟩) n n) 15 (by kernel_rfl) rfl rfl (by kernel_rfl) (zEr (x:= .tmp 47) (y:= .tmp 47) (n:=n) (by omega) rfl (by kernel_rfl) (by kernel_rfl) (by rw[zA,HE.out]) rfl) (.inr (.inr trivial)) ?_
    refine zu 4 49 (.agg #[.slice (some ⟨E,0,none⟩) n n,.slice (some ⟨E+1,0,none⟩) n n])<|zo 5 7 (.pointer (some ⟨E+2,0,none⟩)) (Kit.zDa (w2:=((w2.drew.alloc (zi n)).alloc (zi n)).alloc z2) (by kernel_rfl) (by rw[zA,zA,HE.out]) rfl) (.inr (.inr trivial))<|zw 6 none (zr 162 7 49 (zG8 (n:=n) (x:=E) (y:=E+1) (z:=E+2) (three w2.drew E HE.out (zi n) (zi n) z2).2.2.1)) (.inr (.inr trivial))<|zE<| ?_
    simp only[zP,zI,Act.put,List.setIfInBounds_toArray,List.set_cons_zero,List.set_cons_succ]
    go_wp2
    go_meet
    obtain⟨q0,q1,q2,qb⟩:=three w2.drew E HE.out (zi n) (zi n) z2
    exact⟨E,E+1,E+2,rfl,zH (We.start m (B2.out.drew.trans (qb.mono hBE)) q0 q1 q2 (by omega) (by omega) (by omega) (by omega))⟩
   ·
    refine Kit.zFb (some 7) (.pointer (some ⟨E+1,0,none⟩)) 39 (by kernel_rfl) rfl rfl (by kernel_rfl) (Kit.zDa (w2:=(w2.drew.alloc (zi n)).alloc z2) (by kernel_rfl) (by rw[zA,HE.out]) rfl) (.inr (.inr trivial)) ?_
    refine zo 3 48 (.slice (some ⟨E+2,0,none⟩) n n) (zEr (x:= .tmp 47) (y:= .tmp 47) (n:=n) (by omega) rfl (by kernel_rfl) (by kernel_rfl) (by rw[zA,zA,HE.out]) rfl) (.inr (.inr trivial))<|zu 4 49 (.agg #[.slice (some ⟨E,0,none⟩) n n,.slice (some ⟨E+2,0,none⟩) n n])<|zw 6 none (zr 162 7 49 (zG8 (n:=n) (x:=E) (y:=E+2) (z:=E+1) (three w2.drew E HE.out (zi n) z2 (zi n)).2.1)) (.inr (.inr trivial))<|zE<| ?_
    simp only[zP,zI,Act.put,List.setIfInBounds_toArray,List.set_cons_zero,List.set_cons_succ]
    go_wp2
    go_meet
    obtain⟨q0,q1,q2,qb⟩:=three w2.drew E HE.out (zi n) z2 (zi n)
    exact⟨E,E+2,E+1,rfl,zH (We.start m (B2.out.drew.trans (qb.mono hBE)) q0 q2 q1 (by omega) (by omega) (by omega) (by omega))⟩
  ·
   refine Kit.zFb (some 48) (.slice (some ⟨E,0,none⟩) n n) 13 (by kernel_rfl) rfl rfl (by kernel_rfl) (zEr (x:= .tmp 47) (y:= .tmp 47) (n:=n) (by omega) rfl (by kernel_rfl) (by kernel_rfl) (by rw[HE.out]) rfl) (.inr (.inr trivial)) ?_
   refine Kit.zY4 1 5 (by kernel_rfl) ?_ ?_
   ·
    refine Kit.zFb (some 46) (.slice (some ⟨E+1,0,none⟩) n n) 15 (by kernel_rfl) rfl rfl (by kernel_rfl) (zEr (x:= .tmp 45) (y:= .tmp 45) (n:=n) (by omega) rfl (by kernel_rfl) (by kernel_rfl) (by rw[zA,HE.out]) rfl) (.inr (.inr trivial)) ?_
    refine zu 4 49 (.agg #[.slice (some ⟨E+1,0,none⟩) n n,.slice (some ⟨E,0,none⟩) n n])<|zo 5 7 (.pointer (some ⟨E+2,0,none⟩)) (Kit.zDa (w2:=((w2.drew.alloc (zi n)).alloc (zi n)).alloc z2) (by kernel_rfl) (by rw[zA,zA,HE.out]) rfl) (.inr (.inr trivial))<|zw 6 none (zr 162 7 49 (zG8 (n:=n) (x:=E+1) (y:=E) (z:=E+2) (three w2.drew E HE.out (zi n) (zi n) z2).2.2.1)) (.inr (.inr trivial))<|zE<| ?_
    simp only[zP,zI,Act.put,List.setIfInBounds_toArray,List.set_cons_zero,List.set_cons_succ]
    go_wp2
    go_meet
    obtain⟨q0,q1,q2,qb⟩:=three w2.drew E HE.out (zi n) (zi n) z2
    exact⟨E+1,E,E+2,rfl,zH (We.start m (B2.out.drew.trans (qb.mono hBE)) q1 q0 q2 (by omega) (by omega) (by omega) (by omega))⟩
   ·
    refine Kit.zFb (some 7) (.pointer (some ⟨E+1,0,none⟩)) 45 (by kernel_rfl) rfl rfl (by kernel_rfl) (Kit.zDa (w2:=(w2.drew.alloc (zi n)).alloc z2) (by kernel_rfl) (by rw[zA,HE.out]) rfl) (.inr (.inr trivial)) ?_
    refine zo 1 46 (.slice (some ⟨E+2,0,none⟩) n n) (zEr (x:= .tmp 45) (y:= .tmp 45) (n:=n) (by omega) rfl (by kernel_rfl) (by kernel_rfl) (by rw[zA,zA,HE.out]) rfl) (.inr (.inr trivial))<|zu 4 49 (.agg #[.slice (some ⟨E+2,0,none⟩) n n,.slice (some ⟨E,0,none⟩) n n])<|zw 6 none (zr 162 7 49 (zG8 (n:=n) (x:=E+2) (y:=E) (z:=E+1) (three w2.drew E HE.out (zi n) z2 (zi n)).2.1)) (.inr (.inr trivial))<|zE<| ?_
    simp only[zP,zI,Act.put,List.setIfInBounds_toArray,List.set_cons_zero,List.set_cons_succ]
    go_wp2
    go_meet
    obtain⟨q0,q1,q2,qb⟩:=three w2.drew E HE.out (zi n) z2 (zi n)
    exact⟨E+2,E,E+1,rfl,zH (We.start m (B2.out.drew.trans (qb.mono hBE)) q2 q0 q1 (by omega) (by omega) (by omega) (by omega))⟩
  ·
   refine Kit.zFb (some 7) (.pointer (some ⟨E,0,none⟩)) 37 (by kernel_rfl) rfl rfl (by kernel_rfl) (Kit.zDa (w2:=w2.drew.alloc z2) (by kernel_rfl) (by rw[HE.out]) rfl) (.inr (.inr trivial)) ?_
   refine Kit.zY4 1 3 (by kernel_rfl) ?_ ?_
   ·
    refine Kit.zFb (some 46) (.slice (some ⟨E+1,0,none⟩) n n) 39 (by kernel_rfl) rfl rfl (by kernel_rfl) (zEr (x:= .tmp 45) (y:= .tmp 45) (n:=n) (by omega) rfl (by kernel_rfl) (by kernel_rfl) (by rw[zA,HE.out]) rfl) (.inr (.inr trivial)) ?_
    refine zo 3 48 (.slice (some ⟨E+2,0,none⟩) n n) (zEr (x:= .tmp 47) (y:= .tmp 47) (n:=n) (by omega) rfl (by kernel_rfl) (by kernel_rfl) (by rw[zA,zA,HE.out]) rfl) (.inr (.inr trivial))<|zu 4 49 (.agg #[.slice (some ⟨E+1,0,none⟩) n n,.slice (some ⟨E+2,0,none⟩) n n])<|zw 6 none (zr 162 7 49 (zG8 (n:=n) (x:=E+1) (y:=E+2) (z:=E) (three w2.drew E HE.out z2 (zi n) (zi n)).1)) (.inr (.inr trivial))<|zE<| ?_
    simp only[zP,zI,Act.put,List.setIfInBounds_toArray,List.set_cons_zero,List.set_cons_succ]
    go_wp2
    go_meet
    obtain⟨q0,q1,q2,qb⟩:=three w2.drew E HE.out z2 (zi n) (zi n)
    exact⟨E+1,E+2,E,rfl,zH (We.start m (B2.out.drew.trans (qb.mono hBE)) q1 q2 q0 (by omega) (by omega) (by omega) (by omega))⟩
   ·
    refine Kit.zFb (some 48) (.slice (some ⟨E+1,0,none⟩) n n) 45 (by kernel_rfl) rfl rfl (by kernel_rfl) (zEr (x:= .tmp 47) (y:= .tmp 47) (n:=n) (by omega) rfl (by kernel_rfl) (by kernel_rfl) (by rw[zA,HE.out]) rfl) (.inr (.inr trivial)) ?_
    refine zo 1 46 (.slice (some ⟨E+2,0,none⟩) n n) (zEr (x:= .tmp 45) (y:= .tmp 45) (n:=n) (by omega) rfl (by kernel_rfl) (by kernel_rfl) (by rw[zA,zA,HE.out]) rfl) (.inr (.inr trivial))<|zu 4 49 (.agg #[.slice (some ⟨E+2,0,none⟩) n n,.slice (some ⟨E+1,0,none⟩) n n])<|zw 6 none (zr 162 7 49 (zG8 (n:=n) (x:=E+2) (y:=E+1) (z:=E) (three w2.drew E HE.out z2 (zi n) (zi n)).1)) (.inr (.inr trivial))<|zE<| ?_
    simp only[zP,zI,Act.put,List.setIfInBounds_toArray,List.set_cons_zero,List.set_cons_succ]
    go_wp2
    go_meet
    obtain⟨q0,q1,q2,qb⟩:=three w2.drew E HE.out z2 (zi n) (zi n)
    exact⟨E+2,E+1,E,rfl,zH (We.start m (B2.out.drew.trans (qb.mono hBE)) q2 q1 q0 (by omega) (by omega) (by omega) (by omega))⟩
 case rest=>
  obtain⟨x,y,z,rfl,hwe⟩:=hcut
  have hD:∃D,wc.heap.size=D:=⟨_,rfl⟩
  obtain⟨D,hD⟩:=hD
  have hBD:B<=D:=by rw[<-hD,<-HBB.out];exact hwe.out.below.size
  have hxD:x<D:=by rw[<-hD];exact hwe.out.ax.lt
  have hyD:y<D:=by rw[<-hD];exact hwe.out.ay.lt
  have HG:=zH (zH8 m a k c wc HK.out (by omega) hkc (HS.out.below (by rw[HBB.out];exact hwe.out.below)) (fun p hp=>by
   have h1:=HA.out p hp
   rw[HBB.out]at h1
   omega))
  rw[hD]at HG
  go_wp2_with fail
  (with_reducible refine HG.out.mono ?_)
  rintro e w4 ⟨p,cg,vs,rfl,hgr,hb4⟩
  have hKp:0<(grp m).length:=by rw[zBx,HK.out];omega
  obtain⟨g0,rfl,hDg,_⟩:=hgr.own.at_ hKp
  have GR:=zH hgr
  have WE:=zH (hwe.out.grow (by rw[hD];exact hb4))
  have hK10:(grp m).length=(k+9)/10:=by rw[zBx,HK.out]
  obtain⟨K,hK⟩:=zB ((grp m).length)
  rw[hK]at GR hK10⊢
  have HKK:=zH hK
  have HD:=zH hD
  have hKa:10*K<=k+9:=by omega
  have hKb:k<=10*K:=by omega
  have hKc:0<K:=by omega
  clear hK10
  clear hgr hwe hb4 HG hKp hK hD
  go_wp2
  go_loopw [54] (fun iv wr=>∃i:Nat,i<=K/\iv= .int .i64 i/\RowKit.Hid (We B w m n (min (10*i) k) x y z wr)/\RowKit.Hid (Gr wr D (some ⟨g0,0,none⟩) K cg vs (grp m))) (fun iv _=>K-(intOf iv).toNat)
  case atStart=>exact⟨0,by omega,rfl,WE,GR⟩
  case round=>
   clear WE GR
   obtain⟨i,hi,rfl,hwe,hgr⟩:=hrel
   by_cases hlt:i<K
   ·obtain⟨g,hg⟩:∃g,(grp m)[i]? =some g:=⟨_,List.getElem?_eq_getElem (by rw[HKK.out];exact hlt)⟩
    obtain⟨G,c',hv,hgc,hown⟩:=hgr.out.each i g hg
    have hgd:g=(m.drop (10*i)).take 10:=by
     have h5:=zJy m i (by rw[HK.out];omega)
     rw[hg]at h5
     exact Option.some.inj h5
    have hgl:g.length=min 10 (k-10*i):=by rw[hgd,List.length_take,List.length_drop,HK.out]
    obtain⟨L,hL⟩:=zB g.length
    rw[hL]at hv hgc hgl
    have hi10:10*i<=k:=by omega
    rw[Nat.min_eq_left hi10]at hwe
    have GG:=zH (show ∀j,j<L->∃s,g[j]? =some s/\m.getD (10*i+j) 0=s/\s<n from fun j hj=>by
     have h5:j<g.length:=by rw[hL];exact hj
     have h8:g[j]∈g:=List.getElem_mem h5
     have h7:=List.getElem?_eq_getElem h5
     obtain⟨s,hs⟩:=zB (g[j])
     rw[hs]at h7 h8
     have h6:=h7
     rw[hgd,List.getElem?_take_of_lt (by omega),List.getElem?_drop]at h6
     exact⟨s,h7,by rw[List.getD_eq_getElem?_getD,h6];rfl,HM.out _ ((zHg (List.mem_of_getElem? hg)).2.2 _ h8)⟩)
    obtain⟨g0',hg0,_,_,_,hcell,_⟩:=hgr.out.own.at_ (by omega)
    injection hg0 with hg0
    injection hg0 with hg0 _ _
    subst hg0
    have x0:=hcell i hlt
    rw[hv]at x0
    have HL:=zH hL
    have HV:=zH hv
    have HGI:=zH hg
    have hL10:L<=10:=by omega
    clear hgd hcell hv hL hown hg
    go_wp2
    clear x0
    go_loopw [61] (fun jv wr=>∃j:Nat,j<=L/\jv= .int .i64 j/\RowKit.Hid (We B w m n (10*i+j) x y z wr)/\RowKit.Hid (Gr wr D (some ⟨g0,0,none⟩) K cg vs (grp m))) (fun jv _=>L-(intOf jv).toNat)
    case atStart=>exact⟨0,by omega,rfl,hwe,hgr⟩
    case round=>
     clear hwe hgr
     obtain⟨j,hj,rfl,hwe,hgr⟩:=hrel
     by_cases hlt2:j<L
     ·obtain⟨s,hs1,hs2,hs3⟩:=GG.out j hlt2
      obtain⟨G',c'',hv',_,hown⟩:=hgr.out.each i g HGI.out
      rw[HV.out]at hv'
      injection hv' with hv'
      injection hv' with hv1 _ hv2
      injection hv1 with hv1
      injection hv1 with hv1 _ _
      subst hv1 hv2
      obtain⟨g0',hg0,_,_,_,hcell,_⟩:=hown.at_ (by rw[HL.out];omega)
      injection hg0 with hg0
      injection hg0 with hg0 _ _
      subst hg0
      have x0:=hcell j (by rw[HL.out];exact hlt2)
      rw[List.getElem?_map,hs1,Option.map_some]at x0
      obtain⟨q,hq⟩:=zB (i%2)
      have hq2:q<2:=by omega
      obtain⟨x1,ha,hBX,_⟩:=hwe.out.get q hq2
      have hXD:zDc q x y<D:=by unfold zDc;split<;>assumption
      have hst:=hwe.out.step q s (by omega) hs2 (V:=((wt m (10*i+j) q s:Nat):Int)+1) (by omega)
      have hgr2:=hgr.out.set (i:=s) hXD (.int .i64 (((wt m (10*i+j) q s:Nat):Int)+1))
      obtain⟨X,hX⟩:=zB (zDc q x y)
      rw[hX]at x1 ha hst hgr2
      have x2:=ha.cell s hs3
      have x3:=ha.free s
      have hwl:=qBx m (10*i+j) q s
      obtain⟨u,hu⟩:=zB (wt m (10*i+j) q s)
      rw[hu]at x2 hst hgr2 hwl
      have hmd:(i:Int).tmod 2=(q:Int):=by rw[Int.tmod_eq_emod_of_nonneg (by omega)];omega
      have WE:=zH hst
      have GR:=zH hgr2
      clear hs1 hs2 hown hcell hq hst hgr2 hX hu ha hwe hgr
      go_wp2
      go_roundw
      case rel=>exact⟨j+1,by omega,by go_num,WE,GR⟩
      case measure=>simp only[intOf];omega
     ·obtain rfl:L=j:=by omega
      have hmn:10*i+L=min (10*(i+1)) k:=by omega
      rw[hmn]at hwe
      clear hmn
      go_wp2
      go_roundw
      case rel=>exact⟨i+1,by omega,by go_num,hwe,hgr⟩
      case measure=>simp only[intOf];omega
   ·obtain rfl:K=i:=by omega
    rw[show min (10*K) k=k by omega]at hwe
    have hzz:=hwe.out.az
    have hinf:(Tryz.prog.info? TA).map (·.size)=some 2:=by kernel_rfl
    have HZ:=zH hzz
    have HI:=zH hinf
    have BW:=zH hwe.out.below
    have HW:=zH (show ∀q,q<2->Kit.Src wr (some ⟨zDc q x y,0,none⟩) ((ws m n q).map ival)from fun q hq=>by
     obtain⟨_,ha,_,_⟩:=hwe.out.get q hq
     have e:ws m n q=(List.range n).map (wt m k q):=by unfold ws;rw[HK.out]
     rw[e]
     exact zTe ha (by simp) (fun i hi=>by rw[List.length_map,List.length_range]at hi;rw[List.getElem?_map,List.getElem?_range hi];rfl))
    obtain⟨F,hF⟩:=zB wr.heap.size
    have hFB:B<=F:=by rw[<-hF,<-HBB.out];exact hwe.out.below.size
    have HF:=zH hF
    have hcs:∃cs:Array Value,#[Value.slice (some ⟨x,0,none⟩) n n,Value.slice (some ⟨y,0,none⟩) n n]=cs:=⟨_,rfl⟩
    obtain⟨cs,hcs⟩:=hcs
    have HCS:=zH (show ∀q,q<2->cs[q]? =some (.slice (some ⟨zDc q x y,0,none⟩) n n)from fun q hq=>by
     rw[<-hcs]
     obtain rfl|rfl:q=0\/q=1:=by omega
     ·rfl
     ·rfl)
    rw[hcs]at HZ
    have HSZ:=zH (show(Tryz.prog.info? TA).map (·.size)=some cs.size by rw[<-hcs];exact hinf)
    clear hzz hinf hwe hF hcs HI
    go_wp2_with (refine wpList_load_row rfl TA (.tmp 7) rfl z rfl TA cs (0,0) (.array 2 TL_) HZ.out Tryz.underlying162 rfl HSZ.out ?_)
    obtain⟨wo,rfl⟩:∃wo,wo=wr:=⟨_,rfl⟩
    go_loopw [4,77] (fun tv jv wr=>∃(j cp:Nat) (p:Option Addr) (us:List Value),j<=2/\jv= .int .i64 j/\tv= .slice p j cp/\RowKit.Hid (Tb wr F n p j cp us ((List.range j).map (tb m n)))/\RowKit.Hid (Below F wo wr)) (fun _ jv _=>2-(intOf jv).toNat)
    case atStart=>exact⟨0,0,none,[],by omega,rfl,rfl,zH (Tb.start _ _ _),zH (Below.refl _ _)⟩
    case round=>
     obtain⟨j,cp,p,us,hj,rfl,rfl,htb,hb⟩:=hrel
     by_cases hlt3:j<2
     ·have hix:=zE8 (P:=Tryz.prog) (t:=TA) (n:=2) (e:=TL_) Tryz.underlying162 (fun _=>Tryz.isAgg23 _) (fun _=>Tryz.sizeOf23 _) cs j _ hlt3 (HCS.out j hlt3) wr
      have hsum:(Ch.one (ws m n j)).sum<=20000:=by
       have h5:=zNg (ws m n j)
       have h6:=zV4 m n j
       rw[zLv]at h5
       rw[HK.out]at h6
       omega
      have HLN:=zH (zKj (ws m n j) (some ⟨zDc j x y,0,none⟩) n n 20 wr (zLv m n j) h2 h258 ((HW.out j hlt3).below (by rw[HF.out];exact hb.out)) hsum (fun u hu=>by
       obtain⟨q,_,rfl⟩:=List.mem_map.1 hu
       have:=qBx m m.length j q
       rw[HK.out]at this
       rw[HK.out]
       omega) (by omega) (by omega) (fun u hu=>(zDn m n j h2 h258 (by rw[HK.out];exact hk2)).top u hu))
      rw[show((20:Nat):Int)=20 from rfl]at HLN
      clear hsum
      go_wp2_with fail
      (with_reducible refine HLN.out.mono ?_)
      rintro e w6 ⟨G,rfl,hG,hs6,ht6,hb6⟩
      have hbz:=hb.out.size
      rw[HF.out]at hbz
      obtain⟨p2,c2,w7,hr7,htb7,hb7⟩:=(htb.out.grow hb6).app hs6 ht6 (by omega) (by omega) (by have:=hb6.size;omega)
      have TB:=zH (show Tb w7 F n p2 (j+1) c2 (us++[.slice (some ⟨G,0,none⟩) n n]) ((List.range (j+1)).map (tb m n))from by
       rw[List.range_succ,List.map_append];exact htb7)
      have HB:=zH (hb.out.trans ((hb6.mono hbz).trans hb7))
      clear HLN htb htb7 hb hb6 hb7 hs6 ht6 hG
      go_wp2_with (at_builtin;refine Kit.zAr rfl (.tmp 85) (.tmp 87) 60 rfl rfl rfl hr7 ?_)
      go_roundw
      case rel=>exact⟨j+1,c2,p2,_,by omega,by go_num,rfl,TB,HB⟩
      case measure=>simp only[intOf];omega
     ·obtain rfl:j=2:=by omega
      rw[show((2:Nat):Int)=(2:Int)from rfl]
      obtain⟨pp,rfl,hFp,hpl,_,hcell,_⟩:=htb.out.own.at_ (by omega)
      obtain⟨G0,v0,t0,i0,hG0⟩:=htb.out.each 0 (tb m n 0) rfl
      obtain⟨G1,v1,t1,i1,hG1⟩:=htb.out.each 1 (tb m n 1) rfl
      have y0:=hcell 0 (by omega)
      have y1:=hcell 1 (by omega)
      rw[v0]at y0
      rw[v1]at y1
      have S0:=zH t0
      have S1:=zH t1
      have HP:=zH (show Kit.Src wr (some ⟨pp,0,none⟩) [.slice (some ⟨G0,0,none⟩) n n,.slice (some ⟨G1,0,none⟩) n n]from by
       intro i u hu
       refine⟨pp,0,rfl,?_⟩
       rw[Nat.zero_add]
       match i,hu with
       |0,hu=>rw[y0];simpa using hu
       |1,hu=>rw[y1];simpa using hu
       |i+2,hu=>simp at hu)
      have Y0:=zH y0
      have Y1:=zH y1
      obtain⟨H,hH⟩:=zB wr.heap.size
      have hbz:=hb.out.size
      rw[HF.out,hH]at hbz
      have HH:=zH hH
      have HB:=zH hb.out
      have GR:=zH (hgr.out.below hb.out (by rw[HF.out];exact Nat.le_refl _))
      have hpH:pp<H:=by rw[<-hH];exact hpl
      obtain⟨R0,hR0⟩:=zB (tb m n 0)
      obtain⟨R1,hR1⟩:=zB (tb m n 1)
      have HR0:=zH (show Right R0 by rw[<-hR0];exact zDn m n 0 h2 h258 (by rw[HK.out];exact hk2))
      have HR1:=zH (show Right R1 by rw[<-hR1];exact zDn m n 1 h2 h258 (by rw[HK.out];exact hk2))
      have HN0:=zH (show R0.length=n by rw[<-hR0,zG5])
      have HN1:=zH (show R1.length=n by rw[<-hR1,zG5])
      have HC:=zH (show chosen m n=(grp m).map (zGi R0 R1)by rw[<-hR0,<-hR1];rfl)
      rw[hR0]at S0
      rw[hR1]at S1
      have RE0:=zH hR0
      have RE1:=zH hR1
      clear hR0 hR1 htb hb hcell v0 v1 t0 t1 i0 i1 hH y0 y1 hpl hgr
      obtain⟨wt_,rfl⟩:∃wo,wo=wr:=⟨_,rfl⟩
      go_wp2
      go_loopw [5,92] (fun qv iv wr=>∃(i cq:Nat) (q:Option Addr),i<=K/\iv= .int .i64 i/\qv= .slice q i cq/\RowKit.Hid (Kit.Own wr H 3 q i cq ((((grp m).take i).map (zGi R0 R1)).map ival))/\RowKit.Hid (Below H wt_ wr)) (fun _ iv _=>K-(intOf iv).toNat)
      case atStart=>exact⟨0,0,none,by omega,rfl,rfl,zH (Kit.Own.start _ _ _),zH (Below.refl _ _)⟩
      case round=>
       obtain⟨i,cq,q,hi,rfl,rfl,hown,hb⟩:=hrel
       have hb':Below wt_.heap.size wt_ wr:=by rw[HH.out];exact hb.out
       by_cases hlt:i<K
       ·obtain⟨g,hg⟩:∃g,(grp m)[i]? =some g:=⟨_,List.getElem?_eq_getElem (by rw[HKK.out];exact hlt)⟩
        have hgr:=GR.out.below hb' (Nat.le_refl _)
        obtain⟨G,c',hv,hgc,howng⟩:=hgr.each i g hg
        obtain⟨hg1,hg2,hg3⟩:=zHg (List.mem_of_getElem? hg)
        obtain⟨L,hL⟩:=zB g.length
        rw[hL]at hv hgc howng hg2
        obtain⟨g0',hg0,_,_,_,hcell,_⟩:=hgr.own.at_ (by omega)
        injection hg0 with hg0
        injection hg0 with hg0 _ _
        subst hg0
        have x0:=hcell i hlt
        rw[hv]at x0
        have x1:wr.cell? ⟨pp,0,none⟩=some (.slice (some ⟨G0,0,none⟩) n n):=by
         rw[<-Y0.out];simp only[World.cell?,hb.out.block pp hpH]
        have x2:wr.cell? ⟨pp,1,none⟩=some (.slice (some ⟨G1,0,none⟩) n n):=by
         rw[<-Y1.out];simp only[World.cell?,hb.out.block pp hpH]
        have hgn:∀u∈g,u<n:=fun u hu=>HM.out u (hg3 u hu)
        have HB0:=zH (zRy R0 g (some ⟨G0,0,none⟩) n n (some ⟨G,0,none⟩) L c' wr HN0.out (S0.out.below hb') HR0.out hL (by omega) howng.src hgn)
        have HB1:=zH (fun W (hW:Below wr.heap.size wr W)=>zRy R1 g (some ⟨G1,0,none⟩) n n (some ⟨G,0,none⟩) L c' W HN1.out ((S1.out.below hb').below hW) HR1.out hL (by omega) (howng.src.below hW) hgn)
        have HG:=zH hg
        have HWN:=zH hown
        have hbz2:=hb.out.size
        rw[HH.out]at hbz2
        obtain⟨c0,hc0⟩:=zB (cost R0 g)
        obtain⟨c1,hc1⟩:=zB (cost R1 g)
        have HPK:=zH (show zGi R0 R1 g=if c1<c0 then 1 else 0 by rw[<-hc0,<-hc1];rfl)
        rw[hc0]at HB0
        rw[hc1]at HB1
        clear hg hv hcell hgr howng hg1 hg3 hgn hL hown hc0 hc1 hb'
        go_wp2_with fail
        (with_reducible refine HB0.out.mono ?_)
        rintro e w8 ⟨rfl,hb8⟩
        have X2:=zH x2
        have HB2:=zH (HB1.out w8 hb8)
        have x3:w8.cell? ⟨pp,1,none⟩=some (.slice (some ⟨G1,0,none⟩) n n):=by
         rw[<-x2];simp only[World.cell?,hb8.block pp (by omega)]
        have B8:=zH hb8
        clear x0 x1 x2 hb8 HB0 HB1
        go_wp2_with fail
        (with_reducible refine HB2.out.mono ?_)
        rintro e w9 ⟨rfl,hb9⟩
        have hb9':Below H wr w9:=(B8.out.mono (by omega)).trans (hb9.mono (by have:=B8.out.size;omega))
        have hb9'':Below wr.heap.size wr w9:=B8.out.trans (hb9.mono B8.out.size)
        have hz9:=hb9'.size
        obtain⟨u,hu⟩:=zB (zGi R0 R1 g)
        obtain⟨p3,c3,w10,hr10,ho10,hb10⟩:=zZ6 (HWN.out.out.below hb9'' (Nat.le_refl _)) u (by omega) (by omega)
        have HO:=zH (show Kit.Own w10 H 3 p3 (i+1) c3 ((((grp m).take (i+1)).map (zGi R0 R1)).map ival)from by
         rw[List.take_succ_eq_append_getElem (by rw[HKK.out];exact hlt),List.map_append]
         have h6:(grp m)[i]'(by rw[HKK.out];exact hlt)=g:=by
          have h7:=HG.out
          rw[List.getElem?_eq_getElem (by rw[HKK.out];exact hlt)]at h7
          exact Option.some.inj h7
         rw[h6]
         simp only[List.map_cons,List.map_nil,hu]
         exact ho10)
        have HBB2:=zH (hb.out.trans (hb9'.trans hb10))
        rw[hu]at HPK
        clear hb9 hb9' hb9'' hb10 ho10 HB2 x3 X2 hu HWN hb
        by_cases hc:c1<c0
        ·have hu1:u=1:=by rw[HPK.out,if_pos hc]
         subst hu1
         have hdc:decide ((c1:Int)<(c0:Int))=true:=decide_eq_true (by omega)
         go_wp2_with (at_builtin;refine Kit.zAr rfl (.tmp 115) (.tmp 117) 23 rfl rfl rfl hr10 ?_)
         go_roundw
         case rel=>exact⟨i+1,c3,p3,by omega,by go_num,rfl,HO,HBB2⟩
         case measure=>simp only[intOf];omega
        ·have hu1:u=0:=by rw[HPK.out,if_neg hc]
         subst hu1
         have hdc:decide ((c1:Int)<(c0:Int))=false:=decide_eq_false (by omega)
         go_wp2_with (at_builtin;refine Kit.zAr rfl (.tmp 115) (.tmp 117) 23 rfl rfl rfl hr10 ?_)
         go_roundw
         case rel=>exact⟨i+1,c3,p3,by omega,by go_num,rfl,HO,HBB2⟩
         case measure=>simp only[intOf];omega
       ·obtain rfl:K=i:=by omega
        have HE1:=zH (show(grp m).take K=grp m from List.take_of_length_le (by rw[HKK.out];exact Nat.le_refl _))
        rw[HE1.out]at hown
        have HF1:=zH (HP.out.below hb')
        have HF2:=zH (S0.out.below hb')
        have HF3:=zH (S1.out.below hb')
        have HF4:=zH (BW.out.trans ((HB.out.mono hFB).trans (hb.out.mono (by omega))))
        clear hb'
        go_wp2
        refine bodyPost_ret (v:= .tuple #[.slice (some ⟨pp,0,none⟩) 2 cp,.slice q K cq,.int .i64 0]) (by kernel_rfl) rfl ?_
        rw[HC.out,RE0.out,RE1.out,HKK.out]
        exact⟨_,_,_,_,G0,G1,rfl,HF1.out,HF2.out,HF3.out,hown.out.src,HF4.out⟩
end Ch
end Go.Proofs.YtppnakkaljbmbaaGreatDoor
