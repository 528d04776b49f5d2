/- Steps of a proof; no condition beyond what each states. -/
import Derived.Test.YtppnakkaljbmbaaGreatDoorZU16
import Derived.Test.YtppnakkaljbmbaaGreatDoorZU21
set_option linter.unusedVariables false
set_option linter.unusedSimpArgs false
set_option maxRecDepth 100000
set_option maxHeartbeats 8000000
namespace Go.Proofs.YtppnakkaljbmbaaGreatDoor
namespace St
open Go.RowKit Go.Lib Go.Sort Go.Proofs Tn Bt Front Zr Ix Us
def zLl (l:List UInt8) (k:Nat):UInt8:=l.getD (k%l.length) 0
def lastB (l:List UInt8) (o:List Nat):List UInt8:=o.map fun k=>zLl l (k+l.length-1)
theorem qHl (l:List UInt8) (h:0<l.length) (k:Nat):(zLl l k).toNat=cyc (l.map UInt8.toNat) k:=by
 unfold zLl cyc
 have hk:k%l.length<l.length:=Nat.mod_lt _ h
 simp[List.getD_eq_getElem?_getD,List.getElem?_eq_getElem hk]
theorem zXn (l:List UInt8) (h:0<l.length) (o:List Nat):(lastB l o).map UInt8.toNat=lastOf (l.map UInt8.toNat) o:=by
 unfold lastB lastOf
 rw[List.map_map]
 refine List.map_congr_left (fun k _=> ?_)
 rw[Function.comp,qHl l h,List.length_map]
def zF1 (s:ByteArray):List Nat:=zHx (bl s)
def zA8 (s:ByteArray):Nat:=(zF1 s).idxOf 0
def lastT (s:ByteArray):ByteArray:=⟨(lastB s.data.toList (zF1 s)).toArray⟩
theorem zF0 (s:ByteArray):(zF1 s).length=s.size:=by unfold zF1 zHx;rw[zCn,zB2]
theorem zQ0 (s:ByteArray) (h:0<s.size):0∈zF1 s:=by
 have h1:=(zD5 (bl s)).perm
 refine h1.mem_iff.2 (List.mem_range.2 ?_)
 rw[zB2];exact h
theorem zDq (s:ByteArray) (h:0<s.size):zA8 s<s.size:=by
 have h1:=List.idxOf_lt_length_iff.2 (zQ0 s h)
 rw[zF0]at h1
 exact h1
theorem zLd (s:ByteArray) (h:0<s.size):(zF1 s).getD (zA8 s) 0=0:=by
 have h1:=List.idxOf_lt_length_iff.2 (zQ0 s h)
 unfold zA8
 rw[List.getD_eq_getElem?_getD,List.getElem?_eq_getElem h1]
 exact List.getElem_idxOf h1
theorem zCp (s:ByteArray):(lastT s).size=s.size:=by
 show(lastB _ _).toArray.size=_
 simp[lastB,zF0]
def Tu (s t:ByteArray) (k:Nat):Prop:=t.size=s.size/\∀h:t.size-1<t.size,t[t.size-1]=zLl s.data.toList (k+s.size-1)
theorem qGx (s:ByteArray) (k:Nat) (hk:k<s.size):Tu s (s.extract k s.size++s.extract 0 k) k:=by
 have hsz:(s.extract k s.size++s.extract 0 k).size=s.size:=by
  rw[ByteArray.size_append,ByteArray.size_extract,ByteArray.size_extract];omega
 refine⟨hsz,fun h=> ?_⟩
 unfold zLl
 have hl:s.data.toList.length=s.size:=by simp
 rw[hl]
 have hg:∀(j:Nat) (hj:j<s.size),s.data.toList.getD j 0=s[j]:=fun j hj=>by
  rw[List.getD_eq_getElem?_getD,List.getElem?_eq_getElem (by rw[hl];exact hj)];rfl
 by_cases h0:k=0
 ·subst h0
  rw[show(0+s.size-1)%s.size=s.size-1 from by rw[Nat.zero_add];exact Nat.mod_eq_of_lt (by omega)]
  rw[hg _ (by omega)]
  rw[ByteArray.getElem_append_left (by rw[ByteArray.size_extract,hsz];omega),ByteArray.getElem_extract]
  congr 1
  rw[hsz];omega
 ·rw[show(k+s.size-1)%s.size=k-1 from by rw[show k+s.size-1=(k-1)+s.size by omega,Nat.add_mod_right];exact Nat.mod_eq_of_lt (by omega)]
  rw[hg _ (by omega)]
  rw[ByteArray.getElem_append_right (by rw[ByteArray.size_extract,hsz];omega),ByteArray.getElem_extract]
  congr 1
  rw[ByteArray.size_extract,hsz];omega
theorem zY5 (s:ByteArray) (k:Nat) (hk:k<s.size) (hs:s.size<=1000000) (w:World):
  Calls Tryz.prog 75 #[.agg #[.string s],.int .i64 (k:Int)] w fun e w'=>∃t,e= .returned (.string t)/\Tu s t k/\Below w.heap.size w w':=by
 have h1:(0:Int)<=(k:Int):=by omega
 have h2:(k:Int)<=(s.size:Int):=by omega
 have hT:=zH (qGx s k hk)
 have h3:(s.extract k s.size).size<=1000000:=by rw[ByteArray.size_extract];omega
 have h4:(s.extract 0 k).size<=1000000:=by rw[ByteArray.size_extract];omega
 obtain⟨W,hW⟩:=zB (w.alloc (.cells #[.string s] 144))
 have x0:W.cell? ⟨w.heap.size,0,none⟩=some (.string s):=by rw[<-hW];simp
 have HB:=zH (show Below w.heap.size w W by rw[<-hW];exact(Below.refl _ _).alloc (Nat.le_refl _) _)
 have HW:=zH hW
 clear hW hk
 go_enter Tryz.func75,Tryz.ntmps75
 go_wp2
 rw[HW.out]
 go_quiet (fail)
 go_wp2
 go_ret
 exact⟨_,rfl,hT.out,HB.out.trans ⟨rfl,rfl,rfl,Nat.le_refl _,fun _ _=>rfl⟩⟩
theorem zKn (s:ByteArray) (n:Nat) (hn:s.size=n) (h0:0<n) (hs:n<=100000) (w:World):
  Calls Tryz.prog 19 #[.string s] w fun e w'=>e= .returned (.tuple #[.string (lastT s),.int .i64 (zA8 s:Int)])/\Below w.heap.size w w':=by
 have HO:=zH (zOm s n hn h0 hs w)
 obtain⟨B,hB⟩:=zB w.heap.size
 rw[hB]at HO⊢
 obtain⟨l,hl⟩:=zB s.data.toList
 have hln:l.length=n:=by rw[<-hl,<-hn];simp
 obtain⟨o,ho⟩:=zB (zF1 s)
 have hol:o.length=n:=by rw[<-ho,zF0,hn]
 have hon:∀i,i<n->o.getD i 0<n:=fun i hi=>by
  have h:=zNc (zD5 (bl s)).perm i (by show i<(zF1 s).length;rw[zF0,hn];exact hi)
  rw[zB2,hn]at h
  rw[<-ho];exact h
 have hor:zA8 s=o.idxOf 0:=by unfold zA8;rw[ho]
 have hor2:o.idxOf 0<n:=by rw[<-hor,<-hn];exact zDq s (by omega)
 have hinj:∀i,i<n->(o.getD i 0=0↔i=o.idxOf 0):=fun i hi=>by
  constructor
  ·intro e
   have h:=zLd s (by omega)
   rw[ho,hor]at h
   have hp:=(zD5 (bl s)).perm
   rw[show zHx (bl s)=o from ho]at hp
   exact zQw hp (by omega) (by omega) (by rw[e,h])
  ·rintro rfl
   have h:=zLd s (by omega)
   rwa[ho,hor]at h
 have hlt:lastT s=⟨(lastB l o).toArray⟩:=by unfold lastT;rw[hl,ho]
 rw[hlt,hor]
 rw[show zHx (bl s)=o from ho]at HO
 obtain⟨g,hg⟩:=zB (o.idxOf 0)
 rw[hg]at hor2 hinj⊢
 have HLN:=zH hln
 have HL:=zH hl
 have HOL:=zH hol
 have HON:=zH hon
 have HINJ:=zH hinj
 have HN:=zH hn
 have HLB:=zH (show(lastB l o).length=n by simp[lastB,hol])
 have HBB:=zH hB
 clear hl hln ho hol hon hor hinj hlt hg hB
 go_enter Tryz.func19,Tryz.ntmps19
 go_wp2_with fail
 (with_reducible refine HO.out.mono ?_)
 rintro e w2 ⟨G,c,rfl,hown,hb⟩
 have HWN:=zH hown
 have HB2:=zH hb
 clear hown hb HO
 go_wp2
 go_loopw [3,4,11] (fun gv ov iv wr=>∃(i ci q:Nat) (p:Option Addr),i<=n/\iv= .int .i64 i/\gv= .int .i64 q/\RowKit.Hid (q=if g<i then g else 0)/\ov= .slice p i ci/\RowKit.Hid (Kit.Own wr B TB p i ci (((lastB l o).take i).map Kit.zAe))/\RowKit.Hid (Kit.Own wr B 3 (some ⟨G,0,none⟩) n c (o.map ival))/\RowKit.Hid (Below B w wr)) (fun _ _ iv _=>n-(intOf iv).toNat)
 case atStart=>exact⟨0,0,0,none,by omega,rfl,rfl,zH (by simp),rfl,zH (Kit.Own.start _ _ _),HWN,HB2⟩
 case round=>
  clear HWN HB2
  obtain⟨i,ci,q,p,hi,rfl,rfl,hq,rfl,hbo,hown,hb⟩:=hrel
  by_cases hlt:i<n
  ·obtain⟨g',hg',_,hGl,_,hcell,_⟩:=hown.out.at_ h0
   injection hg' with hg'
   injection hg' with hg' _ _
   subst hg'
   have x0:=hcell i hlt
   have hio:i<o.length:=by rw[HOL.out];exact hlt
   have hoi:=HON.out i hlt
   rw[List.getElem?_map,List.getElem?_eq_getElem hio,Option.map_some]at x0
   rw[List.getD_eq_getElem?_getD,List.getElem?_eq_getElem hio,Option.getD_some]at hoi
   obtain⟨k,hk⟩:=zB (o[i])
   rw[hk]at x0 hoi
   have hk0:=HINJ.out i hlt
   rw[List.getD_eq_getElem?_getD,List.getElem?_eq_getElem hio,Option.getD_some,hk]at hk0
   have HT:=zH (zY5 s k (by rw[HN.out];exact hoi) (by rw[HN.out];omega) wr)
   have HK:=zH hk
   have HIO:=zH hio
   clear hcell hk
   unfold ival at x0
   go_wp2_with fail
   (with_reducible refine HT.out.mono ?_)
   rintro e w3 ⟨t,rfl,htu,hb3⟩
   have hts:=htu.1
   rw[HN.out]at hts
   have hta:=htu.2 (by omega)
   rw[HN.out]at hta
   obtain⟨u,hu⟩:=zB (zLl l (k+n-1))
   rw[HL.out,hu]at hta
   have hti:∀h:n-1<t.size,t[n-1]=u:=fun h=>by
    rw[<-hta]
    simp only[hts]
   have hbo3:=hbo.out.below hb3 (Nat.le_refl _)
   have hz3:=hb3.size
   have hzb:=hb.out.size
   rw[HBB.out]at hzb
   obtain⟨p4,c4,w4,hr4,ho4,hg4⟩:=Kit.Own.app (ty:=109) (w:=w3.alloc (.cells #[.int .u8 (u.toNat:Int)] TB)) zNh (hbo3.alloc _) (some ⟨w3.heap.size,0,none⟩) 1 1 [Kit.zAe u] (Kit.zAs w3 _ TB) rfl (fun h=>by cases h) (Kit.zG [u]) (by unfold maxLen;omega) (by omega) (by simp;omega)
   have hlk:(lastB l o)[i]? =some u:=by
    unfold lastB
    rw[List.getElem?_map,List.getElem?_eq_getElem HIO.out,HK.out,HLN.out,Option.map_some,hu]
   have HO4:=zH (show Kit.Own w4 B TB p4 (i+1) c4 (((lastB l o).take (i+1)).map Kit.zAe)from by
    rw[List.take_add_one,hlk,List.map_append]
    exact ho4)
   have hg5:Below B w3 w4:=((Below.refl _ _).alloc (by omega) _).trans ((Below.refl _ _).grown hg4 (by simp;omega) (fun q hq=>hbo3.block q hq))
   have HB4:=zH (hb.out.trans ((hb3.mono hzb).trans hg5))
   have ho3:=(hown.out.below hb3 (Nat.le_refl _)).alloc (.cells #[.int .u8 (u.toNat:Int)] TB)
   obtain⟨cs,fz,hty⟩:=zLa ho3
   have hne:=own_ne (hbo3.alloc (.cells #[.int .u8 (u.toNat:Int)] TB)) hty (by decide)
   have HW4:=zH (World.ownsRow.kept ho3 hg4 (.inr (by rw[zGj ho3];exact fun e=>hne e.symm)))
   clear ho3 hty hne
   clear hlk hg4 ho4 hbo3 hown hbo hb hb3 htu hta hu HT x0
   by_cases hk1:k=0
   ·subst hk1
    have hig:i=g:=hk0.1 rfl
    subst hig
    have HQ2:=zH (show i=if i<i+1 then i else 0 by rw[if_pos (by omega)])
    clear hk0 hq
    go_wp2_with (at_builtin;refine Kit.zAr rfl (.tmp 20) (.tmp 26) 109 rfl rfl rfl hr4 ?_)
    go_roundw
    case rel=>exact⟨i+1,c4,i,p4,by omega,by go_num,rfl,HQ2,rfl,HO4,HW4,HB4⟩
    case measure=>simp only[intOf];omega
   ·have hig:i≠g:=fun e=>hk1 (hk0.2 e)
    have hz:((k:Int)==0)=false:=by rw[beq_eq_false_iff_ne];omega
    have HQ2:=zH (show q=if g<i+1 then g else 0 by
     rw[hq.out]
     by_cases h:g<i
     ·rw[if_pos h,if_pos (by omega)]
     ·rw[if_neg h,if_neg (by omega)])
    clear hk0 hq
    go_wp2_with (at_builtin;refine Kit.zAr rfl (.tmp 20) (.tmp 26) 109 rfl rfl rfl hr4 ?_)
    go_roundw
    case rel=>exact⟨i+1,c4,q,p4,by omega,by go_num,rfl,HQ2,rfl,HO4,HW4,HB4⟩
    case measure=>simp only[intOf];omega
  ·obtain rfl:n=i:=by omega
   rw[if_pos hor2]at hq
   obtain rfl:g=q:=hq.out.symm
   have htk:(lastB l o).take n=lastB l o:=List.take_of_length_le (by rw[HLB.out];exact Nat.le_refl _)
   rw[htk]at hbo
   have hcv:=Kit.Src.text (P:=Tryz.prog) (n:=n) (c:=ci) (src:=109) (dst:=9) hbo.out.src HLB.out Tryz.underlying109 Tryz.underlying5 Tryz.underlying9
   clear htk
   go_wp2
   go_ret2
   exact⟨rfl,hb.out⟩
end St
namespace Sq
open Go.RowKit Front Us Tn St Zr
theorem zUx {a b:Nat} (ha:a<256) (hb:b<256) (e:UInt8.ofNat a=UInt8.ofNat b):a=b:=by
 have h:=congrArg UInt8.toNat e
 rwa[Bt.ofNat_toNat ha,Bt.ofNat_toNat hb]at h
theorem zS7 (l:List Nat):(Us.alpha l 256).Nodup:=by
 unfold Us.alpha
 have h:((List.range 256).filter fun c=>decide (c∈l)).Nodup:=List.nodup_range.filter _
 unfold List.Nodup at h⊢
 rw[List.pairwise_map]
 refine h.imp_of_mem (fun{a b} ha hb hab e=>hab ?_)
 exact zUx (List.mem_range.1 (List.mem_filter.1 ha).1) (List.mem_range.1 (List.mem_filter.1 hb).1) e
theorem zYo (l:List Nat) (c:UInt8):c∈Us.alpha l 256↔c.toNat∈l:=by
 unfold Us.alpha
 rw[List.mem_map]
 constructor
 ·rintro⟨a,ha,rfl⟩
  obtain⟨h1,h2⟩:=List.mem_filter.1 ha
  rw[Bt.ofNat_toNat (List.mem_range.1 h1)]
  simpa using h2
 ·intro h
  exact⟨c.toNat,List.mem_filter.2 ⟨List.mem_range.2 (UInt8.toNat_lt c),by simpa using h⟩,UInt8.ofNat_toNat⟩
theorem zS8 {l m:List Nat} (h:∀c,c<256->(c∈l↔c∈m)):Us.alpha l 256=Us.alpha m 256:=by
 unfold Us.alpha
 congr 1
 refine List.filter_congr (fun c hc=> ?_)
 have:=h c (List.mem_range.1 hc)
 by_cases h1:c∈l
 ·rw[decide_eq_true h1,decide_eq_true (this.1 h1)]
 ·rw[decide_eq_false h1,decide_eq_false (fun h2=>h1 (this.2 h2))]
def al (p:ByteArray):List UInt8:=(zAj p).data.toList
theorem zVt (p:ByteArray):al p=Us.alpha (bl p) 256:=by unfold al zAj;simp
theorem zR3 (p:ByteArray):right (al p)=true:=by rw[zIu,zVt];exact zS7 _
theorem zR4 (p:ByteArray) (c:UInt8):c∈al p↔c∈p.data.toList:=by
 rw[zVt,zYo]
 unfold bl
 rw[List.mem_map]
 constructor
 ·rintro⟨a,ha,e⟩
  rw[<-UInt8.toNat_inj.1 e];exact ha
 ·intro h;exact⟨c,h,rfl⟩
theorem zR5 (p:ByteArray):(al p).length=(zAj p).size:=by unfold al;simp
theorem zFk (p:ByteArray):(zAj p).size<=256:=by rw[<-zR5,zVt];exact Us.zPe _ _
theorem zMz (p:ByteArray) (h:0<p.size):0<(zAj p).size:=by
 have h1:0<p.data.toList.length:=by simpa using h
 have h2:=(zR4 p _).2 (List.getElem_mem h1)
 rw[<-zR5]
 exact List.length_pos_of_mem h2
theorem zVu (p:ByteArray):zAj (zAj p)=zAj p:=by
 show(⟨(Us.alpha (bl (zAj p)) 256).toArray⟩:ByteArray)=⟨(Us.alpha (bl p) 256).toArray⟩
 rw[zS8 (l:=bl (zAj p)) (m:=bl p)]
 intro c hc
 have h:=zR4 p (UInt8.ofNat c)
 have e:∀q:ByteArray,c∈bl q↔UInt8.ofNat c∈q.data.toList:=fun q=>by
  unfold bl
  rw[List.mem_map]
  constructor
  ·rintro⟨a,ha,rfl⟩;rw[UInt8.ofNat_toNat];exact ha
  ·intro h;exact⟨_,h,Bt.ofNat_toNat hc⟩
 rw[e,e];exact h
def la (p:ByteArray):List UInt8:=(lastT p).data.toList
theorem zU6 (p:ByteArray):la p=lastB p.data.toList (zF1 p):=by unfold la lastT;simp
theorem zMi (p:ByteArray) (h:0<p.size):all (al p) (la p)=true:=by
 rw[zUa]
 intro c hc
 rw[zU6]at hc
 rw[zR4]
 unfold lastB at hc
 obtain⟨k,_,rfl⟩:=List.mem_map.1 hc
 unfold zLl
 have hl:0<p.data.toList.length:=by simpa using h
 have h2:=Nat.mod_lt (k+p.data.toList.length-1) hl
 rw[List.getD_eq_getElem?_getD,List.getElem?_eq_getElem h2]
 exact List.getElem_mem h2
def plc (p:ByteArray):List Nat:=zB4 (al p) (la p)
theorem zTm (p:ByteArray) (h:0<p.size):zFw (al p) (la p)=plc p/\codeF (al p) (la p)=0:=by
 have hc:=zRr (al p) (la p) (zR3 p) (zMi p h)
 exact⟨zQm _ _ hc,hc⟩
theorem zDb (p:ByteArray):(plc p).length=p.size:=by
 unfold plc
 rw[zDi,zU6]
 simp[lastB,zF0]
theorem zQr (p:ByteArray) (h:0<p.size):∀k∈plc p,k<(zAj p).size:=by
 rw[<-zR5];exact zNb _ _ (zMi p h)
def sy (p:ByteArray):List Nat:=enc 0 (plc p)
def sym (p:ByteArray):List Nat:=sy p++[(zAj p).size+1]
theorem zL1 (p:ByteArray):(sy p).length<=p.size:=by
 have:=zJz (plc p) 0
 rw[zDb]at this
 unfold sy;omega
theorem zPm (p:ByteArray) (h:0<p.size):∀y∈sy p,y<=(zAj p).size:=zNq (plc p) 0 _ (zQr p h) (zMz p h)
theorem zCv (p:ByteArray):(sym p).length=(sy p).length+1:=by simp[sym]
theorem zPz (p:ByteArray) (h:0<p.size):∀y∈sym p,y<(zAj p).size+2:=by
 intro y hy
 unfold sym at hy
 rcases List.mem_append.1 hy with h1|h1
 ·have:=zPm p h y h1;omega
 ·obtain rfl:=List.mem_singleton.1 h1;omega
theorem zP0 (p:ByteArray):dec (sy p).length (sy p)=plc p:=by
 have h:=zNs (plc p) 0 (sy p).length (Nat.le_refl _)
 simpa [sy]using h
theorem zZx (p:ByteArray) (h:0<p.size):unp (al p) (plc p)=la p:=zPx _ _ (zMi p h)
theorem zK9 (p:ByteArray) (h:0<p.size):zIv (al p) ((plc p).map fun k:Nat=>(k:Int))=la p/\zC3 (al p) ((plc p).map fun k:Nat=>(k:Int))=0:=by
 have hc:=zRs (al p) ((plc p).map fun k:Nat=>(k:Int)) (zR3 p) (qF0 _ _ (zNb _ _ (zMi p h)))
 refine⟨?_,hc⟩
 rw[zTj _ _ hc,qC7]
 exact zZx p h
theorem zVk (p:ByteArray):Bytes (bl p):=by
 intro x hx
 obtain⟨u,_,rfl⟩:=List.mem_map.1 hx
 exact UInt8.toNat_lt u
theorem qB5 (p:ByteArray) (h:0<p.size):bl (lastT p)=lastOf (bl p) (zF1 p):=by
 show(la p).map UInt8.toNat=_
 rw[zU6,zXn _ (by simpa using h)]
 rfl
theorem zTa (p:ByteArray) (h:0<p.size):unL (lastT p) (zA8 p)=p.data.toList:=by
 have hs:(lastT p).size=p.size:=zCp p
 apply List.ext_getElem?
 intro i
 by_cases hi:i<p.size
 ·have h1:=zYl (s:=bl p) (o:=zF1 p) (v:=zA7 (bl (lastT p))) (zVk p) (by rw[zB2];exact h) (zD5 _) (by rw[qB5 p h];exact zCl _) (zA8 p) (by rw[zB2];exact zDq p h) (zLd p h) i (by rw[zB2];exact hi)
  rw[<-qB5 p h]at h1
  unfold unL
  rw[List.getElem?_map,List.getElem?_range (by rw[hs];exact hi),Option.map_some,List.getElem?_eq_getElem (by simpa using hi)]
  congr 1
  apply UInt8.toNat_inj.1
  have e1:∀(q:ByteArray) (j:Nat),(bl q).getD j 0=(q.data.getD j 0).toNat:=fun q j=>by
   unfold bl
   rw[List.getD_eq_getElem?_getD,List.getElem?_map]
   by_cases hj:j<q.data.size
   ·rw[List.getElem?_eq_getElem (by simpa using hj),Option.map_some,Option.getD_some]
    simp only[Array.getD,Array.getElem_toList]
    rw[dif_pos hj]
    rfl
   ·rw[List.getElem?_eq_none (by simpa using hj)]
    simp only[Array.getD]
    rw[dif_neg hj]
    rfl
  rw[e1,e1]at h1
  rw[h1]
  simp only[Array.getD,Array.getElem_toList]
  rw[dif_pos (show i<p.data.size from hi)]
  rfl
 ·rw[List.getElem?_eq_none (by rw[zTb,hs];omega),List.getElem?_eq_none (by simp;omega)]
end Sq
namespace Sl
open Go.RowKit Front Bt Zr Ix
variable {w:World} {D n c:Nat} {a:Option Addr} {ls:List (List Bool)}
def zC8 (b:Bool) (n:Nat):List Bool:=if n=b.toNat then[false]else[true,false]
def zAz:Bool->List Nat->List Bool
 |_,[]=>[]
 |b,n::r=>zC8 b n++zAz (n==1) r
theorem zK4:∀(b:Bool) (l:List Nat),(zAz b l).length<=2*l.length
 |_,[]=>Nat.le_refl _
 |b,n::r=>by
  have:=zK4 (n==1) r
  rw[zAz,List.length_append,List.length_cons]
  unfold zC8
  split<;>simp<;>omega
theorem zOd (l:List Nat) (j:Nat) (b:Bool) (hj:j<l.length):zAz b (l.drop j)=zC8 b l[j]++zAz (l[j]==1) (l.drop (j+1)):=by
 rw[List.drop_eq_getElem_cons hj,zAz]
theorem zQz {w':World} {e:TypeId} (h:Kit.Own' LB w D e a n c ls) (ho:∀k,D<=k->k<w.heap.size->w'.heap[k]? =w.heap[k]?):Kit.Own' LB w' D e a n c ls:=by
 obtain⟨h1,h2⟩:=h
 refine⟨h1,?_⟩
 rcases h2 with h2|⟨g,cap,cur,hv,hbg,hg,r⟩
 ·exact .inl h2
 ·exact .inr ⟨g,cap,cur,hv,hbg,(ho g hbg (zAd hg)).trans hg,r⟩
theorem zPo:Kit.zVx Tryz.prog 70 51 LB.k 24:=⟨Tryz.underlying70,.agg #[.string ⟨#[]⟩,.int .i64 0],by kernel_rfl,rfl⟩
theorem zFd {B:Nat} (h:Kit.Own' LB w B 51 a n c ls):RdB w a ls:=by
 refine⟨h.rd,fun p hp=> ?_⟩
 obtain⟨_,h2⟩:=h
 rcases h2 with⟨h2,_⟩|⟨g,cap,cur,hv,_,hg,_⟩
 ·injection h2 with h2 _ _
  rw[hp]at h2;cases h2
 ·injection hv with ha _ _
  rw[hp]at ha
  injection ha with ha
  subst ha
  exact⟨cur,(0,0),hg⟩
theorem qHj (n:Nat) (b:Bool) (hn:n<=1):Lib.idxOf [((b.toNat:Nat):Int),(((!b).toNat:Nat):Int),2,3,4,5] (n:Int)=if n=b.toNat then 0 else 1:=by
 rcases Nat.lt_or_ge n 1 with h|h
 ·obtain rfl:n=0:=by omega
  cases b<;>rfl
 ·obtain rfl:n=1:=by omega
  cases b<;>rfl
theorem qG8 {R:Nat} {b:Bool} (h:Pl w R b):∀j,j<[((b.toNat:Nat):Int),(((!b).toNat:Nat):Int),2,3,4,5].length->w.cell? ⟨R,0+j,none⟩=some (.int .i64 ([((b.toNat:Nat):Int),(((!b).toNat:Nat):Int),2,3,4,5].getD j 0)):=by
 intro j hj
 simp at hj
 have:j=0\/j=1\/j=2\/j=3\/j=4\/j=5:=by omega
 rcases this with rfl|rfl|rfl|rfl|rfl|rfl<;>simp[World.cell?,show w.heap[R]? =_ from h]
theorem zR2 {p:Option Addr} {j:Nat} (h:Kit.Own' LB w D 51 p j c ls) (m:List Bool) (hD:D<=w.heap.size) (hj:j<=100000):
  ∃p' c' w',(Builtin.append_ #[70,70] 70 #[.slice p j c,.slice (some ⟨w.heap.size+1,0,none⟩) 1 1]).run Tryz.prog ((w.alloc (.cells #[.string (pk m),.int .i64 (m.length:Int)] 51)).alloc (.cells #[.string (pk m),.int .i64 (m.length:Int)] 51))= .ok (.slice p' (j+1) c') w'/\
   Kit.Own' LB w' D 51 p' (j+1) c' (ls++[m])/\(∀k,k<D->w'.heap[k]? =w.heap[k]?)/\Below D w w'/\w.heap.size<=w'.heap.size:=by
 obtain⟨W1,hW1⟩:=zB (w.alloc (.cells #[.string (pk m),.int .i64 (m.length:Int)] 51))
 have z1:W1.heap.size=w.heap.size+1:=by rw[<-hW1,zA]
 rw[hW1,<-z1]
 have hr:Kit.Rd LB (W1.alloc (.cells (LB.cl m).toArray 51)) (some ⟨W1.heap.size,0,none⟩) [m]:=Kit.zFo W1 m 51
 have ho:Kit.Own' LB (W1.alloc (.cells (LB.cl m).toArray 51)) D 51 p j c ls:=by rw[<-hW1];exact(h.alloc _).alloc _
 obtain⟨p',c',w',h1,h2,h3⟩:=ho.app (ty:=70) zPo (some ⟨W1.heap.size,0,none⟩) 1 1 [m] hr rfl (fun h=>by cases h) (by unfold maxLen;omega) (by omega) (by rw[zA];omega)
 have hb:Below D w (W1.alloc (.cells (LB.cl m).toArray 51)):=by rw[<-hW1];exact((Below.refl _ _).alloc hD _).alloc (by rw[zA];omega) _
 have hb2:Below D w w':=hb.trans (Kit.zAq h3 (by rw[zA];omega) (fun k hk=>h.block k hk))
 exact⟨p',c',w',h1,h2,fun k hk=>hb2.block k hk,hb2,hb2.size⟩
theorem zK2 (l:List Nat) (a:Option Addr) (n c:Nat) (w:World) (hn:l.length=n) (hn2:n<=10000) (hs:Kit.Src w a (l.map ival)) (hl:∀x∈l,x<=1):
  Calls Tryz.prog 26 #[.slice a n c,.int .i64 2] w fun e w'=>e= .returned (.tuple #[zAe (zAz false l),.int .i64 0])/\Below w.heap.size w w':=by
 have hmf:∀(fn:Fn) (first cap:Array Value) (w:World),(Instr.makeFunc fn first cap).run Tryz.prog w= .ok (.func fn first cap) w:=fun _ _ _ _=>rfl
 obtain⟨B,hB⟩:=zB w.heap.size
 obtain⟨W1,hW1⟩:=zB (w.alloc (.cells #[.int .i64 2] 3))
 obtain⟨W2,hW2⟩:=zB (W1.alloc (.cells #[.string ⟨#[]⟩,.int .i64 0] 51))
 have z1:W1.heap.size=B+1:=by rw[<-hW1,zA,hB]
 have z2:W2.heap.size=B+2:=by rw[<-hW2,zA,z1]
 have b1:Below B w W1:=by rw[<-hW1,<-hB];exact(Below.refl _ _).alloc (Nat.le_refl _) _
 have b2:Below (B+1) W1 W2:=by rw[<-hW2,<-z1];exact(Below.refl _ _).alloc (Nat.le_refl _) _
 have new:∀(W:World) (o:Obj),(W.alloc o).heap[W.heap.size]? =some o:=fun W o=>by show(W.heap.push o)[W.heap.size]? =_;simp
 have c0:Boxed W2 B 3 (.int .i64 2):=by
  show W2.heap[B]? =_
  rw[b2.block B (by omega),<-hW1,<-hB];exact new _ _
 have c1:W2.heap[B+1]? =some (.cells #[.string ⟨#[]⟩,.int .i64 0] 51 (0,0)):=by
  rw[<-hW2,<-z1];exact new _ _
 have b12:Below B w W2:=b1.trans (b2.mono (by omega))
 have hs2:Kit.Src W2 a (l.map ival):=hs.below (by rw[hB];exact b12)
 have x0:=c0.cell
 have HQ:=zH (zO3 (fun _=>false) l 91 (.pointer (some ⟨B,0,none⟩)) a n c W2 hn (by omega) hs2 (zHw Tryz.func91 rfl rfl) (fun x hx=>zSj x B (hl x hx) W2 x0))
 rw[any_false]at HQ
 have HF:=zH (zC9 W2)
 have HO:=zH (zTq W2)
 rw[z2]at HO
 have C1:=zH c1
 have HB0:=zH b12
 have HS:=zH hs
 have HL:=zH hl
 have HN:=zH hn
 obtain⟨T,hT⟩:=zB (zAz false l)
 have hTl:=zK4 false l
 rw[hT,hn]at hTl
 rw[hT]
 have HT:=zH hT
 clear b1 b2 new c0 c1 b12 hs hs2 hl hn hT
 rw[hB]
 go_enter Tryz.func26,Tryz.ntmps26
 go_wp2_with fail
 (with_reducible refine HF.out.mono ?_)
 rintro e w2 ⟨rfl,rfl⟩
 go_wp2_with fail
 (with_reducible refine HQ.out.mono ?_)
 rintro e w2 ⟨rfl,rfl⟩
 go_wp2_with fail
 clear hW1 hW2 z1 x0
 (with_reducible refine HO.out.mono ?_)
 rintro e w3 ⟨rfl,hp3,hb3⟩
 have P3:=zH hp3
 have HB3:=zH (HB0.out.trans (hb3.mono (by omega)))
 have C3:=zH ((hb3.block (B+1) (by omega)).trans C1.out)
 have hz3:B+2<w3.heap.size:=zAd hp3
 clear hp3 hb3 HQ HF HO C1 HB0
 go_wp2
 go_loopw [25,7] (fun i v wr=>∃(j:Nat) (b:Bool) (ls:List (List Bool)) (p:Option Addr) (c:Nat),j<=n/\i= .int .i64 j/\v= .slice p j c/\RowKit.Hid (Pl wr (B+2) b)/\RowKit.Hid (Kit.Own' LB wr (B+3) 51 p j c ls)/\RowKit.Hid (ls.flatten++zAz b (l.drop j)=T)/\RowKit.Hid (wr.heap[B+1]? =some (.cells #[.string ⟨#[]⟩,.int .i64 0] 51 (0,0)))/\RowKit.Hid (Below B w wr)/\B+2<wr.heap.size) (fun i _ _=>n-(intOf i).toNat)
 case atStart=>exact⟨0,false,[],none,0,by omega,rfl,rfl,P3,zH (Kit.Own'.start _ _ _),zH (by rw[List.drop_zero,HT.out];rfl),C3,HB3,hz3⟩
 case round=>
  clear P3 HB3 C3 hz3
  obtain⟨j,b,ls,p,c',hj,rfl,rfl,hp,hown,hT,hc1,hb,hz⟩:=hrel
  by_cases hlt:j<n
  ·have hjl:j<l.length:=by rw[HN.out];exact hlt
   obtain⟨x,hx⟩:=zB (l[j])
   have hx1:x<=1:=by rw[<-hx];exact HL.out _ (List.getElem_mem hjl)
   obtain⟨g,off,rfl,e0⟩:=(HS.out.below (w':=wr) (by rw[hB];exact hb.out)) j (ival x) (by rw[List.getElem?_map,List.getElem?_eq_getElem hjl,hx];rfl)
   have hd:=zOd l j b hjl
   rw[hx]at hd
   have hT2:ls.flatten++(zC8 b x++zAz (x==1) (l.drop (j+1)))=T:=by rw[<-hd];exact hT.out
   have HI:=zH (Tryz.slices_Index_int (B+2) 0 6 6 [((b.toNat:Nat):Int),(((!b).toNat:Nat):Int),2,3,4,5] (x:Int) wr (by simp) (by omega) (by rw[show(B+2)=B+2 from rfl];exact qG8 hp.out))
   rw[show List.take 6 [((b.toNat:Nat):Int),(((!b).toNat:Nat):Int),2,3,4,5]=[((b.toNat:Nat):Int),(((!b).toNat:Nat):Int),2,3,4,5]from rfl,qHj x b hx1]at HI
   have HT2:=zH hT2
   clear hd hT2 hx hT
   by_cases hxb:x=b.toNat
   ·rw[if_pos hxb]at HI
    have HXB:=zH hxb
    clear hxb
    go_wp2_with fail
    (with_reducible refine HI.out.mono ?_)
    rintro e w4 ⟨rfl,rfl⟩
    have HFR:=zH (zMq (B+2) b w4 hp.out)
    go_wp2_with fail
    (with_reducible refine HFR.out.mono ?_)
    rintro e w5 ⟨rfl,hp5,hc5⟩
    have HP:=zH (zD1 [] 0 1 (m':=zC8 b x) (by rw[qB2];unfold zC8;rw[if_pos HXB.out];rfl) (d:=⟨#[]⟩) rfl (k:=0) (V:=0) (N:=1) rfl rfl rfl (by omega) (by omega) (by simp) w5)
    have hz5:=hc5.below.size
    have ho5:Kit.Own' LB w5 (B+3) 51 p j c' ls:=zQz hown.out (fun k h1 _=>hc5.old k (by omega))
    have HC5:=zH ((hc5.old (B+1) (by omega)).trans hc1.out)
    have HB5:=zH (hb.out.trans (hc5.below.mono (by omega)))
    have P5:=zH hp5
    have O5:=zH ho5
    clear hp5 hc5 e0 ho5
    go_wp2_with fail
    (with_reducible refine HP.out.mono ?_)
    rintro e w6 ⟨rfl,hb6⟩
    have hz6:=hb6.size
    obtain⟨p',c2,w8,hr8,ho8,hk8,hb8,hz8⟩:=zR2 (O5.out.below hb6 (Nat.le_refl _)) (zC8 b x) (by omega) (by omega)
    have P8:=zH (show Pl w8 (B+2) b from(hk8 (B+2) (by omega)).trans ((hb6.block (B+2) (by omega)).trans P5.out))
    have C8:=zH ((hk8 (B+1) (by omega)).trans ((hb6.block (B+1) (by omega)).trans HC5.out))
    have B8:=zH (HB5.out.trans ((hb6.mono (by omega)).trans (hb8.mono (by omega))))
    have O8:=zH ho8
    have T8:=zH (show(ls++[zC8 b x]).flatten++zAz (x==1) (l.drop (j+1))=T by rw[List.flatten_append,List.append_assoc];simpa using HT2.out)
    clear hb6 ho8 hk8 hb8
    go_wp2_with (at_builtin;refine Kit.zAr rfl (.tmp 51) (.tmp 53) 70 rfl rfl rfl hr8 ?_)
    go_roundw
    case rel=>exact⟨j+1,(x==1),ls++[zC8 b x],p',c2,by omega,by go_num,rfl,by rw[show(x==1)=b from by rw[HXB.out];cases b<;>rfl];exact P8,O8,T8,C8,B8,by omega⟩
    case measure=>simp only[intOf];omega
   ·rw[if_neg hxb]at HI
    have hxb2:x=(!b).toNat:=by cases b<;>simp at hxb⊢<;>omega
    have HXB:=zH hxb
    have HXB2:=zH hxb2
    clear hxb hxb2
    go_wp2_with fail
    (with_reducible refine HI.out.mono ?_)
    rintro e w4 ⟨rfl,rfl⟩
    have HFR:=zH (zMp (B+2) b w4 hp.out)
    go_wp2_with fail
    (with_reducible refine HFR.out.mono ?_)
    rintro e w5 ⟨rfl,hp5,hc5⟩
    have HP:=zH (zD1 [] 2 2 (m':=zC8 b x) (by rw[qB1];unfold zC8;rw[if_neg HXB.out];rfl) (d:=⟨#[]⟩) rfl (k:=0) (V:=2) (N:=2) rfl rfl rfl (by omega) (by omega) (by simp) w5)
    have hz5:=hc5.below.size
    have ho5:Kit.Own' LB w5 (B+3) 51 p j c' ls:=zQz hown.out (fun k h1 _=>hc5.old k (by omega))
    have HC5:=zH ((hc5.old (B+1) (by omega)).trans hc1.out)
    have HB5:=zH (hb.out.trans (hc5.below.mono (by omega)))
    have P5:=zH hp5
    have O5:=zH ho5
    clear hp5 hc5 e0 ho5
    go_wp2_with fail
    (with_reducible refine HP.out.mono ?_)
    rintro e w6 ⟨rfl,hb6⟩
    have hz6:=hb6.size
    obtain⟨p',c2,w8,hr8,ho8,hk8,hb8,hz8⟩:=zR2 (O5.out.below hb6 (Nat.le_refl _)) (zC8 b x) (by omega) (by omega)
    have P8:=zH (show Pl w8 (B+2) (!b)from(hk8 (B+2) (by omega)).trans ((hb6.block (B+2) (by omega)).trans P5.out))
    have C8:=zH ((hk8 (B+1) (by omega)).trans ((hb6.block (B+1) (by omega)).trans HC5.out))
    have B8:=zH (HB5.out.trans ((hb6.mono (by omega)).trans (hb8.mono (by omega))))
    have O8:=zH ho8
    have T8:=zH (show(ls++[zC8 b x]).flatten++zAz (x==1) (l.drop (j+1))=T by rw[List.flatten_append,List.append_assoc];simpa using HT2.out)
    clear hb6 ho8 hk8 hb8
    go_wp2_with (at_builtin;refine Kit.zAr rfl (.tmp 51) (.tmp 53) 70 rfl rfl rfl hr8 ?_)
    go_roundw
    case rel=>exact⟨j+1,(x==1),ls++[zC8 b x],p',c2,by omega,by go_num,rfl,by rw[show(x==1)=(!b)from by rw[HXB2.out];cases b<;>rfl];exact P8,O8,T8,C8,B8,by omega⟩
    case measure=>simp only[intOf];omega
  ·obtain rfl:j=n:=by omega
   have hTe:ls.flatten=T:=by
    have:=hT.out
    rwa[List.drop_of_length_le (by rw[HN.out];omega),zAz,List.append_nil]at this
   have HC:=zH (zFs p j c' ls wr hown.out.len (by
    rcases Nat.eq_zero_or_pos j with h|h
    ·omega
    ·exact(hown.out.at_ h).choose_spec.2.2.2) (by omega) (zFd hown.out) (by rw[hTe];omega))
   rw[hTe]at HC
   unfold zAe at HC
   obtain⟨y0,y1,f0,f1⟩:=zAf hc1.out
   go_wp2_with fail
   (with_reducible refine HC.out.mono ?_)
   rintro e w4 ⟨rfl,hb4⟩
   clear y0 y1 f0 f1
   obtain⟨y0,y1,f0,f1⟩:=zAf ((hb4.block (B+1) (by omega)).trans hc1.out)
   have H4:=zH (hb.out.trans (hb4.mono (by omega)))
   clear hb4
   go_wp2
   try simp only[Exit.inBlock,Exit.then]
   exact bodyPost_ret (zEk rfl _ _ (B+1) _ _ _ rfl rfl (Bt.zCy y0) (Bt.zCx y1)) rfl ⟨rfl,zCs H4.out (by omega)⟩
end Sl
end Go.Proofs.YtppnakkaljbmbaaGreatDoor
