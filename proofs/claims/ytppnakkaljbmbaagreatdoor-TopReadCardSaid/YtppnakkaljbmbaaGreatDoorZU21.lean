/- Steps of a proof; no condition beyond what each states. -/
import Derived.Test.YtppnakkaljbmbaaGreatDoorZU13
import Derived.Test.YtppnakkaljbmbaaGreatDoorZU20
set_option linter.unusedVariables false
set_option linter.unusedSimpArgs false
set_option maxRecDepth 100000
set_option maxHeartbeats 8000000
namespace Go.Proofs.YtppnakkaljbmbaaGreatDoor
namespace St
open Go.RowKit Go.Shelf Go.Lib Go.Sort Go.Proofs Tn Front
variable {w:World} {g n B c m k:Nat} {os:Array Obj} {e:TypeId} {K:Nat->Nat}
theorem zRe {α:Type} [Inhabited α] (enc:α->Value) {cur:Array Value} {fr:Nat×Nat} (d:Array α) (hb:w.heap[g]? =some (.cells cur e fr)):
  (sortWorld enc w g 0 n d os).heap[g]? =some (.cells (Sort.putCells enc 0 d cur) e fr):=by
 have hg:g<w.heap.size:=(Array.getElem?_eq_some_iff.1 hb).1
 unfold sortWorld
 rw[Sort.heap_grow_old _ _ (by rw[size_putRow];exact hg)]
 simp[Sort.putRow,Sort.mapBlock,Sort.ahead,Array.getElem?_modify,hb,Sort.onCells]
theorem zD7 {α:Type} [Inhabited α] (enc:α->Value) (d:Array α):w.grownBy (sortWorld enc w g 0 n d os) (some g):=by
 unfold sortWorld
 refine⟨rfl,rfl,rfl,by simp[Sort.putRow,Sort.mapBlock,Sort.ahead],fun k hk hne=> ?_⟩
 rw[Sort.heap_grow_old _ _ (by rw[size_putRow];exact hk)]
 have:g≠k:=fun e=>hne (by rw[e])
 simp[Sort.putRow,Sort.mapBlock,Sort.ahead,Array.getElem?_modify,this]
theorem zWg {α:Type} [Inhabited α] (enc:α->Value) (cur:Array Value) (d:Array α) (h:d.size<=cur.size):(Sort.putCells enc 0 d cur).toList.take d.size=d.toList.map enc:=by
 apply List.ext_getElem?
 intro j
 by_cases hj:j<d.size
 ·rw[List.getElem?_take_of_lt hj,Array.getElem?_toList,List.getElem?_map,Array.getElem?_toList]
  simp[Sort.putCells,hj,show j<cur.size by omega]
 ·rw[List.getElem?_take_eq_none (by omega),List.getElem?_eq_none (by simp;omega)]
theorem zKi {α:Type} [Inhabited α] (enc:α->Value) {xs:List Value} (h:Kit.Own w B e (some ⟨g,0,none⟩) n c xs) (d:Array α) (hd:d.size=n):Kit.Own (sortWorld enc w g 0 m d os) B e (some ⟨g,0,none⟩) n c (d.toList.map enc):=by
 obtain⟨h1,h2⟩:=h
 refine⟨by simp[hd],?_⟩
 rcases h2 with⟨h2,_⟩|⟨g',cap,cur,hv,hbg,hg,hnc,hcm,hs,ht⟩
 ·cases h2
 ·injection hv with ha hn hc
  injection ha with ha
  injection ha with ha
  subst ha hc
  refine .inr ⟨g,c,_,rfl,hbg,zRe enc d hg,hnc,hcm,by simp[Sort.putCells,hs],?_⟩
  rw[Nat.mul_one,<-hd]
  exact zWg enc cur d (by rw[hs];omega)
theorem zOk {α:Type} [Inhabited α] (enc:α->Value) {d:Array α} (h:Kit.Own w B e (some ⟨g,0,none⟩) n c (d.toList.map enc)) (h0:0<n):Holds enc w g 0 d:=by
 obtain⟨g',hg',_,_,_,hc,hf⟩:=h.at_ h0
 injection hg' with hg'
 injection hg' with hg' _ _
 subst hg'
 have hl:=h.len
 intro j hj
 rw[List.length_map,Array.length_toList]at hl
 refine⟨?_,hf _⟩
 rw[Nat.zero_add,hc j (by omega),List.getElem?_map,Array.getElem?_toList,Array.getElem?_eq_getElem hj,getElem!_pos d j hj]
 rfl
theorem zT4 {α:Type} (d:Array α) (h:d.size=n):d.extract 0 n=d:=by subst h;simp
def tK (K:Nat->Nat) (x y:Fin (k+1)):Bool:=decide (K x.val<K y.val)||(K x.val==K y.val&&decide (x.val<y.val))
theorem zM3 {x y:Fin (k+1)}:tK K x y=true↔K x.val<K y.val\/(K x.val=K y.val/\x.val<y.val):=by simp[tK]
theorem zK0 {x y:Fin (k+1)}:tK K x y=false↔K y.val<K x.val\/(K y.val=K x.val/\y.val<=x.val):=by
 rw[<-Bool.not_eq_true,zM3];omega
theorem qEv (K:Nat->Nat) (k:Nat):SWO (tK K (k:=k)):=
 ⟨fun x=>by rw[zK0];omega,fun x y z h1 h2=>by rw[zM3]at*;omega,fun x y z h1 h2=>by rw[zK0]at*;omega⟩
def cfF (n m:Nat) (f:Nat->Nat) (x y:Fin (k+1)):Int:=cf2 n m f x.val y.val
theorem qFf {f:Nat->Nat} (hn:n=k+1) (h:∀i j,i<n->j<n->(cf2 n m f i j<0↔K i<K j)):Ord (ltOf (cfF n m f (k:=k))) (tK K) (fun x=>x.val):=by
 refine⟨qEv K k,fun x y hxy=> ?_⟩
 rw[Bool.eq_iff_iff,zM3]
 show decide (cf2 n m f y.val x.val<0)=true↔_
 rw[decide_eq_true_eq,h y.val x.val (by omega) (by omega)]
 omega
def zG1 (x:Fin (k+1)):Value:= .int .i64 ((x.val:Nat):Int)
theorem qA6:OneCell (zG1 (k:=k)):=by
 intro x;rfl
def fr (k:Nat):Array (Fin (k+1)):=(List.finRange (k+1)).toArray
theorem zFq (k:Nat):(fr k).size=k+1:=by simp[fr]
theorem qF6 (k:Nat):(fr k).toList.map zG1=(List.range (k+1)).map ival:=by
 apply List.ext_getElem?
 intro j
 by_cases hj:j<k+1
 ·simp[fr,hj,zG1,ival]
 ·rw[List.getElem?_eq_none (by simp[fr];omega),List.getElem?_eq_none (by simp;omega)]
theorem qCa (k j:Nat) (h:j<k+1):((fr k)[j]!).val=j:=by
 rw[getElem!_pos (fr k) j (by rw[zFq];exact h)]
 simp[fr]
theorem zGc {d:Array (Fin (k+1))} (hp:PermIn 0 (k+1) (fr k) d) (hs:SortedIn (tK K) 0 (k+1) d):
  (d.toList.map Fin.val).Perm (List.range (k+1))/\By K (d.toList.map Fin.val)/\d.size=k+1:=by
 obtain⟨hp1,_,hp3⟩:=hp
 have hd:d.size=k+1:=by rw[hp1,zFq]
 have hperm:(d.toList.map Fin.val).Perm (List.range (k+1)):=by
  rw[zT4 d hd,zT4 (fr k) (zFq k)]at hp3
  have h5:=hp3.map Fin.val
  refine h5.trans ?_
  have:(fr k).toList.map Fin.val=List.range (k+1):=by
   apply List.ext_getElem?
   intro j
   by_cases hj:j<k+1
   ·simp[fr,hj]
   ·rw[List.getElem?_eq_none (by simp[fr];omega),List.getElem?_eq_none (by simp;omega)]
  rw[this]
 have hnd:(d.toList.map Fin.val).Nodup:=hperm.nodup_iff.2 List.nodup_range
 refine⟨hperm,?_,hd⟩
 unfold By
 rw[List.pairwise_iff_getElem]
 intro i j hi hj hij
 have hi':i<d.size:=by simpa using hi
 have hj':j<d.size:=by simpa using hj
 have h1:=hs i j (by omega) hij (by omega)
 rw[getElem!_pos d i hi',getElem!_pos d j hj',zK0]at h1
 have hne:(d.toList.map Fin.val)[i]≠(d.toList.map Fin.val)[j]:=fun e=>by
  have:=zOo hnd hi hj e
  omega
 simp only[List.getElem_map,Array.getElem_toList]at hne⊢
 omega
abbrev TI_:TypeId:=305
def iv (r:RK):Value:= .iface TR (rv r)
theorem zWu (r:RK) (b i j:Nat) (f:Nat->Nat) (w:World) (hs:r.s.size=r.n) (hn:r.n<=1000000) (hm:r.m<=2000000) (hi:i<r.n) (hj:j<r.n) (hc:∀k,k<r.n->w.cell? ⟨r.N,k,none⟩=some (.int .i64 (f k:Int))) (hb:w.cell? ⟨b,0,none⟩=some (iv r)):
  Calls Tryz.prog 182 #[.int .i64 (i:Int),.int .i64 (j:Int),.pointer (some ⟨b,0,none⟩)] w fun e w'=>e= .returned (.int .i64 (cf2 r.n r.m f i j))/\Grn w w':=by
 have HC:=zH (zKt r i j f w hs hn hm hi hj hc)
 obtain⟨v,hv⟩:=zB (cf2 r.n r.m f i j)
 rw[hv]at HC⊢
 clear hs hn hm hi hj hc hv
 unfold iv at hb
 unfold rv at hb HC
 have hmt:∀w,(method 625 TR (.agg #[.string r.s,.slice (some ⟨r.N,0,none⟩) r.n r.c,.int .i64 (r.m:Int)]) "pressmark/turns.compare").run Tryz.prog w= .ok (130,.agg #[.string r.s,.slice (some ⟨r.N,0,none⟩) r.n r.c,.int .i64 (r.m:Int)]) w:=fun _=>by kernel_rfl
 go_enter Tryz.func182,Tryz.ntmps182
 go_wp2_with fail
 (with_reducible refine HC.out.mono ?_)
 rintro e w2 ⟨rfl,hg⟩
 go_wp2
 go_ret
 exact⟨rfl,hg⟩
theorem qHr (r:RK) (k S G:Nat) (f:Nat->Nat) (W:World) (hk:r.n=k+1) (hs:r.s.size=r.n) (hn:r.n<=1000000) (hm:r.m<=2000000) (hc:∀k,k<r.n->W.cell? ⟨r.N,k,none⟩=some (.int .i64 (f k:Int))) (hb:W.cell? ⟨S,0,none⟩=some (iv r)) (hN:r.N≠G) (hS:S≠G):
  CmpLays1 Tryz.prog 182 #[.pointer (some ⟨S,0,none⟩)] (zG1 (k:=k)) (cfF r.n r.m f) G 0 (fr k).size W:=by
 intro m os dk hdk x y
 have hg:=zD7 (zG1 (k:=k)) (w:=W) (g:=G) (n:=m) (os:=os) dk
 exact zWu r S x.val y.val f _ hs hn hm (by omega) (by omega) (fun j hj=>hg.cell (hc j hj) (fun e=>by injection e with e;exact hN e)) (hg.cell hb (fun e=>by injection e with e;exact hS e))
theorem zZc (r:RK) (K f:Nat->Nat) (G c B:Nat) (w:World) (hs:r.s.size=r.n) (h0:0<r.n) (hn:r.n<=100000) (hm:r.m<=2000000) (hK:∀i j,i<r.n->j<r.n->(cf2 r.n r.m f i j<0↔K i<K j)) (hN:r.N≠G) (hc:∀k,k<r.n->w.cell? ⟨r.N,k,none⟩=some (.int .i64 (f k:Int)))
  (ho:Kit.Own w B 3 (some ⟨G,0,none⟩) r.n c ((List.range r.n).map ival)):
  Calls Tryz.prog 129 #[.slice (some ⟨G,0,none⟩) r.n c,iv r] w fun e w'=>e= .returned (.tuple #[])/\∃o:List Nat,o.Perm (List.range r.n)/\By K o/\Kit.Own w' B 3 (some ⟨G,0,none⟩) r.n c (o.map ival)/\w.grownBy w' (some G):=by
 obtain⟨k,hk⟩:∃k,r.n=k+1:=⟨r.n-1,by omega⟩
 obtain⟨S,hS⟩:=zB w.heap.size
 obtain⟨W,hW⟩:=zB (w.alloc (.cells #[iv r] TI_))
 have hGl:G<w.heap.size:=by
  obtain⟨g',hg',_,hg2,_⟩:=ho.at_ h0
  injection hg' with hg'
  injection hg' with hg' _ _
  omega
 have hb:W.cell? ⟨S,0,none⟩=some (iv r):=by rw[<-hW,<-hS];simp
 have hal:w.grownBy W (some G):=by rw[<-hW];exact World.grownBy_alloc w _ _
 have how:Kit.Own W B 3 (some ⟨G,0,none⟩) r.n c ((fr k).toList.map zG1):=by rw[qF6,<-hk,<-hW];exact ho.alloc _
 have hcw:∀k,k<r.n->W.cell? ⟨r.N,k,none⟩=some (.int .i64 (f k:Int)):=fun j hj=>hal.cell (hc j hj) (fun e=>by injection e with e;exact hN e)
 have hh:=zOk zG1 how h0
 have hst:=zP3 (zG1 (k:=k)) (cfF r.n r.m f) (qFf hk hK) 182 #[.pointer (some ⟨S,0,none⟩)] G 0 c (fr k) (enters_of Tryz.func182 (by kernel_rfl) rfl) W (qHr r k S G f W hk hs (by omega) hm hcw hb hN (by omega)) ⟨qA6,hh,by rw[<-hW];simp;omega⟩ (by rw[zFq];omega) (SW.start hh) (fun p q h1 h2=>by rw[zFq]at h2;rw[qCa k p (by omega),qCa k q h2];exact h1)
 rw[zFq]at hst
 have HF:=zH (show ∀d w',(PermIn 0 (k+1) (fr k) d/\SortedIn (tK K) 0 (k+1) d)/\SW zG1 W G 0 d w'->∃o:List Nat,o.Perm (List.range (k+1))/\By K o/\Kit.Own w' B 3 (some ⟨G,0,none⟩) (k+1) c (o.map ival)/\w.grownBy w' (some G)from fun d w' h=>by
  obtain⟨⟨h1,h2⟩,m,os,rfl⟩:=h
  obtain⟨h3,h4,h5⟩:=zGc h1 h2
  rw[hk]at how
  refine⟨_,h3,h4,?_,hal.trans (zD7 _ _)⟩
  have h6:=zKi (zG1 (k:=k)) (m:=m) (os:=os) how d h5
  rw[List.map_map]
  exact h6)
 have HST:=zH hst
 have HW:=zH hW
 have HS:=zH hS
 clear hst hW hS hb hal how hcw hh hGl hc ho hK hN hs hn hm h0
 unfold iv at*
 rw[hk]
 clear hk
 obtain⟨n,hn⟩:=zB (k+1)
 obtain⟨R,hR⟩:=zB (rv r)
 rw[hR]at HW⊢
 clear hR hn
 go_enter Tryz.func129,Tryz.ntmps129
 go_wp2_with fail
 rw[HS.out,show w.alloc (.cells #[.iface TR R] TI_)=W from HW.out]
 (with_reducible refine HST.out.mono ?_)
 rintro e w2 ⟨rfl,d2,h2,hs2⟩
 go_wp2
 go_end0
 exact⟨rfl,HF.out d2 w2 ⟨h2,hs2⟩⟩
end St
namespace St
open Go.RowKit Go.Lib Go.Sort Go.Proofs Tn Front
theorem zHf:∀{l m:List Int},l.Perm m->l.Pairwise (·<=·)->m.Pairwise (·<=·)->l=m
 |[],m,hp,_,_=>hp.symm.eq_nil.symm▸rfl
 |x::l,m,hp,hl,hm=>by
  cases m with
  |nil=>exact absurd hp.length_eq (by simp)
  |cons y m=>
   obtain⟨h1,h2⟩:=List.pairwise_cons.1 hl
   obtain⟨h3,h4⟩:=List.pairwise_cons.1 hm
   have e:x=y:=by
    rcases List.mem_cons.1 (hp.mem_iff.1 (List.mem_cons_self))with e|hx
    ·exact e
    ·rcases List.mem_cons.1 (hp.mem_iff.2 (List.mem_cons_self (a:=y) (l:=m)))with e|hy
     ·exact e.symm
     ·have q1:=h1 y hy
      have q2:=h3 x hx
      omega
   subst e
   rw[zHf (hp.cons_inv) h2 h4]
def zs (l:List Nat):List Int:=l.map fun k:Nat=>(k:Int)
theorem qCj {l:List Nat} {n:Nat} (hp:l.Perm (List.range n)):(zs l).mergeSort (fun x y=>decide (x<=y))=zs (List.range n):=by
 refine zHf ((List.mergeSort_perm _ _).trans (hp.map _)) ?_ ?_
 ·have h:=List.pairwise_mergeSort (le:=fun x y:Int=>decide (x<=y)) (fun a b c h1 h2=>by simp at*;omega) (fun a b=>by simp;omega) (zs l)
  exact h.imp (fun h=>by simpa using h)
 ·unfold zs
  rw[List.pairwise_map]
  have h:(List.range n).Pairwise (·<·):=List.pairwise_lt_range
  exact h.imp (fun h=>by omega)
theorem zV1 (l:List Nat):(zs l).map (Value.int .i64)=l.map ival:=by unfold zs;rw[List.map_map];rfl
theorem zXp (l:List Nat) (g n c B:Nat) (w:World) (hn:l.length=n) (h0:0<n) (hb:n<=1000000) (h:Kit.Own w B 3 (some ⟨g,0,none⟩) n c (l.map ival)) (hp:l.Perm (List.range n)):
  Calls Tryz.prog 128 #[.slice (some ⟨g,0,none⟩) n c] w fun e w'=>e= .returned (.tuple #[])/\Kit.Own w' B 3 (some ⟨g,0,none⟩) n c ((List.range n).map ival)/\w.grownBy w' (some g):=by
 have hz:(zs l).length=n:=by unfold zs;rw[List.length_map,hn]
 have hh:Holds (Value.int .i64) w g 0 (zs l).toArray:=zOk (Value.int .i64) (by simpa [zV1]using h) h0
 have hg:g<w.heap.size:=by
  obtain⟨g',hg',_,hg2,_⟩:=h.at_ h0
  injection hg' with hg'
  injection hg' with hg' _ _
  omega
 have hc:=Tryz.slices_Sort_int g 0 c (zs l) w hh hg (by omega)
 rw[hz]at hc
 refine hc.mono ?_
 rintro e w' ⟨rfl,m,os,rfl⟩
 rw[qCj hp]
 have ho:=zKi (Value.int .i64) (m:=m) (os:=os) h (zs (List.range n)).toArray (by simp[zs])
 rw[show((zs (List.range n)).toArray.toList.map (Value.int .i64))=(List.range n).map ival from by rw[<-zV1]]at ho
 exact⟨rfl,ho,zD7 (Value.int .i64) _⟩
end St
namespace St
open Go.RowKit Go.Lib Go.Sort Go.Proofs Tn Bt Front Zr Ix Wg
variable {w w' w0:World} {R N' a c B G n N m:Nat} {V:Int} {l o:List Nat} {s:ByteArray} {f:Nat->Nat}
def RX (w:World) (R:Nat) (r:RK):Prop:=w.heap[R]? =some (.cells #[.string r.s,.slice (some ⟨r.N,0,none⟩) r.n r.c,.int .i64 (r.m:Int)] TR (0,0))
theorem RX.rb {r:RK} (h:RX w R r):RB w R r:=by
 unfold RX at h
 refine⟨?_,?_,?_⟩<;>simp[World.cell?,h]
theorem RX.fr {r:RK} (h:RX w R r) (i:Nat):w.frozen? ⟨R,i,none⟩=false:=by
 unfold RX at h
 simp[World.frozen?,h]
theorem RX.lt {r:RK} (h:RX w R r):R<w.heap.size:=(Array.getElem?_eq_some_iff.1 h).1
theorem RX.keep {r:RK} (h:RX w R r) (e:w'.heap[R]? =w.heap[R]?):RX w' R r:=e.trans h
theorem RX.set1 {r:RK} (h:RX w R r):RX (w.setCell ⟨R,1,none⟩ (.slice (some ⟨N',0,none⟩) r.n r.n)) R ⟨r.s,N',r.n,r.n,r.m⟩:=by
 unfold RX at*
 simp[World.setCell,Array.getElem?_modify,h]
theorem RX.set2 {m':Nat} {r:RK} (h:RX w R r) (hV:V=(m':Int)):RX (w.setCell ⟨R,2,none⟩ (.int .i64 V)) R ⟨r.s,r.N,r.n,r.c,m'⟩:=by
 subst hV
 unfold RX at*
 simp[World.setCell,Array.getElem?_modify,h]
theorem zCw {k:Nat} (i:Nat) (v:Value) (h:a≠k):(w.setCell ⟨a,i,none⟩ v).heap[k]? =w.heap[k]? :=by
 simp[World.setCell,Array.getElem?_modify,h]
theorem zMb {D:Nat} {p:Option Addr} {j:Nat} (h:Kit.Own w D 3 p j c (l.map ival)) (x:Nat) (hj:j<=1000000) (hD:D<=w.heap.size):
  ∃p' c' w',(Builtin.append_ #[23,23] 23 #[.slice p j c,.slice (some ⟨w.heap.size,0,none⟩) 1 1]).run Tryz.prog (w.alloc (.cells #[.int .i64 (x:Int)] 3))= .ok (.slice p' (j+1) c') w'/\
   Kit.Own w' D 3 p' (j+1) c' ((l++[x]).map ival)/\Below D w w':=by
 obtain⟨p3,c3,w3,hr3,ho3,hg3⟩:=Kit.Own.app (ty:=23) (w:=w.alloc (.cells #[.int .i64 (x:Int)] 3)) zFn (h.alloc _) (some ⟨w.heap.size,0,none⟩) 1 1 [ival x] (Kit.zAs w _ 3) rfl (fun h=>by cases h) (zDr [x]) (by unfold maxLen;omega) (by omega) (by simp;omega)
 refine⟨p3,c3,w3,hr3,by rw[List.map_append];exact ho3,?_⟩
 exact((Below.refl _ _).alloc hD _).trans ((Below.refl _ _).grown hg3 (by simp;omega) (fun q hq=>h.block q hq))
structure OS (w0:World) (B G c:Nat) (s:ByteArray) (n:Nat) (l o:List Nat) (N m:Nat) (f:Nat->Nat) (w:World):Prop where
 own:Kit.Own w (B+2) 3 (some ⟨G,0,none⟩) n c (o.map ival)
 box:RX w (B+1) ⟨s,N,n,n,m⟩
 arr:zAm w N 3 n f
 below:Below B w0 w
 bg:B+2<=G
 gn:N≠G/\N≠B+1/\B<=N
 perm:o.Perm (List.range n)
 rk:Rk l f (up1 m)
theorem OS.sorted {o':List Nat} (h:OS w0 B G c s n l o N m f w) (ho:Kit.Own w' (B+2) 3 (some ⟨G,0,none⟩) n c (o'.map ival)) (hp:o'.Perm (List.range n)) (hg:w.grownBy w' (some G)):OS w0 B G c s n l o' N m f w':=by
 have h1:=h.bg
 have h2:=h.gn
 have h3:=h.box.lt
 have h4:=h.arr.lt
 exact⟨ho,h.box.keep (hg.block _ h3 (fun e=>by injection e with e;omega)),h.arr.keep (hg.block _ h4 (fun e=>by injection e with e;omega)),h.below.trans ((Below.refl _ _).grown hg (by omega) (fun q hq=>by injection hq with hq;omega)),h1,h2,hp,h.rk⟩
theorem OS.alloc (h:OS w0 B G c s n l o N m f w) (x:Obj):OS w0 B G c s n l o N m f (w.alloc x):=by
 have h3:=h.box.lt
 have h4:=h.arr.lt
 exact⟨h.own.alloc _,h.box.keep (Lib.alloc_old w _ _ h3),h.arr.keep (Lib.alloc_old w _ _ h4),h.below.alloc (by omega) _,h.bg,h.gn,h.perm,h.rk⟩
theorem OS.grn (h:OS w0 B G c s n l o N m f w) (g:Grn w w'):OS w0 B G c s n l o N m f w':=by
 have h3:=h.box.lt
 have h4:=h.arr.lt
 exact⟨h.own.below g.below (Nat.le_refl _),h.box.keep (g.block _ h3),h.arr.keep (g.block _ h4),h.below.trans (g.below.mono (by omega)),h.bg,h.gn,h.perm,h.rk⟩
theorem OS.drew (h:OS w0 B G c s n l o N m f w):OS w0 B G c s n l o N m f w.drew:=h.grn (Grn.drew w)
theorem OS.zCw (h:OS w0 B G c s n l o N m f w) (hG:a≠G) (hN:a≠N) (hR:a≠B+1) (hB:B<=a) (i:Nat) (v:Value):OS w0 B G c s n l o N m f (w.setCell ⟨a,i,none⟩ v):=
 ⟨World.ownsRow.kept h.own (zB1 w a i v) (.inr (by intro e;simp[Value.ownBlock]at e;omega)),h.box.keep (St.zCw _ _ hR),h.arr.keep (St.zCw _ _ hN),h.below.setCell (p:=⟨a,i,none⟩) hB v,h.bg,h.gn,h.perm,h.rk⟩
theorem OS.next {M:Nat} {F:Nat->Nat} (h:OS w0 B G c s n l o N m f w) (hA:zAm w N' 3 n F) (hG:N'≠G) (hR:N'≠B+1) (hB:B<=N') (hrk:Rk l F (up1 M)) (hV:V=(M:Int)):
  OS w0 B G c s n l o N' M F ((w.setCell ⟨B+1,1,none⟩ (.slice (some ⟨N',0,none⟩) n n)).setCell ⟨B+1,2,none⟩ (.int .i64 V)):=by
 have h1:=h.bg
 refine⟨World.ownsRow.kept (World.ownsRow.kept h.own (zB1 w (B+1) 1 _) (.inr (by intro e;simp[Value.ownBlock]at e;omega))) (zB1 _ (B+1) 2 _) (.inr (by intro e;simp[Value.ownBlock]at e;omega)),?_,?_,(h.below.setCell (p:=⟨B+1,1,none⟩) (Nat.le_succ B) _).setCell (p:=⟨B+1,2,none⟩) (Nat.le_succ B) _,h1,⟨hG,hR,hB⟩,h.perm,hrk⟩
 ·exact RX.set2 (RX.set1 (N':=N') h.box) hV
 ·exact(hA.keep (St.zCw (a:=B+1) 1 _ (by omega))).keep (St.zCw (a:=B+1) 2 _ (by omega))
def fk (l:List Nat) (k j:Nat):Nat:=if j<k then l.getD j 0 else 0
theorem zOm (s:ByteArray) (n:Nat) (hn:s.size=n) (h0:0<n) (hs:n<=100000) (w:World):
  Calls Tryz.prog 47 #[.string s] w fun e w'=>∃G c,e= .returned (.slice (some ⟨G,0,none⟩) n c)/\Kit.Own w' w.heap.size 3 (some ⟨G,0,none⟩) n c ((zHx (bl s)).map ival)/\Below w.heap.size w w':=by
 obtain⟨B,hB⟩:=zB w.heap.size
 have hmk:=zF2 w n (by omega)
 rw[hB]at hmk
 obtain⟨l,hl⟩:=zB (bl s)
 have hlen:l.length=n:=by rw[<-hl,zB2,hn]
 have hget:∀(i:Nat) (h:i<s.size),l.getD i 0=s[i].toNat:=fun i h=>by rw[<-hl,zRx s i h]
 have hby:Bytes l:=by
  rw[<-hl];intro x hx
  obtain⟨u,_,rfl⟩:=List.mem_map.1 hx
  exact UInt8.toNat_lt u
 rw[hl]
 have HLEN:=zH hlen
 have HGET:=zH hget
 have HBY:=zH hby
 obtain⟨W1,hW1⟩:=zB (w.alloc (.cells (cellsOf n (fun _=> .int .i64 0)) 3))
 have z1:W1.heap.size=B+1:=by rw[<-hW1,zA,hB]
 obtain⟨W,hW⟩:=zB (W1.alloc (zNa ⟨s,B,n,n,0⟩))
 have hWs:W.heap.size=B+2:=by rw[<-hW,zA,z1]
 have ha0:zAm W B 3 n (fk l 0):=by
  have h:=zAm.zeros B w n 3 hB
  rw[hW1]at h
  rw[<-hW]
  exact(h.keep (Lib.alloc_old W1 _ B (by omega))).congr (fun k _=>by simp[fk])
 have hr0:RX W (B+1) ⟨s,B,n,n,0⟩:=by
  unfold RX
  rw[<-hW,<-z1]
  show(W1.heap.push _)[W1.heap.size]? =_
  simp
 have hb0:Below B w W:=by
  rw[<-hW,<-hW1,<-hB]
  exact((Below.refl _ _).alloc (Nat.le_refl _) _).alloc (by rw[zA];omega) _
 have HA0:=zH ha0
 have HR0:=zH hr0
 have HB0:=zH hb0
 rw[hB]
 have HW1:=zH hW1
 have HW:=zH hW
 clear hl hlen hget hby ha0 hr0 hb0 z1 hW1 hW hWs
 go_enter Tryz.func47,Tryz.ntmps47
 go_wp2
 clear hmk
 rw[show(w.alloc (.cells (cellsOf n fun x=> .int .i64 0) 3)).alloc (.cells #[.string s,.slice (some ⟨B,0,none⟩) n n,.int .i64 0] TR)=W from by rw[HW1.out];exact HW.out]
 clear HW1 HW hB W1
 go_loopw [2,15] (fun ov iv wr=>∃(k c:Nat) (p:Option Addr),k<=n/\iv= .int .i64 k/\ov= .slice p k c/\RowKit.Hid (Kit.Own wr (B+2) 3 p k c ((List.range k).map ival))/\RowKit.Hid (zAm wr B 3 n (fk l k))/\RowKit.Hid (RX wr (B+1) ⟨s,B,n,n,0⟩)/\RowKit.Hid (Below B w wr)) (fun _ iv _=>n-(intOf iv).toNat)
 case atStart=>exact⟨0,0,none,by omega,rfl,rfl,zH (Kit.Own.start _ _ _),HA0,HR0,HB0⟩
 case round=>
  clear HA0 HR0 HB0 W
  obtain⟨k,c,p,hk,rfl,rfl,hown,har,hrx,hb⟩:=hrel
  by_cases hlt:k<n
  ·have hsz:B+2<=wr.heap.size:=by have:=hrx.out.lt;omega
   obtain⟨p3,c3,w3,hr3,ho3,hb3⟩:=zMb hown.out k (by omega) hsz
   have HO3:=zH (show Kit.Own w3 (B+2) 3 p3 (k+1) c3 ((List.range (k+1)).map ival)from by rw[List.range_succ];exact ho3)
   have ha3:=har.out.keep (hb3.block B (by omega))
   have hx3:=hrx.out.keep (hb3.block (B+1) (by omega))
   have x0:=hx3.rb.c1
   have x1:=ha3.cell k hlt
   have x2:=ha3.free k
   simp only at x0
   have hks:k<s.size:=by omega
   have HA:=zH ((ha3.set k (l.getD k 0) (V:=(s[k].toNat:Int)) (by rw[HGET.out k hks])).congr (g:=fk l (k+1)) (fun j _=>by
    unfold zAy fk
    by_cases e:j=k
    ·subst e;rw[if_pos rfl,if_pos (by omega)]
    ·rw[if_neg e]
     by_cases h:j<k
     ·rw[if_pos h,if_pos (by omega)]
     ·rw[if_neg h,if_neg (by omega)]))
   have HX:=zH (hx3.keep (zCw (a:=B) k (.int .i64 (s[k].toNat:Int)) (by omega)))
   have HBB:=zH ((hb.out.trans (hb3.mono (by omega))).setCell (p:=⟨B,k,none⟩) (Nat.le_refl _) (.int .i64 (s[k].toNat:Int)))
   have HO:=zH (zD4 (i:=k) HO3.out (by omega:B<B+2) (.int .i64 (s[k].toNat:Int)))
   clear ho3 hb3 ha3 hx3 hown har hrx hb HO3 hsz
   go_wp2_with (at_builtin;refine Kit.zAr rfl (.tmp 18) (.tmp 20) 23 rfl rfl rfl hr3 ?_)
   clear hr3
   go_region
   rw[IntWalk.wrap64_in (s[k].toNat:Int) (by have:=UInt8.toNat_lt s[k];omega)]
   go_wp2
   go_roundw
   case rel=>exact⟨k+1,c3,p3,by omega,by go_num,rfl,zH (HO.out.below (Below.refl _ _).drew (Nat.le_refl _)),HA,HX,zH HBB.out.drew⟩
   case measure=>simp only[intOf];omega
  ·obtain rfl:n=k:=by omega
   obtain⟨G,rfl,hBG,hG,hkc,_,_⟩:=hown.out.at_ h0
   have hRl:=hrx.out.lt
   have S0:=zH (OS.mk hown.out hrx.out har.out hb.out hBG (by omega) (List.Perm.refl _) (zZo (fun j hj=>by unfold fk;rw[if_pos (by rw[HLEN.out]at hj;exact hj)])):OS w B G c s n l (List.range n) B 0 (fk l n) wr)
   clear hown har hrx hb hRl hG hlt hk
   go_wp2
   go_loopg [2] n (fun kx s2 wr=>∃(o:List Nat) (N m:Nat) (f:Nat->Nat),s2= .slice (some ⟨G,0,none⟩) n c/\m<n/\n-m<=kx/\RowKit.Hid (OS w B G c s n l o N m f wr))
   case atStart=>exact⟨_,B,0,_,rfl,by omega,by omega,S0⟩
   case round=>
    clear S0
    obtain⟨o,N,m,f,rfl,hm,hkx,hS⟩:=hrel
    have hI:=zXp o G n c (B+2) wr (by rw[hS.out.perm.length_eq,List.length_range]) h0 (by omega) hS.out.own hS.out.perm
    have HI:=zH hI
    clear hI
    go_wp2_with fail
    (with_reducible refine HI.out.mono ?_)
    rintro e w2 ⟨rfl,ho2,hg2⟩
    have S2:=zH (hS.out.sorted ho2 (List.Perm.refl _) hg2)
    clear HI hS ho2 hg2
    have HT:=zH (zZc ⟨s,N,n,n,m⟩ (C l (up2 m)) f G c (B+2) w2 hn h0 hs (by show m<=2000000;omega) (fun i j hi hj=>by
     have h:=zUr HBY.out S2.out.rk i j (by rw[HLEN.out];exact hi) (by rw[HLEN.out];exact hj)
     rw[HLEN.out]at h
     exact h) S2.out.gn.1 (fun k hk=>S2.out.arr.cell k hk) S2.out.own)
    unfold iv rv at HT
    obtain⟨x0,x1,x2⟩:=S2.out.box.rb
    go_wp2_with fail
    (with_reducible refine HT.out.mono ?_)
    rintro e w3 ⟨rfl,o3,hp3,hby3,ho3,hg3⟩
    have S3:=zH (S2.out.sorted ho3 hp3 hg3)
    have BY3:=zH hby3
    obtain⟨N',hN'⟩:=zB w3.heap.size
    have hmk:=zF2 w3 n (by omega)
    rw[hN']at hmk
    have S4:=zH (S3.out.alloc (.cells (cellsOf n (fun _=> .int .i64 0)) 3))
    have A4:=zH (zAm.zeros N' w3 n 3 hN')
    have hNN:N<N':=by rw[<-hN'];exact S3.out.arr.lt
    have hRN:B+1<N':=by rw[<-hN'];exact S3.out.box.lt
    have hGN:G<N':=by
     obtain⟨g',hg',_,hgl,_⟩:=S3.out.own.at_ h0
     injection hg' with hg'
     injection hg' with hg' _ _
     omega
    obtain⟨w4,hw4⟩:=zB (w3.alloc (.cells (cellsOf n (fun _=> .int .i64 0)) 3))
    rw[hw4]at hmk S4 A4
    clear HT S2 x0 x1 x2 hp3 hby3 ho3 hg3 S3 hN' hw4
    go_wp2
    clear hmk
    go_loopw [6] (fun iv wr=>∃(i:Nat) (F:Nat->Nat),1<=i/\i<=n/\iv= .int .i64 i/\RowKit.Hid (OS w B G c s n l o3 N m f wr)/\RowKit.Hid (zAm wr N' 3 n F)/\RowKit.Hid (∀p,p<i->F (o3.getD p 0)=rkP (C l (up2 m)) o3 p)/\RowKit.Hid (∀k,k<n->F k<=n)) (fun iv _=>n-(intOf iv).toNat)
    case atStart=>exact⟨1,fun _=>0,by omega,by omega,by go_num,S4,A4,zH (fun p hp=>(by obtain rfl:p=0:=(by omega);rfl)),zH (fun k _=>Nat.zero_le _)⟩
    case round=>
     clear S4 A4
     obtain⟨i,F,hi1,hi2,rfl,hS,hA,hF,hFn⟩:=hrel
     by_cases hlt:i<n
     ·obtain⟨j,hj⟩:=zB (i-1)
      have hji:j+1=i:=by omega
      have hol:o3.length=n:=by rw[hS.out.perm.length_eq,List.length_range]
      obtain⟨g',hg',_,_,_,hcell,_⟩:=hS.out.own.at_ h0
      injection hg' with hg'
      injection hg' with hg' _ _
      subst hg'
      obtain⟨a,ha⟩:=zB (o3.getD j 0)
      obtain⟨b,hb⟩:=zB (o3.getD i 0)
      have han:a<n:=by rw[<-ha];exact zNc hS.out.perm j (by omega)
      have hbn:b<n:=by rw[<-hb];exact zNc hS.out.perm i (by omega)
      have cG:∀k,k<n->wr.cell? ⟨G,k,none⟩=some (.int .i64 (o3.getD k 0:Int)):=fun k hk=>by
       rw[hcell k hk,List.getElem?_map,List.getElem?_eq_getElem (by omega),List.getD_eq_getElem?_getD,List.getElem?_eq_getElem (by omega)];rfl
      have ca:=cG j (by omega)
      have cb:=cG i hlt
      rw[ha]at ca
      rw[hb]at cb
      have cF:=hA.out.cell a han
      have cFb:=hA.out.cell b hbn
      have fb:=hA.out.free b
      have hFa:F a=rkP (C l (up2 m)) o3 j:=by rw[<-ha];exact hF.out j (by omega)
      have hFan:=hFn.out a han
      have hrl:=zWz (C l (up2 m)) o3 j
      have hst:=Kit.zDs (P:=Tryz.prog) (t:=3) (v:= .int .i64 (F a:Int)) (w:=wr.drew) cFb fb (by kernel_rfl) rfl rfl
      obtain⟨w5,hw5⟩:=zB (wr.drew.setCell ⟨N',b,none⟩ (.int .i64 (F a:Int)))
      have S5:=zH (show OS w B G c s n l o3 N m f w5 by rw[<-hw5];exact hS.out.drew.zCw (by omega) (by omega) (by omega) (by omega) _ _)
      have A5:=zH (show zAm w5 N' 3 n (zAy F b (F a))by rw[<-hw5];exact zAm.set (w:=wr.drew) hA.out b (F a) rfl)
      rw[hw5]at hst
      have ST:=zH hst
      have CA:=zH (zE4 (w:=wr.drew) ca)
      have CB:=zH (zE4 (w:=wr.drew) cb)
      have CF:=zH (zE4 (w:=wr.drew) cF)
      have NE:N'≠G:=by omega
      have CA5:=zH (zE4 (w:=w5.drew) (show w5.cell? ⟨G,j,none⟩=_ by rw[<-hw5,World.cell?_setCell_other _ _ _ _ (by intro e;injection e with e1 _ _;omega)];exact ca))
      have CB5:=zH (zE4 (w:=w5.drew) (show w5.cell? ⟨G,i,none⟩=_ by rw[<-hw5,World.cell?_setCell_other _ _ _ _ (by intro e;injection e with e1 _ _;omega)];exact cb))
      have WJ:=zH (show IntKind.i64.wrap ((i:Int)-1)=(j:Int)by rw[IntWalk.i64_in _ (by omega)];omega)
      have RV5:=zH (S5.out.drew.box.rb.ld)
      have HC:=zH (zKt ⟨s,N,n,n,m⟩ a b f w5.drew hn (by show n<=1000000;omega) (by show m<=2000000;omega) han hbn (fun k hk=>S5.out.drew.arr.cell k hk))
      have CZ:=zH (show cf2 n m f a b=0↔C l (up2 m) a=C l (up2 m) b by
       have h:=qCw HBY.out hS.out.rk a b (by rw[HLEN.out];exact han) (by rw[HLEN.out];exact hbn)
       rw[HLEN.out]at h
       exact h)
      have HIN:=zH (show ∀p,p<i->o3.getD p 0≠b from fun p hp e=>by
       have:=zQw hS.out.perm (p:=p) (q:=i) (by omega) (by omega) (by rw[e,hb])
       omega)
      have HJ:=zH (show j<n by omega)
      have HI:=zH hlt
      have HAN:=zH han
      have HBN:=zH hbn
      have HA_:=zH ha
      have HB_:=zH hb
      have HFA:=zH hFa
      clear hcell cG ca cb cF cFb fb hst hw5 hS hA ha hb hFa hol
      obtain⟨v,hv⟩:=zB (cf2 n m f a b)
      rw[hv]at CZ
      have HC':=zH (show Calls Tryz.prog 130 #[rv ⟨s,N,n,n,m⟩,.int .i64 (a:Int),.int .i64 (b:Int)] w5.drew fun e w'=>e= .returned (.int .i64 v)/\Grn w5.drew w' by rw[<-hv];exact HC.out)
      clear HC hv
      go_wp2
      refine zS [] (fun _=>True) [0,0,0,6,8,0,0,0,128,320,512,1056,2048,8191,16383] 15<|zp [0,1,2,3,4,5,6,7,8,9,10,11,12,13]<|zk 46 (.slice (some ⟨N',0,none⟩) n n)<|zk 47 (.slice (some ⟨G,0,none⟩) n c)<|zk 48 (zI i)<|zt 49 (zP G i) (Kit.zBo (t:=23) (x:=(.tmp 47)) (y:=(.tmp 48)) (g:=G) (n:=n) (c:=c) (k:=i) rfl (by kernel_rfl) (by kernel_rfl) HI.out Tryz.underlying23 (fun _=>Tryz.sizeOf3 _) _)<|zt 50 (zI b) (zl 3 49 (CB.out))<|zk 51 (.slice (some ⟨N',0,none⟩) n n)<|zk 52 (.slice (some ⟨G,0,none⟩) n c)<|zk 53 (zI i)<|zt 54 (zI j) (Kit.zM6 (x:= .tmp 53) (y:= .const (.int .i64 1)) rfl (by kernel_rfl) (by kernel_rfl) WJ.out _)<|zt 55 (zP G j) (Kit.zBo (t:=23) (x:=(.tmp 52)) (y:=(.tmp 54)) (g:=G) (n:=n) (c:=c) (k:=j) rfl (by kernel_rfl) (by kernel_rfl) HJ.out Tryz.underlying23 (fun _=>Tryz.sizeOf3 _) _)<|zt 56 (zI a) (zl 3 55 (CA.out))<|zt 57 (zP N' a) (Kit.zBo (t:=23) (x:=(.tmp 51)) (y:=(.tmp 56)) (g:=N') (n:=n) (c:=n) (k:=a) rfl (by kernel_rfl) (by kernel_rfl) HAN.out Tryz.underlying23 (fun _=>Tryz.sizeOf3 _) _)<|zt 58 (.int .i64 (F a:Int)) (zl 3 57 (CF.out))<|zt 59 (zP N' b) (Kit.zBo (t:=23) (x:=(.tmp 46)) (y:=(.tmp 50)) (g:=N') (n:=n) (c:=n) (k:=b) rfl (by kernel_rfl) (by kernel_rfl) HBN.out Tryz.underlying23 (fun _=>Tryz.sizeOf3 _) _)<|zn<|zw 14 none (zr 3 59 58 (ST.out)) (.inr (.inr trivial))<|zE<| ?_
      simp only[zP,zI,Act.put,List.setIfInBounds_toArray,List.set_cons_zero,List.set_cons_succ]
      go_wp2
      refine zS [] (fun _=>True) [0,0,0,4,10,16,0,0,192,256,545,1024] 12<|zp [0,1,2,3,4,5,6,7,8,9]<|zt 60 (rv ⟨s,N,n,n,m⟩) (zl 221 3 (RV5.out))<|zk 61 (.slice (some ⟨G,0,none⟩) n c)<|zk 62 (zI i)<|zt 63 (zI j) (Kit.zM6 (x:= .tmp 62) (y:= .const (.int .i64 1)) rfl (by kernel_rfl) (by kernel_rfl) WJ.out _)<|zt 64 (zP G j) (Kit.zBo (t:=23) (x:=(.tmp 61)) (y:=(.tmp 63)) (g:=G) (n:=n) (c:=c) (k:=j) rfl (by kernel_rfl) (by kernel_rfl) HJ.out Tryz.underlying23 (fun _=>Tryz.sizeOf3 _) _)<|zt 65 (zI a) (zl 3 64 (CA5.out))<|zk 66 (.slice (some ⟨G,0,none⟩) n c)<|zk 67 (zI i)<|zt 68 (zP G i) (Kit.zBo (t:=23) (x:=(.tmp 66)) (y:=(.tmp 67)) (g:=G) (n:=n) (c:=c) (k:=i) rfl (by kernel_rfl) (by kernel_rfl) HI.out Tryz.underlying23 (fun _=>Tryz.sizeOf3 _) _)<|zt 69 (zI b) (zl 3 68 (CB5.out))<|zn<|zc 10 70 130 #[rv ⟨s,N,n,n,m⟩,.int .i64 (a:Int),.int .i64 (b:Int)] (.int .i64 v) HC'.out<| ?_
      refine fun w6 g6=>⟨.inr (.inr trivial),?_⟩
      refine zp [11]<|zk 71 (.bool (v !=0))<|zn<|zE<| ?_
      simp only[zP,zI,Act.put,List.setIfInBounds_toArray,List.set_cons_zero,List.set_cons_succ]
      have S6:=zH (S5.out.drew.grn g6)
      have A6:=zH (A5.out.keep (g6.block N' (by have:=A5.out.lt;exact this)))
      have HNF:=zH (show ∀(q:Nat) (F':Nat->Nat),F'=zAy (zAy F b (F a)) b (F a+q)->(q=if C l (up2 m) a=C l (up2 m) b then 0 else 1)->(∀p,p<i+1->F' (o3.getD p 0)=rkP (C l (up2 m)) o3 p)/\∀k,k<n->F' k<=n from fun q F' hF' hq=>by
       subst hF'
       refine⟨fun p hp=> ?_,fun k hk=> ?_⟩
       ·by_cases e:p=i
        ·subst e
         rw[HB_.out,zCj,HFA.out,<-hji]
         show _=rkP (C l (up2 m)) o3 j+_
         rw[hq,HA_.out,hji,HB_.out]
        ·rw[zBb _ _ _ _ (HIN.out p (by omega)),zBb _ _ _ _ (HIN.out p (by omega))]
         exact hF.out p (by omega)
       ·unfold zAy
        by_cases e:k=b
        ·rw[if_pos e];have:q<=1:=by rw[hq];split<;>omega
         have h1:=HFA.out
         omega
        ·rw[if_neg e,if_neg e];exact hFn.out k hk)
      clear S5 A5 hF hFn HIN HFA HA_ g6 RV5 CA5 CB5 HC' ST CA CB CF
      by_cases hv0:v=0
      ·subst hv0
       have HQ:=zH (HNF.out 0 _ rfl (by rw[if_pos (CZ.out.1 rfl)]))
       have A7:=zH (show zAm w6 N' 3 n (zAy (zAy F b (F a)) b (F a+0))from A6.out.congr (fun k _=>by
        unfold zAy
        by_cases e:k=b
        ·rw[if_pos e,if_pos e,Nat.add_zero]
        ·rw[if_neg e,if_neg e]))
       clear HNF A6 CZ
       go_wp2
       go_roundw
       case rel=>exact⟨i+1,_,by omega,by omega,by go_num,S6,A7,zH HQ.out.1,zH HQ.out.2⟩
       case measure=>simp only[intOf];omega
      ·have hv1:(v !=0)=true:=by simpa using hv0
       have HQ:=zH (HNF.out 1 _ rfl (by rw[if_neg (fun e=>hv0 (CZ.out.2 e))]))
       have x0:w6.cell? ⟨G,i,none⟩=some (.int .i64 (b:Int)):=by
        obtain⟨g',hg',_,_,_,hcell,_⟩:=S6.out.own.at_ h0
        injection hg' with hg'
        injection hg' with hg' _ _
        subst hg'
        have hol:o3.length=n:=by rw[S6.out.perm.length_eq,List.length_range]
        rw[hcell i hlt,List.getElem?_map,List.getElem?_eq_getElem (by omega)]
        have h5:=HB_.out
        rw[List.getD_eq_getElem?_getD,List.getElem?_eq_getElem (by omega)]at h5
        simp only[Option.getD_some]at h5
        rw[h5];rfl
       have x1:=A6.out.cell b HBN.out
       rw[zCj]at x1
       have x2:=A6.out.free b
       have A7:=zH (A6.out.set b (F a+1) (V:=((F a:Nat):Int)+1) (by omega))
       have S7:=zH (S6.out.zCw (a:=N') NE (by omega) (by omega) (by omega) b (.int .i64 (((F a:Nat):Int)+1)))
       obtain⟨Fa,hFa⟩:=zB (F a)
       rw[hFa]at x1 A7 S7 HQ
       rw[hFa]at hFan
       clear HNF A6 CZ S6 hv0 hFa hrl
       go_wp2
       go_roundw
       case rel=>exact⟨i+1,_,by omega,by omega,by go_num,S7,A7,zH HQ.out.1,zH HQ.out.2⟩
       case measure=>simp only[intOf];omega
     ·obtain rfl:n=i:=by omega
      have hol:o3.length=n:=by rw[hS.out.perm.length_eq,List.length_range]
      have hRK:=qCx (s:=l) (F:=F) (M:=up2 m) (o:=o3) (by rw[HLEN.out];exact hS.out.perm) BY3.out (fun p hp=>hF.out p (by omega))
      have HRK:=zH hRK
      obtain⟨_,x1,x2⟩:=hS.out.box.rb
      have f1:=hS.out.box.fr 1
      have f2:=hS.out.box.fr 2
      simp only at x1 x2
      obtain⟨M,hM⟩:=zB (up2 m)
      have hmx:max (2*(m:Int)) 1=(M:Int):=by rw[<-hM];unfold up2;omega
      have S5:=zH (hS.out.next (F:=F) hA.out (M:=M) (by omega) (by omega) (by omega) (by
       have:up1 M=M:=by rw[<-hM];unfold up1 up2;omega
       rw[this,<-hM];exact HRK.out) (V:=(M:Int)) rfl)
      have hmM:m<M:=by rw[<-hM];unfold up2;omega
      have HD:=zH (show n<=M->o3=zHx l from fun h=>qCy HBY.out (by rw[HLEN.out];exact hS.out.perm) BY3.out (by rw[HLEN.out,hM];exact h))
      clear hM hS hF hFn hA hRK HRK BY3
      by_cases hMn:M<n
      ·have hge:decide ((M:Int)>=(n:Int))=false:=decide_eq_false (by omega)
       go_wp2
       go_roundg (n-M)
       case measure=>omega
       case rel=>exact⟨o3,N',M,F,rfl,hMn,by omega,S5⟩
      ·have hge:decide ((M:Int)>=(n:Int))=true:=decide_eq_true (by omega)
       have HE:=zH (HD.out (by omega))
       go_wp2
       go_ret
       exact⟨G,c,rfl,by rw[<-HE.out];exact S5.out.own.base (by omega),S5.out.below⟩
end St
end Go.Proofs.YtppnakkaljbmbaaGreatDoor
