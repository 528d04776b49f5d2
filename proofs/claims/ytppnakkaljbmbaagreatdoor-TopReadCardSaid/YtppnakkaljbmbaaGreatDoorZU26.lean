/- Steps of a proof; no condition beyond what each states. -/
import Derived.Test.YtppnakkaljbmbaaGreatDoorZU25
set_option linter.unusedVariables false
set_option linter.unusedSimpArgs false
set_option maxRecDepth 100000
set_option maxHeartbeats 8000000
namespace Go.Proofs.YtppnakkaljbmbaaGreatDoor
namespace Ch
open Go.RowKit Front Bt Zr Ix Hf
theorem qA (x n B:Nat) (hx:x<n) (w:World) (h:w.cell? ⟨B,0,none⟩=some (.int .i64 (n:Int))):
  Calls Tryz.prog 154 #[ival x,.pointer (some ⟨B,0,none⟩)] w fun e w'=>e= .returned (.bool ((fun _=>false) x))/\w'=w:=by
 have h1:decide ((x:Int)<0)=false:=decide_eq_false (by omega)
 have h2:decide (n<=x)=false:=decide_eq_false (by omega)
 go_enter Tryz.func154,Tryz.ntmps154
 go_wp2
 go_ret
 exact⟨rfl,rfl⟩
theorem zTr (l:List Nat) (a:Option Addr) (k c n:Nat) (w:World) (hn:l.length=k) (hc:k<=1000000000) (hs:Kit.Src w a (l.map ival)) (hl:∀x∈l,x<n):
  Calls Tryz.prog 83 #[.slice a k c,.int .i64 (n:Int)] w fun e w'=>e= .returned (.bool false)/\Below w.heap.size w w':=by
 have hmf:∀(fn:Fn) (first cap:Array Value) (w:World),(Instr.makeFunc fn first cap).run Tryz.prog w= .ok (.func fn first cap) w:=fun _ _ _ _=>rfl
 obtain⟨W,hW⟩:=zB (w.alloc (.cells #[.int .i64 (n:Int)] 3))
 have hb:Below w.heap.size w W:=by rw[<-hW];exact(Below.refl _ _).alloc (Nat.le_refl _) _
 have x0:W.cell? ⟨w.heap.size,0,none⟩=some (.int .i64 (n:Int)):=by rw[<-hW];simp
 obtain⟨B,hB⟩:=zB w.heap.size
 rw[hB]at x0
 have HQ:=zH (zO3 (fun _=>false) l 154 (.pointer (some ⟨B,0,none⟩)) a k c W hn hc (hs.below hb) (zHw Tryz.func154 rfl rfl) (fun x hx=>qA x n B (hl x hx) W x0))
 rw[any_false]at HQ
 have HB:=zH hb
 clear hn hs hl x0 hb
 go_enter Tryz.func83,Tryz.ntmps83
 go_wp2_with fail
 (with_reducible refine HQ.out.mono ?_)
 rintro e w2 ⟨rfl,rfl⟩
 go_wp2
 go_ret
 exact⟨rfl,HB.out⟩
theorem zYb (t g:List Nat) (s:Nat):cost t (g++[s])=cost t g+t.getD s 0:=by unfold cost;rw[List.map_append,List.sum_append];simp
theorem zT6 (t:List Nat) (ht:∀x∈t,x<=20):∀g:List Nat,cost t g<=20*g.length
 |[]=>Nat.le_refl _
 |s::g=>by
  have ih:=zT6 t ht g
  have h:t.getD s 0<=20:=by
   rw[List.getD_eq_getElem?_getD]
   cases h:t[s]? with
   |none=>simp
   |some x=>exact ht x (List.mem_of_getElem? h)
  show t.getD s 0+cost t g<=_
  rw[List.length_cons];omega
theorem zRy (t g:List Nat) (a:Option Addr) (n c:Nat) (a2:Option Addr) (k c2:Nat) (w:World) (hn:t.length=n) (hs:Kit.Src w a (t.map ival)) (hr:Right t) (hk:g.length=k) (hk2:k<=10000) (hs2:Kit.Src w a2 (g.map ival)) (hg:∀x∈g,x<n):
  Calls Tryz.prog 84 #[.slice a n c,.slice a2 k c2] w fun e w'=>e= .returned (.tuple #[.int .i64 (cost t g:Int),.int .i64 0])/\Below w.heap.size w w':=by
 have HC:=zH (zCk t a n c w hn hs hr)
 have HO:=zH (fun W (hb:Below w.heap.size w W)=>zTr g a2 k c2 n W hk (by omega) (hs2.below hb) hg)
 have HS:=zH hs
 have HS2:=zH hs2
 have HN:=zH hn
 have HK:=zH hk
 have HG:=zH hg
 have HR:=zH hr
 clear hs hs2 hn hk hg hr
 go_enter Tryz.func84,Tryz.ntmps84
 go_wp2_with fail
 (with_reducible refine HC.out.mono ?_)
 rintro e w2 ⟨rfl,hb2⟩
 have HO2:=zH (HO.out w2 hb2)
 have B2:=zH hb2
 clear hb2 HO HC
 go_wp2_with fail
 (with_reducible refine HO2.out.mono ?_)
 rintro e w3 ⟨rfl,hb3⟩
 have B3:=zH (B2.out.trans (hb3.mono B2.out.size))
 clear hb3 HO2
 go_wp2
 go_loopw [4,20] (fun nv iv wr=>∃j:Nat,j<=k/\iv= .int .i64 j/\nv= .int .i64 (cost t (g.take j):Int)/\wr=w3) (fun _ iv _=>k-(intOf iv).toNat)
 case atStart=>exact⟨0,by omega,rfl,rfl,rfl⟩
 case round=>
  obtain⟨j,hj,rfl,rfl,rfl⟩:=hrel
  by_cases hlt:j<k
  ·have hjg:j<g.length:=by rw[HK.out];exact hlt
   obtain⟨s,hse⟩:=zB (g[j])
   have hsn:s<n:=by rw[<-hse];exact HG.out _ (List.getElem_mem hjg)
   have hst:s<t.length:=by rw[HN.out];exact hsn
   obtain⟨b2,o2,rfl,e0⟩:=(HS2.out.below B3.out) j (ival s) (by rw[List.getElem?_map,List.getElem?_eq_getElem hjg,hse];rfl)
   obtain⟨b1,o1,rfl,e1⟩:=(HS.out.below B3.out) s (ival t[s]) (by rw[List.getElem?_map,List.getElem?_eq_getElem hst];rfl)
   have htk:g.take (j+1)=g.take j++[s]:=by rw[List.take_succ_eq_append_getElem hjg,hse]
   have hcs:=zYb t (g.take j) s
   rw[<-htk,List.getD_eq_getElem?_getD,List.getElem?_eq_getElem hst]at hcs
   have hcl:=zT6 t HR.out.top (g.take (j+1))
   rw[List.length_take]at hcl
   obtain⟨u,hu⟩:=zB (t[s])
   rw[hu]at e1 hcs
   obtain⟨q,hq⟩:=zB (cost t (g.take j))
   rw[hq]at hcs⊢
   have hcs':cost t (g.take (j+1))=q+u:=hcs
   have HCS:=zH hcs'
   rw[hcs']at hcl
   have hb1:q+u<=200000:=by omega
   clear htk hcs hcs' hu hq hse hcl
   go_wp2
   go_roundw
   case rel=>exact⟨j+1,by omega,by go_num,by rw[HCS.out];go_num,trivial⟩
   case measure=>simp only[intOf];omega
  ·obtain rfl:k=j:=by omega
   have HT:=zH (show g.take k=g from List.take_of_length_le (by rw[HK.out];omega))
   go_wp2
   go_ret2
   exact⟨by rw[HT.out];rfl,B3.out⟩
end Ch
namespace Ch
open Go.RowKit Front Bt Zr Ix Hf Wg
variable {ρ:Operand->Value} {o:Oper} {x y n z B p G D k c:Nat} {w w' w0:World} {m:List Nat} {vs:List Value} {ts:List (List Nat)}
abbrev TA:TypeId:=162
abbrev zi (n:Nat):Obj:= .cells (cellsOf n (fun _=> .int .i64 0)) 3
abbrev z2:Obj:= .cells #[.slice none 0 0,.slice none 0 0] TA
def zDc (k a b:Nat):Nat:=if k=0 then a else b
structure We (B:Nat) (w0:World) (m:List Nat) (n p x y z:Nat) (w:World):Prop where
 ax:zAm w x 3 n (wt m p 0)
 ay:zAm w y 3 n (wt m p 1)
 az:w.heap[z]? =some (.cells #[.slice (some ⟨x,0,none⟩) n n,.slice (some ⟨y,0,none⟩) n n] TA)
 nxy:x≠y
 nxz:x≠z
 nyz:y≠z
 bx:B<=x
 by_:B<=y
 bz:B<=z
 below:Below B w0 w
theorem run_mk {P:Program} {t:TypeId} {x y:Operand} {a b u:Value} (ho:o.op= .makeSlice t x y) (hx:ρ x=a) (hy:ρ y=b) (hr:(Instr.makeSlice t a b).run P w= .ok u w'):(execOp ρ o).run P w= .ok (.value u) w':=by
 unfold execOp
 simp[ho,hx,hy,hr]
theorem zEr {x y:Operand} {N:Nat} (hn:n<=1000000) (ho:o.op= .makeSlice 23 x y) (hx:ρ x= .int .i64 (n:Int)) (hy:ρ y= .int .i64 (n:Int)) (hN:w.heap.size=N) (hw:w.alloc (zi n)=w'):
  (execOp ρ o).run Tryz.prog w= .ok (.value (.slice (some ⟨N,0,none⟩) n n)) w':=by
 subst hN hw
 exact run_mk ho hx hy (zF2 w n hn)
theorem zAh (w:World) (o:Obj):(w.alloc o).heap[w.heap.size]? =some o:=by show(w.heap.push o)[w.heap.size]? =_;simp
theorem zG8 (hz:w.heap[z]? =some z2):
  (storeVar TA ⟨z,0,none⟩ (.agg #[.slice (some ⟨x,0,none⟩) n n,.slice (some ⟨y,0,none⟩) n n])).run Tryz.prog w= .ok () (w.setCells z 0 [.slice (some ⟨x,0,none⟩) n n,.slice (some ⟨y,0,none⟩) n n]):=by
 have hinf:(Tryz.prog.info? TA).map (·.size)=some 2:=by kernel_rfl
 refine run_storeVar_mid (P:=Tryz.prog) w z 0 TA #[.slice (some ⟨x,0,none⟩) n n,.slice (some ⟨y,0,none⟩) n n] (fun j hj=> ?_) hinf (by simp[Value.oneCell'])
 have hj2:j<2:=hj
 refine⟨?_,?_⟩
 all_goals
  obtain rfl|rfl:j=0\/j=1:=by omega
  all_goals simp[World.cell?,World.frozen?,hz]
theorem We.start (m:List Nat) (hb:Below B w0 w) (hx:w.heap[x]? =some (zi n)) (hy:w.heap[y]? =some (zi n)) (hz:w.heap[z]? =some z2) (nxy:x≠y) (bx:B<=x) (by_:B<=y) (bz:B<=z):
  We B w0 m n 0 x y z (w.setCells z 0 [.slice (some ⟨x,0,none⟩) n n,.slice (some ⟨y,0,none⟩) n n]):=by
 have nxz:x≠z:=fun e=>by subst e;rw[hx]at hz;injection hz with hz;injection hz with _ hz _;exact absurd hz (by decide)
 have nyz:y≠z:=fun e=>by subst e;rw[hy]at hz;injection hz with hz;injection hz with _ hz _;exact absurd hz (by decide)
 refine⟨(Kit.zAo _ w z 0 x nxz).trans hx,(Kit.zAo _ w z 0 y nyz).trans hy,?_,nxy,nxz,nyz,bx,by_,bz,Kit.below_setCells _ z 0 hb bz⟩
 exact Kit.zDl _ w z 0 _ TA (0,0) hz
theorem We.get (h:We B w0 m n p x y z w) (k:Nat) (hk:k<2):
  w.cell? ⟨z,k,none⟩=some (.slice (some ⟨zDc k x y,0,none⟩) n n)/\zAm w (zDc k x y) 3 n (wt m p k)/\B<=zDc k x y/\zDc k x y<w.heap.size:=by
 obtain rfl|rfl:k=0\/k=1:=by omega
 ·exact⟨by simp[World.cell?,h.az,zDc],h.ax,h.bx,h.ax.lt⟩
 ·exact⟨by simp[World.cell?,h.az,zDc],h.ay,h.by_,h.ay.lt⟩
theorem We.step (h:We B w0 m n p x y z w) (k s:Nat) (hk:p/10%2=k) (hs:m.getD p 0=s) {V:Int} (hV:V=(wt m p k s+1:Nat)):
  We B w0 m n (p+1) x y z (w.setCell ⟨zDc k x y,s,none⟩ (.int .i64 V)):=by
 have hk2:k<2:=by omega
 obtain rfl|rfl:k=0\/k=1:=by omega
 ·refine⟨(h.ax.set s _ hV).congr fun j hj=> ?_,(h.ay.keep (zAa h.nxy.symm)).congr fun j hj=> ?_,(zAa h.nxz.symm).trans h.az,h.nxy,h.nxz,h.nyz,h.bx,h.by_,h.bz,h.below.setCell (p:=⟨x,s,none⟩) h.bx _⟩
  ·rw[zG4]
   by_cases e:j=s
   ·subst e;rw[zCj,if_pos ⟨hk,hs⟩]
   ·rw[zBb _ _ _ _ e,if_neg (fun h=>e (h.2.symm.trans hs)),Nat.add_zero]
  ·rw[zG4,if_neg (fun h=>by omega),Nat.add_zero]
 ·refine⟨(h.ax.keep (zAa h.nxy)).congr fun j hj=> ?_,(h.ay.set s _ hV).congr fun j hj=> ?_,(zAa h.nyz.symm).trans h.az,h.nxy,h.nxz,h.nyz,h.bx,h.by_,h.bz,h.below.setCell (p:=⟨y,s,none⟩) h.by_ _⟩
  ·rw[zG4,if_neg (fun h=>by omega),Nat.add_zero]
  ·rw[zG4]
   by_cases e:j=s
   ·subst e;rw[zCj,if_pos ⟨hk,hs⟩]
   ·rw[zBb _ _ _ _ e,if_neg (fun h=>e (h.2.symm.trans hs)),Nat.add_zero]
theorem We.grow (h:We B w0 m n p x y z w) (hb:Below w.heap.size w w'):We B w0 m n p x y z w':=by
 have hz:z<w.heap.size:=(Array.getElem?_eq_some_iff.1 h.az).1
 have hB:B<=w.heap.size:=Nat.le_trans h.bz (Nat.le_of_lt hz)
 exact⟨h.ax.keep (hb.block x h.ax.lt),h.ay.keep (hb.block y h.ay.lt),(hb.block z hz).trans h.az,h.nxy,h.nxz,h.nyz,h.bx,h.by_,h.bz,h.below.trans (hb.mono hB)⟩
structure Tb (w:World) (D:Nat) (n:Nat) (p:Option Addr) (k c:Nat) (vs:List Value) (ts:List (List Nat)):Prop where
 own:Kit.Own w D TL_ p k c vs
 len:ts.length=k
 each:∀(i:Nat) (t:List Nat),ts[i]? =some t->∃G,vs[i]? =some (Value.slice (some ⟨G,0,none⟩) n n)/\Kit.Src w (some ⟨G,0,none⟩) (t.map ival)/\zDj w G/\D<=G
theorem Tb.start (w:World) (D n:Nat):Tb w D n none 0 0 [] []:=⟨Kit.Own.start _ _ _,rfl,fun i g h=>by simp at h⟩
theorem zOv (h:zDj w G):G<w.heap.size:=by obtain⟨cs,f,h⟩:=h;exact(Array.getElem?_eq_some_iff.1 h).1
theorem Tb.grow {p:Option Addr} (h:Tb w D n p k c vs ts) (hb:Below w.heap.size w w'):Tb w' D n p k c vs ts:=
 ⟨h.own.below hb (Nat.le_refl _),h.len,fun i t hi=>by obtain⟨G,h1,h2,h3,h4⟩:=h.each i t hi;exact⟨G,h1,h2.below hb,h3.below hb (zOv h3),h4⟩⟩
theorem zP5 {l:List Value} (h:Kit.Src w (some ⟨G,0,none⟩) l) (e:w'.heap[G]? =w.heap[G]?):Kit.Src w' (some ⟨G,0,none⟩) l:=by
 intro j u hu
 obtain⟨b,off,ha,hc⟩:=h j u hu
 injection ha with ha
 injection ha with h1 h2 _
 subst h1 h2
 refine⟨_,_,rfl,?_⟩
 rw[<-hc]
 simp[World.cell?,e]
theorem Tb.app {p:Option Addr} {t:List Nat} (h:Tb w D n p k c vs ts) (hs:Kit.Src w (some ⟨G,0,none⟩) (t.map ival)) (hi:zDj w G) (hG:D<=G) (hk:k<=100000) (hD:D<=w.heap.size):
  ∃p2 c2 w',(Builtin.append_ #[60,60] 60 #[.slice p k c,.slice (some ⟨w.heap.size,0,none⟩) 1 1]).run Tryz.prog (w.alloc (.cells #[.slice (some ⟨G,0,none⟩) n n] TL_))= .ok (.slice p2 (k+1) c2) w'/\
   Tb w' D n p2 (k+1) c2 (vs++[.slice (some ⟨G,0,none⟩) n n]) (ts++[t])/\Below D w w':=by
 have ho:=h.own.alloc (.cells #[.slice (some ⟨G,0,none⟩) n n] TL_)
 obtain⟨p2,c2,w',h1,h2,h3⟩:=ho.app (ty:=60) qFj (some ⟨w.heap.size,0,none⟩) 1 1 [.slice (some ⟨G,0,none⟩) n n] (Kit.zAs w _ TL_) rfl (fun h=>by cases h) (by intro u hu;simp at hu;subst hu;rfl) (by unfold maxLen;omega) (by omega) (by rw[zA];omega)
 have hb:Below w.heap.size w (w.alloc (.cells #[.slice (some ⟨G,0,none⟩) n n] TL_)):=(Below.refl _ _).alloc (Nat.le_refl _) _
 have hvl:=h.own.len
 have bl:∀{G':Nat},zDj w G'->w'.heap[G']? =w.heap[G']? :=fun{G'} hx=>by
  have hlt:=zOv hx
  refine(h3.block G' (by rw[zA];omega) (fun e=> ?_)).trans (hb.block G' hlt)
  obtain⟨cs,f,hcs⟩:=hx
  obtain⟨_,h4⟩:=h.own
  rcases h4 with⟨h4,_⟩|⟨g',cap,cur,hv,_,hgg,_⟩
  ·injection h4 with h4 _ _
   subst h4
   simp[Value.ownBlock]at e
  ·injection hv with ha _ _
   subst ha
   simp[Value.ownBlock]at e
   subst e
   rw[hcs]at hgg
   injection hgg with hgg
   injection hgg with _ hgg _
   exact absurd hgg (by decide)
 refine⟨p2,c2,w',h1,⟨h2,by rw[List.length_append,h.len];rfl,fun i x hi'=> ?_⟩,?_⟩
 ·rcases Nat.lt_or_ge i ts.length with hlt|hge
  ·rw[List.getElem?_append_left hlt]at hi'
   obtain⟨G',e1,e2,e3,e4⟩:=h.each i x hi'
   refine⟨G',by rw[List.getElem?_append_left (by rw[hvl,<-h.len];exact hlt)];exact e1,zP5 e2 (bl e3),?_,e4⟩
   obtain⟨cs,f,e3'⟩:=e3
   exact⟨cs,f,(bl ⟨cs,f,e3'⟩).trans e3'⟩
  ·rw[List.getElem?_append_right hge]at hi'
   have hi0:i-ts.length=0:=by
    rcases Nat.eq_zero_or_pos (i-ts.length)with h0|h0
    ·exact h0
    ·rw[List.getElem?_eq_none (by simp;omega)]at hi';cases hi'
   rw[hi0]at hi'
   simp at hi'
   subst hi'
   have hig:i=ts.length:=by omega
   subst hig
   refine⟨G,by rw[List.getElem?_append_right (by rw[hvl,h.len];exact Nat.le_refl _),hvl,h.len,Nat.sub_self];rfl,zP5 hs (bl hi),?_,hG⟩
   obtain⟨cs,f,e3'⟩:=hi
   exact⟨cs,f,(bl ⟨cs,f,e3'⟩).trans e3'⟩
 ·exact(hb.mono hD).trans (Kit.zAq h3 (by rw[zA];omega) (fun b hb'=>ho.block b hb'))
end Ch
namespace Sq
open Go.RowKit Front Us Tn St Zr Bt Ch Hf
variable {w:World} {B i:Nat} {v:Value} {t:TypeId}
abbrev TQ:TypeId:=133
def qv (a:ByteArray) (o:Nat) (p:Option Addr) (n c:Nat):Value:= .agg #[.string a,.int .i64 (o:Int),.slice p n c]
theorem zFr (a:ByteArray) (o:Nat) (p:Option Addr) (n c:Nat) (ha:a.size<=1000000) (w:World):
  Calls Tryz.prog 148 #[qv a o p n c] w fun e w'=>e= .returned (.int .i64 ((a.size:Int)+1))/\Below w.heap.size w w':=by
 unfold qv
 go_enter Tryz.func148,Tryz.ntmps148
 go_wp2
 go_ret
 exact⟨rfl,(Below.refl _ _).alloc (Nat.le_refl _) _⟩
theorem zO4 (a:ByteArray) (o:Nat) (p:Option Addr) (n c:Nat) (ha:a.size<=1000000) (w:World):
  Calls Tryz.prog 70 #[qv a o p n c] w fun e w'=>e= .returned (.int .i64 ((a.size:Int)+2))/\Below w.heap.size w w':=by
 have HE:=zH (fun W=>zFr a o p n c ha W)
 unfold qv at*
 go_enter Tryz.func70,Tryz.ntmps70
 go_wp2_with fail
 (with_reducible refine(HE.out _).mono ?_)
 rintro e w2 ⟨rfl,hb⟩
 have HB:=zH (((Below.refl w.heap.size w).alloc (Nat.le_refl _) (.cells #[.string a,.int .i64 (o:Int),.slice p n c] TQ)).trans (hb.mono (by simp)))
 clear hb HE
 go_wp2
 go_ret
 exact⟨Bt.zBw (by omega),HB.out⟩
theorem zBi {u x:Value} (h:w.heap[B]? =some (.cells #[u,v,x] t (0,0))):w.cell? ⟨B,0,none⟩=some u/\w.cell? ⟨B,1,none⟩=some v/\w.cell? ⟨B,2,none⟩=some x/\w.frozen? ⟨B,0,none⟩=false/\w.frozen? ⟨B,1,none⟩=false/\w.frozen? ⟨B,2,none⟩=false:=by
 refine⟨by simp[World.cell?,h],by simp[World.cell?,h],by simp[World.cell?,h],by simp[World.frozen?,h],by simp[World.frozen?,h],by simp[World.frozen?,h]⟩
theorem qF8 {Q:Nat} {o:Obj} (hne:Q≠B) (h:w.heap[B]? =some o):(w.setCell ⟨Q,i,none⟩ v).heap[B]? =some o:=(zAa (fun e=>hne e.symm)).trans h
theorem zA3 {cs:Array Value} {f:Nat×Nat} (i:Nat) (v:Value) (h:w.heap[B]? =some (.cells cs t f)):(w.setCell ⟨B,i,none⟩ v).heap[B]? =some (.cells (cs.setIfInBounds i v) t f):=by
 simp[World.setCell,Array.getElem?_modify,h]
theorem zCz {r:Nat} {e:TypeId} {a:Option Addr} {n c:Nat} {l:List Value} (h:Kit.Own w B e a n c l) (hr:r<B) (u:Value):Kit.Own (w.setCell ⟨r,i,none⟩ u) B e a n c l:=zD4 h hr u
theorem zZp {f:Func} {p u:Tmp} (h:f.results= #[.cell p TQ,.tmp u]) (tmps:Array Value) (w:World) (r:Nat) (e x y z:Value) (hp:tmps.getD p undef= .pointer (some ⟨r,0,none⟩)) (he:tmps.getD u undef=e)
  (h0:w.cell? ⟨r,0,none⟩=some x) (h1:w.cell? ⟨r,1,none⟩=some y) (h2:w.cell? ⟨r,2,none⟩=some z):(results f tmps).run Tryz.prog w= .ok (.tuple #[.agg #[x,y,z],e]) w:=by
 have hl:(loadVar TQ ⟨r,0,none⟩).run Tryz.prog w= .ok (.agg #[x,y,z]) w:=by simp[loadVar,go_sem,h0,h1,h2]
 rw[results_cell_tmp h,hp,he]
 simp[asAddr,hl,Result.andThen]
theorem zSh (p:ByteArray) (h0:0<p.size) (h1:p.size<=1000) (w:World):
  Calls Tryz.prog 69 #[.string p] w fun e w'=>∃a c,e= .returned (.tuple #[qv (zAj p) (zA8 p) a (sym p).length c,.int .i64 0])/\Kit.Own w' w.heap.size 3 a (sym p).length c ((sym p).map ival)/\Below w.heap.size w w':=by
 have hl:=zDq p h0
 have hal:=zFk p
 have hpc:=zTm p h0
 obtain⟨B,hB⟩:=zB w.heap.size
 obtain⟨n,hn⟩:=zB p.size
 have j1:p.toList.isEmpty=false:=by rw[Lib.toList_data,List.isEmpty_eq_false_iff];intro e;have:p.data.toList.length=0:=(by rw[e];rfl);rw[Array.length_toList]at this;have:p.size=0:=this;omega
 have j2:decide ((65536:Int)<(n:Int))=false:=decide_eq_false (by omega)
 obtain⟨A,hA⟩:=zB (zAj p)
 obtain⟨O,hO⟩:=zB (zA8 p)
 obtain⟨L,hL⟩:=zB (lastT p)
 have hLs:L.size=n:=by rw[<-hL,zCp,hn]
 have hmem:=fun k hk=>zQr p h0 k hk
 have hlen:=zDb p
 rw[hA]at hal
 have hFr:=fun W=>zMo A L (by omega) (by omega) W
 rw[show A.data.toList=al p from by rw[<-hA];rfl,show L.data.toList=la p from by rw[<-hL];rfl,hpc.1,hpc.2]at hFr
 have hsy:(sym p).length=(enc 0 (plc p)).length+1:=zCv p
 have hsm:sym p=enc 0 (plc p)++[A.size+1]:=by rw[<-hA];rfl
 have hsl:=zL1 p
 rw[show sy p=enc 0 (plc p)from rfl]at hsl
 rw[hn]at hsl hlen
 rw[hA]at hmem
 rw[hB,hA,hO,hsy,hsm]
 rw[hlen]at hFr
 obtain⟨l,hlp⟩:=zB (plc p)
 rw[hlp]at hFr hmem hlen hsl⊢
 obtain⟨m,hm⟩:=zB (enc 0 l)
 rw[hm]at hsl
 have HF:=zH (fun W=>by have h:=zKn p n hn (by omega) (by omega) W;rw[hL,hO]at h;exact h)
 have HAL:=zH (fun W=>by have h:=zEc p (by omega) W;rw[hA]at h;exact h)
 have HFR:=zH hFr
 have HEN:=zH (fun(a:Option Addr) (c:Nat) (W:World) (hs:Kit.Src W a (l.map ival)) (had:Ad a n c)=>by
  have h:=zD8 l a n c W hlen (by omega) hs had (fun x hx=>by have:=hmem x hx;omega)
  rw[hm]at h
  exact h)
 have HN:=zH hn
 have HM:=zH hm
 clear hpc hA hO hL hFr hsy hsm hlp hm hmem hlen
 unfold qv
 go_enter Tryz.func69,Tryz.ntmps69
 go_wp2_with fail
 (with_reducible refine(HF.out _).mono ?_)
 rintro e w2 ⟨rfl,hb2⟩
 go_wp2_with fail
 (with_reducible refine(HAL.out _).mono ?_)
 rintro e w3 ⟨rfl,hb3⟩
 have r0:(w.alloc (.cells #[.string ⟨#[]⟩,.int .i64 0,.slice none 0 0] TQ)).heap[B]? =some (.cells #[.string ⟨#[]⟩,.int .i64 0,.slice none 0 0] TQ (0,0)):=by rw[<-hB];exact zAh w _
 have b1:Below B w (w.alloc (.cells #[.string ⟨#[]⟩,.int .i64 0,.slice none 0 0] TQ)):=by rw[<-hB];exact(Below.refl _ _).alloc (Nat.le_refl _) _
 obtain⟨w1,hw1⟩:=zB (w.alloc (.cells #[.string ⟨#[]⟩,.int .i64 0,.slice none 0 0] TQ))
 have z1:w1.heap.size=B+1:=by rw[<-hw1,zA,hB]
 rw[hw1]at r0 b1
 rw[show w.alloc (.cells #[.string ⟨#[]⟩,.int .i64 0,.slice none 0 0] 133)=w1 from hw1,z1]at hb2
 have hz2:=hb2.size
 have hz3:=hb3.size
 have b3:Below B w w3:=b1.trans ((hb2.mono (by omega)).trans (hb3.mono (by omega)))
 have r3:w3.heap[B]? =some (.cells #[.string ⟨#[]⟩,.int .i64 0,.slice none 0 0] TQ (0,0)):=by rw[hb3.block B (by omega),hb2.block B (by omega)];exact r0
 obtain⟨Q,hQ⟩:=zB w3.heap.size
 have hBQ:B+1<=Q:=by omega
 obtain⟨w4,hw4⟩:=zB (w3.alloc (.cells #[.string A,.int .i64 (O:Int),.slice none 0 0] TQ))
 have z4:w4.heap.size=Q+1:=by rw[<-hw4,zA,hQ]
 have q4:w4.heap[Q]? =some (.cells #[.string A,.int .i64 (O:Int),.slice none 0 0] TQ (0,0)):=by rw[<-hw4,<-hQ];exact zAh w3 _
 have r4:w4.heap[B]? =some (.cells #[.string ⟨#[]⟩,.int .i64 0,.slice none 0 0] TQ (0,0)):=by rw[<-hw4,Lib.alloc_old w3 _ B (by omega)];exact r3
 have b4:Below B w w4:=by rw[<-hw4];exact b3.alloc (by omega) _
 have HW4:=zH hw4
 have Q4:=zH q4
 have R4:=zH r4
 have B4:=zH b4
 obtain⟨x0,_⟩:=cells3 q4
 clear hb2 hb3 r0 b1 hw1 z1 hz2 hz3 b3 r3 hw4 q4 r4 b4 HF HAL
 go_wp2_with fail
 rw[show w3.alloc (.cells #[.string A,.int .i64 (O:Int),.slice none 0 0] TQ)=w4 from HW4.out]
 (with_reducible refine(HFR.out _).mono ?_)
 rintro e w5 ⟨a5,c5,rfl,hs5,hb5,_,had5⟩
 have HE5:=zH (HEN.out a5 c5 w5 hs5 had5)
 rw[z4]at hb5
 have hz5:=hb5.size
 have Q5:=zH ((hb5.block Q (by omega)).trans Q4.out)
 have R5:=zH ((hb5.block B (by omega)).trans R4.out)
 have B5:=zH (B4.out.trans (hb5.mono (by omega)))
 clear HFR HEN hb5 hs5 had5 Q4 R4 B4 HW4 x0
 go_wp2_with fail
 (with_reducible refine HE5.out.mono ?_)
 rintro e w6 ⟨a6,c6,rfl,ho6,hb6⟩
 have hz6:=hb6.size
 have hq6:=(hb6.block Q (by omega)).trans Q5.out
 have R6:=zH ((hb6.block B (by omega)).trans R5.out)
 have B6:=zH (B5.out.trans (hb6.mono (by omega)))
 have O6:=zH ho6
 obtain⟨y0,y1,y2,y3⟩:=cells3 hq6
 have Q6:=zH hq6
 have HEND:=zH (fun W=>zFr A O none 0 0 (by omega) W)
 unfold qv at HEND
 clear HE5 hb6 ho6 hq6 Q5 R5 B5
 go_wp2_with fail
 (with_reducible refine(HEND.out _).mono ?_)
 rintro e w7 ⟨rfl,hb7⟩
 have hz7:=hb7.size
 have hq7:=(hb7.block Q (by omega)).trans Q6.out
 have R7:=zH ((hb7.block B (by omega)).trans R6.out)
 have B7:=zH (B6.out.trans (hb7.mono (by omega)))
 have O7:=zH (O6.out.below hb7 (Nat.le_refl _))
 obtain⟨p8,c8,w8,hr8,ho8,hb8⟩:=zMb O7.out (A.size+1) (by omega) (by omega)
 rw[show((A.size+1:Nat):Int)=(A.size:Int)+1 from by omega]at hr8
 have hz8:=hb8.size
 have hq8:=(hb8.block Q (by omega)).trans hq7
 have hr8':=(hb8.block B (by omega)).trans R7.out
 obtain⟨y0,y1,y2,y3⟩:=cells3 hq8
 obtain⟨g0,g1,g2,f0,f1,f2⟩:=zBi hr8'
 have HN8:=zH (qF8 (i:=2) (Q:=Q) (B:=B) (by omega) hr8' (v:= .slice p8 (m.length+1) c8))
 have B8:=zH (B7.out.trans (hb8.mono (by omega)))
 have O8:=zH ho8
 clear hb7 hb8 ho8 hq7 hq8 hr8' Q6 R6 R7 B6 B7 O6 O7 HEND
 go_wp2_with (at_builtin;refine Kit.zAr rfl (.tmp 40) (.tmp 43) 23 rfl rfl rfl hr8 ?_)
 have hblk:=zA3 2 (.slice p8 (m.length+1) c8) (zA3 1 (.int .i64 (O:Int)) (zA3 0 (.string A) HN8.out))
 obtain⟨k0,k1,k2,_⟩:=cells3 hblk
 refine bodyPost_ret (zZp rfl _ _ B _ _ _ _ rfl rfl k0 k1 k2) rfl ⟨p8,c8,by rw[HM.out];rfl,?_,?_⟩
 ·rw[HM.out]
  exact((zCz (zCz (zCz (zCz O8.out (r:=Q) (i:=2) (by omega) _) (r:=B) (i:=0) (by omega) _) (r:=B) (i:=1) (by omega) _) (r:=B) (i:=2) (by omega) _).base (by omega))
 ·exact(((B8.out.setCell (p:=⟨Q,2,none⟩) (by show B<=Q;omega) _).setCell (p:=⟨B,0,none⟩) (Nat.le_refl _) _).setCell (p:=⟨B,1,none⟩) (Nat.le_refl _) _).setCell (p:=⟨B,2,none⟩) (Nat.le_refl _) _
end Sq
end Go.Proofs.YtppnakkaljbmbaaGreatDoor
