/- Steps of a proof; no condition beyond what each states. -/
import Derived.Test.YtppnakkaljbmbaaGreatDoorZU34
import Derived.Test.YtppnakkaljbmbaaGreatDoorZU35
set_option linter.unusedVariables false
set_option linter.unusedSimpArgs false
set_option maxRecDepth 100000
set_option maxHeartbeats 8000000
namespace Go.Proofs.YtppnakkaljbmbaaGreatDoor
namespace Hf
open Go.RowKit Front Bt Zr Ix Sl
section
variable {P:Program} {ops:Array Oper} {Q:Exit->Act->World->Prop} {md:Region.Mode}
theorem qD6 (i j:Nat) {oi oj:Oper} (vi vj:Value) {fuel:Nat} {listed:Array Bool} {a:Act} {w:World} (hi:ops[i]? =some oi) (hj:ops[j]? =some oj) (hr:Region.ready md ops listed=[i,j])
  (hwi:Region.wanted oi (yielded ops a.tmps)=true) (hwj:Region.wanted oj (yielded ops a.tmps)=true) (ri:(execOp a.eval oi).run P w= .ok (.value vi) w) (rj:(execOp a.eval oj).run P w= .ok (.value vj) w)
  (hr1:Region.ready md ops (listed.setIfInBounds i true)=[j]) (hw1:Region.wanted oj (yielded ops (a.put oi.dst vi).tmps)=true) (r1:(execOp (a.put oi.dst vi).eval oj).run P w= .ok (.value vj) w)
  (hr2:Region.ready md ops (listed.setIfInBounds j true)=[i]) (hw2:Region.wanted oi (yielded ops (a.put oj.dst vj).tmps)=true) (r2:(execOp (a.put oj.dst vj).eval oi).run P w= .ok (.value vi) w)
  (hl:(listed.setIfInBounds j true).setIfInBounds i true=(listed.setIfInBounds i true).setIfInBounds j true) (ha:(a.put oj.dst vj).put oi.dst vi=(a.put oi.dst vi).put oj.dst vj)
  (h:wpAny P md ops Q fuel ((listed.setIfInBounds i true).setIfInBounds j true) ((a.put oi.dst vi).put oj.dst vj) w):wpAny P md ops Q (fuel+2) listed a w:=by
 refine wpAny_ready hr (by simp) (AllReady.cons hi (fun K hK=> ?_) (AllReady.cons hj (fun K hK=> ?_) AllReady.nil))
 ·rw[if_pos hwi]
  exact Oper.wp_mono hK (Kit.zJ0 vi ri (Kit.zJ1 j hj hr1 hw1 (Kit.zJ0 vj r1 h)))
 ·rw[if_pos hwj]
  exact Oper.wp_mono hK (Kit.zJ0 vj rj (Kit.zJ1 i hi hr2 hw2 (Kit.zJ0 vi r2 (by rw[hl,ha];exact h))))
end
theorem zX6 {P:Program} {ops:Array Oper} {Q:Exit->Act->World->Prop} {md:Region.Mode} (i:Nat) {fuel:Nat} {listed:Array Bool} {a:Act} {w w':World} {ty:TypeId} {x y:Operand} {g:Addr} {v:Value} (hr:Region.ready md ops listed=[i])
  (ho:(ops[i]?).map (fun o=>(o.op,o.dst))=some (.store ty x y,none)) (hw:(ops[i]?).map (fun o=>Region.wanted o (yielded ops a.tmps))=some true)
  (hx:a.eval x= .pointer (some g)) (hy:a.eval y=v) (hst:(storeVar ty g v).run P w= .ok () w') (h:wpAny P md ops Q fuel (listed.setIfInBounds i true) a w'):wpAny P md ops Q (fuel+1) listed a w:=by
 cases hi:ops[i]? with
 |none=>rw[hi]at ho;cases ho
 |some o=>
  rw[hi]at ho hw
  simp only[Option.map_some,Option.some.injEq,Prod.mk.injEq]at ho hw
  refine Kit.zJ1 i hi hr hw (zPs ho.1 hx hy hst ?_)
  rw[ho.2]
  exact h
theorem zP9 {P:Program} {ρ:Operand->Value} {o:Oper} {t e:TypeId} {x y:Operand} {g n c k sz:Nat} (ho:o.op= .indexAddr t x y) (hx:ρ x= .slice (some ⟨g,0,none⟩) n c) (hy:ρ y= .int .i64 (k:Int)) (hk:k<n)
  (hu:P.underlying t=some (.slice e)) (hz:∀w,(sizeOf e).run P w= .ok sz w) (w:World):(execOp ρ o).run P w= .ok (.value (.pointer (some ⟨g,k*sz,none⟩))) w:=by
 have h1:(0:Int)<=(k:Int)/\(k:Int)<(n:Int):=⟨by omega,by omega⟩
 unfold execOp
 simp[ho,hx,hy,Instr.indexAt,asIntOf,Sem.run_bind,run_underlying hu,h1,hz,Kit.addr_add]
 omega
theorem zL6 {P:Program} {ρ:Operand->Value} {o:Oper} {t:TypeId} {x:Operand} {p:Addr} {v:Value} {w:World} (ho:o.op= .load t x) (hx:ρ x= .pointer (some p)) (hr:(loadVar t p).run P w= .ok v w):(execOp ρ o).run P w= .ok (.value v) w:=by
 unfold execOp
 simp[ho,hx,Instr.loadAt,Instr.sureAddr,hr]
def gB (f:Nat->List Bool) (j:Nat):Value:=if j%2=0 then .string (pk (f (j/2)))else .int .i64 ((f (j/2)).length:Int)
def zPw (f:Nat->List Bool) (i:Nat) (m:List Bool):Nat->List Bool:=fun k=>if k=i then m else f k
theorem qF5 (f:Nat->List Bool) (i:Nat) (m:List Bool) (j:Nat):upd (upd (gB f) (i*2) (.string (pk m))) (i*2+1) (.int .i64 (m.length:Int)) j=gB (zPw f i m) j:=by
 unfold upd gB zPw
 by_cases e1:j=i*2+1
 ·subst e1
  rw[if_pos rfl,show(i*2+1)/2=i by omega,show(i*2+1)%2=1 by omega]
  simp
 ·rw[if_neg e1]
  by_cases e2:j=i*2
  ·subst e2
   rw[if_pos rfl,show i*2/2=i by omega,show i*2%2=0 by omega]
   simp
  ·have e3:¬j/2=i:=by omega
   simp[e2,e3]
theorem zUs {w:World} {G n:Nat} {f:Nat->List Bool} (h:Arr w G 51 (n*2) (gB f)):RdB w (some ⟨G,0,none⟩) ((List.range n).map f):=by
 refine⟨fun j x hx=> ?_,fun p hp=>by cases hp;exact⟨_,_,h⟩⟩
 rw[List.getElem?_map]at hx
 rcases Nat.lt_or_ge j n with hj|hj
 ·rw[List.getElem?_range hj]at hx
  simp at hx
  subst hx
  refine⟨G,0,rfl,fun i hi=> ?_⟩
  have hk:LB.k=2:=rfl
  rw[hk]at hi⊢
  rw[Nat.zero_add,h.cell (j*2+i) (by omega)]
  have:i=0\/i=1:=by omega
  rcases this with rfl|rfl
  ·unfold gB
   rw[if_pos (by omega),show(j*2+0)/2=j by omega];rfl
  ·unfold gB
   rw[if_neg (by omega),show(j*2+1)/2=j by omega];rfl
 ·rw[List.getElem?_eq_none (by simpa using hj)]at hx;cases hx
theorem zXg (w:World) (n:Nat) (hn:n<=100000):∃w',(Instr.makeSlice 70 (.int .i64 (n:Int)) (.int .i64 (n:Int))).run Tryz.prog w= .ok (.slice (some ⟨w.heap.size,0,none⟩) n n) w'/\
  Arr w' w.heap.size 51 (n*2) (gB (fun _=>[]))/\Below w.heap.size w w':=by
 have hinf:(Tryz.prog.info? 51).map (fun i=>(i.zero,i.size,i.bytes))=some (some (.agg #[.string ⟨#[]⟩,.int .i64 0]),2,24):=by kernel_rfl
 obtain⟨i,hi,hz0,hz1,hz2⟩:=info_parts hinf
 have hr:=run_makeSlice (P:=Tryz.prog) w 70 51 i _ Tryz.underlying70 hi hz0 .i64 .i64 (n:Int) (n:Int) (by omega) (by omega) (by rw[hz1];omega) (by rw[hz2];omega) (by omega)
 refine⟨_,hr,?_,(Below.refl _ _).alloc (Nat.le_refl _) _⟩
 unfold Arr
 have e:madeCells (Value.agg #[.string ⟨#[]⟩,.int .i64 0]).cells ((n:Int).toNat*i.size)=cellsOf (n*2) (gB (fun _=>[])):=by
  rw[hz1]
  show(Array.range (n*2)).map _=_
  refine zDm (fun k hk=> ?_)
  unfold gB
  show(#[Value.string ⟨#[]⟩,Value.int .i64 0]:Array Value)[k%2]! =_
  rcases Nat.mod_two_eq_zero_or_one k with h|h
  ·rw[h,if_pos rfl];show Value.string ⟨#[]⟩=Value.string (pk ([]:List Bool));rfl
  ·rw[h,if_neg (by omega)];rfl
 rw[e]
 show(w.heap.push _)[w.heap.size]? =_
 simp
theorem zUm (w:World) (G k i:Nat) (f:Nat->List Bool) (m:List Bool) (h:Arr w G 51 (k*2) (gB f)) (hi:i<k):∃w',(storeVar 51 ⟨G,i*2,none⟩ (.agg #[.string (pk m),.int .i64 (m.length:Int)])).run Tryz.prog w= .ok () w'/\
  Arr w' G 51 (k*2) (gB (zPw f i m))/\(∀j,j≠G->w'.heap[j]? =w.heap[j]?)/\w'.heap.size=w.heap.size/\(∀B,B<=G->Below B w w'):=by
 have hst:=run_storeVar_mid (P:=Tryz.prog) w G (i*2) 51 #[.string (pk m),.int .i64 (m.length:Int)] (fun j hj=>by
  have hj2:j<2:=hj
  exact⟨by rw[h.cell (i*2+j) (by omega)];rfl,h.free (i*2+j)⟩) (by kernel_rfl) (by simp[Value.oneCell'])
 refine⟨_,hst,?_,?_,?_,?_⟩
 ·exact((h.set (i*2) (.string (pk m))).set (i*2+1) (.int .i64 (m.length:Int))).congr (fun j hj=>qF5 f i m j)
 ·exact fun j hj=>(zAa hj).trans (zAa hj)
 ·simp[World.setCells,World.setCell]
 ·exact fun B hB=>((Below.refl _ w).setCell (p:=⟨G,i*2,none⟩) hB _).setCell (p:=⟨G,i*2+1,none⟩) hB _
theorem zRq (l:List Nat) (a:Option Addr) (n c:Nat) (m:List Nat) (a1:Option Addr) (k c1:Nat) (w:World) (hn:l.length=n) (hs:Kit.Src w a (l.map ival)) (ha:∀p,a=some p->p.block<w.heap.size) (hr:Right l)
  (hm:m.length=k) (hk:k<=10000) (hs1:Kit.Src w a1 (m.map ival)) (hml:∀s∈m,s<n):
  Calls Tryz.prog 30 #[.slice a n c,.slice a1 k c1] w fun e w'=>e= .returned (.tuple #[zAe (m.flatMap (word l)),.int .i64 0])/\Below w.heap.size w w':=by
 obtain⟨B,hB⟩:=zB w.heap.size
 obtain⟨W,hW⟩:=zB (w.alloc (.cells #[.string ⟨#[]⟩,.int .i64 0] 51))
 have zW:W.heap.size=B+1:=by rw[<-hW,zA,hB]
 have hb0:Below B w W:=by rw[<-hW,<-hB];exact(Below.refl _ _).alloc (Nat.le_refl _) _
 have c0:W.heap[B]? =some (.cells #[.string ⟨#[]⟩,.int .i64 0] 51 (0,0)):=by
  rw[<-hW,<-hB]
  show(w.heap.push _)[w.heap.size]? =_
  simp
 have HWD:=zH (zV7 l a n c W hn (hs.below (by rw[hB];exact hb0)) (fun p hp=>by have:=ha p hp;omega) hr)
 rw[zW]at HWD
 obtain⟨T,hT⟩:=zB (m.flatMap (word l))
 rw[hT]
 have HT:=zH hT
 clear hT
 have C0:=zH c0
 have HB0:=zH hb0
 have HS1:=zH hs1
 have HML:=zH hml
 have HM:=zH hm
 have HN:=zH hn
 have HR:=zH hr
 have h258:=hr.most
 rw[hn]at h258
 clear c0 hb0 hs1 hml hm hn hs ha hr
 rw[hB]
 go_enter Tryz.func30,Tryz.ntmps30
 go_wp2_with fail
 (with_reducible refine HWD.out.mono ?_)
 clear HWD
 rintro e w2 ⟨G,rfl,hG,hA2,hb2⟩
 have hz2:=hA2.lt
 have hA2':=hA2.congr (h:=gW l (fun _=>true)) (fun j hj=>by unfold gW;rw[qGa HR.out (j/2) (by rw[HN.out];omega)])
 obtain⟨w3,hmk,ha3,hb3⟩:=zXg w2 k (by omega)
 obtain⟨G2,hG2⟩:=zB w2.heap.size
 rw[hG2]at hmk ha3 hb3 hz2
 have A3:=zH (show Arr w3 G 188 (n*2) (gW l (fun _=>true))from(hb3.block G hz2).trans hA2')
 have L3:=zH ha3
 have C3:=zH ((hb3.block B (by omega)).trans ((hb2.block B (by omega)).trans C0.out))
 have B3:=zH (HB0.out.trans ((hb2.mono (by omega)).trans (hb3.mono (by omega))))
 clear hA2 hA2' ha3 hb2 hb3 C0 HB0 hW zW
 go_wp2
 clear hmk hG2
 go_loopw [25] (fun iv wr=>∃(i:Nat) (f:Nat->List Bool),i<=k/\iv= .int .i64 (i:Int)/\RowKit.Hid (∀j,j<i->f j=word l (m.getD j 0))/\RowKit.Hid (Arr wr G 188 (n*2) (gW l (fun _=>true)))/\RowKit.Hid (Arr wr G2 51 (k*2) (gB f))/\RowKit.Hid (wr.heap[B]? =some (.cells #[.string ⟨#[]⟩,.int .i64 0] 51 (0,0)))/\RowKit.Hid (Below B w wr)) (fun iv _=>k-(intOf iv).toNat)
 case atStart=>exact⟨0,fun _=>[],by omega,rfl,zH (fun j hj=>by omega),A3,L3,C3,B3⟩
 case round=>
  clear A3 L3 C3 B3
  obtain⟨i,f,hi,rfl,hf,hA,hL,hC,hb⟩:=hrel
  by_cases hlt:i<k
  ·have him:i<m.length:=by rw[HM.out];exact hlt
   obtain⟨s,hse⟩:=zB (m[i])
   have hsn:s<n:=by rw[<-hse];exact HML.out _ (List.getElem_mem him)
   obtain⟨g,off,rfl,e0⟩:=(HS1.out.below (w':=wr) (by rw[hB];exact hb.out)) i (ival s) (by rw[List.getElem?_map,List.getElem?_eq_getElem him,hse];rfl)
   have hmd:m.getD i 0=s:=by rw[List.getD_eq_getElem?_getD,List.getElem?_eq_getElem him,hse];rfl
   have x0:=hA.out.cell (s*2) (by omega)
   have x1:=hA.out.cell (s*2+1) (by omega)
   unfold gW at x0 x1
   simp only[if_true]at x0 x1
   rw[if_pos (by omega),show s*2/2=s by omega]at x0
   rw[if_neg (by omega),show(s*2+1)/2=s by omega]at x1
   have hi0:decide ((s:Int)<0)=false:=decide_eq_false (by omega)
   have hi1:decide ((n:Int)<=(s:Int))=false:=decide_eq_false (by omega)
   have hmx:=HR.out.top (l.getD s 0) (zF6 (by rw[HN.out];exact hsn))
   have hwl:=zPt HR.out s (by rw[HN.out];exact hsn)
   have hp20:2^l.getD s 0<=2^20:=Nat.pow_le_pow_right (by omega) hmx
   have HP:=zH (zD1 [] (zB9 l s) (l.getD s 0) (m':=word l s) (List.nil_append _) (d:=⟨#[]⟩) rfl (k:=0) (V:=(zB9 l s:Int)) (N:=(l.getD s 0:Int)) rfl rfl rfl (by omega) (by omega) (by rw[List.length_nil];omega) wr.drew)
   have l0:(loadVar 3 ⟨G,s*2,none⟩).run Tryz.prog wr.drew= .ok (.int .i64 (l.getD s 0:Int)) wr.drew:=by
    have x0':wr.drew.cell? ⟨G,s*2,none⟩=some (.int .i64 (l.getD s 0:Int)):=x0
    simp[loadVar,go_sem,x0']
   have l1:(loadVar 64 ⟨G,s*2+1,none⟩).run Tryz.prog wr.drew= .ok (.int .u64 (zB9 l s:Int)) wr.drew:=by
    have x1':wr.drew.cell? ⟨G,s*2+1,none⟩=some (.int .u64 (zB9 l s:Int)):=x1
    simp[loadVar,go_sem,x1']
   have HMD:=zH hmd
   clear hmd hse hmx hwl hp20
   go_wp2
   refine Kit.zX7 (by kernel_rfl) ?_
   refine Kit.zBc 0 (.slice (some ⟨G2,0,none⟩) k k) rfl (by kernel_rfl) (by kernel_rfl) (by kernel_rfl) (fun _ _ _ h=>h) (by kernel_rfl) (fun w=>by kernel_rfl) ?_
   refine Kit.zBc 1 (.int .i64 (i:Int)) rfl (by kernel_rfl) (by kernel_rfl) (by kernel_rfl) (fun _ _ _ h=>h) (by kernel_rfl) (fun w=>by kernel_rfl) ?_
   refine Kit.zBc 2 (.agg #[.string ⟨#[]⟩,.int .i64 0]) rfl (by kernel_rfl) (by kernel_rfl) (by kernel_rfl) (fun _ _ _ h=>h) (by kernel_rfl) (fun w=>by kernel_rfl) ?_
   refine Kit.zBc 3 (.slice (some ⟨G,0,none⟩) n n) rfl (by kernel_rfl) (by kernel_rfl) (by kernel_rfl) (fun _ _ _ h=>h) (by kernel_rfl) (fun w=>by kernel_rfl) ?_
   refine Kit.zBc 4 (.int .i64 (s:Int)) rfl (by kernel_rfl) (by kernel_rfl) (by kernel_rfl) (fun _ _ _ h=>h) (by kernel_rfl) (fun w=>by kernel_rfl) ?_
   refine Kit.zBc 5 (.pointer (some ⟨G,s*2,none⟩)) rfl (by kernel_rfl) (by kernel_rfl) (by kernel_rfl) (fun _ _ _ h=>h) (by kernel_rfl) (fun w=>zP9 (t:=184) (x:= .tmp 43) (y:= .tmp 44) (g:=G) (n:=n) (c:=n) (k:=s) (sz:=2) rfl (by kernel_rfl) (by kernel_rfl) (by omega) Tryz.underlying184 (fun _=>Tryz.sizeOf188 _) w) ?_
   refine Kit.zBc 6 (.pointer (some ⟨G,s*2+1,none⟩)) rfl (by kernel_rfl) (by kernel_rfl) (by kernel_rfl) (fun _ _ _ h=>h) (by kernel_rfl) (fun w=>by kernel_rfl) ?_
   refine Kit.zBc 8 (.slice (some ⟨G,0,none⟩) n n) rfl (by kernel_rfl) (by kernel_rfl) (by kernel_rfl) (fun _ _ _ h=>h) (by kernel_rfl) (fun w=>by kernel_rfl) ?_
   refine Kit.zBc 9 (.int .i64 (s:Int)) rfl (by kernel_rfl) (by kernel_rfl) (by kernel_rfl) (fun _ _ _ h=>h) (by kernel_rfl) (fun w=>by kernel_rfl) ?_
   refine Kit.zBc 10 (.pointer (some ⟨G,s*2,none⟩)) rfl (by kernel_rfl) (by kernel_rfl) (by kernel_rfl) (fun _ _ _ h=>h) (by kernel_rfl) (fun w=>zP9 (t:=184) (x:= .tmp 48) (y:= .tmp 49) (g:=G) (n:=n) (c:=n) (k:=s) (sz:=2) rfl (by kernel_rfl) (by kernel_rfl) (by omega) Tryz.underlying184 (fun _=>Tryz.sizeOf188 _) w) ?_
   refine Kit.zBc 11 (.pointer (some ⟨G,s*2,none⟩)) rfl (by kernel_rfl) (by kernel_rfl) (by kernel_rfl) (fun _ _ _ h=>h) (by kernel_rfl) (fun w=>by kernel_rfl) ?_
   refine qD6 7 12 (.int .u64 (zB9 l s:Int)) (.int .i64 (l.getD s 0:Int)) rfl rfl (by kernel_rfl) (by kernel_rfl) (by kernel_rfl) (zL6 (t:=64) (x:= .tmp 46) rfl (by kernel_rfl) l1) (zL6 (t:=3) (x:= .tmp 51) rfl (by kernel_rfl) l0) (by kernel_rfl) (by kernel_rfl) (zL6 (t:=3) (x:= .tmp 51) rfl (by kernel_rfl) l0) (by kernel_rfl) (by kernel_rfl) (zL6 (t:=64) (x:= .tmp 46) rfl (by kernel_rfl) l1) (by kernel_rfl) (by kernel_rfl) ?_
   refine Kit.zJ1 13 rfl (by kernel_rfl) (by kernel_rfl) ?_
   refine Kit.zRl 24 #[.agg #[.string ⟨#[]⟩,.int .i64 0],.int .u64 (zB9 l s:Int),.int .i64 (l.getD s 0:Int)] (.tuple #[.agg #[.string (pk (word l s)),.int .i64 ((word l s).length:Int)],.int .i64 0]) (R:=fun w'=>Below wr.drew.heap.size wr.drew w') (by kernel_rfl) HP.out ?_
   intro w5 hb5
   refine Kit.zBc 14 (.tuple #[.agg #[.string (pk (word l s)),.int .i64 ((word l s).length:Int)],.int .i64 0]) rfl (by kernel_rfl) (by kernel_rfl) (by kernel_rfl) (fun _ _ _ h=>h) (by kernel_rfl) (fun w=>by kernel_rfl) ?_
   refine Kit.zBc 15 (.agg #[.string (pk (word l s)),.int .i64 ((word l s).length:Int)]) rfl (by kernel_rfl) (by kernel_rfl) (by kernel_rfl) (fun _ _ _ h=>h) (by kernel_rfl) (fun w=>by kernel_rfl) ?_
   refine Kit.zBc 16 (.int .i64 0) rfl (by kernel_rfl) (by kernel_rfl) (by kernel_rfl) (fun _ _ _ h=>h) (by kernel_rfl) (fun w=>by kernel_rfl) ?_
   refine Kit.zBc 17 (.pointer (some ⟨G2,i*2,none⟩)) rfl (by kernel_rfl) (by kernel_rfl) (by kernel_rfl) (fun _ _ _ h=>h) (by kernel_rfl) (fun w=>zP9 (t:=70) (x:= .tmp 40) (y:= .tmp 41) (g:=G2) (n:=k) (c:=k) (k:=i) (sz:=2) rfl (by kernel_rfl) (by kernel_rfl) (by omega) Tryz.underlying70 (fun _=>Tryz.sizeOf51 _) w) ?_
   have hL5:Arr w5 G2 51 (k*2) (gB f):=(hb5.block G2 hL.out.lt).trans hL.out
   obtain⟨w6,hst,hL6,ho6,hz6,hb6⟩:=zUm w5 G2 k i f (word l s) hL5 hlt
   have HST:=zH hst
   clear hst hL5
   refine zX6 18 (ty:=51) (x:= .tmp 56) (y:= .tmp 54) (g:=⟨G2,i*2,none⟩) (v:= .agg #[.string (pk (word l s)),.int .i64 ((word l s).length:Int)]) (by kernel_rfl) (by kernel_rfl) (by kernel_rfl) (by kernel_rfl) (by kernel_rfl) HST.out ?_
   refine wpAny_done (by kernel_rfl) ?_ _
   have hz5:=hb5.size
   have hC6:w6.heap[B]? =some (.cells #[.string ⟨#[]⟩,.int .i64 0] 51 (0,0)):=(ho6 B (by omega)).trans ((hb5.block B (by have:=zAd hC.out;exact this)).trans hC.out)
   have hA6:Arr w6 G 188 (n*2) (gW l (fun _=>true)):=(ho6 G (by omega)).trans ((hb5.block G hA.out.lt).trans hA.out)
   have hwz:wr.drew.heap.size=wr.heap.size:=rfl
   have hb5':Below B wr w5:=by
    have hbz:=zAd hC.out
    have h:Below B wr.drew w5:=hb5.mono (show B<=wr.heap.size by omega)
    exact⟨h.os,h.tape,h.output,h.size,h.block⟩
   have hB6:Below B w w6:=(hb.out.trans hb5').trans (hb6 B (by omega))
   clear hb5' hwz
   have C6:=zH hC6
   have A6:=zH hA6
   have B6:=zH hB6
   have L6:=zH hL6
   clear hC6 hA6 hB6 hL6 hb5 ho6 hz6 hb6 hz5 l0 l1 x0 x1 e0
   go_wp2
   go_roundw
   case rel=>exact⟨i+1,zPw f i (word l s),by omega,by go_num,zH (fun j hj=>by
    unfold zPw
    by_cases e:j=i
    ·rw[if_pos e,e,HMD.out]
    ·rw[if_neg e];exact hf.out j (by omega)),A6,L6,C6,B6⟩
   case measure=>simp only[intOf];omega
  ·obtain rfl:i=k:=by omega
   have hm2:(List.range i).map f=m.map (word l):=by
    refine List.ext_getElem? (fun j=> ?_)
    rw[List.getElem?_map,List.getElem?_map]
    rcases Nat.lt_or_ge j i with h|h
    ·rw[List.getElem?_range h,List.getElem?_eq_getElem (by rw[HM.out];exact h)]
     show some (f j)=some (word l (m[j]'(by rw[HM.out];exact h)))
     rw[hf.out j h,List.getD_eq_getElem?_getD,List.getElem?_eq_getElem (by rw[HM.out];exact h)];rfl
    ·rw[List.getElem?_eq_none (by simpa using h),List.getElem?_eq_none (by rw[HM.out];exact h)];rfl
   have hfl:((List.range i).map f).flatten=m.flatMap (word l):=by rw[hm2];rfl
   have hbits:(m.flatMap (word l)).length<=20*m.length:=by
    have:∀(ms:List Nat),(∀s∈ms,s<n)->(ms.flatMap (word l)).length<=20*ms.length:=by
     intro ms
     induction ms with
     |nil=>intro _;simp
     |cons s ms ih=>
      intro h
      have h1:=ih (fun x hx=>h x (List.mem_cons_of_mem _ hx))
      have h2:=HR.out.top (l.getD s 0) (zF6 (by rw[HN.out];exact h s (by simp)))
      rw[List.flatMap_cons,List.length_append,zCu,List.length_cons];omega
    exact this m HML.out
   rw[HM.out]at hbits
   have HC:=zH (zFs (some ⟨G2,0,none⟩) i i ((List.range i).map f) wr (by simp) (Nat.le_refl _) (by omega) (zUs hL.out) (by rw[hfl];omega))
   rw[hfl]at HC
   rw[HT.out]at HC
   unfold zAe at HC
   obtain⟨y0,y1,f0,f1⟩:=zAf hC.out
   have hBlt:=zAd hC.out
   clear hbits hm2 hfl
   go_wp2_with fail
   (with_reducible refine HC.out.mono ?_)
   rintro e w4 ⟨rfl,hb4⟩
   clear y0 y1 f0 f1
   obtain⟨y0,y1,f0,f1⟩:=zAf ((hb4.block B hBlt).trans hC.out)
   have H4:=zH (hb.out.trans (hb4.mono (by have:=hb.out.size;omega)))
   clear hb4
   go_wp2
   try simp only[Exit.inBlock,Exit.then]
   exact bodyPost_ret (zEk rfl _ _ B _ _ _ rfl rfl (Bt.zCy y0) (Bt.zCx y1)) rfl ⟨rfl,zCs H4.out (by omega)⟩
end Hf
namespace Bk
open Go.RowKit Hf Bt Zr Ix Front Wg Ch Sl Sq Us St Tn
variable {w w':World} {R D n c:Nat} {e:TypeId} {a:Option Addr} {xs:List Value}
structure Old (w:World) (R Q:Nat) (A:ByteArray) (O:Nat) (sa:Option Addr) (sn sc:Nat) (p:Option Addr) (cp:Nat) (q:Option Addr) (qn cq:Nat) (G0 G1 n:Nat) (m t0 t1 ch:List Nat):Prop where
 size:w.heap.size=R
 var:w.heap[Q]? =some (.cells #[.string A,.int .i64 (O:Int),.slice sa sn sc] Sq.TQ (0,0))
 syms:Kit.Src w sa (m.map ival)
 tabs:Kit.Src w p [.slice (some ⟨G0,0,none⟩) n n,.slice (some ⟨G1,0,none⟩) n n]
 one:Kit.Src w (some ⟨G0,0,none⟩) (t0.map ival)
 two:Kit.Src w (some ⟨G1,0,none⟩) (t1.map ival)
 cho:Kit.Src w q (ch.map ival)
theorem zXb (h:Kit.Own w D e a n c xs) (hs:StB w w' R) (he:e≠TB_) (hR:R<D):Kit.Own w' D e a n c xs:=by
 obtain⟨h1,h2⟩:=h
 refine⟨h1,?_⟩
 rcases h2 with h2|⟨g,cap,cur,hv,hbg,hg,r⟩
 ·exact .inl h2
 ·exact .inr ⟨g,cap,cur,hv,hbg,(hs.old g (zAd hg) (by omega) (fun cs f e2=>by rw[hg]at e2;injection e2 with e2;injection e2 with _ e2 _;exact he e2)).trans hg,r⟩
theorem qB8 {p:Option Addr} {k:Nat} {vs:List Value} {gs:List (List Nat)} (h:Gr w D p k c vs gs) (hs:StB w w' R) (hR:R<D):Gr w' D p k c vs gs:=
 ⟨zXb h.own hs (by decide) hR,h.len,fun i g hg=>by
  obtain⟨G,c',h1,h2,h3⟩:=h.each i g hg
  exact⟨G,c',h1,h2,zXb h3 hs (by decide) hR⟩⟩
theorem zC9 (room:Nat) (h1:1<=room) (h2:room<=360) (w:World):Calls Tryz.prog 67 #[.int .i64 (room:Int)] w fun e w'=>e= .returned (.bool true)/\w'=w:=by
 have j1:decide ((1:Int)<=(room:Int))=true:=decide_eq_true (by omega)
 have j2:decide ((room:Int)<=360)=true:=decide_eq_true (by omega)
 go_enter Tryz.func67,Tryz.ntmps67
 go_wp2
 go_ret
 exact⟨rfl,rfl⟩
theorem zTp {B:Nat} {l:List (List Bool)} (h:Kit.Own' LB w B e a n c l):n<=c/\True/\True:=by
 refine⟨?_,trivial,trivial⟩
 rcases h.2 with⟨h2,_⟩|⟨g,cap,cur,hv,_,_,hnc,_⟩
 ·injection h2 with _ h3 h4;omega
 ·injection hv with _ _ hc;omega
theorem zIr (h:Kit.Src w a xs) (h0:0<xs.length):∃b off,a=some ⟨b,off,none⟩:=by
 obtain⟨b,off,hb,_⟩:=h 0 xs[0] (List.getElem?_eq_getElem h0)
 exact⟨b,off,hb⟩
theorem zFv (R:Nat) (a:Option Addr) (n c:Nat) (ls:List (List Bool)) (v k:Nat) (V K:Int) (hV:V=(v:Int)) (hK:K=(k:Int)) (w:World) (h:BW w R a n c ls) (hl:n<=100000) (hv:v<18446744073709551616) (hk:k<=64):
  Calls Tryz.prog 71 #[.pointer (some ⟨R,0,none⟩),.int .u64 V,.int .i64 K] w fun e w'=>e= .returned (.tuple #[])/\∃a' c',BW w' R a' (n+1) c' (ls++[num v k])/\StB w w' R:=by
 subst hV hK
 exact zSd R a n c ls v k w h hl hv hk
theorem zD8 (s:ByteArray) (x:List UInt8) (hx:s.data.toList=x) (h0:0<s.size) (hs:s.size<=100000) (room:Nat) (hr1:1<=room) (hr2:room<=360) (hl:Rle.Len x<=room) (w:World):
  Calls Tryz.prog 17 #[.string s,.int .i64 (room:Int)] w fun e w'=>e= .returned (.tuple #[zAe (zAn x),.int .i64 0])/\Below w.heap.size w w':=by
 have hxl:x.length=s.size:=by rw[<-hx];simp
 have hpp:=zJp x (by omega)
 have hps:=zFy x
 obtain⟨B,hB⟩:=zB w.heap.size
 have j1:s.toList.isEmpty=false:=by
  rw[Lib.toList_data,List.isEmpty_eq_false_iff];intro e
  have:s.data.toList.length=0:=by rw[e];rfl
  rw[Array.length_toList]at this;have:s.size=0:=this;omega
 have j2:decide (room<Rle.Len x)=false:=decide_eq_false (by omega)
 have HFI:=zH (fun W=>zC9 room hr1 hr2 W)
 have HLE:=zH (fun W=>by have h:=Rle.zVz s hs W;rw[hx]at h;exact h)
 have HPK:=zH (fun W=>by have h:=Rle.zR8 s hs W;rw[hx]at h;exact h)
 obtain⟨p,hp⟩:=zB (pkT x)
 rw[show Rle.bs (Rle.pack x)=p from by unfold Rle.bs;exact hp]at HPK
 rw[hp]at hpp hps
 have hp1:p.size<=1000:=by omega
 have HSQ:=zH (fun W=>zSh p hpp hp1 W)
 have hal:=zFk p
 have hcd:=zF8 p hpp
 have hsl:=zIo p
 have hsp:1<=(sym p).length:=by rw[zCv];omega
 have hslt:=zPz p hpp
 obtain⟨A,hA⟩:=zB (zAj p)
 obtain⟨O,hO⟩:=zB (zA8 p)
 have hOl:=zDq p hpp
 obtain⟨m,hm⟩:=zB (sym p)
 obtain⟨N,hN⟩:=zB (codes p)
 have hNA:N=A.size+2:=by rw[<-hN,<-hA];rfl
 rw[hA,hm]at hslt
 rw[hA]at hal
 rw[hO]at hOl
 rw[hm]at hsl hsp
 rw[hN]at hcd
 rw[hA,hO,hm]at HSQ
 have HCO:=zH (fun(c1:Option Addr) (c2 c3:Nat) (W:World)=>by have h:=zO4 A O c1 c2 c3 (by omega) W;rw[show(A.size:Int)+2=(N:Int)by omega]at h;exact h)
 have HTB:=zH (fun(a:Option Addr) (k c:Nat) (W:World) (hk:m.length=k) (hkc:k<=c) (hsr:Kit.Src W a (m.map ival)) (ha:∀p,a=some p->p.block<W.heap.size)=>zL0 m N a k c W hk hkc (by omega) (by omega) (by omega) (by omega) hsr (fun s hs2=>by have:=hslt s hs2;omega) ha)
 have HX:=zH hx
 have HP:=zH hp
 have HA:=zH hA
 have HO:=zH hO
 have HM:=zH hm
 have HN:=zH hN
 have HSLT:=zH hslt
 have HSL:=zH hsl
 have HNA:=zH hNA
 clear hx hp hA hO hm hN hslt hps hl hNA
 go_enter Tryz.func17,Tryz.ntmps17
 go_wp2_with fail
 (with_reducible refine(HFI.out _).mono ?_)
 rintro e w1 ⟨rfl,rfl⟩
 obtain⟨W1,hW1⟩:=zB (w.alloc (.cells #[.string ⟨#[]⟩,.int .i64 0] TB_))
 have r1:W1.heap[B]? =some (.cells #[.string ⟨#[]⟩,.int .i64 0] TB_ (0,0)):=by rw[<-hW1,<-hB];exact zAh w _
 have b1:Below B w W1:=by rw[<-hW1,<-hB];exact(Below.refl _ _).alloc (Nat.le_refl _) _
 have z1:W1.heap.size=B+1:=by rw[<-hW1,zA,hB]
 have HW1:=zH hW1
 have R1:=zH r1
 have B1:=zH b1
 have Z1:=zH z1
 have HBB:=zH hB
 clear hW1 r1 b1 z1
 go_wp2_with fail
 rw[show w.alloc (.cells #[.string ⟨#[]⟩,.int .i64 0] TB_)=W1 from HW1.out]
 (with_reducible refine(HLE.out _).mono ?_)
 rintro e w2 ⟨rfl,hb2⟩
 rw[Z1.out]at hb2
 have hz2:=hb2.size
 rw[Z1.out]at hz2
 have R2:=zH ((hb2.block B (by omega)).trans R1.out)
 have B2:=zH (B1.out.trans (hb2.mono (by omega)))
 clear hb2 R1 B1 Z1 HW1 HLE
 go_wp2_with fail
 (with_reducible refine(HPK.out _).mono ?_)
 rintro e w3 ⟨rfl,hb3⟩
 have hz3:=hb3.size
 have R3:=zH ((hb3.block B (by omega)).trans R2.out)
 have B3:=zH (B2.out.trans (hb3.mono (by omega)))
 clear hb3 R2 B2 HPK j2
 go_wp2_with fail
 (with_reducible refine(HSQ.out _).mono ?_)
 rintro e w4 ⟨sa,sc,rfl,ho4,hb4⟩
 have hz4:=hb4.size
 obtain⟨Q,hQ⟩:=zB w4.heap.size
 obtain⟨K,hK⟩:=zB m.length
 rw[hK]at ho4
 have hsc:K<=sc:=by
  have h5:=Ad.zIz ho4
  rcases h5 with⟨_,h6,_⟩|⟨h6,_⟩
  ·omega
  ·exact h6
 obtain⟨w5,hw5⟩:=zB (w4.alloc (.cells #[.string A,.int .i64 (O:Int),.slice sa K sc] Sq.TQ))
 have z5:w5.heap.size=Q+1:=by rw[<-hw5,zA,hQ]
 have V5:=zH (show w5.heap[Q]? =some (.cells #[.string A,.int .i64 (O:Int),.slice sa K sc] Sq.TQ (0,0))by rw[<-hw5,<-hQ];exact zAh w4 _)
 have R5:=zH (show w5.heap[B]? =some (.cells #[.string ⟨#[]⟩,.int .i64 0] TB_ (0,0))by rw[<-hw5,Lib.alloc_old w4 _ B (by omega),hb4.block B (by omega)];exact R3.out)
 have B5:=zH (show Below B w w5 by rw[<-hw5];exact(B3.out.trans (hb4.mono (by omega))).alloc (by omega) _)
 have O5:=zH (show Kit.Own w5 w3.heap.size 3 sa K sc (m.map ival)by rw[<-hw5];exact ho4.alloc _)
 have hBQ:B+1<=Q:=by omega
 have HW5:=zH hw5
 have HQQ:=zH hQ
 have HK:=zH hK
 rw[hK]at HSL hsp hsl
 clear hb4 ho4 R3 B3 HSQ hw5 hQ hz2 hz3 hz4 hK
 unfold qv at*
 have hKB:=hcd.2
 have x0:=zH (show ∀W,W.heap[Q]? =some (.cells #[.string A,.int .i64 (O:Int),.slice sa K sc] Sq.TQ (0,0))->(loadVar 23 ⟨Q,2,none⟩).run Tryz.prog W= .ok (.slice sa K sc) W from fun W h=>Kit.zAg (cells3 h).2.2.1 (by kernel_rfl) (by kernel_rfl))
 have x1:=zH (show ∀W,W.heap[Q]? =some (.cells #[.string A,.int .i64 (O:Int),.slice sa K sc] Sq.TQ (0,0))->(loadVar Sq.TQ ⟨Q,0,none⟩).run Tryz.prog W= .ok (.agg #[.string A,.int .i64 (O:Int),.slice sa K sc]) W from fun W h=>by
  obtain⟨y0,y1,y2,_⟩:=cells3 h
  simp[loadVar,go_sem,y0,y1,y2])
 have HT5:=zH (fun(W:World) (hW:Below w5.heap.size w5 W)=>HTB.out sa K sc W HK.out hsc (O5.out.src.below hW) (fun q hq=>by
  obtain⟨b,off,hb,hc⟩:=O5.out.src 0 (ival (m[0]'(by rw[HK.out];omega))) (by rw[List.getElem?_map,List.getElem?_eq_getElem (by rw[HK.out];omega)];rfl)
  rw[hq]at hb
  injection hb with hb
  subst hb
  exact Nat.lt_of_lt_of_le (block_lt_of_cell hc) hW.size))
 rw[z5]at HT5
 go_wp2
 rw[HQQ.out,HK.out,show w4.alloc (.cells #[.string A,.int .i64 (O:Int),.slice sa K sc] Sq.TQ)=w5 from HW5.out]
 refine zS [4] (fun W9=>W9.heap[Q]? =some (.cells #[.string A,.int .i64 (O:Int),.slice sa K sc] Sq.TQ (0,0))) [0,1,0,4,10,16,32,32,32,127,767,2047] 12<|zu 0 38 (zP Q 2)<|zy 1 39 (.slice sa K sc) (fun w hS=>zl 23 38 (x0.out _ hS)) (show w5.drew.heap[Q]? =_ from V5.out)<|zp [2]<|zt 40 (.agg #[.string A,.int .i64 (O:Int),.slice sa K sc]) ((fun w hS=>zl 133 6 (x1.out _ hS)) _ ((show w5.drew.heap[Q]? =_ from V5.out)))<|zn<|zc 3 41 70 #[.agg #[.string A,.int .i64 (O:Int),.slice sa K sc]] (zI N) (HCO.out sa K sc _)<| ?_
 refine fun w6 hb6=>⟨.inr (.inr ((hb6.block Q (by show Q<w5.heap.size;omega)).trans V5.out)),?_⟩
 have hz6:=hb6.size
 have hb6q:Below (Q+1) w5 w6:=by have h:=(show Below w5.heap.size w5 w5.drew from(Below.refl _ _).drew).trans hb6;rw[z5]at h;exact h
 have HT6:=zH (HT5.out w6 hb6q)
 refine zx 4 42 23 #[.slice sa K sc,.int .i64 (N:Int)] HT6.out<| ?_
 rintro e w7 ⟨tp,tc,cq,cc,G0,G1,rfl,s0,s1,s2,s3,hb7⟩
 have V7:=zH ((hb7.block Q (by show Q<w6.heap.size;exact Nat.lt_of_lt_of_le (show Q<w5.heap.size by omega) hb6q.size)).trans ((hb6.block Q (by show Q<w5.heap.size;omega)).trans V5.out))
 refine⟨_,rfl,.inr (.inr V7.out),?_⟩
 refine zp [5,6,7,8,9,10,11]<|zk 37 (.tuple #[.slice tp 2 tc,.slice cq (grp m).length cc,.int .i64 0])<|zk 43 (.slice tp 2 tc)<|zk 44 (.slice cq (grp m).length cc)<|zk 45 (.int .i64 0)<|zk 8 (.slice tp 2 tc)<|zk 9 (.slice cq (grp m).length cc)<|zk 10 (.int .i64 0)<|zn<|zE<| ?_
 simp only[zP,zI,Act.put,List.setIfInBounds_toArray,List.set_cons_zero,List.set_cons_succ]
 obtain⟨R,hR⟩:=zB w7.heap.size
 have hz67:=hb6q.size
 have hz77:=hb7.size
 have b57:Below (Q+1) w5 w7:=hb6q.trans (hb7.mono (by omega))
 have S7:=zH (⟨hR,V7.out,O5.out.src.below (by rw[z5];exact b57),s0,s1,s2,s3⟩:Old w7 R Q A O sa K sc tp tc cq (grp m).length cc G0 G1 N m (tb m N 0) (tb m N 1) (chosen m N))
 obtain⟨KG,hKG⟩:=zB ((grp m).length)
 have hKGl:KG<=101:=by rw[<-hKG,zBx,HK.out];omega
 have hKGp:0<KG:=by rw[<-hKG,zBx,HK.out];omega
 rw[hKG]at S7
 have R7:=zH (show w7.heap[B]? =some (.cells #[.string ⟨#[]⟩,.int .i64 0] TB_ (0,0))from(b57.block B (by omega)).trans R5.out)
 have B7:=zH (B5.out.trans (b57.mono (by omega)))
 have hQR:Q<R:=by omega
 have HKG:=zH hKG
 have HR:=zH hR
 rw[hKG]
 clear hb6 hz6 HT6 hb6q s0 s1 s2 s3 hb7 V7 hR hz67 hz77 b57 HTB HCO O5 B5 R5 V5 x0 x1 HT5 z5 hKG HFI HW5 HQQ
 obtain⟨t0,ht0⟩:=zB (tb m N 0)
 obtain⟨t1,ht1⟩:=zB (tb m N 1)
 obtain⟨ch,hch⟩:=zB (chosen m N)
 rw[ht0,ht1,hch]at S7
 obtain⟨tpb,tpo,rfl⟩:=zIr S7.out.tabs (by simp)
 have hchl:ch.length=KG:=by rw[<-hch,zIe];exact HKG.out
 have hch1:∀u∈ch,u<=1:=by rw[<-hch];exact zGr m N
 obtain⟨cqb,cqo,rfl⟩:=zIr S7.out.cho (by rw[List.length_map];omega)
 have hr0:Right t0:=by rw[<-ht0];exact zDn m N 0 (by omega) hcd.2 (by rw[HK.out];omega)
 have hr1:Right t1:=by rw[<-ht1];exact zDn m N 1 (by omega) hcd.2 (by rw[HK.out];omega)
 have hl0:t0.length=N:=by rw[<-ht0];exact zG5 _ _ _
 have hl1:t1.length=N:=by rw[<-ht1];exact zG5 _ _ _
 have HR0:=zH hr0
 have HR1:=zH hr1
 have HL0:=zH hl0
 have HL1:=zH hl1
 have HCL:=zH hchl
 have HC1:=zH hch1
 clear hr0 hr1 hl0 hl1 hchl hch1
 have HT0:=zH ht0
 have HT1:=zH ht1
 have HCH:=zH hch
 clear ht0 ht1 hch
 have hSum:=Crc.zG7 s (by unfold maxLen;omega)
 rw[HX.out]at hSum
 have hUlo:=Crc.zN0 (Crc.sum x)
 have hUhi:=Crc.zN1 (Crc.sum x)
 have HSUM:=zH hSum
 clear hSum
 go_wp2_with fail
 rw[HR.out]
 obtain⟨w8,hw8⟩:=zB (w7.alloc (.cells #[.slice none 0 0] TW))
 rw[show w7.alloc (.cells #[.slice none 0 0] TW)=w8 from hw8]
 have BW8:=zH (show BW w8 R none 0 0 []from⟨by rw[<-hw8,<-HR.out];exact zAh w7 _,Kit.Own'.start _ _ _⟩)
 have OL8:=zH (show Below R w7 w8 by rw[<-hw8,<-HR.out];exact(Below.refl _ _).alloc (Nat.le_refl _) _)
 clear hw8
 (with_reducible refine(zFv R none 0 0 [] zA4 48 54156738319193 48 rfl rfl w8 BW8.out (by omega) (by unfold zA4;omega) (by omega)).mono ?_)
 rintro e w9 ⟨rfl,a9,c9,hbw,hst⟩
 have BW9:=zH hbw
 have OL9:=zH (OL8.out.trans hst.below)
 clear hbw hst BW8 OL8
 go_wp2_with fail
 (with_reducible refine(HSUM.out w9).mono ?_)
 rintro e w10 ⟨rfl,hb⟩
 have BW10:=zH (BW9.out.below hb rfl)
 have OL10:=zH (OL9.out.trans (hb.mono (Nat.le_of_lt BW9.out.lt)))
 clear hb BW9 OL9 HSUM
 go_wp2_with fail
 (with_reducible refine(zFv R a9 _ c9 _ (zBa x) 32 (Crc.U (Crc.sum x)) 32 (by unfold Crc.U zBa;rfl) rfl w10 BW10.out (by omega) (by unfold zBa;have:=(Crc.sum x).isLt;omega) (by omega)).mono ?_)
 rintro e w11 ⟨rfl,a11,c11,hbw,hst⟩
 have BW11:=zH hbw
 have OL11:=zH (OL10.out.trans hst.below)
 clear hbw hst BW10 OL10
 obtain⟨y0,y1,y2,_⟩:=cells3 ((OL11.out.block Q hQR).trans S7.out.var)
 clear hUlo hUhi
 go_wp2_with fail
 clear y0 y1 y2
 (with_reducible refine(zFv R a11 _ c11 _ O 16 (O:Int) 16 rfl rfl w11 BW11.out (by omega) (by omega) (by omega)).mono ?_)
 rintro e w12 ⟨rfl,a12,c12,hbw,hst⟩
 have BW12:=zH hbw
 have OL12:=zH (OL11.out.trans hst.below)
 clear hbw hst BW11 OL11
 obtain⟨y0,y1,y2,_⟩:=cells3 ((OL12.out.block Q hQR).trans S7.out.var)
 have HMP:=zH (zTv A (by omega) w12)
 go_wp2_with fail
 clear y0 y1 y2
 (with_reducible refine HMP.out.mono ?_)
 rintro e w13 ⟨rfl,hb⟩
 have BW13:=zH (BW12.out.below hb rfl)
 have OL13:=zH (OL12.out.trans (hb.mono (Nat.le_of_lt BW12.out.lt)))
 clear hb BW12 OL12
 clear HMP
 go_wp2_with fail
 (with_reducible refine(zHk R a12 _ c12 _ (zC2 (bl A)) 0 w13 BW13.out (by omega)).mono ?_)
 rintro e w14 ⟨rfl,a14,c14,hbw,hst⟩
 have BW14:=zH hbw
 have OL14:=zH (OL13.out.trans hst.below)
 clear hbw hst BW13 OL13
 go_wp2_with fail
 (with_reducible refine(zFv R a14 _ c14 _ 2 3 2 3 rfl rfl w14 BW14.out (by omega) (by omega) (by omega)).mono ?_)
 rintro e w15 ⟨rfl,a15,c15,hbw,hst⟩
 have BW15:=zH hbw
 have OL15:=zH (OL14.out.trans hst.below)
 clear hbw hst BW14 OL14
 go_wp2_with fail
 (with_reducible refine(zFv R a15 _ c15 _ KG 15 (KG:Int) 15 rfl rfl w15 BW15.out (by omega) (by omega) (by omega)).mono ?_)
 rintro e w16 ⟨rfl,a16,c16,hbw,hst⟩
 have BW16:=zH hbw
 have OL16:=zH (OL15.out.trans hst.below)
 clear hbw hst BW15 OL15
 have OS7:=zH S7.out.size
 have HSP:=zH (zK2 ch (some ⟨cqb,cqo,none⟩) KG cc w16 HCL.out (by omega) (S7.out.cho.below (by rw[OS7.out];exact OL16.out)) HC1.out)
 go_wp2_with fail
 (with_reducible refine HSP.out.mono ?_)
 rintro e w17 ⟨rfl,hb⟩
 have BW17:=zH (BW16.out.below hb rfl)
 have OL17:=zH (OL16.out.trans (hb.mono (Nat.le_of_lt BW16.out.lt)))
 clear hb BW16 OL16
 clear HSP
 go_wp2_with fail
 (with_reducible refine(zHk R a16 _ c16 _ (zAz false ch) 0 w17 BW17.out (by omega)).mono ?_)
 rintro e w18 ⟨rfl,a18,c18,hbw,hst⟩
 have BW18:=zH hbw
 have OL18:=zH (OL17.out.trans hst.below)
 clear hbw hst BW17 OL17
 have BWH:=zH (show BW w18 R a18 7 c18 (zCg x)from by
  have h:=BW18.out
  have e:[]++[num zA4 48]++[num (zBa x) 32]++[num O 16]++[zC2 (bl A)]++[num 2 3]++[num KG 15]++[zAz false ch]=zCg x:=by
   unfold zCg cho codes
   rw[HP.out,HA.out,HO.out,HM.out,<-HNA.out,HCH.out,HCL.out]
   rfl
  rw[e]at h
  exact h)
 clear BW18
 go_wp2
 go_loopw [71] (fun iv wr=>∃(i c:Nat) (a:Option Addr),i<=2/\iv= .int .i64 i/\RowKit.Hid (BW wr R a (7+i) c (zCg x++(List.range i).map fun k=>delta (if k=0 then t0 else t1)))/\RowKit.Hid (Below R w7 wr)) (fun iv _=>2-(intOf iv).toNat)
 case atStart=>exact⟨0,c18,a18,by omega,rfl,zH (by simpa using BWH.out),OL18⟩
 case round=>
  clear BWH OL18
  obtain⟨i,c,a,hi,rfl,hbw,hol⟩:=hrel
  by_cases hlt:i<2
  ·have hS:=S7.out.tabs.below (by rw[OS7.out];exact hol.out)
   obtain⟨Gi,ti,hGi,hti⟩:∃Gi ti,([Value.slice (some ⟨G0,0,none⟩) N N,Value.slice (some ⟨G1,0,none⟩) N N]:List Value)[i]? =some (.slice (some ⟨Gi,0,none⟩) N N)/\(ti=(if i=0 then t0 else t1)/\Kit.Src wr (some ⟨Gi,0,none⟩) (ti.map ival)/\Right ti/\ti.length=N):=by
    obtain rfl|rfl:i=0\/i=1:=by omega
    ·exact⟨G0,t0,rfl,rfl,S7.out.one.below (by rw[OS7.out];exact hol.out),HR0.out,HL0.out⟩
    ·exact⟨G1,t1,rfl,rfl,S7.out.two.below (by rw[OS7.out];exact hol.out),HR1.out,HL1.out⟩
   obtain⟨b,off,hbo,x0⟩:=hS i _ hGi
   injection hbo with hbo
   injection hbo with e1 e2 _
   subst e1 e2
   obtain⟨ht1,ht2,ht3,ht4⟩:=hti
   have hdl:=zI8 ti ht3.top
   have HD:=zH (zLj ti (some ⟨Gi,0,none⟩) N N wr ht4 (by omega) (by omega) ht2 (fun u hu=>⟨ht3.one u hu,ht3.top u hu⟩) (by rw[ht4]at hdl;omega))
   have HT:=zH ht1
   clear hGi hS ht1 ht2 ht3 ht4 hdl
   go_wp2_with fail
   (with_reducible refine HD.out.mono ?_)
   rintro e w20 ⟨rfl,hb⟩
   have BW20:=zH (hbw.out.below hb rfl)
   have OL20:=zH (hol.out.trans (hb.mono (Nat.le_of_lt hbw.out.lt)))
   clear hb hbw hol HD x0
   go_wp2_with fail
   (with_reducible refine(zHk R a _ c _ (delta ti) 0 w20 BW20.out (by omega)).mono ?_)
   rintro e w21 ⟨rfl,a21,c21,hbw,hst⟩
   have BW21:=zH (show BW w21 R a21 (7+(i+1)) c21 (zCg x++(List.range (i+1)).map fun k=>delta (if k=0 then t0 else t1))from by
    rw[List.range_succ,List.map_append,<-List.append_assoc]
    simp only[List.map_cons,List.map_nil]
    rw[<-HT.out]
    exact hbw)
   have OL21:=zH (OL20.out.trans hst.below)
   clear hbw hst BW20 OL20
   go_wp2
   go_roundw
   case rel=>exact⟨i+1,c21,a21,by omega,by go_num,BW21,OL21⟩
   case measure=>simp only[intOf];omega
  ·obtain rfl:i=2:=by omega
   have BW30:=zH (show BW wr R a 9 c (zCg x++[delta t0,delta t1])from hbw.out)
   obtain⟨y0,y1,y2,_⟩:=cells3 ((hol.out.block Q hQR).trans S7.out.var)
   have hsrc:=S7.out.syms.below (w':=wr) (by rw[OS7.out];exact hol.out)
   obtain⟨sab,sao,rfl⟩:=zIr hsrc (by rw[List.length_map,HK.out];exact hsp)
   have HGR:=zH (zH8 m (some ⟨sab,sao,none⟩) K sc wr HK.out (by omega) hsc hsrc (fun q hq=>by
    obtain⟨b,off,hb,hc⟩:=hsrc 0 (ival (m[0]'(by rw[HK.out];omega))) (by rw[List.getElem?_map,List.getElem?_eq_getElem (by rw[HK.out];omega)];rfl)
    rw[hq]at hb
    injection hb with hb
    subst hb
    exact block_lt_of_cell hc))
   rw[HKG.out]at HGR
   clear hbw hsrc
   go_wp2_with fail
   (with_reducible refine HGR.out.mono ?_)
   rintro e w31 ⟨gp,gc,vs,rfl,hgr,hb⟩
   have hRD:R<wr.heap.size:=BW30.out.lt
   obtain⟨D,hD⟩:=zB wr.heap.size
   rw[hD]at hgr hRD
   have BW31:=zH (BW30.out.below hb rfl)
   have OL31:=zH (hol.out.trans (hb.mono (by omega)))
   have GR31:=zH hgr
   clear hb BW30 hol y0 y1 y2 HGR hgr hD
   go_wp2
   obtain⟨wo,rfl⟩:∃wo,wo=wr:=⟨_,rfl⟩
   go_loopw [85] (fun iv wr=>∃(i c:Nat) (a:Option Addr),i<=KG/\iv= .int .i64 i/\RowKit.Hid (BW wr R a (9+i) c (zCg x++[delta t0,delta t1]++(List.range i).map (zBe p)))/\RowKit.Hid (Below R w7 wr)/\RowKit.Hid (Gr wr D gp KG gc vs (grp m))) (fun iv _=>KG-(intOf iv).toNat)
   case atStart=>exact⟨0,c,a,by omega,rfl,zH (by simpa using BW31.out),OL31,GR31⟩
   case round=>
    clear BW31 OL31 GR31
    obtain⟨i,c,a,hi,rfl,hbw,hol,hgr⟩:=hrel
    by_cases hlt:i<KG
    ·obtain⟨g,hg⟩:∃g,(grp m)[i]? =some g:=⟨_,List.getElem?_eq_getElem (by rw[HKG.out];exact hlt)⟩
     obtain⟨G,c',hv,hgc,howng⟩:=hgr.out.each i g hg
     obtain⟨hg1,hg2,hg3⟩:=zHg (List.mem_of_getElem? hg)
     obtain⟨L,hL⟩:=zB g.length
     rw[hL]at hv hgc howng hg2
     obtain⟨g0,rfl,_,_,_,hcell,_⟩:=hgr.out.own.at_ (by omega)
     have x0:=hcell i hlt
     rw[hv]at x0
     have hci:i<ch.length:=by rw[HCL.out];exact hlt
     obtain⟨b,off,hbo,x1⟩:=(S7.out.cho.below (w':=wr) (by rw[OS7.out];exact hol.out)) i (ival ch[i]) (by rw[List.getElem?_map,List.getElem?_eq_getElem hci];rfl)
     injection hbo with hbo
     injection hbo with e1 e2 _
     subst e1 e2
     obtain⟨k,hk⟩:=zB (ch[i])
     have hk1:k<=1:=by rw[<-hk];exact HC1.out _ (List.getElem_mem hci)
     rw[hk]at x1
     have hto:zGb p i=if k=1 then t1 else t0:=by
      unfold zGb cho tab codes
      rw[HM.out,HA.out,<-HNA.out,HCH.out,HT0.out,HT1.out,List.getD_eq_getElem?_getD,List.getElem?_eq_getElem hci,Option.getD_some,hk]
     obtain⟨Gi,ti,hGi,hti⟩:∃Gi ti,([Value.slice (some ⟨G0,0,none⟩) N N,Value.slice (some ⟨G1,0,none⟩) N N]:List Value)[k]? =some (.slice (some ⟨Gi,0,none⟩) N N)/\(zGb p i=ti/\Kit.Src wr (some ⟨Gi,0,none⟩) (ti.map ival)/\Right ti/\ti.length=N):=by
      obtain rfl|rfl:k=0\/k=1:=by omega
      ·exact⟨G0,t0,rfl,hto,S7.out.one.below (by rw[OS7.out];exact hol.out),HR0.out,HL0.out⟩
      ·exact⟨G1,t1,rfl,hto,S7.out.two.below (by rw[OS7.out];exact hol.out),HR1.out,HL1.out⟩
     obtain⟨b2,off2,hbo2,x2⟩:=(S7.out.tabs.below (w':=wr) (by rw[OS7.out];exact hol.out)) k _ hGi
     injection hbo2 with hbo2
     injection hbo2 with e1 e2 _
     subst e1 e2
     obtain⟨ht1,ht2,ht3,ht4⟩:=hti
     have HPU:=zH (zRq ti (some ⟨Gi,0,none⟩) N N g (some ⟨G,0,none⟩) L c' wr ht4 ht2 (fun q hq=>by
      obtain⟨b,off,hb,hc⟩:=ht2 0 (ival (ti[0]'(by omega))) (by rw[List.getElem?_map,List.getElem?_eq_getElem (by omega)];rfl)
      rw[hq]at hb
      injection hb with hb
      subst hb
      exact block_lt_of_cell hc) ht3 hL (by omega) howng.src (fun u hu=>by have:=HSLT.out u (hg3 u hu);have h5:=HNA.out;omega))
     have HGB:=zH (show g.flatMap (word ti)=zBe p i by
      unfold zBe groups
      rw[HM.out,List.getD_eq_getElem?_getD,hg,Option.getD_some,ht1])
     rw[HGB.out]at HPU
     clear hg hv howng hg1 hg3 hcell hk hto hGi ht1 ht2 ht3 ht4 hL
     unfold ival at x1
     go_wp2_with fail
     (with_reducible refine HPU.out.mono ?_)
     rintro e w40 ⟨rfl,hb⟩
     have BW40:=zH (hbw.out.below hb rfl)
     have OL40:=zH (hol.out.trans (hb.mono (Nat.le_of_lt hbw.out.lt)))
     have GR40:=zH (hgr.out.below hb (Nat.le_refl _))
     clear hb hbw hol hgr HPU x0 x1 x2 HGB
     go_wp2_with fail
     (with_reducible refine(zHk R a _ c _ (zBe p i) 0 w40 BW40.out (by omega)).mono ?_)
     rintro e w41 ⟨rfl,a41,c41,hbw,hst⟩
     have BW41:=zH (show BW w41 R a41 (9+(i+1)) c41 (zCg x++[delta t0,delta t1]++(List.range (i+1)).map (zBe p))from by
      rw[List.range_succ,List.map_append,<-List.append_assoc]
      exact hbw)
     have OL41:=zH (OL40.out.trans hst.below)
     have GR41:=zH (qB8 GR40.out hst hRD)
     clear hbw hst BW40 OL40 GR40
     go_wp2
     go_roundw
     case rel=>exact⟨i+1,c41,a41,by omega,by go_num,BW41,OL41,GR41⟩
     case measure=>simp only[intOf];omega
    ·obtain rfl:KG=i:=by omega
     have hbx:zCg x++[delta t0,delta t1]++(List.range KG).map (zBe p)=zIg x:=by
      unfold zIg
      rw[HP.out,show(groups p).length=KG from by unfold groups;rw[HM.out,HKG.out]]
      unfold tab codes
      rw[HM.out,HA.out,<-HNA.out,HT0.out,HT1.out]
     have BW50:=zH (show BW wr R a (9+KG) c (zIg x)by rw[<-hbx];exact hbw.out)
     have hbl:=zLp x (by rw[HP.out];exact hpp) (by rw[HP.out];exact hp1)
     obtain⟨z0,hz0,_⟩:=zTp BW50.out.own
     have HCT:=zH (zFs a (9+KG) c (zIg x) wr BW50.out.own.len z0 (by omega) (zFd BW50.out.own) (by show(zAn x).length<=1000000;omega))
     have x0:wr.cell? ⟨R,0,none⟩=some (.slice a (9+KG) c):=by simp[World.cell?,BW50.out.blk]
     clear hbx hbw hbl
     rw[show(zIg x).flatten=zAn x from rfl]at HCT
     go_wp2_with fail
     (with_reducible refine HCT.out.mono ?_)
     rintro e w51 ⟨rfl,hb⟩
     have hBR:B<R:=by omega
     have q51:=(hb.block B (by have:=BW50.out.lt;omega)).trans ((hol.out.block B hBR).trans R7.out)
     obtain⟨y0,y1,f0,f1⟩:=zAf q51
     have HBL:=zH (B7.out.trans ((hol.out.mono (Nat.le_of_lt hBR)).trans (hb.mono (by have:=BW50.out.lt;omega))))
     clear x0 hb q51 hol BW50
     unfold zAe
     go_wp2
     refine bodyPost_ret (zEk rfl _ _ B _ _ _ rfl rfl (Bt.zCy y0) (Bt.zCx y1)) rfl ⟨rfl,?_⟩
     rw[HBB.out]
     exact zCs HBL.out (Nat.le_refl _)
end Bk
end Go.Proofs.YtppnakkaljbmbaaGreatDoor
