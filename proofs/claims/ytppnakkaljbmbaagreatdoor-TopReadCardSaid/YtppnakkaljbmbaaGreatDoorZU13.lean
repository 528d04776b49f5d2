/- Steps of a proof; no condition beyond what each states. -/
import Derived.Laws.EntriesVeiled
import Derived.Test.YtppnakkaljbmbaaGreatDoorZU12
set_option linter.unusedVariables false
set_option linter.unusedSimpArgs false
set_option maxRecDepth 100000
set_option maxHeartbeats 8000000
namespace Go.Proofs.YtppnakkaljbmbaaGreatDoor
namespace Wg
open Hf Bt
theorem zL4:∀(l:List Nat) (i x:Nat) (q:List Q),zAt i (l++[x]) q=ins ⟨x,i+l.length,.leaf (i+l.length)⟩ (zAt i l q)
 |[],i,x,q=>rfl
 |y::l,i,x,q=>by
  show zAt (i+1) (l++[x]) _=ins _ (zAt (i+1) l _)
  rw[zL4 l (i+1) x,List.length_cons,show i+1+l.length=i+(l.length+1)by omega]
theorem zHp:∀(l:List Nat) (i:Nat) (q:List Q),(∀e∈q,e.t= .leaf e.x)->∀e∈zAt i l q,e.t= .leaf e.x
 |[],_,_,h,e,he=>h e he
 |x::l,i,q,h,e,he=>zHp l (i+1) (ins ⟨x,i,.leaf i⟩ q) (fun e he=>by
   rcases List.mem_cons.1 ((zBh _ q).mem_iff.1 he)with rfl|he
   ·rfl
   ·exact h e he) e he
theorem zMv:∀(k n:Nat) (q:List Q) (a b:Q) (r:List Q),build k n q=a::b::r->k<q.length->build (k+1) n q=ins ⟨a.w+b.w,n+k,.node a.t b.t⟩ r
 |0,n,q,a,b,r,h,_=>by
  have h:q=a::b::r:=h
  subst h;rfl
 |k+1,n,q,a,b,r,h,hl=>by
  match q,h,hl with
  |x::y::s,h,hl=>
   show build (k+1) (n+1) (ins _ s)=_
   have h:build k (n+1) (ins ⟨x.w+y.w,n,.node x.t y.t⟩ s)=a::b::r:=h
   rw[zMv k (n+1) _ a b r h (by rw[(zBh _ s).length_eq];simp at hl⊢;omega),show n+1+k=n+(k+1)by omega]
  |[x],h,hl=>simp at hl
  |[],h,hl=>simp at hl
def q0 (ws:List Nat):List Q:=zAt 0 ws []
def qt (ws:List Nat) (t:Nat):List Q:=build t ws.length (q0 ws)
section
variable {ws:List Nat} (hpos:∀x∈ws,1<=x)
include hpos
theorem zQp:Inv ws.length ws.sum ws.length (q0 ws)/\(q0 ws).length=ws.length:=by
 have h:=Inv.start ws 0 0 [] Inv.nil (fun e h=>by cases h) hpos
 rw[Nat.zero_add,Nat.zero_add]at h
 unfold q0
 simpa using h
theorem zMa (t:Nat) (ht:t<ws.length):Inv ws.length ws.sum (ws.length+t) (qt ws t)/\(qt ws t).length=ws.length-t:=by
 obtain⟨h1,h2⟩:=zQp hpos
 refine⟨h1.build t ws.length _ (by omega),?_⟩
 unfold qt
 rw[zO9 _ _ _ (by omega),h2]
theorem zW2 (t:Nat) (ht:t+1<ws.length):∃a b r,qt ws t=a::b::r/\qt ws (t+1)=ins ⟨a.w+b.w,ws.length+t,.node a.t b.t⟩ r:=by
 obtain⟨h1,h2⟩:=zMa hpos t (by omega)
 match hq:qt ws t,h2 with
 |a::b::r,_=>exact⟨a,b,r,rfl,zMv t ws.length (q0 ws) a b r hq (by rw[(zQp hpos).2];omega)⟩
 |[a],h2=>simp at h2;omega
 |[],h2=>simp at h2;omega
end
structure Lp (ws:List Nat) (t:Nat) (U:Nat->Nat):Prop where
 good:Good U (qt ws t) (ws.length+t)
 ok:∀x,x<ws.length+t->x∉(qt ws t).map Q.x->x<U x/\U x<ws.length+t
theorem Lp.start {ws:List Nat} (hpos:∀x∈ws,1<=x) (h1:1<=ws.length) (U:Nat->Nat):Lp ws 0 U:=by
 refine⟨Good.start (zHp ws 0 [] (fun e h=>by cases h)),fun x hx hn=> ?_⟩
 exfalso
 apply hn
 obtain⟨hi,hl⟩:=zQp hpos
 have hleaf:∀e∈q0 ws,e.t= .leaf e.x:=zHp ws 0 [] (fun e h=>by cases h)
 have e:(q0 ws).flatMap (fun e=>e.t.names)=(q0 ws).map Q.x:=by
  have:∀l:List Q,(∀e∈l,e.t= .leaf e.x)->l.flatMap (fun e=>e.t.names)=l.map Q.x:=by
   intro l
   induction l with
   |nil=>intro _;rfl
   |cons e l ih=>
    intro h
    rw[List.flatMap_cons,List.map_cons,ih (fun x hx=>h x (by simp[hx])),h e (by simp)]
    rfl
  exact this _ hleaf
 have h2:=hi.names
 rw[e]at h2
 exact h2.mem_iff.2 (List.mem_range.2 hx)
theorem Lp.step {ws:List Nat} {t:Nat} {U:Nat->Nat} (hpos:∀x∈ws,1<=x) (h:Lp ws t U) (ht:t+1<ws.length) {a b:Q} {r:List Q} (hq:qt ws t=a::b::r) (hq':qt ws (t+1)=ins ⟨a.w+b.w,ws.length+t,.node a.t b.t⟩ r):
  Lp ws (t+1) (zAy (zAy U a.x (ws.length+t)) b.x (ws.length+t)):=by
 obtain⟨hi,hl⟩:=zMa hpos t (by omega)
 have hg:=h.good
 have hok:=h.ok
 rw[hq]at hi hg hok
 have hd:=hi.apart
 have hne:a.x≠b.x:=by
  simp only[List.map_cons,List.nodup_cons,List.mem_cons,not_or]at hd
  exact hd.1.1
 have ha:zAy (zAy U a.x (ws.length+t)) b.x (ws.length+t) a.x=ws.length+t:=by rw[zBb _ _ _ _ hne,zCj]
 have hb:zAy (zAy U a.x (ws.length+t)) b.x (ws.length+t) b.x=ws.length+t:=zCj _ _ _
 have ho:∀x,x≠a.x->x≠b.x->zAy (zAy U a.x (ws.length+t)) b.x (ws.length+t) x=U x:=fun x h1 h2=>by rw[zBb _ _ _ _ h2,zBb _ _ _ _ h1]
 refine⟨?_,fun x hx hn=> ?_⟩
 ·rw[hq']
  exact Good.join hg hi.below hd ha hb ho
 ·rw[hq']at hn
  have hm:∀y,y∈(ins ⟨a.w+b.w,ws.length+t,.node a.t b.t⟩ r).map Q.x↔y=ws.length+t\/y∈r.map Q.x:=by
   intro y
   rw[((zBh _ r).map Q.x).mem_iff,List.map_cons,List.mem_cons]
  rw[hm]at hn
  have hxN:x≠ws.length+t:=fun e=>hn (.inl e)
  have hxr:x∉r.map Q.x:=fun e=>hn (.inr e)
  have hal:=hi.below a (by simp)
  have hbl:=hi.below b (by simp)
  by_cases e1:x=a.x
  ·subst e1;rw[ha];omega
  ·by_cases e2:x=b.x
   ·subst e2;rw[hb];omega
   ·rw[ho x e1 e2]
    have:=hok x (by omega) (by simp only[List.map_cons,List.mem_cons,not_or];exact⟨e1,e2,hxr⟩)
    omega
theorem Lp.last {ws:List Nat} {U:Nat->Nat} (hpos:∀x∈ws,1<=x) (h2:2<=ws.length) (h:Lp ws (ws.length-1) U):
  (∀x,x<2*ws.length-2->x<U x/\U x<2*ws.length-1)/\
  ∀D:Nat->Nat,D (2*ws.length-2)=0->(∀x,x<2*ws.length-2->D x=D (U x)+1)->∀i,i<ws.length->(lens ws)[i]? =some (D i):=by
 obtain⟨t,ht⟩:∃t,ws.length-1=t+1:=⟨ws.length-2,by omega⟩
 obtain⟨a,b,r,hq,hq'⟩:=zW2 hpos t (by omega)
 obtain⟨hi,hl⟩:=zMa hpos (ws.length-1) (by omega)
 rw[<-ht]at hq'
 have hr:r=[]:=by
  have:=congrArg List.length hq'
  rw[hl,(zBh _ r).length_eq,List.length_cons]at this
  exact List.eq_nil_of_length_eq_zero (by omega)
 subst hr
 have e0:qt ws (ws.length-1)=[⟨a.w+b.w,ws.length+t,.node a.t b.t⟩]:=hq'
 have hg:=h.good
 have hok:=h.ok
 rw[e0]at hg hok
 have eN:ws.length+(ws.length-1)=2*ws.length-1:=by omega
 have eT:ws.length+t=2*ws.length-2:=by omega
 rw[eN]at hg hok
 rw[eT]at hg hok
 refine⟨fun x hx=>hok x (by omega) (by simp;omega),fun D h0 hD i hi=> ?_⟩
 have htree:tree ws= .node a.t b.t:=by
  unfold tree
  have:build (ws.length-1) ws.length (zAt 0 ws [])=[⟨a.w+b.w,ws.length+t,.node a.t b.t⟩]:=e0
  rw[this]
 refine qDd (by omega) hpos (D:=D) ?_ i hi
 rw[htree]
 have hg2:Good U [⟨a.w+b.w,2*ws.length-2,.node a.t b.t⟩] (2*ws.length-2+1):=by rw[show 2*ws.length-2+1=2*ws.length-1 by omega];exact hg
 exact qA1 hg2 rfl h0 hD
end Wg
namespace Wg
open Go.RowKit Hf Bt Zr Ix Front
variable {w w':World} {R G n k:Nat} {f:Nat->Nat}
theorem zF2 (w:World) (n:Nat) (hn:n<=1000000):(Instr.makeSlice 23 (.int .i64 (n:Int)) (.int .i64 (n:Int))).run Tryz.prog w= .ok (.slice (some ⟨w.heap.size,0,none⟩) n n) (w.alloc (.cells (cellsOf n (fun _=> .int .i64 0)) 3)):=by
 have hinf:(Tryz.prog.info? 3).map (fun i=>(i.zero,i.size,i.bytes))=some (some (.int .i64 0),1,8):=by kernel_rfl
 obtain⟨i,hi,hz0,hz1,hz2⟩:=info_parts hinf
 have hr:=run_makeSlice (P:=Tryz.prog) w 23 3 i _ Tryz.underlying23 hi hz0 .i64 .i64 (n:Int) (n:Int) (by omega) (by omega) (by rw[hz1];omega) (by rw[hz2];omega) (by omega)
 have e:madeCells (Value.int .i64 0).cells ((n:Int).toNat*i.size)=cellsOf n (fun _=> .int .i64 0):=by
  rw[hz1,Nat.mul_one]
  show(Array.range n).map _=_
  refine zDm (fun k hk=> ?_)
  show(#[Value.int .i64 0]:Array Value)[k%1]! =_
  rw[Nat.mod_one];rfl
 rw[e]at hr
 exact hr
theorem StT.arr (h:StT w w' R) (ha:zAm w G 3 n f) (hG:G≠R):zAm w' G 3 n f:=
 ha.keep (h.old G ha.lt hG (fun cs f e=>by
  have ha':=ha
  unfold zAm Arr at ha'
  rw[ha']at e
  injection e with e
  injection e with _ e _
  exact absurd e (by decide)))
theorem zTe {l:List Nat} (h:zAm w G 3 n f) (hl:l.length<=n) (he:∀i,i<l.length->l[i]? =some (f i)):Kit.Src w (some ⟨G,0,none⟩) (l.map ival):=by
 intro j u hu
 rw[List.getElem?_map]at hu
 rcases Nat.lt_or_ge j l.length with hj|hj
 ·rw[he j hj]at hu
  simp at hu
  subst hu
  exact⟨G,0,rfl,by rw[Nat.zero_add];exact h.cell j (by omega)⟩
 ·rw[List.getElem?_eq_none hj]at hu;cases hu
def zDj (w:World) (G:Nat):Prop:=∃cs f,w.heap[G]? =some (.cells cs 3 f)
theorem qFw (h:zAm w G 3 n f):zDj w G:=⟨_,_,h⟩
theorem zDj.below (h:zDj w G) (hb:Below k w w') (hG:G<k):zDj w' G:=by
 obtain⟨cs,f,e⟩:=h
 exact⟨cs,f,(hb.block G hG).trans e⟩
theorem Qu.other {c i:Nat} {a:Option Addr} {l:List (Nat×Nat)} {cs:Array Value} {t:TypeId} {f:Nat×Nat} (h:Qu w R a c l) (hG:w.heap[G]? =some (.cells cs t f)) (ht:t≠TT) (hR:R≠G) (v:Value):Qu (w.setCell ⟨G,i,none⟩ v) R a c l:=
 ⟨(zAa hR).trans h.blk,World.ownsRow.kept h.own (zB1 w G i v) (.inr (zJt h.own hG ht))⟩
theorem zYk {X:Nat} {x:Nat×Nat} (h:Bx w X x):(loadVar 3 ⟨X,1,none⟩).run Tryz.prog w= .ok (.int .i64 (x.2:Int)) w:=by
 obtain⟨_,x1,_,_⟩:=zAf h
 exact Kit.zAg x1 (by kernel_rfl) (by kernel_rfl)
theorem zWr (h:zAm w G 3 n f) (hk:k<n) (v:Nat):(storeVar 3 ⟨G,k,none⟩ (.int .i64 (v:Int))).run Tryz.prog w= .ok () (w.setCell ⟨G,k,none⟩ (.int .i64 (v:Int)))/\zAm (w.setCell ⟨G,k,none⟩ (.int .i64 (v:Int))) G 3 n (zAy f k v):=
 ⟨Kit.zDs (h.cell k hk) (h.free k) (by kernel_rfl) rfl rfl,h.set k v rfl⟩
theorem zVe (ws:List Nat) (a:Option Addr) (n c:Nat) (w:World) (hn:ws.length=n) (h2:2<=n) (h258:n<=258) (hs:Kit.Src w a (ws.map ival)) (hpos:∀x∈ws,1<=x) (hsum:ws.sum<=20000):
  Calls Tryz.prog 124 #[.slice a n c] w fun e w'=>∃G,e= .returned (.slice (some ⟨G,0,none⟩) n n)/\w.heap.size<=G/\Kit.Src w' (some ⟨G,0,none⟩) ((lens ws).map ival)/\zDj w' G/\Below w.heap.size w w':=by
 obtain⟨B,hB⟩:=zB w.heap.size
 obtain⟨W,hW⟩:=zB (w.alloc (.cells #[.slice none 0 0,QF] TQ))
 have zW:W.heap.size=B+1:=by rw[<-hW,zA,hB]
 have hbW:Below B w W:=by rw[<-hW,<-hB];exact(Below.refl _ _).alloc (Nat.le_refl _) _
 have hq0:Qu W B none 0 []:=⟨by
  rw[<-hW,<-hB]
  show(w.heap.push _)[w.heap.size]? =_
  simp,Kit.Own'.start _ _ _⟩
 have HQ0:=zH hq0
 have HB0:=zH hbW
 have HS:=zH hs
 have HN:=zH hn
 have HPOS:=zH hpos
 have HSUM:=zH hsum
 have ZW:=zH zW
 have HBB:=zH hB
 clear hq0 hbW hs hn hpos hsum zW
 rw[hB]
 go_enter Tryz.func124,Tryz.ntmps124
 go_wp2
 clear hW hB
 go_loopw [15] (fun iv wr=>∃(j c2:Nat) (a2:Option Addr) (m:List (Nat×Nat)),j<=n/\iv= .int .i64 j/\RowKit.Hid (Qu wr B a2 c2 m)/\RowKit.Hid (m.Perm ((zAt 0 (ws.take j) []).map pr))/\RowKit.Hid (Hp lq m.length (at_ m))/\RowKit.Hid (Below B w wr)) (fun iv _=>n-(intOf iv).toNat)
 case atStart=>exact⟨0,0,none,[],by omega,rfl,HQ0,by rw[List.take_zero];exact zH (List.Perm.refl _),zH (fun k h1 h2=>by simp at h2),HB0⟩
 case round=>
  clear HQ0 HB0
  obtain⟨j,c2,a2,m,hj,rfl,hq,hm,hp,hb⟩:=hrel
  have hml:m.length=j:=by
   rw[hm.out.length_eq,List.length_map]
   have:=(Inv.start (ws.take j) 0 0 [] Inv.nil (fun e h=>by cases h) (fun x hx=>HPOS.out x (List.mem_of_mem_take hx))).2
   rw[this,List.length_take,HN.out]
   simp;omega
  have HML:=zH hml
  clear hml
  by_cases hlt:j<n
  ·have hjl:j<ws.length:=by rw[HN.out];exact hlt
   obtain⟨x,hx⟩:=zB (ws[j])
   obtain⟨b,off,rfl,e0⟩:=(HS.out.below (w':=wr) (by rw[HBB.out];exact hb.out)) j (ival x) (by rw[List.getElem?_map,List.getElem?_eq_getElem hjl,hx];rfl)
   have HC:=zH (zQq B a2 c2 m (x,j) wr hq.out (by rw[HML.out];omega) hp.out)
   unfold tv at HC
   have HTK:=zH (show ws.take (j+1)=ws.take j++[x]by rw[List.take_succ_eq_append_getElem hjl,hx])
   have HJL:=zH hjl
   clear hx hjl
   go_wp2_with fail
   (with_reducible refine HC.out.mono ?_)
   rintro e w3 ⟨rfl,a3,c3,m3,hq3,hm3,hp3,ht3⟩
   have HQ3:=zH hq3
   have HP3:=zH hp3
   have HB3:=zH (hb.out.trans ht3.below)
   have HM3:=zH (show m3.Perm ((zAt 0 (ws.take (j+1)) []).map pr)from by
    rw[HTK.out,zL4,List.length_take,Nat.min_eq_left (Nat.le_of_lt HJL.out),Nat.zero_add]
    refine hm3.trans ((hm.out.cons (x,j)).trans ?_)
    exact((zBh ⟨x,j,.leaf j⟩ (zAt 0 (ws.take j) [])).map pr).symm)
   clear hq3 hm3 hp3 ht3 HC
   go_wp2
   go_roundw
   case rel=>exact⟨j+1,c3,a3,m3,by omega,by go_num,HQ3,HM3,HP3,HB3⟩
   case measure=>simp only[intOf];omega
  ·obtain rfl:n=j:=by omega
   have hm0:m.Perm ((qt ws 0).map pr):=by
    have:=hm.out
    rwa[List.take_of_length_le (by rw[HN.out];omega)]at this
   obtain⟨N,hN⟩:=zB (2*n-1)
   have hwr:2*(n:Int)-1=(N:Int):=by omega
   have hmk:=zF2 wr N (by omega)
   obtain⟨G,hG⟩:=zB wr.heap.size
   obtain⟨w2,hw2⟩:=zB (wr.alloc (.cells (cellsOf N (fun _=> .int .i64 0)) 3))
   rw[hG,hw2]at hmk
   have hb2:Below G wr w2:=by rw[<-hw2,<-hG];exact(Below.refl _ _).alloc (Nat.le_refl _) _
   have hBG:B<G:=by rw[<-hG];exact hq.out.lt
   have hA2:zAm w2 G 3 N (fun _=>0):=by rw[<-hw2];exact zAm.zeros G wr N 3 hG
   have Q2:=zH (hq.out.below hb2 hG.symm)
   have A2:=zH hA2
   have B2:=zH (hb.out.trans (hb2.mono (by omega)))
   have L2:=zH (Lp.start HPOS.out (by rw[HN.out];omega) (fun _=>0))
   have M2:=zH hm0
   have NN:=zH hN
   have hN1:2*n<=N+1:=by omega
   have hN2:N+1<=2*n:=by omega
   clear hb2 hA2 hm0 hN hw2 hG hlt hj hq hm hb
   go_wp2
   clear hmk hwr
   go_loopw [7] (fun kv wr=>∃(K c2:Nat) (a2:Option Addr) (m:List (Nat×Nat)) (U:Nat->Nat),n<=K/\K<=N/\kv= .int .i64 K/\RowKit.Hid (Qu wr B a2 c2 m)/\RowKit.Hid (m.Perm ((qt ws (K-n)).map pr))/\RowKit.Hid (Hp lq m.length (at_ m))/\RowKit.Hid (zAm wr G 3 N U)/\RowKit.Hid (Lp ws (K-n) U)/\RowKit.Hid (Below B w wr)) (fun kv _=>N-(intOf kv).toNat)
   case atStart=>exact⟨n,c2,a2,m,fun _=>0,by omega,by omega,rfl,Q2,by rw[Nat.sub_self];exact M2,hp,A2,by rw[Nat.sub_self];exact L2,B2⟩
   case round=>
    clear Q2 A2 B2 L2 M2 hp HML
    obtain⟨K,c2,a2,m,U,hK1,hK2,rfl,hq,hm,hp,ha,hlp,hb⟩:=hrel
    obtain⟨t,ht⟩:=zB (K-n)
    rw[ht]at hm hlp
    by_cases hlt:K<N
    ·obtain⟨qa,qb,qr,hqt,hqt'⟩:=zW2 HPOS.out t (by rw[HN.out];omega)
     obtain⟨hinv,hqlen⟩:=zMa HPOS.out t (by rw[HN.out];omega)
     have hm1:=hm.out
     rw[hqt]at hm1
     have hinv2:=hinv
     rw[hqt]at hinv2
     have hml:m.length=n-t:=by rw[hm.out.length_eq,List.length_map,hqlen,HN.out]
     have hmin:∀y∈m,lq y (at_ m 0)=false:=fun y hy=>by
      obtain⟨k,hk,rfl⟩:=List.getElem_of_mem hy
      have:=hp.out.min zF3 k hk
      unfold at_ at this
      rw[List.getD_eq_getElem?_getD,List.getElem?_eq_getElem hk]at this
      exact this
     have hmem:at_ m 0∈m:=by
      unfold at_
      rw[List.getD_eq_getElem?_getD,List.getElem?_eq_getElem (by omega)]
      exact List.getElem_mem _
     have h0:at_ m 0=pr qa:=zO0 hm1 rfl hinv2.sorted hmem hmin
     have HC:=zH (zTk B a2 c2 m wr hq.out (by omega) (by omega) hp.out)
     rw[h0]at HC
     unfold tv pr at HC
     have HM1:=zH hm1
     have HI2:=zH hinv2
     have HQT:=zH hqt
     have HQT':=zH hqt'
     have HT:=zH ht
     have HML:=zH hml
     have htn:t+1<n:=by omega
     clear hm1 hinv hinv2 hqt hqt' hqlen hmin hmem h0 hml ht
     go_wp2_with fail
     (with_reducible refine HC.out.mono ?_)
     rintro e w3 ⟨rfl,a3,c3,m3,hq3,hm3,hp3,ht3⟩
     have hm4:m3.Perm ((qb::qr).map pr):=(hm3.symm.trans HM1.out).cons_inv
     have hsort:=(List.pairwise_cons.1 HI2.out.sorted).2
     have hml3:m3.length+1=n-t:=by have:=hm3.length_eq;rw[HML.out,List.length_cons]at this;omega
     have hmin:∀y∈m3,lq y (at_ m3 0)=false:=fun y hy=>by
      obtain⟨k,hk,rfl⟩:=List.getElem_of_mem hy
      have:=hp3.min zF3 k hk
      unfold at_ at this
      rw[List.getD_eq_getElem?_getD,List.getElem?_eq_getElem hk]at this
      exact this
     have hmem:at_ m3 0∈m3:=by
      unfold at_
      rw[List.getD_eq_getElem?_getD,List.getElem?_eq_getElem (by omega)]
      exact List.getElem_mem _
     have h0:at_ m3 0=pr qb:=zO0 hm4 rfl hsort hmem hmin
     have HC2:=zH (zTk B a3 c3 m3 w3 hq3 (by omega) (by omega) hp3)
     rw[h0]at HC2
     unfold tv pr at HC2
     have HT3:=zH ht3
     have HM4:=zH hm4
     have HML3:=zH hml3
     clear hq3 hm3 hp3 ht3 hm4 hsort hml3 hmin hmem h0 HC
     go_wp2_with fail
     (with_reducible refine HC2.out.mono ?_)
     rintro e w4 ⟨rfl,a4,c4,m4,hq4,hm5,hp4,ht4⟩
     have HQ4:=zH hq4
     have HM5:=zH (show m4.Perm (qr.map pr)from(hm5.symm.trans HM4.out).cons_inv)
     have HP4:=zH hp4
     have HT4:=zH (HT3.out.trans ht4)
     have HML4:=zH (show m4.length+2=n-t by have:=hm5.length_eq;have:=HML3.out;simp at*;omega)
     have hqN:qa.x<N/\qb.x<N:=by
      have h1:=HI2.out.below qa (by simp)
      have h2:=HI2.out.below qb (by simp)
      have h3:=HT.out
      rw[HN.out]at h1 h2
      omega
     have hqs:qa.w+qb.w<=20000:=by
      have h1:=HI2.out.sum
      rw[List.map_cons,List.map_cons,List.sum_cons,List.sum_cons]at h1
      have:=HSUM.out
      omega
     have ha4:=HT4.out.arr ha.out (by omega)
     obtain⟨X,hX⟩:=zB w4.heap.size
     have hBX:B<X:=by rw[<-hX];exact hq4.lt
     have hGX:G<X:=by rw[<-hX];exact ha4.lt
     obtain⟨w5,hw5⟩:=zB (w4.alloc (.cells #[.int .i64 (qa.w:Int),.int .i64 (qa.x:Int)] TT))
     obtain⟨w6,hw6⟩:=zB (w5.alloc (.cells #[.int .i64 (qb.w:Int),.int .i64 (qb.x:Int)] TT))
     have z5:w5.heap.size=X+1:=by rw[<-hw5,zA,hX]
     have b5:Below X w4 w5:=by rw[<-hw5,<-hX];exact(Below.refl _ _).alloc (Nat.le_refl _) _
     have b6:Below (X+1) w5 w6:=by rw[<-hw6,<-z5];exact(Below.refl _ _).alloc (Nat.le_refl _) _
     have ba:Bx w6 X (qa.w,qa.x):=by
      refine(b6.block X (by omega)).trans ?_
      rw[<-hw5,<-hX]
      show(w4.heap.push _)[w4.heap.size]? =_
      simp
     have bb:Bx w6 (X+1) (qb.w,qb.x):=by
      show w6.heap[X+1]? =_
      rw[<-hw6,<-z5]
      show(w5.heap.push _)[w5.heap.size]? =_
      simp
     have hq6:=(hq4.below b5 hX.symm).below b6 z5.symm
     have ha6:zAm w6 G 3 N U:=(ha4.keep (b5.block G hGX)).keep (b6.block G (by omega))
     have ba6:Bx w6.drew X (qa.w,qa.x):=ba
     have bb6:Bx w6.drew (X+1) (qb.w,qb.x):=bb
     have ha6d:zAm w6.drew G 3 N U:=ha6
     obtain⟨s7,ha7⟩:=zWr ha6d hqN.1 K
     obtain⟨w7,hw7⟩:=zB (w6.drew.setCell ⟨G,qa.x,none⟩ (.int .i64 (K:Int)))
     have hq7:=hq6.drew.other (G:=G) (i:=qa.x) ha6d (by decide) (by omega) (.int .i64 (K:Int))
     rw[hw7]at s7 ha7 hq7
     have bb7:Bx w7 (X+1) (qb.w,qb.x):=by rw[<-hw7];exact(zAa (by omega)).trans bb6
     have ba7:Bx w7 X (qa.w,qa.x):=by rw[<-hw7];exact(zAa (by omega)).trans ba6
     obtain⟨s8,ha8⟩:=zWr ha7 hqN.2 K
     obtain⟨w8,hw8⟩:=zB (w7.setCell ⟨G,qb.x,none⟩ (.int .i64 (K:Int)))
     have hq8:=hq7.other (G:=G) (i:=qb.x) ha7 (by decide) (by omega) (.int .i64 (K:Int))
     rw[hw8]at s8 ha8 hq8
     have bb8:Bx w8 (X+1) (qb.w,qb.x):=by rw[<-hw8];exact(zAa (by omega)).trans bb7
     have ba8:Bx w8 X (qa.w,qa.x):=by rw[<-hw8];exact(zAa (by omega)).trans ba7
     have hb8:Below B w w8:=by
      rw[<-hw8,<-hw7]
      exact((((hb.out.trans HT4.out.below).trans (b5.mono (by omega))).trans (b6.mono (by omega))).drew.setCell (p:=⟨G,qa.x,none⟩) (by show B<=G;omega) _).setCell (p:=⟨G,qb.x,none⟩) (by show B<=G;omega) _
     have BA:=zH ba6
     have BB:=zH bb6
     have BB7:=zH bb7
     have S7:=zH s7
     have S8:=zH s8
     have Q8:=zH hq8
     have A8:=zH ha8
     have B8:=zH hb8
     have HC3:=zH (zQq B a4 c4 m4 (qa.w+qb.w,K) w8 hq8 (by have:=HML4.out;omega) hp4)
     unfold tv at HC3
     simp only[Int.natCast_add]at HC3
     obtain⟨v0,_,_,_⟩:=zAf ba8
     obtain⟨v1,_,_,_⟩:=zAf bb8
     clear ha4 b5 b6 ba bb hq6 ha6 ba6 bb6 ha6d s7 ha7 hw7 hq7 bb7 ba7 s8 ha8 hw8 hq8 bb8 ba8 hb8 z5
     clear hq4 hm5 hp4 ht4 HC2
     have HW5:=zH hw5
     have HW6:=zH hw6
     clear hw5 hw6
     go_wp2
     rw[HW5.out,HW6.out]
     clear hX
     refine zS [11] (fun W9=>Bx W9 (X+1) (qb.w,qb.x)) [0,0,2,0,0,16,0,0,71,327,1023,2047] 12<|zu 3 43 (.slice (some ⟨G,0,none⟩) N N)<|zu 4 44 (.pointer (some ⟨X+1,1,none⟩))<|zu 7 47 (zI K)<|zy 5 45 (.int .i64 (qb.x:Int)) (fun w hS=>zl 3 44 (zYk hS)) BB.out<|zp [0,1,2,6,8]<|zk 40 (.slice (some ⟨G,0,none⟩) N N)<|zk 41 (zP X 1)<|zt 42 (.int .i64 (qa.x:Int)) (zl 3 41 (zYk BA.out))<|zk 46 (zI K)<|zt 48 (.pointer (some ⟨G,qa.x,none⟩)) (Kit.zBo (t:=23) (x:=(.tmp 40)) (y:=(.tmp 42)) (g:=G) (n:=N) (c:=N) (k:=qa.x) rfl (by kernel_rfl) (by kernel_rfl) (by omega) Tryz.underlying23 (fun _=>Tryz.sizeOf3 _) _)<|zn<|zw 9 none (zr 3 48 46 (S7.out)) (.inr (.inr (BB7.out)))<|zp [10]<|zt 49 (.pointer (some ⟨G,qb.x,none⟩)) (Kit.zBo (t:=23) (x:=(.tmp 43)) (y:=(.tmp 45)) (g:=G) (n:=N) (c:=N) (k:=qb.x) rfl (by kernel_rfl) (by kernel_rfl) (by omega) Tryz.underlying23 (fun _=>Tryz.sizeOf3 _) _)<|zn<|zw 11 none (zr 3 49 47 (S8.out)) (.inr (.inl (by kernel_rfl)))<|zE<| ?_
     simp only[zP,zI,Act.put,List.setIfInBounds_toArray,List.set_cons_zero,List.set_cons_succ]
     clear S7 S8 BA BB BB7
     go_wp2_with fail
     (with_reducible refine HC3.out.mono ?_)
     rintro e w9 ⟨rfl,a9,c9,m9,hq9,hm9,hp9,ht9⟩
     have Q9:=zH hq9
     have P9:=zH hp9
     have A9:=zH (ht9.arr A8.out (by omega))
     have B9:=zH (B8.out.trans ht9.below)
     have M9:=zH (show m9.Perm ((qt ws (K+1-n)).map pr)from by
      rw[show K+1-n=t+1 by have:=HT.out;omega,HQT'.out]
      refine hm9.trans ((HM5.out.cons _).trans ?_)
      have h1:=((zBh ⟨qa.w+qb.w,ws.length+t,.node qa.t qb.t⟩ qr).map pr).symm
      rw[List.map_cons]at h1
      have h2:pr ⟨qa.w+qb.w,ws.length+t,.node qa.t qb.t⟩=(qa.w+qb.w,K):=by
       unfold pr
       simp only[HN.out]
       rw[show n+t=K by have:=HT.out;omega]
      rw[h2]at h1
      exact h1)
     have L9:=zH (show Lp ws (K+1-n) (zAy (zAy U qa.x K) qb.x K)from by
      have h1:=hlp.out.step HPOS.out (by rw[HN.out];exact htn) HQT.out HQT'.out
      rw[HN.out,show n+t=K by have:=HT.out;omega]at h1
      rw[show K+1-n=t+1 by have:=HT.out;omega]
      exact h1)
     clear hq9 hp9 ht9 hm9 v0 v1
     go_wp2
     go_roundw
     case rel=>exact⟨K+1,c9,a9,m9,zAy (zAy U qa.x K) qb.x K,by omega,by omega,by go_num,Q9,M9,P9,A9,L9,B9⟩
     case measure=>simp only[intOf];omega
    ·obtain rfl:N=K:=by omega
     have ht1:t=ws.length-1:=by rw[HN.out];have:=NN.out;omega
     obtain⟨hU,hend⟩:=(show Lp ws (ws.length-1) U from ht1▸hlp.out).last HPOS.out (by rw[HN.out];exact h2)
     rw[HN.out]at hU hend
     obtain⟨M,hM⟩:=zB (2*n-2)
     rw[hM]at hU hend
     have hMN:M+1=N:=by omega
     rw[show 2*n-1=N from NN.out]at hU
     have hmk:=zF2 wr N (by omega)
     obtain⟨G2,hG2⟩:=zB wr.heap.size
     obtain⟨w2,hw2⟩:=zB (wr.alloc (.cells (cellsOf N (fun _=> .int .i64 0)) 3))
     rw[hG2,hw2]at hmk
     have hb2:Below G2 wr w2:=by rw[<-hw2,<-hG2];exact(Below.refl _ _).alloc (Nat.le_refl _) _
     have hGG:G<G2:=by rw[<-hG2];exact ha.out.lt
     have hA2:zAm w2 G2 3 N (fun _=>0):=by rw[<-hw2];exact zAm.zeros G2 wr N 3 hG2
     have A2:=zH hA2
     have U2:=zH (ha.out.keep (hb2.block G hGG))
     have B2:=zH (hb.out.trans (hb2.mono (by omega)))
     have HU:=zH hU
     have HEND:=zH hend
     have hwr2:(N:Int)-2=(M:Int)-1:=by omega
     clear hb2 hA2 hw2 hG2 hlt hq hm hp hlp hb ha hU hend ht1 ht hM
     go_wp2
     clear hmk hwr2
     go_loopw [11] (fun xv wr=>∃(x:Int) (D:Nat->Nat),-1<=x/\x<=(M:Int)-1/\xv= .int .i64 x/\RowKit.Hid (zAm wr G2 3 N D)/\RowKit.Hid (D M=0)/\RowKit.Hid (∀y:Nat,x<(y:Int)->y<M->D y=D (U y)+1)/\RowKit.Hid (∀y:Nat,x<(y:Int)->y<=M->D y+y<=M)/\RowKit.Hid (zAm wr G 3 N U)/\RowKit.Hid (Below B w wr)) (fun xv _=>(intOf xv+1).toNat)
     case atStart=>exact⟨(M:Int)-1,fun _=>0,by omega,by omega,rfl,A2,zH rfl,zH (fun y h1 h2=>by omega),zH (fun y h1 h2=>by show 0+y<=M;omega),U2,B2⟩
     case round=>
      clear A2 U2 B2
      obtain⟨x,D,hx1,hx2,rfl,ha,hD0,hD,hDb,hu,hb⟩:=hrel
      by_cases hx:0<=x
      ·obtain⟨i,rfl⟩:=Int.eq_ofNat_of_zero_le hx
       have hiM:i<M:=by omega
       obtain⟨hu1,hu2⟩:=HU.out i hiM
       obtain⟨u,hue⟩:=zB (U i)
       rw[hue]at hu1 hu2
       have x0:=hu.out.cell i (by omega)
       rw[hue]at x0
       have x1:=ha.out.cell u hu2
       have x2:=ha.out.cell i (by omega)
       have x3:=ha.out.free i
       have hdu:=hDb.out u (by omega) (by omega)
       obtain⟨d,hde⟩:=zB (D u)
       obtain⟨v0,hv0⟩:∃v0:Value,Value.int .i64 ((D i:Nat):Int)=v0:=⟨_,rfl⟩
       rw[hv0]at x2
       rw[hde]at x1 hdu
       have hd:d<=1000:=by omega
       have HA:=zH (ha.out.set i (d+1) (V:=(d:Int)+1) (by omega))
       have H0:=zH (show zAy D i (d+1) M=0 by rw[zBb _ _ _ _ (by omega)];exact hD0.out)
       have H1:=zH (show ∀y:Nat,(i:Int)-1<(y:Int)->y<M->zAy D i (d+1) y=zAy D i (d+1) (U y)+1 from fun y h1 h2=>by
        by_cases e:y=i
        ·subst e;rw[zCj,hue,zBb _ _ _ _ (by omega),hde]
        ·have h3:=(HU.out y h2).1
         rw[zBb _ _ _ _ e,zBb _ _ _ _ (by omega)]
         exact hD.out y (by omega) h2)
       have H2:=zH (show ∀y:Nat,(i:Int)-1<(y:Int)->y<=M->zAy D i (d+1) y+y<=M from fun y h1 h2=>by
        by_cases e:y=i
        ·subst e;rw[zCj];omega
        ·rw[zBb _ _ _ _ e];exact hDb.out y (by omega) h2)
       have H3:=zH (show zAm (wr.setCell ⟨G2,i,none⟩ (.int .i64 ((d:Int)+1))) G 3 N U from hu.out.keep (zAa (by omega)))
       have H4:=zH (hb.out.setCell (p:=⟨G2,i,none⟩) (by show B<=G2;omega) (.int .i64 ((d:Int)+1)))
       have hiN:i<N:=by omega
       clear hue hde hv0
       go_wp2
       go_roundw
       case rel=>exact⟨(i:Int)-1,zAy D i (d+1),by omega,by omega,rfl,HA,H0,H1,H2,H3,H4⟩
       case measure=>simp only[intOf];omega
      ·obtain rfl:x= -1:=by omega
       have hres:=HEND.out D hD0.out (fun y hy=>hD.out y (by omega) hy)
       have HR:=zH (zTe (l:=lens ws) ha.out (by rw[zC0,HN.out];omega) (fun i hi=>hres i (by rw[zC0,HN.out]at hi;exact hi)))
       have hnN:n<=N:=by omega
       have hn0:¬n=0:=by omega
       clear hres
       go_wp2
       go_ret
       exact⟨G2,rfl,by omega,HR.out,qFw ha.out,hb.out⟩
end Wg
namespace Us
open Go.RowKit Front Bt Zr Tn
def has (l:List Nat) (j:Nat):Value:= .bool (decide (j∈l))
abbrev TS:TypeId:=147
theorem zT0 (l:List Nat) (n:Nat):(cellsOf n (has l)).all (·.oneCell')=true:=by
 rw[Array.all_eq_true_iff_forall_mem]
 intro v hv
 simp only[cellsOf,Array.mem_map]at hv
 obtain⟨j,_,rfl⟩:=hv
 rfl
theorem zXe (s:ByteArray) (hs:s.size<=1000000) (w:World):
  Calls Tryz.prog 76 #[.string s] w fun e w'=>e= .returned (.agg (cellsOf 256 (has (bl s))))/\Below w.heap.size w w':=by
 obtain⟨B,hB⟩:=zB w.heap.size
 have hz:Tryz.zeroCells147=cellsOf 256 (has []):=by kernel_rfl
 have hA0:Arr (w.alloc (.cells Tryz.zeroCells147 TS)) B TS 256 (has []):=by
  show _=_
  rw[hz,<-hB]
  show(w.heap.push _)[w.heap.size]? =_
  simp
 obtain⟨W,hW⟩:=zB (w.alloc (.cells Tryz.zeroCells147 TS))
 have hb0:Below B w W:=by rw[<-hW,<-hB];exact(Below.refl _ _).alloc (Nat.le_refl _) _
 rw[hW]at hA0
 have HA0:=zH hA0
 have HB0:=zH hb0
 obtain⟨l,hl⟩:=zB (bl s)
 have hlen:l.length=s.size:=by rw[<-hl,zB2]
 have hget:∀(i:Nat) (h:i<s.size),l[i]? =some s[i].toNat:=fun i h=>by
  have:=zRx s i h
  rw[hl,List.getD_eq_getElem?_getD,List.getElem?_eq_getElem (by omega),Option.getD_some]at this
  rw[List.getElem?_eq_getElem (by omega),this]
 rw[hl]
 have HLEN:=zH hlen
 have HGET:=zH hget
 rw[hB]
 clear hz hl hlen hget hA0 hb0
 go_enter Tryz.func76,Tryz.ntmps76
 go_wp2
 clear hW
 go_loopw [6] (fun i wr=>∃k:Nat,k<=s.size/\i= .int .i64 k/\RowKit.Hid (Arr wr B TS 256 (has (l.take k)))/\RowKit.Hid (Below B w wr)) (fun i _=>s.size-(intOf i).toNat)
 case atStart=>exact⟨0,by omega,rfl,HA0,HB0⟩
 case round=>
  clear HA0 HB0
  obtain⟨k,hk,rfl,har,hb⟩:=hrel
  by_cases hlt:k<s.size
  ·obtain⟨c,hc⟩:=zB (s[k].toNat)
   have hc2:c<256:=by rw[<-hc];exact UInt8.toNat_lt _
   have x0:=har.out.cell c (by omega)
   have f0:=har.out.free c
   unfold has at x0
   have hkl:k<l.length:=by rw[HLEN.out];exact hlt
   have hlk:l[k]=c:=by
    have:=HGET.out k hlt
    rw[List.getElem?_eq_getElem hkl,hc]at this
    exact Option.some.inj this
   have HNX:=zH ((har.out.set c (.bool true)).congr (h:=has (l.take (k+1))) (fun j _=>by
    unfold upd has
    rw[List.take_succ_eq_append_getElem hkl,hlk]
    by_cases e:j=c
    ·subst e;simp
    ·simp[e]))
   obtain⟨q,hq⟩:=zB (decide (c∈l.take k))
   rw[hq]at x0
   clear hq hlk
   go_wp2
   go_roundw
   case rel=>exact⟨k+1,by omega,by go_num,HNX,zH (hb.out.setCell (p:=⟨B,c,none⟩) (Nat.le_refl _) _)⟩
   case measure=>simp[intOf];omega
  ·obtain rfl:k=s.size:=by omega
   have har2:Arr wr B TS 256 (has l):=by
    have:=har.out
    rwa[List.take_of_length_le (by rw[HLEN.out];omega)]at this
   have hinf:(Tryz.prog.info? TS).map (·.size)=some 256:=by kernel_rfl
   have hsz:(cellsOf 256 (has l)).size=256:=cellsOf_size _ _
   have hld:=run_loadVar_row (P:=Tryz.prog) wr B TS TS _ (0,0) (.array 256 4) har2 Tryz.underlying147 rfl (by rw[hsz];exact hinf)
   have hst:=zE2 (P:=Tryz.prog) wr B TS _ (cellsOf 256 (has l)) har2 rfl (zT0 l 256)
   rw[setRow_self wr B _ TS (0,0) har2]at hst
   go_wp2
   rename_i hK
   refine zGu rfl rfl hld (hK _ _ ?_)
   go_wp2
   try simp only[Exit.inBlock,Exit.then]
   exact bodyPost_ret (results_cell_row rfl _ _ B TS _ (0,0) (.array 256 4) rfl har2 Tryz.underlying147 rfl (by rw[hsz];exact hinf)) rfl ⟨rfl,hb.out⟩
end Us
end Go.Proofs.YtppnakkaljbmbaaGreatDoor
