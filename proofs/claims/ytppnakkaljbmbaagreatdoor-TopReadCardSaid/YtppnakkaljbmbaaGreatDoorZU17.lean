/- Steps of a proof; no condition beyond what each states. -/
import Derived.Test.YtppnakkaljbmbaaGreatDoorZU16
set_option linter.unusedVariables false
set_option linter.unusedSimpArgs false
set_option maxRecDepth 100000
set_option maxHeartbeats 8000000
namespace Go.Proofs.YtppnakkaljbmbaaGreatDoor
namespace Rg
open Go.RowKit Go.Shelf
attribute [local go_sem] Oper.semAt_some
theorem zM {P:Program} {α:Type} {g:Operand} {ps:Array Tmp} {assign body:Code} {Q:Exit->Act->World->Prop} {a:Act} {w:World} {gf:Nat} {lb:Array Value}
  (hg:a.eval g= .func (.func gf) #[] lb) (eg:∀args w,(callFunc gf args).run P w= .ok (.enter gf args) w) (E:α->World->Array Value->Prop) (R:World->World->Prop) (C:Nat->Prop) (S:List α) (hR:∀A B,R A B->KeepsOthers A B)
  (hsz:∀x W vs,E x W vs->vs.size=ps.size) (hE:∀x W l o o' vs,W.heap[l]? =some o->o.isCells=false->E x W vs->E x (W.putObj l o') vs)
  (hseq:∀W,Below w.heap.size w W->zR7 P gf lb E R C S W)
  (I:List α->World->Prop) (Ix:Code->List α->World->Prop)
  (hI:∀pre W l o o',w.heap.size<=l->W.heap[l]? =some o->o.isCells=false->I pre W->I pre (W.putObj l o'))
  (hIx:∀c pre W l o o',w.heap.size<=l->W.heap[l]? =some o->o.isCells=false->Ix c pre W->Ix c pre (W.putObj l o'))
  (hIS:∀pre A B,I pre A->R A B->I pre B) (h0:∀o o',I [] ((w.alloc o).alloc o')) (Jn:List α->α->Array Value->Act->World->Prop)
  (hJn:∀pre x vs ac W l o o',w.heap.size<=l->W.heap[l]? =some o->o.isCells=false->Jn pre x vs ac W->Jn pre x vs ac (W.putObj l o'))
  (hassign:∀(l:Nat) (pre:List α) (x:α) (W:World) (vs:Array Value) (K:Act->World->Prop),w.heap.size<W.heap.size->I pre W->E x W vs->(∀ac Wc,KeepsOthers W Wc->Sb C W Wc->Jn pre x vs ac Wc->K ac Wc)->
   assign.wpIn (Fence.wide.inRound l) 1 P (Exit.then K (fun _ _ _=>False)) {tmps:=(ps.zip vs).foldl (fun t (p,v)=>t.setIfInBounds p v) a.tmps,defers:=[]} W)
  (hbody:∀(l:Nat) (pre:List α) (x:α) (W:World) (vs:Array Value) (ac:Act),w.heap.size<W.heap.size->Jn pre x vs ac W->pre++[x]<+:S->body.wpIn (Fence.wide.inRound l) 1 P (zJ6 C I Ix (pre++[x]) W) ac W)
  (hdone:∀(D:Nat) (W:World),w.heap.size<=D->I S W->W.heap[D]? =some (.deferred (some []))->Q .normal {a with defers:={target:= .collected D,args:= #[]}::a.defers} W)
  (hstop:∀(D:Nat) (c:Code) (pre:List α) (W:World),w.heap.size<=D->pre<+:S->Ix c pre W->W.heap[D]? =some (.deferred (some []))->c.wpIn Fence.wide 3 P Q {a with defers:={target:= .collected D,args:= #[]}::a.defers} W):
  (Code.rangeFunc g ps assign body).wpIn Fence.wide 3 P Q a w:=by
 refine wpIn_rangeFunc ?_
 intro fn hfn
 obtain⟨rec,hrec⟩:∃rec:LoopState->Option Code->Loop,rec=fun st pe=>{state:=st,pending:=pe,fn,tmps:=a.tmps,params:=ps,assign,body,defers:=w.heap.size}:=⟨_,rfl⟩
 obtain⟨W1,hW1⟩:=zB ((w.alloc (.deferred (some []))).alloc (.loop (rec .ready none)))
 have hL1:W1.heap[w.heap.size+1]? =some (.loop (rec .ready none)):=by
  rw[<-hW1]
  have:=World.alloc_heap_new (w.alloc (.deferred (some []))) (.loop (rec .ready none))
  rwa[World.size_alloc]at this
 have hK1:W1.heap[w.heap.size]? =some (.deferred (some [])):=by
  rw[<-hW1]
  exact(Below.heap_alloc _ _ _ (by simp)).trans (World.alloc_heap_new w _)
 have hB1:Below w.heap.size w W1:=by rw[<-hW1];exact((Below.refl _ w).alloc (Nat.le_refl _) _).alloc (by simp) _
 refine⟨w.heap.size+1,[{target:= .collected w.heap.size,args:= #[]}],W1,{target:= .fn (.func gf) lb,args:= #[.func (.yield (w.heap.size+1)) #[] #[]]},W1,gf,
  #[.func (.yield (w.heap.size+1)) #[] #[]]++lb,W1,?_,?_,?_,?_,fun _=>by omega,?_⟩
 ·rw[<-hW1,hrec];exact run_enterLoop_outer _ _ _ _ _
 ·simp only[resolve,hg]
  simp[go_sem]
 ·intro f' hf';trivial
 ·simp[invoke,go_sem,eg]
 ·refine(hseq W1 hB1 (w.heap.size+1)
   (fun pre W=>I pre W/\W.heap[w.heap.size+1]? =some (.loop (rec .ready none))/\W.heap[w.heap.size]? =some (.deferred (some [])))
   (fun pre W=>∃c,Ix c pre W/\W.heap[w.heap.size+1]? =some (.loop (rec .done (some c)))/\W.heap[w.heap.size]? =some (.deferred (some [])))
   (fun pre A B hs h=>⟨hIS pre A B hs.1 h,(hR _ _ h).same _ _ hs.2.1 rfl,(hR _ _ h).same _ _ hs.2.2 rfl⟩)
   ?_ ⟨by rw[<-hW1];exact h0 _ _,hL1,hK1⟩).mono ?_
  ·rintro pre x W vs ⟨hi,hl,hk⟩ hex hpre
   have hlt:w.heap.size+1<W.heap.size:=(Array.getElem?_eq_some_iff.1 hl).1
   have hy:=run_yield (P:=P) (args:=vs) hl (by rw[hrec];exact hsz _ _ _ hex)
   rw[hrec]at hy
   refine⟨fn,_,assign,body,hy,roundIn_of_wpIn hfn (hassign _ pre x W vs _ (by omega) hi hex (fun ac Wc hkc hsc hjn=>⟨_,run_beginRound (hkc.same _ _ hl rfl) (by rw[hrec]),?_⟩))⟩
   have hl0:=hl
   have hk0:=hk
   have hl:=hkc.same _ _ hl0 rfl
   have hk:=hkc.same _ _ hk0 rfl
   have hlt:w.heap.size+1<Wc.heap.size:=(Array.getElem?_eq_some_iff.1 hl).1
   obtain⟨W2,hW2⟩:=zB (Wc.putObj (w.heap.size+1) (.loop {rec .ready none with state:= .busy}))
   have hl2:W2.heap[w.heap.size+1]? =some (.loop {rec .ready none with state:= .busy}):=by rw[<-hW2];exact World.putObj_heap_same hlt
   have hk2:W2.heap[w.heap.size]? =some (.deferred (some [])):=by rw[<-hW2];exact(World.putObj_heap_other (by omega)).trans hk
   have hs2:w.heap.size<W2.heap.size:=by have:=(Array.getElem?_eq_some_iff.1 hl2).1;omega
   have hi2:Jn pre x vs ac W2:=by rw[<-hW2];exact hJn _ _ _ _ _ _ _ _ (by omega) hl rfl hjn
   have hgoal:body.wpIn (Fence.wide.inRound (w.heap.size+1)) 1 P _ ac W2:=hbody (w.heap.size+1) pre x W2 vs ac hs2 hi2 hpre
   rw[hW2]
   refine wpIn_mono hgoal ?_
   have fin:∀(jump:Option Code) (W3:World),KeepsOthers W2 W3->
     (Instr.endRound (w.heap.size+1) jump).run P W3= .ok (.bool jump.isNone) (W3.putObj (w.heap.size+1) (.loop (rec (if jump.isNone then .ready else .done) jump)))/\
     W3.heap[w.heap.size+1]? =some (.loop {rec .ready none with state:= .busy})/\
     (W3.putObj (w.heap.size+1) (.loop (rec (if jump.isNone then .ready else .done) jump))).heap[w.heap.size+1]? =some (.loop (rec (if jump.isNone then .ready else .done) jump))/\
     (W3.putObj (w.heap.size+1) (.loop (rec (if jump.isNone then .ready else .done) jump))).heap[w.heap.size]? =some (.deferred (some [])):=fun jump W3 hk3=>by
    have hl3:=hk3.same _ _ hl2 rfl
    have:=run_endRound (P:=P) jump hl3
    rw[hrec]at this⊢
    exact⟨this,by rw[hrec]at hl3;exact hl3,World.putObj_heap_same (Array.getElem?_eq_some_iff.1 hl3).1,(World.putObj_heap_other (by omega)).trans (hk3.same _ _ hk2 rfl)⟩
   rintro e a3 W3 hp
   cases e with
   |normal=>
    obtain⟨hk3,hkp3,hi3⟩:=hp
    obtain⟨hr,hl3,hl4,hk4⟩:=fin none W3 hk3
    exact⟨_,_,hr,.inl ⟨rfl,⟨hI _ _ _ _ _ (by omega) hl3 rfl hi3,hl4,hk4⟩,hsc.trans (Sb.right hl3 rfl (Sb.left hl rfl (by rw[hW2];exact hkp3)))⟩⟩
   |ret=>
    obtain⟨hk3,hi3⟩:=hp
    obtain⟨hr,hl3,hl4,hk4⟩:=fin (some .ret) W3 hk3
    exact⟨_,_,hr,.inr ⟨rfl,.ret,hIx _ _ _ _ _ _ (by omega) hl3 rfl hi3,hl4,hk4⟩⟩
   |exit id=>exact hp.elim
   |goto t=>exact hp.elim
   |panic ch=>exact hp.elim
   |outgrown=>exact hp.elim
  ·rintro e W2 ⟨⟨v,rfl⟩,(⟨hi,hl,hk⟩|⟨pre,hSp,c,hi,hl,hk⟩)⟩
   ·exact⟨none,_,by have:=run_endLoop (P:=P) hl (by rw[hrec];simp);rw[hrec]at this;exact this,hdone _ _ (Nat.le_refl _) (hI _ _ _ _ _ (by omega) hl rfl hi) ((World.putObj_heap_other (by omega)).trans hk)⟩
   ·exact⟨some c,_,by have:=run_endLoop (P:=P) hl (by rw[hrec];simp);rw[hrec]at this;exact this,hstop _ c pre _ (Nat.le_refl _) hSp (hIx _ _ _ _ _ _ (by omega) hl rfl hi) ((World.putObj_heap_other (by omega)).trans hk)⟩
end Rg
namespace Us
open Go.RowKit Front Bt Zr Tn
theorem qCm (m:List Bool) (k r:Nat) (h:k+1+r=m.length):val m/2^r%2=(m[k]'(by omega)).toNat:=by
 have e:m=m.take k++(m[k]'(by omega)::m.drop (k+1)):=by
  rw[<-List.drop_eq_getElem_cons (by omega),List.take_append_drop]
 have hl:(m.drop (k+1)).length=r:=by rw[List.length_drop];omega
 have hv:=zEy (m.drop (k+1))
 rw[hl]at hv
 have h1:val m=(val (m.take k)*2+(m[k]'(by omega)).toNat)*2^r+val (m.drop (k+1)):=by
  conv=>lhs;rw[e]
  rw[val_append,zKx,List.length_cons,hl,Nat.pow_succ,Nat.add_mul,Nat.mul_assoc,Nat.mul_comm 2 (2^r)]
  omega
 rw[h1,Nat.mul_comm,Nat.add_comm,Nat.add_mul_div_left _ _ (Nat.two_pow_pos r),Nat.div_eq_of_lt hv,Nat.zero_add,Nat.mul_comm,Nat.add_comm,Nat.add_mul_mod_self_left]
 cases m[k]'(by omega)<;>rfl
theorem zTs (v k:Nat) (hk:k<16):∀m:List Bool,v=val m->m.length=16->v/2^(15-k)%2=(m.getD k false).toNat:=by
 intro m hv hm
 subst hv
 rw[qCm m k (15-k) (by omega),List.getD_eq_getElem?_getD,List.getElem?_eq_getElem (by omega)]
 rfl
theorem zOc (l:List Nat) (k:Nat) (hk:k<16):val (zBr l 16)/2^(15-k)%2=(decide (zCc l k≠0)).toNat:=by
 rw[zTs _ k hk (zBr l 16) rfl (zOb l 16)]
 simp[zBr,List.getD_eq_getElem?_getD,hk]
theorem zQf (l:List Nat) (k i:Nat) (hi:i<16):zCc l k/2^(15-i)%2=(decide (k*16+i∈l)).toNat:=by
 rw[zTs (zCc l k) i hi (zCo l k 16) rfl (zQh l k 16)]
 simp[zCo,List.getD_eq_getElem?_getD,hi]
theorem zOg (l:List Nat) (k:Nat) (h:zCc l k=0) (i:Nat) (hi:i<16):k*16+i∉l:=by
 have:=zQf l k i hi
 rw[h,Nat.zero_div]at this
 intro hm
 rw[decide_eq_true hm]at this
 simp at this
theorem zMy (l:List Nat) (k:Nat) (h:zCc l k=0):∀i,i<=16->alpha l (k*16+i)=alpha l (k*16)
 |0,_=>rfl
 |i+1,hi=>by rw[<-Nat.add_assoc,zEd,if_neg (zOg l k h i (by omega)),List.append_nil,zMy l k h i (by omega)]
theorem zOf (l:List Nat):∀n k,k+n=16->zB3 l k<+:zB3 l 16
 |0,k,h=>by
  have hk:k=16:=by omega
  subst hk
  exact List.prefix_refl _
 |n+1,k,h=>(by rw[zFc];exact List.prefix_append _ _:zB3 l k<+:zB3 l (k+1)).trans (zOf l n (k+1) (by omega))
theorem zZd (l:List Nat) (c:Nat) (hc:c<256) (hm:c∈l):0<val (zBr l 16):=by
 have hk:c/16<16:=by omega
 have h1:zCc l (c/16)≠0:=fun h=>zOg l (c/16) h (c%16) (by omega) (by rw[show c/16*16+c%16=c by omega];exact hm)
 have h2:=zOc l (c/16) hk
 rw[decide_eq_true h1]at h2
 rcases Nat.eq_zero_or_pos (val (zBr l 16))with h|h
 ·rw[h,Nat.zero_div]at h2;simp at h2
 ·exact h
theorem and_one (v k:Nat) (hv:v<65536):bits .and .u64 ((v:Int)/2^k) 1=((v/2^k%2:Nat):Int):=by
 have h1:v/2^k<=v:=Nat.div_le_self _ _
 have e:(v:Int)/2^k=((v/2^k:Nat):Int):=by rw[Int.natCast_ediv];push_cast;rfl
 rw[e,show(1:Int)=((1:Nat):Int)from rfl,u64_and_nat _ _ (by omega) (by omega),Nat.and_one_is_mod]
theorem zN8 (s:ByteArray) (at_:Nat) (l:List Nat) (hs:s.size<=100000000) (c0:Nat) (hc0:c0<256) (hm0:c0∈l) (ha:At s at_ (zC2 l)) (w:World):
  Calls Tryz.prog 33 #[.string s,.int .i64 (at_:Int)] w fun e w'=>e= .returned (.tuple #[.string ⟨(alpha l 256).toArray⟩,.int .i64 ((at_+(zC2 l).length:Nat):Int),.int .i64 0])/\Below w.heap.size w w':=by
 obtain⟨B,hB⟩:=zB w.heap.size
 have hv:=zZd l c0 hc0 hm0
 have hv2:=zK3 l 16 (by omega)
 obtain⟨J,hJ⟩:=zB (at_+(zC2 l).length)
 rw[hJ]
 unfold zC2 at ha hJ
 obtain⟨ha1,ha2⟩:=At.app.1 ha
 rw[zAc]at ha2
 rw[List.length_append,zAc]at hJ
 have ha3:=ha1.1
 rw[zAc]at ha3
 have HQ:=zH (zB7 s at_ 16 (by omega) ha3 (by omega) w)
 rw[ha1.val (by omega),show((16:Nat):Int)=16 from rfl]at HQ
 have HBIT:=zH (zOc l)
 obtain⟨v,hvv⟩:=zB (val (zBr l 16))
 rw[hvv]at hv hv2 HQ HBIT
 have HA:=zH ha2
 have HJ:=zH hJ
 have HPRE:=zH (zOf l)
 rw[hB]
 clear ha ha1 ha2 hJ hvv hm0
 go_enter Tryz.func33,Tryz.ntmps33
 go_wp2_with fail
 (with_reducible refine HQ.out.mono ?_)
 rintro e w2 ⟨rfl,rfl⟩
 go_wp2
 clear HQ
 go_loopw [1,6,7,8,10] (fun a e o em i wr=>∃(k q n:Nat) (p:Option Addr) (c:Nat),k<=16/\i= .int .i64 k/\a= .int .i64 q/\e= .int .i64 0/\em= .bool false/\o= .slice p n c/\n<=k*16/\RowKit.Hid (q=at_+16+(zB3 l k).length)/\RowKit.Hid (Kit.Own wr B TB p n c ((alpha l (k*16)).map Kit.zAe))/\RowKit.Hid (Below B w wr)) (fun _ _ _ _ i _=>16-(intOf i).toNat)
 case atStart=>exact⟨0,at_+16,0,none,0,by omega,rfl,by push_cast;rfl,rfl,rfl,rfl,by omega,zH (by simp[zB3]),zH (Kit.Own.start _ _ _),zH (Below.refl _ _)⟩
 case round=>
  obtain⟨k,q,n,p,c,hk,rfl,rfl,rfl,rfl,rfl,hn,hq,hown,hb⟩:=hrel
  by_cases hlt:k<16
  ·have hbit:=HBIT.out k hlt
   have ho1:=and_one v (15-k) hv2
   rw[hbit]at ho1
   have hpre:=HPRE.out (15-k) (k+1) (by omega)
   have hro:=zFc l k
   by_cases hr0:zCc l k=0
   ·have hal:=zMy l k hr0 16 (Nat.le_refl _)
    rw[if_neg (by simp[hr0]),List.append_nil]at hro
    have h00:(decide (zCc l k≠0)).toNat=0:=by simp[hr0]
    rw[h00,show((0:Nat):Int)=0 from rfl]at ho1
    have HAL:=zH (show alpha l ((k+1)*16)=alpha l (k*16)by rw[Nat.add_mul,Nat.one_mul];exact hal)
    have HRO:=zH hro
    clear hbit hpre hal hro h00 hr0
    go_wp2
    go_roundw
    case rel=>exact⟨k+1,q,n,p,c,by omega,by go_num,rfl,rfl,rfl,rfl,by omega,zH (by rw[HRO.out];exact hq.out),by rw[HAL.out];exact hown,hb⟩
    case measure=>simp only[intOf];omega
   ·rw[if_pos hr0]at hro
    have h00:(decide (zCc l k≠0)).toNat=1:=by simp[hr0]
    rw[h00,show((1:Nat):Int)=1 from rfl]at ho1
    have hAk:At s q (num (zCc l k) 16):=by
     obtain⟨t,ht⟩:=hpre
     have h1:=HA.out
     rw[<-ht,hro]at h1
     have h2:=(At.app.1 (At.app.1 h1).1).2
     rw[hq.out];exact h2
    have hrl:=zM9 l k 16 (by omega)
    have hrb:=zQf l k
    have hA3:=hAk.1
    rw[zAc]at hA3
    have hq2:=hq.out
    obtain⟨r,hr⟩:=zB (zCc l k)
    rw[show val (zCo l k 16)=r from hr]at hrl
    rw[hr]at hro hAk hrb hr0
    have HG:=zH (zB7 s q 16 (by omega) hA3 (by omega) wr)
    rw[hAk.val (by omega),show((16:Nat):Int)=16 from rfl]at HG
    have HRO:=zH (show(zB3 l (k+1)).length=(zB3 l k).length+16 by rw[hro,List.length_append,zAc])
    have HRB:=zH hrb
    have hne:((r:Int)==0)=false:=by simp;omega
    have HQ2:=zH hq2
    clear hbit hpre hro h00 hAk hrb hr hq hq2
    go_wp2_with fail
    (with_reducible refine HG.out.mono ?_)
    rintro e w3 ⟨rfl,rfl⟩
    clear ho1 HG
    go_wp2
    clear hne
    go_loopw [48,7] (fun i o wr=>∃(j n:Nat) (p:Option Addr) (c:Nat),j<=16/\i= .int .i64 j/\o= .slice p n c/\n<=k*16+j/\RowKit.Hid (Kit.Own wr B TB p n c ((alpha l (k*16+j)).map Kit.zAe))/\RowKit.Hid (Below B w wr)) (fun i _ _=>16-(intOf i).toNat)
    case atStart=>exact⟨0,n,p,c,by omega,rfl,rfl,by omega,hown,hb⟩
    case round=>
     clear hown hb hn
     obtain⟨j,n,p,c,hj,rfl,rfl,hn,hown,hb⟩:=hrel
     by_cases hlt2:j<16
     ·have hbit:=HRB.out j hlt2
      have ho1:=and_one r (15-j) hrl
      rw[hbit]at ho1
      by_cases hm:k*16+j∈l
      ·rw[decide_eq_true hm,show((true.toNat:Nat):Int)=1 from rfl]at ho1
       have hnx:alpha l (k*16+(j+1))=alpha l (k*16+j)++[UInt8.ofNat (k*16+j)]:=by rw[<-Nat.add_assoc,zEd,if_pos hm]
       have hbv:Kit.zAe (UInt8.ofNat (k*16+j))= .int .u8 ((k:Int)*16+(j:Int)):=by unfold Kit.zAe;rw[ofNat_toNat (by omega)];push_cast;rfl
       have hz:=hb.out.size
       obtain⟨p3,c3,w4,hr3,ho3,hg3⟩:=Kit.Own.app (ty:=109) (w:=wr.alloc (.cells #[.int .u8 ((k:Int)*16+(j:Int))] TB)) zNh (hown.out.alloc _) (some ⟨wr.heap.size,0,none⟩) 1 1 [Kit.zAe (UInt8.ofNat (k*16+j))] (by rw[hbv];exact Kit.zAs wr _ TB) rfl (fun h=>by cases h) (Kit.zG [UInt8.ofNat (k*16+j)]) (by unfold maxLen;omega) (by omega) (by simp;omega)
       have hb3:Below B w w4:=hb.out.trans (((Below.refl _ _).alloc (by omega) _).trans ((Below.refl _ _).grown hg3 (by simp;omega) (fun q hq=>hown.out.block q hq)))
       rw[show(alpha l (k*16+j)).map Kit.zAe++[Kit.zAe (UInt8.ofNat (k*16+j))]=(alpha l (k*16+(j+1))).map Kit.zAe by rw[hnx,List.map_append];rfl]at ho3
       have HO3:=zH ho3
       have HB3:=zH hb3
       clear ho3 hb3 hg3 hnx hbv hm hbit
       go_wp2_with (at_builtin;refine Kit.zAr rfl (.tmp 57) (.tmp 63) 109 rfl rfl rfl hr3 ?_)
       go_roundw
       case rel=>exact⟨j+1,n+1,p3,c3,by omega,by go_num,rfl,by omega,HO3,HB3⟩
       case measure=>simp only[intOf];omega
      ·rw[decide_eq_false hm,show((false.toNat:Nat):Int)=0 from rfl]at ho1
       have hnx:alpha l (k*16+(j+1))=alpha l (k*16+j):=by rw[<-Nat.add_assoc,zEd,if_neg hm,List.append_nil]
       have HNX:=zH hnx
       clear hm hnx hbit
       go_wp2
       go_roundw
       case rel=>exact⟨j+1,n,p,c,by omega,by go_num,rfl,by omega,by rw[HNX.out];exact hown,hb⟩
       case measure=>simp only[intOf];omega
     ·obtain rfl:j=16:=by omega
      go_wp2
      go_roundw
      case rel=>exact⟨k+1,q+16,n,p,c,by omega,by go_num,by push_cast;rfl,rfl,rfl,rfl,by omega,zH (by rw[HRO.out,HQ2.out];omega),by rw[Nat.add_mul,Nat.one_mul];exact hown,hb⟩
      case measure=>simp only[intOf];omega
  ·obtain rfl:k=16:=by omega
   have hln:=hown.out.len
   rw[List.length_map]at hln
   have hcv:=Kit.Src.text (P:=Tryz.prog) (n:=n) (c:=c) (src:=109) (dst:=9) hown.out.src hln Tryz.underlying109 Tryz.underlying5 Tryz.underlying9
   have HJ2:=zH (show J=q by rw[hq.out,<-HJ.out];omega)
   have hne:((v:Int)==0)=false:=by simp;omega
   clear hln
   go_wp2
   try simp only[Exit.inBlock,Exit.then]
   refine bodyPost_ret (v:= .tuple #[.string ⟨(alpha l 256).toArray⟩,.int .i64 (q:Int),.int .i64 0]) (by simp[results,Tryz.f33,go_sem]) rfl ⟨by rw[HJ2.out],hb.out⟩
end Us
namespace Kit
open Go.ChangeShapes Go.WideShapes Go.ChangeAt Go.RowKit
def zEq (k:IntKind) (w:World) (a:Option Addr) (len cap:Nat) (g:Nat->Int×Int):Prop:=
 len<=cap/\cap<=maxLen/\∀i,i<len->∃b off,a=some ⟨b,off,none⟩/\w.cell? ⟨b,off+i*2,none⟩=some (.int k (g i).1)/\w.cell? ⟨b,off+i*2+1,none⟩=some (.int k (g i).2)/\(Lit.int k (g i).1).wf=true/\(Lit.int k (g i).2).wf=true
theorem qB4 {α:Type} (l:List α) (h:l.length=2):∃c0 c1,l=[c0,c1]:=by
 match l,h with
 |[c0,c1],_=>exact⟨c0,c1,rfl⟩
section
variable {H:Type} {enc:TypeId×Value->H} {P:Program} {w:World} {base:Nat} {spare:Nat->Bool} {held:Bool}
theorem qBr {w:World} {x:Addr} {n:Nat} {v:Value} (h:w.cell? (x.add n)=some v) (h0:n=0\/∃u,w.cell? x=some u):x.spot=none:=by
 rcases h0 with rfl|⟨u,hu⟩
 ·exact World.cell?_spot (by simpa [Addr.add]using h)
 ·exact World.cell?_spot hu
theorem open_pair {t e:TypeId} {k:IntKind} {x:Addr} {i n:Nat} {cs:List Value} {y:DataW H×List MemPlace} (ht:P.underlying t=some (.array 2 e)) (he:P.underlying e=some (.int k))
  (hct:P.cellsOf t=2) (hce:P.cellsOf e=1) (h1:w.cells? base (x.add (i*2)) 2=some cs) (h2:DataW.trod enc P w base spare held n t cs=some y):
  ∃n0 n1:Int,w.cell? (x.add (i*2))=some (.int k n0)/\w.cell? ((x.add (i*2)).add 1)=some (.int k n1)/\(Lit.int k n0).wf=true/\(Lit.int k n1).wf=true:=by
 obtain⟨xs,fm,_,_,hlen,hxl,hel⟩:=DataW.trod_array ht h2
 rw[hct]at hlen
 rw[hce]at hel
 obtain⟨c0,c1,rfl⟩:=qB4 cs hlen
 obtain⟨y0,y1,rfl⟩:=qB4 xs hxl
 have g0:=hel 0 (by omega)
 have g1:=hel 1 (by omega)
 simp at g0 g1
 obtain⟨n0,e0,_,f0⟩:=DataW.trod_int he g0
 obtain⟨n1,e1,_,f1⟩:=DataW.trod_int he g1
 simp at e0 e1
 subst e0 e1
 obtain⟨_,_,hc⟩:=World.cells?_some h1
 have q0:=hc 0 (by simp)
 have q1:=hc 1 (by simp)
 refine⟨n0,n1,?_,?_,f0,f1⟩
 ·simpa [Addr.add]using q0
 ·simpa using q1
theorem zUw {t u e:TypeId} {k:IntKind} {a:Option Addr} {len cap:Nat} {d:DataW H} {p:List MemPlace} (ht:P.underlying t=some (.slice u)) (hu:P.underlying u=some (.array 2 e)) (he:P.underlying e=some (.int k))
  (hcu:P.cellsOf u=2) (hce:P.cellsOf e=1) (h:DataW.Trod enc P w base spare held t (.slice a len cap) d p):∃g,zEq k w a len cap g:=by
 obtain⟨fuel,hf⟩:=h
 rcases Deep.open_slice ht hf with⟨hcs,_⟩|⟨x,l,c,m,fu,D,Pl,hcs,_,hl,hm,hmm,_,hx⟩
 ·simp[Value.cells]at hcs
  obtain⟨rfl,rfl,rfl⟩:=hcs
  exact⟨fun _=>(0,0),Nat.le_refl _,Nat.zero_le _,fun i h=>absurd h (by omega)⟩
 ·simp[Value.cells]at hcs
  obtain⟨rfl,rfl,rfl⟩:=hcs
  have hml:len<=m:=by rw[hmm];split<;>omega
  rw[hcu]at hx
  have hone:∀i,i<len->∃y:Int×Int,∃b off,some x=some (⟨b,off,none⟩:Addr)/\w.cell? ⟨b,off+i*2,none⟩=some (.int k y.1)/\w.cell? ⟨b,off+i*2+1,none⟩=some (.int k y.2)/\(Lit.int k y.1).wf=true/\(Lit.int k y.2).wf=true:=by
   intro i hi
   obtain⟨cs0,h01,h02⟩:=hx 0 (by omega)
   obtain⟨_,_,hz,_,_,_⟩:=open_pair hu he hcu hce h01 h02
   have hsp:x.spot=none:=qBr hz (.inl (by omega))
   obtain⟨cs1,h1,h2⟩:=hx i (by omega)
   obtain⟨n0,n1,q0,q1,f0,f1⟩:=open_pair hu he hcu hce h1 h2
   obtain⟨b,off,spot⟩:=x
   simp only at hsp
   subst hsp
   have hadd:∀j,(⟨b,off,none⟩:Addr).add j=⟨b,off+j,none⟩:=by
    intro j;unfold Addr.add;split<;>simp_all
   rw[Deep.add_add,hadd]at q1
   rw[hadd]at q0
   exact⟨(n0,n1),b,off,rfl,q0,q1,f0,f1⟩
  obtain⟨g,hg⟩:=Deep.choose_lt hone
  exact⟨g,hl,hm,hg⟩
end
end Kit
namespace Rg
open Go.RowKit Go.Shelf
variable {C:Nat->TypeId->Prop} {A B W W':World} {l:Nat} {o o':Obj}
attribute [local go_sem] Oper.semAt_some
def Sc (C:Nat->TypeId->Prop) (W W':World):Prop:=W.heap.size<=W'.heap.size/\∀k cs t f,W.heap[k]? =some (.cells cs t f)->¬C k t->W'.heap[k]? =some (.cells cs t f)
theorem Sc.refl (C:Nat->TypeId->Prop) (W:World):Sc C W W:=⟨Nat.le_refl _,fun _ _ _ _ h _=>h⟩
theorem Sc.trans {D:World} (h:Sc C A B) (g:Sc C B D):Sc C A D:=⟨Nat.le_trans h.1 g.1,fun k cs t f hk hc=>g.2 k cs t f (h.2 k cs t f hk hc) hc⟩
theorem Sc.mono {D:Nat->TypeId->Prop} (h:Sc C A B) (hd:∀k t,C k t->D k t):Sc D A B:=⟨h.1,fun k cs t f hk hc=>h.2 k cs t f hk (fun hx=>hc (hd k t hx))⟩
theorem Sc.below (h:Below A.heap.size A B):Sc C A B:=⟨h.size,fun k cs t f hk _=>(h.block k (by
 rcases Nat.lt_or_ge k A.heap.size with hlt|hge
 ·exact hlt
 ·rw[Array.getElem?_eq_none hge]at hk;cases hk)).trans hk⟩
theorem Sc.left (hl:W.heap[l]? =some o) (ho:o.isCells=false) (h:Sc C (W.putObj l o') W'):Sc C W W':=by
 refine⟨by have:=h.1;rwa[putObj_size]at this,fun k cs t f hk hc=>h.2 k cs t f ?_ hc⟩
 rw[World.putObj_heap_other]
 ·exact hk
 ·rintro rfl
  rw[hl]at hk
  obtain rfl:=Option.some.inj hk
  cases ho
theorem Sc.right (hl:W'.heap[l]? =some o) (ho:o.isCells=false) (h:Sc C W W'):Sc C W (W'.putObj l o'):=by
 refine⟨by rw[putObj_size];exact h.1,fun k cs t f hk hc=> ?_⟩
 have h1:=h.2 k cs t f hk hc
 rw[World.putObj_heap_other]
 ·exact h1
 ·rintro rfl
  rw[hl]at h1
  obtain rfl:=Option.some.inj h1
  cases ho
def qBt {α:Type} (P:Program) (gf:Nat) (lb:Array Value) (E:α->World->Array Value->Prop) (R:World->World->Prop) (C:Nat->TypeId->Prop) (S:List α) (W:World):Prop:=
 ∀(l:Nat) (J Jx:List α->World->Prop),(∀pre A B,J pre A->R A B->J pre B)->
  (∀pre x W1 vs,J pre W1->E x W1 vs->pre++[x]<+:S->YieldAt Fence.wide 1 P l vs W1 fun e W'=>
   (e= .returned (.bool true)/\J (pre++[x]) W'/\Sc C W1 W')\/(e= .returned (.bool false)/\Jx (pre++[x]) W'))->
  J [] W->CallsIn Fence.wide 2 P gf (#[.func (.yield l) #[] #[]]++lb) W fun e W'=>(∃v,e= .returned v)/\(J S W'\/∃pre,pre<+:S/\Jx pre W')
def qBh {α:Type} (C:Nat->TypeId->Prop) (I:List α->World->Prop) (Ix:Code->List α->World->Prop) (xs:List α) (W:World):Exit->Act->World->Prop
 | .normal,_,W'=>KeepsOthers W W'/\Sc C W W'/\I xs W'
 | .ret,_,W'=>KeepsOthers W W'/\Ix .ret xs W'
 |_,_,_=>False
theorem zL9 {P:Program} {α:Type} {g:Operand} {ps:Array Tmp} {assign body:Code} {Q:Exit->Act->World->Prop} {a:Act} {w:World} {gf:Nat} {lb:Array Value}
  (hg:a.eval g= .func (.func gf) #[] lb) (eg:∀args w,(callFunc gf args).run P w= .ok (.enter gf args) w) (E:α->World->Array Value->Prop) (R:World->World->Prop) (C:Nat->TypeId->Prop) (S:List α) (hR:∀A B,R A B->KeepsOthers A B)
  (hsz:∀x W vs,E x W vs->vs.size=ps.size) (hE:∀x W l o o' vs,W.heap[l]? =some o->o.isCells=false->E x W vs->E x (W.putObj l o') vs)
  (hseq:∀W,Below w.heap.size w W->qBt P gf lb E R C S W)
  (I:List α->World->Prop) (Ix:Code->List α->World->Prop)
  (hI:∀pre W l o o',w.heap.size<=l->W.heap[l]? =some o->o.isCells=false->I pre W->I pre (W.putObj l o'))
  (hIx:∀c pre W l o o',w.heap.size<=l->W.heap[l]? =some o->o.isCells=false->Ix c pre W->Ix c pre (W.putObj l o'))
  (hIS:∀pre A B,I pre A->R A B->I pre B) (h0:∀o o',I [] ((w.alloc o).alloc o')) (Jn:List α->α->Array Value->Act->World->Prop)
  (hJn:∀pre x vs ac W l o o',w.heap.size<=l->W.heap[l]? =some o->o.isCells=false->Jn pre x vs ac W->Jn pre x vs ac (W.putObj l o'))
  (hassign:∀(l:Nat) (pre:List α) (x:α) (W:World) (vs:Array Value) (K:Act->World->Prop),w.heap.size<W.heap.size->I pre W->E x W vs->(∀ac Wc,KeepsOthers W Wc->Sc C W Wc->Jn pre x vs ac Wc->K ac Wc)->
   assign.wpIn (Fence.wide.inRound l) 1 P (Exit.then K (fun _ _ _=>False)) {tmps:=(ps.zip vs).foldl (fun t (p,v)=>t.setIfInBounds p v) a.tmps,defers:=[]} W)
  (hbody:∀(l:Nat) (pre:List α) (x:α) (W:World) (vs:Array Value) (ac:Act),w.heap.size<W.heap.size->Jn pre x vs ac W->pre++[x]<+:S->body.wpIn (Fence.wide.inRound l) 1 P (qBh C I Ix (pre++[x]) W) ac W)
  (hdone:∀(D:Nat) (W:World),w.heap.size<=D->I S W->W.heap[D]? =some (.deferred (some []))->Q .normal {a with defers:={target:= .collected D,args:= #[]}::a.defers} W)
  (hstop:∀(D:Nat) (c:Code) (pre:List α) (W:World),w.heap.size<=D->pre<+:S->Ix c pre W->W.heap[D]? =some (.deferred (some []))->c.wpIn Fence.wide 3 P Q {a with defers:={target:= .collected D,args:= #[]}::a.defers} W):
  (Code.rangeFunc g ps assign body).wpIn Fence.wide 3 P Q a w:=by
 refine wpIn_rangeFunc ?_
 intro fn hfn
 obtain⟨rec,hrec⟩:∃rec:LoopState->Option Code->Loop,rec=fun st pe=>{state:=st,pending:=pe,fn,tmps:=a.tmps,params:=ps,assign,body,defers:=w.heap.size}:=⟨_,rfl⟩
 obtain⟨W1,hW1⟩:=zB ((w.alloc (.deferred (some []))).alloc (.loop (rec .ready none)))
 have hL1:W1.heap[w.heap.size+1]? =some (.loop (rec .ready none)):=by
  rw[<-hW1]
  have:=World.alloc_heap_new (w.alloc (.deferred (some []))) (.loop (rec .ready none))
  rwa[World.size_alloc]at this
 have hK1:W1.heap[w.heap.size]? =some (.deferred (some [])):=by
  rw[<-hW1]
  exact(Below.heap_alloc _ _ _ (by simp)).trans (World.alloc_heap_new w _)
 have hB1:Below w.heap.size w W1:=by rw[<-hW1];exact((Below.refl _ w).alloc (Nat.le_refl _) _).alloc (by simp) _
 refine⟨w.heap.size+1,[{target:= .collected w.heap.size,args:= #[]}],W1,{target:= .fn (.func gf) lb,args:= #[.func (.yield (w.heap.size+1)) #[] #[]]},W1,gf,
  #[.func (.yield (w.heap.size+1)) #[] #[]]++lb,W1,?_,?_,?_,?_,fun _=>by omega,?_⟩
 ·rw[<-hW1,hrec];exact run_enterLoop_outer _ _ _ _ _
 ·simp only[resolve,hg]
  simp[go_sem]
 ·intro f' hf';trivial
 ·simp[invoke,go_sem,eg]
 ·refine(hseq W1 hB1 (w.heap.size+1)
   (fun pre W=>I pre W/\W.heap[w.heap.size+1]? =some (.loop (rec .ready none))/\W.heap[w.heap.size]? =some (.deferred (some [])))
   (fun pre W=>∃c,Ix c pre W/\W.heap[w.heap.size+1]? =some (.loop (rec .done (some c)))/\W.heap[w.heap.size]? =some (.deferred (some [])))
   (fun pre A B hs h=>⟨hIS pre A B hs.1 h,(hR _ _ h).same _ _ hs.2.1 rfl,(hR _ _ h).same _ _ hs.2.2 rfl⟩)
   ?_ ⟨by rw[<-hW1];exact h0 _ _,hL1,hK1⟩).mono ?_
  ·rintro pre x W vs ⟨hi,hl,hk⟩ hex hpre
   have hlt:w.heap.size+1<W.heap.size:=(Array.getElem?_eq_some_iff.1 hl).1
   have hy:=run_yield (P:=P) (args:=vs) hl (by rw[hrec];exact hsz _ _ _ hex)
   rw[hrec]at hy
   refine⟨fn,_,assign,body,hy,roundIn_of_wpIn hfn (hassign _ pre x W vs _ (by omega) hi hex (fun ac Wc hkc hsc hjn=>⟨_,run_beginRound (hkc.same _ _ hl rfl) (by rw[hrec]),?_⟩))⟩
   have hl0:=hl
   have hk0:=hk
   have hl:=hkc.same _ _ hl0 rfl
   have hk:=hkc.same _ _ hk0 rfl
   have hlt:w.heap.size+1<Wc.heap.size:=(Array.getElem?_eq_some_iff.1 hl).1
   obtain⟨W2,hW2⟩:=zB (Wc.putObj (w.heap.size+1) (.loop {rec .ready none with state:= .busy}))
   have hl2:W2.heap[w.heap.size+1]? =some (.loop {rec .ready none with state:= .busy}):=by rw[<-hW2];exact World.putObj_heap_same hlt
   have hk2:W2.heap[w.heap.size]? =some (.deferred (some [])):=by rw[<-hW2];exact(World.putObj_heap_other (by omega)).trans hk
   have hs2:w.heap.size<W2.heap.size:=by have:=(Array.getElem?_eq_some_iff.1 hl2).1;omega
   have hi2:Jn pre x vs ac W2:=by rw[<-hW2];exact hJn _ _ _ _ _ _ _ _ (by omega) hl rfl hjn
   have hgoal:body.wpIn (Fence.wide.inRound (w.heap.size+1)) 1 P _ ac W2:=hbody (w.heap.size+1) pre x W2 vs ac hs2 hi2 hpre
   rw[hW2]
   refine wpIn_mono hgoal ?_
   have fin:∀(jump:Option Code) (W3:World),KeepsOthers W2 W3->
     (Instr.endRound (w.heap.size+1) jump).run P W3= .ok (.bool jump.isNone) (W3.putObj (w.heap.size+1) (.loop (rec (if jump.isNone then .ready else .done) jump)))/\
     W3.heap[w.heap.size+1]? =some (.loop {rec .ready none with state:= .busy})/\
     (W3.putObj (w.heap.size+1) (.loop (rec (if jump.isNone then .ready else .done) jump))).heap[w.heap.size+1]? =some (.loop (rec (if jump.isNone then .ready else .done) jump))/\
     (W3.putObj (w.heap.size+1) (.loop (rec (if jump.isNone then .ready else .done) jump))).heap[w.heap.size]? =some (.deferred (some [])):=fun jump W3 hk3=>by
    have hl3:=hk3.same _ _ hl2 rfl
    have:=run_endRound (P:=P) jump hl3
    rw[hrec]at this⊢
    exact⟨this,by rw[hrec]at hl3;exact hl3,World.putObj_heap_same (Array.getElem?_eq_some_iff.1 hl3).1,(World.putObj_heap_other (by omega)).trans (hk3.same _ _ hk2 rfl)⟩
   rintro e a3 W3 hp
   cases e with
   |normal=>
    obtain⟨hk3,hkp3,hi3⟩:=hp
    obtain⟨hr,hl3,hl4,hk4⟩:=fin none W3 hk3
    exact⟨_,_,hr,.inl ⟨rfl,⟨hI _ _ _ _ _ (by omega) hl3 rfl hi3,hl4,hk4⟩,hsc.trans (Sc.right hl3 rfl (Sc.left hl rfl (by rw[hW2];exact hkp3)))⟩⟩
   |ret=>
    obtain⟨hk3,hi3⟩:=hp
    obtain⟨hr,hl3,hl4,hk4⟩:=fin (some .ret) W3 hk3
    exact⟨_,_,hr,.inr ⟨rfl,.ret,hIx _ _ _ _ _ _ (by omega) hl3 rfl hi3,hl4,hk4⟩⟩
   |exit id=>exact hp.elim
   |goto t=>exact hp.elim
   |panic ch=>exact hp.elim
   |outgrown=>exact hp.elim
  ·rintro e W2 ⟨⟨v,rfl⟩,(⟨hi,hl,hk⟩|⟨pre,hSp,c,hi,hl,hk⟩)⟩
   ·exact⟨none,_,by have:=run_endLoop (P:=P) hl (by rw[hrec];simp);rw[hrec]at this;exact this,hdone _ _ (Nat.le_refl _) (hI _ _ _ _ _ (by omega) hl rfl hi) ((World.putObj_heap_other (by omega)).trans hk)⟩
   ·exact⟨some c,_,by have:=run_endLoop (P:=P) hl (by rw[hrec];simp);rw[hrec]at this;exact this,hstop _ c pre _ (Nat.le_refl _) hSp (hIx _ _ _ _ _ _ (by omega) hl rfl hi) ((World.putObj_heap_other (by omega)).trans hk)⟩
end Rg
end Go.Proofs.YtppnakkaljbmbaaGreatDoor
