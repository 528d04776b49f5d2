/- Steps of a proof; no condition beyond what each states. -/
import Derived.Test.YtppnakkaljbmbaaGreatDoorZU08
set_option linter.unusedVariables false
set_option linter.unusedSimpArgs false
set_option maxRecDepth 100000
set_option maxHeartbeats 8000000
namespace Go.Proofs.YtppnakkaljbmbaaGreatDoor
namespace Zr
open Go.RowKit Front Ix Bt
variable {w:World} {B n c:Nat} {e:TypeId} {a:Option Addr} {xs:List Value}
def Ad (a:Option Addr) (n c:Nat):Prop:=(a=none/\n=0/\c=0)\/(n<=c/\c<=9223372036854775807/\∃b off,a=some ⟨b,off,none⟩)
theorem Ad.zIz (h:Kit.Own w B e a n c xs):Ad a n c:=by
 obtain⟨_,h2⟩:=h
 rcases h2 with⟨h2,_⟩|⟨g,cap,cur,hv,hbg,hg,hnc,h3⟩
 ·injection h2 with h1 h2 h3
  exact .inl ⟨h1,h2,h3⟩
 ·injection hv with ha _ hcc
  subst ha hcc
  refine .inr ⟨hnc,?_,_,_,rfl⟩
  have:=h3.1
  unfold maxLen at this
  omega
theorem Src.drop {b off:Nat} {l:List Nat} (h:Kit.Src w (some ⟨b,off,none⟩) (l.map ival)) (k:Nat):Kit.Src w (some ⟨b,off+k,none⟩) ((l.drop k).map ival):=by
 intro j u hu
 rw[List.getElem?_map,List.getElem?_drop]at hu
 obtain⟨b',off',ha,hc⟩:=h (k+j) u (by rw[List.getElem?_map];exact hu)
 injection ha with ha
 injection ha with h1 h2 _
 subst h1 h2
 exact⟨b,off+k,rfl,by rw[Nat.add_assoc];exact hc⟩
theorem zUp {P:Program} {c X:Code} {a:Act} {Q:Exit->Act->World->Prop} (l:Nat) (J:Act->World->Prop) (μ:Act->World->Nat) (hf:findLabel c l=some (Code.skip.seq X))
  (pass:∀a w,J a w->X.wp P (Exit.jump l (fun a' w'=>J a' w'/\μ a' w'<μ a w) Q) a w) (first:(∀a w,J a w->X.wp P (Exit.jump l J Q) a w)->c.wp P (Exit.jump l J Q) a w):(Code.scope c).wp P Q a w:=by
 refine wp_scope_jumps l J μ hf (first fun a w h=>Code.wp_mono (fun e a' w' q=> ?_) (pass a w h)) (fun a w h=> ?_)
 ·cases e with
  |goto l'=>exact⟨q.1,q.2.1⟩
  |_=>exact q
 ·refine wp_seq (wp_skip ?_)
  exact pass a w h
def lenOf:Value->Nat
 | .slice _ n _=>n
 |_=>0
theorem zLb (h:Kit.Own w B e a n c xs) (ha:a=none):n=0/\c=0:=by
 obtain⟨_,h2⟩:=h
 rcases h2 with⟨h2,_⟩|⟨g,cap,cur,hv,_⟩
 ·injection h2 with h1 h2 h3
  exact⟨h2,h3⟩
 ·injection hv with ha' _ _
  rw[ha]at ha';cases ha'
theorem qA7 (x:Nat) (hx:x<=1000000000) (w:World):
  Calls Tryz.prog 80 #[ival x] w fun e w'=>e= .returned (.bool ((fun _=>false) x))/\w'=w:=by
 have h1:decide ((1099511627776:Int)<(x:Int))=false:=decide_eq_false (by omega)
 go_enter Tryz.func80,Tryz.ntmps80
 go_wp2
 go_ret
 exact⟨rfl,rfl⟩
def EJ (B:Nat) (w:World) (n:Nat) (T:List Nat) (a':Act) (wr:World):Prop:=∃(r d:List Nat) (a2:Option Addr) (n2 c2 np:Nat) (p:Option Addr) (cp:Nat),n2<=n/\r.length=n2/\RowKit.Hid (∀x∈r,x<=100000)/\RowKit.Hid (Kit.Src w a2 (r.map ival))/\RowKit.Hid (Ad a2 n2 c2)/\RowKit.Hid (Ls wr B B p np cp d)/\RowKit.Hid (Below B w wr)/\RowKit.Hid (T=d++enc 0 r)/\∃(u1 u2 u3 u6 u7 u8 u9 u10 u11 u12 u13 u14 u15 u16 u17 u18 u19 u20 u21 u22 u23 u24 u25 u26 u27 u28 u29 u30 u31 u32 u33 u34 u35 u36:Value),a'={tmps:= #[.slice a2 n2 c2,u1,u2,u3,.pointer (some ⟨B,0,none⟩),.func (.func 81) #[.pointer (some ⟨B,0,none⟩)] #[],u6,u7,u8,u9,u10,u11,u12,u13,u14,u15,u16,u17,u18,u19,u20,u21,u22,u23,u24,u25,u26,u27,u28,u29,u30,u31,u32,u33,u34,u35,u36],defers:=[]}
theorem zD8 (l:List Nat) (a:Option Addr) (n c:Nat) (w:World) (hn:l.length=n) (hn2:n<=100000) (hs:Kit.Src w a (l.map ival)) (had:Ad a n c) (hl:∀x∈l,x<=100000):
  Calls Tryz.prog 22 #[.slice a n c] w fun e w'=>∃a' c',e= .returned (.tuple #[.slice a' (enc 0 l).length c',.int .i64 0])/\Kit.Own w' w.heap.size 3 a' (enc 0 l).length c' ((enc 0 l).map ival)/\Below w.heap.size w w':=by
 have hmf:∀(fn:Fn) (first cap:Array Value) (w:World),(Instr.makeFunc fn first cap).run Tryz.prog w= .ok (.func fn first cap) w:=fun _ _ _ _=>rfl
 obtain⟨B,hB⟩:=zB w.heap.size
 obtain⟨W,hW⟩:=zB (w.alloc (.cells #[.slice none 0 0] 158))
 have hb0:Below B w W:=by rw[<-hW,<-hB];exact(Below.refl _ _).alloc (Nat.le_refl _) _
 have hX:W.heap[B]? =some (.cells #[.slice none 0 0] 158 (0,0)):=by
  rw[<-hW,<-hB]
  show(w.heap.push _)[w.heap.size]? =_
  simp
 have HLS:=zH (Ls.mk (D:=B) (l:=[]) hX (Kit.Own.start _ _ _) (Nat.le_refl _))
 have HB0:=zH hb0
 have HQ1:=zH (zPc l a n c w hn (by omega) hs (fun x hx=>by have:=hl x hx;omega))
 have HQ2:=zH (zE5 (fun _=>false) l 80 a n c w hn (by omega) hs (zHw Tryz.func80 rfl rfl) (fun x hx=>qA7 x (by have:=hl x hx;omega) w))
 rw[any_false]at HQ2
 have HS:=zH hs
 have HL:=zH hl
 have HN:=zH hn
 have HAD:=zH had
 clear hb0 hX hs hl hn had
 rw[hB]
 have hlen:=zJz l 0
 rw[HN.out]at hlen
 obtain⟨T,hTT⟩:=zB (enc 0 l)
 rw[hTT]at hlen⊢
 have HTL:=zH (show T.length<=100000 by omega)
 have HTT:=zH hTT
 clear hlen hTT
 go_enter Tryz.func22,Tryz.ntmps22
 go_wp2_with fail
 refine zUp 0 (EJ B w n T) (fun a' _=>lenOf (a'.tmps.getD 0 undef)) rfl ?_ ?_
 ·clear HQ1 HQ2 HS HL HN HAD HLS HB0 hW
  rintro a' wr ⟨r,d,a2,n2,c2,np,p,cp,hn2n,hrn,hrl,hsr,had,hls,hbr,hT,u1,u2,u3,u6,u7,u8,u9,u10,u11,u12,u13,u14,u15,u16,u17,u18,u19,u20,u21,u22,u23,u24,u25,u26,u27,u28,u29,u30,u31,u32,u33,u34,u35,u36,rfl⟩
  have HQ:=zH (zJm r 0 a2 n2 c2 wr hrn (by omega) (hsr.out.below (by rw[hB];exact hbr.out)) (fun x hx=>by have:=hrl.out x hx;omega) (by omega))
  have hqr:=zQe 0 r
  have her:=qD5 r 0
  rw[Nat.zero_add]at her
  obtain⟨q,hq⟩:=zB (row 0 r)
  rw[hq]at HQ hqr her
  rw[show((0:Nat):Int)=0 from rfl]at HQ
  have HER:=zH her
  have HRN:=zH hrn
  rw[hrn]at hqr
  clear hq her hrn
  go_wp2_with fail
  (with_reducible refine HQ.out.mono ?_)
  clear HQ
  rintro e w3 ⟨rfl,hb3⟩
  have HQ:=zH (zMt q (by omega) w3)
  obtain⟨s,hs⟩:=zB ((digits q).length)
  rw[hs]at HQ
  have H3:=zH hb3
  have HSL:=zH hs
  clear hb3 hs
  go_wp2_with fail
  (with_reducible refine HQ.out.mono ?_)
  clear HQ
  rintro e w4 ⟨a3,c3,rfl,ho4,hb4⟩
  have hls4:=(hls.out.below H3.out rfl).below hb4 rfl
  have hbr4:=(hbr.out.trans (H3.out.mono (by have:=hbr.out.size;omega))).trans (hb4.mono (by have:=hbr.out.size;have:=H3.out.size;omega))
  have HQ:=zH (zJx B B p np cp d a3 s c3 (digits q) w4 hls4 ho4.src HSL.out (zLb ho4) (by
   have h1:=hls.out.len
   have h2:=HTL.out
   rw[hT.out,HER.out]at h2
   have h3:=HSL.out
   cases hx:r.drop q with
   |nil=>rw[hx]at h2;simp only[List.length_append]at h2;omega
   |cons y t=>rw[hx]at h2;simp only[List.length_append,List.length_cons]at h2;omega))
  have HB4:=zH hbr4
  clear hls4 hbr4 ho4 hb4 H3
  go_wp2_with fail
  (with_reducible refine HQ.out.mono ?_)
  clear HQ
  rintro e w5 ⟨rfl,p5,cp5,hls5,hb5⟩
  have HL5:=zH hls5
  have HB5:=zH (HB4.out.trans (hb5.mono (Nat.le_refl _)))
  clear hls5 hb5 HB4
  rcases had.out with⟨rfl,rfl,rfl⟩|⟨hnc,hcm,b,off,rfl⟩
  ·obtain rfl:q=0:=by omega
   have hr0:r=[]:=List.eq_nil_of_length_eq_zero HRN.out
   subst hr0
   obtain⟨x0,f0⟩:=zEb HL5.out.blk
   have hTe:T=d++digits 0:=by rw[hT.out,HER.out];rfl
   have hTl:T.length=np+s:=by rw[hTe];exact HL5.out.len
   have HTE:=zH hTe
   have HTl:=zH hTl
   clear hTe hTl
   go_wp2
   simp only[Exit.jump]
   go_ret2
   refine⟨p5,cp5,by rw[HTl.out];rfl,?_,HB5.out⟩
   rw[HTl.out,HTE.out];exact HL5.out.own
  ·by_cases hlt:q<n2
   ·obtain⟨x,hx⟩:=zB (r[q]'(by rw[HRN.out];exact hlt))
    have hqr2:q<r.length:=by rw[HRN.out];exact hlt
    have hdr:r.drop q=x::r.drop (q+1):=by rw[List.drop_eq_getElem_cons hqr2,hx]
    have hTe:T=(d++digits q)++(x+1)::enc 0 (r.drop (q+1)):=by
     rw[hT.out,HER.out,hdr];simp
    obtain⟨b',off',hbo,e0⟩:=(hsr.out.below (w':=w5) (by rw[hB];exact HB5.out)) q (ival x) (by rw[List.getElem?_map,List.getElem?_eq_getElem hqr2,hx];rfl)
    injection hbo with hbo
    injection hbo with hb1 hb2 _
    subst hb1 hb2
    have hxl:x<=100000:=by rw[<-hx];exact hrl.out _ (List.getElem_mem hqr2)
    have HTE:=zH hTe
    have hln:=HL5.out.len
    have hmx:np+s+1<=1000000:=by
     have h1:=HTL.out
     rw[hTe,List.length_append,List.length_cons]at h1
     omega
    have hHS:=hsr.out
    have hsr2:=zH (Src.drop hHS (q+1))
    have hrl2:=zH (show ∀x∈r.drop (q+1),x<=100000 from fun y hy=>hrl.out y (List.mem_of_mem_drop hy))
    have hrn2:=zH (show(r.drop (q+1)).length=n2-q-1 by rw[List.length_drop,HRN.out];omega)
    obtain⟨W6,hW6⟩:=zB (w5.alloc (.cells #[.int .i64 ((x:Int)+1)] 3))
    have hb6:Below w5.heap.size w5 W6:=by rw[<-hW6];exact(Below.refl _ _).alloc (Nat.le_refl _) _
    have hs6:Kit.Src W6 (some ⟨w5.heap.size,0,none⟩) ([x+1].map ival):=by rw[<-hW6];exact Kit.zAs w5 _ _
    have HQ:=zH (zJx B B p5 (np+s) cp5 (d++digits q) (some ⟨w5.heap.size,0,none⟩) 1 1 [x+1] W6 (HL5.out.below hb6 rfl) hs6 rfl (fun h=>by cases h) hmx)
    have HB6:=zH (HB5.out.trans (hb6.mono (by have:=HB5.out.size;omega)))
    have hw1:IntKind.i64.wrap ((x:Int)+1)=(x:Int)+1:=by rw[IntWalk.i64_in _ ⟨by omega,by omega⟩]
    clear hx hdr hTe hln hmx hHS hb6 hs6 hqr2
    go_wp2_with fail
    clear hW6 e0
    (with_reducible refine HQ.out.mono ?_)
    rintro e w7 ⟨rfl,p7,cp7,hls7,hb7⟩
    have HL7:=zH hls7
    have HB7:=zH (HB6.out.trans hb7)
    clear hls7 hb7 HQ
    have hi1:((n2-q-1:Nat):Int)=(n2:Int)-q-1:=by omega
    have HT7:=zH (show T=((d++digits q)++[x+1])++enc 0 (r.drop (q+1))by rw[HTE.out];simp)
    go_wp2
    ·rename_i hc1
     go_step3
     refine(show _/\_ from⟨rfl,?_,?_⟩)
     ·refine⟨r.drop (q+1),(d++digits q)++[x+1],some ⟨b,off+q,none⟩,n2-q-1,0,np+s+1,p7,cp7,by omega,hrn2.out,hrl2,zH ?_,zH (.inr ⟨by omega,by omega,_,_,rfl⟩),HL7,HB7,HT7,_,_,_,_,_,_,_,_,_,_,_,_,_,_,_,_,_,_,_,_,_,_,_,_,_,_,_,_,_,_,_,_,_,_,rfl⟩
      rw[List.drop_of_length_le (by rw[HRN.out];omega)]
      exact Kit.Src.nil _ _
     ·simp[lenOf];omega
    ·rename_i hc1
     go_step3
     refine(show _/\_ from⟨rfl,?_,?_⟩)
     ·exact⟨r.drop (q+1),(d++digits q)++[x+1],some ⟨b,off+(q+1),none⟩,n2-q-1,c2-q-1,np+s+1,p7,cp7,by omega,hrn2.out,hrl2,hsr2,zH (.inr ⟨by omega,by omega,_,_,rfl⟩),HL7,HB7,HT7,_,_,_,_,_,_,_,_,_,_,_,_,_,_,_,_,_,_,_,_,_,_,_,_,_,_,_,_,_,_,_,_,_,_,rfl⟩
     ·simp[lenOf];omega
   ·obtain rfl:q=n2:=by omega
    have hdr:r.drop q=[]:=List.drop_of_length_le (by rw[HRN.out];omega)
    have hTe:T=d++digits q:=by rw[hT.out,HER.out,hdr]
    have hTl:T.length=np+s:=by rw[hTe];exact HL5.out.len
    have HTE:=zH hTe
    have HTl:=zH hTl
    clear hTe hTl hdr
    obtain⟨x0,f0⟩:=zEb HL5.out.blk
    go_wp2
    all_goals
     simp only[Exit.jump]
     go_ret2
     refine⟨p5,cp5,by rw[HTl.out];rfl,?_,HB5.out⟩
     rw[HTl.out,HTE.out];exact HL5.out.own
 ·intro hpass
  go_wp2_with fail
  (with_reducible refine HQ1.out.mono ?_)
  rintro e w2 ⟨rfl,rfl⟩
  go_wp2_with fail
  (with_reducible refine HQ2.out.mono ?_)
  rintro e w2 ⟨rfl,rfl⟩
  go_wp2_with fail
  go_step3
  rename_i hK
  refine hK _ _ (hpass _ _ ⟨l,[],a,n,c,0,none,0,Nat.le_refl _,HN.out,HL,HS,HAD,HLS,HB0,zH (by rw[HTT.out];rfl),_,_,_,_,_,_,_,_,_,_,_,_,_,_,_,_,_,_,_,_,_,_,_,_,_,_,_,_,_,_,_,_,_,_,rfl⟩)
end Zr
namespace Zr
open Go.RowKit Go.Shelf Front Ix Bt Rg
variable {W W' w:World} {C:Nat->Prop} {b l:Nat} {t:TypeId} {v:Value} {o:Obj}
attribute [local go_sem] Oper.semAt_some
theorem zO7 {p:Addr} {u:Value} (h:W.cell? p=some u):∃cs t f,W.heap[p.block]? =some (.cells cs t f):=by
 obtain⟨o,h1,h2⟩:=cells_of_cell h
 cases o with
 |cells cs t f=>exact⟨cs,t,f,h1⟩
 |_=>cases h2
theorem zP4 {a:Option Addr} {xs:List Value} (h:Kit.Src W a xs) (hs:Sb C W W') (hc:∀p,a=some p->¬C p.block):Kit.Src W' a xs:=by
 intro j u hu
 obtain⟨b,off,ha,h1⟩:=h j u hu
 obtain⟨cs,t,f,ho⟩:=zO7 h1
 have h2:=hs.2 b cs t f ho (hc _ ha)
 exact⟨b,off,ha,by rw[World.cell?_of_block (w:=W) (a:=⟨b,off+j,none⟩) (h2.trans ho.symm)];exact h1⟩
theorem zIf (h:Boxed W b t v) (hs:Sb C W W') (hc:¬C b):Boxed W' b t v:=hs.2 b _ _ _ h hc
theorem qBj (b:Nat) (a:Option Addr) (n c:Nat) (l:List Nat) (hl:l.length=n) (hn:n<=1000000) (C:Nat->Prop) (hC:¬C b) (hCa:∀p,a=some p->¬C p.block) (W:World) (hbox:Boxed W b 23 (.slice a n c)) (hs:Kit.Src W a (l.map ival)):
  zR7 Tryz.prog 202 #[.pointer (some ⟨b,0,none⟩)] (fun x _ vs=>∃i:Int,vs= #[.int .i64 i,ival x]) (fun A B=>∃n,B=A.drewN n) C l.reverse W:=by
 intro k0 J Jx hJ hY h0
 refine callsIn_of_wp Tryz.func202 rfl trivial ?_ rfl
 simp only[Tryz.ntmps202,List.size_toArray,List.length_cons,List.length_nil,Nat.reduceAdd,Nat.reduceSub,Array.replicate_succ,Array.replicate_zero,List.push_toArray,List.append_toArray,List.nil_append,List.cons_append]
 have HBOX:=zH hbox
 have HS:=zH hs
 have HN:=zH hl
 have HJ:=zH hJ
 have HY:=zH hY
 have H0:=zH h0
 have hc0:=hbox.cell
 clear hbox hs hl hJ hY h0
 have i0:IntKind.i64.wrap ((n:Int)-1)=(n:Int)-1:=IntWalk.i64_in _ ⟨by omega,by omega⟩
 gi_wp2
 clear hc0 i0
 gi_loopw [3] (fun v wr=>∃(k:Nat),k<=n/\v= .int .i64 ((k:Int)-1)/\RowKit.Hid (Boxed wr b 23 (.slice a n c))/\RowKit.Hid (Kit.Src wr a (l.map ival))/\RowKit.Hid (J (l.drop k).reverse wr)) (fun v _=>(intOf v+1).toNat)
 case atStart=>exact⟨n,by omega,rfl,HBOX,HS,zH (by rw[List.drop_of_length_le (by rw[HN.out];omega)];exact H0.out)⟩
 case round=>
  obtain⟨k,hk,rfl,hbx,hsr,hj⟩:=hrel
  rcases Nat.eq_zero_or_pos k with hz|hz
  ·subst hz
   have hj0:=hj.out
   rw[List.drop_zero]at hj0
   have HJ0:=zH hj0
   clear hj0
   gi_wp2
   go_end0
   exact⟨⟨_,rfl⟩,.inl HJ0.out⟩
  ·obtain⟨q,rfl⟩:∃q,k=q+1:=⟨k-1,by omega⟩
   have hql:q<l.length:=by rw[HN.out];omega
   obtain⟨x,hx⟩:=zB (l[q])
   obtain⟨g,off,rfl,e0⟩:=hsr.out q (ival x) (by rw[List.getElem?_map,List.getElem?_eq_getElem hql,hx];rfl)
   have hcb:=hbx.out.cell
   have hnx:(l.drop q).reverse=(l.drop (q+1)).reverse++[x]:=by rw[List.drop_eq_getElem_cons hql,hx,List.reverse_cons]
   have hpf:(l.drop (q+1)).reverse++[x]<+:l.reverse:=by
    rw[<-hnx]
    refine⟨(l.take q).reverse,?_⟩
    rw[<-List.reverse_append,List.take_append_drop]
   obtain⟨fn,tmps,assign,body,hy,hR⟩:=HY.out (l.drop (q+1)).reverse x wr #[.int .i64 (q:Int),ival x] hj.out ⟨_,rfl⟩ hpf
   have HNX:=zH hnx
   have HR:=zH hR
   have HPF:=zH hpf
   have i1:((q+1:Nat):Int)-1=(q:Int):=by omega
   have i2:IntKind.i64.wrap ((q:Int)-1)=(q:Int)-1:=IntWalk.i64_in _ ⟨by omega,by omega⟩
   rw[i1]
   clear hnx hpf hx hR
   gi_wp2
   refine HR.out.mono ?_
   rintro e W3 (⟨rfl,hJ3,hk3⟩|⟨rfl,hJx3⟩)
   ·have HB3:=zH (zIf hbx.out hk3 hC)
    have HS3:=zH (zP4 hsr.out hk3 hCa)
    have HJ3:=zH (show J (l.drop q).reverse W3 by rw[HNX.out];exact hJ3)
    clear hJ3 hk3
    gi_wp2
    go_roundw
    case rel=>exact⟨q,by omega,rfl,HB3,HS3,HJ3⟩
    case measure=>simp[intOf]
   ·gi_wp2
    refine bodyPost_ret (results_none rfl _ _ _) rfl ?_
    exact⟨⟨_,rfl⟩,.inr ⟨_,HPF.out,hJx3⟩⟩
theorem qAc (x:Nat) (hx:x<=1) (w:World):
  Calls Tryz.prog 162 #[ival x] w fun e w'=>e= .returned (.bool ((fun _=>false) x))/\w'=w:=by
 rcases Nat.lt_or_ge x 1 with h|h
 ·obtain rfl:x=0:=by omega
  go_enter Tryz.func162,Tryz.ntmps162
  go_wp2
  go_ret
  exact⟨rfl,rfl⟩
 ·obtain rfl:x=1:=by omega
  go_enter Tryz.func162,Tryz.ntmps162
  go_wp2
  go_ret
  exact⟨rfl,rfl⟩
theorem zMe:∀(l m:List Nat),number m<=number (l++m)
 |[],m=>Nat.le_refl _
 |x::l,m=>by have:=zMe l m;rw[List.cons_append,number];omega
theorem zUy {l pre:List Nat} (h:pre<+:l.reverse):number pre.reverse<=number l:=by
 obtain⟨t,ht⟩:=h
 have h1:=congrArg List.reverse ht
 rw[List.reverse_append,List.reverse_reverse]at h1
 rw[<-h1]
 exact zMe _ _
theorem zAp (h:Boxed W b t v) (e:W'.heap[b]? =W.heap[b]?):Boxed W' b t v:=e.trans h
theorem zA6 (h:Boxed W b t v) (o':Obj) (hl:W.heap[l]? =some o) (ho:o.isCells=false):Boxed (W.putObj l o') b t v:=by
 refine(World.putObj_heap_other ?_).trans h
 rintro rfl
 rw[show W.heap[b]? =_ from h]at hl
 obtain rfl:=Option.some.inj hl
 cases ho
theorem zAu {B:Nat} {A:World} (o':Obj) (h:Below B w A) (hl:A.heap[l]? =some o) (hB:B<=l) (hw:B<=A.heap.size):Below B w (A.putObj l o'):=
 h.trans ((Below.refl B A).grown (grownBy_putObj' A l o') hw (fun k e=>by cases e;exact hB))
theorem below_drewN {D:Nat} {w':World} (h:Below D w w') (n:Nat):Below D w (w'.drewN n):=h.trans ⟨rfl,rfl,rfl,Nat.le_refl _,fun _ _=>rfl⟩
theorem zKr (A B:World) (h:∃n,B=A.drewN n):KeepsOthers A B:=by
 obtain⟨n,rfl⟩:=h
 exact⟨Nat.le_refl _,fun k o hk _=>hk⟩
theorem zRz (a:Option Addr) (n c:Nat) (w:World):
  Calls Tryz.prog 163 #[.slice a n c] w fun e w'=>e= .returned (.func (.func 202) #[] #[.pointer (some ⟨w.heap.size,0,none⟩)])/\w.alloc (.cells #[.slice a n c] 23)=w':=by
 have hmf:∀(fn:Fn) (first cap:Array Value) (w:World),(Instr.makeFunc fn first cap).run Tryz.prog w= .ok (.func fn first cap) w:=fun _ _ _ _=>rfl
 go_enter Tryz.func163,Tryz.ntmps163
 go_wp2
 go_ret
 exact⟨rfl,rfl⟩
theorem zUz (l:List Nat) (a:Option Addr) (n c:Nat) (w:World) (hn:l.length=n) (hc:n<=1000000) (hs:Kit.Src w a (l.map ival)) (ha:∀p,a=some p->p.block<w.heap.size) (hl:∀x∈l,x<=1) (hnum:number l<=100000):
  Calls Tryz.prog 110 #[.slice a n c] w fun e w'=>e= .returned (.tuple #[.int .i64 (number l:Int),.int .i64 0])/\Below w.heap.size w w':=by
 have hmf:∀(fn:Fn) (first cap:Array Value) (w:World),(Instr.makeFunc fn first cap).run Tryz.prog w= .ok (.func fn first cap) w:=fun _ _ _ _=>rfl
 obtain⟨B,hB⟩:=zB w.heap.size
 obtain⟨W2,hW2⟩:=zB ((w.alloc (.cells #[.int .i64 0] 3)).alloc (.cells #[.int .i64 0] 26))
 have hz2:W2.heap.size=B+2:=by rw[<-hW2];simp[hB]
 have b2:Below B w W2:=by rw[<-hW2,<-hB];exact((Below.refl _ _).alloc (Nat.le_refl _) _).alloc (by simp) _
 have x0:Boxed W2 B 3 (.int .i64 0):=by
  rw[<-hW2,<-hB];exact(Boxed.new w _ _).alloc _
 have x1:Boxed W2 (B+1) 26 (.int .i64 0):=by
  rw[<-hW2]
  have:=Boxed.new (w.alloc (.cells #[.int .i64 0] 3)) 26 (.int .i64 0)
  rw[World.size_alloc,hB]at this
  exact this
 have hs2:Kit.Src W2 a (l.map ival):=hs.below (by rw[hB];exact b2)
 have HQ:=zH (zE5 (fun _=>false) l 162 a n c W2 hn (by omega) hs2 (zHw Tryz.func162 rfl rfl) (fun x hx=>qAc x (hl x hx) W2))
 rw[any_false]at HQ
 obtain⟨W3,hW3⟩:=zB (W2.alloc (.cells #[.slice a n c] 23))
 have hz3:W3.heap.size=B+3:=by rw[<-hW3];simp[hz2]
 have y0:Boxed W3 B 3 (.int .i64 0):=by rw[<-hW3];exact x0.alloc _
 have y1:Boxed W3 (B+1) 26 (.int .i64 0):=by rw[<-hW3];exact x1.alloc _
 have y2:Boxed W3 (B+2) 23 (.slice a n c):=by rw[<-hW3,<-hz2];exact Boxed.new _ _ _
 have b3:Below B w W3:=by rw[<-hW3];exact b2.alloc (by omega) _
 have s3:Kit.Src W3 a (l.map ival):=hs.below (by rw[hB];exact b3)
 have HA:=zH (show ∀p,a=some p->¬(p.block=B\/p.block=B+1)from fun p hp h=>by have:=ha p hp;omega)
 have Y0:=zH y0
 have Y1:=zH y1
 have Y2:=zH y2
 have B3:=zH b3
 have S3:=zH s3
 have HN:=zH hn
 have HNUM:=zH hnum
 have HLX:=zH hl
 clear hn hs hs2 hnum x0 x1 y0 y1 y2 b2 b3 s3 ha hl
 rw[hB]
 refine(callsIn_wide (n:=3)).1 ?_
 refine callsIn_of_wp_marks Tryz.func110 rfl trivial ?_ rfl
 simp only[Tryz.ntmps110,List.size_toArray,List.length_cons,List.length_nil,Nat.reduceAdd,Nat.reduceSub,Array.replicate_succ,Array.replicate_zero,List.push_toArray,List.append_toArray,List.nil_append,List.cons_append]
 gi_wp2_with fail
 clear hW2
 refine⟨trivial,(callsIn_wide.2 HQ.out).mono ?_⟩
 rintro e w2 ⟨rfl,rfl⟩
 have HQ:=zH (zRz a n c w2)
 rw[hz2,hW3]at HQ
 gi_wp2_with fail
 refine⟨trivial,(callsIn_wide.2 HQ.out).mono ?_⟩
 rintro e w4 ⟨rfl,rfl⟩
 clear HQ hW3 hz2
 gi_wp2
 refine zDt (gf:=202) (lb:= #[.pointer (some ⟨B+2,0,none⟩)]) rfl (enters_of Tryz.func202 (by kernel_rfl) rfl)
  (fun x _ vs=>∃i:Int,vs= #[.int .i64 i,ival x]) (fun A B=>∃n,B=A.drewN n) (fun k=>k=B\/k=B+1) l.reverse zKr (fun _ _ _ h=>by obtain⟨i,rfl⟩:=h;rfl) (fun _ _ _ _ _ _ _ _ h=>h)
  (fun W hW=>qBj (B+2) a n c l HN.out hc _ (by omega) HA.out W (zAp Y2.out (hW.block _ (by omega))) (S3.out.below hW))
  (fun pre W=>Boxed W B 3 (.int .i64 (number pre.reverse:Int))/\Boxed W (B+1) 26 (.int .i64 0)/\Below B w W/\W3.heap.size<=W.heap.size)
  (fun _ _ _=>False)
  (fun pre W k o o' hk ho hcs hi=>⟨zA6 hi.1 o' ho hcs,zA6 hi.2.1 o' ho hcs,zAu o' hi.2.2.1 ho (by omega) (by have:=hi.2.2.2;omega),by rw[putObj_size];exact hi.2.2.2⟩)
  (fun _ _ _ _ _ _ _ _ _ h=>h)
  (fun pre A D hi ho=>by obtain⟨m,rfl⟩:=ho;exact⟨hi.1,hi.2.1,below_drewN hi.2.2.1 m,hi.2.2.2⟩)
  (fun o o'=>⟨(Y0.out.alloc o).alloc o',(Y1.out.alloc o).alloc o',(B3.out.alloc (by omega) o).alloc (by simp;omega) o',by simp;omega⟩)
  (fun vs=>{tmps:= #[.slice a n c,undef,.pointer (some ⟨B,0,none⟩),.pointer (some ⟨B+1,0,none⟩),undef,vs.getD 1 undef,.slice a n c,.bool false,.slice a n c,.func (.func 202) #[] #[.pointer (some ⟨B+2,0,none⟩)],vs.getD 0 undef,vs.getD 1 undef,undef,undef,undef,undef,undef,undef,undef,undef],defers:=[]}) ?assign ?body ?done ?stop
 case assign=>
  rintro k x W vs K ⟨i,rfl⟩ hK
  gi_wp2
  exact hK
 case body=>
  rintro k pre x W vs hsW ⟨hv,hv1,hB2,hz⟩ ⟨i,rfl⟩ hpre
  have hc0:=hv.cell
  have hf0:=hv.frozen
  have hle:=zUy hpre
  rw[List.reverse_append,List.reverse_singleton,List.singleton_append,number]at hle
  have hnm:=HNUM.out
  obtain⟨q,hq⟩:=zB (number pre.reverse)
  rw[hq]at hc0 hle
  have HNX:=zH (show number (pre++[x]).reverse=2*q+x+1 by rw[List.reverse_append,List.reverse_singleton,List.singleton_append,number,hq])
  have HV:=zH hv
  clear hq hv hpre
  have i1:IntKind.i64.wrap (2*(q:Int))=2*(q:Int):=IntWalk.i64_in _ ⟨by omega,by omega⟩
  have i2:IntKind.i64.wrap (2*(q:Int)+(x:Int))=2*(q:Int)+(x:Int):=IntWalk.i64_in _ ⟨by omega,by omega⟩
  have i3:IntKind.i64.wrap (2*(q:Int)+(x:Int)+1)=2*(q:Int)+(x:Int)+1:=IntWalk.i64_in _ ⟨by omega,by omega⟩
  have i4:decide ((1099511627776:Int)<2*(q:Int)+(x:Int)+1)=false:=decide_eq_false (by omega)
  gi_wp2
  refine⟨KeepsOthers.setCell _ _ _,⟨by simp[World.setCell],fun k cs t f hk hcc=>(Below.heap_setCell _ _ _ _ (fun e=>hcc (.inl e))).trans hk⟩,?_,?_,hB2.setCell (p:=⟨B,0,none⟩) (Nat.le_refl _) _,by simp[World.setCell];exact hz⟩
  ·have h1:=HV.out.set (.int .i64 (2*(q:Int)+(x:Int)+1))
   rw[HNX.out,show((2*q+x+1:Nat):Int)=2*(q:Int)+(x:Int)+1 by omega]
   exact h1
  ·exact zAp hv1 (Below.heap_setCell _ _ _ _ (by simp))
 case done=>
  rintro D W hD ⟨hv,hv1,hB2,hz⟩ hK
  rw[List.reverse_reverse]at hv
  obtain⟨q,hq⟩:∃q:Int,(number l:Int)=q:=⟨_,rfl⟩
  rw[hq]at hv
  have HQN:=zH hq
  have hc0:=hv.cell
  have hf0:=hv.frozen
  have hc1:=hv1.cell
  have hf1:=hv1.frozen
  have HV:=zH hv
  have HV1:=zH hv1
  clear hv hv1 hq
  gi_wp2
  have hK1:=(KeepsOthers.setCell W ⟨B,0,none⟩ (.int .i64 q)).same D _ hK rfl
  have hK':=(KeepsOthers.setCell (W.setCell ⟨B,0,none⟩ (.int .i64 q)) ⟨B+1,0,none⟩ (.int .i64 0)).same D _ hK1 rfl
  refine⟨by simp,.inl ⟨_,_,rfl,run_takeDeferred hK',?_⟩⟩
  have hv4:Boxed ((W.setCell ⟨B,0,none⟩ (.int .i64 q)).setCell ⟨B+1,0,none⟩ (.int .i64 0)) B 3 (.int .i64 q):=zAp (HV.out.set (.int .i64 q)) (Below.heap_setCell _ _ _ _ (by simp))
  have hx5:Boxed (W.setCell ⟨B,0,none⟩ (.int .i64 q)) (B+1) 26 (.int .i64 0):=zAp HV1.out (Below.heap_setCell _ _ _ _ (by simp))
  have hv5:Boxed ((W.setCell ⟨B,0,none⟩ (.int .i64 q)).setCell ⟨B+1,0,none⟩ (.int .i64 0)) (B+1) 26 (.int .i64 0):=hx5.set (.int .i64 0)
  have hc4:=(zA6 hv4 (.deferred none) hK' rfl).cell
  have hc5:=(zA6 hv5 (.deferred none) hK' rfl).cell
  refine⟨.tuple #[.int .i64 q,.int .i64 0],?_,by rw[HQN.out],?_⟩
  ·simp[results,Tryz.f110,go_sem,hc4,hc5]
  ·exact zAu _ ((hB2.setCell (p:=⟨B,0,none⟩) (Nat.le_refl _) _).setCell (p:=⟨B+1,0,none⟩) (by simp) _) hK' (by omega) (by simp[World.setCell];omega)
 case stop=>
  rintro D c pre W _ _ h _
  exact h.elim
end Zr
namespace Zr
open Go.RowKit Front Ix Bt
def D (m:List Nat):List Nat:=dec m.length m
theorem qCi:D []=[]:=rfl
theorem qGr (r:List Nat) (h:r≠[]):D r=List.replicate (number (r.take (row 1 r))) 0++match r.drop (row 1 r)with
  |[]=>[]
  |x::t=>(x-1)::D t:=by
 unfold D
 cases hr:r.length with
 |zero=>exact absurd (List.eq_nil_of_length_eq_zero hr) h
 |succ f=>
  rw[dec,if_neg h]
  congr 1
  cases hd:r.drop (row 1 r)with
  |nil=>rfl
  |cons x t=>
   simp only
   have hl:=congrArg List.length hd
   rw[List.length_drop,List.length_cons]at hl
   rw[zRo t.length f t (Nat.le_refl _) (by omega)]
theorem zQd (t:Nat):∀(l:List Nat) (x:Nat) (r:List Nat),l.drop (row t l)=x::r->t<x
 |[],x,r,h=>by simp[row]at h
 |y::l,x,r,h=>by
  unfold row at h
  split at h
  ·rw[List.drop_succ_cons]at h
   exact zQd t l x r h
  ·rw[List.drop_zero]at h
   injection h with h1 _
   omega
theorem zQc (t:Nat):∀(l:List Nat),∀x∈l.take (row t l),x<=t
 |[],x,h=>by simp at h
 |y::l,x,h=>by
  unfold row at h
  split at h
  ·rw[List.take_succ_cons]at h
   rcases List.mem_cons.1 h with rfl|h
   ·assumption
   ·exact zQc t l x h
  ·simp at h
theorem Src.take {w:World} {a:Option Addr} {l:List Nat} (h:Kit.Src w a (l.map ival)) (k:Nat):Kit.Src w a ((l.take k).map ival):=by
 rw[List.map_take];exact Kit.Src.take h k
theorem zOr (w:World) (n:Nat) (hn:n<=1000000):∃w',(Instr.makeSlice 23 (.int .i64 (n:Int)) (.int .i64 (n:Int))).run Tryz.prog w= .ok (.slice (some ⟨w.heap.size,0,none⟩) n n) w'/\
  Kit.Own w' w.heap.size 3 (some ⟨w.heap.size,0,none⟩) n n ((List.replicate n 0).map ival)/\Below w.heap.size w w':=by
 obtain⟨z,hz,hzs⟩:=zNn.row
 obtain⟨i,hi,hz0,hz1,hz2⟩:=info_parts hz
 have hzi:(Value.int .i64 0)=z:=by
  have h2:(Tryz.prog.info? 3).map (fun i=>i.zero)=some (some (.int .i64 0)):=by kernel_rfl
  rw[hi]at h2
  simp only[Option.map_some,Option.some.injEq]at h2
  rw[hz0]at h2
  exact(Option.some.inj h2).symm
 obtain⟨w',hr,ho,hg⟩:=run_makeSlice_full (P:=Tryz.prog) (w:=w) w.heap.size 23 3 i z 1 zNn.ut hi hz0 hz1 .i64 .i64 n (by omega) (by rw[hz2];omega) (by unfold maxLen;omega) (Nat.le_refl _)
 refine⟨w',hr,?_,(Below.refl _ _).grown hg (Nat.le_refl _) (fun k hk=>by cases hk)⟩
 subst hzi
 rw[Nat.mul_one,show(Value.int .i64 0).cells= #[.int .i64 0]from rfl,toList_madeCells_one]at ho
 rw[List.map_replicate]
 exact ho
theorem zFi (m:List Nat) (most:Nat) (a:Option Addr) (n c:Nat) (w:World) (hn:m.length=n) (hn2:n<=100000) (hs:Kit.Src w a (m.map ival)) (hab:∀p,a=some p->p.block<w.heap.size) (had:Ad a n c) (hl:∀x∈m,x<=100000)
  (hmost:(D m).length<=most) (hmax:most<=100000):
  Calls Tryz.prog 37 #[.slice a n c,.int .i64 (most:Int)] w fun e w'=>∃a' c',e= .returned (.tuple #[.slice a' (D m).length c',.int .i64 0])/\Kit.Own w' w.heap.size 3 a' (D m).length c' ((D m).map ival)/\Below w.heap.size w w':=by
 have hmf:∀(fn:Fn) (first cap:Array Value) (w:World),(Instr.makeFunc fn first cap).run Tryz.prog w= .ok (.func fn first cap) w:=fun _ _ _ _=>rfl
 obtain⟨B,hB⟩:=zB w.heap.size
 obtain⟨W,hW⟩:=zB (w.alloc (.cells #[.slice none 0 0] 158))
 have hb0:Below B w W:=by rw[<-hW,<-hB];exact(Below.refl _ _).alloc (Nat.le_refl _) _
 have hX:W.heap[B]? =some (.cells #[.slice none 0 0] 158 (0,0)):=by
  rw[<-hW,<-hB]
  show(w.heap.push _)[w.heap.size]? =_
  simp
 have HLS:=zH (Ls.mk (D:=B) (l:=[]) hX (Kit.Own.start _ _ _) (Nat.le_refl _))
 have HB0:=zH hb0
 have HQ1:=zH (zPc m a n c w hn (by omega) hs (fun x hx=>by have:=hl x hx;omega))
 have HS:=zH hs
 have HL:=zH hl
 have HN:=zH hn
 have HAD:=zH had
 rw[hB]at hab
 have HAB:=zH hab
 obtain⟨T,hTT⟩:=zB (D m)
 rw[hTT]at hmost⊢
 have HTM:=zH hmost
 have HTT:=zH hTT
 clear hb0 hX hs hl hn had hTT hmost hab
 rw[hB]
 go_enter Tryz.func37,Tryz.ntmps37
 go_wp2_with fail
 (with_reducible refine HQ1.out.mono ?_)
 rintro e w2 ⟨rfl,rfl⟩
 go_wp2
 clear HQ1 hW
 go_loopw [0] (fun v wr=>∃(r d:List Nat) (a2:Option Addr) (n2 c2 np:Nat) (p:Option Addr) (cp:Nat),v= .slice a2 n2 c2/\n2<=n/\r.length=n2/\RowKit.Hid (∀x∈r,x<=100000)/\RowKit.Hid (Kit.Src w2 a2 (r.map ival))/\RowKit.Hid (∀p,a2=some p->p.block<B)/\RowKit.Hid (Ad a2 n2 c2)/\RowKit.Hid (Ls wr B B p np cp d)/\RowKit.Hid (Below B w2 wr)/\RowKit.Hid (T=d++D r)) (fun v _=>lenOf v)
 case atStart=>exact⟨m,[],a,n,c,0,none,0,rfl,Nat.le_refl _,HN.out,HL,HS,HAB,HAD,HLS,HB0,zH (by rw[HTT.out];rfl)⟩
 case round=>
  clear HLS HB0 HS HL HN HAD HAB
  obtain⟨r,d,a2,n2,c2,np,p,cp,rfl,hn2n,hrn,hrl,hsr,hab,had,hls,hbr,hT⟩:=hrel
  rcases Nat.eq_zero_or_pos n2 with hz|hz
  ·subst hz
   have hr0:r=[]:=List.eq_nil_of_length_eq_zero hrn
   subst hr0
   obtain⟨x0,f0⟩:=zEb hls.out.blk
   have hTe:T=d:=by rw[hT.out,qCi,List.append_nil]
   have hTl:T.length=np:=by rw[hTe];exact hls.out.len
   have hnp:¬(most:Int)<(np:Int):=by have:=HTM.out;omega
   have HTE:=zH hTe
   have HTl:=zH hTl
   clear hTe hTl
   go_wp2
   go_ret2
   refine⟨p,cp,by rw[HTl.out];rfl,?_,hbr.out⟩
   rw[HTl.out,HTE.out];exact hls.out.own
  ·have hne:r≠[]:=by rintro rfl;simp at hrn;omega
   have hds:=qGr r hne
   have HQ:=zH (zJm r 1 a2 n2 c2 wr hrn (by omega) (hsr.out.below (by rw[hB];exact hbr.out)) (fun x hx=>by have:=hrl.out x hx;omega) (by omega))
   have hqr:=zQe 1 r
   have hqt:=zQc 1 r
   have hqn:=zQd 1 r
   obtain⟨q,hq⟩:=zB (row 1 r)
   rw[hq]at HQ hqr hds hqt hqn
   rw[show((1:Nat):Int)=1 from rfl]at HQ
   rw[hrn]at hqr
   obtain⟨N,hN⟩:=zB (number (r.take q))
   rw[hN]at hds
   have hTs:T=(d++List.replicate N 0)++(match r.drop q with|[]=>[]|x::t=>(x-1)::D t):=by rw[hT.out,hds];simp
   have hNm:np+N<=most:=by
    have h1:=HTM.out
    have h2:=hls.out.len
    rw[hTs]at h1
    simp only[List.length_append,List.length_replicate]at h1
    omega
   have HTS:=zH hTs
   have HQT:=zH hqt
   have HQN:=zH hqn
   have HRN:=zH hrn
   have HNN:=zH hN
   clear hds hq hTs hqt hqn hN hrn hne
   rcases had.out with⟨rfl,rfl,rfl⟩|⟨hnc,hcm,b,off,rfl⟩
   ·omega
   go_wp2_with fail
   (with_reducible refine HQ.out.mono ?_)
   clear HQ
   rintro e w3 ⟨rfl,hb3⟩
   have hbr3:=hbr.out.trans (hb3.mono (by have:=hbr.out.size;omega))
   have HQ:=zH (zUz (r.take q) (some ⟨b,off,none⟩) q c2 w3 (by rw[List.length_take,HRN.out];omega) (by omega) (Src.take (hsr.out.below (by rw[hB];exact hbr3)) q) (fun p hp=>by have h1:=hab.out p hp;have h2:=hbr3.size;omega) HQT.out (by rw[HNN.out];omega))
   rw[HNN.out]at HQ
   have HB3:=zH hbr3
   have HL3:=zH (hls.out.below hb3 rfl)
   clear hb3 hbr3
   go_wp2_with fail
   (with_reducible refine HQ.out.mono ?_)
   clear HQ
   rintro e w4 ⟨rfl,hb4⟩
   have HB4:=zH (HB3.out.trans (hb4.mono (by have:=HB3.out.size;omega)))
   have HL4:=zH (HL3.out.below hb4 rfl)
   clear hb4 HB3 HL3
   obtain⟨x0,f0⟩:=zEb HL4.out.blk
   have j1:max (most:Int) 0=(most:Int):=by omega
   have j2:IntKind.i64.wrap ((most:Int)-(np:Int))=(most:Int)-(np:Int):=IntWalk.i64_in _ ⟨by omega,by omega⟩
   have j3:decide ((most:Int)-(np:Int)<(N:Int))=false:=decide_eq_false (by omega)
   obtain⟨w5,hmk,ho5,hb5⟩:=zOr w4 N (by omega)
   have HQ:=zH (zJx B B p np cp d (some ⟨w4.heap.size,0,none⟩) N N (List.replicate N 0) w5 (HL4.out.below hb5 rfl) ho5.src (by simp) (fun h=>by cases h) (by omega))
   have HB5:=zH (HB4.out.trans (hb5.mono (by have:=HB4.out.size;omega)))
   clear ho5 hb5
   go_wp2_with fail
   (with_reducible refine HQ.out.mono ?_)
   clear HQ x0 f0 hmk j1 j2 j3
   rintro e w6 ⟨rfl,p6,cp6,hls6,hb6⟩
   have HL6:=zH hls6
   have HB6:=zH (HB5.out.trans hb6)
   clear hls6 hb6 HB5 HB4 HL4
   by_cases hlt:q<n2
   ·have hqr2:q<r.length:=by rw[HRN.out];exact hlt
    obtain⟨x,hx⟩:=zB (r[q])
    have hdr:r.drop q=x::r.drop (q+1):=by rw[List.drop_eq_getElem_cons hqr2,hx]
    have hx1:=HQN.out x _ hdr
    have hTe:T=((d++List.replicate N 0)++[x-1])++D (r.drop (q+1)):=by rw[HTS.out,hdr];simp
    obtain⟨b',off',hbo,e0⟩:=(hsr.out.below (w':=w6) (by rw[hB];exact HB6.out)) q (ival x) (by rw[List.getElem?_map,List.getElem?_eq_getElem hqr2,hx];rfl)
    injection hbo with hbo
    injection hbo with hb1 hb2 _
    subst hb1 hb2
    have hxl:x<=100000:=by rw[<-hx];exact hrl.out _ (List.getElem_mem hqr2)
    have HTE:=zH hTe
    have hln:=HL6.out.len
    have hmx:np+N+1<=1000000:=by omega
    have hHS:=hsr.out
    have hsr2:=zH (Src.drop hHS (q+1))
    have hrl2:=zH (show ∀x∈r.drop (q+1),x<=100000 from fun y hy=>hrl.out y (List.mem_of_mem_drop hy))
    have hrn2:=zH (show(r.drop (q+1)).length=n2-q-1 by rw[List.length_drop,HRN.out];omega)
    have hxi:((x-1:Nat):Int)=(x:Int)-1:=by omega
    obtain⟨W7,hW7⟩:=zB (w6.alloc (.cells #[.int .i64 ((x:Int)-1)] 3))
    have hb7:Below w6.heap.size w6 W7:=by rw[<-hW7];exact(Below.refl _ _).alloc (Nat.le_refl _) _
    have hs7:Kit.Src W7 (some ⟨w6.heap.size,0,none⟩) ([x-1].map ival):=by
     rw[<-hW7]
     have:=Kit.zAs w6 (ival (x-1)) 3
     unfold ival at this
     rw[hxi]at this
     show Kit.Src _ _ [ival (x-1)]
     unfold ival
     rw[hxi]
     exact this
    have HQ:=zH (zJx B B p6 (np+N) cp6 (d++List.replicate N 0) (some ⟨w6.heap.size,0,none⟩) 1 1 [x-1] W7 (HL6.out.below hb7 rfl) hs7 rfl (fun h=>by cases h) hmx)
    have HB7:=zH (HB6.out.trans (hb7.mono (by have:=HB6.out.size;omega)))
    have hw1:IntKind.i64.wrap ((x:Int)-1)=(x:Int)-1:=by rw[IntWalk.i64_in _ ⟨by omega,by omega⟩]
    have hcq:¬c2=q:=by omega
    clear hx hdr hTe hln hmx hHS hb7 hs7 hqr2 hxi hx1
    go_wp2_with fail
    clear hW7 e0
    (with_reducible refine HQ.out.mono ?_)
    rintro e w8 ⟨rfl,p8,cp8,hls8,hb8⟩
    have HL8:=zH hls8
    have HB8:=zH (HB7.out.trans hb8)
    clear hls8 hb8 HQ
    have hi1:((n2-q-1:Nat):Int)=(n2:Int)-q-1:=by omega
    by_cases hc1:c2-q=1
    ·go_wp2
     go_roundw
     case rel=>
      refine⟨r.drop (q+1),(d++List.replicate N 0)++[x-1],some ⟨b,off+q,none⟩,n2-q-1,0,np+N+1,p8,cp8,rfl,by omega,hrn2.out,hrl2,zH ?_,zH (fun p hp=>by cases hp;exact hab.out ⟨b,off,none⟩ rfl),zH (.inr ⟨by omega,by omega,_,_,rfl⟩),HL8,HB8,HTE⟩
      rw[List.drop_of_length_le (by rw[HRN.out];omega)]
      exact Kit.Src.nil _ _
     case measure=>simp[lenOf];omega
    ·go_wp2
     go_roundw
     case rel=>exact⟨r.drop (q+1),(d++List.replicate N 0)++[x-1],some ⟨b,off+(q+1),none⟩,n2-q-1,c2-q-1,np+N+1,p8,cp8,rfl,by omega,hrn2.out,hrl2,hsr2,zH (fun p hp=>by cases hp;exact hab.out ⟨b,off,none⟩ rfl),zH (.inr ⟨by omega,by omega,_,_,rfl⟩),HL8,HB8,HTE⟩
     case measure=>simp[lenOf];omega
   ·obtain rfl:q=n2:=by omega
    have hdr:r.drop q=[]:=List.drop_of_length_le (by rw[HRN.out];omega)
    have hTe:T=(d++List.replicate N 0)++D []:=by rw[HTS.out,hdr,qCi]
    have HTE:=zH hTe
    clear hTe hdr
    by_cases hcq:c2=q
    all_goals
     go_wp2
     go_roundw
     case rel=>exact⟨[],d++List.replicate N 0,some ⟨b,_,none⟩,0,_,np+N,p6,cp6,rfl,Nat.zero_le _,rfl,zH (fun x hx=>by cases hx),zH (Kit.Src.nil _ _),zH (fun p hp=>by cases hp;exact hab.out ⟨b,off,none⟩ rfl),zH (.inr ⟨Nat.zero_le _,by omega,_,_,rfl⟩),HL6,HB6,HTE⟩
     case measure=>simp[lenOf];omega
end Zr
end Go.Proofs.YtppnakkaljbmbaaGreatDoor
