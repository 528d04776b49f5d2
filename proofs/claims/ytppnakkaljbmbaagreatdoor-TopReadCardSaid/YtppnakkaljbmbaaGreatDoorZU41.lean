/- Steps of a proof; no condition beyond what each states. -/
import Derived.Test.YtppnakkaljbmbaaGreatDoorZU40
set_option linter.unusedVariables false
set_option linter.unusedSimpArgs false
set_option maxRecDepth 100000
set_option maxHeartbeats 8000000
namespace Go.Proofs.YtppnakkaljbmbaaGreatDoor
namespace Sh
open Go.RowKit Hf Bt Zr Ix Front Wg Ch Sl Sq Us St Tn Bk Rg Sm
section
variable {P:Program} {o:Oper} {a:Act} {w w':World} {K:Act->World->Prop} {Q:Exit->Act->World->Prop}
theorem zA9 (v:Value) (hv:(execOp a.eval o).run P w= .ok (.value v) w') (h:K (a.put o.dst v) w'):Oper.wp P o a w K Q:=by
 unfold Oper.wp
 rw[hv]
 exact h
theorem zBd (m x v:Operand) (t:TypeId) (ho:o.op= .insert t m x v) {vm vx vv:Value} (hm:a.eval m=vm) (hx:a.eval x=vx) (hv:a.eval v=vv) (hr:(Instr.mapUpdate t vm vx vv).run P w= .ok () w') (h:K (a.put o.dst undef) w'):Oper.wp P o a w K Q:=by
 unfold Oper.wp
 simp[execOp,ho,hm,hx,hv,hr,Result.andThen]
 exact h
theorem zHy (g:FuncId) (args:Array Value) {R:Ending->World->Prop} (hv:(execOp a.eval o).run P w= .ok (.enter g args) w) (hc:Calls P g args w R) (h:∀e w',R e w'->∃v,e= .returned v/\K (a.put o.dst v) w'):Oper.wp P o a w K Q:=by
 unfold Oper.wp
 rw[hv,Oper.upon_enter]
 refine hc.mono fun e w'' hh=> ?_
 obtain⟨v,rfl,hK⟩:=h e w'' hh
 exact hK
end
theorem bt {L i j:Nat} (h:j≠i):(L|||1<<<i).testBit j=L.testBit j:=by
 rw[Nat.testBit_or,Nat.one_shiftLeft,Nat.testBit_two_pow,decide_eq_false (fun e=>h e.symm),Bool.or_false]
theorem bs {L i:Nat}:(L|||1<<<i).testBit i=true:=by
 rw[Nat.testBit_or,Nat.one_shiftLeft,Nat.testBit_two_pow,decide_eq_true rfl,Bool.or_true]
theorem bm {L i j:Nat} (h:L.testBit j=true):(L|||1<<<i).testBit j=true:=by rw[Nat.testBit_or,h,Bool.true_or]
abbrev zBt:TypeId:=287
def str (l:List UInt8):Value:= .string ⟨l.toArray⟩
theorem str_inj {k l:List UInt8} (h:str k=str l):k=l:=by
 injection h with h
 injection h with h
 simpa using h
def row (form:List UInt8) (f:Value) (on:Bool):Value:= .agg #[str form,f,.bool on]
def met (f D:Nat):Value:= .func (.func f) #[.pointer (some ⟨D,0,none⟩)] #[]
def zBy (b:Nat):Value:= .func (.func 266) #[] #[.pointer (some ⟨b,0,none⟩)]
def zF4:List (List UInt8):=[[97,114,99,104,105,118,101],[115,105,100,101,99,97,114],[112,97,99,107],[109,111,114,101],[116,117,114,110],[99,117,116],[98,121,116,101,115],[115,97,121],[105,110,100,101,120],[115,97,118,101],[111,112,101,110],[111,112,101,110,98,121],[114,101,97,100],[97,115,107],[115,116,101,112],[115,104,101,108,102],[114,101,97,100,101,114,115]]
def ibL:List Nat:=[7,14,18,22,26,30,34,38,42,46,50,54,58,62,66,70,74]
def zQg (D:Nat):List Value:=[undef,undef,row [110,104] (met 211 D) false,
 row [110,104] (met 212 D) false,
 row [110] (met 213 D) false,
 row [110] (met 214 D) false,
 row [] (met 215 D) false,
 row [] (met 216 D) false,
 row [] (met 217 D) false,
 row [] (met 218 D) false,
 row [110,110] (met 219 D) false,
 row [110,110] (met 220 D) false,
 row [110,110,110] (met 221 D) true,
 row [110,110,110] (met 222 D) true,
 row [110] (met 223 D) true,
 row [] (met 224 D) true,
 row [] (met 225 D) true]
def MS:List Nat:=[0,0,0,4,8,18,32,65,0,0,512,1024,2336,4096,8193,0,32768,65536,131073,0,524288,1048576,2097153,0,8388608,16777216,33554433,0,134217728,268435456,536870913,0,2147483648,4294967296,8589934593,0,34359738368,68719476736,137438953473,0,549755813888,1099511627776,2199023255553,0,8796093022208,17592186044416,35184372088833,0,140737488355328,281474976710656,562949953421313,0,2251799813685248,4503599627370496,9007199254740993,0,36028797018963968,72057594037927936,144115188075855873,0,576460752303423488,1152921504606846976,2305843009213693953,0,9223372036854775808,18446744073709551616,36893488147419103233,0,147573952589676412928,295147905179352825856,590295810358705651713,0,2361183241434822606848,4722366482869645213696,9444732965739290427393,37778931862957161709567,75557863725914323419135]
def L0:Nat:=17630168202713342119710
def zL7:List Nat:=[0,5,6,7,12,13,14,18,22,26,30,34,38,42,46,50,54,58,62,66,70,74,75,76]
def FR (D:Nat) (s2 s3 s8 s9 s14 s15 s61:Value):Act:=⟨#[(.pointer (some ⟨D,0,none⟩)),
 undef,
 s2,
 s3,
 (.pointer (some ⟨D,0,none⟩)),
 (.pointer (some ⟨D,0,none⟩)),
 (.pointer (some ⟨D,0,none⟩)),
 (.pointer (some ⟨D,0,none⟩)),
 s8,
 s9,
 (.pointer (some ⟨D,0,none⟩)),
 (.pointer (some ⟨D,0,none⟩)),
 (.pointer (some ⟨D,0,none⟩)),
 (.pointer (some ⟨D,1,none⟩)),
 s14,
 s15,
 (.pointer (some ⟨D,0,none⟩)),
 met 211 D,
 row [110,104] (met 211 D) false,
 (.pointer (some ⟨D,0,none⟩)),
 met 212 D,
 row [110,104] (met 212 D) false,
 (.pointer (some ⟨D,0,none⟩)),
 met 213 D,
 row [110] (met 213 D) false,
 (.pointer (some ⟨D,0,none⟩)),
 met 214 D,
 row [110] (met 214 D) false,
 (.pointer (some ⟨D,0,none⟩)),
 met 215 D,
 row [] (met 215 D) false,
 (.pointer (some ⟨D,0,none⟩)),
 met 216 D,
 row [] (met 216 D) false,
 (.pointer (some ⟨D,0,none⟩)),
 met 217 D,
 row [] (met 217 D) false,
 (.pointer (some ⟨D,0,none⟩)),
 met 218 D,
 row [] (met 218 D) false,
 (.pointer (some ⟨D,0,none⟩)),
 met 219 D,
 row [110,110] (met 219 D) false,
 (.pointer (some ⟨D,0,none⟩)),
 met 220 D,
 row [110,110] (met 220 D) false,
 (.pointer (some ⟨D,0,none⟩)),
 met 221 D,
 row [110,110,110] (met 221 D) true,
 (.pointer (some ⟨D,0,none⟩)),
 met 222 D,
 row [110,110,110] (met 222 D) true,
 (.pointer (some ⟨D,0,none⟩)),
 met 223 D,
 row [110] (met 223 D) true,
 (.pointer (some ⟨D,0,none⟩)),
 met 224 D,
 row [] (met 224 D) true,
 (.pointer (some ⟨D,0,none⟩)),
 met 225 D,
 row [] (met 225 D) true,
 s61],[]⟩
theorem rest_of:∀i,i<77->L0.testBit i=false->i∈zL7:=by decide
def zGt (D L:Nat) (es:List MapEntry):Prop:=
 (∀e∈es,∃(i:Nat) (k:List UInt8) (b:Nat),zF4[i]? =some k/\ibL[i]? =some b/\e.key=str k/\L.testBit b=true/\(2<=i->(zQg D)[i]? =some e.val))/\
 ∀(i b:Nat) (k:List UInt8),ibL[i]? =some b->zF4[i]? =some k->L.testBit b=true->∃e∈es,e.key=str k
theorem key_inj {i j:Nat} {k:List UInt8} (hi:zF4[i]? =some k) (hj:zF4[j]? =some k):i=j:=by
 have h:∀i,i<17->∀j,j<17->zF4[i]? =zF4[j]? ->i=j:=by decide
 have lt:∀{n:Nat} {k},zF4[n]? =some k->n<17:=fun{n k} h=>(List.getElem?_eq_some_iff.1 h).1
 exact h i (lt hi) j (lt hj) (hi.trans hj.symm)
theorem qF1 {i j b:Nat} (hi:ibL[i]? =some b) (hj:ibL[j]? =some b):i=j:=by
 have h:∀i,i<17->∀j,j<17->ibL[i]? =ibL[j]? ->i=j:=by decide
 have lt:∀{n:Nat} {k},ibL[n]? =some k->n<17:=fun{n k} h=>(List.getElem?_eq_some_iff.1 h).1
 exact h i (lt hi) j (lt hj) (hi.trans hj.symm)
theorem zPq {i b:Nat} (hi:ibL[i]? =some b):b∈ibL:=List.mem_of_getElem? hi
theorem zX0 {D L:Nat} (h:∀b∈ibL,L.testBit b=false):zGt D L []:=
 ⟨fun e he=>(by cases he),fun i b k hb _ hL=>(by rw[h b (zPq hb)]at hL;cases hL)⟩
theorem zU8 {D L j:Nat} {es:List MapEntry} (h:zGt D L es) (hj:j∉ibL):zGt D (L|||1<<<j) es:=by
 refine⟨fun e he=> ?_,fun i b k hb hk hL=> ?_⟩
 ·obtain⟨i,k,b,h1,h2,h3,h4,h5⟩:=h.1 e he
  exact⟨i,k,b,h1,h2,h3,bm h4,h5⟩
 ·rw[bt (show b≠j from fun e=>hj (e▸zPq hb))]at hL
  exact h.2 i b k hb hk hL
theorem zOy {D L:Nat} {es:List MapEntry} (h:zGt D L es):∀x∈es,MapKept.IsKey .string x.key:=by
 intro x hx
 obtain⟨i,k,b,_,_,h3,_⟩:=h.1 x hx
 rw[h3]
 exact trivial
theorem qA0 {D L i b c:Nat} {k:List UInt8} {v:Value} {es:List MapEntry} (h:zGt D L es) (hk:zF4[i]? =some k) (hb:ibL[i]? =some b) (hL:L.testBit b=false) (hv:2<=i->(zQg D)[i]? =some v):
  Instr.findNow .string (str k) es 0=some none/\zGt D (L|||1<<<b) (es++[⟨str k,v,c⟩]):=by
 refine⟨?_,fun e he=> ?_,fun i' b' k' hb' hk' hL'=> ?_⟩
 ·rcases MapKept.findNow_spec (d:= .string) (k:=str k) trivial es 0 (zOy h)with⟨h1,_⟩|⟨j,e,_,h2,h3⟩
  ·exact h1
  ·obtain⟨i',k',b',g1,g2,g3,g4,_⟩:=h.1 e (List.mem_of_getElem? h2)
   obtain rfl:=str_inj (g3.symm.trans h3)
   obtain rfl:=key_inj g1 hk
   rw[g2]at hb
   obtain rfl:=Option.some.inj hb
   rw[g4]at hL
   cases hL
 ·rcases List.mem_append.1 he with he|he
  ·obtain⟨i',k',b',g1,g2,g3,g4,g5⟩:=h.1 e he
   exact⟨i',k',b',g1,g2,g3,bm g4,g5⟩
  ·obtain rfl:=List.mem_singleton.1 he
   exact⟨i,k,b,hk,hb,rfl,bs,hv⟩
 ·by_cases e:b'=b
  ·subst e
   obtain rfl:=qF1 hb' hb
   rw[hk]at hk'
   obtain rfl:=Option.some.inj hk'
   exact⟨_,List.mem_append_right _ (List.mem_singleton.2 rfl),rfl⟩
  ·rw[bt e]at hL'
   obtain⟨x,hx,hxk⟩:=h.2 i' b' k' hb' hk' hL'
   exact⟨x,List.mem_append_left _ hx,hxk⟩
def Knows (D:Nat) (es:List MapEntry):Prop:=∀(i:Nat) (k:List UInt8) (v:Value),2<=i->zF4[i]? =some k->(zQg D)[i]? =some v->∃j,Instr.findNow .string (str k) es 0=some (some (j,v))
theorem zU9 {D L:Nat} {es:List MapEntry} (h:zGt D L es) (hall:∀b∈ibL,L.testBit b=true):Knows D es:=by
 intro i k v hi hk hv
 rcases MapKept.findNow_spec (d:= .string) (k:=str k) trivial es 0 (zOy h)with⟨_,h1⟩|⟨j,e,h1,h2,h3⟩
 ·have hlt:i<17:=(List.getElem?_eq_some_iff.1 hk).1
  have hib:ibL[i]? =some ibL[i]:=List.getElem?_eq_getElem hlt
  obtain⟨x,hx,hxk⟩:=h.2 i _ k hib hk (hall _ (zPq hib))
  exact absurd hxk (h1 x hx)
 ·obtain⟨i',k',b',g1,_,g3,_,g5⟩:=h.1 e (List.mem_of_getElem? h2)
  obtain rfl:=str_inj (g3.symm.trans h3)
  obtain rfl:=key_inj g1 hk
  have:=g5 hi
  rw[hv]at this
  exact⟨0+j,by rw[h1,Option.some.inj this]⟩
theorem qDs {w:World} {M c:Nat} {es:Array MapEntry} {k:List UInt8} (v:Value) (h:w.heap[M]? =some (.map es c)) (hf:Instr.findNow .string (str k) es.toList 0=some none):
  ∃w',(Instr.mapUpdate zBt (.map (some M)) (str k) v).run Tryz.prog w= .ok () w'/\w'.heap[M]? =some (.map (es.push ⟨str k,v,c⟩) (c+1))/\Below M w w':=by
 refine⟨w.putObj M (.map (es.push ⟨str k,v,c⟩) (c+1)),?_,?_,?_⟩
 ·simp[Instr.mapUpdate,run_underlying (show Tryz.prog.underlying zBt=some (.map zAk 285)from Tryz.underlying287),MapKept.run_getObj_map h,MapKept.run_checkKey Tryz.underlying9 (show MapKept.IsKey .string (str k)from trivial),MapKept.run_findKey Tryz.underlying9 hf,MapKept.run_setObj_map _ h,Result.andThen]
  rfl
 ·exact World.putObj_heap_same (zAd h)
 ·exact(Below.refl M w).trans ⟨rfl,rfl,rfl,by rw[putObj_size];exact Nat.le_refl _,fun k hk=>World.putObj_heap_other (by omega)⟩
theorem zTh (D:Nat) (p:Addr) (w:World):
  Calls Tryz.prog 210 #[.pointer (some ⟨D,0,none⟩),.pointer (some p)] w fun e w'=>e= .returned (zBy w.heap.size)/\Below w.heap.size w w':=by
 have hmf:∀(fn:Fn) (first cap:Array Value) (w:World),(Instr.makeFunc fn first cap).run Tryz.prog w= .ok (.func fn first cap) w:=fun _ _ _ _=>rfl
 go_enter Tryz.func210,Tryz.ntmps210
 go_wp2
 go_ret
 exact⟨rfl,(Below.refl _ _).alloc (Nat.le_refl _) _⟩
theorem zAb {w w':World} {M:Nat} {o:Obj} (h:w.heap[M]? =some o) (hb:Below w.heap.size w w'):w'.heap[M]? =some o:=(hb.block M (zAd h)).trans h
def MapAt (D B L:Nat) (w:World) (s:Value):Prop:=∃M es c,s= .map (some M)/\B<=M/\w.heap[M]? =some (.map es c)/\zGt D L es.toList
theorem MapAt.other {D B L j:Nat} {w:World} {s:Value} (h:MapAt D B L w s) (hj:j∉ibL):MapAt D B (L|||1<<<j) w s:=by
 obtain⟨M,es,c,h1,h2,h3,h4⟩:=h
 exact⟨M,es,c,h1,h2,h3,zU8 h4 hj⟩
theorem MapAt.keep {D B L:Nat} {w w':World} {s:Value} (h:MapAt D B L w s) (hb:Below w.heap.size w w'):MapAt D B L w' s:=by
 obtain⟨M,es,c,h1,h2,h3,h4⟩:=h
 exact⟨M,es,c,h1,h2,zAb h3 hb,h4⟩
structure IW (D B:Nat) (w0:World) (L:Nat) (w:World) (s2 s3 s8 s9 s14 s15 s61:Value):Prop where
 mp:L.testBit 0=true->MapAt D B L w s3
 i5:L.testBit 5=true->∃b,s8=zBy b
 i6:L.testBit 6=true->∃b,s9=row [104] (zBy b) false
 i12:L.testBit 12=true->∃b,s14=zBy b
 i13:L.testBit 13=true->∃b,s15=row [104] (zBy b) false
 i75:L.testBit 75=true->s61=s3
 i76:L.testBit 76=true->s2=s3
 bl:Below B w0 w
 le:B<=w0.heap.size
 pre:∀k,L0.testBit k=true->L.testBit k=true
 cl:∀b∈ibL++[75,76],L.testBit b=true->L.testBit 0=true
def IV (D B:Nat) (w0:World) (L:Nat) (a:Act) (w:World):Prop:=∃s2 s3 s8 s9 s14 s15 s61,a=FR D s2 s3 s8 s9 s14 s15 s61/\IW D B w0 L w s2 s3 s8 s9 s14 s15 s61
section
variable {D B:Nat} {w0 w w':World} {L:Nat} {s2 s3 s8 s9 s14 s15 s61:Value}
theorem zF9 {i:Nat} (h:∀b∈ibL++[75,76],L.testBit b=true->L.testBit 0=true) (h0:L.testBit 0=true\/i∉ibL++[75,76]):∀b∈ibL++[75,76],(L|||1<<<i).testBit b=true->(L|||1<<<i).testBit 0=true:=by
 intro b hb hL
 rcases h0 with h0|h0
 ·exact bm h0
 ·rw[bt (show b≠i from fun e=>h0 (e▸hb))]at hL
  exact bm (h b hb hL)
theorem st0 (h:IW D B w0 L w s2 s3 s8 s9 s14 s15 s61) (h0:L.testBit 0=false):IW D B w0 (L|||1<<<0) (w.alloc (.map #[] 0)) s2 (.map (some w.heap.size)) s8 s9 s14 s15 s61:=by
 have no:∀b∈ibL++[75,76],L.testBit b=false:=fun b hb=>by
  cases e:L.testBit b with
  |false=>rfl
  |true=>have:=h.cl b hb e;rw[h0]at this;cases this
 have nz:∀b∈ibL++[75,76],b≠0:=by decide
 have hsz:=Nat.le_trans h.le h.bl.size
 refine⟨fun _=>⟨w.heap.size,#[],0,rfl,hsz,zAh w _,zX0 (fun b hb=> ?_)⟩,fun hh=>h.i5 (by rwa[bt (by decide)]at hh),fun hh=>h.i6 (by rwa[bt (by decide)]at hh),fun hh=>h.i12 (by rwa[bt (by decide)]at hh),fun hh=>h.i13 (by rwa[bt (by decide)]at hh),fun hh=> ?_,fun hh=> ?_,h.bl.trans ((Below.refl _ _).alloc hsz _),h.le,fun k hk=>bm (h.pre k hk),fun b hb hL=>bs⟩
 ·rw[bt (nz b (List.mem_append_left _ hb))]
  exact no b (List.mem_append_left _ hb)
 ·rw[bt (by decide),no 75 (by decide)]at hh;cases hh
 ·rw[bt (by decide),no 76 (by decide)]at hh;cases hh
theorem st5 (h:IW D B w0 L w s2 s3 s8 s9 s14 s15 s61) (x:Nat) (hb:Below w.heap.size w w'):IW D B w0 (L|||1<<<5) w' s2 s3 (zBy x) s9 s14 s15 s61:=
 ⟨fun hh=>((h.mp (by rwa[bt (by decide)]at hh)).other (by decide)).keep hb,fun _=>⟨x,rfl⟩,fun hh=>h.i6 (by rwa[bt (by decide)]at hh),fun hh=>h.i12 (by rwa[bt (by decide)]at hh),fun hh=>h.i13 (by rwa[bt (by decide)]at hh),fun hh=>h.i75 (by rwa[bt (by decide)]at hh),fun hh=>h.i76 (by rwa[bt (by decide)]at hh),h.bl.trans (hb.mono (Nat.le_trans h.le h.bl.size)),h.le,fun k hk=>bm (h.pre k hk),zF9 h.cl (.inr (by decide))⟩
theorem qHw (h:IW D B w0 L w s2 s3 s8 s9 s14 s15 s61) (x:Nat) (hb:Below w.heap.size w w'):IW D B w0 (L|||1<<<12) w' s2 s3 s8 s9 (zBy x) s15 s61:=
 ⟨fun hh=>((h.mp (by rwa[bt (by decide)]at hh)).other (by decide)).keep hb,fun hh=>h.i5 (by rwa[bt (by decide)]at hh),fun hh=>h.i6 (by rwa[bt (by decide)]at hh),fun _=>⟨x,rfl⟩,fun hh=>h.i13 (by rwa[bt (by decide)]at hh),fun hh=>h.i75 (by rwa[bt (by decide)]at hh),fun hh=>h.i76 (by rwa[bt (by decide)]at hh),h.bl.trans (hb.mono (Nat.le_trans h.le h.bl.size)),h.le,fun k hk=>bm (h.pre k hk),zF9 h.cl (.inr (by decide))⟩
theorem st6 (h:IW D B w0 L w s2 s3 s8 s9 s14 s15 s61) (x:Nat):IW D B w0 (L|||1<<<6) w s2 s3 s8 (row [104] (zBy x) false) s14 s15 s61:=
 ⟨fun hh=>((h.mp (by rwa[bt (by decide)]at hh)).other (by decide)),fun hh=>h.i5 (by rwa[bt (by decide)]at hh),fun _=>⟨x,rfl⟩,fun hh=>h.i12 (by rwa[bt (by decide)]at hh),fun hh=>h.i13 (by rwa[bt (by decide)]at hh),fun hh=>h.i75 (by rwa[bt (by decide)]at hh),fun hh=>h.i76 (by rwa[bt (by decide)]at hh),h.bl,h.le,fun k hk=>bm (h.pre k hk),zF9 h.cl (.inr (by decide))⟩
theorem qHv (h:IW D B w0 L w s2 s3 s8 s9 s14 s15 s61) (x:Nat):IW D B w0 (L|||1<<<13) w s2 s3 s8 s9 s14 (row [104] (zBy x) false) s61:=
 ⟨fun hh=>((h.mp (by rwa[bt (by decide)]at hh)).other (by decide)),fun hh=>h.i5 (by rwa[bt (by decide)]at hh),fun hh=>h.i6 (by rwa[bt (by decide)]at hh),fun hh=>h.i12 (by rwa[bt (by decide)]at hh),fun _=>⟨x,rfl⟩,fun hh=>h.i75 (by rwa[bt (by decide)]at hh),fun hh=>h.i76 (by rwa[bt (by decide)]at hh),h.bl,h.le,fun k hk=>bm (h.pre k hk),zF9 h.cl (.inr (by decide))⟩
theorem qHu (h:IW D B w0 L w s2 s3 s8 s9 s14 s15 s61) (h0:L.testBit 0=true):IW D B w0 (L|||1<<<75) w s2 s3 s8 s9 s14 s15 s3:=
 ⟨fun hh=>(h.mp h0).other (by decide),fun hh=>h.i5 (by rwa[bt (by decide)]at hh),fun hh=>h.i6 (by rwa[bt (by decide)]at hh),fun hh=>h.i12 (by rwa[bt (by decide)]at hh),fun hh=>h.i13 (by rwa[bt (by decide)]at hh),fun _=>rfl,fun hh=>h.i76 (by rwa[bt (by decide)]at hh),h.bl,h.le,fun k hk=>bm (h.pre k hk),zF9 h.cl (.inl h0)⟩
theorem qHt (h:IW D B w0 L w s2 s3 s8 s9 s14 s15 s61) (h0:L.testBit 0=true) (e:s61=s3):IW D B w0 (L|||1<<<76) w s61 s3 s8 s9 s14 s15 s61:=
 ⟨fun hh=>(h.mp h0).other (by decide),fun hh=>h.i5 (by rwa[bt (by decide)]at hh),fun hh=>h.i6 (by rwa[bt (by decide)]at hh),fun hh=>h.i12 (by rwa[bt (by decide)]at hh),fun hh=>h.i13 (by rwa[bt (by decide)]at hh),fun hh=>h.i75 (by rwa[bt (by decide)]at hh),fun _=>e,h.bl,h.le,fun k hk=>bm (h.pre k hk),zF9 h.cl (.inl h0)⟩
theorem stI {i b:Nat} {k:List UInt8} {v:Value} (h:IW D B w0 L w s2 s3 s8 s9 s14 s15 s61) (h0:L.testBit 0=true) (hk:zF4[i]? =some k) (hb:ibL[i]? =some b) (hL:L.testBit b=false) (hv:2<=i->(zQg D)[i]? =some v):
  ∃w',(Instr.mapUpdate zBt s3 (str k) v).run Tryz.prog w= .ok () w'/\IW D B w0 (L|||1<<<b) w' s2 s3 s8 s9 s14 s15 s61:=by
 obtain⟨M,es,c,rfl,h2,h3,h4⟩:=h.mp h0
 obtain⟨hf,hg⟩:=qA0 (c:=c) h4 hk hb hL hv
 obtain⟨w',hr,hm,hbl⟩:=qDs v h3 hf
 have hbi:=zPq hb
 have ne:∀x∈ibL,x≠5/\x≠6/\x≠12/\x≠13/\x≠75/\x≠76:=by decide
 obtain⟨n5,n6,n12,n13,n75,n76⟩:=ne b hbi
 exact⟨w',hr,fun _=>⟨M,_,_,rfl,h2,hm,by rw[Array.toList_push];exact hg⟩,fun hh=>h.i5 (by rwa[bt n5.symm]at hh),fun hh=>h.i6 (by rwa[bt n6.symm]at hh),fun hh=>h.i12 (by rwa[bt n12.symm]at hh),fun hh=>h.i13 (by rwa[bt n13.symm]at hh),fun hh=>h.i75 (by rwa[bt n75.symm]at hh),fun hh=>h.i76 (by rwa[bt n76.symm]at hh),h.bl.trans (hbl.mono h2),h.le,fun k hk=>bm (h.pre k hk),zF9 h.cl (.inl h0)⟩
end
theorem qAn (D:Nat) (w:World):IW D w.heap.size w L0 w.drew (.map none) undef undef undef undef undef undef:=by
 have no:∀b∈zL7,L0.testBit b=false:=by decide
 have g:∀b∈zL7,L0.testBit b=true->False:=fun b hb h=>by rw[no b hb]at h;cases h
 exact⟨fun h=>(g 0 (by decide) h).elim,fun h=>(g 5 (by decide) h).elim,fun h=>(g 6 (by decide) h).elim,fun h=>(g 12 (by decide) h).elim,fun h=>(g 13 (by decide) h).elim,fun h=>(g 75 (by decide) h).elim,fun h=>(g 76 (by decide) h).elim,(Below.refl _ _).drew,Nat.le_refl _,fun k hk=>hk,fun b hb h=>(g b ((by decide:∀b∈ibL++[75,76],b∈zL7) b hb) h).elim⟩
theorem qFu {D B:Nat} {w0 w:World} {L:Nat} {s2 s3 s8 s9 s14 s15 s61:Value} (h:IW D B w0 L w s2 s3 s8 s9 s14 s15 s61) (hall:∀i,i<77->L.testBit i=true):∃M es c,s2= .map (some M)/\B<=M/\w.heap[M]? =some (.map es c)/\Knows D es.toList/\Below B w0 w:=by
 obtain⟨M,es,c,h1,h2,h3,h4⟩:=h.mp (hall 0 (by decide))
 exact⟨M,es,c,(h.i76 (hall 76 (by decide))).trans h1,h2,h3,zU9 h4 (fun b hb=>hall b ((by decide:∀b∈ibL,b<77) b hb)),h.bl⟩
end Sh
namespace Sh
open Go.RowKit Hf Bt Zr Ix Front Wg Ch Sl Sq Us St Tn Bk Rg Sm
theorem zQa (D:Nat) (w:World):
  Calls Tryz.prog 171 #[.pointer (some ⟨D,0,none⟩)] w fun e w'=>∃M es c,e= .returned (.map (some M))/\w.heap.size<=M/\w'.heap[M]? =some (.map es c)/\Knows D es.toList/\Below w.heap.size w w':=by
 go_enter Tryz.func171,Tryz.ntmps171
 try go_wp2_with fail
 refine zS [] (fun _=>True) MS 77<|zu 1 4 (zP D 0)<|zu 2 5 (zP D 0)<|zu 3 6 (zP D 0)<|zu 4 7 (zP D 0)<|zu 8 10 (zP D 0)<|zu 9 11 (zP D 0)<|zu 10 12 (zP D 0)<|zu 11 13 (zP D 1)<|zu 15 16 (zP D 0)<|zu 16 17 (met 211 D)<|zu 17 18 (row [110,104] (met 211 D) false)<|zu 19 19 (zP D 0)<|zu 20 20 (met 212 D)<|zu 21 21 (row [110,104] (met 212 D) false)<|zu 23 22 (zP D 0)<|zu 24 23 (met 213 D)<|zu 25 24 (row [110] (met 213 D) false)<|zu 27 25 (zP D 0)<|zu 28 26 (met 214 D)<|zu 29 27 (row [110] (met 214 D) false)<|zu 31 28 (zP D 0)<|zu 32 29 (met 215 D)<|zu 33 30 (row [] (met 215 D) false)<|zu 35 31 (zP D 0)<|zu 36 32 (met 216 D)<|zu 37 33 (row [] (met 216 D) false)<|zu 39 34 (zP D 0)<|zu 40 35 (met 217 D)<|zu 41 36 (row [] (met 217 D) false)<|zu 43 37 (zP D 0)<|zu 44 38 (met 218 D)<|zu 45 39 (row [] (met 218 D) false)<|zu 47 40 (zP D 0)<|zu 48 41 (met 219 D)<|zu 49 42 (row [110,110] (met 219 D) false)<|zu 51 43 (zP D 0)<|zu 52 44 (met 220 D)<|zu 53 45 (row [110,110] (met 220 D) false)<|zu 55 46 (zP D 0)<|zu 56 47 (met 221 D)<|zu 57 48 (row [110,110,110] (met 221 D) true)<|zu 59 49 (zP D 0)<|zu 60 50 (met 222 D)<|zu 61 51 (row [110,110,110] (met 222 D) true)<|zu 63 52 (zP D 0)<|zu 64 53 (met 223 D)<|zu 65 54 (row [110] (met 223 D) true)<|zu 67 55 (zP D 0)<|zu 68 56 (met 224 D)<|zu 69 57 (row [] (met 224 D) true)<|zu 71 58 (zP D 0)<|zu 72 59 (met 225 D)<|zu 73 60 (row [] (met 225 D) true)<| ?_
 refine Kit.At_.cast (a':=FR D (.map none) undef undef undef undef undef undef) ?_ (by kernel_rfl)
 refine Kit.qAo (IV D w.heap.size w) (by kernel_rfl) ?_ ?_ 24 L0 _ _ ⟨_,_,_,_,_,_,_,rfl,qAn D w⟩ (by kernel_rfl)
 ·intro L a w1 i m hI hm hb hdep
  obtain⟨s2,s3,s8,s9,s14,s15,s61,rfl,h⟩:=hI
  have hi:i<77:=(List.getElem?_eq_some_iff.1 hm).1
  have hi0:L0.testBit i=false:=by
   cases e:L0.testBit i with
   |false=>rfl
   |true=>rw[h.pre i e]at hb;cases hb
  have hr:=rest_of i hi hi0
  clear hi hi0
  simp only[zL7,List.mem_cons,List.not_mem_nil,or_false]at hr
  rcases hr with rfl|rfl|rfl|rfl|rfl|rfl|rfl|rfl|rfl|rfl|rfl|rfl|rfl|rfl|rfl|rfl|rfl|rfl|rfl|rfl|rfl|rfl|rfl|rfl
  ·obtain rfl:(0:Nat)=m:=Option.some.inj hm
   refine⟨_,rfl,by kernel_rfl,zA9 (w':=w1.alloc (.map #[] 0)) (.map (some w1.heap.size)) (by kernel_rfl) ⟨.inr (.inr trivial),s2,.map (some w1.heap.size),s8,s9,s14,s15,s61,by kernel_rfl,st0 h hb⟩⟩
  ·obtain rfl:(18:Nat)=m:=Option.some.inj hm
   refine⟨_,rfl,by kernel_rfl,zHy 210 #[.pointer (some ⟨D,0,none⟩),.pointer (some ⟨D,0,none⟩)] (by kernel_rfl) (zTh D ⟨D,0,none⟩ w1) (fun e w2 hh=>⟨zBy w1.heap.size,hh.1,.inr (.inr trivial),s2,s3,zBy w1.heap.size,s9,s14,s15,s61,by kernel_rfl,st5 h _ hh.2⟩)⟩
  ·obtain rfl:(32:Nat)=m:=Option.some.inj hm
   obtain⟨x,rfl⟩:=h.i5 (hdep 5 (by kernel_rfl))
   refine⟨_,rfl,by kernel_rfl,zA9 (row [104] (zBy x) false) (by kernel_rfl) ⟨.inr (.inr trivial),s2,s3,zBy x,row [104] (zBy x) false,s14,s15,s61,by kernel_rfl,st6 h x⟩⟩
  ·obtain rfl:(65:Nat)=m:=Option.some.inj hm
   obtain⟨x,rfl⟩:=h.i6 (hdep 6 (by kernel_rfl))
   obtain⟨w2,hr,hn⟩:=stI (i:=0) (v:=row [104] (zBy x) false) h (hdep 0 (by kernel_rfl)) rfl rfl hb (fun hh=>absurd hh (by decide))
   refine⟨_,rfl,by kernel_rfl,zBd (.tmp 3) (.const (str [97,114,99,104,105,118,101])) (.tmp 9) zBt rfl (by kernel_rfl) (by kernel_rfl) (by kernel_rfl) hr ⟨.inr (.inr trivial),s2,s3,s8,row [104] (zBy x) false,s14,s15,s61,by kernel_rfl,hn⟩⟩
  ·obtain rfl:(2336:Nat)=m:=Option.some.inj hm
   refine⟨_,rfl,by kernel_rfl,zHy 210 #[.pointer (some ⟨D,0,none⟩),.pointer (some ⟨D,1,none⟩)] (by kernel_rfl) (zTh D ⟨D,1,none⟩ w1) (fun e w2 hh=>⟨zBy w1.heap.size,hh.1,.inr (.inr trivial),s2,s3,s8,s9,zBy w1.heap.size,s15,s61,by kernel_rfl,qHw h _ hh.2⟩)⟩
  ·obtain rfl:(4096:Nat)=m:=Option.some.inj hm
   obtain⟨x,rfl⟩:=h.i12 (hdep 12 (by kernel_rfl))
   refine⟨_,rfl,by kernel_rfl,zA9 (row [104] (zBy x) false) (by kernel_rfl) ⟨.inr (.inr trivial),s2,s3,s8,s9,zBy x,row [104] (zBy x) false,s61,by kernel_rfl,qHv h x⟩⟩
  ·obtain rfl:(8193:Nat)=m:=Option.some.inj hm
   obtain⟨x,rfl⟩:=h.i13 (hdep 13 (by kernel_rfl))
   obtain⟨w2,hr,hn⟩:=stI (i:=1) (v:=row [104] (zBy x) false) h (hdep 0 (by kernel_rfl)) rfl rfl hb (fun hh=>absurd hh (by decide))
   refine⟨_,rfl,by kernel_rfl,zBd (.tmp 3) (.const (str [115,105,100,101,99,97,114])) (.tmp 15) zBt rfl (by kernel_rfl) (by kernel_rfl) (by kernel_rfl) hr ⟨.inr (.inr trivial),s2,s3,s8,s9,s14,row [104] (zBy x) false,s61,by kernel_rfl,hn⟩⟩
  ·obtain rfl:(131073:Nat)=m:=Option.some.inj hm
   obtain⟨w2,hr,hn⟩:=stI (i:=2) (v:=row [110,104] (met 211 D) false) h (hdep 0 (by kernel_rfl)) rfl rfl hb (fun _=>rfl)
   refine⟨_,rfl,by kernel_rfl,zBd (.tmp 3) (.const (str [112,97,99,107])) (.tmp 18) zBt rfl (by kernel_rfl) (by kernel_rfl) (by kernel_rfl) hr ⟨.inr (.inr trivial),s2,s3,s8,s9,s14,s15,s61,by kernel_rfl,hn⟩⟩
  ·obtain rfl:(2097153:Nat)=m:=Option.some.inj hm
   obtain⟨w2,hr,hn⟩:=stI (i:=3) (v:=row [110,104] (met 212 D) false) h (hdep 0 (by kernel_rfl)) rfl rfl hb (fun _=>rfl)
   refine⟨_,rfl,by kernel_rfl,zBd (.tmp 3) (.const (str [109,111,114,101])) (.tmp 21) zBt rfl (by kernel_rfl) (by kernel_rfl) (by kernel_rfl) hr ⟨.inr (.inr trivial),s2,s3,s8,s9,s14,s15,s61,by kernel_rfl,hn⟩⟩
  ·obtain rfl:(33554433:Nat)=m:=Option.some.inj hm
   obtain⟨w2,hr,hn⟩:=stI (i:=4) (v:=row [110] (met 213 D) false) h (hdep 0 (by kernel_rfl)) rfl rfl hb (fun _=>rfl)
   refine⟨_,rfl,by kernel_rfl,zBd (.tmp 3) (.const (str [116,117,114,110])) (.tmp 24) zBt rfl (by kernel_rfl) (by kernel_rfl) (by kernel_rfl) hr ⟨.inr (.inr trivial),s2,s3,s8,s9,s14,s15,s61,by kernel_rfl,hn⟩⟩
  ·obtain rfl:(536870913:Nat)=m:=Option.some.inj hm
   obtain⟨w2,hr,hn⟩:=stI (i:=5) (v:=row [110] (met 214 D) false) h (hdep 0 (by kernel_rfl)) rfl rfl hb (fun _=>rfl)
   refine⟨_,rfl,by kernel_rfl,zBd (.tmp 3) (.const (str [99,117,116])) (.tmp 27) zBt rfl (by kernel_rfl) (by kernel_rfl) (by kernel_rfl) hr ⟨.inr (.inr trivial),s2,s3,s8,s9,s14,s15,s61,by kernel_rfl,hn⟩⟩
  ·obtain rfl:(8589934593:Nat)=m:=Option.some.inj hm
   obtain⟨w2,hr,hn⟩:=stI (i:=6) (v:=row [] (met 215 D) false) h (hdep 0 (by kernel_rfl)) rfl rfl hb (fun _=>rfl)
   refine⟨_,rfl,by kernel_rfl,zBd (.tmp 3) (.const (str [98,121,116,101,115])) (.tmp 30) zBt rfl (by kernel_rfl) (by kernel_rfl) (by kernel_rfl) hr ⟨.inr (.inr trivial),s2,s3,s8,s9,s14,s15,s61,by kernel_rfl,hn⟩⟩
  ·obtain rfl:(137438953473:Nat)=m:=Option.some.inj hm
   obtain⟨w2,hr,hn⟩:=stI (i:=7) (v:=row [] (met 216 D) false) h (hdep 0 (by kernel_rfl)) rfl rfl hb (fun _=>rfl)
   refine⟨_,rfl,by kernel_rfl,zBd (.tmp 3) (.const (str [115,97,121])) (.tmp 33) zBt rfl (by kernel_rfl) (by kernel_rfl) (by kernel_rfl) hr ⟨.inr (.inr trivial),s2,s3,s8,s9,s14,s15,s61,by kernel_rfl,hn⟩⟩
  ·obtain rfl:(2199023255553:Nat)=m:=Option.some.inj hm
   obtain⟨w2,hr,hn⟩:=stI (i:=8) (v:=row [] (met 217 D) false) h (hdep 0 (by kernel_rfl)) rfl rfl hb (fun _=>rfl)
   refine⟨_,rfl,by kernel_rfl,zBd (.tmp 3) (.const (str [105,110,100,101,120])) (.tmp 36) zBt rfl (by kernel_rfl) (by kernel_rfl) (by kernel_rfl) hr ⟨.inr (.inr trivial),s2,s3,s8,s9,s14,s15,s61,by kernel_rfl,hn⟩⟩
  ·obtain rfl:(35184372088833:Nat)=m:=Option.some.inj hm
   obtain⟨w2,hr,hn⟩:=stI (i:=9) (v:=row [] (met 218 D) false) h (hdep 0 (by kernel_rfl)) rfl rfl hb (fun _=>rfl)
   refine⟨_,rfl,by kernel_rfl,zBd (.tmp 3) (.const (str [115,97,118,101])) (.tmp 39) zBt rfl (by kernel_rfl) (by kernel_rfl) (by kernel_rfl) hr ⟨.inr (.inr trivial),s2,s3,s8,s9,s14,s15,s61,by kernel_rfl,hn⟩⟩
  ·obtain rfl:(562949953421313:Nat)=m:=Option.some.inj hm
   obtain⟨w2,hr,hn⟩:=stI (i:=10) (v:=row [110,110] (met 219 D) false) h (hdep 0 (by kernel_rfl)) rfl rfl hb (fun _=>rfl)
   refine⟨_,rfl,by kernel_rfl,zBd (.tmp 3) (.const (str [111,112,101,110])) (.tmp 42) zBt rfl (by kernel_rfl) (by kernel_rfl) (by kernel_rfl) hr ⟨.inr (.inr trivial),s2,s3,s8,s9,s14,s15,s61,by kernel_rfl,hn⟩⟩
  ·obtain rfl:(9007199254740993:Nat)=m:=Option.some.inj hm
   obtain⟨w2,hr,hn⟩:=stI (i:=11) (v:=row [110,110] (met 220 D) false) h (hdep 0 (by kernel_rfl)) rfl rfl hb (fun _=>rfl)
   refine⟨_,rfl,by kernel_rfl,zBd (.tmp 3) (.const (str [111,112,101,110,98,121])) (.tmp 45) zBt rfl (by kernel_rfl) (by kernel_rfl) (by kernel_rfl) hr ⟨.inr (.inr trivial),s2,s3,s8,s9,s14,s15,s61,by kernel_rfl,hn⟩⟩
  ·obtain rfl:(144115188075855873:Nat)=m:=Option.some.inj hm
   obtain⟨w2,hr,hn⟩:=stI (i:=12) (v:=row [110,110,110] (met 221 D) true) h (hdep 0 (by kernel_rfl)) rfl rfl hb (fun _=>rfl)
   refine⟨_,rfl,by kernel_rfl,zBd (.tmp 3) (.const (str [114,101,97,100])) (.tmp 48) zBt rfl (by kernel_rfl) (by kernel_rfl) (by kernel_rfl) hr ⟨.inr (.inr trivial),s2,s3,s8,s9,s14,s15,s61,by kernel_rfl,hn⟩⟩
  ·obtain rfl:(2305843009213693953:Nat)=m:=Option.some.inj hm
   obtain⟨w2,hr,hn⟩:=stI (i:=13) (v:=row [110,110,110] (met 222 D) true) h (hdep 0 (by kernel_rfl)) rfl rfl hb (fun _=>rfl)
   refine⟨_,rfl,by kernel_rfl,zBd (.tmp 3) (.const (str [97,115,107])) (.tmp 51) zBt rfl (by kernel_rfl) (by kernel_rfl) (by kernel_rfl) hr ⟨.inr (.inr trivial),s2,s3,s8,s9,s14,s15,s61,by kernel_rfl,hn⟩⟩
  ·obtain rfl:(36893488147419103233:Nat)=m:=Option.some.inj hm
   obtain⟨w2,hr,hn⟩:=stI (i:=14) (v:=row [110] (met 223 D) true) h (hdep 0 (by kernel_rfl)) rfl rfl hb (fun _=>rfl)
   refine⟨_,rfl,by kernel_rfl,zBd (.tmp 3) (.const (str [115,116,101,112])) (.tmp 54) zBt rfl (by kernel_rfl) (by kernel_rfl) (by kernel_rfl) hr ⟨.inr (.inr trivial),s2,s3,s8,s9,s14,s15,s61,by kernel_rfl,hn⟩⟩
  ·obtain rfl:(590295810358705651713:Nat)=m:=Option.some.inj hm
   obtain⟨w2,hr,hn⟩:=stI (i:=15) (v:=row [] (met 224 D) true) h (hdep 0 (by kernel_rfl)) rfl rfl hb (fun _=>rfl)
   refine⟨_,rfl,by kernel_rfl,zBd (.tmp 3) (.const (str [115,104,101,108,102])) (.tmp 57) zBt rfl (by kernel_rfl) (by kernel_rfl) (by kernel_rfl) hr ⟨.inr (.inr trivial),s2,s3,s8,s9,s14,s15,s61,by kernel_rfl,hn⟩⟩
  ·obtain rfl:(9444732965739290427393:Nat)=m:=Option.some.inj hm
   obtain⟨w2,hr,hn⟩:=stI (i:=16) (v:=row [] (met 225 D) true) h (hdep 0 (by kernel_rfl)) rfl rfl hb (fun _=>rfl)
   refine⟨_,rfl,by kernel_rfl,zBd (.tmp 3) (.const (str [114,101,97,100,101,114,115])) (.tmp 60) zBt rfl (by kernel_rfl) (by kernel_rfl) (by kernel_rfl) hr ⟨.inr (.inr trivial),s2,s3,s8,s9,s14,s15,s61,by kernel_rfl,hn⟩⟩
  ·obtain rfl:(37778931862957161709567:Nat)=m:=Option.some.inj hm
   refine⟨_,rfl,by kernel_rfl,zA9 s3 (by kernel_rfl) ⟨.inr (.inr trivial),s2,s3,s8,s9,s14,s15,s3,by kernel_rfl,qHu h (hdep 0 (by kernel_rfl))⟩⟩
  ·obtain rfl:(75557863725914323419135:Nat)=m:=Option.some.inj hm
   refine⟨_,rfl,by kernel_rfl,zA9 s61 (by kernel_rfl) ⟨.inr (.inr trivial),s61,s3,s8,s9,s14,s15,s61,by kernel_rfl,qHt h (hdep 0 (by kernel_rfl)) (h.i75 (hdep 75 (by kernel_rfl)))⟩⟩
 ·intro L a w1 hI hall
  obtain⟨s2,s3,s8,s9,s14,s15,s61,rfl,h⟩:=hI
  obtain⟨M,es,c,rfl,hM,hm,hk,hbl⟩:=qFu h (fun i hi=>hall i hi)
  clear h hall
  simp only[FR]
  go_wp2
  go_ret
  exact⟨M,es,c,rfl,hM,hm,hk,hbl⟩
end Sh
end Go.Proofs.YtppnakkaljbmbaaGreatDoor
