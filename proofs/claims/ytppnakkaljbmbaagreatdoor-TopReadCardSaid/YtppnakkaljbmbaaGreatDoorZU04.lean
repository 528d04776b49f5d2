/- Steps of a proof; no condition beyond what each states. -/
import Derived.BigQuiet
import Derived.Deep.DeepCutAuto
import Derived.Lib.Hide
import Derived.Test.YtppnakkaljbmbaaGreatDoorProg
import Derived.WalkLawsBesides
import Derived.WalkSpells
import Derived.Test.YtppnakkaljbmbaaGreatDoorZU03
set_option linter.unusedVariables false
set_option linter.unusedSimpArgs false
set_option maxRecDepth 100000
set_option maxHeartbeats 8000000
namespace Go.Proofs.YtppnakkaljbmbaaGreatDoor
namespace Bt
open Go.RowKit
theorem zBw {k:IntKind} {a b:Int} (h:a=b):Ending.returned (.int k a)= .returned (.int k b):=by rw[h]
@[irreducible] def bv (b:Bool):Int:=if b then 128 else 0
theorem zNw:bv true=128:=by unfold bv;rfl
theorem zRv:bv false=0:=by unfold bv;rfl
theorem qCg (b:Bool):(bv b !=0)=b:=by cases b<;>simp[zNw,zRv]
theorem zNz:∀x:Fin 256,∀k:Fin 8,bits .and .u8 ((x.val:Int)*2^k.val%256) 128=if zVm x.val k.val then 128 else 0:=by decide+kernel
theorem zRf (s:ByteArray) (k:Nat) (h:k<s.size):s.data.getD k 0=s[k]:=by
 rw[Array.getD_eq_getD_getElem?]
 have h':k<s.data.size:=h
 rw[Array.getElem?_eq_getElem h']
 rfl
theorem qEe (s:ByteArray) (i:Nat) (h:i/8<s.size):bits .and .u8 ((s[i/8].toNat:Int)*2^(i%8)%256) 128=bv (zBm s i):=by
 have h1:=zNz ⟨s[i/8].toNat,UInt8.toNat_lt _⟩ ⟨i%8,Nat.mod_lt _ (by omega)⟩
 rw[h1]
 unfold zBm bv
 rw[zRf s _ h]
theorem zNy (s:ByteArray) (i:Nat) (hi:i<8*s.size) (hs:s.size<=1000000000) (w:World):
  Calls Tryz.prog 104 #[.string s,.int .i64 (i:Int)] w fun e w'=>e= .returned (.int .u8 (bv (zBm s i)))/\w=w':=by
 have h1:i/8<s.size:=by omega
 have h2:(i:Int).tdiv 8=((i/8:Nat):Int):=rfl
 have h3:(i:Int).tmod 8=((i%8:Nat):Int):=rfl
 have h4:i%8<8:=Nat.mod_lt _ (by omega)
 have HB:=zH (qEe s i h1)
 go_enter Tryz.func104,Tryz.ntmps104
 go_wp2
 go_ret
 exact⟨zBw HB.out,rfl⟩
theorem qGf (s:ByteArray) (a:Int) (i:Nat) (e:a=(i:Int)) (hi:i<8*s.size) (hs:s.size<=1000000000) (w:World):
  Calls Tryz.prog 104 #[.string s,.int .i64 a] w fun e w'=>e= .returned (.int .u8 (bv (zBm s i)))/\w=w':=by
 subst e
 exact zNy s i hi hs w
abbrev zAe (l:List Bool):Value:= .agg #[.string (pk l),.int .i64 (l.length:Int)]
theorem zGf (l:List Bool) (hl:l.length<=1000000) (w:World):
  Calls Tryz.prog 156 #[zAe l] w fun e w'=>e= .returned (.bool true)/\Below w.heap.size w w':=by
 obtain⟨n,hn⟩:=zB l.length
 obtain⟨d,hd⟩:=zB (pk l)
 have hsz:d.size=zA2 n:=by rw[<-hd,<-hn,zDu]
 have h0:∀i,n<=i->i<8*d.size->zBm d i=false:=by
  intro i h1 h2
  rw[<-hd]at h2⊢
  rw[zGo l i h2,zDe l i (by omega)]
 have H0:=zH h0
 unfold zAe
 rw[hn,hd]
 rw[hn]at hl
 unfold zA2 at hsz
 have hsm:d.size<=1000000000:=by omega
 have hcase:((n:Int)%8=0/\((d.size:Int)!=(n:Int)/8)=false)\/((n:Int)%8=1/\((d.size:Int)!=(n:Int)/8+1)=false)\/((1<(n:Int)%8)/\((d.size:Int)!=(n:Int)/8+1)=false):=by
  simp only[bne_eq_false_iff_eq]
  omega
 have HSZ:=zH hsz
 clear h0 hsz hd hn
 obtain⟨W0,hW0⟩:=zB (w.alloc (.cells #[.string d,.int .i64 (n:Int)] 51))
 have hb:Below w.heap.size w W0:=by rw[<-hW0];exact(Below.refl _ _).alloc (Nat.le_refl _) _
 obtain⟨B,hB⟩:=zB w.heap.size
 have c0:W0.cell? ⟨B,0,none⟩=some (.string d):=by rw[<-hW0,<-hB];simp
 have c1:W0.cell? ⟨B,1,none⟩=some (.int .i64 (n:Int)):=by rw[<-hW0,<-hB];simp
 have HB:=zH hb
 clear hb
 rcases hcase with⟨hr,hx⟩|⟨hr,hx⟩|⟨hr,hx⟩
 all_goals
  go_enter Tryz.func156,Tryz.ntmps156
  go_wp2
  clear hr hx
  go_loopw [3] (fun i wr=>∃j:Nat,n<=j/\j<=8*d.size/\i= .int .i64 j/\W0=wr) (fun i _=>8*d.size-(intOf i).toNat)
  case atStart=>exact⟨n,Nat.le_refl _,by have:=HSZ.out;omega,rfl,by first|rfl|exact hW0.symm⟩
  case round=>
   obtain⟨j,hnj,hj,rfl,hw⟩:=hrel
   subst hw
   by_cases hlt:j<8*d.size
   ·have HG:=zH (H0.out j hnj hlt)
    have HBT:=zH (zNy d j hlt hsm)
    go_wp2_with fail
    (with_reducible refine(HBT.out _).mono ?_)
    rintro e w2 ⟨rfl,rfl⟩
    have hz:(bv (zBm d j)!=0)=false:=by rw[HG.out];exact qCg false
    go_wp2
    go_roundw
    case rel=>exact⟨j+1,by omega,by omega,by go_num,trivial⟩
    case measure=>simp[intOf];omega
   ·go_wp2
    go_ret
    exact⟨rfl,HB.out⟩
def take (s:ByteArray) (i n:Nat):List Bool:=(List.range n).map fun j=>zBm s (i+j)
theorem take_length (s:ByteArray) (i n:Nat):(take s i n).length=n:=by simp[take]
theorem zEz (s:ByteArray) (i n:Nat):take s i (n+1)=take s i n++[zBm s (i+n)]:=by
 unfold take
 rw[List.range_succ,List.map_append]
 rfl
theorem or_bit (v:Nat) (hv:v<9223372036854775808) (b:Bool):bits .or .u64 (IntKind.u64.wrap ((v:Int)*2)) (IntKind.u64.wrap (bv b/128))=((v*2+b.toNat:Nat):Int):=by
 have e1:IntKind.u64.wrap ((v:Int)*2)=((v*2:Nat):Int):=by rw[IntWalk.u64_in _ ⟨by omega,by omega⟩];omega
 have e2:IntKind.u64.wrap (bv b/128)=((b.toNat:Nat):Int):=by cases b<;>simp[zNw,zRv]<;>exact IntWalk.u64_in _ ⟨by omega,by omega⟩
 rw[e1,e2,u64_or_nat _ _ (by omega) (by cases b<;>simp)]
 congr 1
 cases b
 ·simp
 ·show v*2|||1=v*2+1
  apply Nat.eq_of_testBit_eq
  intro i
  cases i with
  |zero=>simp[Nat.testBit_zero]
  |succ i=>rw[Nat.testBit_or,Nat.testBit_succ,Nat.testBit_succ,Nat.testBit_succ];simp;congr 1;omega
theorem zB7 (s:ByteArray) (i n:Nat) (hn:n<=64) (hi:i+n<=8*s.size) (hs:s.size<=1000000000) (w:World):
  Calls Tryz.prog 32 #[.string s,.int .i64 (i:Int),.int .i64 (n:Int)] w fun e w'=>e= .returned (.tuple #[.int .u64 (val (take s i n):Nat),.int .i64 0])/\w=w':=by
 have h1:decide ((n:Int)<0)=false:=decide_eq_false (by omega)
 have h2:decide ((64:Int)<(n:Int))=false:=decide_eq_false (by omega)
 have h3:decide ((i:Int)<0)=false:=decide_eq_false (by omega)
 have h4:decide (8*(s.size:Int)-(n:Int)<(i:Int))=false:=decide_eq_false (by omega)
 go_enter Tryz.func32,Tryz.ntmps32
 go_wp2
 clear h1 h2 h3 h4
 go_loopw [6,29] (fun v k wr=>∃j:Nat,j<=n/\k= .int .i64 j/\v= .int .u64 (val (take s i j):Nat)/\w=wr) (fun _ k _=>n-(intOf k).toNat)
 case atStart=>exact⟨0,by omega,rfl,rfl,rfl⟩
 case round=>
  obtain⟨j,hj,rfl,rfl,hw⟩:=hrel
  subst hw
  by_cases hlt:j<n
  ·have HBT:=zH (qGf s ((i:Int)+(j:Int)) (i+j) (by omega) (by omega) hs)
   go_wp2_with fail
   (with_reducible refine(HBT.out _).mono ?_)
   rintro e w2 ⟨rfl,rfl⟩
   have hv:val (take s i j)<9223372036854775808:=by
    have h:=zEy (take s i j)
    rw[take_length]at h
    exact Nat.lt_of_lt_of_le h (Nat.le_trans (Nat.pow_le_pow_right (by omega) (show j<=63 by omega)) (by decide))
   have HO:=zH (or_bit _ hv (zBm s (i+j)))
   clear hv
   go_wp2
   go_roundw
   case rel=>exact⟨j+1,by omega,by go_num,by rw[HO.out,zEz,zEh],trivial⟩
   case measure=>simp[intOf];omega
  ·obtain rfl:n=j:=by omega
   go_wp2
   go_ret2
   exact⟨rfl,rfl⟩
end Bt
namespace Kit
open Go.RowKit
structure Cls (w:World) where
 til:World
 below:Below w.heap.size w til
instance (w:World):Nonempty (Cls w):=⟨⟨w,Below.refl _ _⟩⟩
def zAe (x:UInt8):Value:= .int .u8 (x.toNat:Int)
theorem zG (l:List UInt8):∀u∈l.map zAe,u.oneCell'=true:=by
 intro u hu
 obtain⟨x,_,rfl⟩:=List.mem_map.1 hu
 rfl
theorem Src.text {P:Program} {w:World} {a:Option Addr} {l:List UInt8} {n c:Nat} {src dst e:TypeId} (h:Src w a (l.map zAe)) (hn:l.length=n)
  (hs:P.underlying src=some (.slice e)) (he:P.underlying e=some (.int .u8)) (hd:P.underlying dst=some .string):
  (convert src dst (.slice a n c)).run P w= .ok (.string ⟨l.toArray⟩) w:=by
 subst hn
 cases a with
 |none=>
  have hl:l=[]:=by
   cases l with
   |nil=>rfl
   |cons x l=>obtain⟨b,off,ha,_⟩:=h 0 (zAe x) rfl;cases ha
  subst hl
  rw[run_convert_bytes_string w src dst e _ _ _ hs he hd]
  simp[Conv.bytesToString]
  rfl
 |some y=>
  refine run_convert_bytes_back w src dst e y c l hs he hd ?_
  intro j hj
  obtain⟨b,off,ha,hc⟩:=h j (zAe l[j]) (by rw[List.getElem?_map,List.getElem?_eq_getElem hj];rfl)
  injection ha with ha
  subst ha
  rw[addr_add]
  exact hc
end Kit
namespace Bt
open Go.RowKit
variable {w w' U:World} {B i n c R g:Nat} {u v x y:Value} {t e:TypeId} {a:Option Addr} {l:List Bool} {xs:List Value}
abbrev TB:TypeId:=5
abbrev TW:TypeId:=262
theorem zNh:Kit.One Tryz.prog 109 TB 1:=⟨Tryz.underlying109,.int .u8 0,by kernel_rfl,rfl⟩
theorem setBlock (i:Nat) (h:w.heap[B]? =some (.cells #[u,v] t (0,0))):(w.setCell ⟨B,i,none⟩ x).heap[B]? =some (.cells (#[u,v].setIfInBounds i x) t (0,0)):=by
 simp[World.setCell,Array.getElem?_modify,h]
theorem zAa {k:Nat} (h:k≠B):(w.setCell ⟨B,i,none⟩ x).heap[k]? =w.heap[k]? :=by
 have h':B≠k:=fun e=>h e.symm
 simp[World.setCell,Array.getElem?_modify,h']
theorem zB1 (w:World) (r i:Nat) (u:Value):w.grownBy (w.setCell ⟨r,i,none⟩ u) (some r):=
 ⟨rfl,rfl,rfl,by simp,fun k hk hne=>zAa (fun e=>hne (by rw[e]))⟩
theorem zD4 {r:Nat} {l:List Value} (h:Kit.Own w B e a n c l) (hr:r<B) (u:Value):Kit.Own (w.setCell ⟨r,i,none⟩ u) B e a n c l:=
 World.ownsRow.kept h (zB1 w r i u) (.inr fun e=>by have:=h.block r e;omega)
theorem zAf (h:w.heap[B]? =some (.cells #[u,v] t (0,0))):w.cell? ⟨B,0,none⟩=some u/\w.cell? ⟨B,1,none⟩=some v/\w.frozen? ⟨B,0,none⟩=false/\w.frozen? ⟨B,1,none⟩=false:=by
 refine⟨by simp[World.cell?,h],by simp[World.cell?,h],by simp[World.frozen?,h],by simp[World.frozen?,h]⟩
structure Wr (w:World) (R:Nat) (a:Option Addr) (c:Nat) (l:List Bool):Prop where
 blk:w.heap[R]? =some (.cells #[.slice a (pkL l).length c,.int .i64 (l.length:Int)] TW (0,0))
 own:Kit.Own w (R+1) TB a (pkL l).length c ((pkL l).map Kit.zAe)
theorem Wr.lt (h:Wr w R a c l):R<w.heap.size:=by
 rcases Nat.lt_or_ge R w.heap.size with hlt|hge
 ·exact hlt
 ·have:=h.blk;rw[Array.getElem?_eq_none hge]at this;cases this
structure Step (w w':World) (R:Nat):Prop where
 old:∀k,k<w.heap.size->k≠R->(∀cs f,w.heap[k]?≠some (.cells cs TB f))->w'.heap[k]? =w.heap[k]?
 below:Below R w w'
theorem Step.refl (w:World) (R:Nat):Step w w R:=⟨fun k _ _ _=>rfl,Below.refl _ _⟩
theorem Step.trans {w'':World} (h:Step w w' R) (g:Step w' w'' R):Step w w'' R:=by
 refine⟨fun k h1 h2 h3=> ?_,h.below.trans g.below⟩
 have h4:=h.old k h1 h2 h3
 rw[g.old k (Nat.lt_of_lt_of_le h1 h.below.size) h2 (fun cs f=>by rw[h4];exact h3 cs f),h4]
theorem Step.drew (h:Step w w' R):Step w w'.drew R:=⟨h.old,h.below.drew⟩
theorem zA (w:World) (o:Obj):(w.alloc o).heap.size=w.heap.size+1:=by show(w.heap.push o).size=_;simp
theorem zLa (h:Kit.Own w B e (some ⟨g,0,none⟩) n c xs):∃cs f,w.heap[g]? =some (.cells cs e f):=by
 rcases h.2 with⟨h1,_⟩|⟨g',cap,cur,hv,_,hg,_⟩
 ·cases h1
 ·injection hv with hv
  injection hv with hv
  injection hv with hv
  subst hv
  exact⟨_,_,hg⟩
theorem zZ7 (h:Kit.Own w B e a n c xs):∀k,a.map Addr.block=some k->∃cs f,w.heap[k]? =some (.cells cs e f):=by
 intro k hk
 rcases h.2 with⟨h1,_⟩|⟨g',cap,cur,hv,_,hg,_⟩
 ·injection h1 with h1
  subst h1
  cases hk
 ·injection hv with hv
  subst hv
  injection hk with hk
  have hk:g'=k:=hk
  subst hk
  exact⟨_,_,hg⟩
theorem zGj (h:Kit.Own w B e a n c xs):(Value.slice a n c).ownBlock=a.map Addr.block:=by
 cases a<;>rfl
theorem zTg:∀r:Fin 8,∀x:Fin 256,bits .or .u8 (x.val:Int) (128/2^r.val)=((x.val|||(128>>>r.val):Nat):Int):=by decide+kernel
structure Mid (U:World) (R:Nat) (a:Option Addr) (c:Nat) (l:List Bool):Prop where
 blk:U.heap[R]? =some (.cells #[.slice a (l.length/8+1) c,.int .i64 (l.length:Int)] TW (0,0))
 own:Kit.Own U (R+1) TB a (l.length/8+1) c ((pkL (l++[false])).map Kit.zAe)
theorem zGd (l:List Bool) (b:Bool):(pkL (l++[b])).length=l.length/8+1:=by
 rw[zFe,List.length_append,List.length_singleton];unfold zA2;omega
theorem zQ8 (l:List Bool) (b:Bool):((l++[b]).length:Int)=(l.length:Int)+1:=by rw[List.length_append];simp
theorem Mid.zero (h:Mid U R a c l):Wr (U.setCell ⟨R,1,none⟩ (.int .i64 ((l.length:Int)+1))) R a c (l++[false]):=by
 refine⟨?_,?_⟩
 ·rw[setBlock 1 h.blk,zGd,zQ8];rfl
 ·rw[zGd];exact zD4 h.own (Nat.lt_succ_self _) _
theorem Mid.one (h:Mid U R (some ⟨g,0,none⟩) c l) (x:Int) (hx:x=((zCa l (l.length/8)|||(128>>>(l.length%8)):Nat):Int)):
  Wr ((U.setCell ⟨g,l.length/8,none⟩ (.int .u8 x)).setCell ⟨R,1,none⟩ (.int .i64 ((l.length:Int)+1))) R (some ⟨g,0,none⟩) c (l++[true]):=by
 obtain⟨g',hg,hBg,_,_,_,_⟩:=h.own.at_ (Nat.succ_pos _)
 injection hg with hg
 injection hg with hg
 subst hg
 refine⟨?_,?_⟩
 ·rw[setBlock 1 (u:= .slice (some ⟨g,0,none⟩) (l.length/8+1) c) (v:= .int .i64 (l.length:Int)) (t:=TW) (by rw[zAa (by omega)];exact h.blk),zGd,zQ8];rfl
 ·rw[zGd]
  refine zD4 ?_ (Nat.lt_succ_self _) _
  have h1:=h.own.set (l.length/8) (.int .u8 x) (Nat.lt_succ_self _)
  rw[zZy,List.map_set]
  have e:Kit.zAe (UInt8.ofNat (zCa l (l.length/8)|||(128>>>(l.length%8))))= .int .u8 x:=by
   unfold Kit.zAe
   rw[ofNat_toNat,hx]
   have:=zEo l (l.length/8)
   have h8:128>>>(l.length%8)<256:=by rw[Nat.shiftRight_eq_div_pow];exact Nat.lt_of_le_of_lt (Nat.div_le_self _ _) (by omega)
   exact Nat.or_lt_two_pow (n:=8) this h8
  rw[e]
  exact h1
theorem Step.one (h:Kit.Own U B TB (some ⟨g,0,none⟩) n c xs) (hg:R<g):Step U ((U.setCell ⟨g,i,none⟩ x).setCell ⟨R,1,none⟩ y) R:=by
 refine⟨fun k h1 h2 h3=> ?_,((Below.refl R U).setCell (by show R<=g;omega) _).setCell (Nat.le_refl _) _⟩
 rw[zAa h2,zAa (fun e=>by
  obtain⟨cs,f,hc⟩:=zLa h
  rw[e]at h3
  exact h3 cs f hc)]
theorem Step.zero:Step U (U.setCell ⟨R,1,none⟩ y) R:=
 ⟨fun k h1 h2 h3=>zAa h2,(Below.refl R U).setCell (Nat.le_refl _) _⟩
theorem Wr.drew (h:Wr U R a c l):Wr U.drew R a c l:=⟨h.blk,h.own⟩
theorem zPu (R:Nat) (a:Option Addr) (c:Nat) (l:List Bool) (b:Bool) (w:World) (hw:Wr w R a c l) (hl:l.length<=1000000):
  Calls Tryz.prog 157 #[.pointer (some ⟨R,0,none⟩),.bool b] w fun e w'=>e= .returned (.tuple #[])/\∃a' c',Wr w' R a' c' (l++[b])/\Step w w' R:=by
 obtain⟨n,hn⟩:=zB l.length
 have hk:=zFe l
 have hf:=zW6 l
 obtain⟨k,hkk⟩:=zB ((pkL l).length)
 have hlt:=hw.lt
 obtain⟨x0,x1,f0,f1⟩:=zAf hw.blk
 have hB:=hw.blk
 have hO:=hw.own
 rw[hkk]at x0 hB hO
 rw[hn]at x1 hl hB
 have hkn:k=zA2 n:=by rw[<-hkk,hk,hn]
 unfold zA2 at hkn
 have HN:=zH hn
 have hn0:0<=(n:Int):=by omega
 have hnw:IntKind.i64.wrap ((n:Int)+1)=(n:Int)+1:=IntWalk.i64_in _ ⟨by omega,by omega⟩
 by_cases h8:n%8=0
 ·have hm:((n:Int)%8==0)=true:=by rw[beq_iff_eq];omega
  obtain⟨W1,hW1⟩:=zB (w.alloc (.cells #[.int .u8 0] TB))
  obtain⟨S,hS⟩:=zB w.heap.size
  have hsz:W1.heap.size=S+1:=by rw[<-hW1,zA,hS]
  have hO1:Kit.Own W1 (R+1) TB a k c ((pkL l).map Kit.zAe):=by rw[<-hW1];exact hO.alloc _
  obtain⟨a1,c1,w2,hr2,ho2,hg2⟩:=Kit.Own.app (ty:=109) (w:=W1) (n:=k) zNh hO1 (some ⟨S,0,none⟩) 1 1 [.int .u8 0] (by rw[<-hW1,<-hS];exact Kit.zAs w (.int .u8 0) TB) rfl (fun h=>by cases h) (by intro u hu;simp at hu;subst hu;rfl) (by unfold maxLen;omega) (by omega) (by omega)
  rw[zGj hO1]at hg2
  have hRa:a.map Addr.block≠some R:=fun e=>by
   have:=hO.block R (by rw[zGj hO];exact e)
   omega
  have bw:Below S w W1:=by rw[<-hW1,<-hS];exact(Below.refl _ _).alloc (Nat.le_refl _) _
  have hB1:W1.heap[R]? =some (.cells #[.slice a k c,.int .i64 (n:Int)] TW (0,0)):=(bw.block R (by omega)).trans hB
  have hB2:w2.heap[R]? =some (.cells #[.slice a k c,.int .i64 (n:Int)] TW (0,0)):=(hg2.block R (by omega) (fun e=>hRa e.symm)).trans hB1
  obtain⟨y0,y1,e0,e1⟩:=zAf hB1
  obtain⟨z0,z1,d0,d1⟩:=zAf hB2
  obtain⟨U,hU⟩:=zB (w2.setCell ⟨R,0,none⟩ (.slice a1 (k+1) c1))
  have hUB:U.heap[R]? =some (.cells #[.slice a1 (k+1) c1,.int .i64 (n:Int)] TW (0,0)):=by rw[<-hU];exact setBlock 0 hB2
  have hmid:Mid U R a1 c1 l:=by
   refine⟨?_,?_⟩
   ·rw[hUB,hn,show n/8+1=k+1 by omega]
   ·rw[hn,show n/8+1=k+1 by omega,hf,if_pos (by rw[hn];exact h8),List.map_append,<-hU]
    exact zD4 ho2 (Nat.lt_succ_self _) _
  have hst:Step w U R:=by
   refine⟨fun q h1 h2 h3=> ?_,?_⟩
   ·rw[<-hU,zAa h2,hg2.block q (by omega) (fun e=> ?_),bw.block q (by omega)]
    obtain⟨cs,f,hc⟩:=zZ7 hO q e.symm
    exact h3 cs f hc
   ·rw[<-hU]
    exact((bw.mono (by omega)).trans ((Below.refl R W1).grown hg2 (by omega) (fun q hq=>by have:=hO.block q (by rw[zGj hO];exact hq);omega))).setCell (Nat.le_refl _) _
  obtain⟨v0,v1,t0,t1⟩:=zAf hmid.blk
  rw[hn]at v0 v1
  have HMID:=zH hmid
  have HST:=zH hst
  clear hmid hst hk hf hB hO hw hkn hO1 ho2 hg2 hRa bw hB1 hB2 hUB
  cases b with
  |false=>
   go_enter Tryz.func157,Tryz.ntmps157
   go_wp2_with (at_builtin;refine Kit.zAr rfl (.tmp 14) (.tmp 15) 109 rfl rfl rfl hr2 ?_)
   go_end0
   exact⟨rfl,a1,c1,by have h:=HMID.out.zero;rwa[HN.out]at h,HST.out.trans Step.zero⟩
  |true=>
   obtain⟨g,hga,hBg,hgw,_,hcg,hfg⟩:=HMID.out.own.at_ (Nat.succ_pos _)
   obtain⟨m,hm8⟩:=zB (n/8)
   have hbyte:U.cell? ⟨g,m,none⟩=some (.int .u8 ((zCa l m:Nat):Int)):=by
    rw[hcg m (by rw[HN.out,hm8];exact Nat.lt_succ_self _),List.getElem?_map,zFz _ _ (by rw[List.length_append,HN.out,List.length_singleton];unfold zA2;omega),zCr]
    show some (Kit.zAe _)=_
    unfold Kit.zAe
    rw[ofNat_toNat (zEo _ _)]
   have hbf:U.frozen? ⟨g,m,none⟩=false:=hfg m
   rw[HN.out,hm8]at hcg
   rw[hm8]at v0
   obtain⟨X,hX⟩:=zB (zCa l m)
   rw[hX]at hbyte
   have hX8:X<256:=by rw[<-hX];exact zEo _ _
   obtain⟨Y,hY⟩:=zB (bits .or .u8 (X:Int) (128/2^(n%8)))
   have hYv:Y=((X|||(128>>>(n%8)):Nat):Int):=by rw[<-hY];exact zTg ⟨n%8,Nat.mod_lt _ (by omega)⟩ ⟨X,hX8⟩
   have HY:=zH hYv
   have HX:=zH hX
   have hRg:R≠g:=by omega
   have hm0:(0:Int)<=(m:Int):=by omega
   have hmm:(m:Int)<((m+1:Nat):Int):=by omega
   have H8:=zH hm8
   have hml:m<=1000000:=by omega
   subst hga
   clear hcg hfg hYv hX hm8
   go_enter Tryz.func157,Tryz.ntmps157
   have hsh:((n:Int)%8).toNat=n%8:=by omega
   clear h8
   go_upto_region 3 with(at_builtin;refine Kit.zAr rfl (.tmp 14) (.tmp 15) 109 rfl rfl rfl hr2 ?_)
   clear hm
   refine wp_region_held_drew (S:=fun w'=>w'.cell? ⟨R,0,none⟩=some (.slice (some ⟨g,0,none⟩) (m+1) c1)/\w'.cell? ⟨R,1,none⟩=some (.int .i64 (n:Int))/\w'.frozen? ⟨R,1,none⟩=false) (by kernel_rfl) ⟨v0,v1,t1⟩ (fun hHeld=> ?_)
   refine wpAnyH_take (i:=0) (v:= .pointer (some ⟨R,0,none⟩)) rfl (by kernel_rfl) (by kernel_rfl) (by kernel_rfl) (fun _ _ _ h=>h) (Or.inl ⟨by rfl,fun w hSw=>by(obtain⟨u0,u1,u2⟩:=hSw;go_simp)⟩) hHeld ?_
   try simp only[List.getElem_toArray,List.getElem_cons_succ,List.getElem_cons_zero,Act.put,List.setIfInBounds_toArray,List.set_cons_zero,List.set_cons_succ]
   refine wpAnyH_take (i:=1) (v:= .pointer (some ⟨R,0,none⟩)) rfl (by kernel_rfl) (by kernel_rfl) (by kernel_rfl) (fun _ _ _ h=>h) (Or.inl ⟨by rfl,fun w hSw=>by(obtain⟨u0,u1,u2⟩:=hSw;go_simp)⟩) hHeld ?_
   try simp only[List.getElem_toArray,List.getElem_cons_succ,List.getElem_cons_zero,Act.put,List.setIfInBounds_toArray,List.set_cons_zero,List.set_cons_succ]
   refine wpAnyH_take (i:=2) (v:= .pointer (some ⟨R,0,none⟩)) rfl (by kernel_rfl) (by kernel_rfl) (by kernel_rfl) (fun _ _ _ h=>h) (Or.inl ⟨by rfl,fun w hSw=>by(obtain⟨u0,u1,u2⟩:=hSw;go_simp)⟩) hHeld ?_
   try simp only[List.getElem_toArray,List.getElem_cons_succ,List.getElem_cons_zero,Act.put,List.setIfInBounds_toArray,List.set_cons_zero,List.set_cons_succ]
   refine wpAnyH_take (i:=3) (v:= .slice (some ⟨g,0,none⟩) (m+1) c1) rfl (by kernel_rfl) (by kernel_rfl) (by kernel_rfl) (fun _ _ _ h=>h) (Or.inl ⟨by rfl,fun w hSw=>by(obtain⟨u0,u1,u2⟩:=hSw;go_simp)⟩) hHeld ?_
   try simp only[List.getElem_toArray,List.getElem_cons_succ,List.getElem_cons_zero,Act.put,List.setIfInBounds_toArray,List.set_cons_zero,List.set_cons_succ]
   refine wpAnyH_take (i:=4) (v:= .pointer (some ⟨R,0,none⟩)) rfl (by kernel_rfl) (by kernel_rfl) (by kernel_rfl) (fun _ _ _ h=>h) (Or.inl ⟨by rfl,fun w hSw=>by(obtain⟨u0,u1,u2⟩:=hSw;go_simp)⟩) hHeld ?_
   try simp only[List.getElem_toArray,List.getElem_cons_succ,List.getElem_cons_zero,Act.put,List.setIfInBounds_toArray,List.set_cons_zero,List.set_cons_succ]
   refine wpAnyH_take (i:=5) (v:= .pointer (some ⟨R,0,none⟩)) rfl (by kernel_rfl) (by kernel_rfl) (by kernel_rfl) (fun _ _ _ h=>h) (Or.inl ⟨by rfl,fun w hSw=>by(obtain⟨u0,u1,u2⟩:=hSw;go_simp)⟩) hHeld ?_
   try simp only[List.getElem_toArray,List.getElem_cons_succ,List.getElem_cons_zero,Act.put,List.setIfInBounds_toArray,List.set_cons_zero,List.set_cons_succ]
   refine wpAnyH_take (i:=6) (v:= .pointer (some ⟨R,0,none⟩)) rfl (by kernel_rfl) (by kernel_rfl) (by kernel_rfl) (fun _ _ _ h=>h) (Or.inl ⟨by rfl,fun w hSw=>by(obtain⟨u0,u1,u2⟩:=hSw;go_simp)⟩) hHeld ?_
   try simp only[List.getElem_toArray,List.getElem_cons_succ,List.getElem_cons_zero,Act.put,List.setIfInBounds_toArray,List.set_cons_zero,List.set_cons_succ]
   refine wpAnyH_take (i:=7) (v:= .slice (some ⟨g,0,none⟩) (m+1) c1) rfl (by kernel_rfl) (by kernel_rfl) (by kernel_rfl) (fun _ _ _ h=>h) (Or.inl ⟨by rfl,fun w hSw=>by(obtain⟨u0,u1,u2⟩:=hSw;go_simp)⟩) hHeld ?_
   try simp only[List.getElem_toArray,List.getElem_cons_succ,List.getElem_cons_zero,Act.put,List.setIfInBounds_toArray,List.set_cons_zero,List.set_cons_succ]
   refine wpAnyH_take (i:=8) (v:= .int .i64 ((m+1:Nat):Int)) rfl (by kernel_rfl) (by kernel_rfl) (by kernel_rfl) (fun _ _ _ h=>h) (Or.inl ⟨by rfl,fun w hSw=>by(obtain⟨u0,u1,u2⟩:=hSw;go_simp)⟩) hHeld ?_
   try simp only[List.getElem_toArray,List.getElem_cons_succ,List.getElem_cons_zero,Act.put,List.setIfInBounds_toArray,List.set_cons_zero,List.set_cons_succ]
   refine wpAnyH_take (i:=9) (v:= .int .i64 (m:Int)) rfl (by kernel_rfl) (by kernel_rfl) (by kernel_rfl) (fun _ _ _ h=>h) (Or.inl ⟨by rfl,fun w hSw=>by(go_simp;exact IntWalk.i64_in _ ⟨by omega,by omega⟩)⟩) hHeld ?_
   try simp only[List.getElem_toArray,List.getElem_cons_succ,List.getElem_cons_zero,Act.put,List.setIfInBounds_toArray,List.set_cons_zero,List.set_cons_succ]
   refine wpAnyH_take (i:=10) (v:= .pointer (some ⟨g,m,none⟩)) rfl (by kernel_rfl) (by kernel_rfl) (by kernel_rfl) (fun _ _ _ h=>h) (Or.inl ⟨by rfl,fun w hSw=>by(go_simp;intro h;omega)⟩) hHeld ?_
   try simp only[List.getElem_toArray,List.getElem_cons_succ,List.getElem_cons_zero,Act.put,List.setIfInBounds_toArray,List.set_cons_zero,List.set_cons_succ]
   refine wpAnyH_take (i:=12) (v:= .pointer (some ⟨R,0,none⟩)) rfl (by kernel_rfl) (by kernel_rfl) (by kernel_rfl) (fun _ _ _ h=>h) (Or.inl ⟨by rfl,fun w hSw=>by(obtain⟨u0,u1,u2⟩:=hSw;go_simp)⟩) hHeld ?_
   try simp only[List.getElem_toArray,List.getElem_cons_succ,List.getElem_cons_zero,Act.put,List.setIfInBounds_toArray,List.set_cons_zero,List.set_cons_succ]
   refine wpAnyH_take (i:=13) (v:= .pointer (some ⟨R,0,none⟩)) rfl (by kernel_rfl) (by kernel_rfl) (by kernel_rfl) (fun _ _ _ h=>h) (Or.inl ⟨by rfl,fun w hSw=>by(obtain⟨u0,u1,u2⟩:=hSw;go_simp)⟩) hHeld ?_
   try simp only[List.getElem_toArray,List.getElem_cons_succ,List.getElem_cons_zero,Act.put,List.setIfInBounds_toArray,List.set_cons_zero,List.set_cons_succ]
   refine wpAnyH_take (i:=14) (v:= .pointer (some ⟨R,1,none⟩)) rfl (by kernel_rfl) (by kernel_rfl) (by kernel_rfl) (fun _ _ _ h=>h) (Or.inl ⟨by rfl,fun w hSw=>by(obtain⟨u0,u1,u2⟩:=hSw;go_simp)⟩) hHeld ?_
   try simp only[List.getElem_toArray,List.getElem_cons_succ,List.getElem_cons_zero,Act.put,List.setIfInBounds_toArray,List.set_cons_zero,List.set_cons_succ]
   refine wpAnyH_take (i:=15) (v:= .int .i64 (n:Int)) rfl (by kernel_rfl) (by kernel_rfl) (by kernel_rfl) (fun _ _ _ h=>h) (Or.inl ⟨by rfl,fun w hSw=>by(obtain⟨u0,u1,u2⟩:=hSw;go_simp)⟩) hHeld ?_
   try simp only[List.getElem_toArray,List.getElem_cons_succ,List.getElem_cons_zero,Act.put,List.setIfInBounds_toArray,List.set_cons_zero,List.set_cons_succ]
   refine wpAnyH_take (i:=16) (v:= .int .i64 ((n:Int)%8)) rfl (by kernel_rfl) (by kernel_rfl) (by kernel_rfl) (fun _ _ _ h=>h) (Or.inl ⟨by rfl,fun w hSw=>by(go_simp;exact rfl)⟩) hHeld ?_
   try simp only[List.getElem_toArray,List.getElem_cons_succ,List.getElem_cons_zero,Act.put,List.setIfInBounds_toArray,List.set_cons_zero,List.set_cons_succ]
   refine wpAnyH_take (i:=17) (v:= .int .u8 (128/2^(n%8))) rfl (by kernel_rfl) (by kernel_rfl) (by kernel_rfl) (fun _ _ _ h=>h) (Or.inl ⟨by rfl,fun w hSw=>by(obtain⟨u0,u1,u2⟩:=hSw;go_simp)⟩) hHeld ?_
   try simp only[List.getElem_toArray,List.getElem_cons_succ,List.getElem_cons_zero,Act.put,List.setIfInBounds_toArray,List.set_cons_zero,List.set_cons_succ]
   refine wpAnyH_ready (rs:=[11]) (by kernel_rfl) (by simp) ?_
   refine AllReadyH.cons rfl (fun K hK=> ?_) ?_
   ·go_simp
    refine hK.out _ _ ?_ (fun hHeld=> ?_)
    ·exact hHeld
    clear hK K
    try simp only[List.getElem_toArray,List.getElem_cons_succ,List.getElem_cons_zero,Act.put,List.setIfInBounds_toArray,List.set_cons_zero,List.set_cons_succ]
    refine wpAnyH_take (i:=18) (v:= .int .u8 Y) rfl (by kernel_rfl) (by kernel_rfl) (by kernel_rfl) (fun _ _ _ h=>h) (Or.inl ⟨by rfl,fun w hSw=>by(obtain⟨u0,u1,u2⟩:=hSw;go_simp)⟩) hHeld ?_
    try simp only[List.getElem_toArray,List.getElem_cons_succ,List.getElem_cons_zero,Act.put,List.setIfInBounds_toArray,List.set_cons_zero,List.set_cons_succ]
    refine wpAnyH_take (i:=19) (v:= .pointer (some ⟨g,m,none⟩)) rfl (by kernel_rfl) (by kernel_rfl) (by kernel_rfl) (fun _ _ _ h=>h) (Or.inl ⟨by rfl,fun w hSw=>by(go_simp;intro h;omega)⟩) hHeld ?_
    try simp only[List.getElem_toArray,List.getElem_cons_succ,List.getElem_cons_zero,Act.put,List.setIfInBounds_toArray,List.set_cons_zero,List.set_cons_succ]
    refine wpAnyH_ready (rs:=[20]) (by kernel_rfl) (by simp) ?_
    refine AllReadyH.cons rfl (fun K hK=> ?_) ?_
    ·go_simp
     refine hK.out _ _ ?_ (fun hHeld=> ?_)
     ·exact⟨(World.cell?_of_block (zAa hRg)).trans v0,(World.cell?_of_block (zAa hRg)).trans v1,(World.frozen?_of_block (zAa hRg)).trans t1⟩
     clear hK K
     try simp only[List.getElem_toArray,List.getElem_cons_succ,List.getElem_cons_zero,Act.put,List.setIfInBounds_toArray,List.set_cons_zero,List.set_cons_succ]
     refine wpAnyH_done (by kernel_rfl) ?_ _
     obtain⟨u0,u1,u2⟩:=hHeld
     clear hY hsh hbyte hbf
     go_wp2
     go_end0
     have h1:=HMID.out.one Y (by rw[HN.out,H8.out,HX.out];exact HY.out)
     rw[HN.out,H8.out]at h1
     exact⟨rfl,_,_,h1.drew,(HST.out.trans (Step.one HMID.out.own (by omega))).drew⟩
    exact AllReadyH.nil
   exact AllReadyH.nil
 ·have hm:((n:Int)%8==0)=false:=by rw[beq_eq_false_iff_ne];omega
  have hmid:Mid w R a c l:=by
   refine⟨?_,?_⟩
   ·rw[hB,hn,show n/8+1=k by omega]
   ·rw[hn,show n/8+1=k by omega,hf,if_neg (by rw[hn];exact h8)]
    exact hO
  have hst:=Step.refl w R
  obtain⟨v0,v1,t0,t1⟩:=zAf hmid.blk
  rw[hn]at v0 v1
  have HMID:=zH hmid
  have HST:=zH hst
  clear hmid hst hk hf hB hO hw hkn
  cases b with
  |false=>
   go_enter Tryz.func157,Tryz.ntmps157
   go_wp2_with (fail)
   go_end0
   exact⟨rfl,a,c,by have h:=HMID.out.zero;rwa[HN.out]at h,HST.out.trans Step.zero⟩
  |true=>
   obtain⟨g,hga,hBg,hgw,_,hcg,hfg⟩:=HMID.out.own.at_ (Nat.succ_pos _)
   obtain⟨m,hm8⟩:=zB (n/8)
   have hbyte:w.cell? ⟨g,m,none⟩=some (.int .u8 ((zCa l m:Nat):Int)):=by
    rw[hcg m (by rw[HN.out,hm8];exact Nat.lt_succ_self _),List.getElem?_map,zFz _ _ (by rw[List.length_append,HN.out,List.length_singleton];unfold zA2;omega),zCr]
    show some (Kit.zAe _)=_
    unfold Kit.zAe
    rw[ofNat_toNat (zEo _ _)]
   have hbf:w.frozen? ⟨g,m,none⟩=false:=hfg m
   rw[HN.out,hm8]at hcg
   rw[hm8]at v0
   obtain⟨X,hX⟩:=zB (zCa l m)
   rw[hX]at hbyte
   have hX8:X<256:=by rw[<-hX];exact zEo _ _
   obtain⟨Y,hY⟩:=zB (bits .or .u8 (X:Int) (128/2^(n%8)))
   have hYv:Y=((X|||(128>>>(n%8)):Nat):Int):=by rw[<-hY];exact zTg ⟨n%8,Nat.mod_lt _ (by omega)⟩ ⟨X,hX8⟩
   have HY:=zH hYv
   have HX:=zH hX
   have hRg:R≠g:=by omega
   have hm0:(0:Int)<=(m:Int):=by omega
   have hmm:(m:Int)<((m+1:Nat):Int):=by omega
   have H8:=zH hm8
   have hml:m<=1000000:=by omega
   subst hga
   clear hcg hfg hYv hX hm8
   go_enter Tryz.func157,Tryz.ntmps157
   have hsh:((n:Int)%8).toNat=n%8:=by omega
   clear h8
   go_upto_region 3 with(fail)
   clear hm
   refine wp_region_held_drew (S:=fun w'=>w'.cell? ⟨R,0,none⟩=some (.slice (some ⟨g,0,none⟩) (m+1) c)/\w'.cell? ⟨R,1,none⟩=some (.int .i64 (n:Int))/\w'.frozen? ⟨R,1,none⟩=false) (by kernel_rfl) ⟨v0,v1,t1⟩ (fun hHeld=> ?_)
   refine wpAnyH_take (i:=0) (v:= .pointer (some ⟨R,0,none⟩)) rfl (by kernel_rfl) (by kernel_rfl) (by kernel_rfl) (fun _ _ _ h=>h) (Or.inl ⟨by rfl,fun w hSw=>by(obtain⟨u0,u1,u2⟩:=hSw;go_simp)⟩) hHeld ?_
   try simp only[List.getElem_toArray,List.getElem_cons_succ,List.getElem_cons_zero,Act.put,List.setIfInBounds_toArray,List.set_cons_zero,List.set_cons_succ]
   refine wpAnyH_take (i:=1) (v:= .pointer (some ⟨R,0,none⟩)) rfl (by kernel_rfl) (by kernel_rfl) (by kernel_rfl) (fun _ _ _ h=>h) (Or.inl ⟨by rfl,fun w hSw=>by(obtain⟨u0,u1,u2⟩:=hSw;go_simp)⟩) hHeld ?_
   try simp only[List.getElem_toArray,List.getElem_cons_succ,List.getElem_cons_zero,Act.put,List.setIfInBounds_toArray,List.set_cons_zero,List.set_cons_succ]
   refine wpAnyH_take (i:=2) (v:= .pointer (some ⟨R,0,none⟩)) rfl (by kernel_rfl) (by kernel_rfl) (by kernel_rfl) (fun _ _ _ h=>h) (Or.inl ⟨by rfl,fun w hSw=>by(obtain⟨u0,u1,u2⟩:=hSw;go_simp)⟩) hHeld ?_
   try simp only[List.getElem_toArray,List.getElem_cons_succ,List.getElem_cons_zero,Act.put,List.setIfInBounds_toArray,List.set_cons_zero,List.set_cons_succ]
   refine wpAnyH_take (i:=3) (v:= .slice (some ⟨g,0,none⟩) (m+1) c) rfl (by kernel_rfl) (by kernel_rfl) (by kernel_rfl) (fun _ _ _ h=>h) (Or.inl ⟨by rfl,fun w hSw=>by(obtain⟨u0,u1,u2⟩:=hSw;go_simp)⟩) hHeld ?_
   try simp only[List.getElem_toArray,List.getElem_cons_succ,List.getElem_cons_zero,Act.put,List.setIfInBounds_toArray,List.set_cons_zero,List.set_cons_succ]
   refine wpAnyH_take (i:=4) (v:= .pointer (some ⟨R,0,none⟩)) rfl (by kernel_rfl) (by kernel_rfl) (by kernel_rfl) (fun _ _ _ h=>h) (Or.inl ⟨by rfl,fun w hSw=>by(obtain⟨u0,u1,u2⟩:=hSw;go_simp)⟩) hHeld ?_
   try simp only[List.getElem_toArray,List.getElem_cons_succ,List.getElem_cons_zero,Act.put,List.setIfInBounds_toArray,List.set_cons_zero,List.set_cons_succ]
   refine wpAnyH_take (i:=5) (v:= .pointer (some ⟨R,0,none⟩)) rfl (by kernel_rfl) (by kernel_rfl) (by kernel_rfl) (fun _ _ _ h=>h) (Or.inl ⟨by rfl,fun w hSw=>by(obtain⟨u0,u1,u2⟩:=hSw;go_simp)⟩) hHeld ?_
   try simp only[List.getElem_toArray,List.getElem_cons_succ,List.getElem_cons_zero,Act.put,List.setIfInBounds_toArray,List.set_cons_zero,List.set_cons_succ]
   refine wpAnyH_take (i:=6) (v:= .pointer (some ⟨R,0,none⟩)) rfl (by kernel_rfl) (by kernel_rfl) (by kernel_rfl) (fun _ _ _ h=>h) (Or.inl ⟨by rfl,fun w hSw=>by(obtain⟨u0,u1,u2⟩:=hSw;go_simp)⟩) hHeld ?_
   try simp only[List.getElem_toArray,List.getElem_cons_succ,List.getElem_cons_zero,Act.put,List.setIfInBounds_toArray,List.set_cons_zero,List.set_cons_succ]
   refine wpAnyH_take (i:=7) (v:= .slice (some ⟨g,0,none⟩) (m+1) c) rfl (by kernel_rfl) (by kernel_rfl) (by kernel_rfl) (fun _ _ _ h=>h) (Or.inl ⟨by rfl,fun w hSw=>by(obtain⟨u0,u1,u2⟩:=hSw;go_simp)⟩) hHeld ?_
   try simp only[List.getElem_toArray,List.getElem_cons_succ,List.getElem_cons_zero,Act.put,List.setIfInBounds_toArray,List.set_cons_zero,List.set_cons_succ]
   refine wpAnyH_take (i:=8) (v:= .int .i64 ((m+1:Nat):Int)) rfl (by kernel_rfl) (by kernel_rfl) (by kernel_rfl) (fun _ _ _ h=>h) (Or.inl ⟨by rfl,fun w hSw=>by(obtain⟨u0,u1,u2⟩:=hSw;go_simp)⟩) hHeld ?_
   try simp only[List.getElem_toArray,List.getElem_cons_succ,List.getElem_cons_zero,Act.put,List.setIfInBounds_toArray,List.set_cons_zero,List.set_cons_succ]
   refine wpAnyH_take (i:=9) (v:= .int .i64 (m:Int)) rfl (by kernel_rfl) (by kernel_rfl) (by kernel_rfl) (fun _ _ _ h=>h) (Or.inl ⟨by rfl,fun w hSw=>by(go_simp;exact IntWalk.i64_in _ ⟨by omega,by omega⟩)⟩) hHeld ?_
   try simp only[List.getElem_toArray,List.getElem_cons_succ,List.getElem_cons_zero,Act.put,List.setIfInBounds_toArray,List.set_cons_zero,List.set_cons_succ]
   refine wpAnyH_take (i:=10) (v:= .pointer (some ⟨g,m,none⟩)) rfl (by kernel_rfl) (by kernel_rfl) (by kernel_rfl) (fun _ _ _ h=>h) (Or.inl ⟨by rfl,fun w hSw=>by(go_simp;intro h;omega)⟩) hHeld ?_
   try simp only[List.getElem_toArray,List.getElem_cons_succ,List.getElem_cons_zero,Act.put,List.setIfInBounds_toArray,List.set_cons_zero,List.set_cons_succ]
   refine wpAnyH_take (i:=12) (v:= .pointer (some ⟨R,0,none⟩)) rfl (by kernel_rfl) (by kernel_rfl) (by kernel_rfl) (fun _ _ _ h=>h) (Or.inl ⟨by rfl,fun w hSw=>by(obtain⟨u0,u1,u2⟩:=hSw;go_simp)⟩) hHeld ?_
   try simp only[List.getElem_toArray,List.getElem_cons_succ,List.getElem_cons_zero,Act.put,List.setIfInBounds_toArray,List.set_cons_zero,List.set_cons_succ]
   refine wpAnyH_take (i:=13) (v:= .pointer (some ⟨R,0,none⟩)) rfl (by kernel_rfl) (by kernel_rfl) (by kernel_rfl) (fun _ _ _ h=>h) (Or.inl ⟨by rfl,fun w hSw=>by(obtain⟨u0,u1,u2⟩:=hSw;go_simp)⟩) hHeld ?_
   try simp only[List.getElem_toArray,List.getElem_cons_succ,List.getElem_cons_zero,Act.put,List.setIfInBounds_toArray,List.set_cons_zero,List.set_cons_succ]
   refine wpAnyH_take (i:=14) (v:= .pointer (some ⟨R,1,none⟩)) rfl (by kernel_rfl) (by kernel_rfl) (by kernel_rfl) (fun _ _ _ h=>h) (Or.inl ⟨by rfl,fun w hSw=>by(obtain⟨u0,u1,u2⟩:=hSw;go_simp)⟩) hHeld ?_
   try simp only[List.getElem_toArray,List.getElem_cons_succ,List.getElem_cons_zero,Act.put,List.setIfInBounds_toArray,List.set_cons_zero,List.set_cons_succ]
   refine wpAnyH_take (i:=15) (v:= .int .i64 (n:Int)) rfl (by kernel_rfl) (by kernel_rfl) (by kernel_rfl) (fun _ _ _ h=>h) (Or.inl ⟨by rfl,fun w hSw=>by(obtain⟨u0,u1,u2⟩:=hSw;go_simp)⟩) hHeld ?_
   try simp only[List.getElem_toArray,List.getElem_cons_succ,List.getElem_cons_zero,Act.put,List.setIfInBounds_toArray,List.set_cons_zero,List.set_cons_succ]
   refine wpAnyH_take (i:=16) (v:= .int .i64 ((n:Int)%8)) rfl (by kernel_rfl) (by kernel_rfl) (by kernel_rfl) (fun _ _ _ h=>h) (Or.inl ⟨by rfl,fun w hSw=>by(go_simp;exact rfl)⟩) hHeld ?_
   try simp only[List.getElem_toArray,List.getElem_cons_succ,List.getElem_cons_zero,Act.put,List.setIfInBounds_toArray,List.set_cons_zero,List.set_cons_succ]
   refine wpAnyH_take (i:=17) (v:= .int .u8 (128/2^(n%8))) rfl (by kernel_rfl) (by kernel_rfl) (by kernel_rfl) (fun _ _ _ h=>h) (Or.inl ⟨by rfl,fun w hSw=>by(obtain⟨u0,u1,u2⟩:=hSw;go_simp)⟩) hHeld ?_
   try simp only[List.getElem_toArray,List.getElem_cons_succ,List.getElem_cons_zero,Act.put,List.setIfInBounds_toArray,List.set_cons_zero,List.set_cons_succ]
   refine wpAnyH_ready (rs:=[11]) (by kernel_rfl) (by simp) ?_
   refine AllReadyH.cons rfl (fun K hK=> ?_) ?_
   ·go_simp
    refine hK.out _ _ ?_ (fun hHeld=> ?_)
    ·exact hHeld
    clear hK K
    try simp only[List.getElem_toArray,List.getElem_cons_succ,List.getElem_cons_zero,Act.put,List.setIfInBounds_toArray,List.set_cons_zero,List.set_cons_succ]
    refine wpAnyH_take (i:=18) (v:= .int .u8 Y) rfl (by kernel_rfl) (by kernel_rfl) (by kernel_rfl) (fun _ _ _ h=>h) (Or.inl ⟨by rfl,fun w hSw=>by(obtain⟨u0,u1,u2⟩:=hSw;go_simp)⟩) hHeld ?_
    try simp only[List.getElem_toArray,List.getElem_cons_succ,List.getElem_cons_zero,Act.put,List.setIfInBounds_toArray,List.set_cons_zero,List.set_cons_succ]
    refine wpAnyH_take (i:=19) (v:= .pointer (some ⟨g,m,none⟩)) rfl (by kernel_rfl) (by kernel_rfl) (by kernel_rfl) (fun _ _ _ h=>h) (Or.inl ⟨by rfl,fun w hSw=>by(go_simp;intro h;omega)⟩) hHeld ?_
    try simp only[List.getElem_toArray,List.getElem_cons_succ,List.getElem_cons_zero,Act.put,List.setIfInBounds_toArray,List.set_cons_zero,List.set_cons_succ]
    refine wpAnyH_ready (rs:=[20]) (by kernel_rfl) (by simp) ?_
    refine AllReadyH.cons rfl (fun K hK=> ?_) ?_
    ·go_simp
     refine hK.out _ _ ?_ (fun hHeld=> ?_)
     ·exact⟨(World.cell?_of_block (zAa hRg)).trans v0,(World.cell?_of_block (zAa hRg)).trans v1,(World.frozen?_of_block (zAa hRg)).trans t1⟩
     clear hK K
     try simp only[List.getElem_toArray,List.getElem_cons_succ,List.getElem_cons_zero,Act.put,List.setIfInBounds_toArray,List.set_cons_zero,List.set_cons_succ]
     refine wpAnyH_done (by kernel_rfl) ?_ _
     obtain⟨u0,u1,u2⟩:=hHeld
     clear hY hsh hbyte hbf
     go_wp2
     go_end0
     have h1:=HMID.out.one Y (by rw[HN.out,H8.out,HX.out];exact HY.out)
     rw[HN.out,H8.out]at h1
     exact⟨rfl,_,_,h1.drew,(HST.out.trans (Step.one HMID.out.own (by omega))).drew⟩
    exact AllReadyH.nil
   exact AllReadyH.nil
end Bt
end Go.Proofs.YtppnakkaljbmbaaGreatDoor
