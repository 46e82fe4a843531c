/- Parts: Maps as functions: one element turned in place ('m[k]++'), and kits for whatever is laid by an injective code. No condition. Maps in the call's own memory as functions: looked up, stored into, ranged over, whatever the keys and the elements are. No condition. Walks of the coder's writer: the closure of Bit, Add32, Bit. -/
import Derived.Test.YtcikldoaidmnhaaGreatDoorRSpoi1
import Derived.Test.YtcikldoaidmnhaaGreatDoorRSpoi2
import Derived.Test.YtcikldoaidmnhaaGreatDoorRSpoi4
import Derived.Test.YtcikldoaidmnhaaGreatDoorRows
import Derived.WalkKit
import Derived.WalkSpells
import Derived.WalkLawsBesides
import Derived.Lib.Hide
import Derived.BigQuiet
import Derived.Deep.DeepFit
import Derived.Deep.DeepCutAuto
import Derived.Deep.AppendLies
import Derived.Deep.QuietTactic
import Derived.Deep.RegionHeld3
import Derived.StillTail
import Derived.Maps.OwnOps
import Derived.Maps.OwnSet
import Derived.Maps.RangeWalk
import Derived.WideKeyEntry
namespace Go.Proofs.YtcikldoaidmnhaaGreatDoor
open Go Go.RowKit Pc
set_option maxRecDepth 100000
theorem info_u8:(Tryz.prog.info? 5).map (fun i=>(i.zero,i.size,i.bytes))=some (some (.int .u8 0),1,1):=by kernel_rfl
set_option maxHeartbeats 1000000 in
theorem shiftW_any (b wc base:Nat) (w:World) (c0 c1 dv:Value) (T:TypeId) (done:List Nat) (low:Nat) (hlow:low<4294967296)
  (hwc:w.cell? ⟨wc,0,none⟩=some (.pointer (some ⟨b,0,none⟩)))
  (hb:w.heap[b]?=some (.cells #[c0,c1,dv,.int .u32 low] T (0,0)))
  (hown:w.ownsRow base 5 1 dv done.length (done.map byteV)) (hbase:base≤w.heap.size)
  (hn:done.length+1≤1000000) (n1:dv.ownBlock≠some b) (n2:dv.ownBlock≠some wc) (n3:b≠wc) :
  Calls Tryz.prog 104 #[.pointer (some ⟨wc,0,none⟩)] w fun e w'=>e=.returned (.tuple #[])∧∃dv',
   w'.heap[b]?=some (.cells #[c0,c1,dv',.int .u32 ((low % 16777216*256:Nat):Int)] T (0,0)) ∧
   w'.ownsRow base 5 1 dv' (done++[low / 16777216]).length ((done++[low / 16777216]).map byteV) ∧
   Upd (fun k=>k=b∨inRow dv k) w w'∧(dv'.ownBlock=dv.ownBlock∨∃g,dv'.ownBlock=some g∧w.heap.size≤g):=by
 obtain ⟨i0,hi0,hz0,hz1,hz2⟩:=info_parts info_u8;have lg:=lt_of_heap hb;have lk:=World.block_lt_of_cell? w _ hwc;have h2:w.cell? ⟨b,2,none⟩=some dv:=by rw [cell_of_row w b 2 _ _ _ hb];rfl
 have h3:w.cell? ⟨b,3,none⟩=some (.int .u32 low):=by rw [cell_of_row w b 3 _ _ _ hb];rfl
 have f2:=frozen_of_row w b 2 _ _ hb;have f3:=frozen_of_row w b 3 _ _ hb;have hl0:(low:Int)<4294967296:=by omega
 have e8:IntKind.u8.wrap ((low:Int) / 16777216)=((low / 16777216:Nat):Int):=by rw [wrap_u8 (by omega) (by omega)];omega
 have b1:done.length+1≤maxLen:=by unfold maxLen;omega
 have b2:(done.length+1)*1≤140737488355328:=by omega
 have B1:=Lib.hid b1;have B2:=Lib.hid b2;have HL:=Lib.hid hlow;clear b1 b2 hlow hn;have e9:(low:Int)*256 % 4294967296=((low % 16777216*256:Nat):Int):=by omega
 go_enter Tryz.func104,Tryz.ntmps104
 go_wp2_with fail
 refine wp_region_ord 15 [(0,true),(1,true),(2,true),(3,true),(4,true),(5,true),(6,true),(7,true),(8,true),(9,true),(10,true),(11,false),(12,false),(13,true),(14,true)]
  (fun w'=>w'.cell? ⟨wc,0,none⟩=some (.pointer (some ⟨b,0,none⟩))∧w'.cell? ⟨b,2,none⟩=some dv∧w'.cell? ⟨b,3,none⟩=some (.int .u32 low)) (by kernel_rfl) (by kernel_rfl)
  (fun c a d v w h=>by cases d<;>exact h) ⟨hwc,h2,h3⟩ ?_
 (apply wpG_sure rfl rfl;focus (intro w' hw';obtain ⟨g1,g2,g3⟩:=hw';go_simp;rfl))
 (apply wpG_sure rfl rfl;focus (intro w' hw';obtain ⟨g1,g2,g3⟩:=hw';go_simp;rfl))
 (apply wpG_sure rfl rfl;focus (intro w' hw';obtain ⟨g1,g2,g3⟩:=hw';go_simp;rfl))
 (apply wpG_sure rfl rfl;focus (intro w' hw';obtain ⟨g1,g2,g3⟩:=hw';go_simp;rfl))
 (apply wpG_sure rfl rfl;focus (intro w' hw';obtain ⟨g1,g2,g3⟩:=hw';go_simp;rfl))
 (apply wpG_sure rfl rfl;focus (intro w' hw';obtain ⟨g1,g2,g3⟩:=hw';go_simp;rfl))
 (apply wpG_sure rfl rfl;focus (intro w' hw';obtain ⟨g1,g2,g3⟩:=hw';go_simp;rfl))
 (apply wpG_sure rfl rfl;focus (intro w' hw';obtain ⟨g1,g2,g3⟩:=hw';go_simp;rfl))
 (apply wpG_sure rfl rfl;focus (intro w' hw';obtain ⟨g1,g2,g3⟩:=hw';go_simp;rfl))
 (apply wpG_sure rfl rfl;focus (intro w' hw';obtain ⟨g1,g2,g3⟩:=hw';go_simp;rfl))
 (apply wpG_sure rfl rfl;focus (intro w' hw';obtain ⟨g1,g2,g3⟩:=hw';go_simp;rfl))
 (refine wpG_do rfl (fun K hK=>?_);go_simp;refine hK _ _ ⟨⟨cell_alloc_keep _ hwc,cell_alloc_keep _ h2,cell_alloc_keep _ h3⟩,?_⟩;clear hK K)
 refine wpG_do rfl (fun K hK=>?_);refine step_append_lies _ rfl (.tmp 5) (.tmp 12) 41 rfl base 5 i0 _ 1 1 Tryz.underlying41 hi0 hz0 hz1 hz2 rfl (by omega) dv done.length (done.map byteV) rfl ((hown.alloc _).drew)
  ⟨w.heap.size,0,none⟩ 1 1 [.int .u8 ((low / 16777216:Nat):Int)] rfl rfl (World.news_of_block (cs:=#[.int .u8 ((low / 16777216:Nat):Int)]) (t:=5) (fr:=(0,0)) (heap_alloc_new w _)) (by simp [Value.oneCell'])
  (by omega) B1.out B2.out (by simp;omega) (w.heap.size+1) (by simp) ?_
 intro gg cap w1 hown1 hgrow hat hlt;have k0:=grown_cell hgrow hwc n2;have k2:=grown_cell hgrow h2 n1;have k3:=grown_cell hgrow h3 n1;have kf2:=grown_free hgrow (a:=⟨b,2,none⟩) lg f2 n1;have kf3:=grown_free hgrow (a:=⟨b,3,none⟩) lg f3 n1;refine hK _ _ ⟨⟨k0,k2,k3⟩,?_⟩;clear hK K
 (apply wpG_sure rfl rfl;focus (intro w' hw';obtain ⟨g1,g2,g3⟩:=hw';go_simp;rfl))
 (apply wpG_sure rfl rfl;focus (intro w' hw';obtain ⟨g1,g2,g3⟩:=hw';go_simp;rfl))
 refine wpG_nil ?_;go_wp2
 go_end0
 have hb1:=grown_heap hgrow hb n1;have ng:gg≠b:=by
  rcases hat with h | h
  ·intro e;subst e;exact n1 h
  ·omega
 have hl:(done++[low / 16777216]).length=done.length+1:=by simp
 have hm:(done++[low / 16777216]).map byteV=done.map byteV++[.int .u8 ((low / 16777216:Nat):Int)]:=by simp [byteV]
 have hup:Upd (fun k=>k=b∨inRow dv k) w w1:=upd_grown_new hgrow (fun k hk _=>.inr hk);refine ⟨rfl,.slice (some ⟨gg,0,none⟩) (done.length+1) cap,heap_setCell_eq (i:=3) _ (heap_setCell_eq (i:=2) _ hb1),?_,?_,?_⟩
 ·rw [hl,hm];exact ownsRow_setCell_other (ownsRow_setCell_other hown1 (by simpa [Value.ownBlock] using ng) _) (by simpa [Value.ownBlock] using ng) _
 ·exact (hup.setCell (fun _=>.inl rfl) _).setCell (fun _=>.inl rfl) _
 ·rcases hat with h | h
  ·exact .inl (by rw [h];rfl)
  ·exact .inr ⟨gg,rfl,by omega⟩
set_option maxHeartbeats 400000 in
theorem add32_any (x y:Nat) (hx:x<4294967296) (hy:y<4294967296) (w:World) :
  Calls Tryz.prog 100 #[.int .u32 x,.int .u32 y,.int .u32 0] w fun e w'=>
   e=.returned (.tuple #[.int .u32 (((x+y) % 4294967296:Nat):Int),.int .u32 (((x+y) / 4294967296:Nat):Int)])∧w=w':=by
 have e1:(x:Int)<4294967296:=by omega
 have e2:(y:Int)<4294967296:=by omega
 clear hx hy;go_enter Tryz.func100,Tryz.ntmps100
 go_wp2
 go_ret2
 exact ⟨by simp,rfl⟩
structure WLive (w:World) (b wb:Nat) (dv:Value) (e:E):Prop where
 wf:e.Wf
 blk:w.heap[b]?=some (.cells #[.slice (some ⟨wb,0,none⟩) 4096 4096,.int .u32 e.m.size,dv,.int .u32 e.low] 159 (0,0))
 wt:Wts w wb e.m.p
 own:w.ownsRow 0 5 1 dv e.done.length (e.done.map byteV)
 n1:b≠wb
 n2:dv.ownBlock≠some b
 n3:dv.ownBlock≠some wb
def wFoot (b wb:Nat) (dv:Value):Nat→Prop:=fun k=>k=b∨k=wb∨inRow dv k
def wZero:Array Value:=#[.slice none 0 0,.int .u32 0,.slice none 0 0,.int .u32 0]
def WRep (w:World) (b:Nat) (e:E) (F:Nat→Prop):Prop:=
 (e=E.init∧w.heap[b]?=some (.cells wZero 159 (0,0))∧F=(·=b))∨∃wb dv,WLive w b wb dv e∧F=wFoot b wb dv
theorem WLive.keep {w w':World} {b wb:Nat} {dv:Value} {e:E} (h:WLive w b wb dv e) (hk:∀k,wFoot b wb dv k→w'.heap[k]?=w.heap[k]?):WLive w' b wb dv e:=by
 refine ⟨h.wf,(hk b (.inl rfl)).trans h.blk,h.wt.keep (hk wb (.inr (.inl rfl))),?_,h.n1,h.n2,h.n3⟩;refine ⟨h.own.1,?_⟩;rcases h.own.2 with h2 | ⟨g,cap,cur,rfl,hg,hh,r⟩
 ·exact .inl h2
 ·exact .inr ⟨g,cap,cur,rfl,hg,(hk g (.inr (.inr rfl))).trans hh,r⟩
theorem WRep.keep {w w':World} {b:Nat} {e:E} {F:Nat→Prop} (h:WRep w b e F) (hk:∀k,F k→w'.heap[k]?=w.heap[k]?):WRep w' b e F:=by
 rcases h with ⟨h1,h2,rfl⟩ | ⟨wb,dv,h1,rfl⟩
 ·exact .inl ⟨h1,(hk b rfl).trans h2,rfl⟩
 ·exact .inr ⟨wb,dv,h1.keep hk,rfl⟩
theorem WLive.lt {w:World} {b wb:Nat} {dv:Value} {e:E} (h:WLive w b wb dv e):∀k,wFoot b wb dv k→k<w.heap.size:=by
 rintro k (rfl | rfl | hk)
 ·exact lt_of_heap h.blk
 ·exact h.wt.lt
 ·exact (h.own.lt k hk).2
theorem WRep.lt {w:World} {b:Nat} {e:E} {F:Nat→Prop} (h:WRep w b e F):∀k,F k→k<w.heap.size:=by
 rcases h with ⟨h1,h2,rfl⟩ | ⟨wb,dv,h1,rfl⟩
 ·intro k hk;subst hk;exact lt_of_heap h2
 ·exact h1.lt
theorem WRep.upd {w w':World} {b:Nat} {e:E} {F G:Nat→Prop} (h:WRep w b e F) (hu:Upd G w w') (hd:∀k,F k→¬G k):WRep w' b e F:=
 h.keep fun k hk=>hu.block k (h.lt k hk) (hd k hk)
theorem WRep.wf {w:World} {b:Nat} {e:E} {F:Nat→Prop} (h:WRep w b e F):e.Wf:=by
 rcases h with ⟨h1,h2,rfl⟩ | ⟨wb,dv,h1,rfl⟩
 ·rw [h1];exact E.init_wf
 ·exact h1.wf
theorem begin_W (b:Nat) (e:E) (F:Nat→Prop) (w:World) (h:WRep w b e F) :
  Calls Tryz.prog 99 #[.pointer (some ⟨b,0,none⟩)] w fun en w'=>∃r,en=.returned (.bool r)∧∃wb dv,WLive w' b wb dv e∧Upd F w w'∧∀k,wFoot b wb dv k→F k∨w.heap.size≤k:=by
 rcases h with ⟨rfl,h2,rfl⟩ | ⟨wb,dv,h1,rfl⟩
 ·refine (begin_new b w wZero 159 h2 rfl (by decide)).mono ?_;rintro en w' ⟨rfl,wb,hlt,hb,hwt,hup⟩;have hlb:=lt_of_heap h2;refine ⟨true,rfl,wb,.slice none 0 0,⟨E.init_wf,hb,hwt,World.ownsRow_nil _ _ _ _,by omega,by simp [Value.ownBlock],by simp [Value.ownBlock]⟩,hup,?_⟩;rintro k (rfl | rfl | hk)
  ·exact .inl rfl
  ·exact .inr hlt
  ·simp [inRow,Value.ownBlock] at hk
 ·have hc:w.cell? ⟨b,0,none⟩=some (.slice (some ⟨wb,0,none⟩) 4096 4096):=by rw [cell_of_row w b 0 _ _ _ h1.blk];rfl
  refine (begin_old b w _ _ _ hc).mono ?_;rintro en w' ⟨rfl,rfl⟩;exact ⟨false,rfl,wb,dv,h1,Upd.refl _ _,fun k hk=>.inl hk⟩
theorem upd_W (c:Int) (one:Bool) (b wc wb:Nat) (dv:Value) (e:E) (w:World) (he:e.Wf) (h:WLive w b wb dv ⟨e.m,e.done1 (ctx c) one,e.low1 (ctx c) one⟩)
  (hwc:w.cell? ⟨wc,0,none⟩=some (.pointer (some ⟨b,0,none⟩))) (hf:¬wFoot b wb dv wc) (hlen:e.done.length+1≤1000000) :
  Calls Tryz.prog 103 #[.pointer (some ⟨b,0,none⟩),.int .i64 c,.bool one,.func (.func 104) #[] #[.pointer (some ⟨wc,0,none⟩)]] w fun en w'=>en=.returned (.tuple #[]) ∧
   ∃dv',WLive w' b wb dv' (e.bit c one)∧Upd (wFoot b wb dv) w w'∧(dv'.ownBlock=dv.ownBlock∨∃g,dv'.ownBlock=some g∧w.heap.size≤g):=by
 have hbl:=h.blk;have hlb:=lt_of_heap hbl;have hwl:=World.block_lt_of_cell? w _ hwc;have hdl:=h.own.lt;have hwtl:=h.wt.lt;have hn1:=h.n1;have hn2:=h.n2;have hn3:=h.n3;have ncb:wc≠b:=fun x=>hf (.inl x);have ncw:wc≠wb:=fun x=>hf (.inr (.inl x));have ncd:dv.ownBlock≠some wc:=fun x=>hf (.inr (.inr x));have hbw:=E.bit_wf he c one;have hlow:e.low1 (ctx c) one<4294967296:=E.low1_lt he _ _;refine update_W c one b wb wc e.m he.m w _ _ hbl rfl rfl h.wt h.n1 _ ?_ ?_
 ·intro hs w' hu;have hup:Upd (wFoot b wb dv) w w':=hu.up.mono fun k _ hk=>hk.elim .inl (fun h=>.inr (.inl h));have e1:e.bit c one=⟨e.m.step (ctx c) one,e.done1 (ctx c) one,e.low1 (ctx c) one⟩:=by unfold E.bit;simp only [hs];rfl
  rw [e1] at hbw ⊢;refine ⟨dv,⟨hbw,hu.blk,hu.wt,?_,h.n1,h.n2,h.n3⟩,hup,.inl rfl⟩;refine ⟨h.own.1,?_⟩;rcases h.own.2 with h2 | ⟨g,cap,cur,rfl,hg,hh,r⟩
  ·exact .inl h2
  ·exact .inr ⟨g,cap,cur,rfl,hg,hu.up.heap hh (fun x=>x.elim (fun y=>hn2 (by simp [Value.ownBlock,y])) (fun y=>hn3 (by simp [Value.ownBlock,y]))),r⟩
 ·intro hs w' hu;have hup:Upd (wFoot b wb dv) w w':=hu.up.mono fun k _ hk=>hk.elim .inl (fun h=>.inr (.inl h));have hown':w'.ownsRow 0 5 1 dv (e.done1 (ctx c) one).length ((e.done1 (ctx c) one).map byteV):=by
   refine ⟨h.own.1,?_⟩;rcases h.own.2 with h2 | ⟨g,cap,cur,rfl,hg,hh,r⟩
   ·exact .inl h2
   ·exact .inr ⟨g,cap,cur,rfl,hg,hu.up.heap hh (fun x=>x.elim (fun y=>hn2 (by simp [Value.ownBlock,y])) (fun y=>hn3 (by simp [Value.ownBlock,y]))),r⟩
  have hwc':w'.cell? ⟨wc,0,none⟩=some (.pointer (some ⟨b,0,none⟩)):=hu.up.cell hwc (fun x=>x.elim ncb ncw);refine (shiftW_any b wc 0 w' _ _ dv 159 (e.done1 (ctx c) one) (e.low1 (ctx c) one) hlow hwc' hu.blk hown' (Nat.zero_le _) (by rw [E.done1_length];exact hlen) hn2 ncd (fun x=>ncb x.symm)).mono ?_;rintro en w'' ⟨rfl,dv',hb2,ho2,hu2,hg2⟩;have e1:e.bit c one=⟨e.m.step (ctx c) one,e.done1 (ctx c) one++[e.low1 (ctx c) one / 16777216],e.low1 (ctx c) one % 16777216*256⟩:=by unfold E.bit;simp only [hs];rfl
  have hsz:=hu.up.size;refine ⟨rfl,by rw [cell_of_row w'' b 1 _ _ _ hb2];rfl,dv',?_,hup.trans (hu2.mono fun k _ hk=>hk.elim .inl (fun h=>.inr (.inr h))),?_⟩
  ·rw [e1] at hbw ⊢;refine ⟨hbw,hb2,hu.wt.keep (hu2.block wb (hu.wt.lt) (fun x=>x.elim (fun y=>hn1 y.symm) (fun y=>hn3 y))),ho2,hn1,?_,?_⟩
   ·rcases hg2 with h3 | ⟨g,h3,h4⟩
    ·rw [h3];exact hn2
    ·rw [h3];simp;omega
   ·rcases hg2 with h3 | ⟨g,h3,h4⟩
    ·rw [h3];exact hn3
    ·rw [h3];simp;omega
  ·rcases hg2 with h3 | ⟨g,h3,h4⟩
   ·exact .inl h3
   ·exact .inr ⟨g,h3,by omega⟩
end Go.Proofs.YtcikldoaidmnhaaGreatDoor
namespace Go.Proofs.YtcikldoaidmnhaaGreatDoor
open Go Go.RowKit
structure MapKit (P:Program) (α β:Type) where
 t:TypeId
 k:TypeId
 e:TypeId
 encK:α→Value
 klK:α→Lit
 goodK:α→Prop
 encV:β→Value
 dV:β→DataW Unit
 goodV:β→Prop
 zero:β
 R:Value→Option (DataW Unit × List MemPlace)
 keyed:Maps.Keyed P k
 ht:P.underlying t=some (.map k e)
 hkey:∀a,goodK a→keyOf P k (encK a)=some (klK a)
 inj:∀a b,goodK a→goodK b→klK a=klK b→a=b
 hval:∀b,goodV b→R (encV b)=some (dV b,[])
 hinv:∀v y,R v=some y→∃b,goodV b∧v=encV b∧y=(dV b,[])
 dinj:∀b b',goodV b→goodV b'→dV b=dV b'→b=b'
 hz:∀w,(zeroValue e).run P w=.ok (encV zero) w
 gz:goodV zero
variable {P:Program} {α β:Type}
def MapKit.At (K:MapKit P α β) (w:World) (b n:Nat) (f:α→Option β):Prop:=
 ∃D:DataW Unit,w.ownsMap P K.k K.R b n D∧(∀a,K.goodK a→D.atKey (K.klK a) (K.dV K.zero)=K.dV ((f a).getD K.zero))∧(∀a,K.goodK a→Maps.has D (K.klK a)=(f a).isSome)∧(∀kl,Maps.has D kl=true→∃a,K.goodK a∧kl=K.klK a)∧(∀a v,f a=some v→K.goodV v)
theorem MapKit.At.made (K:MapKit P α β) (w:World):K.At (w.alloc (.map #[] 0)) w.heap.size 0 (fun _=>none):=⟨_,World.ownsMap_made _ _ _ _,fun _ _=>rfl,fun _ _=>rfl,(fun _ h=>by cases h),(fun _ _ h=>by cases h)⟩
theorem MapKit.At.blk {K:MapKit P α β} {w:World} {b n:Nat} {f:α→Option β} (h:K.At w b n f):∃es clock,w.heap[b]?=some (.map es clock):=by
 obtain ⟨D,⟨es,clock,h1,_⟩,_⟩:=h;exact ⟨es,clock,h1⟩
theorem MapKit.At.heap {K:MapKit P α β} {w w':World} {b n:Nat} {f:α→Option β} (h:K.At w b n f) (hb:∀o,w.heap[b]?=some o→w'.heap[b]?=some o):K.At w' b n f:=by
 obtain ⟨D,⟨es,clock,h1,h2,h3,h4⟩,h5⟩:=h;exact ⟨D,⟨es,clock,hb _ h1,h2,h3,h4⟩,h5⟩
theorem MapKit.At.keep {K:MapKit P α β} {w w':World} {b n:Nat} {f:α→Option β} (h:K.At w b n f) (hu:Upd noBlk w w'):K.At w' b n f:=h.heap (fun _ ho=>hu.heap ho id)
theorem MapKit.At.other {K:MapKit P α β} {F:Nat→Prop} {w w':World} {b n:Nat} {f:α→Option β} (h:K.At w b n f) (hu:Upd F w w') (hF:¬F b):K.At w' b n f:=h.heap (fun _ ho=>hu.heap ho hF)
theorem MapKit.At.mono {K:MapKit P α β} {w:World} {b n m:Nat} {f:α→Option β} (h:K.At w b n f) (hm:n≤m):K.At w b m f:=by
 obtain ⟨D,h1,h2⟩:=h;exact ⟨D,h1.mono hm,h2⟩
theorem MapKit.At.look {K:MapKit P α β} {w:World} {ops:Array Oper} {rest:List Oper} {o:Oper} {ac:Act} {Q:Exit→Act→World→Prop} {b n:Nat} {f:α→Option β} (h:K.At w b n f) (hg:o.guard=none) (m x:Operand) (hop:o.op=Op.lookup K.t m x false) (hm:ac.eval m=.map (some b)) {a:α} (hx:ac.eval x=K.encK a) (ha:K.goodK a)
  (hK:wpList P ops Q rest (ac.put o.dst (K.encV ((f a).getD K.zero))) w):wpList P ops Q (o :: rest) ac w:=by
 obtain ⟨D,h1,h2,h3,h4,h5⟩:=h;obtain ⟨v,ps,hrun,hv⟩:=h1.lookup K.keyed K.ht (K.hz w) (K.hval _ K.gz) (K.hkey a ha);obtain ⟨c,gc,rfl,hc⟩:=K.hinv v _ hv;rw [h2 a ha] at hc;have hgd:K.goodV ((f a).getD K.zero):=by
  cases hf:f a with
  | none=>exact K.gz
  | some u=>exact h5 a u hf
 have:=K.dinj _ _ hgd gc (by simpa using (Prod.mk.inj hc).1);subst this;refine wpList_plain hg fun K' hK'=>?_;unfold Oper.wp;simp [execOp,hop,hm,hx,hrun,Result.andThen];exact hK' _ _ hK
theorem MapKit.At.putD [DecidableEq α] {K:MapKit P α β} {w w':World} {b n:Nat} {f:α→Option β} {D:DataW Unit} (h1:w.ownsMap P K.k K.R b n D) (h2:∀a,K.goodK a→D.atKey (K.klK a) (K.dV K.zero)=K.dV ((f a).getD K.zero)) (h3:∀a,K.goodK a→Maps.has D (K.klK a)=(f a).isSome) (h4:∀kl,Maps.has D kl=true→∃a,K.goodK a∧kl=K.klK a) (h5:∀a v,f a=some v→K.goodV v)
  {a:α} (ha:K.goodK a) {v:β} (hv:K.goodV v) (k1:w'.ownsMap P K.k K.R b (n+1) (D.put (K.klK a) (K.dV v))):K.At w' b (n+1) (fun c=>if c=a then some v else f c):=by
 have ht:=h1.tidy K.keyed;have hkl:WideAt.IsKeyLit (K.klK a):=K.keyed.key (K.hkey a ha);refine ⟨_,k1,fun c hc=>?_,fun c hc=>?_,fun kl hk=>?_,fun c u hu=>?_⟩
 ·by_cases e:c=a
  ·subst e;rw [Maps.atKey_put_same ht.isMap hkl];simp only [if_pos,Option.getD_some]
  ·rw [Maps.atKey_put_other (fun h=>e (K.inj c a hc ha h)),h2 c hc];simp only [if_neg e]
 ·by_cases e:c=a
  ·subst e;rw [Maps.has_put_same ht.isMap hkl];simp only [if_pos,Option.isSome_some]
  ·rw [Maps.has_put_other (fun h=>e (K.inj c a hc ha h)),h3 c hc];simp only [if_neg e]
 ·by_cases e:kl=K.klK a
  ·exact ⟨a,ha,e⟩
  ·rw [Maps.has_put_other e] at hk;exact h4 kl hk
 ·by_cases e:c=a
  ·simp only [if_pos e] at hu;cases hu;exact hv
  ·simp only [if_neg e] at hu;exact h5 c u hu
theorem MapKit.At.put [DecidableEq α] {K:MapKit P α β} {w:World} {b n:Nat} {f:α→Option β} (h:K.At w b n f) (hn:n<maxLen) {a:α} (ha:K.goodK a) {v:β} (hv:K.goodV v) :
  ∃w',(Instr.mapUpdate K.t (.map (some b)) (K.encK a) (K.encV v)).run P w=.ok () w'∧K.At w' b (n+1) (fun c=>if c=a then some v else f c)∧Upd (fun j=>j=b) w w':=by
 obtain ⟨D,h1,h2,h3,h4,h5⟩:=h;obtain ⟨w',hrun,k1,k2⟩:=h1.update K.keyed K.ht hn (K.hkey a ha) (K.hval v hv);exact ⟨w',hrun,MapKit.At.putD h1 h2 h3 h4 h5 ha hv k1,upd_of_grown k2 (fun j hj _=>(Option.some.inj hj).symm)⟩
theorem MapKit.At.store [DecidableEq α] {K:MapKit P α β} {w:World} {ops:Array Oper} {rest:List Oper} {o:Oper} {ac:Act} {Q:Exit→Act→World→Prop} {b n:Nat} {f:α→Option β} (h:K.At w b n f) (hn:n<maxLen) (hg:o.guard=none) (m x y:Operand) (hop:o.op=Op.mapUpdate K.t m x y) (hm:ac.eval m=.map (some b)) {a:α} (hx:ac.eval x=K.encK a) (ha:K.goodK a) {v:β} (hy:ac.eval y=K.encV v) (hv:K.goodV v)
  (hK:∀w',K.At w' b (n+1) (fun c=>if c=a then some v else f c)→Upd (fun j=>j=b) w w'→wpList P ops Q rest (ac.put o.dst undef) w'):wpList P ops Q (o :: rest) ac w:=by
 obtain ⟨w',hrun,r1,r2⟩:=h.put hn ha hv;refine wpList_plain hg fun K' hK'=>?_;unfold Oper.wp;simp [execOp,hop,hm,hx,hy,hrun,Result.andThen];exact hK' _ _ (hK w' r1 r2)
def MapKit.Rng (K:MapKit P α β) (w:World) (b r n:Nat) (f:α→Option β) (left:α→Bool) (cnt:Nat):Prop:=
 ∃(D:DataW Unit) (ll:Lit→Bool),w.ranges P K.k K.R b r n D ll cnt∧(∀a,K.goodK a→D.atKey (K.klK a) (K.dV K.zero)=K.dV ((f a).getD K.zero))∧(∀a,K.goodK a→Maps.has D (K.klK a)=(f a).isSome)∧(∀kl,Maps.has D kl=true→∃a,K.goodK a∧kl=K.klK a)∧(∀a v,f a=some v→K.goodV v)∧(∀a,K.goodK a→ll (K.klK a)=left a)∧(∀kl,ll kl=true→Maps.has D kl=true)
theorem MapKit.Rng.at {K:MapKit P α β} {w:World} {b r n:Nat} {f:α→Option β} {left:α→Bool} {cnt:Nat} (h:K.Rng w b r n f left cnt):K.At w b n f:=by
 obtain ⟨D,ll,h1,h2,h3,h4,h5,_⟩:=h;exact ⟨D,h1.owns,h2,h3,h4,h5⟩
theorem MapKit.Rng.left_eq {K:MapKit P α β} {w:World} {b r n:Nat} {f:α→Option β} {left:α→Bool} {cnt:Nat} (h:K.Rng w b r n f left cnt):w.rangeLeft b r=cnt:=by
 obtain ⟨D,ll,h1,_⟩:=h;exact h1.left_eq
theorem MapKit.Rng.kept {K:MapKit P α β} {w w':World} {b r n:Nat} {f:α→Option β} {left:α→Bool} {cnt:Nat} {row:Option Nat} (h:K.Rng w b r n f left cnt) (hg:w.grownBy w' row) (hb:some b≠row) (hr:some r≠row):K.Rng w' b r n f left cnt:=by
 obtain ⟨D,ll,h1,h2⟩:=h;exact ⟨D,ll,h1.kept hg hb hr,h2⟩
theorem MapKit.At.range {K:MapKit P α β} {w:World} {ops:Array Oper} {rest:List Oper} {o:Oper} {ac:Act} {Q:Exit→Act→World→Prop} {b n:Nat} {f:α→Option β} (h:K.At w b n f) (hg:o.guard=none) (m:Operand) (hop:o.op=Op.range K.t m) (hm:ac.eval m=.map (some b))
  (hK:∀w' cnt,K.Rng w' b w.heap.size n f (fun a=>(f a).isSome) cnt→w.grownBy w' none→w'.heap.size=w.heap.size+1→wpList P ops Q rest (ac.put o.dst (.pointer (some ⟨w.heap.size,0,none⟩))) w'):wpList P ops Q (o :: rest) ac w:=by
 obtain ⟨D,h1,h2,h3,h4,h5⟩:=h;exact wpList_range_own w hg m K.t hop K.k K.e K.keyed K.ht K.R b n D hm h1 (fun w' k1 k2 k3=>hK w' _ ⟨D,_,k1,h2,h3,h4,h5,fun a ha=>h3 a ha,fun _ h=>h⟩ k2 k3)
theorem MapKit.Rng.next [DecidableEq α] {K:MapKit P α β} {w:World} {ops:Array Oper} {rest:List Oper} {o:Oper} {ac:Act} {Q:Exit→Act→World→Prop} {b r n:Nat} {f:α→Option β} {left:α→Bool} {cnt:Nat} (h:K.Rng w b r n f left cnt) (hg:o.guard=none) (it:Operand) (hop:o.op=Op.next it false) (hit:ac.eval it=.pointer (some ⟨r,0,none⟩))
  (hDone:cnt=0→(∀a,K.goodK a→left a=false)→wpList P ops Q rest (ac.put o.dst (.tuple #[.bool false])) w)
  (hMore:∀(a:α) (v:β) (w':World) (cnt':Nat),K.goodK a→left a=true→f a=some v→K.Rng w' b r n f (fun c=>left c&&!decide (c=a)) cnt'→cnt'<cnt→w.grownBy w' (some r)→w'.heap.size=w.heap.size →
   (Instr.entry (.pointer (some ⟨r,0,none⟩))).run P w'=.ok (.tuple #[K.encK a,K.encV v]) w'→wpList P ops Q rest (ac.put o.dst (.tuple #[.bool true,K.encK a,K.encV v])) w') :
  wpList P ops Q (o :: rest) ac w:=by
 obtain ⟨D,ll,h1,h2,h3,h4,h5,h6,h7⟩:=h;refine wpList_next_ranges (α:=Value) (β:=Value) w hg it hop K.k K.keyed K.R id id (fun key _ _=>⟨key,rfl⟩) (fun v _ _=>⟨v,rfl⟩) b r n D ll cnt hit h1 (fun c0 hl=>hDone c0 (fun a ha=>by rw [←h6 a ha];exact hl _)) ?_;intro x c kl y w' cnt' hkey hll hR hat hrg hlt hgr hsz hen;simp only [id] at hkey hR hen ⊢;obtain ⟨a,ha,rfl⟩:=h4 kl (h7 kl hll);have hxa:x=K.encK a:=K.keyed.inj hkey (K.hkey a ha);subst hxa;have hsome:=h3 a ha;rw [h7 _ hll] at hsome;obtain ⟨v,hv⟩:=Option.isSome_iff_exists.1 hsome.symm;obtain ⟨v',gv',rfl,hy⟩:=K.hinv c y hR;have h8:=h2 a ha;rw [hat,hv,hy] at h8;have:=K.dinj _ _ gv' (h5 a v hv) (by simpa using h8);subst this;refine hMore a v' w' cnt' ha (by rw [←h6 a ha];exact hll) hv ⟨D,_,hrg,h2,h3,h4,h5,fun d hd=>?_,fun kl hk=>?_⟩ hlt hgr hsz hen
 ·show (ll (K.klK d)&&!(K.klK d).sameKey (K.klK a))=_;rw [h6 d hd];congr 1
  by_cases e:d=a
  ·subst e;rw [WideAt.sameKey_self (K.keyed.key (K.hkey d hd))];simp
  ·have:(K.klK d).sameKey (K.klK a)=false:=Maps.sameKey_ne (fun h=>e (K.inj d a hd ha h));rw [this];simp [e]
 ·simp only [Bool.and_eq_true] at hk;exact h7 kl hk.1
theorem MapKit.Rng.nextH [DecidableEq α] {K:MapKit P α β} {w:World} {ops:Array Oper} {rest:List Oper} {o:Oper} {ac:Act} {Q:Exit→Act→World→Prop} {b r n:Nat} {f:α→Option β} {left:α→Bool} {cnt:Nat} (h:K.Rng w b r n f left cnt) (hg:o.guard=none) (it:Operand) (hop:o.op=Op.next it false) (hit:ac.eval it=.pointer (some ⟨r,0,none⟩))
  (hDone:Hid (cnt=0→(∀a,K.goodK a→left a=false)→wpList P ops Q rest (ac.put o.dst (.tuple #[.bool false])) w))
  (hMore:Hid (∀(a:α) (v:β) (w':World) (cnt':Nat),K.goodK a→left a=true→f a=some v→K.Rng w' b r n f (fun c=>left c&&!decide (c=a)) cnt'→cnt'<cnt→w.grownBy w' (some r)→w'.heap.size=w.heap.size →
   (Instr.entry (.pointer (some ⟨r,0,none⟩))).run P w'=.ok (.tuple #[K.encK a,K.encV v]) w'→wpList P ops Q rest (ac.put o.dst (.tuple #[.bool true,K.encK a,K.encV v])) w')) :
  wpList P ops Q (o :: rest) ac w:=h.next hg it hop hit hDone hMore
end Go.Proofs.YtcikldoaidmnhaaGreatDoor
namespace Go.Proofs.YtcikldoaidmnhaaGreatDoor
open Go Go.RowKit
variable {P:Program} {α β:Type}
theorem MapKit.At.entry [DecidableEq α] {K:MapKit P α β} (L:Go.WideMaps.KeyLaw P K.k) {w:World} {b n:Nat} {f:α→Option β} (h:K.At w b n f) (hn:n<maxLen) {a:α} (ha:K.goodK a) {v:β} (hv:K.goodV v) :
  ∃(v0:Value) (st:Nat) (w1 w2:World),(Instr.mapEntry K.t (.map (some b)) (K.encK a)).run P w=.ok (.tuple #[v0,goInt st]) w1∧(Instr.entryStore K.t (.map (some b)) (goInt st) (K.encV v)).run P w1=.ok () w2 ∧
   K.At w2 b (n+1) (fun c=>if c=a then some v else f c)∧Upd (fun j=>j=b) w w2:=by
 obtain ⟨w',hrun,r1,r2⟩:=h.put hn ha hv;obtain ⟨D,⟨es,clock,hb,hF,hs,hD⟩,_⟩:=h;obtain ⟨v0,st,es1,clock1,he,_,hst⟩:=Go.WideElems.entry_then_store L K.ht K.hz hb hF (K.hkey a ha);have hlt:=lt_of_heap hb;obtain ⟨es',clock',hs1,hs2⟩:=hst (Go.ChangeMaps.setBlock w b (.map es1 clock1)) (K.encV v) (by unfold Go.ChangeMaps.setBlock;simp [hlt]);refine ⟨v0,st,_,_,he,hs1,?_⟩;rw [hs2] at hrun;have e:Go.ChangeMaps.setBlock w b (.map es' clock')=w':=by cases hrun;rfl
 have e2:Go.ChangeMaps.setBlock (Go.ChangeMaps.setBlock w b (.map es1 clock1)) b (.map es' clock')=Go.ChangeMaps.setBlock w b (.map es' clock'):=by unfold Go.ChangeMaps.setBlock;simp
 rw [e2,e];exact ⟨r1,r2⟩
theorem MapKit.At.lookR {K:MapKit P α β} {w:World} {b n:Nat} {f:α→Option β} (h:K.At w b n f) {a:α} (ha:K.goodK a):(Instr.lookup K.t (.map (some b)) (K.encK a) false).run P w=.ok (K.encV ((f a).getD K.zero)) w:=by
 obtain ⟨D,h1,h2,h3,h4,h5⟩:=h;obtain ⟨v,ps,hrun,hv⟩:=h1.lookup K.keyed K.ht (K.hz w) (K.hval _ K.gz) (K.hkey a ha);obtain ⟨c,gc,rfl,hc⟩:=K.hinv v _ hv;rw [h2 a ha] at hc;have hgd:K.goodV ((f a).getD K.zero):=by
  cases hf:f a with
  | none=>exact K.gz
  | some u=>exact h5 a u hf
 have:=K.dinj _ _ hgd gc (by simpa using (Prod.mk.inj hc).1);subst this;exact hrun
theorem MapKit.At.lookOkR {K:MapKit P α β} {w:World} {b n:Nat} {f:α→Option β} (h:K.At w b n f) {a:α} (ha:K.goodK a):(Instr.lookup K.t (.map (some b)) (K.encK a) true).run P w=.ok (.tuple #[K.encV ((f a).getD K.zero),.bool (f a).isSome]) w:=by
 obtain ⟨D,h1,h2,h3,h4,h5⟩:=h;obtain ⟨v,ps,hrun,hv⟩:=h1.look_ok K.keyed K.ht (K.hz w) (K.hval _ K.gz) (K.hkey a ha);obtain ⟨c,gc,rfl,hc⟩:=K.hinv v _ hv;rw [h2 a ha] at hc;rw [h3 a ha] at hrun;have hgd:K.goodV ((f a).getD K.zero):=by
  cases hf:f a with
  | none=>exact K.gz
  | some u=>exact h5 a u hf
 have:=K.dinj _ _ hgd gc (by simpa using (Prod.mk.inj hc).1);subst this;exact hrun
theorem grown_of_upd {w w':World} (h:Upd noBlk w w'):w.grownBy w' none:=⟨h.os,h.tape,h.output,h.size,fun k hk _=>h.block k hk id⟩
theorem grown_of_upd1 {w w':World} {c:Nat} (h:Upd (fun j=>j=c) w w'):w.grownBy w' (some c):=⟨h.os,h.tape,h.output,h.size,fun k hk hc=>h.block k hk (fun e=>hc (by rw [e]))⟩
theorem MapKit.Rng.keep {K:MapKit P α β} {w w':World} {b r n:Nat} {f:α→Option β} {left:α→Bool} {cnt:Nat} (h:K.Rng w b r n f left cnt) (hu:Upd noBlk w w'):K.Rng w' b r n f left cnt:=h.kept (grown_of_upd hu) (by simp) (by simp)
theorem MapKit.Rng.other {K:MapKit P α β} {w w':World} {b r n c:Nat} {f:α→Option β} {left:α→Bool} {cnt:Nat} (h:K.Rng w b r n f left cnt) (hu:Upd (fun j=>j=c) w w') (hb:b≠c) (hr:r≠c):K.Rng w' b r n f left cnt:=h.kept (grown_of_upd1 hu) (by simpa using hb) (by simpa using hr)
theorem MapKit.At.entry2 [DecidableEq α] {K:MapKit P α β} (L:Go.WideMaps.KeyLaw P K.k) {w:World} {b n:Nat} {f:α→Option β} (h:K.At w b n f) (hn:n<maxLen) {a:α} (ha:K.goodK a) :
  ∃(st:Nat) (w1:World),(Instr.mapEntry K.t (.map (some b)) (K.encK a)).run P w=.ok (.tuple #[K.encV ((f a).getD K.zero),goInt st]) w1 ∧
   (K.At w1 b (n+1) (fun c=>if c=a then some ((f a).getD K.zero) else f c)∧Upd (fun j=>j=b) w w1) ∧
   ∀v,K.goodV v→∃w2,(Instr.entryStore K.t (.map (some b)) (goInt st) (K.encV v)).run P w1=.ok () w2∧K.At w2 b (n+1) (fun c=>if c=a then some v else f c)∧Upd (fun j=>j=b) w w2:=by
 have hl:=h.lookR ha;have hkey:=K.hkey a ha;obtain ⟨D,⟨es,clock,hb,hF,hs,hD⟩,_⟩:=id h;obtain ⟨v0,st,es1,clock1,he,_,hst⟩:=Go.WideElems.entry_then_store L K.ht K.hz hb hF hkey;have hlt:=lt_of_heap hb;have hgd:K.goodV ((f a).getD K.zero):=by
  obtain ⟨D',_,_,_,_,h5⟩:=id h;cases hf:f a with
  | none=>exact K.gz
  | some u=>exact h5 a u hf
 obtain ⟨wp,hput,p1,p2⟩:=h.put hn ha hgd;have hv0:v0=K.encV ((f a).getD K.zero)∧Go.ChangeMaps.setBlock w b (.map es1 clock1)=wp:=by
  rcases L.find w hkey es.toList hF.keys with ⟨h1,h2⟩ | ⟨j,e0,h1,h2,h3⟩
  ·simp [Instr.mapEntry,run_underlying K.ht,MapKept.run_getObj_map hb,L.check w false hkey,h1,K.hz,MapKept.run_setObj_map _ hb,Result.andThen] at he;simp [Instr.lookup,run_underlying K.ht,MapKept.run_getObj_map hb,L.check w es.isEmpty hkey,h1,K.hz,Result.andThen] at hl;simp [Instr.mapUpdate,run_underlying K.ht,MapKept.run_getObj_map hb,L.check w false hkey,h1,MapKept.run_setObj_map _ hb,Result.andThen] at hput;rw [←hl] at hput;exact ⟨by rw [←he.1.1];exact hl,he.2.symm.trans hput⟩
  ·have hj:es[j]?=some e0:=by simpa using h2
   simp [Instr.mapEntry,run_underlying K.ht,MapKept.run_getObj_map hb,L.check w false hkey,h1,hj,Result.andThen] at he;rw [h3,L.stays w hkey] at he;simp [MapKept.run_setObj_map _ hb] at he;simp [Instr.lookup,run_underlying K.ht,MapKept.run_getObj_map hb,L.check w es.isEmpty hkey,h1,Result.andThen] at hl;simp [Instr.mapUpdate,run_underlying K.ht,MapKept.run_getObj_map hb,L.check w false hkey,h1,hj,Result.andThen] at hput;rw [h3,L.stays w hkey] at hput;simp [MapKept.run_setObj_map _ hb] at hput;have hmod:es.modify j (fun e=>{ key:=K.encK a,val:=e.val,born:=e.born })=es.modify j (fun e=>{ key:=K.encK a,val:=K.encV ((f a).getD K.zero),born:=e.born }):=by
    apply Array.ext_getElem?;intro i;rw [Array.getElem?_modify,Array.getElem?_modify];by_cases hi:j=i
    ·subst hi;rw [if_pos rfl,if_pos rfl,hj];simp [hl]
    ·rw [if_neg hi,if_neg hi]
   rw [←hmod] at hput;exact ⟨by rw [←he.1.1];exact hl,he.2.symm.trans hput⟩
 obtain ⟨rfl,hw1⟩:=hv0;refine ⟨st,_,he,⟨hw1 ▸ p1,hw1 ▸ p2⟩,fun v hv=>?_⟩;obtain ⟨w',hrun,r1,r2⟩:=h.put hn ha hv;obtain ⟨es',clock',hs1,hs2⟩:=hst (Go.ChangeMaps.setBlock w b (.map es1 clock1)) (K.encV v) (by unfold Go.ChangeMaps.setBlock;simp [hlt]);rw [hs2] at hrun;have e:Go.ChangeMaps.setBlock w b (.map es' clock')=w':=by cases hrun;rfl
 have e2:Go.ChangeMaps.setBlock (Go.ChangeMaps.setBlock w b (.map es1 clock1)) b (.map es' clock')=Go.ChangeMaps.setBlock w b (.map es' clock'):=by unfold Go.ChangeMaps.setBlock;simp
 rw [e2,e] at hs1;exact ⟨w',hs1,r1,r2⟩
noncomputable def mkR (goodV:β→Prop) (encV:β→Value) (dV:β→DataW Unit):Value→Option (DataW Unit × List MemPlace):=fun v=>
 open Classical in if h:∃b,goodV b∧v=encV b then some (dV h.choose,[]) else none
theorem mkR_val {goodV:β→Prop} {encV:β→Value} {dV:β→DataW Unit} (hi:∀a b,encV a=encV b→a=b) (b:β) (hb:goodV b):mkR goodV encV dV (encV b)=some (dV b,[]):=by
 unfold mkR;have h:∃c,goodV c∧encV b=encV c:=⟨b,hb,rfl⟩;rw [dif_pos h];have e:h.choose=b:=(hi b h.choose h.choose_spec.2).symm;rw [e]
theorem mkR_inv {goodV:β→Prop} {encV:β→Value} {dV:β→DataW Unit} (hi:∀a b,encV a=encV b→a=b) {v:Value} {y:DataW Unit × List MemPlace} (h:mkR goodV encV dV v=some y):∃b,goodV b∧v=encV b∧y=(dV b,[]):=by
 by_cases hex:∃b,goodV b∧v=encV b
 ·obtain ⟨b,hb,rfl⟩:=hex;rw [mkR_val hi b hb] at h;exact ⟨b,hb,rfl,(Option.some.inj h).symm⟩
 ·unfold mkR at h;rw [dif_neg hex] at h;cases h
end Go.Proofs.YtcikldoaidmnhaaGreatDoor
