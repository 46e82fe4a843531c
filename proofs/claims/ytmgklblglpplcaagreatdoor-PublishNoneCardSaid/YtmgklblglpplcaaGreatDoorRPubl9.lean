/- Parts: Walks of the coder's writer: the closure of Bit, Add32, Bit. -/
import Derived.Test.YtmgklblglpplcaaGreatDoorRPubl1
import Derived.Test.YtmgklblglpplcaaGreatDoorRPubl2
import Derived.Test.YtmgklblglpplcaaGreatDoorRPubl3
import Derived.Test.YtmgklblglpplcaaGreatDoorRPubl4
import Derived.Test.YtmgklblglpplcaaGreatDoorRows
import Derived.WalkKit
import Derived.WalkSpells
import Derived.WalkLawsBesides
import Derived.Lib.Hide
import Derived.BigQuiet
import Derived.Deep.DeepFit
import Derived.Deep.DeepCutAuto
import Derived.Deep.AppendLies
import Derived.Deep.QuietTactic
import Derived.Deep.RegionHeld3
import Derived.StillTail
namespace Go.Proofs.YtmgklblglpplcaaGreatDoor
open Go Go.RowKit Pc
set_option maxRecDepth 100000
theorem info_u8:(Tryz.prog.info? 5).map (fun i=>(i.zero,i.size,i.bytes))=some (some (.int .u8 0),1,1):=by kernel_rfl
set_option maxHeartbeats 1000000 in
theorem shiftW_any (b wc base:Nat) (w:World) (c0 c1 dv:Value) (T:TypeId) (done:List Nat) (low:Nat) (hlow:low<4294967296)
  (hwc:w.cell? ⟨wc,0,none⟩=some (.pointer (some ⟨b,0,none⟩)))
  (hb:w.heap[b]?=some (.cells #[c0,c1,dv,.int .u32 low] T (0,0)))
  (hown:w.ownsRow base 5 1 dv done.length (done.map byteV)) (hbase:base≤w.heap.size)
  (hn:done.length+1≤1000000) (n1:dv.ownBlock≠some b) (n2:dv.ownBlock≠some wc) (n3:b≠wc) :
  Calls Tryz.prog 142 #[.pointer (some ⟨wc,0,none⟩)] w fun e w'=>e=.returned (.tuple #[])∧∃dv',
   w'.heap[b]?=some (.cells #[c0,c1,dv',.int .u32 ((low % 16777216*256:Nat):Int)] T (0,0)) ∧
   w'.ownsRow base 5 1 dv' (done++[low / 16777216]).length ((done++[low / 16777216]).map byteV) ∧
   Upd (fun k=>k=b∨inRow dv k) w w'∧(dv'.ownBlock=dv.ownBlock∨∃g,dv'.ownBlock=some g∧w.heap.size≤g):=by
 obtain ⟨i0,hi0,hz0,hz1,hz2⟩:=info_parts info_u8;have lg:=lt_of_heap hb;have lk:=World.block_lt_of_cell? w _ hwc;have h2:w.cell? ⟨b,2,none⟩=some dv:=by rw [cell_of_row w b 2 _ _ _ hb];rfl
 have h3:w.cell? ⟨b,3,none⟩=some (.int .u32 low):=by rw [cell_of_row w b 3 _ _ _ hb];rfl
 have f2:=frozen_of_row w b 2 _ _ hb;have f3:=frozen_of_row w b 3 _ _ hb;have hl0:(low:Int)<4294967296:=by omega
 have e8:IntKind.u8.wrap ((low:Int) / 16777216)=((low / 16777216:Nat):Int):=by rw [wrap_u8 (by omega) (by omega)];omega
 have b1:done.length+1≤maxLen:=by unfold maxLen;omega
 have b2:(done.length+1)*1≤140737488355328:=by omega
 have B1:=Lib.hid b1;have B2:=Lib.hid b2;have HL:=Lib.hid hlow;clear b1 b2 hlow hn;have e9:(low:Int)*256 % 4294967296=((low % 16777216*256:Nat):Int):=by omega
 go_enter Tryz.func142,Tryz.ntmps142
 go_wp2_with fail
 refine wp_region_ord 15 [(0,true),(1,true),(2,true),(3,true),(4,true),(5,true),(6,true),(7,true),(8,true),(9,true),(10,true),(11,false),(12,false),(13,true),(14,true)]
  (fun w'=>w'.cell? ⟨wc,0,none⟩=some (.pointer (some ⟨b,0,none⟩))∧w'.cell? ⟨b,2,none⟩=some dv∧w'.cell? ⟨b,3,none⟩=some (.int .u32 low)) (by kernel_rfl) (by kernel_rfl)
  (fun c a d v w h=>by cases d<;>exact h) ⟨hwc,h2,h3⟩ ?_
 (apply wpG_sure rfl rfl;focus (intro w' hw';obtain ⟨g1,g2,g3⟩:=hw';go_simp;rfl))
 (apply wpG_sure rfl rfl;focus (intro w' hw';obtain ⟨g1,g2,g3⟩:=hw';go_simp;rfl))
 (apply wpG_sure rfl rfl;focus (intro w' hw';obtain ⟨g1,g2,g3⟩:=hw';go_simp;rfl))
 (apply wpG_sure rfl rfl;focus (intro w' hw';obtain ⟨g1,g2,g3⟩:=hw';go_simp;rfl))
 (apply wpG_sure rfl rfl;focus (intro w' hw';obtain ⟨g1,g2,g3⟩:=hw';go_simp;rfl))
 (apply wpG_sure rfl rfl;focus (intro w' hw';obtain ⟨g1,g2,g3⟩:=hw';go_simp;rfl))
 (apply wpG_sure rfl rfl;focus (intro w' hw';obtain ⟨g1,g2,g3⟩:=hw';go_simp;rfl))
 (apply wpG_sure rfl rfl;focus (intro w' hw';obtain ⟨g1,g2,g3⟩:=hw';go_simp;rfl))
 (apply wpG_sure rfl rfl;focus (intro w' hw';obtain ⟨g1,g2,g3⟩:=hw';go_simp;rfl))
 (apply wpG_sure rfl rfl;focus (intro w' hw';obtain ⟨g1,g2,g3⟩:=hw';go_simp;rfl))
 (apply wpG_sure rfl rfl;focus (intro w' hw';obtain ⟨g1,g2,g3⟩:=hw';go_simp;rfl))
 (refine wpG_do rfl (fun K hK=>?_);go_simp;refine hK _ _ ⟨⟨cell_alloc_keep _ hwc,cell_alloc_keep _ h2,cell_alloc_keep _ h3⟩,?_⟩;clear hK K)
 refine wpG_do rfl (fun K hK=>?_);refine step_append_lies _ rfl (.tmp 5) (.tmp 12) 48 rfl base 5 i0 _ 1 1 Tryz.underlying48 hi0 hz0 hz1 hz2 rfl (by omega) dv done.length (done.map byteV) rfl ((hown.alloc _).drew)
  ⟨w.heap.size,0,none⟩ 1 1 [.int .u8 ((low / 16777216:Nat):Int)] rfl rfl (World.news_of_block (cs:=#[.int .u8 ((low / 16777216:Nat):Int)]) (t:=5) (fr:=(0,0)) (heap_alloc_new w _)) (by simp [Value.oneCell'])
  (by omega) B1.out B2.out (by simp;omega) (w.heap.size+1) (by simp) ?_
 intro gg cap w1 hown1 hgrow hat hlt;have k0:=grown_cell hgrow hwc n2;have k2:=grown_cell hgrow h2 n1;have k3:=grown_cell hgrow h3 n1;have kf2:=grown_free hgrow (a:=⟨b,2,none⟩) lg f2 n1;have kf3:=grown_free hgrow (a:=⟨b,3,none⟩) lg f3 n1;refine hK _ _ ⟨⟨k0,k2,k3⟩,?_⟩;clear hK K
 (apply wpG_sure rfl rfl;focus (intro w' hw';obtain ⟨g1,g2,g3⟩:=hw';go_simp;rfl))
 (apply wpG_sure rfl rfl;focus (intro w' hw';obtain ⟨g1,g2,g3⟩:=hw';go_simp;rfl))
 refine wpG_nil ?_;go_wp2
 go_end0
 have hb1:=grown_heap hgrow hb n1;have ng:gg≠b:=by
  rcases hat with h | h
  ·intro e;subst e;exact n1 h
  ·omega
 have hl:(done++[low / 16777216]).length=done.length+1:=by simp
 have hm:(done++[low / 16777216]).map byteV=done.map byteV++[.int .u8 ((low / 16777216:Nat):Int)]:=by simp [byteV]
 have hup:Upd (fun k=>k=b∨inRow dv k) w w1:=upd_grown_new hgrow (fun k hk _=>.inr hk);refine ⟨rfl,.slice (some ⟨gg,0,none⟩) (done.length+1) cap,heap_setCell_eq (i:=3) _ (heap_setCell_eq (i:=2) _ hb1),?_,?_,?_⟩
 ·rw [hl,hm];exact ownsRow_setCell_other (ownsRow_setCell_other hown1 (by simpa [Value.ownBlock] using ng) _) (by simpa [Value.ownBlock] using ng) _
 ·exact (hup.setCell (fun _=>.inl rfl) _).setCell (fun _=>.inl rfl) _
 ·rcases hat with h | h
  ·exact .inl (by rw [h];rfl)
  ·exact .inr ⟨gg,rfl,by omega⟩
set_option maxHeartbeats 400000 in
theorem add32_any (x y:Nat) (hx:x<4294967296) (hy:y<4294967296) (w:World) :
  Calls Tryz.prog 138 #[.int .u32 x,.int .u32 y,.int .u32 0] w fun e w'=>
   e=.returned (.tuple #[.int .u32 (((x+y) % 4294967296:Nat):Int),.int .u32 (((x+y) / 4294967296:Nat):Int)])∧w=w':=by
 have e1:(x:Int)<4294967296:=by omega
 have e2:(y:Int)<4294967296:=by omega
 clear hx hy;go_enter Tryz.func138,Tryz.ntmps138
 go_wp2
 go_ret2
 exact ⟨by simp,rfl⟩
structure WLive (w:World) (b wb:Nat) (dv:Value) (e:E):Prop where
 wf:e.Wf
 blk:w.heap[b]?=some (.cells #[.slice (some ⟨wb,0,none⟩) 4096 4096,.int .u32 e.m.size,dv,.int .u32 e.low] 239 (0,0))
 wt:Wts w wb e.m.p
 own:w.ownsRow 0 5 1 dv e.done.length (e.done.map byteV)
 n1:b≠wb
 n2:dv.ownBlock≠some b
 n3:dv.ownBlock≠some wb
def wFoot (b wb:Nat) (dv:Value):Nat→Prop:=fun k=>k=b∨k=wb∨inRow dv k
def wZero:Array Value:=#[.slice none 0 0,.int .u32 0,.slice none 0 0,.int .u32 0]
def WRep (w:World) (b:Nat) (e:E) (F:Nat→Prop):Prop:=
 (e=E.init∧w.heap[b]?=some (.cells wZero 239 (0,0))∧F=(·=b))∨∃wb dv,WLive w b wb dv e∧F=wFoot b wb dv
theorem WLive.keep {w w':World} {b wb:Nat} {dv:Value} {e:E} (h:WLive w b wb dv e) (hk:∀k,wFoot b wb dv k→w'.heap[k]?=w.heap[k]?):WLive w' b wb dv e:=by
 refine ⟨h.wf,(hk b (.inl rfl)).trans h.blk,h.wt.keep (hk wb (.inr (.inl rfl))),?_,h.n1,h.n2,h.n3⟩;refine ⟨h.own.1,?_⟩;rcases h.own.2 with h2 | ⟨g,cap,cur,rfl,hg,hh,r⟩
 ·exact .inl h2
 ·exact .inr ⟨g,cap,cur,rfl,hg,(hk g (.inr (.inr rfl))).trans hh,r⟩
theorem WRep.keep {w w':World} {b:Nat} {e:E} {F:Nat→Prop} (h:WRep w b e F) (hk:∀k,F k→w'.heap[k]?=w.heap[k]?):WRep w' b e F:=by
 rcases h with ⟨h1,h2,rfl⟩ | ⟨wb,dv,h1,rfl⟩
 ·exact .inl ⟨h1,(hk b rfl).trans h2,rfl⟩
 ·exact .inr ⟨wb,dv,h1.keep hk,rfl⟩
theorem WLive.lt {w:World} {b wb:Nat} {dv:Value} {e:E} (h:WLive w b wb dv e):∀k,wFoot b wb dv k→k<w.heap.size:=by
 rintro k (rfl | rfl | hk)
 ·exact lt_of_heap h.blk
 ·exact h.wt.lt
 ·exact (h.own.lt k hk).2
theorem WRep.lt {w:World} {b:Nat} {e:E} {F:Nat→Prop} (h:WRep w b e F):∀k,F k→k<w.heap.size:=by
 rcases h with ⟨h1,h2,rfl⟩ | ⟨wb,dv,h1,rfl⟩
 ·intro k hk;subst hk;exact lt_of_heap h2
 ·exact h1.lt
theorem WRep.upd {w w':World} {b:Nat} {e:E} {F G:Nat→Prop} (h:WRep w b e F) (hu:Upd G w w') (hd:∀k,F k→¬G k):WRep w' b e F:=
 h.keep fun k hk=>hu.block k (h.lt k hk) (hd k hk)
theorem WRep.wf {w:World} {b:Nat} {e:E} {F:Nat→Prop} (h:WRep w b e F):e.Wf:=by
 rcases h with ⟨h1,h2,rfl⟩ | ⟨wb,dv,h1,rfl⟩
 ·rw [h1];exact E.init_wf
 ·exact h1.wf
theorem begin_W (b:Nat) (e:E) (F:Nat→Prop) (w:World) (h:WRep w b e F) :
  Calls Tryz.prog 137 #[.pointer (some ⟨b,0,none⟩)] w fun en w'=>∃r,en=.returned (.bool r)∧∃wb dv,WLive w' b wb dv e∧Upd F w w'∧∀k,wFoot b wb dv k→F k∨w.heap.size≤k:=by
 rcases h with ⟨rfl,h2,rfl⟩ | ⟨wb,dv,h1,rfl⟩
 ·refine (begin_new b w wZero 239 h2 rfl (by decide)).mono ?_;rintro en w' ⟨rfl,wb,hlt,hb,hwt,hup⟩;have hlb:=lt_of_heap h2;refine ⟨true,rfl,wb,.slice none 0 0,⟨E.init_wf,hb,hwt,World.ownsRow_nil _ _ _ _,by omega,by simp [Value.ownBlock],by simp [Value.ownBlock]⟩,hup,?_⟩;rintro k (rfl | rfl | hk)
  ·exact .inl rfl
  ·exact .inr hlt
  ·simp [inRow,Value.ownBlock] at hk
 ·have hc:w.cell? ⟨b,0,none⟩=some (.slice (some ⟨wb,0,none⟩) 4096 4096):=by rw [cell_of_row w b 0 _ _ _ h1.blk];rfl
  refine (begin_old b w _ _ _ hc).mono ?_;rintro en w' ⟨rfl,rfl⟩;exact ⟨false,rfl,wb,dv,h1,Upd.refl _ _,fun k hk=>.inl hk⟩
theorem upd_W (c:Int) (one:Bool) (b wc wb:Nat) (dv:Value) (e:E) (w:World) (he:e.Wf) (h:WLive w b wb dv ⟨e.m,e.done1 (ctx c) one,e.low1 (ctx c) one⟩)
  (hwc:w.cell? ⟨wc,0,none⟩=some (.pointer (some ⟨b,0,none⟩))) (hf:¬wFoot b wb dv wc) (hlen:e.done.length+1≤1000000) :
  Calls Tryz.prog 141 #[.pointer (some ⟨b,0,none⟩),.int .i64 c,.bool one,.func (.func 142) #[] #[.pointer (some ⟨wc,0,none⟩)]] w fun en w'=>en=.returned (.tuple #[]) ∧
   ∃dv',WLive w' b wb dv' (e.bit c one)∧Upd (wFoot b wb dv) w w'∧(dv'.ownBlock=dv.ownBlock∨∃g,dv'.ownBlock=some g∧w.heap.size≤g):=by
 have hbl:=h.blk;have hlb:=lt_of_heap hbl;have hwl:=World.block_lt_of_cell? w _ hwc;have hdl:=h.own.lt;have hwtl:=h.wt.lt;have hn1:=h.n1;have hn2:=h.n2;have hn3:=h.n3;have ncb:wc≠b:=fun x=>hf (.inl x);have ncw:wc≠wb:=fun x=>hf (.inr (.inl x));have ncd:dv.ownBlock≠some wc:=fun x=>hf (.inr (.inr x));have hbw:=E.bit_wf he c one;have hlow:e.low1 (ctx c) one<4294967296:=E.low1_lt he _ _;refine update_W c one b wb wc e.m he.m w _ _ hbl rfl rfl h.wt h.n1 _ ?_ ?_
 ·intro hs w' hu;have hup:Upd (wFoot b wb dv) w w':=hu.up.mono fun k _ hk=>hk.elim .inl (fun h=>.inr (.inl h));have e1:e.bit c one=⟨e.m.step (ctx c) one,e.done1 (ctx c) one,e.low1 (ctx c) one⟩:=by unfold E.bit;simp only [hs];rfl
  rw [e1] at hbw ⊢;refine ⟨dv,⟨hbw,hu.blk,hu.wt,?_,h.n1,h.n2,h.n3⟩,hup,.inl rfl⟩;refine ⟨h.own.1,?_⟩;rcases h.own.2 with h2 | ⟨g,cap,cur,rfl,hg,hh,r⟩
  ·exact .inl h2
  ·exact .inr ⟨g,cap,cur,rfl,hg,hu.up.heap hh (fun x=>x.elim (fun y=>hn2 (by simp [Value.ownBlock,y])) (fun y=>hn3 (by simp [Value.ownBlock,y]))),r⟩
 ·intro hs w' hu;have hup:Upd (wFoot b wb dv) w w':=hu.up.mono fun k _ hk=>hk.elim .inl (fun h=>.inr (.inl h));have hown':w'.ownsRow 0 5 1 dv (e.done1 (ctx c) one).length ((e.done1 (ctx c) one).map byteV):=by
   refine ⟨h.own.1,?_⟩;rcases h.own.2 with h2 | ⟨g,cap,cur,rfl,hg,hh,r⟩
   ·exact .inl h2
   ·exact .inr ⟨g,cap,cur,rfl,hg,hu.up.heap hh (fun x=>x.elim (fun y=>hn2 (by simp [Value.ownBlock,y])) (fun y=>hn3 (by simp [Value.ownBlock,y]))),r⟩
  have hwc':w'.cell? ⟨wc,0,none⟩=some (.pointer (some ⟨b,0,none⟩)):=hu.up.cell hwc (fun x=>x.elim ncb ncw);refine (shiftW_any b wc 0 w' _ _ dv 239 (e.done1 (ctx c) one) (e.low1 (ctx c) one) hlow hwc' hu.blk hown' (Nat.zero_le _) (by rw [E.done1_length];exact hlen) hn2 ncd (fun x=>ncb x.symm)).mono ?_;rintro en w'' ⟨rfl,dv',hb2,ho2,hu2,hg2⟩;have e1:e.bit c one=⟨e.m.step (ctx c) one,e.done1 (ctx c) one++[e.low1 (ctx c) one / 16777216],e.low1 (ctx c) one % 16777216*256⟩:=by unfold E.bit;simp only [hs];rfl
  have hsz:=hu.up.size;refine ⟨rfl,by rw [cell_of_row w'' b 1 _ _ _ hb2];rfl,dv',?_,hup.trans (hu2.mono fun k _ hk=>hk.elim .inl (fun h=>.inr (.inr h))),?_⟩
  ·rw [e1] at hbw ⊢;refine ⟨hbw,hb2,hu.wt.keep (hu2.block wb (hu.wt.lt) (fun x=>x.elim (fun y=>hn1 y.symm) (fun y=>hn3 y))),ho2,hn1,?_,?_⟩
   ·rcases hg2 with h3 | ⟨g,h3,h4⟩
    ·rw [h3];exact hn2
    ·rw [h3];simp;omega
   ·rcases hg2 with h3 | ⟨g,h3,h4⟩
    ·rw [h3];exact hn3
    ·rw [h3];simp;omega
  ·rcases hg2 with h3 | ⟨g,h3,h4⟩
   ·exact .inl h3
   ·exact .inr ⟨g,h3,by omega⟩
end Go.Proofs.YtmgklblglpplcaaGreatDoor
