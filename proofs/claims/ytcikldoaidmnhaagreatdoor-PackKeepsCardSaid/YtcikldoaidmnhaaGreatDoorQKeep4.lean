/- Parts: A region that draws its order, walked along a tree of orders: operations that yield one value in every world of a class, others that are carried out one by one, and forks where two of them are ready. No condition. Root packets and group packets as plain functions on bytes. No condition. Rows of bytes in the call's own memory, and strings made of them. No condition. Walks of exact.Less. No conditio -/
import Derived.Test.YtcikldoaidmnhaaGreatDoorQKeep1
import Derived.Test.YtcikldoaidmnhaaGreatDoorQKeep2
import Derived.Test.YtcikldoaidmnhaaGreatDoorQKeep3
import Derived.Deep.RegionHeld3
import Derived.Deep.AppendLies
import Derived.Test.YtcikldoaidmnhaaGreatDoorRows
import Derived.Deep.QuietTactic
import Derived.BigQuiet
import Derived.Laws.EntriesVeiled
import Derived.Handy
namespace Go.Proofs.YtcikldoaidmnhaaGreatDoor
open Go Go.RowKit Pc
set_option maxRecDepth 100000
theorem info_u8:(Tryz.prog.info? 5).map (fun i=>(i.zero,i.size,i.bytes))=some (some (.int .u8 0),1,1):=by kernel_rfl
set_option maxHeartbeats 1000000 in
theorem shiftW_any (b wc base:Nat) (w:World) (c0 c1 dv:Value) (T:TypeId) (done:List Nat) (low:Nat) (hlow:low<4294967296)
  (hwc:w.cell? ⟨wc,0,none⟩=some (.pointer (some ⟨b,0,none⟩)))
  (hb:w.heap[b]?=some (.cells #[c0,c1,dv,.int .u32 low] T (0,0)))
  (hown:w.ownsRow base 5 1 dv done.length (done.map byteV)) (hbase:base≤w.heap.size)
  (hn:done.length+1≤1000000) (n1:dv.ownBlock≠some b) (n2:dv.ownBlock≠some wc) (n3:b≠wc) :
  Calls Tryz.prog 104 #[.pointer (some ⟨wc,0,none⟩)] w fun e w'=>e=.returned (.tuple #[])∧∃dv',
   w'.heap[b]?=some (.cells #[c0,c1,dv',.int .u32 ((low % 16777216*256:Nat):Int)] T (0,0)) ∧
   w'.ownsRow base 5 1 dv' (done++[low / 16777216]).length ((done++[low / 16777216]).map byteV) ∧
   Upd (fun k=>k=b∨inRow dv k) w w'∧(dv'.ownBlock=dv.ownBlock∨∃g,dv'.ownBlock=some g∧w.heap.size≤g):=by
 obtain ⟨i0,hi0,hz0,hz1,hz2⟩:=info_parts info_u8;have lg:=lt_of_heap hb;have lk:=World.block_lt_of_cell? w _ hwc;have h2:w.cell? ⟨b,2,none⟩=some dv:=by rw [cell_of_row w b 2 _ _ _ hb];rfl
 have h3:w.cell? ⟨b,3,none⟩=some (.int .u32 low):=by rw [cell_of_row w b 3 _ _ _ hb];rfl
 have f2:=frozen_of_row w b 2 _ _ hb;have f3:=frozen_of_row w b 3 _ _ hb;have hl0:(low:Int)<4294967296:=by omega
 have e8:IntKind.u8.wrap ((low:Int) / 16777216)=((low / 16777216:Nat):Int):=by rw [wrap_u8 (by omega) (by omega)];omega
 have b1:done.length+1≤maxLen:=by unfold maxLen;omega
 have b2:(done.length+1)*1≤140737488355328:=by omega
 have B1:=Lib.hid b1;have B2:=Lib.hid b2;have HL:=Lib.hid hlow;clear b1 b2 hlow hn;have e9:(low:Int)*256 % 4294967296=((low % 16777216*256:Nat):Int):=by omega
 go_enter Tryz.func104,Tryz.ntmps104
 go_wp2_with fail
 refine wp_region_ord 15 [(0,true),(1,true),(2,true),(3,true),(4,true),(5,true),(6,true),(7,true),(8,true),(9,true),(10,true),(11,false),(12,false),(13,true),(14,true)]
  (fun w'=>w'.cell? ⟨wc,0,none⟩=some (.pointer (some ⟨b,0,none⟩))∧w'.cell? ⟨b,2,none⟩=some dv∧w'.cell? ⟨b,3,none⟩=some (.int .u32 low)) (by kernel_rfl) (by kernel_rfl)
  (fun c a d v w h=>by cases d<;>exact h) ⟨hwc,h2,h3⟩ ?_
 (apply wpG_sure rfl rfl;focus (intro w' hw';obtain ⟨g1,g2,g3⟩:=hw';go_simp;rfl))
 (apply wpG_sure rfl rfl;focus (intro w' hw';obtain ⟨g1,g2,g3⟩:=hw';go_simp;rfl))
 (apply wpG_sure rfl rfl;focus (intro w' hw';obtain ⟨g1,g2,g3⟩:=hw';go_simp;rfl))
 (apply wpG_sure rfl rfl;focus (intro w' hw';obtain ⟨g1,g2,g3⟩:=hw';go_simp;rfl))
 (apply wpG_sure rfl rfl;focus (intro w' hw';obtain ⟨g1,g2,g3⟩:=hw';go_simp;rfl))
 (apply wpG_sure rfl rfl;focus (intro w' hw';obtain ⟨g1,g2,g3⟩:=hw';go_simp;rfl))
 (apply wpG_sure rfl rfl;focus (intro w' hw';obtain ⟨g1,g2,g3⟩:=hw';go_simp;rfl))
 (apply wpG_sure rfl rfl;focus (intro w' hw';obtain ⟨g1,g2,g3⟩:=hw';go_simp;rfl))
 (apply wpG_sure rfl rfl;focus (intro w' hw';obtain ⟨g1,g2,g3⟩:=hw';go_simp;rfl))
 (apply wpG_sure rfl rfl;focus (intro w' hw';obtain ⟨g1,g2,g3⟩:=hw';go_simp;rfl))
 (apply wpG_sure rfl rfl;focus (intro w' hw';obtain ⟨g1,g2,g3⟩:=hw';go_simp;rfl))
 (refine wpG_do rfl (fun K hK=>?_);go_simp;refine hK _ _ ⟨⟨cell_alloc_keep _ hwc,cell_alloc_keep _ h2,cell_alloc_keep _ h3⟩,?_⟩;clear hK K)
 refine wpG_do rfl (fun K hK=>?_);refine step_append_lies _ rfl (.tmp 5) (.tmp 12) 41 rfl base 5 i0 _ 1 1 Tryz.underlying41 hi0 hz0 hz1 hz2 rfl (by omega) dv done.length (done.map byteV) rfl ((hown.alloc _).drew)
  ⟨w.heap.size,0,none⟩ 1 1 [.int .u8 ((low / 16777216:Nat):Int)] rfl rfl (World.news_of_block (cs:=#[.int .u8 ((low / 16777216:Nat):Int)]) (t:=5) (fr:=(0,0)) (heap_alloc_new w _)) (by simp [Value.oneCell'])
  (by omega) B1.out B2.out (by simp;omega) (w.heap.size+1) (by simp) ?_
 intro gg cap w1 hown1 hgrow hat hlt;have k0:=grown_cell hgrow hwc n2;have k2:=grown_cell hgrow h2 n1;have k3:=grown_cell hgrow h3 n1;have kf2:=grown_free hgrow (a:=⟨b,2,none⟩) lg f2 n1;have kf3:=grown_free hgrow (a:=⟨b,3,none⟩) lg f3 n1;refine hK _ _ ⟨⟨k0,k2,k3⟩,?_⟩;clear hK K
 (apply wpG_sure rfl rfl;focus (intro w' hw';obtain ⟨g1,g2,g3⟩:=hw';go_simp;rfl))
 (apply wpG_sure rfl rfl;focus (intro w' hw';obtain ⟨g1,g2,g3⟩:=hw';go_simp;rfl))
 refine wpG_nil ?_;go_wp2
 go_end0
 have hb1:=grown_heap hgrow hb n1;have ng:gg≠b:=by
  rcases hat with h | h
  ·intro e;subst e;exact n1 h
  ·omega
 have hl:(done++[low / 16777216]).length=done.length+1:=by simp
 have hm:(done++[low / 16777216]).map byteV=done.map byteV++[.int .u8 ((low / 16777216:Nat):Int)]:=by simp [byteV]
 have hup:Upd (fun k=>k=b∨inRow dv k) w w1:=upd_grown_new hgrow (fun k hk _=>.inr hk);refine ⟨rfl,.slice (some ⟨gg,0,none⟩) (done.length+1) cap,heap_setCell_eq (i:=3) _ (heap_setCell_eq (i:=2) _ hb1),?_,?_,?_⟩
 ·rw [hl,hm];exact ownsRow_setCell_other (ownsRow_setCell_other hown1 (by simpa [Value.ownBlock] using ng) _) (by simpa [Value.ownBlock] using ng) _
 ·exact (hup.setCell (fun _=>.inl rfl) _).setCell (fun _=>.inl rfl) _
 ·rcases hat with h | h
  ·exact .inl (by rw [h];rfl)
  ·exact .inr ⟨gg,rfl,by omega⟩
set_option maxHeartbeats 400000 in
theorem add32_any (x y:Nat) (hx:x<4294967296) (hy:y<4294967296) (w:World) :
  Calls Tryz.prog 100 #[.int .u32 x,.int .u32 y,.int .u32 0] w fun e w'=>
   e=.returned (.tuple #[.int .u32 (((x+y) % 4294967296:Nat):Int),.int .u32 (((x+y) / 4294967296:Nat):Int)])∧w=w':=by
 have e1:(x:Int)<4294967296:=by omega
 have e2:(y:Int)<4294967296:=by omega
 clear hx hy;go_enter Tryz.func100,Tryz.ntmps100
 go_wp2
 go_ret2
 exact ⟨by simp,rfl⟩
structure WLive (w:World) (b wb:Nat) (dv:Value) (e:E):Prop where
 wf:e.Wf
 blk:w.heap[b]?=some (.cells #[.slice (some ⟨wb,0,none⟩) 4096 4096,.int .u32 e.m.size,dv,.int .u32 e.low] 159 (0,0))
 wt:Wts w wb e.m.p
 own:w.ownsRow 0 5 1 dv e.done.length (e.done.map byteV)
 n1:b≠wb
 n2:dv.ownBlock≠some b
 n3:dv.ownBlock≠some wb
def wFoot (b wb:Nat) (dv:Value):Nat→Prop:=fun k=>k=b∨k=wb∨inRow dv k
def wZero:Array Value:=#[.slice none 0 0,.int .u32 0,.slice none 0 0,.int .u32 0]
def WRep (w:World) (b:Nat) (e:E) (F:Nat→Prop):Prop:=
 (e=E.init∧w.heap[b]?=some (.cells wZero 159 (0,0))∧F=(·=b))∨∃wb dv,WLive w b wb dv e∧F=wFoot b wb dv
theorem WLive.keep {w w':World} {b wb:Nat} {dv:Value} {e:E} (h:WLive w b wb dv e) (hk:∀k,wFoot b wb dv k→w'.heap[k]?=w.heap[k]?):WLive w' b wb dv e:=by
 refine ⟨h.wf,(hk b (.inl rfl)).trans h.blk,h.wt.keep (hk wb (.inr (.inl rfl))),?_,h.n1,h.n2,h.n3⟩;refine ⟨h.own.1,?_⟩;rcases h.own.2 with h2 | ⟨g,cap,cur,rfl,hg,hh,r⟩
 ·exact .inl h2
 ·exact .inr ⟨g,cap,cur,rfl,hg,(hk g (.inr (.inr rfl))).trans hh,r⟩
theorem WRep.keep {w w':World} {b:Nat} {e:E} {F:Nat→Prop} (h:WRep w b e F) (hk:∀k,F k→w'.heap[k]?=w.heap[k]?):WRep w' b e F:=by
 rcases h with ⟨h1,h2,rfl⟩ | ⟨wb,dv,h1,rfl⟩
 ·exact .inl ⟨h1,(hk b rfl).trans h2,rfl⟩
 ·exact .inr ⟨wb,dv,h1.keep hk,rfl⟩
theorem WLive.lt {w:World} {b wb:Nat} {dv:Value} {e:E} (h:WLive w b wb dv e):∀k,wFoot b wb dv k→k<w.heap.size:=by
 rintro k (rfl | rfl | hk)
 ·exact lt_of_heap h.blk
 ·exact h.wt.lt
 ·exact (h.own.lt k hk).2
theorem WRep.lt {w:World} {b:Nat} {e:E} {F:Nat→Prop} (h:WRep w b e F):∀k,F k→k<w.heap.size:=by
 rcases h with ⟨h1,h2,rfl⟩ | ⟨wb,dv,h1,rfl⟩
 ·intro k hk;subst hk;exact lt_of_heap h2
 ·exact h1.lt
theorem WRep.upd {w w':World} {b:Nat} {e:E} {F G:Nat→Prop} (h:WRep w b e F) (hu:Upd G w w') (hd:∀k,F k→¬G k):WRep w' b e F:=
 h.keep fun k hk=>hu.block k (h.lt k hk) (hd k hk)
theorem WRep.wf {w:World} {b:Nat} {e:E} {F:Nat→Prop} (h:WRep w b e F):e.Wf:=by
 rcases h with ⟨h1,h2,rfl⟩ | ⟨wb,dv,h1,rfl⟩
 ·rw [h1];exact E.init_wf
 ·exact h1.wf
theorem begin_W (b:Nat) (e:E) (F:Nat→Prop) (w:World) (h:WRep w b e F) :
  Calls Tryz.prog 99 #[.pointer (some ⟨b,0,none⟩)] w fun en w'=>∃r,en=.returned (.bool r)∧∃wb dv,WLive w' b wb dv e∧Upd F w w'∧∀k,wFoot b wb dv k→F k∨w.heap.size≤k:=by
 rcases h with ⟨rfl,h2,rfl⟩ | ⟨wb,dv,h1,rfl⟩
 ·refine (begin_new b w wZero 159 h2 rfl (by decide)).mono ?_;rintro en w' ⟨rfl,wb,hlt,hb,hwt,hup⟩;have hlb:=lt_of_heap h2;refine ⟨true,rfl,wb,.slice none 0 0,⟨E.init_wf,hb,hwt,World.ownsRow_nil _ _ _ _,by omega,by simp [Value.ownBlock],by simp [Value.ownBlock]⟩,hup,?_⟩;rintro k (rfl | rfl | hk)
  ·exact .inl rfl
  ·exact .inr hlt
  ·simp [inRow,Value.ownBlock] at hk
 ·have hc:w.cell? ⟨b,0,none⟩=some (.slice (some ⟨wb,0,none⟩) 4096 4096):=by rw [cell_of_row w b 0 _ _ _ h1.blk];rfl
  refine (begin_old b w _ _ _ hc).mono ?_;rintro en w' ⟨rfl,rfl⟩;exact ⟨false,rfl,wb,dv,h1,Upd.refl _ _,fun k hk=>.inl hk⟩
theorem upd_W (c:Int) (one:Bool) (b wc wb:Nat) (dv:Value) (e:E) (w:World) (he:e.Wf) (h:WLive w b wb dv ⟨e.m,e.done1 (ctx c) one,e.low1 (ctx c) one⟩)
  (hwc:w.cell? ⟨wc,0,none⟩=some (.pointer (some ⟨b,0,none⟩))) (hf:¬wFoot b wb dv wc) (hlen:e.done.length+1≤1000000) :
  Calls Tryz.prog 103 #[.pointer (some ⟨b,0,none⟩),.int .i64 c,.bool one,.func (.func 104) #[] #[.pointer (some ⟨wc,0,none⟩)]] w fun en w'=>en=.returned (.tuple #[]) ∧
   ∃dv',WLive w' b wb dv' (e.bit c one)∧Upd (wFoot b wb dv) w w'∧(dv'.ownBlock=dv.ownBlock∨∃g,dv'.ownBlock=some g∧w.heap.size≤g):=by
 have hbl:=h.blk;have hlb:=lt_of_heap hbl;have hwl:=World.block_lt_of_cell? w _ hwc;have hdl:=h.own.lt;have hwtl:=h.wt.lt;have hn1:=h.n1;have hn2:=h.n2;have hn3:=h.n3;have ncb:wc≠b:=fun x=>hf (.inl x);have ncw:wc≠wb:=fun x=>hf (.inr (.inl x));have ncd:dv.ownBlock≠some wc:=fun x=>hf (.inr (.inr x));have hbw:=E.bit_wf he c one;have hlow:e.low1 (ctx c) one<4294967296:=E.low1_lt he _ _;refine update_W c one b wb wc e.m he.m w _ _ hbl rfl rfl h.wt h.n1 _ ?_ ?_
 ·intro hs w' hu;have hup:Upd (wFoot b wb dv) w w':=hu.up.mono fun k _ hk=>hk.elim .inl (fun h=>.inr (.inl h));have e1:e.bit c one=⟨e.m.step (ctx c) one,e.done1 (ctx c) one,e.low1 (ctx c) one⟩:=by unfold E.bit;simp only [hs];rfl
  rw [e1] at hbw ⊢;refine ⟨dv,⟨hbw,hu.blk,hu.wt,?_,h.n1,h.n2,h.n3⟩,hup,.inl rfl⟩;refine ⟨h.own.1,?_⟩;rcases h.own.2 with h2 | ⟨g,cap,cur,rfl,hg,hh,r⟩
  ·exact .inl h2
  ·exact .inr ⟨g,cap,cur,rfl,hg,hu.up.heap hh (fun x=>x.elim (fun y=>hn2 (by simp [Value.ownBlock,y])) (fun y=>hn3 (by simp [Value.ownBlock,y]))),r⟩
 ·intro hs w' hu;have hup:Upd (wFoot b wb dv) w w':=hu.up.mono fun k _ hk=>hk.elim .inl (fun h=>.inr (.inl h));have hown':w'.ownsRow 0 5 1 dv (e.done1 (ctx c) one).length ((e.done1 (ctx c) one).map byteV):=by
   refine ⟨h.own.1,?_⟩;rcases h.own.2 with h2 | ⟨g,cap,cur,rfl,hg,hh,r⟩
   ·exact .inl h2
   ·exact .inr ⟨g,cap,cur,rfl,hg,hu.up.heap hh (fun x=>x.elim (fun y=>hn2 (by simp [Value.ownBlock,y])) (fun y=>hn3 (by simp [Value.ownBlock,y]))),r⟩
  have hwc':w'.cell? ⟨wc,0,none⟩=some (.pointer (some ⟨b,0,none⟩)):=hu.up.cell hwc (fun x=>x.elim ncb ncw);refine (shiftW_any b wc 0 w' _ _ dv 159 (e.done1 (ctx c) one) (e.low1 (ctx c) one) hlow hwc' hu.blk hown' (Nat.zero_le _) (by rw [E.done1_length];exact hlen) hn2 ncd (fun x=>ncb x.symm)).mono ?_;rintro en w'' ⟨rfl,dv',hb2,ho2,hu2,hg2⟩;have e1:e.bit c one=⟨e.m.step (ctx c) one,e.done1 (ctx c) one++[e.low1 (ctx c) one / 16777216],e.low1 (ctx c) one % 16777216*256⟩:=by unfold E.bit;simp only [hs];rfl
  have hsz:=hu.up.size;refine ⟨rfl,by rw [cell_of_row w'' b 1 _ _ _ hb2];rfl,dv',?_,hup.trans (hu2.mono fun k _ hk=>hk.elim .inl (fun h=>.inr (.inr h))),?_⟩
  ·rw [e1] at hbw ⊢;refine ⟨hbw,hb2,hu.wt.keep (hu2.block wb (hu.wt.lt) (fun x=>x.elim (fun y=>hn1 y.symm) (fun y=>hn3 y))),ho2,hn1,?_,?_⟩
   ·rcases hg2 with h3 | ⟨g,h3,h4⟩
    ·rw [h3];exact hn2
    ·rw [h3];simp;omega
   ·rcases hg2 with h3 | ⟨g,h3,h4⟩
    ·rw [h3];exact hn3
    ·rw [h3];simp;omega
  ·rcases hg2 with h3 | ⟨g,h3,h4⟩
   ·exact .inl h3
   ·exact .inr ⟨g,h3,by omega⟩
end Go.Proofs.YtcikldoaidmnhaaGreatDoor
namespace Go.Proofs.YtcikldoaidmnhaaGreatDoor
open Go Go.RowKit
namespace Pk
abbrev Bytes:=List UInt8
def digB (n:Nat):Bytes:=if h:n<128 then [UInt8.ofNat n] else UInt8.ofNat (n % 128+128) :: digB (n / 128)
termination_by n
decreasing_by omega
def numR:Nat→Nat→Nat→Bytes→Option (Nat × Bytes)
 | 0,_,_,_=>none
 | _+1,_,_,[]=>none
 | k+1,unit,acc,b :: r=>if b.toNat<128 then some (acc+b.toNat % 128*unit,r) else numR k (unit*128) (acc+b.toNat % 128*unit) r
def readNum (s:Bytes):Option (Nat × Bytes):=numR 9 1 0 s
theorem u8_small {n:Nat} (h:n<256):(UInt8.ofNat n).toNat=n:=by simp;omega
theorem numR_dig:∀(k n unit acc:Nat) (r:Bytes),n<128 ^ k→0<k→numR k unit acc (digB n++r)=some (acc+n*unit,r)
 | 0,_,_,_,_,_,h=>absurd h (by omega)
 | k+1,n,unit,acc,r,h,_=>by
  rw [digB];by_cases hn:n<128
  ·rw [dif_pos hn,List.cons_append,List.nil_append,numR,u8_small (by omega),if_pos hn,Nat.mod_eq_of_lt hn]
  ·rw [dif_neg hn,List.cons_append,numR,u8_small (by omega),if_neg (by omega)];have hk:0<k:=by
    rcases Nat.eq_zero_or_pos k with rfl | hk
    ·simp at h;omega
    ·exact hk
   rw [numR_dig k (n / 128) (unit*128) _ r (by rw [Nat.pow_succ] at h;omega) hk];have e1:(n % 128+128) % 128=n % 128:=by omega
   have e2:acc+n % 128*unit+n / 128*(unit*128)=acc+n*unit:=by
    have:n*unit=(n % 128+128*(n / 128))*unit:=by rw [Nat.mod_add_div]
    rw [this,Nat.add_mul,Nat.add_assoc];congr 2
    rw [Nat.mul_comm unit 128,←Nat.mul_assoc,Nat.mul_comm (n / 128) 128]
   rw [e1,e2]
theorem readNum_dig {n:Nat} (h:n<9223372036854775808) (r:Bytes):readNum (digB n++r)=some (n,r):=by
 unfold readNum;rw [numR_dig 9 n 1 0 r (Nat.lt_of_lt_of_le h (by decide)) (by decide)];simp
def takeR (n:Nat) (s:Bytes):Option (Bytes × Bytes):=if s.length<n then none else some (s.take n,s.drop n)
abbrev Part:=Bytes × Bytes
def partR (s:Bytes):Option (Part × Bytes):=match takeR 32 s with
 | none=>none
 | some (a,r)=>match takeR 32 r with
  | none=>none
  | some (b,r2)=>some ((a,b),r2)
def listR {α:Type} (one:Bytes→Option (α × Bytes)):Nat→Bytes→Option (List α × Bytes)
 | 0,s=>some ([],s)
 | k+1,s=>match one s with
  | none=>none
  | some (x,r)=>match listR one k r with
   | none=>none
   | some (l,r2)=>some (x :: l,r2)
def manyR {α:Type} (one:Bytes→Option (α × Bytes)) (s:Bytes):Option (List α × Bytes):=match readNum s with
 | none=>none
 | some (n,r)=>if 65536<n then none else listR one n r
def partsB (l:List Part):Bytes:=digB l.length++l.flatMap (fun p=>p.1++p.2)
def rootB (l:List Part):Bytes:=3 :: partsB l
def rootR (s:Bytes):Option (List Part):=match s with
 | []=>none
 | b :: r=>if b≠3 then none else match manyR partR r with
  | none=>none
  | some (l,_)=>if rootB l=s then some l else none
theorem takeR_app {n:Nat} {a r:Bytes} (h:a.length=n):takeR n (a++r)=some (a,r):=by
 unfold takeR;rw [if_neg (by rw [List.length_append];omega),←h,List.take_left,List.drop_left]
theorem partR_app {p:Part} {r:Bytes} (h1:p.1.length=32) (h2:p.2.length=32):partR (p.1++p.2++r)=some (p,r):=by
 unfold partR;rw [List.append_assoc,takeR_app h1];simp only;rw [takeR_app h2]
theorem listR_app {α:Type} (one:Bytes→Option (α × Bytes)) (enc:α→Bytes) (good:α→Prop) (h:∀x r,good x→one (enc x++r)=some (x,r)):∀(l:List α) (r:Bytes),(∀x,x∈l→good x)→listR one l.length (l.flatMap enc++r)=some (l,r)
 | [],r,_=>rfl
 | x :: l,r,hg=>by
  rw [List.length_cons,listR,List.flatMap_cons,List.append_assoc,h x _ (hg x (by simp))];simp only;rw [listR_app one enc good h l r (fun y hy=>hg y (by simp [hy]))]
def goodPart (p:Part):Prop:=p.1.length=32∧p.2.length=32
theorem manyR_parts (l:List Part) (r:Bytes) (hl:l.length≤65536) (hg:∀p,p∈l→goodPart p):manyR partR (partsB l++r)=some (l,r):=by
 unfold manyR partsB;rw [List.append_assoc,readNum_dig (by omega)];simp only;rw [if_neg (by omega)];exact listR_app partR (fun p=>p.1++p.2) goodPart (fun x r h=>partR_app h.1 h.2) l r hg
structure Grp where
 level:Int
 ins:List Part
 outs:List Bytes
 moves:List ((Int × Int × Int) × (Int × Int × Int))
 err:Int
 total:Int
 neg:Bool
 mag:Bytes
def coordsM (m:(Int × Int × Int) × (Int × Int × Int)):List Int:=[m.1.1,m.1.2.1,m.1.2.2,m.2.1,m.2.2.1,m.2.2.2]
def insideC (n:Int):Bool:=decide (0≤n∧n≤2097151)
def rightG (g:Grp):Bool:=
 decide (0≤g.level∧0≤g.err∧0≤g.total∧g.ins.length≤65536∧g.outs.length≤65536∧g.moves.length≤65536)&&g.moves.all (fun m=>(coordsM m).all insideC)&&(match g.mag with | []=>!g.neg | c :: _=>c != 0)
def movesB (l:List ((Int × Int × Int) × (Int × Int × Int))):Bytes:=digB l.length++l.flatMap (fun m=>(coordsM m).flatMap (fun n=>digB n.toNat))
def sizeG (g:Grp):Nat:=2*g.mag.length+(if g.neg then 1 else 0)
def groupB (g:Grp):Bytes:=2 :: (digB g.level.toNat++partsB g.ins++(digB g.outs.length++g.outs.flatten)++movesB g.moves++digB g.err.toNat++digB g.total.toNat++digB (sizeG g)++g.mag)
end Pk
end Go.Proofs.YtcikldoaidmnhaaGreatDoor
namespace Go.Proofs.YtcikldoaidmnhaaGreatDoor
open Go Go.RowKit Pk
set_option maxRecDepth 100000
theorem data_extract (s:ByteArray) (a b:Nat):(s.extract a b).data.toList=(s.data.toList.drop a).take (b-a):=by
 simp [List.extract_eq_take_drop]
def bs (l:Bytes):ByteArray:=⟨l.toArray⟩
theorem bs_data (l:Bytes):(bs l).data.toList=l:=by simp [bs]
theorem bs_size (l:Bytes):(bs l).size=l.length:=by simp [bs,ByteArray.size]
theorem bs_append (a b:Bytes):bs a++bs b=bs (a++b):=by apply ByteArray.ext;simp [bs]
theorem bs_extract (s:Bytes) (a k:Nat):(bs s).extract a k=bs ((s.drop a).take (k-a)):=by
 apply ByteArray.ext;apply Array.ext';rw [data_extract,bs_data,bs_data]
theorem own_form {w:World} {base n:Nat} {T:TypeId} {s:Nat} {v:Value} {xs:List Value} (h:w.ownsRow base T s v n xs):∃A cap,v=.slice A n cap:=by
 rcases h.2 with ⟨rfl,h0⟩ | ⟨g,cap,cur,rfl,_⟩
 ·exact ⟨none,0,by rw [h0]⟩
 ·exact ⟨_,_,rfl⟩
def byV (l:Bytes):List Value:=l.map fun c=>Value.int .u8 c.toNat
theorem byV_str (l:Bytes):byV l=(l.map UInt8.toNat).map byteV:=by simp [byV,byteV]
theorem str_bs (l:Bytes):str (l.map UInt8.toNat)=bs l:=by
 unfold str bs;rw [List.map_map];have e:UInt8.ofNat ∘ UInt8.toNat=id:=funext fun u=>by simp
 rw [e,List.map_id]
theorem conv_bs {w:World} {base n:Nat} {v:Value} {l:Bytes} (hn:n=l.length) (hown:w.ownsRow base 5 1 v n (byV l)):(convert 41 9 v).run Tryz.prog w=.ok (.string (bs l)) w:=by
 subst hn;rw [byV_str] at hown;have:=conv_own (P:=Tryz.prog) (src:=41) (e:=5) (dst:=9) (l:=l.map UInt8.toNat) Tryz.underlying41 Tryz.underlying5 Tryz.underlying9 (by rw [List.length_map];exact hown);rw [str_bs] at this;exact this
theorem append_by {w:World} {base:Nat} (hb:base≤w.heap.size) {v:Value} {l:Bytes} (h:w.ownsRow base 5 1 v l.length (byV l)) (c:UInt8) (hl:l.length<4294967296) :
  ∃g cap w',(Builtin.append_ #[41,41] 41 #[v,.slice (some ⟨w.heap.size,0,none⟩) 1 1]).run Tryz.prog (w.alloc (.cells #[.int .u8 c.toNat] 5))=.ok (.slice (some ⟨g,0,none⟩) (l.length+1) cap) w' ∧
   w'.ownsRow base 5 1 (.slice (some ⟨g,0,none⟩) (l.length+1) cap) (l++[c]).length (byV (l++[c]))∧Upd (fun k=>v.ownBlock=some k) w w':=by
 obtain ⟨i0,hi0,hz0,hz1,hz2⟩:=info_parts info_u8;obtain ⟨g,cap,w',r,o,gr,_,_⟩:=append_one (P:=Tryz.prog) w 41 41 5 i0 _ 1 1 Tryz.underlying41 hi0 hz0 hz1 hz2 rfl (by omega) h hb [.int .u8 c.toNat] rfl (by simp [Value.oneCell']) (by unfold maxLen;omega) (by omega);refine ⟨g,cap,w',r,?_,(upd_of_grown (World.grownBy_alloc w _ v.ownBlock) (fun j hj _=>hj)).trans (upd_of_grown gr (fun j hj _=>hj))⟩;have e:byV (l++[c])=byV l++[.int .u8 c.toNat]:=by simp [byV]
 rw [e,List.length_append];exact o
def strR (s:Bytes) (w:World) (en:Ending) (w':World):Prop:=en=.returned (.string (bs s))∧Upd noBlk w w'
end Go.Proofs.YtcikldoaidmnhaaGreatDoor
namespace Go.Proofs.YtcikldoaidmnhaaGreatDoor
open Go Go.RowKit
section
variable {P:Program} {ops:Array Oper} {md:Region.Mode} {C:World→Prop} {Q:Exit→Act→World→Prop}
theorem wpAnyG_mono {n:Nat} {L:Array Bool→Act→World→Prop} {C':World→Prop} (hC:∀w,C' w→C w) :
  ∀(f:Nat) (listed:Array Bool) (a:Act) (w:World),wpAnyG P md ops Q C' n L f listed a w→wpAnyG P md ops Q C n L f listed a w
 | 0,_,_,_,h=>h
 | f+1,_,_,_,h=>⟨h.1,fun i hi=>⟨(h.2 i hi).1,wpOp_mono (fun a' w' h'=>⟨hC _ h'.1,wpAnyG_mono hC f _ a' w' h'.2⟩) (h.2 i hi).2⟩⟩
inductive OT where
 | nil
 | sure (i:Nat) (r:OT)
 | run (i:Nat) (r:OT)
 | fork (i:Nat) (ri:OT) (j:Nat) (rj:OT)
def OT.sures:List Nat→OT→OT
 | [],r=>r
 | i :: l,r=>.sure i (OT.sures l r)
def wpT (P:Program) (ops:Array Oper) (Q:Exit→Act→World→Prop) (L:Act→World→Prop):OT→(World→Prop)→Act→World→Prop
 | .nil,_,a,w=>L a w
 | .sure i r,C,a,w=>∃o v,ops[i]?=some o∧Sure P ops C o v a∧wpT P ops Q L r C (a.put o.dst v) w
 | .run i r,C,a,w=>∃C':World→Prop,(∀w,C' w→C w)∧wpOp P ops Q i (fun a' w'=>C' w'∧wpT P ops Q L r C' a' w') a w
 | .fork i ri j rj,C,a,w=>(∃C':World→Prop,(∀w,C' w→C w)∧wpOp P ops Q i (fun a' w'=>C' w'∧wpT P ops Q L ri C' a' w') a w) ∧
   (∃C':World→Prop,(∀w,C' w→C w)∧wpOp P ops Q j (fun a' w'=>C' w'∧wpT P ops Q L rj C' a' w') a w)
def treeB (md:Region.Mode) (ops:Array Oper) (n:Nat):Nat→OT→Array Bool→Bool
 | 0,.nil,listed=>Region.seqB md ops (ops.size-n) n listed
 | f+1,.sure i r,listed=>decide (i<n)&&(Region.ready md ops listed).contains i&&Region.free md ops listed i&&treeB md ops n f r (listed.setIfInBounds i true)
 | f+1,.run i r,listed=>decide (i<n)&&decide (Region.ready md ops listed=[i])&&treeB md ops n f r (listed.setIfInBounds i true)
 | f+1,.fork i ri j rj,listed=>decide (i<n)&&decide (j<n)&&decide (Region.ready md ops listed=[i,j])&&treeB md ops n f ri (listed.setIfInBounds i true)&&treeB md ops n f rj (listed.setIfInBounds j true)
 | _,_,_=>false
theorem wpAnyG_tree {n:Nat} {Lq:Act→World→Prop} (hsel:Region.noSelect ops=true) (hQ:∀c a d v w,Q (.panic c) (Act.put a d v) w→Q (.panic c) a w)
  (hs:Region.sinkB md ops n=true) (hc:Region.chainB md ops n=true) (hn:n<ops.size) :
  ∀(f:Nat) (t:OT) (C:World→Prop) (listed:Array Bool) (a:Act) (w:World),C w→HeadInv md ops n listed→treeB md ops n f t listed=true→wpT P ops Q Lq t C a w →
  wpAnyG P md ops Q C n (fun listed' a' w'=>Region.seqB md ops (ops.size-n) n listed'=true∧Lq a' w') f listed a w
 | 0,.nil,C,listed,a,w,_,inv,hB,h=>⟨by simpa [treeB] using hB,h⟩
 | f+1,.sure i r,C,listed,a,w,hC,inv,hB,h=>by
  obtain ⟨o,v,h0,hy,hK⟩:=h;simp only [treeB,Bool.and_eq_true,decide_eq_true_eq] at hB;obtain ⟨⟨⟨hin,hr⟩,hf⟩,hB'⟩:=hB;have hr':i∈Region.ready md ops listed:=by simpa using hr
  exact wpAnyG_first h0 (Region.noSelect_spec hsel) (fun c a w=>hQ c a _ _ w) hs hc hn hin (fun listed' a' w' hL=>seqB_ready hL.1) f listed a w inv hC (Region.free_spec h0 hf) hr' hy
   (wpAnyG_tree hsel hQ hs hc hn f r C _ _ w hC (inv.set hr' hin) hB' hK)
 | f+1,.run i r,C,listed,a,w,hC,inv,hB,h=>by
  obtain ⟨C',hCC,h⟩:=h;simp only [treeB,Bool.and_eq_true,decide_eq_true_eq] at hB;obtain ⟨⟨hin,hr⟩,hB'⟩:=hB;have hr':i∈Region.ready md ops listed:=by rw [hr];simp
  refine ⟨fun h0=>(by rw [h0] at hr;cases hr),fun j hj=>?_⟩;rw [hr] at hj;obtain rfl:j=i:=by simpa using hj
  exact ⟨hin,wpOp_mono (fun a' w' h'=>⟨hCC _ h'.1,wpAnyG_mono hCC f _ _ _ (wpAnyG_tree hsel hQ hs hc hn f r C' _ a' w' h'.1 (inv.set hr' hin) hB' h'.2)⟩) h⟩
 | f+1,.fork i ri j rj,C,listed,a,w,hC,inv,hB,h=>by
  obtain ⟨⟨C1,hC1,h1⟩,⟨C2,hC2,h2⟩⟩:=h;simp only [treeB,Bool.and_eq_true,decide_eq_true_eq] at hB;obtain ⟨⟨⟨⟨hin,hjn⟩,hr⟩,hB1⟩,hB2⟩:=hB;have hri:i∈Region.ready md ops listed:=by rw [hr];simp
  have hrj:j∈Region.ready md ops listed:=by rw [hr];simp
  refine ⟨fun h0=>(by rw [h0] at hr;cases hr),fun k hk=>?_⟩;rw [hr] at hk;rcases (by simpa using hk:k=i∨k=j) with rfl | rfl
  ·exact ⟨hin,wpOp_mono (fun a' w' h'=>⟨hC1 _ h'.1,wpAnyG_mono hC1 f _ _ _ (wpAnyG_tree hsel hQ hs hc hn f ri C1 _ a' w' h'.1 (inv.set hri hin) hB1 h'.2)⟩) h1⟩
  ·exact ⟨hjn,wpOp_mono (fun a' w' h'=>⟨hC2 _ h'.1,wpAnyG_mono hC2 f _ _ _ (wpAnyG_tree hsel hQ hs hc hn f rj C2 _ a' w' h'.1 (inv.set hrj hjn) hB2 h'.2)⟩) h2⟩
 | 0,.sure _ _,_,_,_,_,_,_,hB,_=>by simp [treeB] at hB
 | 0,.run _ _,_,_,_,_,_,_,hB,_=>by simp [treeB] at hB
 | 0,.fork _ _ _ _,_,_,_,_,_,_,hB,_=>by simp [treeB] at hB
 | _+1,.nil,_,_,_,_,_,_,hB,_=>by simp [treeB] at hB
def treeTailB (md:Region.Mode) (ops:Array Oper) (n:Nat) (t:OT):Bool:=
 Region.noSelect ops&&decide (n<ops.size)&&Region.sinkB md ops n&&Region.chainB md ops n&&treeB md ops n n t (Array.replicate ops.size false)
theorem wp_region_tree {id:Nat} {a:Act} {w:World} {l:List Oper} (n:Nat) (t:OT) (C:World→Prop) (hm:P.follows .mixedOrders=true) (hB:treeTailB .any l.toArray n t=true)
  (hQ:∀c a d v w,Q (.panic c) (Act.put a d v) w→Q (.panic c) a w) (hC:C w.drew)
  (h:wpT P l.toArray Q (fun a' w'=>wpList P l.toArray Q (l.drop n) a' w') t C a w.drew):(Code.region id l.toArray true).wp P Q a w:=by
 simp only [treeTailB,Bool.and_eq_true,decide_eq_true_eq] at hB;obtain ⟨⟨⟨⟨hsel,hn⟩,hs⟩,hc⟩,hlex⟩:=hB;have hn':n<l.length:=by simpa using hn
 have hdl:(l.drop n).length=l.toArray.size-n:=by simp
 have inv0:HeadInv .any l.toArray n (Array.replicate l.toArray.size false):=
  ⟨by simp,fun j oj _ hl=>(by rw [getD_replicate_false] at hl;cases hl),fun t _ ht=>getD_in (by simpa using ht) (getD_replicate_false _ _)⟩
 have H:=wpAnyG_tree (md:=.any) hsel hQ hs hc hn n t C _ a w.drew hC inv0 hlex h;refine wp_region_any hm ?_;have:=wpAny_of_G (g:=l.toArray.size-n) (fun listed a' w' hL=>by
  have:=wpAny_of_seq (md:=.any) (Q':=Q) (l.drop n) n listed a' w' (fun j=>by simp [List.getElem?_drop]) (by rw [hdl];exact hL.1) hL.2;rwa [hdl] at this) _ _ _ _ H
 rw [show n+(l.toArray.size-n)=l.toArray.size by omega] at this;exact this
variable {L:Act→World→Prop} {r ri rj:OT} {a:Act} {w:World} {i j:Nat} {o oi oj:Oper}
theorem wpT_nil (h:L a w):wpT P ops Q L .nil C a w:=h
theorem wpT_sure (ho:ops[i]?=some o) (hg:o.guard=none) (v:Value) (hv:∀w',C w'→(execOp a.eval o).run P w'=.ok (.value v) w') (h:wpT P ops Q L r C (a.put o.dst v) w) :
  wpT P ops Q L (.sure i r) C a w:=
 ⟨o,v,ho,.inl ⟨by simp [Region.wanted,hg],hv⟩,h⟩
theorem wpT_run (C':World→Prop) (hC:∀w,C' w→C w) (ho:ops[i]?=some o)
  (h:∀K':Act→World→Prop,(∀a' w',C' w'∧wpT P ops Q L r C' a' w'→K' a' w')→if Region.wanted o (yielded ops a.tmps)=true then Oper.wp P o a w K' Q else K' (a.put o.dst undef) w) :
  wpT P ops Q L (.run i r) C a w:=⟨C',hC,wpOp_step ho (fun K' hK=>h K' hK)⟩
theorem wpT_fork (C1 C2:World→Prop) (hC1:∀w,C1 w→C w) (hC2:∀w,C2 w→C w) (hi:ops[i]?=some oi) (hj:ops[j]?=some oj)
  (h1:∀K':Act→World→Prop,(∀a' w',C1 w'∧wpT P ops Q L ri C1 a' w'→K' a' w')→if Region.wanted oi (yielded ops a.tmps)=true then Oper.wp P oi a w K' Q else K' (a.put oi.dst undef) w)
  (h2:∀K':Act→World→Prop,(∀a' w',C2 w'∧wpT P ops Q L rj C2 a' w'→K' a' w')→if Region.wanted oj (yielded ops a.tmps)=true then Oper.wp P oj a w K' Q else K' (a.put oj.dst undef) w) :
  wpT P ops Q L (.fork i ri j rj) C a w:=⟨⟨C1,hC1,wpOp_step hi (fun K' hK=>h1 K' hK)⟩,⟨C2,hC2,wpOp_step hj (fun K' hK=>h2 K' hK)⟩⟩
end
end Go.Proofs.YtcikldoaidmnhaaGreatDoor
namespace Go.Proofs.YtcikldoaidmnhaaGreatDoor
open Go Go.RowKit Pk
set_option maxRecDepth 100000
def ptV (p:Pt):Value:=.agg #[.int .i64 p.1,.int .i64 p.2.1,.int .i64 p.2.2]
structure Gr (w w':World):Prop where
 up:Upd noBlk w w'
 dr:w.drawn≤w'.drawn
theorem Gr.refl (w:World):Gr w w:=⟨Upd.refl _ _,Nat.le_refl _⟩
theorem Gr.trans {a b c:World} (h:Gr a b) (k:Gr b c):Gr a c:=⟨h.up.trans k.up,Nat.le_trans h.dr k.dr⟩
theorem Gr.alloc {a w:World} (h:Gr a w) (o:Obj):Gr a (w.alloc o):=⟨h.up.alloc o,h.dr⟩
theorem Gr.drew {a w:World} (h:Gr a w):Gr a w.drew:=⟨h.up.drew,Nat.le_trans h.dr (Nat.le_succ _)⟩
theorem Gr.heap {w w':World} {b:Nat} {o:Obj} (h:Gr w w') (hb:w.heap[b]?=some o) (hf:¬noBlk b):w'.heap[b]?=some o:=h.up.heap hb hf
theorem Gr.cell {w w':World} {a:Addr} {v:Value} (h:Gr w w') (hv:w.cell? a=some v) (hf:¬noBlk a.block):w'.cell? a=some v:=h.up.cell hv hf
theorem cells3 {w:World} {b:Nat} {x y z:Value} {t:TypeId} {fr:Nat × Nat} (h:w.heap[b]?=some (.cells #[x,y,z] t fr)):w.cell? ⟨b,0,none⟩=some x∧w.cell? ⟨b,1,none⟩=some y∧w.cell? ⟨b,2,none⟩=some z:=by simp [World.cell?,h]
theorem ex_any (p:Pt) (w:World):Calls Tryz.prog 181 #[ptV p] w fun en w'=>en=.returned (.int .i64 p.1)∧Gr w w':=by
 unfold ptV;go_enter Tryz.func181,Tryz.ntmps181
 go_wp2_with fail
 go_ret
 exact ⟨rfl,(Gr.refl w).alloc _⟩
theorem ey_any (p:Pt) (w:World):Calls Tryz.prog 182 #[ptV p] w fun en w'=>en=.returned (.int .i64 p.2.1)∧Gr w w':=by
 unfold ptV;go_enter Tryz.func182,Tryz.ntmps182
 go_wp2_with fail
 go_ret
 exact ⟨rfl,(Gr.refl w).alloc _⟩
theorem ez_any (p:Pt) (w:World):Calls Tryz.prog 183 #[ptV p] w fun en w'=>en=.returned (.int .i64 p.2.2)∧Gr w w':=by
 unfold ptV;go_enter Tryz.func183,Tryz.ntmps183
 go_wp2_with fail
 go_ret
 exact ⟨rfl,(Gr.refl w).alloc _⟩
def axesV:Value:=.agg #[.func (.func 181) #[] #[],.func (.func 182) #[] #[],.func (.func 183) #[] #[]]
theorem axes_any (w:World):Calls Tryz.prog 161 #[] w fun en w'=>en=.returned axesV∧Gr w w':=by
 go_enter Tryz.func161,Tryz.ntmps161
 go_wp2_with fail
 go_returns
 exact ⟨rfl,((Gr.refl w).alloc _)⟩
theorem index0 (w:World):(Instr.index 241 axesV (.int .i64 0)).run Tryz.prog w=.ok (.func (.func 181) #[] #[]) w:=by kernel_rfl
theorem index1 (w:World):(Instr.index 241 axesV (.int .i64 1)).run Tryz.prog w=.ok (.func (.func 182) #[] #[]) w:=by kernel_rfl
theorem index2 (w:World):(Instr.index 241 axesV (.int .i64 2)).run Tryz.prog w=.ok (.func (.func 183) #[] #[]) w:=by kernel_rfl
set_option maxHeartbeats 1000000 in
theorem Less_any (a b:Pt) (w:World):Calls Tryz.prog 138 #[ptV a,ptV b] w fun en w'=>en=.returned (.bool (ptLt a b))∧Gr w w':=by
 have h0:=fun p W=>Lib.hid (ex_any p W);have h1:=fun p W=>Lib.hid (ey_any p W);have h2:=fun p W=>Lib.hid (ez_any p W);obtain ⟨a0,a1,a2⟩:=a;obtain ⟨b0,b1,b2⟩:=b;have hlt:=Lib.hid (show ptLt (a0,a1,a2) (b0,b1,b2)=if a0≠b0 then decide (a0<b0) else if a1≠b1 then decide (a1<b1) else decide (a2<b2) from rfl);unfold ptV;have hA:=Lib.hid (axes_any ((w.alloc (.cells #[.int .i64 a0,.int .i64 a1,.int .i64 a2] 43)).alloc (.cells #[.int .i64 b0,.int .i64 b1,.int .i64 b2] 43)));have ix0:=index0;have ix1:=index1;have ix2:=index2;unfold axesV at ix0 ix1 ix2;go_enter Tryz.func138,Tryz.ntmps138
 go_wp2_with fail
 refine hA.out.mono ?_;rintro e w1 ⟨rfl,u1⟩;unfold axesV;have U1:Hid (Gr w w1):=(((Gr.refl _).alloc _).alloc _).trans u1;have ca:Hid (w1.heap[w.heap.size]?=some (.cells #[.int .i64 a0,.int .i64 a1,.int .i64 a2] 43)):=u1.heap (((Gr.refl _).alloc _).heap (heap_alloc_new _ _) id) id;have cb:Hid (w1.heap[w.heap.size+1]?=some (.cells #[.int .i64 b0,.int .i64 b1,.int .i64 b2] 43)):=u1.heap (by have:=heap_alloc_new (w.alloc (.cells #[.int .i64 a0,.int .i64 a1,.int .i64 a2] 43)) (.cells #[.int .i64 b0,.int .i64 b1,.int .i64 b2] 43);rwa [World.size_alloc] at this) id;clear u1 hA;go_wp2_with fail
 refine wp_loop_rounds 4 ?_;rw [rounds_succ];go_wp2_with fail
 refine wp_region_tree 5 (OT.sures [0,1,3,4] (.run 2 .nil)) (fun w'=>Gr w1 w') (by kernel_rfl) (by kernel_rfl) (fun c a d v w h=>by cases d<;>exact h) ((Gr.refl w1).drew) ?_
 simp only [OT.sures]
 iterate 4 (apply wpT_sure rfl rfl;focus (intro w' hw';obtain ⟨g1,g2,g3⟩:=cells3 (hw'.heap ca.out id);obtain ⟨g4,g5,g6⟩:=cells3 (hw'.heap cb.out id);go_simp;rfl))
 refine wpT_run (fun w'=>Gr w1 w') (fun _ h=>h) rfl (fun K hK=>?_);go_simp
 refine (h0 (a0,a1,a2) _).out.mono ?_;rintro e x0 ⟨rfl,v0⟩;have V0:=Lib.hid (((Gr.refl w1).drew).trans v0);refine hK _ _ ⟨V0.out,?_⟩;clear hK K;refine wpT_nil ?_;obtain ⟨g1,g2,g3⟩:=cells3 (V0.out.heap ca.out id);obtain ⟨g4,g5,g6⟩:=cells3 (V0.out.heap cb.out id);clear v0;go_wp2_with fail
 refine (h0 (b0,b1,b2) _).out.mono ?_;rintro e y0 ⟨rfl,v0⟩;have Y0:=Lib.hid (U1.out.trans (V0.out.trans v0));have cA0:=Lib.hid ((V0.out.trans v0).heap ca.out id);have cB0:=Lib.hid ((V0.out.trans v0).heap cb.out id);clear ca cb U1 v0 V0;have ca:=cA0;have cb:=cB0;have U1:=Y0;obtain ⟨g1,g2,g3⟩:=cells3 ca.out;obtain ⟨g4,g5,g6⟩:=cells3 cb.out;clear cA0 cB0 Y0;by_cases e0:a0=b0
 rotate_left
 ·go_wp2_with fail
  go_ret
  refine ⟨?_,U1.out⟩;rw [hlt.out];simp [e0]
 subst e0;go_wp2_with fail
 rw [rounds_succ];go_wp2_with fail
 refine wp_region_tree 5 (OT.sures [0,1,3,4] (.run 2 .nil)) (fun w'=>Gr y0 w') (by kernel_rfl) (by kernel_rfl) (fun c a d v w h=>by cases d<;>exact h) ((Gr.refl y0).drew) ?_
 simp only [OT.sures]
 iterate 4 (apply wpT_sure rfl rfl;focus (intro w' hw';obtain ⟨g1,g2,g3⟩:=cells3 (hw'.heap ca.out id);obtain ⟨g4,g5,g6⟩:=cells3 (hw'.heap cb.out id);go_simp;rfl))
 refine wpT_run (fun w'=>Gr y0 w') (fun _ h=>h) rfl (fun K hK=>?_);go_simp
 refine (h1 (a0,a1,a2) _).out.mono ?_;rintro e x1 ⟨rfl,v1⟩;have V1:=Lib.hid (((Gr.refl y0).drew).trans v1);refine hK _ _ ⟨V1.out,?_⟩;clear hK K;refine wpT_nil ?_;obtain ⟨g1,g2,g3⟩:=cells3 (V1.out.heap ca.out id);obtain ⟨g4,g5,g6⟩:=cells3 (V1.out.heap cb.out id);clear v1;go_wp2_with fail
 refine (h1 (a0,b1,b2) _).out.mono ?_;rintro e y1 ⟨rfl,v1⟩;have Y1:=Lib.hid (U1.out.trans (V1.out.trans v1));have cA1:=Lib.hid ((V1.out.trans v1).heap ca.out id);have cB1:=Lib.hid ((V1.out.trans v1).heap cb.out id);clear ca cb U1 v1 V1;have ca:=cA1;have cb:=cB1;have U1:=Y1;obtain ⟨g1,g2,g3⟩:=cells3 ca.out;obtain ⟨g4,g5,g6⟩:=cells3 cb.out;clear cA1 cB1 Y1;by_cases e1:a1=b1
 rotate_left
 ·go_wp2_with fail
  go_ret
  refine ⟨?_,U1.out⟩;rw [hlt.out];simp [e1]
 subst e1;go_wp2_with fail
 rw [rounds_succ];go_wp2_with fail
 refine wp_region_tree 5 (OT.sures [0,1,3,4] (.run 2 .nil)) (fun w'=>Gr y1 w') (by kernel_rfl) (by kernel_rfl) (fun c a d v w h=>by cases d<;>exact h) ((Gr.refl y1).drew) ?_
 simp only [OT.sures]
 iterate 4 (apply wpT_sure rfl rfl;focus (intro w' hw';obtain ⟨g1,g2,g3⟩:=cells3 (hw'.heap ca.out id);obtain ⟨g4,g5,g6⟩:=cells3 (hw'.heap cb.out id);go_simp;rfl))
 refine wpT_run (fun w'=>Gr y1 w') (fun _ h=>h) rfl (fun K hK=>?_);go_simp
 refine (h2 (a0,a1,a2) _).out.mono ?_;rintro e x2 ⟨rfl,v2⟩;have V2:=Lib.hid (((Gr.refl y1).drew).trans v2);refine hK _ _ ⟨V2.out,?_⟩;clear hK K;refine wpT_nil ?_;obtain ⟨g1,g2,g3⟩:=cells3 (V2.out.heap ca.out id);obtain ⟨g4,g5,g6⟩:=cells3 (V2.out.heap cb.out id);clear v2;go_wp2_with fail
 refine (h2 (a0,a1,b2) _).out.mono ?_;rintro e y2 ⟨rfl,v2⟩;have Y2:=Lib.hid (U1.out.trans (V2.out.trans v2));have cA2:=Lib.hid ((V2.out.trans v2).heap ca.out id);have cB2:=Lib.hid ((V2.out.trans v2).heap cb.out id);clear ca cb U1 v2 V2;have ca:=cA2;have cb:=cB2;have U1:=Y2;obtain ⟨g1,g2,g3⟩:=cells3 ca.out;obtain ⟨g4,g5,g6⟩:=cells3 cb.out;clear cA2 cB2 Y2;by_cases e2:a2=b2
 rotate_left
 ·go_wp2_with fail
  go_ret
  refine ⟨?_,U1.out⟩;rw [hlt.out];simp
 subst e2;go_wp2_with fail
 rw [rounds_succ];go_wp2_with fail
 go_ret
 refine ⟨?_,U1.out⟩;rw [hlt.out];simp
end Go.Proofs.YtcikldoaidmnhaaGreatDoor
namespace Go.Proofs.YtcikldoaidmnhaaGreatDoor
open Go Go.RowKit Pk
set_option maxRecDepth 100000
def cmpP (a b:Pt):Int:=if ptLt a b then -1 else if ptLt b a then 1 else 0
def orL (a b c:Int):Int:=if a≠0 then a else if b≠0 then b else c
def cmpT (s t:Tri):Int:=orL (cmpP s.1 t.1) (cmpP s.2.1 t.2.1) (cmpP s.2.2 t.2.2)
theorem comparePoints_any (a b:Pt) (w:World):Calls Tryz.prog 142 #[ptV a,ptV b] w fun en w'=>en=.returned (.int .i64 (cmpP a b))∧Gr w w':=by
 have hl:=fun p q W=>Lib.hid (Less_any p q W);obtain ⟨a0,a1,a2⟩:=a;obtain ⟨b0,b1,b2⟩:=b;have hc:=Lib.hid (show cmpP (a0,a1,a2) (b0,b1,b2)=if ptLt (a0,a1,a2) (b0,b1,b2) then -1 else if ptLt (b0,b1,b2) (a0,a1,a2) then 1 else 0 from rfl);unfold ptV;go_enter Tryz.func142,Tryz.ntmps142
 go_wp2_with fail
 refine (hl (a0,a1,a2) (b0,b1,b2) _).out.mono ?_;rintro e w1 ⟨rfl,u1⟩;have U1:Hid (Gr w w1):=(((Gr.refl _).alloc _).alloc _).trans u1;have ca:Hid (w1.heap[w.heap.size]?=some (.cells #[.int .i64 a0,.int .i64 a1,.int .i64 a2] 43)):=u1.heap (((Gr.refl _).alloc _).heap (heap_alloc_new _ _) id) id;have cb:Hid (w1.heap[w.heap.size+1]?=some (.cells #[.int .i64 b0,.int .i64 b1,.int .i64 b2] 43)):=u1.heap (by have:=heap_alloc_new (w.alloc (.cells #[.int .i64 a0,.int .i64 a1,.int .i64 a2] 43)) (.cells #[.int .i64 b0,.int .i64 b1,.int .i64 b2] 43);rwa [World.size_alloc] at this) id;obtain ⟨g1,g2,g3⟩:=cells3 ca.out;obtain ⟨g4,g5,g6⟩:=cells3 cb.out;clear u1;rcases h1:ptLt (a0,a1,a2) (b0,b1,b2) with _ | _
 ·go_wp2_with fail
  refine (hl (b0,b1,b2) (a0,a1,a2) _).out.mono ?_;rintro e w2 ⟨rfl,u2⟩;have U2:=Lib.hid (U1.out.trans u2);clear u2;rw [h1] at hc;rcases h2:ptLt (b0,b1,b2) (a0,a1,a2) with _ | _
  ·rw [h2] at hc;go_wp2_with fail
   go_ret
   exact ⟨by rw [hc.out];rfl,U2.out⟩
  ·rw [h2] at hc;go_wp2_with fail
   go_ret
   exact ⟨by rw [hc.out];rfl,U2.out⟩
 ·rw [h1] at hc;go_wp2_with fail
  go_ret
  exact ⟨by rw [hc.out];rfl,U1.out⟩
theorem Or_any (w w1:World) (a b c:Int) (B:Nat) (g1:w1.cell? ⟨B,0,none⟩=some (.int .i64 a)) (g2:w1.cell? ⟨B,1,none⟩=some (.int .i64 b)) (g3:w1.cell? ⟨B,2,none⟩=some (.int .i64 c)) (U:Gr w w1) (cap:Nat) :
  Calls Tryz.prog 141 #[.slice (some ⟨B,0,none⟩) 3 cap] w1 fun en w'=>en=.returned (.int .i64 (orL a b c))∧Gr w w':=by
 have hU:=Lib.hid U;have ho:=Lib.hid (show orL a b c=if a≠0 then a else if b≠0 then b else c from rfl);clear U;go_enter Tryz.func141,Tryz.ntmps141
 go_wp2_with fail
 refine wp_loop_rounds 4 ?_;rw [rounds_succ];by_cases h1:a=0
 ·subst h1;go_wp2_with fail
  rw [rounds_succ];by_cases h2:b=0
  ·subst h2;go_wp2_with fail
   rw [rounds_succ];by_cases h3:c=0
   ·subst h3;go_wp2_with fail
    rw [rounds_succ];go_wp2_with fail
    go_ret
    exact ⟨by rw [ho.out];rfl,hU.out⟩
   ·go_wp2_with fail
    go_ret
    exact ⟨by rw [ho.out];rfl,hU.out⟩
  ·go_wp2_with fail
   go_ret
   exact ⟨by rw [ho.out];simp [h2],hU.out⟩
 ·go_wp2_with fail
  go_ret
  exact ⟨by rw [ho.out];simp [h1],hU.out⟩
end Go.Proofs.YtcikldoaidmnhaaGreatDoor
