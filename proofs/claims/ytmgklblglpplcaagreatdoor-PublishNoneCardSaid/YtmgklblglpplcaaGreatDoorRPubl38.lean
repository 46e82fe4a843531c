/- Parts: Walks of the program's SHA-256: Sum. No condition. -/
import Derived.Test.YtmgklblglpplcaaGreatDoorRPubl1
import Derived.Test.YtmgklblglpplcaaGreatDoorRPubl2
import Derived.Test.YtmgklblglpplcaaGreatDoorRPubl3
import Derived.Test.YtmgklblglpplcaaGreatDoorRPubl4
import Derived.Test.YtmgklblglpplcaaGreatDoorRPubl5
import Derived.Test.YtmgklblglpplcaaGreatDoorRPubl6
import Derived.Test.YtmgklblglpplcaaGreatDoorRPubl9
import Derived.Test.YtmgklblglpplcaaGreatDoorRPubl10
import Derived.Test.YtmgklblglpplcaaGreatDoorRPubl11
import Derived.Test.YtmgklblglpplcaaGreatDoorRPubl12
import Derived.Test.YtmgklblglpplcaaGreatDoorRPubl14
import Derived.Test.YtmgklblglpplcaaGreatDoorRPubl15
import Derived.Test.YtmgklblglpplcaaGreatDoorRPubl16
import Derived.Test.YtmgklblglpplcaaGreatDoorRPubl19
import Derived.Test.YtmgklblglpplcaaGreatDoorRPubl20
import Derived.Test.YtmgklblglpplcaaGreatDoorRPubl21
import Derived.Test.YtmgklblglpplcaaGreatDoorRPubl22
import Derived.Test.YtmgklblglpplcaaGreatDoorRPubl23
import Derived.Test.YtmgklblglpplcaaGreatDoorRPubl25
import Derived.Test.YtmgklblglpplcaaGreatDoorRPubl26
import Derived.Test.YtmgklblglpplcaaGreatDoorRPubl29
import Derived.Test.YtmgklblglpplcaaGreatDoorRPubl31
import Derived.Test.YtmgklblglpplcaaGreatDoorRPubl32
import Derived.Test.YtmgklblglpplcaaGreatDoorRPubl34
import Derived.Test.YtmgklblglpplcaaGreatDoorRPubl35
import Derived.Test.YtmgklblglpplcaaGreatDoorRPubl36
import Derived.WalkKit
import Derived.WalkSpells
import Derived.WalkLawsBesides
import Derived.Lib.Hide
import Derived.BigQuiet
import Derived.Deep.DeepFit
import Derived.Deep.DeepCutAuto
import Derived.Deep.AppendLies
import Derived.Deep.QuietTactic
import Derived.Test.YtmgklblglpplcaaGreatDoorRows
import Derived.Deep.RegionHeld3
import Derived.StillTail
import Derived.Maps.OwnOps
import Derived.Maps.OwnSet
import Derived.Maps.RangeWalk
import Derived.WideKeyEntry
import Derived.Deep.MidRow
import Derived.Lib.Bits
import Derived.Laws.EntriesVeiled
import Derived.Handy
import Derived.DeepKeys4
import Derived.ArgAppend
import Derived.Deep.Upon
import Derived.Deep.CutBlock
import Derived.Test.YtmgklblglpplcaaGreatDoorShelf2
import Derived.Test.YtmgklblglpplcaaGreatDoorShelf
import Derived.Laws.BitsAllLaws
import Derived.Lib.Zigzag
import Derived.Recover
import Derived.Laws.BytesArg
import Derived.Deep.WholeRow
import Derived.Laws.IdiomStrings
import Derived.IntWalk
import Derived.Lib.AppendStr
import Derived.Lib.AppendZeros
import Derived.RangeFuncNested
import Derived.RangeFuncBound
import Derived.RangeFuncCalls
import Derived.RangeFuncLeaves
import Derived.RangeFuncFrom
import Derived.LoopIn
import Derived.LoopNIn
import Derived.OwnWalkIn
import Derived.TacticsInMore
namespace Go.Proofs.YtmgklblglpplcaaGreatDoor
open Go Go.RowKit Pk Dg
set_option maxRecDepth 100000
attribute [local go_sem] Oper.semAt_some
theorem news_one {w:World} (c:UInt8):∀j u,(byV [c])[j]?=some u→(w.alloc (.cells #[.int .u8 (c.toNat:Int)] 5)).cell? ((⟨w.heap.size,0,none⟩:Addr).add j)=some u:=by
 intro j u hu;have h:=World.news_of_block (cs:=#[.int .u8 (c.toNat:Int)]) (t:=5) (fr:=(0,0)) (heap_alloc_new w (.cells #[.int .u8 (c.toNat:Int)] 5));exact h j u (by simpa [byV] using hu)
theorem news_be4 {w:World} (l:Bytes):∀j u,(byV l)[j]?=some u→(w.alloc (.cells (byV l).toArray 5)).cell? ((⟨w.heap.size,0,none⟩:Addr).add j)=some u:=by
 intro j u hu;have h:=World.news_of_block (cs:=(byV l).toArray) (t:=5) (fr:=(0,0)) (heap_alloc_new w (.cells (byV l).toArray 5));exact h j u (by simpa using hu)
theorem grown_updD {F:Nat→Prop} {w0 X Y:World} {B:Nat} {row:Option Nat} (h:Upd F w0 X) (hB:w0.heap.size≤B) (hg:X.grownBy Y row) (hr:∀r,row=some r→B≤r∧∃o:Obj,X.heap[r]?=some o∧o.isCells=false):Upd F w0 Y:=
 h.grown hg (fun k hk hl=>by have:=(hr k hk).1;omega)
theorem grown_cellsD {X Y:World} {B k:Nat} {row:Option Nat} {cs:Array Value} {T:TypeId} {fr:Nat × Nat} (h:X.heap[k]?=some (.cells cs T fr)) (hg:X.grownBy Y row) (hr:∀r,row=some r→B≤r∧∃o:Obj,X.heap[r]?=some o∧o.isCells=false):Y.heap[k]?=some (.cells cs T fr):=
 (hg.block k (lt_of_heap h) (fun e=>by
  obtain ⟨_,o,ho,hc⟩:=hr k e.symm;rw [h] at ho;cases ho;cases hc)).trans h
theorem be4_len (x:Nat):(be4 x).length=4:=rfl
theorem wpList_append_run2 {P:Program} {ops:Array Oper} {rest:List Oper} {o:Oper} {a:Act} {w w':World} {Q:Exit→Act→World→Prop} (hgd:o.guard=none) (s x:Operand) (t t2:TypeId)
  (ho:o.op=.call { callee:=.builtin .append,args:=#[s,x],argTypes:=#[t,t2] }) {vs vx v':Value} (hs:a.eval s=vs) (hx:a.eval x=vx)
  (hr:(Builtin.append_ #[t,t2] o.type #[vs,vx]).run P w=.ok v' w') (h:wpList P ops Q rest (a.put o.dst v') w'):wpList P ops Q (o :: rest) a w:=by
 refine wpList_plain hgd fun K hK=>?_;unfold Oper.wp execOp;simp only [ho,resolve,invoke,builtin,Sem.run_bind,Sem.run_pure,Result.andThen_ok,List.map_toArray,List.map_cons,List.map_nil,hs,hx,hr];exact hK _ _ h
theorem fill4B (W:Bytes) (m:Nat) (h:m+4≤W.length):(fillB W m).take m++(W.drop m).take 4++(fillB W m).drop (m+4)=fillB W (m+4):=by
 unfold fillB;have e1:(W.take m).length=m:=by rw [List.length_take];omega
 have e2:(W.take m++List.replicate (W.length-m) (0:UInt8)).drop (m+4)=List.replicate (W.length-(m+4)) 0:=by
  have e3:(W.take m).drop (m+4)=[]:=List.drop_eq_nil_of_le (by rw [e1];omega);rw [List.drop_append,e1,e3,List.nil_append,List.drop_replicate];congr 1
  omega
 rw [List.take_left' e1,e2,List.take_add]
theorem info_u8G:(Tryz.prog.info? 5).map (·.size)=some 1:=by kernel_rfl
def noPan (Q:Exit→Act→World→Prop):Exit→Act→World→Prop
 | .panic _,_,_=>False
 | e,a,w=>Q e a w
theorem noPan_out {Q:Exit→Act→World→Prop} {e:Exit} {a:Act} {w:World} (h:noPan Q e a w):Q e a w:=by
 cases e<;>first | exact h | exact h.elim
theorem range_of_row {w:World} {g:Nat} {vs:Array Value} {t:TypeId} (h:w.heap[g]?=some (.cells vs t (0,0))):w.rangeAt g 0 vs.toList:=fun j v hv=>by
 rw [Nat.zero_add,cell_of_row _ _ j _ t (0,0) h];simpa using hv
set_option maxHeartbeats 4000000 in
theorem gSum_any (s:Bytes) (hs:s.length≤1152921504606846976) (h47:s.length≤140737488355200) (w:World):Calls Tryz.prog 20 #[.string (bs s)] w fun en w'=>en=.returned (hashV0 (shaH s))∧Upd noBlk w w':=by
 have hzH:∀W,(zeroValue 36).run Tryz.prog W=.ok (.agg (byV zeroB32).toArray) W:=fun W=>by kernel_rfl
 obtain ⟨w1,hw1⟩:∃w1,w1=w.alloc (.cells (byV zeroB32).toArray 36):=⟨_,rfl⟩;obtain ⟨cap,W,hcv,hB,uW,hlt⟩:=conv_row s w1;have HB:=Lib.hid hB;have hS2:(W.alloc (.cells #[.int .u8 128] 5)).heap.size=W.heap.size+1:=World.size_alloc _ _;obtain ⟨g2,cap2,W2,r2,hB2,u2,hl2⟩:=(hB.upd (F:=noBlk) ((Upd.refl noBlk W).alloc (.cells #[.int .u8 128] 5)) id hlt).app (by simp;omega) (by simp;omega) (a:=⟨W.heap.size,0,none⟩) (c:=1) [128] (news_one (w:=W) 128) (by simp;omega);refine calls_of_wpAt (n:=5) Tryz.func20 rfl ?_;simp only [Tryz.ntmps20,List.size_toArray,List.length_cons,List.length_nil,Nat.reduceAdd,Nat.reduceSub,Array.replicate_succ,Array.replicate_zero,List.push_toArray,List.append_toArray,List.nil_append,List.cons_append];subst hw1;have HCV:=Lib.hid hcv;have HR2:=Lib.hid r2;have HB2:=Lib.hid hB2;have HU2:=Lib.hid u2;have HUW:=Lib.hid uW;have HL2:=Lib.hid hl2;clear hB hB2 u2 uW hl2 hlt;refine wpAt_seq (wpAt_of (n:=5) ?_);gi_wp2_with fail
 refine wpAt_seq (wpAt_of (n:=5) (wpIn_wide.2 ?_));have r2':=HR2.out;simp only [List.length_cons,List.length_nil,Nat.reduceAdd,World.size_alloc] at r2';obtain ⟨n1,hn1⟩:∃n1,n1=s.length+1:=⟨_,rfl⟩;obtain ⟨z,hz⟩:∃z,z=(119-s.length % 64) % 64:=⟨_,rfl⟩;obtain ⟨q,hq⟩:∃q,q=n1 % 64:=⟨_,rfl⟩;have hq1:Int.tmod (n1:Int) 64=(q:Int):=by rw [Int.tmod_eq_emod_of_nonneg (by omega)];omega
 have hq1':(n1:Int) % 64=(q:Int):=by omega
 have hq63:(q:Int)≤63:=by omega
 have hz1:Int.tmod (120-(q:Int)) 64=(z:Int):=by rw [Int.tmod_eq_emod_of_nonneg (by omega)];omega
 have hz1':(120-(q:Int)) % 64=(z:Int):=by omega
 have hlen:(s++[128]).length=n1:=by rw [hn1];simp
 simp only [List.length_append,List.length_cons,List.length_nil,Nat.zero_add,←hn1] at r2';have HR2':=Lib.hid r2';have HQ:=Lib.hid hq;have HZ:=Lib.hid hz;have HN:=Lib.hid hn1;clear hq hz hn1;clear r2 r2' HR2;go_wp2_with (at_builtin;refine wpList_append_run rfl _ _ _ rfl rfl rfl HR2'.out ?_)
 clear hcv;refine wpAt_seq (wpAt_of (n:=5) (wpIn_wide.2 ?_));obtain ⟨g3,cap3,W3,r3,hB3,u3,hl3⟩:=HB2.out.appS (by have:=HUW.out.size;have:=HU2.out.size;simp at *;omega) HL2.out (List.replicate z 0) (by simp;have:=HZ.out;omega);have hz0:=append_zeros_eq W2 (some ⟨g2,0,none⟩) (s++[128]).length cap2 z (by simp;have:=HZ.out;omega) HB2.out.fits;obtain ⟨n3,hn3⟩:∃n3,n3=(s++[128]++List.replicate z 0).length:=⟨_,rfl⟩;rw [r3,hlen,←hn3] at hz0;have HN3:=Lib.hid hn3;clear hn3;have HZ0:=Lib.hid hz0;have HB3:=Lib.hid hB3;have HU3:=Lib.hid u3;have HL3:=Lib.hid hl3;clear r3 hz0 hB3 u3 hl3;go_wp2_with (at_builtin;refine wpList_append_run2 rfl _ _ _ _ rfl rfl rfl HZ0.out ?_)
 refine wpAt_seq (wpAt_of (n:=5) (wpIn_wide.2 ?_));obtain ⟨x,hx⟩:∃x,x=s.length*8:=⟨_,rfl⟩;obtain ⟨hi,hhi⟩:∃hi,hi=x / 4294967296:=⟨_,rfl⟩;obtain ⟨lo,hlo⟩:∃lo,lo=x % 4294967296:=⟨_,rfl⟩;have hx0:IntKind.u64.wrap (((bs s).size:Nat):Int)=(s.length:Int):=by rw [bs_size,IntKind.wrap_u64];omega
 have hx1:(s.length:Int)*8=(x:Int):=by omega
 have hx2:IntKind.u64.wrap (x:Int)=(x:Int):=by rw [IntKind.wrap_u64];omega
 have hx3:(x:Int) / 4294967296=(hi:Int):=by omega
 have hx4:(hi:Int) % 4294967296=(hi:Int):=by omega
 have hx5:(x:Int) % 4294967296=(lo:Int):=by omega
 have HX:=Lib.hid hx;have HHI:=Lib.hid hhi;have HLO:=Lib.hid hlo;have HHL:Hid (hi<4294967296∧lo<4294967296):=by refine ⟨?_,?_⟩<;>omega
 clear hx hhi hlo;go_wp2_with fail
 refine wpAt_seq (wpAt_of (n:=5) (wpIn_wide.2 ?_));go_wp2_with fail
 refine (bytes_any hi HHL.out.1 _).mono ?_;rintro e w4 ⟨rfl,rfl⟩;obtain ⟨g4,cap4,W4,r4,hB4,u4,hl4⟩:=(HB3.out.upd ((Upd.refl noBlk W3).alloc (.cells (byV (be4 hi)).toArray 5)) id HL3.out).app (by have:=HUW.out.size;have:=HU2.out.size;have:=HU3.out.size;simp at *;omega) (by have:=HL3.out;simp;omega) (a:=⟨W3.heap.size,0,none⟩) (c:=4) (be4 hi) (news_be4 _) (by simp [be4_len];have:=HZ.out;omega);obtain ⟨n4,hn4⟩:∃n4,n4=(s++[128]++List.replicate z 0++be4 hi).length:=⟨_,rfl⟩;rw [be4_len,←hn4,←HN3.out] at r4;have HN4:=Lib.hid hn4;have HR4:=Lib.hid r4;have HB4:=Lib.hid hB4;have HU4:=Lib.hid u4;have HL4:=Lib.hid hl4;clear r4 hB4 u4 hl4 hn4;go_wp2_with (at_builtin;refine wpList_append_run rfl _ _ _ rfl rfl rfl HR4.out ?_)
 refine (bytes_any lo HHL.out.2 _).mono ?_;rintro e w5 ⟨rfl,rfl⟩;obtain ⟨g5,cap5,W5,r5,hB5,u5,hl5⟩:=(HB4.out.upd ((Upd.refl noBlk W4).alloc (.cells (byV (be4 lo)).toArray 5)) id HL4.out).app (by have:=HUW.out.size;have:=HU2.out.size;have:=HU3.out.size;have:=HU4.out.size;simp at *;omega) (by have:=HL4.out;simp;omega) (a:=⟨W4.heap.size,0,none⟩) (c:=4) (be4 lo) (news_be4 _) (by simp [be4_len];have:=HZ.out;omega);have hpad:s++[128]++List.replicate z 0++be4 hi++be4 lo=padB s:=by
  unfold padB M32;rw [HZ.out,HHI.out,HLO.out,HX.out]
 obtain ⟨nb,hnb⟩:∃nb,nb=(padB s).length / 64:=⟨_,rfl⟩;have hn5:(padB s).length=64*nb:=by have:=padB_len s;omega
 rw [hpad] at r5 hB5;rw [hn5,be4_len,←HN4.out] at r5;have HNB:=Lib.hid hnb;have HN5:=Lib.hid hn5;have HR5:=Lib.hid r5;have HB5:=Lib.hid hB5;have HU5:=Lib.hid u5;have HL5:=Lib.hid hl5;clear r5 hB5 u5 hl5 hn5 hnb hpad;go_wp2_with (at_builtin;refine wpList_append_run rfl _ _ _ rfl rfl rfl HR5.out ?_)
 refine wpAt_seq (wpAt_of (n:=5) (wpIn_wide.2 ?_));go_wp2_with fail
 obtain ⟨L8,hL8⟩:∃L,L=l8 start8:=⟨_,rfl⟩;have HSTA:∀W,Calls Tryz.prog 33 #[] W fun e w'=>e=.returned (.agg (rowW L8 8))∧Upd noBlk W w':=fun W=>by rw [hL8];exact start_any W
 refine (HSTA _).mono ?_;rintro e w6 ⟨rfl,u6⟩;have HU6:=Lib.hid u6;have HL8:=Lib.hid hL8;clear u6 HSTA hL8;obtain ⟨X,hst,hx1,hx2⟩:=store_row (P:=Tryz.prog) (heap_alloc_new w6 (.cells (rowW [] 8) 82)) (vs:=(rowW L8 8).toList) (by simp [rowW_size]) (row_one L8 8);have hz8:∀W,(zeroValue 82).run Tryz.prog W=.ok (.agg (rowW [] 8)) W:=fun W=>by kernel_rfl
 have HX1:Hid (X.heap[w6.heap.size]?=some (.cells (rowW L8 8) 82 (0,0))):=by show _=_;simpa using hx1
 have HX2:=Lib.hid (((Upd.refl noBlk w6).alloc _).then hx2 (fun i hi e=>by omega));clear hx1 hx2;go_wp2_with fail
 refine wpAt_seq (wpAt_seq (wpAt_of (n:=5) (wpIn_wide.2 ?_)));go_wp2_with fail
 refine (Chunk_any _ _ _ _).mono ?_;rintro e w7 ⟨rfl,rfl⟩;go_wp2_with fail
 have hT:Hid (X.rangeAt g5 0 (byV (padB s))):=(HB5.out.upd (HU6.out.trans HX2.out) id HL5.out).at_;have hUX:Hid (Upd noBlk w X):=by
  have s0:(w.alloc (.cells (byV zeroB32).toArray 36)).heap.size=w.heap.size+1:=World.size_alloc _ _;have l2:=HB2.out.low;have l3:=HB3.out.low;have l4:=HB4.out.low;exact ((((((((((Upd.refl noBlk w).alloc _).trans HUW.out).alloc _).then HU2.out (fun i hi e=>by omega)).then HU3.out (fun i hi e=>by omega)).alloc _).then HU4.out (fun i hi e=>by omega)).alloc _).then HU5.out (fun i hi e=>by omega)).trans HU6.out |>.trans HX2.out
 have hPX:Hid (w6.heap.size<X.heap.size):=lt_of_heap HX1.out;have hGX:Hid (g5<X.heap.size∧g5≠w6.heap.size):=by
  have h1:=HL5.out;have h2:=HU6.out.size;have h3:=HX2.out.size;refine ⟨?_,?_⟩<;>omega
 have hcap:64*nb≤cap5:=by have:=HB5.out.fits;rw [HN5.out] at this;exact this
 have hnb:nb≤18014398509481984:=by
  have h1:(padB s).length≤s.length+80:=by unfold padB;simp [be4_len];omega
  have h2:=HNB.out;omega
 obtain ⟨C,tt,fr,hC⟩:∃C tt fr,X.heap[g5]?=some (.cells C tt fr):=by
  have h2:0<(padB s).length:=by unfold padB;simp only [List.length_append,be4_len];omega
  have h1:=HB5.out.fits;have hc:=(HB5.out.upd (HU6.out.trans HX2.out) id HL5.out).there 0 (by omega);unfold World.cell? at hc;dsimp only at hc
  cases hx:X.heap[g5]? with
  | none=>rw [hx] at hc;cases hc
  | some o=>
   rw [hx] at hc;cases o with
   | cells C tt fr=>exact ⟨C,tt,fr,rfl⟩
   | _=>cases hc
 have HC:=Lib.hid hC;clear hC;obtain ⟨Bx,hBx⟩:∃Bx,Bx=X.heap.size:=⟨_,rfl⟩;obtain ⟨V,hV⟩:∃V,V=(X.alloc (.cells #[.slice (some ⟨g5,0,none⟩) (64*nb) cap5] 48)).alloc (.cells #[.int .i64 64] 3):=⟨_,rfl⟩;rw [←hV,←hBx];have hVx:V.heap[Bx]?=some (.cells #[.slice (some ⟨g5,0,none⟩) (64*nb) cap5] 48 (0,0)):=by
  rw [hV,hBx];exact heap_alloc_keep _ (heap_alloc_new _ _)
 have hVy:V.heap[Bx+1]?=some (.cells #[.int .i64 64] 3 (0,0)):=by
  have h:=heap_alloc_new (X.alloc (.cells #[.slice (some ⟨g5,0,none⟩) (64*nb) cap5] 48)) (.cells #[.int .i64 64] 3);rw [hV,hBx];simpa using h
 have hVs:V.heap.size=Bx+2:=by rw [hV,hBx];simp
 have HBx:=Lib.hid hBx;have HV:=Lib.hid hV;have HVS:=Lib.hid hVs;clear hV;refine wpAt_block (wpAt_range (n:=5) (rangeP_core (F:=Fence.wide) (n:=5) rfl (by omega) Tryz.func20 trivial (gf:=55) (lb:=#[.pointer (some ⟨Bx,0,none⟩),.pointer (some ⟨Bx+1,0,none⟩)]) rfl trivial (enters_of Tryz.func55 (by kernel_rfl) rfl)
  (Ar:=ArC g5) (Kp:=KpC Bx) (chunk1_seq 4 g5 nb cap5 Bx hcap hnb V hVx hVy) (fun h1 h2=>⟨h2.1.trans h1.1,h2.2.trans h1.2⟩) (fun W l o o' hl ho hc=>⟨World.putObj_heap_other (by omega),World.putObj_heap_other (by omega)⟩) (Below.refl _ _)
  (fun x args W h=>by cases h;rfl) (fun x args A B row h _ _=>h)
  (fun pre W=>W.heap[w6.heap.size]?=some (.cells (rowW (l8 (addAll pre.length start8 (padB s))) 8) 82 (0,0))∧W.heap[g5]?=some (.cells C tt fr)∧Upd (fun k=>k=w6.heap.size) V W)
  (fun _ _ _=>False) (fun _ _=>False) ?hI ?hIx ?h0 (fun args=>{ tmps:=#[.string (bs s),undef,.pointer (some ⟨w.heap.size,0,none⟩),.slice (some ⟨g5,0,none⟩) (64*nb) cap5,.int .u64 (x:Int),.pointer (some ⟨w6.heap.size,0,none⟩),args.getD 0 undef,undef,undef,undef,.string (bs s),.slice (some ⟨w.heap.size+1,0,none⟩) s.length cap,.slice (some ⟨W.heap.size,0,none⟩) 1 1,.slice (some ⟨g2,0,none⟩) n1 cap2,.slice (some ⟨g2,0,none⟩) n1 cap2,.slice (some ⟨g2,0,none⟩) n1 cap2,.int .i64 (n1:Int),.int .i64 (q:Int),.int .i64 (120-(q:Int)),.int .i64 (z:Int),.slice (some ⟨g3,0,none⟩) n3 cap3,.string (bs s),.int .i64 ((bs s).size:Int),.int .u64 (s.length:Int),.int .u64 (x:Int),.slice (some ⟨g3,0,none⟩) n3 cap3,.int .u64 (x:Int),.int .u64 (hi:Int),.int .u32 (hi:Int),.slice (some ⟨W3.heap.size,0,none⟩) 4 4,.slice (some ⟨g4,0,none⟩) n4 cap4,.int .u64 (x:Int),.int .u32 (lo:Int),.slice (some ⟨W4.heap.size,0,none⟩) 4 4,.slice (some ⟨g5,0,none⟩) (64*nb) cap5,.agg (rowW L8 8),.slice (some ⟨g5,0,none⟩) (64*nb) cap5,.func (.func 55) #[] #[.pointer (some ⟨Bx,0,none⟩),.pointer (some ⟨Bx+1,0,none⟩)],args.getD 0 undef,undef,undef,undef,undef,undef,undef,undef,undef,undef,undef,undef,undef,undef,undef,undef],defers:=[] }) ?assign ?body ?done ?stop ?panic))
 case hI=>exact fun _ A B row h hg hr=>⟨grown_cellsD h.1 hg hr,grown_cellsD h.2.1 hg hr,grown_updD h.2.2 (by omega) hg hr⟩
 case hIx=>exact fun _ _ A B row h hg hr=>h
 case h0=>
  refine ⟨?_,?_,?_⟩
  ·have h:=HX1.out;rw [HL8.out] at h;rw [HV.out];exact heap_alloc_keep _ (heap_alloc_keep _ h)
  ·rw [HV.out];exact heap_alloc_keep _ (heap_alloc_keep _ HC.out)
  ·exact Upd.refl _ _
 case assign=>
  clear hBx;intro l x args W K h hK;obtain rfl:=h;gi_wp2_with fail
  exact hK
 case body=>
  clear hBx;rintro l pre x args Wb ⟨hb,hg,hu⟩ har hok;obtain rfl:=har;obtain ⟨k,hk,hpre⟩:=hok;have hlk:pre.length+1=k:=by have:=congrArg List.length hpre;simpa using this
  subst hlk;have hxl:x=pre.length:=by
   rw [List.range_succ] at hpre;have:=(List.append_inj hpre (by simp)).2;simpa using this
  obtain ⟨S,hS⟩:∃S,addAll pre.length start8 (padB s)=S:=⟨_,rfl⟩;have hOK:S.Ok:=by rw [←hS];exact addAll_ok _ start_ok _
  have hSN:addAll (pre.length+1) start8 (padB s)=addB S (((padB s).drop (64*x)).take 64):=by rw [addAll_snoc,hS,hxl]
  obtain ⟨b,hbb⟩:∃b,b=((padB s).drop (64*x)).take 64:=⟨_,rfl⟩;have hbl:b.length=64:=by rw [hbb,List.length_take,List.length_drop,HN5.out];omega
  have hr:Wb.rangeAt g5 (64*x) (byV b):=by
   intro j v hv;have e:(byV (padB s))[64*x+j]?=some v:=by
    unfold byV at hv ⊢;rw [List.getElem?_map] at hv ⊢;rw [hbb,List.getElem?_take] at hv;split at hv
    ·rwa [List.getElem?_drop] at hv
    ·cases hv
   have h:=hT.out (64*x+j) v e;rw [Nat.zero_add] at h;rw [World.cell?_of_block (hg.trans HC.out.symm)];exact h
  rw [hS] at hb;rw [←hbb] at hSN;have hbP:=Lib.hid hb;have HG:=Lib.hid (gadd_any S hOK b hbl Wb hb hr);have HSN:=Lib.hid hSN;have HU:=Lib.hid hu;have HGW:=Lib.hid hg;clear hb hr hbb hu hg hpre hxl;gi_wp2_with fail
  refine ⟨trivial,(CallsIn.inRound l (callsIn_wide.2 HG.out)).mono ?_⟩;rintro e Wc ⟨rfl,hb2,hu2⟩;have HB2c:=Lib.hid hb2;have HU2c:=Lib.hid hu2;clear hb2 hu2;gi_wp2_with fail
  have hsz:=HU.out.size;have hvs:=HVS.out;have hbx:=HBx.out;have hpx:=hPX.out;have hgx:=hGX.out;have hko:KeepsOthers Wb Wc:=⟨HU2c.out.size,fun i o hi ho=>by
   by_cases e:i=w6.heap.size
   ·subst e;rw [hbP.out] at hi;cases hi;cases ho
   ·exact (HU2c.out.block i (Array.getElem?_eq_some_iff.1 hi).1 e).trans hi⟩
  refine ⟨hko,⟨HU2c.out.block Bx (by omega) (by omega),HU2c.out.block (Bx+1) (by omega) (by omega)⟩,?_,HU2c.out.heap HGW.out (by omega),HU.out.trans HU2c.out⟩;rw [List.length_append,List.length_cons,List.length_nil,HSN.out];exact HB2c.out
 case done=>
  clear hBx;intro D xs Wd hD hS h hk;obtain ⟨hb,hg,hu⟩:=h;obtain rfl:xs=List.range nb:=hS;rw [List.length_range] at hb;obtain ⟨S,hSS⟩:∃S,addAll nb start8 (padB s)=S:=⟨_,rfl⟩;rw [hSS] at hb;have HOK:Hid (S.Ok):=by show S.Ok;rw [←hSS];exact addAll_ok nb start_ok _
  obtain ⟨B,hB⟩:∃B,B=S.bytes:=⟨_,rfl⟩;have HRW:Hid (hashV0 (shaH s)=.agg (byV B).toArray):=by
   show _=_;rw [hB];unfold hashV0 shaH shaB hashC;simp only;rw [HN5.out,Nat.mul_div_cancel_left nb (by omega),hSS]
  have HBL:Hid (B.length=32):=by show _=_;rw [hB];rfl
  have HBF:Hid (∀k,k<8→(B.drop (4*k)).take 4=be4 ((l8 S).getD k 0)):=fun k hk8=>by
   rw [hB];rcases (by omega:k=0∨k=1∨k=2∨k=3∨k=4∨k=5∨k=6∨k=7) with rfl | rfl | rfl | rfl | rfl | rfl | rfl | rfl<;>rfl
  have s0:(w.alloc (.cells (byV zeroB32).toArray 36)).heap.size=w.heap.size+1:=World.size_alloc _ _;have hU1:Upd noBlk (w.alloc (.cells (byV zeroB32).toArray 36)) X:=by
   have l2:=HB2.out.low;have l3:=HB3.out.low;have l4:=HB4.out.low;exact (((((((((Upd.refl noBlk (w.alloc (.cells (byV zeroB32).toArray 36))).trans HUW.out).alloc _).then HU2.out (fun i hi e=>by omega)).then HU3.out (fun i hi e=>by omega)).alloc _).then HU4.out (fun i hi e=>by omega)).alloc _).then HU5.out (fun i hi e=>by omega)).trans HU6.out |>.trans HX2.out
  have hlow:w.heap.size<w6.heap.size:=by
   have l5:=HB5.out.low;have h1:=HL5.out;have h2:=HU6.out.size;omega
  have hZX:X.heap[w.heap.size]?=some (.cells (byV zeroB32).toArray 36 (0,0)):=hU1.heap (heap_alloc_new w _) id;have hpx:=hPX.out;have hbx:=HBx.out;have hvs:=HVS.out;have hVW:V.heap[w.heap.size]?=some (.cells (byV zeroB32).toArray 36 (0,0)):=by rw [HV.out];exact heap_alloc_keep _ (heap_alloc_keep _ hZX)
  have HZW:Hid (Wd.heap[w.heap.size]?=some (.cells (byV zeroB32).toArray 36 (0,0))):=hu.heap hVW (by omega);have HUV:Upd noBlk w V:=by rw [HV.out];exact ((hUX.out).alloc _).alloc _
  have HUD:Hid (Upd noBlk w Wd):=HUV.then hu (fun i hi e=>by omega);have HBD:=Lib.hid hb;have HKD:=Lib.hid hk;have HWD:Hid (w.heap.size<Wd.heap.size):=by have:=hu.size;show _<_;omega
  have HDD:Hid (w.heap.size<D):=by show _<_;omega
  have HLW:=Lib.hid hlow
  (try clear hb);(try clear hk);(try clear hu);(try clear hS);(try clear hg);(try clear hSS);(try clear hB);(try clear s0);(try clear hU1);(try clear hlow);(try clear hZX);(try clear hpx);(try clear hbx);(try clear hvs);(try clear hVW);(try clear HUV);(try clear HX1);(try clear HL8);(try clear HC);(try clear HBx);(try clear HV);(try clear HVS);(try clear HN5);(try clear HNB);(try clear HB5);(try clear HL5);(try clear HU6);(try clear HX2);(try clear HB4);(try clear HU4);(try clear HU5);(try clear HB3);(try clear HU3);(try clear HB2);(try clear HU2);(try clear HUW);(try clear HCV);(try clear hT);(try clear hUX);(try clear hPX);(try clear hGX)
  have HR8:=Lib.hid (range_of_row ((Upd.refl noBlk Wd).alloc (.cells (byV zeroB32).toArray 36) |>.heap HBD.out id));have HI8:Hid ((Tryz.prog.info? 82).map (·.size)=some (rowW (l8 S) 8).toList.length):=by show _=_;rw [Array.length_toList,rowW_size];kernel_rfl
  obtain ⟨M,hM⟩:∃M,M=Wd.heap.size:=⟨_,rfl⟩;have HMN:Hid (w.heap.size<M∧M≠D∧w6.heap.size≠M):=by
   have h1:=lt_of_heap HKD.out;have h2:=lt_of_heap HBD.out;have h3:=HWD.out;show _∧_∧_;omega
  have HF0:Hid ((Wd.alloc (.cells (byV zeroB32).toArray 36)).heap[M]?=some (.cells (byV (fillB B 0)).toArray 36 (0,0))):=by
   show _=_;rw [hM,fillB_zero,HBL.out];exact heap_alloc_new Wd _
  have HZY:=Lib.hid (heap_alloc_keep (.cells (byV zeroB32).toArray 36) HZW.out);have HKY:=Lib.hid (heap_alloc_keep (.cells (byV zeroB32).toArray 36) HKD.out);have HUY:=Lib.hid (HUD.out.alloc (.cells (byV zeroB32).toArray 36));have HMM:=Lib.hid hM
  (try clear hVx);(try clear hVy);(try clear hD);(try clear hVs);(try clear hx0);(try clear hx1);(try clear hx2);(try clear hx3);(try clear hx4);(try clear hx5);(try clear hq1);(try clear hq1');(try clear hq63);(try clear hz1);(try clear hz1');(try clear hlen);(try clear hS2);(try clear hcap);(try clear hnb);(try clear hz8)
  refine wpAt_of (n:=5) (wpIn_wide.2 ?_);go_wp2_with (first | (refine wpList_load_mid rfl _ _ rfl w6.heap.size 0 rfl (rowW (l8 S) 8).toList _ HR8.out Tryz.underlying82 rfl HI8.out ?_))
  rw [←hM];generalize Wd.alloc (.cells (byV zeroB32).toArray 36)=Wy at *;clear hM;go_loopw [42] (fun i wx=>∃k:Nat,i=.int .i64 k∧k≤8∧wx.heap[M]?=some (.cells (byV (fillB B (4*k))).toArray 36 (0,0))∧Upd (fun j=>j=M) Wy wx) (fun i _=>8-(intOf i).toNat)
  case atStart=>exact ⟨0,rfl,by omega,HF0.out,Upd.refl _ _⟩
  case round=>
   obtain ⟨k,rfl,hk,hb,hu⟩:=hrel;have HB:=Lib.hid hb;have HU:=Lib.hid hu;clear hb hu HF0;by_cases hlt:k<8
   ·have hlt':(k:Int)<8:=by omega
    obtain ⟨x9,hx9⟩:∃x9,(l8 S).getD k 0=x9:=⟨_,rfl⟩;have hix:=rowW_get (l8 S) 8 k hlt;rw [hx9] at hix;have HXL:Hid (x9<4294967296):=by show _<_;rw [←hx9];exact l8_lt HOK.out k
    have H4:Hid ((B.drop (4*k)).take 4=be4 x9):=by show _=_;rw [HBF.out k hlt,hx9]
    have d1:¬32=4*k:=by omega
    have d3:0≤4*(k:Int):=by omega
    have d4:4*(k:Int)≤32:=by omega
    have d5:(4*(k:Int)).toNat=4*k:=by omega
    have HLT:=Lib.hid hlt;have HIX:Hid (∀W:World,(Instr.index 82 (.agg (rowW (l8 S) 8)) (.int .i64 (k:Int))).run Tryz.prog W=.ok (.int .u32 (x9:Int)) W):=by
     intro W;have hl:=HLT.out;show (Instr.index 82 (.agg (rowW (l8 S) 8)) (.int .i64 (k:Int))).run Tryz.prog W=.ok (.int .u32 (x9:Int)) W;rw [←hx9];rcases (by omega:k=0∨k=1∨k=2∨k=3∨k=4∨k=5∨k=6∨k=7) with rfl | rfl | rfl | rfl | rfl | rfl | rfl | rfl<;>kernel_rfl
    clear hix;have HSL:Hid (∀W:World,(Instr.sliceAt 36 (.pointer (some ⟨M,0,none⟩)) (some (.int .i64 (4*(k:Int)))) none none).run Tryz.prog W=.ok (.slice (some ⟨M,4*k,none⟩) (32-4*k) (32-4*k)) W):=by
     intro W;have hl:=HLT.out;show (Instr.sliceAt 36 (.pointer (some ⟨M,0,none⟩)) (some (.int .i64 (4*(k:Int)))) none none).run Tryz.prog W=.ok (.slice (some ⟨M,4*k,none⟩) (32-4*k) (32-4*k)) W;rcases (by omega:k=0∨k=1∨k=2∨k=3∨k=4∨k=5∨k=6∨k=7) with rfl | rfl | rfl | rfl | rfl | rfl | rfl | rfl<;>kernel_rfl
    have hw4:IntKind.i64.wrap (4*(k:Int))=4*(k:Int):=by rw [IntKind.wrap_i64];omega
    obtain ⟨dl,hdl⟩:∃dl,dl=32-4*k:=⟨_,rfl⟩;have HDL:=Lib.hid hdl;clear hdl hx9 hlt;go_upto_region 13 with (refine wpList_value (o:=⟨some 45,_,_,_,_,_⟩) (.int .u32 (x9:Int)) rfl ?hv ?_;(case hv=>exact exec_index_agg 82 (.tmp 41) (.tmp 42) rfl (by go_simp) (by go_simp) (HIX.out _)))
    have HUd:Hid (Upd noBlk wr wr.drew):=(Upd.refl noBlk wr).drew;refine Code.wp_mono (Q:=noPan _) (fun e a w h=>noPan_out h) ?_;refine wp_region_tree 5 (OT.sures [0,3,1,2] (.run 4 .nil)) (fun w'=>Upd noBlk wr w') (by kernel_rfl) (by kernel_rfl) (fun c a d v w h=>h) HUd.out ?_;simp only [OT.sures]
    iterate 3 (apply wpT_sure rfl rfl;focus (intro w' hw';go_simp;rfl))
    refine wpT_sure rfl rfl (.slice (some ⟨M,4*k,none⟩) dl dl) (fun w' hw'=>?_) ?_
    focus (have e1:=HDL.out;have e2:=HSL.out w';go_simp)
    generalize wr.drew=wd at *;refine wpT_run (fun w'=>Upd noBlk wr w') (fun _ h=>h) rfl (fun K' hK=>?_);go_simp
    refine (bytes_any x9 HXL.out wd).mono ?_;rintro e wb ⟨rfl,hwb⟩;refine hK _ _ ⟨by rw [hwb];exact HUd.out.alloc _,?_⟩;clear hK K';refine wpT_nil ?_;have hMb:wb.heap[M]?=some (.cells (byV (fillB B (4*k))).toArray 36 (0,0)):=by
     rw [hwb];exact heap_alloc_keep _ (HUd.out.heap HB.out id)
    have hfl:(fillB B (4*k)).length=32:=by rw [fillB_len B _ (by rw [HBL.out];have:=HLT.out;omega)];exact HBL.out
    have hcp:=run_copy_row (P:=Tryz.prog) wb 48 48 3 5 M (4*k) dl dl ⟨wd.heap.size,0,none⟩ 4 4 (byV (fillB B (4*k))).toArray 36 (byV (be4 x9)) Tryz.underlying48 info_u8G hMb (by rw [byV_len];have h1:=HDL.out;have h2:=HLT.out;show 4=min 4 dl;omega)
     (by rw [hwb];exact news_be4 (be4 x9)) (by have h2:=HLT.out;simp [byV,hfl,be4_len];omega) (byV_one _)
    have hrow:((byV (fillB B (4*k))).toArray.toList.take (4*k)++byV (be4 x9)++(byV (fillB B (4*k))).toArray.toList.drop (4*k+(byV (be4 x9)).length))=byV (fillB B (4*(k+1))):=by
     have h3:=fill4B B (4*k) (by rw [HBL.out];have:=HLT.out;omega);rw [H4.out] at h3;rw [show 4*(k+1)=4*k+4 by omega,←h3];simp [byV,be4_len,List.map_take,List.map_drop]
    rw [hrow] at hcp;have HCP:=Lib.hid hcp;have HMz:=Lib.hid (setRow_heap wb M _ (byV (fillB B (4*(k+1)))).toArray 36 (0,0) hMb);have hUz:Upd (fun j=>j=M) wb (wb.setRow M (byV (fillB B (4*(k+1)))).toArray):=⟨rfl,rfl,rfl,by simp [World.setRow],fun j _ hj=>setRow_other wb M j _ hj⟩;have HUz:Hid (Upd (fun j=>j=M) Wy (wb.setRow M (byV (fillB B (4*(k+1)))).toArray)):=HU.out.trans (((HUd.out.mono (fun _ _ h=>h.elim)).trans (by rw [hwb];exact (Upd.refl _ wd).alloc _)).trans hUz);clear hcp hrow hMb hfl hUz hwb HSL HIX;generalize wb.setRow M (byV (fillB B (4*(k+1)))).toArray=wz at *;have hcp2:=HCP.out;go_wp2_with fail
    (try simp only [noPan,Exit.inBlock,Exit.then])
    go_wp2_with fail
    refine ⟨⟨k+1,by push_cast;rfl,HLT.out,HMz.out,HUz.out⟩,by simp only [intOf];have:=HLT.out;omega⟩
   ·obtain rfl:k=8:=by omega
    have HB8:Hid (wr.heap[M]?=some (.cells (byV B).toArray 36 (0,0))):=by
     have:=HB.out;rw [show 4*8=B.length by rw [HBL.out],fillB_end] at this;exact this
    have hl32:(byV B).length=32:=by rw [byV_len,HBL.out]
    have HZr:=Lib.hid (HU.out.heap HZY.out (by have:=HMN.out;omega));have HKr:=Lib.hid (HU.out.heap HKY.out (by have:=HMN.out;omega));have HUr:Hid (Upd noBlk w wr):=HUY.out.then HU.out (fun i hi e=>by have:=HMM.out;have:=HUD.out.size;omega);obtain ⟨Z,hst4,hz1,hz2⟩:=store_row (P:=Tryz.prog) HZr.out (vs:=byV B) (by rw [hl32];simp [byV,zeroB32]) (byV_one B);have HRA:Hid (wr.rangeAt M 0 (byV B)):=fun j u hu=>by
     rw [Nat.zero_add,cell_of_row _ _ j _ 36 (0,0) HB8.out];simpa using hu
    have HI:Hid ((Tryz.prog.info? 36).map (·.size)=some (byV B).length):=by show _=_;rw [hl32];kernel_rfl
    have HZ1:=Lib.hid hz1;have HZ2:Hid (Upd noBlk w Z):=HUr.out.then hz2 (fun i hi e=>by omega);have HKZ:=Lib.hid (hz2.heap HKr.out (by have:=HDD.out;omega));clear hz1 hz2;go_wp2_with (first | (refine wpList_load_mid rfl _ _ rfl M 0 rfl (byV B) _ HRA.out Tryz.underlying36 rfl HI.out ?_))
    (try simp only [Exit.inBlock,Exit.then])
    refine ⟨by simp,.inl ⟨_,_,rfl,run_takeDeferred HKZ.out,?_⟩⟩;have hb5:(Z.putObj D (.deferred none)).heap[w.heap.size]?=some (.cells (byV B).toArray 36 (0,0)):=by
     rw [World.putObj_heap_other (by have:=HDD.out;omega)];exact HZ1.out
    refine ⟨_,results_cell_row rfl _ _ w.heap.size 36 _ (0,0) _ rfl hb5 Tryz.underlying36 rfl (by have:=HI.out;simpa using this),?_,?_⟩
    ·rw [HRW.out]
    ·exact HZ2.out.then (upd_putObj0 Z D _) (fun i hi e=>by have:=HDD.out;omega)
 case stop=>exact fun _ _ _ _ _ _ h _=>h.elim
 case panic=>
  intro D chain W hD h;exact h.elim
end Go.Proofs.YtmgklblglpplcaaGreatDoor
