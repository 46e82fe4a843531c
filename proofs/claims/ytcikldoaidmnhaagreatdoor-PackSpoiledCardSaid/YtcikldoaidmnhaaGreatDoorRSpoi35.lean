/- Parts: Walks of the program's mesh: directed. No condition. Walks of the reference of packets: hashes that numbers determine. No condition. Walks of the reference of packets: parts that numbers determine. No condition. -/
import Derived.Test.YtcikldoaidmnhaaGreatDoorRSpoi1
import Derived.Test.YtcikldoaidmnhaaGreatDoorRSpoi2
import Derived.Test.YtcikldoaidmnhaaGreatDoorRSpoi3
import Derived.Test.YtcikldoaidmnhaaGreatDoorRSpoi4
import Derived.Test.YtcikldoaidmnhaaGreatDoorRSpoi5
import Derived.Test.YtcikldoaidmnhaaGreatDoorRSpoi6
import Derived.Test.YtcikldoaidmnhaaGreatDoorRSpoi7
import Derived.Test.YtcikldoaidmnhaaGreatDoorRSpoi8
import Derived.Test.YtcikldoaidmnhaaGreatDoorRSpoi9
import Derived.Test.YtcikldoaidmnhaaGreatDoorRSpoi10
import Derived.Test.YtcikldoaidmnhaaGreatDoorRSpoi11
import Derived.Test.YtcikldoaidmnhaaGreatDoorRSpoi12
import Derived.Test.YtcikldoaidmnhaaGreatDoorRSpoi14
import Derived.Test.YtcikldoaidmnhaaGreatDoorRSpoi17
import Derived.Test.YtcikldoaidmnhaaGreatDoorRSpoi18
import Derived.Test.YtcikldoaidmnhaaGreatDoorRSpoi19
import Derived.Test.YtcikldoaidmnhaaGreatDoorRSpoi20
import Derived.Test.YtcikldoaidmnhaaGreatDoorRSpoi25
import Derived.Test.YtcikldoaidmnhaaGreatDoorRSpoi31
import Derived.Test.YtcikldoaidmnhaaGreatDoorRSpoi32
import Derived.WalkKit
import Derived.WalkSpells
import Derived.WalkLawsBesides
import Derived.Lib.Hide
import Derived.BigQuiet
import Derived.Deep.DeepFit
import Derived.Deep.DeepCutAuto
import Derived.Deep.AppendLies
import Derived.Deep.QuietTactic
import Derived.Test.YtcikldoaidmnhaaGreatDoorRows
import Derived.Deep.RegionHeld3
import Derived.StillTail
import Derived.Maps.OwnOps
import Derived.Maps.OwnSet
import Derived.Maps.RangeWalk
import Derived.WideKeyEntry
import Derived.Deep.MidRow
import Derived.Lib.Bits
import Derived.Laws.EntriesVeiled
import Derived.Handy
import Derived.DeepKeys4
import Derived.ArgAppend
import Derived.Deep.Upon
import Derived.Deep.CutBlock
import Derived.Test.YtcikldoaidmnhaaGreatDoorShelf2
import Derived.Laws.BitsAllLaws
import Derived.Laws.BytesArg
import Derived.Deep.WholeRow
import Derived.Test.YtcikldoaidmnhaaGreatDoorShelf
import Derived.Lib.Zigzag
import Derived.Recover
import Derived.Laws.IdiomStrings
namespace Go.Proofs.YtcikldoaidmnhaaGreatDoor
open Go Go.RowKit Pk
set_option maxRecDepth 100000
def hashB (n:Int) (k:Nat):Int:=wrap64 (n+(wrap64 ((k:Int)*n)).tmod 7) % 256
def hashTo (n:Int) (k:Nat):Array Value:=((List.range 32).map (fun j=>Value.int .u8 (if j<k then hashB n j else 0))).toArray
theorem hashTo_get (n:Int) (k j:Nat) (h:j<32):(hashTo n k)[j]?=some (.int .u8 (if j<k then hashB n j else 0)):=by
 simp [hashTo,h]
theorem hashTo_succ (n:Int) (k:Nat):(hashTo n k).setIfInBounds k (.int .u8 (hashB n k))=hashTo n (k+1):=by
 apply Array.ext_getElem?;intro j;rw [Array.getElem?_setIfInBounds];by_cases h:j<32
 ·rw [hashTo_get n k j h,hashTo_get n (k+1) j h];by_cases e:k=j
  ·subst e;rw [if_pos rfl,if_pos (by simpa [hashTo] using h),if_pos (by omega)]
  ·rw [if_neg e];by_cases h2:j<k
   ·rw [if_pos h2,if_pos (by omega)]
   ·rw [if_neg h2,if_neg (by omega)]
 ·have h1:∀q,(hashTo n q)[j]?=none:=fun q=>by simp [hashTo];omega
  rw [h1,h1];by_cases e:k=j
  ·subst e;rw [if_pos rfl,if_neg (by simpa [hashTo] using h)]
  ·rw [if_neg e]
set_option maxHeartbeats 1000000 in
theorem jhash_any (n:Int) (w:World):Calls Tryz.prog 72 #[.int .i64 n] w fun en w'=>en=.returned (.agg (hashTo n 32))∧Upd noBlk w w':=by
 go_enter Tryz.func72,Tryz.ntmps72
 have hrep:(Array.replicate 32 (Value.int .u8 0))=#[.int .u8 0,.int .u8 0,.int .u8 0,.int .u8 0,.int .u8 0,.int .u8 0,.int .u8 0,.int .u8 0,.int .u8 0,.int .u8 0,.int .u8 0,.int .u8 0,.int .u8 0,.int .u8 0,.int .u8 0,.int .u8 0,.int .u8 0,.int .u8 0,.int .u8 0,.int .u8 0,.int .u8 0,.int .u8 0,.int .u8 0,.int .u8 0,.int .u8 0,.int .u8 0,.int .u8 0,.int .u8 0,.int .u8 0,.int .u8 0,.int .u8 0,.int .u8 0]:=rfl;have b0:Hid (((w.alloc (.cells (Array.replicate 32 (.int .u8 0)) 81)).alloc (.cells (Array.replicate 32 (.int .u8 0)) 81)).heap[w.heap.size]?=some (.cells (Array.replicate 32 (.int .u8 0)) 81 (0,0))):=((Upd.refl noBlk _).alloc _).heap (heap_alloc_new w _) id;have b1:Hid (((w.alloc (.cells (Array.replicate 32 (.int .u8 0)) 81)).alloc (.cells (Array.replicate 32 (.int .u8 0)) 81)).heap[w.heap.size+1]?=some (.cells (hashTo n 0) 81 (0,0))):=by
  have h:=heap_alloc_new (w.alloc (.cells (Array.replicate 32 (.int .u8 0)) 81)) (.cells (Array.replicate 32 (.int .u8 0)) 81);rw [show (w.alloc (.cells (Array.replicate 32 (.int .u8 0)) 81)).heap.size=w.heap.size+1 from Array.size_push ..] at h;exact h
 have HU0:Hid (Upd noBlk w ((w.alloc (.cells (Array.replicate 32 (.int .u8 0)) 81)).alloc (.cells (Array.replicate 32 (.int .u8 0)) 81))):=((Upd.refl noBlk w).alloc _).alloc _;rw [hrep] at b0 b1 HU0;go_wp2_with fail
 generalize (w.alloc _).alloc _=w1 at *;obtain ⟨N,hN⟩:∃N,N=w.heap.size:=⟨_,rfl⟩;rw [←hN] at b0 b1 ⊢;have HWN:Hid (w.heap.size≤N):=by show _≤_;omega
 clear hN;go_loopw [4] (fun i wr=>∃k:Nat,i=.int .i64 k∧k≤32∧wr.heap[N+1]?=some (.cells (hashTo n k) 81 (0,0))∧Upd (fun b=>b=N+1) w1 wr) (fun i _=>32-(intOf i).toNat)
 case atStart=>exact ⟨0,rfl,by omega,b1.out,Upd.refl _ _⟩
 case round=>
  obtain ⟨k,rfl,hk,hb,hu⟩:=hrel;have HB:=Lib.hid hb;have HU:=Lib.hid hu;clear hb hu;by_cases hlt:k<32
  ·have hlt':(k:Int)<32:=by omega
   have hc:wr.cell? ⟨N+1,k,none⟩=some (.int .u8 0):=by
    rw [cell_of_row _ _ k _ 81 (0,0) HB.out,hashTo_get n k k hlt,if_neg (by omega)]
   have hf:wr.frozen? ⟨N+1,k,none⟩=false:=by simp [World.frozen?,HB.out]
   go_wp2_with fail
   have hs:=heap_setCell_eq (i:=k) (.int .u8 (hashB n k)) HB.out;rw [hashTo_succ] at hs;exact ⟨⟨k+1,by push_cast;rfl,hlt,hs,HU.out.setCell (p:=⟨N+1,k,none⟩) (fun _=>rfl) _⟩,by simp only [intOf];omega⟩
  ·obtain rfl:k=32:=by omega
   have HB0:=Lib.hid (HU.out.heap b0.out (by omega));have hl32:(hashTo n 32).size=32:=by simp [hashTo]
   have h1:∀v∈(hashTo n 32).toList,v.oneCell'=true:=by
    intro v hv;simp [hashTo] at hv;obtain ⟨j,_,rfl⟩:=hv;rfl
   obtain ⟨X,hst,hx1,hx2⟩:=store_row (P:=Tryz.prog) HB0.out (vs:=(hashTo n 32).toList) (by simp [hashTo]) h1;have HRA:Hid (wr.rangeAt (N+1) 0 (hashTo n 32).toList):=fun j v hv=>by
    rw [Nat.zero_add,cell_of_row _ _ j _ 81 (0,0) HB.out];simpa using hv
   have HI:Hid ((Tryz.prog.info? 81).map (·.size)=some (hashTo n 32).toList.length):=by show _=_;rw [show (hashTo n 32).toList.length=32 by simp [hashTo]];kernel_rfl
   have hlen:(hashTo n 32).toList.length=32:=by simp [hashTo]
   go_wp2_with (first | (refine wpList_load_mid rfl _ _ rfl (N+1) 0 rfl (hashTo n 32).toList _ HRA.out Tryz.underlying81 rfl HI.out ?_))
   (try simp only [Exit.inBlock,Exit.then])
   refine bodyPost_ret (results_cell_row rfl _ _ N 81 _ (0,0) _ rfl hx1 Tryz.underlying81 rfl (by have:=HI.out;simpa using this)) rfl ?_;refine ⟨rfl,?_⟩;have h1:=upd_newE HU0.out (HU.out) (by have:=HWN.out;omega);exact upd_newE h1 hx2 HWN.out
def hashV (n:Int):H32:=⟨(List.range 32).map (fun k=>UInt8.ofNat (hashB n k).toNat),by simp⟩
theorem hashTo_V (n:Int):hashTo n 32=(hashC (hashV n)).toArray:=by
 unfold hashTo hashC hashV byV;congr 1
 rw [List.map_map];apply List.map_congr_left;intro j hj;have hj:=List.mem_range.1 hj;rw [if_pos hj];simp only [Function.comp_apply];congr 1
 have h1:0≤hashB n j:=Int.emod_nonneg _ (by decide);have h2:hashB n j<256:=Int.emod_lt_of_pos _ (by decide);rw [u8_small (by omega)];omega
theorem jhash_V (n:Int) (w:World):Calls Tryz.prog 72 #[.int .i64 n] w fun en w'=>en=.returned (.agg (hashC (hashV n)).toArray)∧Upd noBlk w w':=by
 rw [←hashTo_V];exact jhash_any n w
end Go.Proofs.YtcikldoaidmnhaaGreatDoor
namespace Go.Proofs.YtcikldoaidmnhaaGreatDoor
open Go Go.RowKit Pk
set_option maxRecDepth 100000
def partOf (n:Int):P32:=(hashV n,hashV (IntKind.i64.wrap (n.tdiv 256)))
set_option maxHeartbeats 2000000 in
theorem jParts_any (v:Value) (l:List Int) (w:World) (hlen:l.length≤9223372036854775807) (h:kInt.Rd w v l):Calls Tryz.prog 24 #[v] w fun en w'=>∃v,en=.returned v∧kPart.Own w.heap.size w' v ((l.take 10).map partOf)∧Upd noBlk w w':=by
 obtain ⟨A,cap,rfl,hcap,hx⟩:=h;have HX:=Lib.hid hx;have hl':(l.length:Int)≤9223372036854775807:=by omega
 have HJ:=fun n W=>Lib.hid (jhash_V n W);clear hx hlen;go_enter Tryz.func24,Tryz.ntmps24
 go_wp2_with fail
 go_loopw [3,4] (fun o i wr=>∃k:Nat,i=.int .i64 k∧k≤l.length∧k≤10∧kPart.Own w.heap.size wr o ((l.take k).map partOf)∧Upd noBlk w wr) (fun _ i _=>l.length-(intOf i).toNat)
 case atStart=>exact ⟨0,rfl,Nat.zero_le _,by omega,Kd.Own.nil _ _ _,Upd.refl _ _⟩
 case round=>
  obtain ⟨k,rfl,hk,hk10,ho,hu⟩:=hrel;have HO:=Lib.hid ho;have HU:=Lib.hid hu;clear ho hu;by_cases hlt:k<l.length
  ·have hlt':(k:Int)<(l.length:Int):=by omega
   by_cases hlt10:k<10
   ·have hlt10':(k:Int)<10:=by omega
    obtain ⟨b,off,rfl,f1⟩:=HX.out (by omega);have hat:=f1 k hlt;have hk1:kInt.k=1:=rfl;rw [hk1,Nat.mul_one] at hat;have HAT:Hid (∀W,Upd noBlk w W→W.cell? ⟨b,off+k,none⟩=some (.int .i64 l[k])):=fun W hW=>by
     have h0:=hW.cell (hat 0 _ rfl) id;exact h0
    have HTK:Hid ((l.take (k+1)).map partOf=(l.take k).map partOf++[partOf l[k]]):=by
     show _=_;rw [List.take_succ_eq_append_getElem hlt,List.map_append];rfl
    have HLN:Hid (((l.take k).map partOf).length=k):=by show _=_;rw [List.length_map,List.length_take];omega
    clear f1 hat hk1 HX;generalize l[k]=n at *;have HB1:=HJ n;have HB2:=HJ (IntKind.i64.wrap (n.tdiv 256));clear HJ;go_wp2_with fail
    refine wp_region_tree 15 (OT.sures [0,1,2,6,7,3,8,4,9,10] (.run 5 (.run 11 (OT.sures [12] (.run 13 (.run 14 .nil)))))) (fun w'=>Upd noBlk w w') (by kernel_rfl) (by kernel_rfl) (fun c a d v w h=>by cases d<;>exact h) (HU.out.drew) ?_
    simp only [OT.sures]
    iterate 10 (apply wpT_sure rfl rfl;focus (intro w' hw';have c1:=HAT.out w' hw';go_simp;rfl))
    refine wpT_run (fun w'=>Upd noBlk w w') (fun _ h=>h) rfl (fun K' hK=>?_);go_simp
    refine (HB1 _).out.mono ?_;rintro e wz ⟨rfl,uz⟩;have UZ:=Lib.hid ((Upd.refl noBlk wr).drew.trans uz);refine hK _ _ ⟨HU.out.trans UZ.out,?_⟩;clear hK K' uz HB1;refine wpT_run (fun w'=>Upd noBlk w w') (fun _ h=>h) rfl (fun K' hK=>?_);go_simp
    refine (HB2 _).out.mono ?_;rintro e wy ⟨rfl,uy⟩;have UY:=Lib.hid (UZ.out.trans uy);refine hK _ _ ⟨HU.out.trans UY.out,?_⟩;clear hK K' uy HB2 UZ;apply wpT_sure rfl rfl
    focus (intro w' hw';exact exec_build_part (hashV n) (hashV (IntKind.i64.wrap (n.tdiv 256))) w' (.tmp 20) (.tmp 26) rfl (by go_simp) (by go_simp))
    refine wpT_run (fun w'=>Upd noBlk w w') (fun _ h=>h) rfl (fun K' hK=>?_);refine if_wanted (by go_simp) ?_;have HSZ:Hid ((sizeOf 83).run Tryz.prog wy=.ok 64 wy):=by show _=_;kernel_rfl
    have HZ:Hid ((zeroValue 83).run Tryz.prog wy=.ok (.agg (Array.replicate 64 (.int .u8 0))) wy):=by show _=_;kernel_rfl
    refine wp_val _ _ (exec_build1 wy (.tmp 27) (partC (partOf n)) Tryz.underlying47 HSZ.out HZ.out (by decide) (by decide) (partC_len _) rfl (by go_simp;rfl)) ?_;refine hK _ _ ⟨(HU.out.trans UY.out).alloc _,?_⟩;clear hK K' HSZ HZ;have HUW:=Lib.hid (HU.out.trans UY.out);have HOW:=Lib.hid (HO.out.upd UY.out);obtain ⟨g,cap3,w3,r3,o3,v3,_⟩:=HOW.out.app1 HUW.out.size (partOf n) (by rw [HLN.out];omega);rw [HLN.out] at r3 o3;rw [←HTK.out] at o3;have R3:=Lib.hid r3;have O3:=Lib.hid o3;have HU3:=Lib.hid (HUW.out.then v3 (fun i hi e=>absurd hi (by have:=(HOW.out.blk e).1;omega)));clear r3 o3 v3 HUW;refine wpT_run (fun w'=>Upd noBlk w w') (fun _ h=>h) rfl (fun K' hK=>?_);refine if_wanted (by go_simp) ?_;refine wp_append_run (.tmp 15) (.tmp 28) _ rfl (by go_simp) (by go_simp) R3.out ?_;refine hK _ _ ⟨HU3.out,?_⟩;clear hK K';refine wpT_nil ?_;go_wp2_with fail
    exact ⟨⟨k+1,by push_cast;rfl,hlt,hlt10,O3.out,HU3.out⟩,by simp only [intOf];omega⟩
   ·obtain rfl:k=10:=by omega
    go_wp2_with fail
    go_ret
    exact ⟨_,rfl,HO.out,HU.out⟩
  ·obtain rfl:k=l.length:=by omega
   have HTK:Hid (l.take 10=l.take l.length):=by
    show _=_;rw [List.take_length,List.take_of_length_le hk10]
   go_wp2_with fail
   go_ret
   exact ⟨_,rfl,by rw [HTK.out];exact HO.out,HU.out⟩
end Go.Proofs.YtcikldoaidmnhaaGreatDoor
namespace Go.Proofs.YtcikldoaidmnhaaGreatDoor
open Go Go.RowKit Pk
set_option maxRecDepth 100000
theorem edgesL_snoc (l:List Tri) (t:Tri):edgesL (l++[t])=edgesL l++edgesT t:=by unfold edgesL;rw [List.flatMap_append];simp
theorem nodup_snoc (E:List Ed) (e:Ed):decide (E++[e]).Nodup=(decide E.Nodup&&!decide (e∈E)):=by
 rw [Bool.eq_iff_iff,decide_eq_true_eq,Bool.and_eq_true,decide_eq_true_eq,Bool.not_eq_true',decide_eq_false_iff_not,List.nodup_append];constructor
 ·rintro ⟨h1,_,h3⟩;exact ⟨h1,fun h=>h3 e h e (by simp) rfl⟩
 ·rintro ⟨h1,h2⟩;exact ⟨h1,by simp,fun a ha b hb hab=>by simp at hb;subst hb;subst hab;exact h2 ha⟩
set_option maxHeartbeats 4000000 in
theorem mDirected_any (v:Value) (l:List Tri) (hn:l.length≤100000) (hok:∀t,t∈l→okT t) (w:World) (h:kTri.Rd w v l) :
  Calls Tryz.prog 158 #[v] w fun en w'=>en=.returned (.tuple #[.map (some w.heap.size),.bool (decide (edgesL l).Nodup)])∧kitSet.At w' w.heap.size (3*l.length) (setF (edgesL l))∧Upd noBlk w w':=by
 have hr:=fun t W=>Lib.hid (mEdges_any t W);have ha:=fun n E e he hn W h=>Lib.hid (mAdd_any w.heap.size n E e he hn W h);obtain ⟨A,cap,rfl,hcap,hx⟩:=h;have HX:=Lib.hid hx;have HOK:=Lib.hid hok;have hn':(l.length:Int)≤100000:=by omega
 have hmm:=@run_makeMap Tryz.prog;have HM0:Hid (kitSet.At (w.alloc (.map #[] 0)) w.heap.size 0 (setF (edgesL (l.take 0)))):=MapKit.At.made kitSet w;have HU0:Hid (Upd noBlk w (w.alloc (.map #[] 0))):=(Upd.refl _ _).alloc _;clear hx hok;go_enter Tryz.func158,Tryz.ntmps158
 go_wp2_with fail
 go_loopw [5,13] (fun fv i wr=>∃k:Nat,i=.int .i64 k∧k≤l.length∧fv=.bool (decide (edgesL (l.take k)).Nodup)∧kitSet.At wr w.heap.size (3*k) (setF (edgesL (l.take k)))∧Upd noBlk w wr) (fun _ i _=>l.length-(intOf i).toNat)
 case atStart=>exact ⟨0,rfl,Nat.zero_le _,rfl,HM0.out,HU0.out⟩
 case round=>
  obtain ⟨k,rfl,hk,rfl,hm,hu⟩:=hrel;have HM:=Lib.hid hm;have HU:=Lib.hid hu;clear hm hu hmm;by_cases hlt:k<l.length
  ·have hlt':(k:Int)<(l.length:Int):=by omega
   obtain ⟨b,off,rfl,f1⟩:=HX.out (by omega);obtain ⟨g0,g1,g2,g3,g4,g5,g6,g7,g8⟩:=triAt9 ((f1 k hlt).keep HU.out);have hk9:kTri.k=9:=rfl;rw [hk9] at g0 g1 g2 g3 g4 g5 g6 g7 g8;have HT:Hid (edgesL (l.take (k+1))=edgesL (l.take k)++edgesT l[k]):=by show _=_;rw [List.take_succ_eq_append_getElem hlt,edgesL_snoc]
   have HKT:=Lib.hid (HOK.out l[k] (List.getElem_mem hlt));clear f1 hk9;have hrt:=hr l[k];generalize l[k]=tk at *;obtain ⟨⟨a0,a1,a2⟩,⟨a3,a4,a5⟩,⟨a6,a7,a8⟩⟩:=tk;simp only at g0 g1 g2 g3 g4 g5 g6 g7 g8;obtain ⟨E,hE⟩:∃E,E=edgesL (l.take k):=⟨_,rfl⟩;rw [←hE] at HM HT;rw [←hE];have hET:edgesT ((a0,a1,a2),(a3,a4,a5),a6,a7,a8)=[((a0,a1,a2),(a3,a4,a5)),((a3,a4,a5),(a6,a7,a8)),((a6,a7,a8),(a0,a1,a2))]:=rfl;rw [hET] at HT;clear hE hET;have ix0:∀W:World,(Instr.index 259 (.agg (edges3C ((a0,a1,a2),(a3,a4,a5),a6,a7,a8))) (.int .i64 0)).run Tryz.prog W=.ok (edV ((a0,a1,a2),(a3,a4,a5))) W:=fun W=>by kernel_rfl
   have ix1:∀W:World,(Instr.index 259 (.agg (edges3C ((a0,a1,a2),(a3,a4,a5),a6,a7,a8))) (.int .i64 1)).run Tryz.prog W=.ok (edV ((a3,a4,a5),(a6,a7,a8))) W:=fun W=>by kernel_rfl
   have ix2:∀W:World,(Instr.index 259 (.agg (edges3C ((a0,a1,a2),(a3,a4,a5),a6,a7,a8))) (.int .i64 2)).run Tryz.prog W=.ok (edV ((a6,a7,a8),(a0,a1,a2))) W:=fun W=>by kernel_rfl
   unfold edV at ix0 ix1 ix2;go_wp2_with fail
   refine (hrt _).out.mono ?_;rintro e w2 ⟨rfl,u2⟩;have V2:=Lib.hid (((Upd.refl noBlk wr).alloc (.cells #[.int .i64 a0,.int .i64 a1,.int .i64 a2,.int .i64 a3,.int .i64 a4,.int .i64 a5,.int .i64 a6,.int .i64 a7,.int .i64 a8] 45)).trans u2.up);have U2:=Lib.hid (HU.out.trans V2.out);have M2:Hid (kitSet.At w2 w.heap.size (3*k+0) (setF (E++([((a0,a1,a2),(a3,a4,a5)),((a3,a4,a5),(a6,a7,a8)),((a6,a7,a8),(a0,a1,a2))]:List Ed).take 0))):=by
    have:=HM.out.keep V2.out;rw [List.take_zero,List.append_nil];exact this
   clear u2;go_wp2_with fail
   go_loopw [5,19] (fun fv i wi=>∃j:Nat,i=.int .i64 j∧j≤3∧fv=.bool (decide (E++([((a0,a1,a2),(a3,a4,a5)),((a3,a4,a5),(a6,a7,a8)),((a6,a7,a8),(a0,a1,a2))]:List Ed).take j).Nodup)∧kitSet.At wi w.heap.size (3*k+j) (setF (E++([((a0,a1,a2),(a3,a4,a5)),((a3,a4,a5),(a6,a7,a8)),((a6,a7,a8),(a0,a1,a2))]:List Ed).take j))∧Upd noBlk w wi) (fun _ i _=>3-(intOf i).toNat)
   case atStart=>exact ⟨0,rfl,Nat.zero_le _,by rw [List.take_zero,List.append_nil],M2.out,U2.out⟩
   case round=>
    obtain ⟨j,rfl,hj,hfv,hmj,huj⟩:=hrel;clear M2 U2 V2;by_cases hj3:j<3
    ·rcases (by omega:j=0∨j=1∨j=2) with rfl | rfl | rfl
     ·have HO3:Hid (okE ((a0,a1,a2),(a3,a4,a5))):=by have:=HKT.out;exact ⟨this.1,this.2.1⟩
      have HMJ:Hid (kitSet.At wr w.heap.size (3*k+0) (setF (E++[]))):=hmj;have HA:Hid (∀W,Upd noBlk wr W→Calls Tryz.prog 179 #[.map (some w.heap.size),edV ((a0,a1,a2),(a3,a4,a5))] W fun en w'=>en=.returned (.bool (!decide (((a0,a1,a2),(a3,a4,a5))∈E++[])))∧kitSet.At w' w.heap.size (3*k+0+1) (setF (E++[]++[((a0,a1,a2),(a3,a4,a5))]))∧Upd (fun j=>j=w.heap.size) W w'):=fun W hW=>(ha (3*k+0) (E++[]) ((a0,a1,a2),(a3,a4,a5)) HO3.out (by omega) W (HMJ.out.keep hW)).out;have HND:=Lib.hid (nodup_snoc (E++[]) ((a0,a1,a2),(a3,a4,a5)));have happ:E++[]++[((a0,a1,a2),(a3,a4,a5))]=E++[((a0,a1,a2),(a3,a4,a5))]:=by simp
      rw [happ] at HA HND;have HUJ:=Lib.hid huj;clear hmj huj happ hrt HM;obtain ⟨F,hF⟩:∃F,F=decide (E++[]:List Ed).Nodup:=⟨_,rfl⟩;rw [←hF] at HND;obtain rfl:u5=.bool F:=by rw [hF];exact hfv
      clear hF hfv;unfold edV at HA;have ixj:=ix0;clear ix0 ix1 ix2;go_wp2_with fail
      refine (HA.out _ ((Upd.refl noBlk wr).alloc _)).mono ?_;rintro e w5 ⟨rfl,m5,v5⟩;have M5:=Lib.hid m5;have U5:=Lib.hid ((HUJ.out.alloc (.cells #[.int .i64 a0,.int .i64 a1,.int .i64 a2,.int .i64 a3,.int .i64 a4,.int .i64 a5] 258)).then v5 (fun i hi e=>by have e':i=w.heap.size:=e;omega));clear m5 v5 HA;rcases hd:decide (((a0,a1,a2),(a3,a4,a5))∈E++[]) with _ | _
      ·rw [hd] at HND;go_wp2_with fail
       refine ⟨⟨1,rfl,by omega,?_,M5.out,U5.out⟩,by simp [intOf]⟩;show _=Value.bool (decide (E++[((a0,a1,a2),(a3,a4,a5))]:List Ed).Nodup);rw [HND.out];simp
      ·rw [hd] at HND;go_wp2_with fail
       refine ⟨⟨1,rfl,by omega,?_,M5.out,U5.out⟩,by simp [intOf]⟩;show _=Value.bool (decide (E++[((a0,a1,a2),(a3,a4,a5))]:List Ed).Nodup);rw [HND.out];simp
     ·have HO3:Hid (okE ((a3,a4,a5),(a6,a7,a8))):=by have:=HKT.out;exact ⟨this.2.1,this.2.2⟩
      have HMJ:Hid (kitSet.At wr w.heap.size (3*k+1) (setF (E++[((a0,a1,a2),(a3,a4,a5))]))):=hmj;have HA:Hid (∀W,Upd noBlk wr W→Calls Tryz.prog 179 #[.map (some w.heap.size),edV ((a3,a4,a5),(a6,a7,a8))] W fun en w'=>en=.returned (.bool (!decide (((a3,a4,a5),(a6,a7,a8))∈E++[((a0,a1,a2),(a3,a4,a5))])))∧kitSet.At w' w.heap.size (3*k+1+1) (setF (E++[((a0,a1,a2),(a3,a4,a5))]++[((a3,a4,a5),(a6,a7,a8))]))∧Upd (fun j=>j=w.heap.size) W w'):=fun W hW=>(ha (3*k+1) (E++[((a0,a1,a2),(a3,a4,a5))]) ((a3,a4,a5),(a6,a7,a8)) HO3.out (by omega) W (HMJ.out.keep hW)).out;have HND:=Lib.hid (nodup_snoc (E++[((a0,a1,a2),(a3,a4,a5))]) ((a3,a4,a5),(a6,a7,a8)));have happ:E++[((a0,a1,a2),(a3,a4,a5))]++[((a3,a4,a5),(a6,a7,a8))]=E++[((a0,a1,a2),(a3,a4,a5)),((a3,a4,a5),(a6,a7,a8))]:=by simp
      rw [happ] at HA HND;have HUJ:=Lib.hid huj;clear hmj huj happ hrt HM;obtain ⟨F,hF⟩:∃F,F=decide (E++[((a0,a1,a2),(a3,a4,a5))]:List Ed).Nodup:=⟨_,rfl⟩;rw [←hF] at HND;obtain rfl:u5=.bool F:=by rw [hF];exact hfv
      clear hF hfv;unfold edV at HA;have ixj:=ix1;clear ix0 ix1 ix2;go_wp2_with fail
      refine (HA.out _ ((Upd.refl noBlk wr).alloc _)).mono ?_;rintro e w5 ⟨rfl,m5,v5⟩;have M5:=Lib.hid m5;have U5:=Lib.hid ((HUJ.out.alloc (.cells #[.int .i64 a3,.int .i64 a4,.int .i64 a5,.int .i64 a6,.int .i64 a7,.int .i64 a8] 258)).then v5 (fun i hi e=>by have e':i=w.heap.size:=e;omega));clear m5 v5 HA;rcases hd:decide (((a3,a4,a5),(a6,a7,a8))∈E++[((a0,a1,a2),(a3,a4,a5))]) with _ | _
      ·rw [hd] at HND;go_wp2_with fail
       refine ⟨⟨2,rfl,by omega,?_,M5.out,U5.out⟩,by simp [intOf]⟩;show _=Value.bool (decide (E++[((a0,a1,a2),(a3,a4,a5)),((a3,a4,a5),(a6,a7,a8))]:List Ed).Nodup);rw [HND.out];simp
      ·rw [hd] at HND;go_wp2_with fail
       refine ⟨⟨2,rfl,by omega,?_,M5.out,U5.out⟩,by simp [intOf]⟩;show _=Value.bool (decide (E++[((a0,a1,a2),(a3,a4,a5)),((a3,a4,a5),(a6,a7,a8))]:List Ed).Nodup);rw [HND.out];simp
     ·have HO3:Hid (okE ((a6,a7,a8),(a0,a1,a2))):=by have:=HKT.out;exact ⟨this.2.2,this.1⟩
      have HMJ:Hid (kitSet.At wr w.heap.size (3*k+2) (setF (E++[((a0,a1,a2),(a3,a4,a5)),((a3,a4,a5),(a6,a7,a8))]))):=hmj;have HA:Hid (∀W,Upd noBlk wr W→Calls Tryz.prog 179 #[.map (some w.heap.size),edV ((a6,a7,a8),(a0,a1,a2))] W fun en w'=>en=.returned (.bool (!decide (((a6,a7,a8),(a0,a1,a2))∈E++[((a0,a1,a2),(a3,a4,a5)),((a3,a4,a5),(a6,a7,a8))])))∧kitSet.At w' w.heap.size (3*k+2+1) (setF (E++[((a0,a1,a2),(a3,a4,a5)),((a3,a4,a5),(a6,a7,a8))]++[((a6,a7,a8),(a0,a1,a2))]))∧Upd (fun j=>j=w.heap.size) W w'):=fun W hW=>(ha (3*k+2) (E++[((a0,a1,a2),(a3,a4,a5)),((a3,a4,a5),(a6,a7,a8))]) ((a6,a7,a8),(a0,a1,a2)) HO3.out (by omega) W (HMJ.out.keep hW)).out;have HND:=Lib.hid (nodup_snoc (E++[((a0,a1,a2),(a3,a4,a5)),((a3,a4,a5),(a6,a7,a8))]) ((a6,a7,a8),(a0,a1,a2)));have happ:E++[((a0,a1,a2),(a3,a4,a5)),((a3,a4,a5),(a6,a7,a8))]++[((a6,a7,a8),(a0,a1,a2))]=E++[((a0,a1,a2),(a3,a4,a5)),((a3,a4,a5),(a6,a7,a8)),((a6,a7,a8),(a0,a1,a2))]:=by simp
      rw [happ] at HA HND;have HUJ:=Lib.hid huj;clear hmj huj happ hrt HM;obtain ⟨F,hF⟩:∃F,F=decide (E++[((a0,a1,a2),(a3,a4,a5)),((a3,a4,a5),(a6,a7,a8))]:List Ed).Nodup:=⟨_,rfl⟩;rw [←hF] at HND;obtain rfl:u5=.bool F:=by rw [hF];exact hfv
      clear hF hfv;unfold edV at HA;have ixj:=ix2;clear ix0 ix1 ix2;go_wp2_with fail
      refine (HA.out _ ((Upd.refl noBlk wr).alloc _)).mono ?_;rintro e w5 ⟨rfl,m5,v5⟩;have M5:=Lib.hid m5;have U5:=Lib.hid ((HUJ.out.alloc (.cells #[.int .i64 a6,.int .i64 a7,.int .i64 a8,.int .i64 a0,.int .i64 a1,.int .i64 a2] 258)).then v5 (fun i hi e=>by have e':i=w.heap.size:=e;omega));clear m5 v5 HA;rcases hd:decide (((a6,a7,a8),(a0,a1,a2))∈E++[((a0,a1,a2),(a3,a4,a5)),((a3,a4,a5),(a6,a7,a8))]) with _ | _
      ·rw [hd] at HND;go_wp2_with fail
       refine ⟨⟨3,rfl,by omega,?_,M5.out,U5.out⟩,by simp [intOf]⟩;show _=Value.bool (decide (E++[((a0,a1,a2),(a3,a4,a5)),((a3,a4,a5),(a6,a7,a8)),((a6,a7,a8),(a0,a1,a2))]:List Ed).Nodup);rw [HND.out];simp
      ·rw [hd] at HND;go_wp2_with fail
       refine ⟨⟨3,rfl,by omega,?_,M5.out,U5.out⟩,by simp [intOf]⟩;show _=Value.bool (decide (E++[((a0,a1,a2),(a3,a4,a5)),((a3,a4,a5),(a6,a7,a8)),((a6,a7,a8),(a0,a1,a2))]:List Ed).Nodup);rw [HND.out];simp
    ·obtain rfl:j=3:=by omega
     have HMJ:Hid (kitSet.At wr w.heap.size (3*(k+1)) (setF (edgesL (l.take (k+1))))):=by rw [HT.out];exact hmj
     have HUJ:=Lib.hid huj;obtain ⟨F,hF⟩:∃F,F=decide (edgesL (l.take (k+1))).Nodup:=⟨_,rfl⟩;obtain rfl:u5=.bool F:=by rw [hF,HT.out];exact hfv
     have HFF:=Lib.hid hF;clear hmj huj hfv hF;go_wp2_with fail
     refine ⟨⟨k+1,by go_num,hlt,by rw [HFF.out],HMJ.out,HUJ.out⟩,by simp [intOf];omega⟩
  ·obtain rfl:k=l.length:=by omega
   have HM2:=HM.out;rw [List.take_length] at HM2;have HM3:=Lib.hid HM2;clear HM2;go_wp2_with fail
   go_ret2
   refine ⟨?_,HM3.out,HU.out⟩;rw [List.take_length];rfl
end Go.Proofs.YtcikldoaidmnhaaGreatDoor
