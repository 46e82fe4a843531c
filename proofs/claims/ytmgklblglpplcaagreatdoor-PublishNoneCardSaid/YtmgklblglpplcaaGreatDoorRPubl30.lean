/- Parts: Walks of the packets' program: Root. No condition. -/
import Derived.Test.YtmgklblglpplcaaGreatDoorRPubl2
import Derived.Test.YtmgklblglpplcaaGreatDoorRPubl3
import Derived.Test.YtmgklblglpplcaaGreatDoorRPubl5
import Derived.Test.YtmgklblglpplcaaGreatDoorRPubl6
import Derived.Test.YtmgklblglpplcaaGreatDoorRPubl9
import Derived.Test.YtmgklblglpplcaaGreatDoorRPubl10
import Derived.Test.YtmgklblglpplcaaGreatDoorRPubl12
import Derived.Test.YtmgklblglpplcaaGreatDoorRPubl14
import Derived.Test.YtmgklblglpplcaaGreatDoorRPubl15
import Derived.Test.YtmgklblglpplcaaGreatDoorRPubl19
import Derived.Test.YtmgklblglpplcaaGreatDoorRPubl27
import Derived.WalkKit
import Derived.WalkSpells
import Derived.WalkLawsBesides
import Derived.Lib.Hide
import Derived.BigQuiet
import Derived.Deep.DeepFit
import Derived.Deep.DeepCutAuto
import Derived.Deep.AppendLies
import Derived.Deep.QuietTactic
import Derived.Test.YtmgklblglpplcaaGreatDoorRows
import Derived.Deep.RegionHeld3
import Derived.StillTail
import Derived.Maps.OwnOps
import Derived.Maps.OwnSet
import Derived.Maps.RangeWalk
import Derived.WideKeyEntry
import Derived.Deep.MidRow
import Derived.Lib.Bits
import Derived.Laws.EntriesVeiled
import Derived.Handy
import Derived.DeepKeys4
import Derived.ArgAppend
import Derived.Deep.Upon
import Derived.Deep.CutBlock
import Derived.Test.YtmgklblglpplcaaGreatDoorShelf2
import Derived.Laws.BitsAllLaws
import Derived.Laws.BytesArg
import Derived.Deep.WholeRow
namespace Go.Proofs.YtmgklblglpplcaaGreatDoor
open Go Go.RowKit Pk
set_option maxRecDepth 100000
theorem cells1 {w:World} {b:Nat} {x0:Value} {t:TypeId} {fr:Nat × Nat} (h:w.heap[b]?=some (.cells #[x0] t fr)):w.cell? ⟨b,0,none⟩=some x0:=by simp [World.cell?,h]
theorem conv_one (x:UInt8) (bl:Nat) (W:World) (hb:W.heap[bl]?=some (.cells #[.int .u8 x.toNat] 5 (0,0))):(convert 48 9 (.slice (some ⟨bl,0,none⟩) 1 1)).run Tryz.prog W=.ok (.string (bs [x])) W:=by
 have ho:W.ownsRow 0 5 1 (.slice (some ⟨bl,0,none⟩) 1 1) 1 (byV [x]):=⟨rfl,.inr ⟨bl,1,_,rfl,Nat.zero_le _,hb,Nat.le_refl _,by unfold maxLen;omega,rfl,rfl⟩⟩;exact conv_bs rfl ho
theorem flat_parts_len (q:List P32):((q.map plainP).flatMap (fun p=>p.1++p.2)).length=q.length*64:=by
 induction q with
 | nil=>rfl
 | cons p q ih=>rw [List.map_cons,List.flatMap_cons,List.length_append,ih];simp [plainP,p.1.2,p.2.2];omega
theorem partsB_len (l:List P32) (hl:l.length≤65536):(partsB (l.map plainP)).length≤10+l.length*64:=by
 unfold partsB;rw [List.length_append,flat_parts_len,List.length_map];have:=digB_ten (n:=l.length) (by omega);omega
set_option maxHeartbeats 2000000 in
theorem Root_any (v:Value) (l:List P32) (w:World) (h:kPart.Rd w v l):Calls Tryz.prog 82 #[.agg #[v]] w fun en w'=>strR (if 65536<l.length then [] else rootB (l.map plainP)) w en w':=by
 have HPA:Hid (∀W,l.length≤65536→Upd noBlk w W→Calls Tryz.prog 115 #[v] W fun en w'=>strR (partsB (l.map plainP)) W en w'):=fun W hl hW=>parts_any v l hl W (h.keep hW);obtain ⟨A,cap,rfl,hcap,hx⟩:=h;clear hx;go_enter Tryz.func82,Tryz.ntmps82
 have HU0:Hid (Upd noBlk w (w.alloc (.cells #[.slice A l.length cap] 133))):=(Upd.refl _ w).alloc _;by_cases hl:65536<l.length
 ·have hl':(65536:Int)<(l.length:Int):=by omega
  rw [if_pos hl];clear HPA;go_wp2_with fail
  go_ret
  exact ⟨rfl,HU0.out⟩
 ·have hl':(l.length:Int)≤65536:=by omega
  rw [if_neg hl];go_wp2_with fail
  have HKB:Hid ((w.alloc (.cells #[.slice A l.length cap] 133)).heap[w.heap.size]?=some (.cells #[.slice A l.length cap] 133 (0,0))):=heap_alloc_last w _;have HFN:Hid (∀W,Upd noBlk (w.alloc (.cells #[.slice A l.length cap] 133)) W→Calls Tryz.prog 115 #[.slice A l.length cap] W fun en w'=>strR (partsB (l.map plainP)) W en w'):=fun W hW=>HPA.out W (by omega) (HU0.out.trans hW);have HSZ:Hid (¬9223372036854775807<(bs [3]).size+(bs (partsB (l.map plainP))).size):=by
   show ¬_;have:=partsB_len l (by omega);rw [bs_size,bs_size];simp only [List.length_cons,List.length_nil];omega
  have HSUM:Hid (bs [3]++bs (partsB (l.map plainP))=bs (rootB (l.map plainP))):=by show _=_;rw [bs_append];rfl
  have HCV:=Lib.hid (conv_one 3);clear hl hl' HPA;generalize w.heap.size=bb at *;generalize w.alloc (.cells #[.slice A l.length cap] 133)=wr at *;refine wp_region_tree 6 (OT.sures [2,3] (.fork 0 (.sure 1 (.run 4 (.sure 5 .nil))) 4 (.run 0 (.sure 1 (.sure 5 .nil))))) (fun w'=>Upd noBlk wr w') (by kernel_rfl) (by kernel_rfl) (fun c a d v w h=>by cases d<;>exact h) ((Upd.refl noBlk wr).drew) ?_
  simp only [OT.sures]
  iterate 2 (apply wpT_sure rfl rfl;focus (intro w' hw';have b0:=cells1 (hw'.heap HKB.out id);go_simp;rfl))
  refine wpT_fork (fun w'=>Upd noBlk wr w'∧w'.heap[wr.heap.size]?=some (.cells #[.int .u8 3] 5 (0,0))) (fun w'=>Upd noBlk wr w') (fun _ h=>h.1) (fun _ h=>h) rfl rfl (fun K' hK=>?_) (fun K' hK=>?_)
  ·go_simp
   have hal:Upd noBlk wr (wr.alloc (.cells #[.int .u8 3] 5)).drew:=((Upd.refl noBlk wr).alloc _).drew;have hbl:(wr.alloc (.cells #[.int .u8 3] 5)).drew.heap[wr.heap.size]?=some (.cells #[.int .u8 3] 5 (0,0)):=heap_alloc_new wr _;refine hK _ _ ⟨⟨hal,hbl⟩,?_⟩;clear hK K'
   (apply wpT_sure rfl rfl;focus (intro w' hw';have hc:=HCV.out wr.heap.size w' hw'.2;go_simp;rfl))
   refine wpT_run (fun w'=>Upd noBlk wr w'∧w'.heap[wr.heap.size]?=some (.cells #[.int .u8 3] 5 (0,0))) (fun _ h=>h) rfl (fun K' hK=>?_);go_simp
   refine (HFN.out _ hal).mono ?_;rintro e wz ⟨rfl,uz⟩;have UZ:=Lib.hid (HU0.out.trans (hal.trans uz));refine hK _ _ ⟨⟨hal.trans uz,uz.heap hbl id⟩,?_⟩;clear hK K' hal hbl uz
   (apply wpT_sure rfl rfl;focus (intro w' hw';have hz:=HSZ.out;go_simp;rfl))
   refine wpT_nil ?_;go_wp2_with fail
   go_ret
   exact ⟨by rw [←HSUM.out];rfl,UZ.out⟩
  ·go_simp
   have hdr:Upd noBlk wr wr.drew:=(Upd.refl noBlk wr).drew;refine (HFN.out _ hdr).mono ?_;rintro e wz ⟨rfl,uz⟩;have UZ:=Lib.hid (HU0.out.trans (hdr.trans uz));refine hK _ _ ⟨hdr.trans uz,?_⟩;have UZ2:=Lib.hid (hdr.trans uz);clear hK K' hdr uz;refine wpT_run (fun w'=>Upd noBlk wr w'∧w'.heap[wz.heap.size]?=some (.cells #[.int .u8 3] 5 (0,0))) (fun _ h=>h.1) rfl (fun K' hK=>?_);go_simp
   refine hK _ _ ⟨⟨UZ2.out.alloc _,heap_alloc_new wz _⟩,?_⟩;clear hK K'
   (apply wpT_sure rfl rfl;focus (intro w' hw';have hc:=HCV.out wz.heap.size w' hw'.2;go_simp;rfl))
   (apply wpT_sure rfl rfl;focus (intro w' hw';have hz:=HSZ.out;go_simp;rfl))
   refine wpT_nil ?_;go_wp2_with fail
   go_ret
   exact ⟨by rw [←HSUM.out];rfl,UZ.out.alloc _⟩
end Go.Proofs.YtmgklblglpplcaaGreatDoor
