/- Walks of the laws: CoderFinish, joined. -/
import Derived.Test.YtadfolnhomongaaDoorLawG
namespace Go.Proofs.YtadfolnhomongaaDoor
open Go Go.RowKit Pc
set_option maxRecDepth 100000

set_option maxHeartbeats 1000000 in
theorem lawFinish_nil (x : Option Addr) (when : Int) (w : World) :
    Calls Tryd.prog 8 #[.slice x 0 0, .int .u64 when] w fun e w' => e = .returned (.bool true) ∧ Upd noBlk w w' := by
  go_enter Tryd.func8, Tryd.ntmps8
  go_wp2_with (first | (go_at_call 14; refine (sanity_any _).mono ?_; rintro e w1 ⟨rfl, u1⟩) | (go_at_call 23; refine (NewWriter_any _).mono ?_; rintro e w2 ⟨rfl, rfl⟩))
  refine wp_loop_once ?_
  go_wp2_with fail
  refine wp_region_tree 10 (OT.sures [0, 1, 2, 4, 5, 6] (.run 3 (.run 7 (.sure 8 (.sure 9 .nil))))) (fun _ => True) (by kernel_rfl) (by kernel_rfl) (fun c a d v w h => by cases d <;> exact h) trivial ?_
  simp only [OT.sures]
  iterate 2 (refine wpT_sure rfl rfl _ (fun w' _ => by go_simp; rfl) ?_)
  iterate 4 (refine wpT_sureG rfl rfl _ (fun w' _ => by go_simp; rfl) ?_)
  have hcall : Calls Tryd.prog 25 #[.pointer (some ⟨w1.heap.size, 0, none⟩)] (w1.alloc (.cells wZero 73)).drew fun en w' => en = .returned (.string (str (encode []))) ∧ Upd noBlk (w1.alloc (.cells wZero 73)).drew w' := WFinish_any w1.heap.size E.init _ (w1.alloc (.cells wZero 73)).drew ((NewWriter_rep w1).upd (Upd.refl noBlk _).drew (fun _ _ => id)) (by decide)
  refine wpT_run (fun _ => True) (fun _ _ => trivial) rfl (fun K hK => ?_)
  go_simp
  refine hcall.mono ?_
  rintro e w3 ⟨rfl, u3⟩
  refine hK _ _ ⟨trivial, ?_⟩
  clear hK K hcall
  have U3 : Hid (Upd noBlk w w3) := (u1.trans (((Upd.refl noBlk w1).alloc _).drew)).trans u3
  refine wpT_run (fun _ => True) (fun _ _ => trivial) rfl (fun K hK => ?_)
  go_simp
  refine (Encode_v _ [] _ (.inl ⟨_, rfl, rfl⟩) (by decide)).mono ?_
  rintro e w4 ⟨rfl, u4⟩
  refine hK _ _ ⟨trivial, ?_⟩
  clear hK K
  have U4 : Hid (Upd noBlk w w4) := U3.out.trans u4
  refine wpT_sureG rfl rfl _ (fun w' _ => by go_simp; rfl) ?_
  refine wpT_sure rfl rfl _ (fun w' _ => by go_simp; rfl) ?_
  refine wpT_nil ?_
  go_wp2
  go_ret
  exact ⟨rfl, U4.out⟩

theorem lawFinish (v : Value) (l : List (Int × Bool)) (when : Int) (w : World) (h : ArgBits w v l) (hw : (Lit.int .u64 when).wf = true) :
    Calls Tryd.prog 8 #[v, .int .u64 when] w fun e w' => e = .returned (.bool true) ∧ Upd noBlk w w' := by
  simp [Lit.wf, IntKind.min, IntKind.max, IntKind.signed, IntKind.bits] at hw
  rcases h with ⟨x, rfl, rfl⟩ | ⟨b, off, cap, rfl, h1, h2, h3⟩
  · exact lawFinish_nil x when w
  · unfold maxLen at h2
    by_cases hn : 120 < l.length
    · exact lawFinish_a b off l.length cap l when w (by omega) (by omega) rfl (by omega) h3 (by omega) (by omega)
    · exact lawFinish_b b off l.length cap l when w (by omega) (by omega) rfl (by omega) h3 (by omega) (by omega)
end Go.Proofs.YtadfolnhomongaaDoor
