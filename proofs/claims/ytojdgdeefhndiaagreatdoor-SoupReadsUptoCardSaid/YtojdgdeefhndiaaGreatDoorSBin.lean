/- Walks of the program of the polygon files: reader.number. -/
import Derived.Test.YtojdgdeefhndiaaGreatDoorSCorner
namespace Go.Proofs.YtojdgdeefhndiaaGreatDoor
open Go Go.RowKit Sp
set_option maxRecDepth 100000
set_option maxHeartbeats 1000000

theorem number_short (s : Bytes) (p n most : Nat) (e : Int) (B t : Nat) (hs : s.length ≤ 4294967296) (hp : p ≤ s.length) (hn : n ≤ 8) (hc : ¬ p + n ≤ s.length) (w : World)
    (c0 : w.cell? ⟨B, 0, none⟩ = some (.string (bs s))) (c1 : w.cell? ⟨B, 1, none⟩ = some (.int .i64 p)) :
    Calls Tryz.prog 46 #[.pointer (some ⟨B, 0, none⟩), .int .i64 n, .int .i64 most, .int .i64 e] w fun en w' => en = .panicked (fail s.length 12) ∧ Upd noBlk w w' := by
  have c1' : decide (((p : Nat) : Int) + n ≤ ((s.length : Nat) : Int)) = false := by simp; omega
  have hb : (bs s).size = s.length := bs_size s
  go_enter Tryz.func46, Tryz.ntmps46
  go_wp2_with fail
  refine wp_region_tree 14 (OT.sures [0, 1, 2, 3, 4, 5, 6, 7, 8, 9, 10, 11, 12, 13] .nil) (fun w' => w'.cell? ⟨B, 0, none⟩ = some (.string (bs s))) (by kernel_rfl) (by kernel_rfl) (fun c a d v w h => by cases d <;> exact h) c0 ?_
  simp only [OT.sures]
  iterate 14 (first | (apply wpT_sure rfl rfl; focus (intro w' hw'; have g1 := hw'; go_simp; rfl)) | (refine wpT_sureG rfl (by go_simp) _ (fun w' hw' => by have g1 := hw'; go_simp; rfl) ?_))
  refine wpT_nil ?_
  go_wp2_with fail
  rw [c1']
  refine (check_bad _ _ _).mono ?_
  rintro e w2 ⟨rfl, rfl⟩
  exact ⟨rfl, rfl, (Upd.refl _ _).drew⟩
end Go.Proofs.YtojdgdeefhndiaaGreatDoor
