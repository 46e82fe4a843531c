/- Walks of the reference's writer: carried, NewWriter. -/
import Derived.Test.YtadfolnhomongaaDoorWalkR3
namespace Go.Proofs.YtadfolnhomongaaDoor
open Go Go.RowKit Pc
set_option maxRecDepth 100000

def intV (d : Nat) : Value := .int .i64 d
theorem intV_one (l : List Nat) : ∀ u ∈ l.map intV, u.oneCell' = true := by
  intro u hu
  obtain ⟨d, _, rfl⟩ := List.mem_map.1 hu
  rfl
theorem info_int : (Tryd.prog.info? 3).map (fun i => (i.zero, i.size, i.bytes)) = some (some (.int .i64 0), 1, 8) := by kernel_rfl

/-- carried's loop with the digits below k left to do. -/
structure CarI (ds : List Nat) (base g cap : Nat) (w wr : World) (k : Nat) : Prop where
  le : k ≤ ds.length
  own : wr.ownsRow base 3 1 (.slice (some ⟨g, 0, none⟩) ds.length cap) ds.length ((carried ds k).map intV)
  fr : w.grownBy wr (some g)
  spec : carry ds = carry (ds.take k) ++ List.replicate (ds.length - k) 0
theorem carried_setI {ds : List Nat} {j : Nat} (hj : j < ds.length) (v : Nat) :
    (((carried ds (j + 1)).map intV).set j (intV v)) = (ds.take j ++ v :: List.replicate (ds.length - (j + 1)) 0).map intV := by
  unfold carried
  rw [take_snoc hj, ← List.map_set]
  congr 1
  have hl : (ds.take j).length = j := by simp; omega
  rw [List.append_assoc, List.set_append_right _ _ (by omega), hl]
  simp
theorem CarI.cell {ds : List Nat} {base g cap : Nat} {w wr : World} {j : Nat} (h : CarI ds base g cap w wr (j + 1)) :
    ∃ hj : j < ds.length, wr.cell? ⟨g, j, none⟩ = some (.int .i64 ds[j]) := by
  have hj := h.le
  refine ⟨hj, ?_⟩
  rw [h.own.cellAt j (by omega)]
  unfold carried
  have hj' : j < ds.length := hj
  rw [take_snoc hj', List.append_assoc, List.map_append, List.getElem?_append_right (by simp; omega)]
  simp [intV, Nat.min_eq_left (Nat.le_of_lt hj')]
theorem CarI.go {ds : List Nat} {base g cap : Nat} {w wr : World} {j : Nat} (h : CarI ds base g cap w wr (j + 1)) (hj : j < ds.length) (he : ds[j] = 255) :
    CarI ds base g cap w (wr.setCell ⟨g, j, none⟩ (.int .i64 0)) j := by
  have hs := h.own.stored j (intV 0)
  rw [carried_setI hj] at hs
  refine ⟨by omega, ?_, grownBy_trans h.fr hs.2, ?_⟩
  · have e : ds.take j ++ 0 :: List.replicate (ds.length - (j + 1)) 0 = carried ds j := by
      unfold carried
      rw [show ds.length - j = (ds.length - (j + 1)) + 1 from by omega, List.replicate_succ]
    rw [← e]
    exact hs.1
  · rw [h.spec, take_snoc hj, he, carry_snoc_255, List.append_assoc, show ds.length - j = (ds.length - (j + 1)) + 1 from by omega, List.replicate_succ]
    rfl
theorem CarI.stop {ds : List Nat} {base g cap : Nat} {w wr : World} {j : Nat} (h : CarI ds base g cap w wr (j + 1)) (hj : j < ds.length) (he : ds[j] ≠ 255) :
    (wr.setCell ⟨g, j, none⟩ (.int .i64 (((ds[j] : Nat) : Int) + 1))).ownsRow base 3 1 (.slice (some ⟨g, 0, none⟩) ds.length cap) ds.length ((carry ds).map intV) ∧
      w.grownBy (wr.setCell ⟨g, j, none⟩ (.int .i64 (((ds[j] : Nat) : Int) + 1))) (some g) := by
  have hs := h.own.stored j (intV (ds[j] + 1))
  rw [carried_setI hj] at hs
  refine ⟨?_, grownBy_trans h.fr hs.2⟩
  rw [h.spec, take_snoc hj, carry_snoc_ne _ he, List.append_assoc]
  exact hs.1
theorem CarI.start {ds : List Nat} {base g cap : Nat} {w : World}
    (hown : w.ownsRow base 3 1 (.slice (some ⟨g, 0, none⟩) ds.length cap) ds.length (ds.map intV)) : CarI ds base g cap w w ds.length :=
  ⟨Nat.le_refl _, by simpa [carried] using hown, ⟨rfl, rfl, rfl, Nat.le_refl _, fun _ _ _ => rfl⟩, by simp⟩

set_option maxHeartbeats 1000000 in
theorem carried_any (base : Nat) (v : Value) (ds : List Nat) (hds : ∀ d, d ∈ ds → d < 256) (hlen : ds.length ≤ 1000000) (w : World) (hown : w.ownsRow base 3 1 v ds.length (ds.map intV)) :
    Calls Tryd.prog 51 #[v] w fun e w' => ∃ v', e = .returned v' ∧ w'.ownsRow w.heap.size 3 1 v' ds.length ((carry ds).map intV) ∧ Upd noBlk w w' := by
  obtain ⟨i0, hi0, hz0, hz1, hz2⟩ := info_parts info_int
  have m1 : Hid (0 + ds.length ≤ maxLen) := by show _ ≤ _; unfold maxLen; omega
  have b1 : Hid ((0 + ds.length) * 8 ≤ 140737488355328) := by show _ ≤ _; omega
  have o0 : (w.alloc (.cells #[] 3)).ownsRow w.heap.size 3 1 (.slice (some ⟨w.heap.size, 0, none⟩) 0 0) 0 [] := World.ownsRow_lit w #[] 0 (Nat.le_refl _) (by unfold maxLen; omega) (by simp)
  obtain ⟨v1, w1, r1, o1, g1, hb1⟩ := append_src (w.alloc (.cells #[] 3)) 29 29 3 i0 _ 1 8 Tryd.underlying29 hi0 hz0 hz1 hz2 rfl (by omega) o0 (by simp) (hown.alloc _) (intV_one _) m1.out b1.out
  rw [Nat.zero_add, List.nil_append] at o1
  have U1 : Hid (Upd noBlk w w1) := by
    refine (((Upd.refl noBlk w).alloc _).then (upd_of_grown g1 (F := fun k => some k = some w.heap.size) (fun k hk _ => ?_)) (fun i hi h => ?_))
    · simp only [Value.ownBlock, Option.some.injEq] at hk; rw [hk]
    · simp only [Option.some.injEq] at h; omega
  have R1 := Lib.hid r1
  clear r1 m1 b1 o0 g1 hb1 hown
  have hlb : ((ds.length : Nat) : Int) ≤ 1000000 := by omega
  rcases o1.2 with ⟨rfl, h0⟩ | ⟨g, cap, cur, rfl, hg, hh, _⟩
  · have hd : ds = [] := List.eq_nil_of_length_eq_zero h0
    subst hd
    have O1 := Lib.hid o1
    clear o1 hlb
    go_enter Tryd.func51, Tryd.ntmps51
    go_wp2_with (at_builtin; refine wpList_append_run rfl _ _ _ rfl rfl rfl R1.out ?_)
    refine wp_loop_once ?_
    go_wp2
    go_ret
    exact ⟨_, rfl, O1.out, U1.out⟩
  · have hst := CarI.start o1
    have hgn : Hid (w.heap.size ≤ g) := hg
    clear o1 hh hg
    have fin : Hid (∀ wr, w1.grownBy wr (some g) → Upd noBlk w wr) := fun wr hr => U1.out.then (upd_of_grown hr (F := fun k => k = g) (fun k hk _ => by simpa using hk.symm)) (fun i hi h => by have := hgn.out; omega)
    go_enter Tryd.func51, Tryd.ntmps51
    go_wp2_with (at_builtin; refine wpList_append_run rfl _ _ _ rfl rfl rfl R1.out ?_)
    go_loopw [4] (fun i wr => ∃ k : Nat, i = .int .i64 ((k : Int) - 1) ∧ CarI ds w.heap.size g cap w1 wr k) (fun i _ => (intOf i + 1).toNat)
    case atStart => exact ⟨_, rfl, hst⟩
    case round =>
      obtain ⟨k, rfl, hk⟩ := hrel
      rcases k with _ | j
      · have h1 : decide (((0 : Nat) : Int) - 1 ≥ 0) = false := by decide
        have h2 := hk.own
        have h3 := Lib.hid (fin.out _ hk.fr)
        have h4 : carry ds = carried ds 0 := by rw [hk.spec]; rfl
        rw [← h4] at h2
        have H2 := Lib.hid h2
        clear hk h4 h2
        go_wp2
        go_ret
        exact ⟨_, rfl, H2.out, h3.out⟩
      · obtain ⟨hj, hc⟩ := hk.cell
        have hf := hk.own.frozenAt j
        have e1 : (((j + 1 : Nat) : Int) - 1) = (j : Int) := by omega
        rw [e1]
        have hd : ((ds[j] : Nat) : Int) < 256 := by have := hds ds[j] (List.getElem_mem hj); omega
        by_cases he : ds[j] = 255
        · have e2 : (((ds[j] : Nat) : Int) == 255) = true := by rw [beq_iff_eq]; omega
          have hgo := Lib.hid (hk.go hj he)
          clear he hk hst e1
          go_wp2
          go_roundw
          case rel => exact ⟨j, rfl, hgo.out⟩
          case measure => simp [intOf] <;> omega
        · have e2 : (((ds[j] : Nat) : Int) == 255) = false := by rw [beq_eq_false_iff_ne]; omega
          have hgo := Lib.hid (hk.stop hj he)
          clear he hk hst e1
          go_wp2
          go_ret
          exact ⟨_, rfl, hgo.out.1, fin.out _ hgo.out.2⟩
end Go.Proofs.YtadfolnhomongaaDoor
