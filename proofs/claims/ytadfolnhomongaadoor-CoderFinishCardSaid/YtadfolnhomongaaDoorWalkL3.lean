/- Walks of the law's helpers: contexts, values. -/
import Derived.Test.YtadfolnhomongaaDoorWalkL2
namespace Go.Proofs.YtadfolnhomongaaDoor
open Go Go.RowKit Pc
set_option maxRecDepth 100000

theorem oneCell_all {α : Type} (f : α → Value) (h : ∀ a, (f a).oneCell' = true) (l : List α) : ∀ u ∈ l.map f, u.oneCell' = true := by
  intro u hu
  obtain ⟨a, _, rfl⟩ := List.mem_map.1 hu
  exact h a

/-- A loop that appends one value a round, behind k rounds. -/
structure RowAt (w wr : World) (T : TypeId) (xs : List Value) (k : Nat) (v : Value) : Prop where
  own : wr.ownsRow w.heap.size T 1 v k (xs.take k)
  up : Upd noBlk w wr

theorem RowAt.start (w : World) (T : TypeId) (xs : List Value) : RowAt w w T xs 0 (.slice none 0 0) := ⟨World.ownsRow_nil _ _ _ _, Upd.refl _ _⟩

/-- One more. -/
theorem RowAt.more {w wr : World} {T : TypeId} {xs : List Value} {k : Nat} {v : Value} (h : RowAt w wr T xs k v) (t ty : TypeId) (i : TypeInfo) (z : Value) (bytes : Nat) (ht : Tryd.prog.underlying t = some (.slice T)) (hi : Tryd.prog.info? T = some i) (hz : i.zero = some z)
    (hsize : i.size = 1) (hby : i.bytes = bytes) (hzs : z.cells.size = 1) (hk : k < xs.length) (h1 : xs[k].oneCell' = true) (h63 : k + 1 ≤ maxLen) (hbytes : (k + 1) * bytes ≤ 140737488355328) :
    ∃ g cap w', (Builtin.append_ #[t, t] ty #[v, .slice (some ⟨wr.heap.size, 0, none⟩) 1 1]).run Tryd.prog (wr.alloc (.cells #[xs[k]] T)) = .ok (.slice (some ⟨g, 0, none⟩) (k + 1) cap) w' ∧ RowAt w w' T xs (k + 1) (.slice (some ⟨g, 0, none⟩) (k + 1) cap) := by
  obtain ⟨gg, cp, w3, r3, o3, g3, hat, hlt3⟩ := append_one wr t ty T i z 1 bytes ht hi hz hsize hby hzs (by omega) h.own h.up.size [xs[k]] rfl (by simpa using h1) h63 hbytes
  have hown := h.own.lt
  refine ⟨gg, cp, w3, r3, by rw [take_snoc hk]; exact o3, ?_⟩
  refine h.up.then ((upd_of_grown (World.grownBy_alloc wr _ v.ownBlock) (F := inRow v) (fun k hk _ => hk)).trans (upd_of_grown g3 (fun k hk _ => hk))) (fun j hj hj' => ?_)
  have := (hown j hj').1; omega

set_option maxHeartbeats 1000000 in
theorem contexts_v (v : Value) (l : List (Int × Bool)) (w : World) (h : RdBits w v l) (hlen : l.length ≤ 100000) :
    Calls Tryd.prog 19 #[v] w fun e w' => ∃ r, e = .returned r ∧ RdInts w' r (l.map (·.1)) ∧ Upd noBlk w w' := by
  obtain ⟨i0, hi0, hz0, hz1, hz2⟩ := info_parts info_int
  rcases h with ⟨x, rfl, rfl⟩ | ⟨b, off, cap, rfl, hc⟩
  · go_enter Tryd.func19, Tryd.ntmps19
    go_wp2
    refine wp_loop_once ?_
    go_wp2
    go_ret
    exact ⟨_, rfl, .inl ⟨none, rfl, rfl⟩, Upd.refl _ _⟩
  · go_enter Tryd.func19, Tryd.ntmps19
    go_wp2
    go_loopw [3, 4] (fun v i wr => ∃ k : Nat, i = .int .i64 k ∧ k ≤ l.length ∧ RowAt w wr 3 (l.map fun y => .int .i64 y.1) k v) (fun _ i _ => l.length - (intOf i).toNat)
    case atStart => exact ⟨0, rfl, Nat.zero_le _, RowAt.start _ _ _⟩
    case round =>
      obtain ⟨k, rfl, hk, hd⟩ := hrel
      have HD := Lib.hid hd
      have HC := Lib.hid hc
      have hkb : ((k : Nat) : Int) ≤ 100000 := by omega
      have m2 : Hid (k + 1 ≤ maxLen) := by show _ ≤ _; unfold maxLen; omega
      have b1 : Hid ((k + 1) * 8 ≤ 140737488355328) := by show _ ≤ _; omega
      clear hd hc hlen
      by_cases hlt : k < l.length
      · have c0 : wr.cell? ⟨b, off + k * 2, none⟩ = some (.int .i64 l[k].1) := HD.out.up.cell (HC.out _ _ (bitV_get hlt).1) id
        obtain ⟨gg, cp, w3, r3, hn⟩ := HD.out.more 29 29 i0 _ 8 Tryd.underlying29 hi0 hz0 hz1 hz2 rfl (by simpa using hlt) (by simp [Value.oneCell']) m2.out b1.out
        have HN := Lib.hid hn
        simp only [List.getElem_map] at r3
        have R3 := Lib.hid r3
        clear r3 hn HC
        go_wp2_with (at_builtin; refine wpList_append_run rfl _ _ _ rfl rfl rfl R3.out ?_)
        go_roundw
        case rel => exact ⟨k + 1, by go_num, hlt, HN.out⟩
        case measure => simp [intOf]; omega
      · have hkk : k = l.length := by omega
        have O := HD.out.own
        rw [hkk, List.take_of_length_le (by simp)] at O
        have O' := Lib.hid O
        clear O
        go_wp2
        go_ret
        exact ⟨_, rfl, RdInts.own (by simpa [Function.comp_def] using O'.out), HD.out.up⟩

set_option maxHeartbeats 1000000 in
theorem values_v (v : Value) (l : List (Int × Bool)) (w : World) (h : RdBits w v l) (hlen : l.length ≤ 100000) :
    Calls Tryd.prog 20 #[v] w fun e w' => ∃ r, e = .returned r ∧ RdBools w' r (l.map (·.2)) ∧ Upd noBlk w w' := by
  obtain ⟨i0, hi0, hz0, hz1, hz2⟩ := info_parts info_bool
  rcases h with ⟨x, rfl, rfl⟩ | ⟨b, off, cap, rfl, hc⟩
  · go_enter Tryd.func20, Tryd.ntmps20
    go_wp2
    refine wp_loop_once ?_
    go_wp2
    go_ret
    exact ⟨_, rfl, .inl ⟨rfl, rfl⟩, Upd.refl _ _⟩
  · go_enter Tryd.func20, Tryd.ntmps20
    go_wp2
    go_loopw [3, 4] (fun v i wr => ∃ k : Nat, i = .int .i64 k ∧ k ≤ l.length ∧ RowAt w wr 4 (l.map fun y => .bool y.2) k v) (fun _ i _ => l.length - (intOf i).toNat)
    case atStart => exact ⟨0, rfl, Nat.zero_le _, RowAt.start _ _ _⟩
    case round =>
      obtain ⟨k, rfl, hk, hd⟩ := hrel
      have HD := Lib.hid hd
      have HC := Lib.hid hc
      have hkb : ((k : Nat) : Int) ≤ 100000 := by omega
      have m2 : Hid (k + 1 ≤ maxLen) := by show _ ≤ _; unfold maxLen; omega
      have b1 : Hid ((k + 1) * 1 ≤ 140737488355328) := by show _ ≤ _; omega
      clear hd hc hlen
      by_cases hlt : k < l.length
      · have c0 : wr.cell? ⟨b, off + k * 2 + 1, none⟩ = some (.bool l[k].2) := HD.out.up.cell (HC.out _ _ ((bitV_get hlt).2)) id
        obtain ⟨gg, cp, w3, r3, hn⟩ := HD.out.more 27 27 i0 _ 1 Tryd.underlying27 hi0 hz0 hz1 hz2 rfl (by simpa using hlt) (by simp [Value.oneCell']) m2.out b1.out
        have HN := Lib.hid hn
        simp only [List.getElem_map] at r3
        have R3 := Lib.hid r3
        clear r3 hn HC
        go_wp2_with (at_builtin; refine wpList_append_run rfl _ _ _ rfl rfl rfl R3.out ?_)
        go_roundw
        case rel => exact ⟨k + 1, by go_num, hlt, HN.out⟩
        case measure => simp [intOf]; omega
      · have hkk : k = l.length := by omega
        have O := HD.out.own
        rw [hkk, List.take_of_length_le (by simp)] at O
        have O' := Lib.hid O
        clear O
        go_wp2
        go_ret
        exact ⟨_, rfl, RdBools.own (by simpa [Function.comp_def] using O'.out), HD.out.up⟩
end Go.Proofs.YtadfolnhomongaaDoor
