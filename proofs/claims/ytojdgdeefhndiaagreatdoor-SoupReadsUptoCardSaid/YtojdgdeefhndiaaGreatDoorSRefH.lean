/- Walks of the reference of the polygon files: lines, words. -/
import Derived.Test.YtojdgdeefhndiaaGreatDoorSRefF
import Derived.Test.YtojdgdeefhndiaaGreatDoorSLinesP
import Derived.WalkSpells
namespace Go.Proofs.YtojdgdeefhndiaaGreatDoor
open Go Go.RowKit Sp
set_option maxRecDepth 100000

theorem info_s : (Tryz.prog.info? 9).map (fun i => (i.zero, i.size, i.bytes)) = some (some (.string ⟨#[]⟩), 1, 16) := by kernel_rfl
def wsV (ls : List Bytes) : List Value := ls.map (fun l => Value.string (bs l))
theorem bs_extract (s : Bytes) (a k : Nat) : (bs s).extract a k = bs ((s.drop a).take (k - a)) := by
  apply ByteArray.ext
  apply Array.ext'
  rw [data_extract, bs_data, bs_data]
theorem append_str {w0 w : World} (hup : Upd noBlk w0 w) {v : Value} {ls : List Bytes} (h : w.ownsRow w0.heap.size 9 1 v ls.length (wsV ls)) (x : Bytes) (hl : ls.length < 4294967299) :
    ∃ g cap w', (Builtin.append_ #[36, 36] 36 #[v, .slice (some ⟨w.heap.size, 0, none⟩) 1 1]).run Tryz.prog (w.alloc (.cells #[.string (bs x)] 9)) = .ok (.slice (some ⟨g, 0, none⟩) (ls.length + 1) cap) w' ∧
      w'.ownsRow w0.heap.size 9 1 (.slice (some ⟨g, 0, none⟩) (ls.length + 1) cap) (ls ++ [x]).length (wsV (ls ++ [x])) ∧ Upd noBlk w0 w' := by
  obtain ⟨i0, hi0, hz0, hz1, hz2⟩ := info_parts info_s
  obtain ⟨g, cap, w', r, o, u, _, _, _⟩ := append_item (P := Tryz.prog) (w0 := w0) (w := w) 36 36 9 i0 _ 1 16 Tryz.underlying36 hi0 hz0 hz1 hz2 rfl (by omega) hup h [.string (bs x)] rfl (by simp [Value.oneCell']) (by unfold maxLen; omega) (by omega)
  refine ⟨g, cap, w', r, ?_, u⟩
  have e : wsV (ls ++ [x]) = wsV ls ++ [.string (bs x)] := by simp [wsV]
  rw [e, List.length_append]
  exact o
/-- A slice of strings of the call's own. -/
def strsR (ls : List Bytes) (w : World) (en : Ending) (w' : World) : Prop :=
  ∃ v, en = .returned v ∧ w'.ownsRow w.heap.size 9 1 v ls.length (wsV ls) ∧ Upd noBlk w w'
set_option maxHeartbeats 1000000 in
theorem qlines_any (s : Bytes) (hs : s.length ≤ 4294967296) (w : World) : Calls Tryz.prog 40 #[.string (bs s)] w fun en w' => strsR (linesOf s) w en w' := by
  have hb : (bs s).size = s.length := bs_size s
  go_enter Tryz.func40, Tryz.ntmps40
  go_wp2_with fail
  go_loopw [3, 4, 5] (fun v av i wr => ∃ (k a : Nat) (ls : List Bytes), i = .int .i64 k ∧ av = .int .i64 a ∧ a ≤ k ∧ k ≤ s.length + 1 ∧ (k ≤ s.length → linesOf s = ls ++ linesGo ((s.drop a).take (k - a)) (s.drop k)) ∧ (k = s.length + 1 → linesOf s = ls) ∧ ls.length ≤ k ∧ wr.ownsRow w.heap.size 9 1 v ls.length (wsV ls) ∧ Upd noBlk w wr) (fun _ _ i _ => s.length + 1 - (intOf i).toNat)
  case atStart => exact ⟨0, 0, [], rfl, rfl, Nat.le_refl _, by omega, fun _ => by simp [linesOf], fun h => by omega, Nat.le_refl _, World.ownsRow_nil _ _ _ _, Upd.refl _ _⟩
  case round =>
    obtain ⟨k, a, ls, rfl, rfl, hak, hk, hsp, hend, hll, ho, hu⟩ := hrel
    have HSP := Lib.hid hsp
    have HEND := Lib.hid hend
    have HO := Lib.hid ho
    have HU := Lib.hid hu
    clear hsp hend ho hu
    by_cases hkl : k ≤ s.length
    · have hkl' : ((k : Nat) : Int) ≤ ((s.length : Nat) : Int) := by omega
      have hak' : ((a : Nat) : Int) ≤ ((k : Nat) : Int) := by omega
      obtain ⟨g, cap, w5, r5, o5, u5⟩ := append_str HU.out HO.out ((s.drop a).take (k - a)) (by omega)
      rw [← bs_extract] at r5
      have R5 := Lib.hid r5
      have O5 := Lib.hid o5
      have U5 := Lib.hid u5
      clear r5 o5 u5
      by_cases hke : k = s.length
      · have e1 : (((k : Nat) : Int) == ((s.length : Nat) : Int)) = true := by rw [beq_iff_eq]; omega
        have hsp2 : Hid (linesOf s = ls ++ [(s.drop a).take (k - a)]) := by
          show _ = _
          rw [HSP.out hkl, hke, List.drop_length, linesGo]
        have hkz : k ≤ (bs s).size := by omega
        have HKE := Lib.hid hke
        clear hkl hke
        go_wp2_with (at_builtin; refine wpList_append_run rfl _ _ _ rfl rfl rfl R5.out ?_)
        refine ⟨⟨k + 1, k + 1, ls ++ [(s.drop a).take (k - a)], by go_num, by go_num, Nat.le_refl _, by have := HKE.out; omega, fun h => by have := HKE.out; omega, fun _ => hsp2.out, by rw [List.length_append]; simp; omega, O5.out, U5.out⟩, by simp [intOf]; have := HKE.out; omega⟩
      · have e1 : (((k : Nat) : Int) == ((s.length : Nat) : Int)) = false := by rw [beq_eq_false_iff_ne]; omega
        have hkl2 : k < s.length := by omega
        have hget : (bs s)[k]'(by omega) = s[k] := bs_get s k hkl2
        have hdk : s.drop k = s[k] :: s.drop (k + 1) := List.drop_eq_getElem_cons hkl2
        have htk : Hid ((s.drop a).take (k + 1 - a) = (s.drop a).take (k - a) ++ [s[k]]) := by
          show _ = _
          rw [show k + 1 - a = (k - a) + 1 by omega, List.take_succ_eq_append_getElem (by rw [List.length_drop]; omega), List.getElem_drop]
          congr 2
          simp only [show a + (k - a) = k by omega]
        have hsp3 : Hid (linesOf s = ls ++ linesGo ((s.drop a).take (k - a)) (s[k] :: s.drop (k + 1))) := by show _ = _; rw [HSP.out hkl, ← hdk]
        clear hdk
        by_cases hc : s[k] = 10
        · have e2 : ((((bs s)[k]'(by omega)).toNat : Int) == 10) = true := by rw [hget, hc]; rfl
          have hsp4 : Hid (linesOf s = (ls ++ [(s.drop a).take (k - a)]) ++ linesGo [] (s.drop (k + 1))) := by
            show _ = _
            rw [hsp3.out, linesGo, if_pos hc, List.append_assoc]; rfl
          have hkz : k ≤ (bs s).size := by omega
          clear hget hc
          go_wp2_with (at_builtin; refine wpList_append_run rfl _ _ _ rfl rfl rfl R5.out ?_)
          refine ⟨⟨k + 1, k + 1, ls ++ [(s.drop a).take (k - a)], by go_num, by go_num, Nat.le_refl _, by omega, fun h => ?_, fun h => by omega, by rw [List.length_append]; simp; omega, O5.out, U5.out⟩, by simp [intOf]; omega⟩
          rw [hsp4.out, Nat.sub_self, List.take_zero]
        · have e2 : ((((bs s)[k]'(by omega)).toNat : Int) == 10) = false := by
            rw [hget, beq_eq_false_iff_ne]; intro e; exact hc (by rw [← UInt8.toNat_inj]; exact_mod_cast e)
          have hsp4 : Hid (linesOf s = ls ++ linesGo ((s.drop a).take (k + 1 - a)) (s.drop (k + 1))) := by
            show _ = _
            rw [hsp3.out, linesGo, if_neg hc, htk.out]
          clear hget hc R5 O5 U5
          go_wp2_with fail
          refine ⟨⟨k + 1, a, ls, by go_num, rfl, by omega, by omega, fun h => hsp4.out, fun h => by omega, by omega, HO.out, HU.out⟩, by simp [intOf]; omega⟩
    · have hke : k = s.length + 1 := by omega
      have hr := Lib.hid (HEND.out hke)
      have hkl' : ¬ ((k : Nat) : Int) ≤ ((s.length : Nat) : Int) := by omega
      clear hke hkl
      go_wp2_with fail
      go_ret
      show strsR (linesOf s) w _ _
      rw [hr.out]
      exact ⟨_, rfl, HO.out, HU.out⟩
namespace Sp
theorem ahead_end {l : Bytes} {k : Nat} (h : l.length ≤ k) : Sp.ahead (l.drop k) = [] := by rw [List.drop_eq_nil_of_le h]; rfl
theorem ahead_hash {l : Bytes} {k : Nat} (hk : k < l.length) (h : l[k] = 35) : Sp.ahead (l.drop k) = [] := by rw [List.drop_eq_getElem_cons hk, Sp.ahead, if_pos h]
theorem ahead_go {l : Bytes} {k : Nat} (hk : k < l.length) (h : l[k] ≠ 35) : Sp.ahead (l.drop k) = l[k] :: Sp.ahead (l.drop (k + 1)) := by rw [List.drop_eq_getElem_cons hk, Sp.ahead, if_neg h]
theorem piece_snoc {l : Bytes} {a k : Nat} (ha : a ≤ k) (hk : k < l.length) : (l.drop a).take (k + 1 - a) = (l.drop a).take (k - a) ++ [l[k]] := by
  rw [show k + 1 - a = (k - a) + 1 by omega, List.take_succ_eq_append_getElem (by rw [List.length_drop]; omega), List.getElem_drop]
  congr 2
  simp only [show a + (k - a) = k by omega]
theorem piece_ne {l : Bytes} {a k : Nat} (ha : a < k) (hk : k ≤ l.length) : (l.drop a).take (k - a) ≠ [] := fun e => by
  have := congrArg List.length e
  rw [List.length_take, List.length_drop, List.length_nil] at this
  omega
end Sp
/-- The word under way in words: from a place on, or none. -/
def curAt (l : Bytes) (k : Nat) (z : Int) (cur : Bytes) : Prop := (z = -1 ∧ cur = []) ∨ ∃ a : Nat, z = a ∧ a < k ∧ cur = (l.drop a).take (k - a)
end Go.Proofs.YtojdgdeefhndiaaGreatDoor
