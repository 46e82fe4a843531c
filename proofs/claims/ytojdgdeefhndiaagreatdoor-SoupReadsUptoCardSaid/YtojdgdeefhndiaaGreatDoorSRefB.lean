/- Walks of the reference of the polygon files: numbers. -/
import Derived.Test.YtojdgdeefhndiaaGreatDoorSRefA
namespace Go.Proofs.YtojdgdeefhndiaaGreatDoor
open Go Go.RowKit Sp
set_option maxRecDepth 100000

/-- What the reference's numbers comes to. -/
def numsR (r : R (List Int)) (w : World) (en : Ending) (w' : World) : Prop :=
  match r with
  | .ok zs => ∃ v, en = .returned (.tuple #[v, .int .i64 0]) ∧ w'.ownsRow w.heap.size 3 1 v zs.length (zs.map (Value.int .i64)) ∧ Upd noBlk w w'
  | .bad e => en = .returned (.tuple #[.slice none 0 0, .int .i64 e]) ∧ Upd noBlk w w'
theorem digits_no {x : Bytes} (h : isNum x = false) : digitsS x = 0 := by unfold digitsS; rw [h]; rfl
theorem digits_yes {x : Bytes} (h : isNum x = true) : digitsS x = (unminus x).length ∧ 0 < (unminus x).length := by
  unfold digitsS; rw [h]
  refine ⟨rfl, ?_⟩
  unfold isNum at h
  cases hu : unminus x with
  | nil => rw [hu] at h; simp at h
  | cons c r => simp
theorem numbersS_syn {ws : List Bytes} {x : Bytes} (hx : x ∈ ws) (h : isNum x = false) : numbersS ws = .bad 10 := by
  unfold numbersS
  rw [if_pos]
  rw [Bool.not_eq_true', List.all_eq_false]
  exact ⟨x, hx, by simp [h]⟩
theorem numbersS_long {ws : List Bytes} (ha : ∀ x, x ∈ ws → isNum x = true) (h : ∃ x, x ∈ ws ∧ Sp.long x = true) : numbersS ws = .bad 11 := by
  unfold numbersS
  rw [if_neg (by simpa using ha), if_pos]
  rw [List.any_eq_true]
  exact h
theorem numbersS_ok {ws : List Bytes} (ha : ∀ x, x ∈ ws → isNum x = true) (h : ∀ x, x ∈ ws → Sp.long x = false) : numbersS ws = .ok (ws.map Sp.valOf) := by
  unfold numbersS
  rw [if_neg (by simpa using ha), if_neg]
  rw [Bool.not_eq_true, List.any_eq_false]
  intro x hx; rw [h x hx]; simp
set_option maxHeartbeats 1000000 in
theorem qnumbers_any (A : Option Addr) (cap : Nat) (ws : List Bytes) (hl : ws.length ≤ 4294967296) (hs : short ws) (w : World) (h : RdW w A ws) :
    Calls Tryz.prog 92 #[.slice A ws.length cap] w fun en w' => numsR (numbersS ws) w en w' := by
  have H := Lib.hid h
  have HS := Lib.hid hs
  clear h hs
  go_enter Tryz.func92, Tryz.ntmps92
  go_wp2_with fail
  go_loop [2, 3, 4, 5, 6] (fun _ _ ev i _ => ∃ (k e : Nat), i = .int .i64 k ∧ k ≤ ws.length ∧ ev = .int .i64 e ∧ (∀ x, x ∈ ws.take k → isNum x = true) ∧ ((e = 0 ∧ ∀ x, x ∈ ws.take k → Sp.long x = false) ∨ (e = 11 ∧ ∃ x, x ∈ ws.take k ∧ Sp.long x = true))) (fun _ _ _ i _ => ws.length - (intOf i).toNat)
  case atStart => exact ⟨0, 0, rfl, Nat.zero_le _, rfl, by simp, .inl ⟨rfl, by simp⟩⟩
  case round =>
    obtain ⟨k, e, rfl, hk, rfl, hx, he⟩ := hrel
    have HX := Lib.hid hx
    have HE := Lib.hid he
    clear hx he
    by_cases hlt : k < ws.length
    · obtain ⟨b, off, rfl, ea⟩ := H.out (by omega)
      have c0 : w.cell? ⟨b, off + k, none⟩ = some (.string (bs ws[k])) := ea k hlt
      have hlt' : ((k : Nat) : Int) < ((ws.length : Nat) : Int) := by omega
      have hmem : ws[k] ∈ ws := List.getElem_mem hlt
      have hk1 : Hid (ws.take (k + 1) = ws.take k ++ [ws[k]]) := List.take_succ_eq_append_getElem hlt
      have hdg := digits_any ws[k] (HS.out _ hmem)
      generalize hwk : ws[k] = x at *
      clear ea hwk
      have hub : ((unminus x).length : Int) ≤ 4294967296 := by have := unminus_le x; have := HS.out _ hmem; omega
      rcases hn : isNum x with _ | _
      · have hr := Lib.hid (numbersS_syn hmem hn)
        rw [digits_no hn] at hdg
        have HD := Lib.hid hdg
        clear hdg hn hmem
        go_wp2_with fail
        refine (HD.out _).mono ?_
        rintro e1 w1 ⟨rfl, rfl⟩
        go_wp2_with fail
        go_ret2
        show numsR (numbersS ws) w _ _
        rw [hr.out]
        exact ⟨rfl, Upd.refl _ _⟩
      · obtain ⟨hd1, hd2⟩ := digits_yes hn
        rw [hd1] at hdg
        have HD := Lib.hid hdg
        have hne : ((((unminus x).length : Nat) : Int) == 0) = false := by rw [beq_eq_false_iff_ne]; omega
        have hx1 : Hid (∀ y, y ∈ ws.take (k + 1) → isNum y = true) := fun y hy => by
          rw [hk1.out, List.mem_append, List.mem_singleton] at hy
          rcases hy with hy | rfl
          · exact HX.out y hy
          · exact hn
        by_cases hlong : 15 < (unminus x).length
        · have hl1 : (15 : Int) < (((unminus x).length : Nat) : Int) := by omega
          have hlx : Hid (Sp.long x = true) := by show _ = _; unfold Sp.long; simpa using hlong
          clear hdg hn hmem hd1 hd2 hlong
          go_wp2_with fail
          refine (HD.out _).mono ?_
          rintro e1 w1 ⟨rfl, rfl⟩
          go_wp2_with fail
          refine ⟨⟨k + 1, 11, by go_num, hlt, rfl, hx1.out, .inr ⟨rfl, x, by rw [hk1.out]; simp, hlx.out⟩⟩, by simp [intOf]; omega⟩
        · have hl1 : ¬ (15 : Int) < (((unminus x).length : Nat) : Int) := by omega
          have hlx : Hid (Sp.long x = false) := by show _ = _; unfold Sp.long; simpa using hlong
          clear hdg hn hmem hd1 hd2 hlong
          go_wp2_with fail
          refine (HD.out _).mono ?_
          rintro e1 w1 ⟨rfl, rfl⟩
          go_wp2_with fail
          refine ⟨⟨k + 1, e, by go_num, hlt, rfl, hx1.out, ?_⟩, by simp [intOf]; omega⟩
          rcases HE.out with ⟨h0, ha⟩ | ⟨h0, y, hy, hy2⟩
          · refine .inl ⟨h0, fun y hy => ?_⟩
            rw [hk1.out, List.mem_append, List.mem_singleton] at hy
            rcases hy with hy | rfl
            · exact ha y hy
            · exact hlx.out
          · exact .inr ⟨h0, y, by rw [hk1.out]; simp [hy], hy2⟩
    · have hw : ws.take k = ws := List.take_of_length_le (by omega)
      have hlt' : ¬ ((k : Nat) : Int) < ((ws.length : Nat) : Int) := by omega
      have hx := HX.out
      have he := HE.out
      rw [hw] at hx he
      clear HX HE hw
      have HX := Lib.hid hx
      rcases he with ⟨rfl, ha⟩ | ⟨rfl, hy⟩
      · have HA := Lib.hid ha
        have hr := Lib.hid (numbersS_ok hx ha)
        clear hx ha
        go_wp2_with fail
        obtain ⟨w, rfl⟩ : ∃ x : World, x = w := ⟨_, rfl⟩
        go_loopw [7, 8] (fun v i wr => ∃ k : Nat, i = .int .i64 k ∧ k ≤ ws.length ∧ wr.ownsRow w.heap.size 3 1 v k ((ws.take k).map (fun x => Value.int .i64 (Sp.valOf x))) ∧ Upd noBlk w wr) (fun _ i _ => ws.length - (intOf i).toNat)
        case atStart => exact ⟨0, rfl, Nat.zero_le _, World.ownsRow_nil _ _ _ _, Upd.refl _ _⟩
        case round =>
          obtain ⟨j, rfl, hj, ho, hu⟩ := hrel
          have HO := Lib.hid ho
          have HU := Lib.hid hu
          clear ho hu
          by_cases hjl : j < ws.length
          · obtain ⟨b, off, rfl, ea⟩ := H.out (by omega)
            have c0 : wr.cell? ⟨b, off + j, none⟩ = some (.string (bs ws[j])) := HU.out.cell (ea j hjl) id
            have hmem : ws[j] ∈ ws := List.getElem_mem hjl
            have hk1 : Hid (ws.take (j + 1) = ws.take j ++ [ws[j]]) := List.take_succ_eq_append_getElem hjl
            have hva := value_any ws[j] (HS.out _ hmem) (HX.out _ hmem) (HA.out _ hmem)
            have HV := Lib.hid hva
            have hlt2 : ((j : Nat) : Int) < ((ws.length : Nat) : Int) := by omega
            clear ea hva
            obtain ⟨i0, hi0, hz0, hz1, hz2⟩ := info_parts info_i
            have m2 : Hid (j + 1 ≤ maxLen) := by show _ ≤ _; unfold maxLen; omega
            have b1 : Hid ((j + 1) * 8 ≤ 140737488355328) := by show _ ≤ _; omega
            obtain ⟨gg, cp, w5, r5, o5, hup5, _, _, _⟩ := append_item (w0 := w) (w := wr) 86 86 3 i0 _ 1 8 Tryz.underlying86 hi0 hz0 hz1 hz2 rfl (by omega) HU.out HO.out [.int .i64 (Sp.valOf ws[j])] rfl (by simp [Value.oneCell']) m2.out b1.out
            have hup := Lib.hid hup5
            have O5 : Hid (w5.ownsRow w.heap.size 3 1 (.slice (some ⟨gg, 0, none⟩) (j + 1) cp) (j + 1) ((ws.take (j + 1)).map (fun x => Value.int .i64 (Sp.valOf x)))) := by
              show World.ownsRow _ _ _ _ _ _ _; rw [hk1.out, List.map_append]; exact o5
            have R5 := Lib.hid r5
            clear r5 o5 hup5 hmem
            go_wp2_with fail
            refine (HV.out _).mono ?_
            rintro e1 w1 ⟨rfl, rfl⟩
            go_wp2_with (at_builtin; refine wpList_append_run rfl _ _ _ rfl rfl rfl R5.out ?_)
            refine ⟨⟨j + 1, by go_num, hjl, O5.out, hup.out⟩, by simp [intOf]; omega⟩
          · have hjj : j = ws.length := by omega
            have hw : ws.take j = ws := List.take_of_length_le (by omega)
            have O6 : Hid (wr.ownsRow w.heap.size 3 1 u7 (ws.map Sp.valOf).length ((ws.map Sp.valOf).map (Value.int .i64))) := by
              have := HO.out; rw [hw, hjj] at this; show World.ownsRow _ _ _ _ _ _ _; rw [List.length_map, List.map_map]; exact this
            have hlt2 : ¬ ((j : Nat) : Int) < ((ws.length : Nat) : Int) := by omega
            clear hw hjj
            go_wp2_with fail
            go_ret2
            show numsR (numbersS ws) w _ _
            rw [hr.out]
            exact ⟨_, rfl, O6.out, HU.out⟩
      · have hr := Lib.hid (numbersS_long hx hy)
        clear hx hy
        go_wp2_with fail
        go_ret2
        show numsR (numbersS ws) w _ _
        rw [hr.out]
        exact ⟨rfl, Upd.refl _ _⟩
end Go.Proofs.YtojdgdeefhndiaaGreatDoor
