/- Walks: strings.TrimRight at one zero byte, the coder's Finish. -/
import Derived.Test.YtadfolnhomongaaDoorWalkC5
namespace Go.Proofs.YtadfolnhomongaaDoor
open Go Go.RowKit Pc
set_option maxRecDepth 100000

theorem snoc_cases {α : Type} (k : List α) : k = [] ∨ ∃ k0 d, k = k0 ++ [d] := by
  rcases List.eq_nil_or_concat k with h | ⟨k0, d, h⟩
  · exact .inl h
  · exact .inr ⟨k0, d, by rw [h, List.concat_eq_append]⟩
theorem trim_nil : trim [] = [] := rfl
theorem trim_snoc_zero (l : List Nat) : trim (l ++ [0]) = trim l := by simp [trim, trimR]
theorem trim_snoc_ne (l : List Nat) {d : Nat} (h : d ≠ 0) : trim (l ++ [d]) = l ++ [d] := by simp [trim, trimR, h]

set_option maxHeartbeats 400000 in
theorem trimByte_any (l : List Nat) (hl : ∀ d, d ∈ l → d < 256) (hlen : l.length ≤ maxLen) (w : World) :
    Calls Tryd.prog 53 #[.string (str l), .int .u8 0] w fun e w' => e = .returned (.string (str (trim l))) ∧ w = w' := by
  unfold maxLen at hlen
  go_enter Tryd.func53, Tryd.ntmps53
  go_wp2
  go_loop [0] (fun s => ∃ k, s = .string (str k) ∧ trim k = trim l ∧ (∀ d, d ∈ k → d < 256) ∧ k.length ≤ l.length) (fun s => lenOfV s)
  case atStart => exact ⟨l, rfl, rfl, hl, Nat.le_refl _⟩
  case round =>
    obtain ⟨k, rfl, h1, h2, h3⟩ := hrel
    have hsz := str_size k
    rcases snoc_cases k with rfl | ⟨k0, d, rfl⟩
    · have h4 : Hid (trim l = []) := h1.symm
      clear h1 hl h2 h3
      go_wp2
      go_ret
      exact ⟨by rw [h4.out]; rfl, rfl⟩
    · have hsz' : (str (k0 ++ [d])).size = k0.length + 1 := by rw [str_size]; simp
      have hk0 : ((k0.length : Nat) : Int) < 9223372036854775807 := by simp at h3; omega
      have hix : ∀ (i : Nat) (h : i < (str (k0 ++ [d])).size), i = k0.length → ((str (k0 ++ [d]))[i]'h).toNat = d := by
        intro i h e; subst e; rw [str_get (by simp) h2]; simp
      by_cases hd : d = 0
      · subst hd
        have H1 : Hid (trim k0 = trim l) := by show _ = _; rw [← h1, trim_snoc_zero]
        have hq : (str (k0 ++ [0])).extract 0 k0.length = str k0 := by rw [str_extract]; simp
        have H2 : Hid (∀ d, d ∈ k0 → d < 256) := fun d hd => h2 d (by simp [hd])
        have h4 : k0.length ≤ l.length := by simp at h3; omega
        clear hl h1 h2 h3 hsz
        go_wp2
        go_round
        case rel => exact ⟨k0, rfl, H1.out, H2.out, h4⟩
        case measure => simp [lenOfV, str_size]
      · have hq : ((d : Int) == 0) = false := by rw [beq_eq_false_iff_ne]; omega
        have H1 : Hid (trim l = k0 ++ [d]) := by show _ = _; rw [← h1, trim_snoc_ne _ hd]
        clear hl h1 h2 h3 hsz
        go_wp2
        go_ret
        exact ⟨by rw [H1.out]; rfl, rfl⟩

set_option maxHeartbeats 400000 in
theorem trimRight_any (l : List Nat) (hl : ∀ d, d ∈ l → d < 256) (hlen : l.length ≤ maxLen) (w : World) :
    Calls Tryd.prog 43 #[.string (str l), .string ⟨#[0]⟩] w fun e w' => e = .returned (.string (str (trim l))) ∧ w = w' := by
  rcases l with _ | ⟨x, l⟩
  · have hs0 : (str []).toList = [] := str_toList _
    go_enter Tryd.func43, Tryd.ntmps43
    go_wp2
    go_ret
    exact ⟨rfl, rfl⟩
  · have hs0 : (str (x :: l)).toList = UInt8.ofNat x :: l.map UInt8.ofNat := str_toList _
    have hq : (⟨#[0]⟩ : ByteArray).size = 1 := rfl
    go_enter Tryd.func43, Tryd.ntmps43
    go_wp2_with fail
    refine (trimByte_any _ hl hlen _).mono ?_
    rintro e w' ⟨rfl, rfl⟩
    go_wp2
    go_ret
    exact ⟨rfl, rfl⟩

/-- What Finish reads of a writer. -/
theorem WRep.reads {w : World} {b : Nat} {e : E} {F : Nat → Prop} (h : WRep w b e F) : ∃ dv, w.cell? ⟨b, 1 + 1, none⟩ = some dv ∧ w.cell? ⟨b, 3, none⟩ = some (.int .u32 e.low) ∧
    w.ownsRow 0 5 1 dv e.done.length (e.done.map byteV) := by
  rcases h with ⟨rfl, h2, rfl⟩ | ⟨wb, dv, h1, rfl⟩
  · exact ⟨.slice none 0 0, by rw [cell_of_row w b _ _ _ _ h2]; rfl, by rw [cell_of_row w b 3 _ _ _ h2]; rfl, World.ownsRow_nil _ _ _ _⟩
  · exact ⟨dv, by rw [cell_of_row w b _ _ _ _ h1.blk]; rfl, by rw [cell_of_row w b 3 _ _ _ h1.blk]; rfl, h1.own⟩

theorem byteV_one (l : List Nat) : ∀ u ∈ l.map byteV, u.oneCell' = true := by
  intro u hu
  obtain ⟨d, _, rfl⟩ := List.mem_map.1 hu
  rfl

theorem upd_of_grown {F : Nat → Prop} {w w' : World} {row : Option Nat} (hg : w.grownBy w' row) (hr : ∀ k, row = some k → k < w.heap.size → F k) : Upd F w w' := (Upd.refl F w).grown hg hr

set_option maxHeartbeats 1000000 in
theorem WFinish_any (b : Nat) (e : E) (F : Nat → Prop) (w : World) (h : WRep w b e F) (hlen : e.done.length + 1 ≤ 1000000) :
    Calls Tryd.prog 25 #[.pointer (some ⟨b, 0, none⟩)] w fun en w' => en = .returned (.string (str e.finish)) ∧ Upd noBlk w w' := by
  obtain ⟨dv, hc2, hc3, hown⟩ := h.reads
  have he := h.wf
  have hlow : ((e.low : Nat) : Int) < 4294967296 := by have := he.low; omega
  obtain ⟨i0, hi0, hz0, hz1, hz2⟩ := info_parts info_u8
  have m1 : Hid (e.done.length ≤ maxLen) := by show _ ≤ _; unfold maxLen; omega
  have m2 : Hid (e.done.length + 1 ≤ maxLen) := by show _ ≤ _; unfold maxLen; omega
  have b1 : Hid ((e.done.length + 1) * 1 ≤ 140737488355328) := by show _ ≤ _; omega
  obtain ⟨v1, w1, r1, o1, g1⟩ := append_copy w 32 32 5 i0 _ 1 1 Tryd.underlying32 hi0 hz0 hz1 hz2 rfl (by omega) hown (byteV_one _) m1.out (by omega)
  have u1 : Hid (Upd noBlk w w1) := upd_of_grown g1 (fun k hk => by simp at hk)
  have hc3' := g1.cell hc3 (by simp)
  have R1 := Lib.hid r1
  have O1 := Lib.hid o1
  have hq : (((e.low : Nat) : Int) + 16777216 - 1) / 16777216 = ((e.last : Nat) : Int) := by unfold E.last; omega
  have hlast : Hid (e.last ≤ 256) := by show _ ≤ _; unfold E.last; omega
  have hd := Lib.hid he.done
  clear r1 o1 hown h hlen
  by_cases hl : e.last = 256
  · have ht : (((e.last : Nat) : Int) == 256) = true := by rw [beq_iff_eq]; omega
    have HL := Lib.hid hl
    clear hl
    go_enter Tryd.func25, Tryd.ntmps25
    go_wp2_with (at_builtin; refine wpList_append_run rfl _ _ _ rfl rfl rfl R1.out ?_)
    refine (carry_v v1 e.done hd.out w1 O1.out m1.out).mono ?_
    rintro en w2 ⟨rfl, o2, g2⟩
    have hcl : Hid ((carry e.done).length = e.done.length) := carry_length _
    have hbase : Hid (w.heap.size ≤ w2.heap.size) := Nat.le_trans u1.out.size g2.size
    obtain ⟨gg, cap, w3, r3, o3, g3, hat, hlt⟩ := append_one w2 32 32 5 i0 _ 1 1 Tryd.underlying32 hi0 hz0 hz1 hz2 rfl (by omega) o2 hbase.out [byteV 0] rfl (byteV_one [0]) m2.out b1.out
    have hcv := conv_own (P := Tryd.prog) (src := 32) (e := 5) (dst := 9) (l := carry e.done ++ [0]) Tryd.underlying32 Tryd.underlying5 Tryd.underlying9 (by rw [List.length_append, hcl.out, List.map_append]; exact o3)
    have hw8 : IntKind.u8.wrap ((e.last : Nat) : Int) = 0 := by rw [HL.out]; rfl
    have R3 := Lib.hid r3
    have O3 := Lib.hid o3
    have hu : Hid (Upd noBlk w w3) := by
      refine (u1.out.grown g2 (fun k hk hk' => ?_)).then ((upd_of_grown (World.grownBy_alloc w2 _ v1.ownBlock) (F := inRow v1) (fun k hk _ => hk)).trans (upd_of_grown g3 (fun k hk _ => hk))) (fun k hk hk' => ?_)
      · have := (O1.out.lt k hk).1; omega
      · have := (O1.out.lt k hk').1; omega
    clear r3 o3 o2 g2 g3
    go_wp2_with (at_builtin; refine wpList_append_run rfl _ _ _ rfl rfl rfl R3.out ?_)
    have hfin : Hid (trim (carry e.done ++ [0]) = e.finish) := by show _ = _; unfold E.finish; rw [if_pos HL.out]
    have hb8 : Hid (∀ d, d ∈ carry e.done ++ [0] → d < 256) := by
      intro d hd'
      rcases List.mem_append.1 hd' with h | h
      · exact carry_lt hd.out d h
      · simp at h; omega
    have hln : Hid ((carry e.done ++ [0]).length ≤ maxLen) := by show _ ≤ _; rw [List.length_append, hcl.out]; exact m2.out
    clear hcv
    refine (trimRight_any _ hb8.out hln.out _).mono ?_
    rintro en w4 ⟨rfl, rfl⟩
    go_wp2
    go_ret
    exact ⟨by rw [← hfin.out]; rfl, hu.out⟩
  · have ht : (((e.last : Nat) : Int) == 256) = false := by rw [beq_eq_false_iff_ne]; omega
    have HL := Lib.hid hl
    have hl256 : e.last < 256 := by have := hlast.out; omega
    obtain ⟨gg, cap, w3, r3, o3, g3, hat, hlt⟩ := append_one w1 32 32 5 i0 _ 1 1 Tryd.underlying32 hi0 hz0 hz1 hz2 rfl (by omega) O1.out u1.out.size [byteV e.last] rfl (byteV_one [e.last]) m2.out b1.out
    have hcv := conv_own (P := Tryd.prog) (src := 32) (e := 5) (dst := 9) (l := e.done ++ [e.last]) Tryd.underlying32 Tryd.underlying5 Tryd.underlying9 (by rw [List.length_append, List.map_append]; exact o3)
    have hw8 : IntKind.u8.wrap ((e.last : Nat) : Int) = ((e.last : Nat) : Int) := wrap_u8 (by omega) (by omega)
    have R3 := Lib.hid r3
    have O3 := Lib.hid o3
    have hu : Hid (Upd noBlk w w3) := by
      refine u1.out.then ((upd_of_grown (World.grownBy_alloc w1 _ v1.ownBlock) (F := inRow v1) (fun k hk _ => hk)).trans (upd_of_grown g3 (fun k hk _ => hk))) (fun k hk hk' => ?_)
      have := (O1.out.lt k hk').1; omega
    have hfin : Hid (trim (e.done ++ [e.last]) = e.finish) := by show _ = _; unfold E.finish; rw [if_neg hl]
    have hb8 : Hid (∀ d, d ∈ e.done ++ [e.last] → d < 256) := by
      intro d hd'
      rcases List.mem_append.1 hd' with h | h
      · exact hd.out d h
      · simp at h; omega
    have hln : Hid ((e.done ++ [e.last]).length ≤ maxLen) := by show _ ≤ _; rw [List.length_append]; exact m2.out
    clear hl r3 o3 g3 hl256
    go_enter Tryd.func25, Tryd.ntmps25
    go_wp2_with (first | (at_builtin; refine wpList_append_run rfl _ _ _ rfl rfl rfl R1.out ?_) | (at_builtin; refine wpList_append_run rfl _ _ _ rfl rfl rfl R3.out ?_))
    refine (trimRight_any _ hb8.out hln.out _).mono ?_
    rintro en w4 ⟨rfl, rfl⟩
    go_wp2
    go_ret
    exact ⟨by rw [← hfin.out]; rfl, hu.out⟩
end Go.Proofs.YtadfolnhomongaaDoor
