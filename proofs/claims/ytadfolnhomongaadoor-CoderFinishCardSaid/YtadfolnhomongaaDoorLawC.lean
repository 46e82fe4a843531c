/- Walks of the laws: CoderBack. -/
import Derived.Test.YtadfolnhomongaaDoorLawB
import Derived.Test.YtadfolnhomongaaDoorWalkL3
import Derived.Test.YtadfolnhomongaaDoorPureD
import Derived.Test.YtadfolnhomongaaDoorRegionB
namespace Go.Proofs.YtadfolnhomongaaDoor
open Go Go.RowKit Pc
set_option maxRecDepth 100000

theorem info_u8x : (Tryd.prog.info? 5).map (fun i => (i.zero, i.size, i.bytes)) = some (some (.int .u8 0), 1, 1) := by kernel_rfl
/-- 'make([]byte, n)'. -/
theorem make_bytes (n : Nat) (hn : n ≤ 1000000) (w : World) : ∃ w', (Instr.makeSlice 32 (.int .i64 (n : Int)) (.int .i64 (n : Int))).run Tryd.prog w = .ok (.slice (some ⟨w.heap.size, 0, none⟩) n n) w' ∧
    w'.ownsRow w.heap.size 5 1 (.slice (some ⟨w.heap.size, 0, none⟩) n n) n ((List.replicate n 0).map byteV) ∧ Upd noBlk w w' := by
  obtain ⟨i0, hi, hz0, hz1, hz2⟩ := info_parts info_u8x
  have h := run_make (P := Tryd.prog) w 32 5 i0 (.int .u8 0) Tryd.underlying32 hi hz0 .i64 .i64 (n : Int) (n : Int) (by omega) (by omega) (by rw [hz2]; omega) (by omega)
  rw [hz1] at h
  refine ⟨_, h, ⟨by simp, .inr ⟨w.heap.size, n, _, rfl, Nat.le_refl _, heap_alloc_new w _, Nat.le_refl _, by unfold maxLen; omega, ?_, ?_⟩⟩, (Upd.refl _ _).alloc _⟩
  · rw [size_madeCells]; simp
  · apply List.ext_getElem?
    intro i
    by_cases hi' : i < n
    · simp [madeCells, byteV, hi', Value.cells, Nat.mod_one]
    · simp [madeCells, byteV, hi']
theorem zeros_conv {w : World} {base n : Nat} {v : Value} (own : w.ownsRow base 5 1 v n ((List.replicate n 0).map byteV)) : (convert 32 9 v).run Tryd.prog w = .ok (.string (str (List.replicate n 0))) w :=
  conv_own Tryd.underlying32 Tryd.underlying5 Tryd.underlying9 (by simpa using own)
theorem own_upd {w w' : World} {base n : Nat} {T : TypeId} {g c : Nat} {xs : List Value} (own : w.ownsRow base T 1 (.slice (some ⟨g, 0, none⟩) n c) n xs) (hu : Upd noBlk w w') : w'.ownsRow base T 1 (.slice (some ⟨g, 0, none⟩) n c) n xs :=
  ownsRow_keep own (fun k hk => hu.block k (own.lt k hk).2 id)
/-- How a code ends. -/
theorem code_end (l : List (Int × Bool)) (hl : l.length ≤ 100000) : (str (encode l)).toList.isEmpty = true ∨ ∃ k d : Nat, (str (encode l)).toList.isEmpty = false ∧ (str (encode l)).size = k + 1 ∧
    (∀ h : k < (str (encode l)).size, ((str (encode l))[k]'h).toNat = d) ∧ (((d : Nat) : Int) != 0) = true ∧ ((k : Nat) : Int) ≤ 100000 := by
  have hb := encode_length l
  have ht := encode_lt l
  have he := encode_last l
  generalize encode l = c at *
  rcases List.eq_nil_or_concat c with h | ⟨x, d, h⟩
  · subst h; left; rw [str_toList]; rfl
  · rw [List.concat_eq_append] at h
    subst h
    right
    have hd : d ≠ 0 := he d (by simp)
    refine ⟨x.length, d, by rw [str_toList]; simp, by rw [str_size]; simp, fun h => ?_, ?_, ?_⟩
    · rw [str_get (by simp) ht]; simp
    · simp; omega
    · rw [List.length_append, List.length_singleton] at hb; omega
/-- The first n bits of an argument, in one of three forms. -/
theorem ArgBits.forms' {w : World} {v : Value} {l : List (Int × Bool)} (h : ArgBits w v l) (n : Nat) (N : Int) (hN : N = (n : Int)) :
    ∃ L : List (Int × Bool), L = l.take n ∧ ((∃ x, v = .slice x 0 0 ∧ RdBits w (.slice x 0 0) L) ∨ ∃ b off m cap, v = .slice (some ⟨b, off, none⟩) m cap ∧ ((m : Nat) : Int) ≤ ((cap : Nat) : Int) ∧ ((cap : Nat) : Int) ≤ 9223372036854775807 ∧
      ((N < ((m : Nat) : Int) ∧ RdBits w (.slice (some ⟨b, off, none⟩) n cap) L) ∨ (((m : Nat) : Int) ≤ N ∧ RdBits w (.slice (some ⟨b, off, none⟩) m cap) L))) := by
  refine ⟨_, rfl, ?_⟩
  have hc := h.cut n
  rcases h.forms n N hN with ⟨x, rfl, rfl⟩ | ⟨b, off, cap, rfl, h1⟩
  · exact .inl ⟨x, rfl, by simpa [cutV] using hc⟩
  · exact .inr ⟨b, off, l.length, cap, rfl, h1⟩
theorem mod_nat (z : Int) (m : Nat) (hm : 0 < m) : ∃ n : Nat, z % (m : Int) = (n : Int) ∧ n < m := by
  have h1 := Int.emod_nonneg z (show (m : Int) ≠ 0 by omega)
  have h2 := Int.emod_lt_of_pos z (show 0 < (m : Int) by omega)
  exact ⟨(z % m).toNat, by omega, by omega⟩

set_option maxHeartbeats 4000000 in
theorem lawBack (v : Value) (l : List (Int × Bool)) (z : Int) (w : World) (h : ArgBits w v l) (_hz : (Lit.int .i64 z).wf = true) :
    Calls Tryd.prog 4 #[v, .int .i64 z] w fun e w' => e = .returned (.bool true) ∧ Upd noBlk w w' := by
  obtain ⟨L, hL, hf⟩ := h.forms' 400 400 rfl
  have hlen : L.length ≤ 100000 := by have := List.length_take_le 400 l; subst hL; omega
  clear h hL
  have HL := Lib.hid hlen
  have HM : Hid ((L.map (·.1)).length ≤ 100000) := by show _ ≤ _; simpa using hlen
  have HX : Hid ((Pc.decode (encode L) (L.map (·.1))).length ≤ 1000000) := by show _ ≤ _; rw [decode_length, List.length_map]; omega
  have HY : Hid ((L.map (·.2)).length ≤ 1000000) := by show _ ≤ _; rw [List.length_map]; omega
  have HE0 : Hid (Pc.decode (encode L) (L.map (·.1)) = L.map (·.2)) := by show _ = _; simpa using decode_encode L 0
  clear hlen
  obtain ⟨n, hn, hn20⟩ : ∃ n : Nat, z % 20 = (n : Int) ∧ n < 20 := mod_nat z 20 (by decide)
  have HQ : Hid (∀ x, x ∈ encode L ++ List.replicate n 0 → x < 256) := by
    intro x hx
    rcases List.mem_append.1 hx with h | h
    · exact encode_lt _ x h
    · rw [(List.mem_replicate.1 h).2]; omega
  have HE1 : Hid (Pc.decode (encode L ++ List.replicate n 0) (L.map (·.1)) = L.map (·.2)) := decode_encode L n
  have HX1 : Hid ((Pc.decode (encode L ++ List.replicate n 0) (L.map (·.1))).length ≤ 1000000) := by show _ ≤ _; rw [decode_length, List.length_map]; have := HL.out; omega
  have hadd := run_add (P := Tryd.prog) (a := encode L) (b := List.replicate n 0) (c := encode L ++ List.replicate n 0) (by rw [List.length_replicate]; have := encode_length L; have := HL.out; omega) rfl
  have HSP := Lib.hid (code_end L HL.out)
  rcases hf with ⟨x, rfl, hr⟩ | ⟨b, off, m, cap, rfl, h4, h5, ⟨hm, hr⟩ | ⟨hm, hr⟩⟩
  all_goals
    have HR := Lib.hid hr
    clear hr
    go_enter Tryd.func4, Tryd.ntmps4
    go_wp2_with (go_at_call 14; refine (sanity_any _).mono ?_; rintro e w1 ⟨rfl, u1⟩)
    have R1 := Lib.hid (HR.out.keep u1)
    refine (Encode_v _ L _ R1.out HL.out).mono ?_
    rintro e w2 ⟨rfl, u2⟩
    have R2 := Lib.hid (R1.out.keep u2)
    have U2 := Lib.hid (u1.trans u2)
    clear R1 u1 u2
    go_wp2_with fail
    refine (contexts_v _ L _ R2.out HL.out).mono ?_
    rintro e w3 ⟨r3, rfl, i3, u3⟩
    have R3 := Lib.hid (R2.out.keep u3)
    have U3 := Lib.hid (U2.out.trans u3)
    have I3 := Lib.hid i3
    clear R2 U2 i3 u3
    go_wp2_with fail
    refine (Decode_v _ (encode_lt _) _ (L.map (·.1)) _ I3.out HM.out).mono ?_
    rintro e w4 ⟨r4, rfl, b4, u4⟩
    have R4 := Lib.hid (R3.out.keep u4)
    have U4 := Lib.hid (U3.out.trans u4)
    have B4 := Lib.hid b4
    clear R3 U3 I3 b4 u4
    go_wp2_with fail
    refine (values_v _ L _ R4.out HL.out).mono ?_
    rintro e w5 ⟨r5, rfl, b5, u5⟩
    have R5 := Lib.hid (R4.out.keep u5)
    have U5 := Lib.hid (U4.out.trans u5)
    have B4' := Lib.hid (B4.out.keep u5)
    have B5 := Lib.hid b5
    clear R4 U4 B4 b5 u5
    go_wp2_with fail
    refine (Bools_any _ _ _ _ _ B4'.out B5.out HX.out HY.out HE0.out).mono ?_
    rintro e w6 ⟨rfl, u6⟩
    have R6 := Lib.hid (R5.out.keep u6)
    have U6 := Lib.hid (U5.out.trans u6)
    clear R5 U5 B4' B5 u6
    go_wp2_with fail
    refine wp_region_tree 12 (OT.sures [0, 1, 6, 9] (.run 2 (.fork 3 (.fork 4 (.sure 5 (.run 7 (.run 8 (.run 10 (.run 11 .nil))))) 7 (.run 4 (.sure 5 (.run 8 (.run 10 (.run 11 .nil)))))) 7 (.run 3 (.run 4 (.sure 5 (.run 8 (.run 10 (.run 11 .nil))))))))) (fun _ => True) (by kernel_rfl) (by kernel_rfl) (fun c a d v w h => by cases d <;> exact h) trivial ?_
    simp only [OT.sures]
    iterate 4 (refine wpT_sure rfl rfl _ (fun w' _ => by go_simp; rfl) ?_)
    refine wpT_run (fun _ => True) (fun _ _ => trivial) rfl (fun K hK => ?_)
    go_simp
    refine (Mod_any z 20 (by decide) (by decide) _).mono ?_
    rintro e w7 ⟨rfl, rfl⟩
    rw [hn]
    refine hK _ _ ⟨trivial, ?_⟩
    clear hK K
    have R7 := Lib.hid (R6.out.keep (Upd.refl noBlk w6).drew)
    have U7 : Hid (Upd noBlk w w6.drew) := U6.out.drew
    generalize w6.drew = w7 at R7 U7 ⊢
    clear R6 U6
    refine wpT_fork (fun _ => True) (fun _ => True) (fun _ _ => trivial) (fun _ _ => trivial) rfl rfl (fun K hK => ?_) (fun K hK => ?_)
    · obtain ⟨wm, m1, m2, m3⟩ := make_bytes n (by omega) w7
      go_simp
      refine hK _ _ ⟨trivial, ?_⟩
      clear hK K
      have RM := Lib.hid (R7.out.keep m3)
      have UM := Lib.hid (U7.out.trans m3)
      have OM := Lib.hid m2
      clear m1 m2 m3
      refine wpT_fork (fun _ => True) (fun _ => True) (fun _ _ => trivial) (fun _ _ => trivial) rfl rfl (fun K hK => ?_) (fun K hK => ?_)
      · have hcv := zeros_conv OM.out
        go_simp
        refine hK _ _ ⟨trivial, ?_⟩
        clear hK K hcv
        refine wpT_sure rfl rfl (.string (str (encode L ++ List.replicate n 0))) (fun w' _ => by go_simp) ?_
        refine wpT_run (fun _ => True) (fun _ _ => trivial) rfl (fun K hK => ?_)
        go_simp
        refine (contexts_v _ L _ RM.out HL.out).mono ?_
        rintro e wc ⟨rc, rfl, ic, uc⟩
        refine hK _ _ ⟨trivial, ?_⟩
        clear hK K
        have RC := Lib.hid (RM.out.keep uc)
        have UC := Lib.hid (UM.out.trans uc)
        have IC := Lib.hid ic
        clear ic uc
        clear R7 U7 RM UM OM
        (refine wpT_run (fun _ => True) (fun _ _ => trivial) rfl (fun K hK => ?_))
        go_simp
        refine (Decode_v _ HQ.out _ (L.map (·.1)) _ IC.out HM.out).mono ?_
        rintro e w8 ⟨r8, rfl, b8, u8⟩
        refine hK _ _ ⟨trivial, ?_⟩
        clear hK K
        have R8 := Lib.hid (RC.out.keep u8)
        have U8 := Lib.hid (UC.out.trans u8)
        have B8 := Lib.hid b8
        clear b8 u8
        (refine wpT_run (fun _ => True) (fun _ _ => trivial) rfl (fun K hK => ?_))
        go_simp
        refine (values_v _ L _ R8.out HL.out).mono ?_
        rintro e w9 ⟨r9, rfl, b9, u9⟩
        refine hK _ _ ⟨trivial, ?_⟩
        clear hK K
        have U9 := Lib.hid (U8.out.trans u9)
        have B8' := Lib.hid (B8.out.keep u9)
        have B9 := Lib.hid b9
        clear b9 u9
        (refine wpT_run (fun _ => True) (fun _ _ => trivial) rfl (fun K hK => ?_))
        go_simp
        refine (Bools_any _ _ _ _ _ B8'.out B9.out HX1.out HY.out HE1.out).mono ?_
        rintro e w10 ⟨rfl, u10⟩
        refine hK _ _ ⟨trivial, ?_⟩
        clear hK K
        have U10 := Lib.hid (U9.out.trans u10)
        clear u10
        refine wpT_nil ?_
        rcases HSP.out with E1 | ⟨k, d, E1, E2, E3, E4, kb⟩
        · go_wp2
          go_ret
          exact ⟨rfl, U10.out⟩
        · go_wp2
          go_ret
          exact ⟨rfl, U10.out⟩
      · go_simp
        refine (contexts_v _ L _ RM.out HL.out).mono ?_
        rintro e wc ⟨rc, rfl, ic, uc⟩
        refine hK _ _ ⟨trivial, ?_⟩
        clear hK K
        have RC := Lib.hid (RM.out.keep uc)
        have UC := Lib.hid (UM.out.trans uc)
        have IC := Lib.hid ic
        have OC := Lib.hid (own_upd OM.out uc)
        clear ic uc
        refine wpT_run (fun _ => True) (fun _ _ => trivial) rfl (fun K hK => ?_)
        have hcv := zeros_conv OC.out
        go_simp
        refine hK _ _ ⟨trivial, ?_⟩
        clear hK K hcv
        refine wpT_sure rfl rfl (.string (str (encode L ++ List.replicate n 0))) (fun w' _ => by go_simp) ?_
        clear R7 U7 RM UM OM OC
        (refine wpT_run (fun _ => True) (fun _ _ => trivial) rfl (fun K hK => ?_))
        go_simp
        refine (Decode_v _ HQ.out _ (L.map (·.1)) _ IC.out HM.out).mono ?_
        rintro e w8 ⟨r8, rfl, b8, u8⟩
        refine hK _ _ ⟨trivial, ?_⟩
        clear hK K
        have R8 := Lib.hid (RC.out.keep u8)
        have U8 := Lib.hid (UC.out.trans u8)
        have B8 := Lib.hid b8
        clear b8 u8
        (refine wpT_run (fun _ => True) (fun _ _ => trivial) rfl (fun K hK => ?_))
        go_simp
        refine (values_v _ L _ R8.out HL.out).mono ?_
        rintro e w9 ⟨r9, rfl, b9, u9⟩
        refine hK _ _ ⟨trivial, ?_⟩
        clear hK K
        have U9 := Lib.hid (U8.out.trans u9)
        have B8' := Lib.hid (B8.out.keep u9)
        have B9 := Lib.hid b9
        clear b9 u9
        (refine wpT_run (fun _ => True) (fun _ _ => trivial) rfl (fun K hK => ?_))
        go_simp
        refine (Bools_any _ _ _ _ _ B8'.out B9.out HX1.out HY.out HE1.out).mono ?_
        rintro e w10 ⟨rfl, u10⟩
        refine hK _ _ ⟨trivial, ?_⟩
        clear hK K
        have U10 := Lib.hid (U9.out.trans u10)
        clear u10
        refine wpT_nil ?_
        rcases HSP.out with E1 | ⟨k, d, E1, E2, E3, E4, kb⟩
        · go_wp2
          go_ret
          exact ⟨rfl, U10.out⟩
        · go_wp2
          go_ret
          exact ⟨rfl, U10.out⟩
    · go_simp
      refine (contexts_v _ L _ R7.out HL.out).mono ?_
      rintro e wc ⟨rc, rfl, ic, uc⟩
      refine hK _ _ ⟨trivial, ?_⟩
      clear hK K
      have RC := Lib.hid (R7.out.keep uc)
      have UC := Lib.hid (U7.out.trans uc)
      have IC := Lib.hid ic
      clear ic uc
      refine wpT_run (fun _ => True) (fun _ _ => trivial) rfl (fun K hK => ?_)
      obtain ⟨wm, m1, m2, m3⟩ := make_bytes n (by omega) wc
      go_simp
      refine hK _ _ ⟨trivial, ?_⟩
      clear hK K
      have RM := Lib.hid (RC.out.keep m3)
      have UM := Lib.hid (UC.out.trans m3)
      have IM := Lib.hid (IC.out.keep m3)
      have OM := Lib.hid m2
      clear m1 m2 m3
      refine wpT_run (fun _ => True) (fun _ _ => trivial) rfl (fun K hK => ?_)
      have hcv := zeros_conv OM.out
      go_simp
      refine hK _ _ ⟨trivial, ?_⟩
      clear hK K hcv
      refine wpT_sure rfl rfl (.string (str (encode L ++ List.replicate n 0))) (fun w' _ => by go_simp) ?_
      clear R7 U7 RC UC IC OM
      have RC := RM
      have UC := UM
      have IC := IM
      clear RM UM IM
      (refine wpT_run (fun _ => True) (fun _ _ => trivial) rfl (fun K hK => ?_))
      go_simp
      refine (Decode_v _ HQ.out _ (L.map (·.1)) _ IC.out HM.out).mono ?_
      rintro e w8 ⟨r8, rfl, b8, u8⟩
      refine hK _ _ ⟨trivial, ?_⟩
      clear hK K
      have R8 := Lib.hid (RC.out.keep u8)
      have U8 := Lib.hid (UC.out.trans u8)
      have B8 := Lib.hid b8
      clear b8 u8
      (refine wpT_run (fun _ => True) (fun _ _ => trivial) rfl (fun K hK => ?_))
      go_simp
      refine (values_v _ L _ R8.out HL.out).mono ?_
      rintro e w9 ⟨r9, rfl, b9, u9⟩
      refine hK _ _ ⟨trivial, ?_⟩
      clear hK K
      have U9 := Lib.hid (U8.out.trans u9)
      have B8' := Lib.hid (B8.out.keep u9)
      have B9 := Lib.hid b9
      clear b9 u9
      (refine wpT_run (fun _ => True) (fun _ _ => trivial) rfl (fun K hK => ?_))
      go_simp
      refine (Bools_any _ _ _ _ _ B8'.out B9.out HX1.out HY.out HE1.out).mono ?_
      rintro e w10 ⟨rfl, u10⟩
      refine hK _ _ ⟨trivial, ?_⟩
      clear hK K
      have U10 := Lib.hid (U9.out.trans u10)
      clear u10
      refine wpT_nil ?_
      rcases HSP.out with E1 | ⟨k, d, E1, E2, E3, E4, kb⟩
      · go_wp2
        go_ret
        exact ⟨rfl, U10.out⟩
      · go_wp2
        go_ret
        exact ⟨rfl, U10.out⟩
end Go.Proofs.YtadfolnhomongaaDoor
