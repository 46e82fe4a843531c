/- Walk: the reference's Encode. -/
import Derived.Test.YtadfolnhomongaaDoorWalkR6
namespace Go.Proofs.YtadfolnhomongaaDoor
open Go Go.RowKit Pc
set_option maxRecDepth 100000

set_option maxHeartbeats 1000000 in
theorem rEncode_any (b off cap : Nat) (l : List (Int × Bool)) (w : World) (hlen : l.length ≤ 100000) (hc : ∀ j u, (l.flatMap bitV)[j]? = some u → w.cell? ⟨b, off + j, none⟩ = some u) :
    Calls Tryd.prog 16 #[.slice (some ⟨b, off, none⟩) l.length cap] w fun e w' => e = .returned (.string (str (encode l))) ∧ Upd noBlk w w' := by
  go_enter Tryd.func16, Tryd.ntmps16
  go_wp2_with (go_at_call 32; refine (rNewWriter_any _).mono ?_; rintro e w' ⟨rfl, rfl⟩)
  go_loopw [4] (fun i wr => ∃ k : Nat, i = .int .i64 k ∧ k ≤ l.length ∧ ∃ F, RWRep wr w.heap.size (encFrom E.init (l.take k)) F ∧ NewF F w ∧ Upd noBlk w wr) (fun i _ => l.length - (intOf i).toNat)
  case atStart => exact ⟨0, rfl, Nat.zero_le _, _, rNewWriter_rep w, fun k hk => by subst hk; exact Nat.le_refl _, (Upd.refl _ _).alloc _⟩
  case round =>
    obtain ⟨k, rfl, hk, F, h1, h2, h3⟩ := hrel
    have hd := encFrom_done_length E.init (l.take k)
    have hd2 : (encFrom E.init (l.take k)).done.length + 1 ≤ 1000000 := by
      have : (E.init.done).length = 0 := rfl
      have := List.length_take_le k l
      omega
    have HD := Lib.hid hd2
    have HC := Lib.hid hc
    have hkb : ((k : Nat) : Int) ≤ 100000 := by omega
    clear hd hd2 hc hlen
    by_cases hlt : k < l.length
    · have c0 : wr.cell? ⟨b, off + k * 2, none⟩ = some (.int .i64 l[k].1) := h3.cell (HC.out _ _ (bitV_get hlt).1) id
      have c1 : wr.cell? ⟨b, off + k * 2 + 1, none⟩ = some (.bool l[k].2) := h3.cell (HC.out _ _ (bitV_get hlt).2) id
      have H1 : Hid (RWRep wr.drew w.heap.size (encFrom E.init (l.take k)) F) := h1.keep fun _ _ => rfl
      have H2 := Lib.hid h2
      have H3 : Hid (Upd noBlk w wr.drew) := h3.drew
      have hk' : Hid (encFrom E.init (l.take (k + 1)) = (encFrom E.init (l.take k)).bit l[k].1 l[k].2) := by
        show _ = _; rw [take_snoc hlt, encFrom_snoc]
      clear h1 h2 h3 hk
      go_wp2_with fail
      refine wp_region_ord 11 [(0, true), (1, true), (2, true), (3, true), (4, true), (5, true), (6, true), (7, true), (8, true), (9, true), (10, true)] (fun w' => w'.cell? ⟨b, off + k * 2, none⟩ = some (.int .i64 l[k].1) ∧ w'.cell? ⟨b, off + k * 2 + 1, none⟩ = some (.bool l[k].2)) (by kernel_rfl) (by kernel_rfl)
        (fun c a d v w h => by cases d <;> exact h) ⟨c0, c1⟩ ?_
      (apply wpG_sure rfl rfl; focus (intro w' hw'; obtain ⟨g1, g2⟩ := hw'; go_simp; rfl))
      (apply wpG_sure rfl rfl; focus (intro w' hw'; obtain ⟨g1, g2⟩ := hw'; go_simp; rfl))
      (apply wpG_sure rfl rfl; focus (intro w' hw'; obtain ⟨g1, g2⟩ := hw'; go_simp; rfl))
      (apply wpG_sure rfl rfl; focus (intro w' hw'; obtain ⟨g1, g2⟩ := hw'; go_simp; rfl))
      (apply wpG_sure rfl rfl; focus (intro w' hw'; obtain ⟨g1, g2⟩ := hw'; go_simp; rfl))
      (apply wpG_sure rfl rfl; focus (intro w' hw'; obtain ⟨g1, g2⟩ := hw'; go_simp; rfl))
      (apply wpG_sure rfl rfl; focus (intro w' hw'; obtain ⟨g1, g2⟩ := hw'; go_simp; rfl))
      (apply wpG_sure rfl rfl; focus (intro w' hw'; obtain ⟨g1, g2⟩ := hw'; go_simp; rfl))
      (apply wpG_sure rfl rfl; focus (intro w' hw'; obtain ⟨g1, g2⟩ := hw'; go_simp; rfl))
      (apply wpG_sure rfl rfl; focus (intro w' hw'; obtain ⟨g1, g2⟩ := hw'; go_simp; rfl))
      (apply wpG_sure rfl rfl; focus (intro w' hw'; obtain ⟨g1, g2⟩ := hw'; go_simp; rfl))
      refine wpG_nil ?_
      go_wp2_with (go_at_call 35; refine (rWBit_any _ _ _ _ _ _ H1.out HD.out).mono ?_; rintro e w2 ⟨rfl, F', q1, q2, q3⟩)
      go_roundw
      case rel => exact ⟨k + 1, by go_num, hlt, F', by rw [hk'.out]; exact q1, fun j hj => (q3 j hj).elim (H2.out j) (fun x => Nat.le_trans H3.out.size x), upd_new H3.out q2 H2.out⟩
      case measure => simp [intOf]; omega
    · have hk' : Hid (l.take k = l) := List.take_of_length_le (by omega)
      rw [hk'.out] at h1 HD
      go_wp2_with (go_at_call 36; refine (rWFinish_any _ _ _ _ h1 HD.out).mono ?_; rintro e w2 ⟨rfl, q1⟩)
      go_ret
      exact ⟨rfl, h3.trans q1⟩

set_option maxHeartbeats 1000000 in
theorem rEncode_nil (x : Option Addr) (w : World) : Calls Tryd.prog 16 #[.slice x 0 0] w fun e w' => e = .returned (.string (str (encode []))) ∧ Upd noBlk w w' := by
  go_enter Tryd.func16, Tryd.ntmps16
  go_wp2_with (go_at_call 32; refine (rNewWriter_any _).mono ?_; rintro e w' ⟨rfl, rfl⟩)
  refine wp_loop_once ?_
  go_wp2_with (go_at_call 36; refine (rWFinish_any _ _ _ _ (rNewWriter_rep w) (by decide)).mono ?_; rintro e w2 ⟨rfl, q1⟩)
  go_ret
  exact ⟨rfl, ((Upd.refl _ _).alloc _).trans q1⟩
end Go.Proofs.YtadfolnhomongaaDoor
