/- Walk: the reference's Decode. -/
import Derived.Test.YtadfolnhomongaaDoorWalkR2
namespace Go.Proofs.YtadfolnhomongaaDoor
open Go Go.RowKit Pc
set_option maxRecDepth 100000

/-- Decode's loop behind k contexts. -/
structure RDecAt (w wr : World) (rb : Nat) (code : List Nat) (l : List Int) (k : Nat) (v : Value) : Prop where
  rep : RR wr rb (decState (D.ofCode code) (l.take k)) (4 + k)
  new : w.heap.size ≤ rb
  own : wr.ownsRow w.heap.size 4 1 v k ((decodeFrom (D.ofCode code) (l.take k)).map Value.bool)
  apart : v.ownBlock ≠ some rb
  up : Upd noBlk w wr

set_option maxHeartbeats 1000000 in
theorem rDecode_any (b off cap : Nat) (code : List Nat) (hcode : ∀ x, x ∈ code → x < 256) (l : List Int) (hlen : l.length ≤ 100000) (w : World)
    (hc : ∀ j (h : j < l.length), w.cell? ⟨b, off + j, none⟩ = some (.int .i64 l[j])) :
    Calls Tryd.prog 22 #[.string (str code), .slice (some ⟨b, off, none⟩) l.length cap] w fun e w' => ∃ v, e = .returned v ∧
      w'.ownsRow w.heap.size 4 1 v l.length ((Pc.decode code l).map Value.bool) ∧ Upd noBlk w w' := by
  obtain ⟨i0, hi0, hz0, hz1, hz2⟩ := info_parts info_bool
  go_enter Tryd.func22, Tryd.ntmps22
  go_wp2_with (go_at_call 27; refine (rNewReader_any _ hcode _).mono ?_; rintro e w1 ⟨rfl, n1, n2⟩)
  have N1 := Lib.hid n1
  have N2 := Lib.hid n2
  clear n1 n2
  go_loopw [6, 7] (fun v i wr => ∃ k : Nat, i = .int .i64 k ∧ k ≤ l.length ∧ RDecAt w wr w.heap.size code l k v) (fun _ i _ => l.length - (intOf i).toNat)
  case atStart => exact ⟨0, rfl, Nat.zero_le _, N1.out, Nat.le_refl _, World.ownsRow_nil _ _ _ _, by simp [Value.ownBlock], N2.out⟩
  case round =>
    obtain ⟨k, rfl, hk, hd⟩ := hrel
    have HD := Lib.hid hd
    have HC := Lib.hid hc
    have hkb : ((k : Nat) : Int) ≤ 100000 := by omega
    have m2 : Hid (k + 1 ≤ maxLen) := by show _ ≤ _; unfold maxLen; omega
    have b1 : Hid ((k + 1) * 1 ≤ 140737488355328) := by show _ ≤ _; omega
    have b4 : Hid (4 + k ≤ 999999) := by show _ ≤ _; omega
    clear hd hc hlen
    by_cases hlt : k < l.length
    · have c0 : wr.cell? ⟨b, off + k, none⟩ = some (.int .i64 l[k]) := HD.out.up.cell (HC.out _ hlt) id
      have hk1 : Hid (l.take (k + 1) = l.take k ++ [l[k]]) := take_snoc hlt
      go_wp2_with fail
      refine (rRBit_any w.heap.size _ l[k] _ b4.out wr HD.out.rep).mono ?_
      rintro e w2 ⟨rfl, q1, q2⟩
      obtain ⟨gg, cp, w3, r3, o3, g3, hat, hlt3⟩ := append_one w2 27 27 4 i0 _ 1 1 Tryd.underlying27 hi0 hz0 hz1 hz2 rfl (by omega)
        (ownsRow_keep HD.out.own (fun g hg => q2.block g (HD.out.own.lt g hg).2 (fun e => HD.out.apart (by rw [hg, e])))) (Nat.le_trans HD.out.up.size q2.size) [.bool ((decState (D.ofCode code) (l.take k)).one l[k])] rfl (by simp [Value.oneCell']) m2.out b1.out
      have hup2 : Upd noBlk w w2 := upd_new HD.out.up q2 (fun j hj => by rw [hj]; exact Nat.le_refl _)
      have hnext : Hid (RDecAt w w3 w.heap.size code l (k + 1) (.slice (some ⟨gg, 0, none⟩) (k + 1) cp)) := by
        have hown := HD.out.own.lt
        refine ⟨?_, Nat.le_refl _, ?_, ?_, ?_⟩
        · rw [hk1.out, decState_snoc]
          exact (q1.upd (Upd.alloc (Upd.refl noBlk w2) _) id).upd (upd_of_grown g3 (F := inRow u6) (fun k hk _ => hk)) (fun hr => HD.out.apart hr)
        · rw [hk1.out, decodeFrom_snoc, List.map_append]; exact o3
        · intro hg
          have hg' : gg = w.heap.size := by simpa [Value.ownBlock] using hg
          rcases hat with h | h
          · exact HD.out.apart (by rw [h, hg'])
          · have := q1.lt; omega
        · refine hup2.then ((upd_of_grown (World.grownBy_alloc w2 _ u6.ownBlock) (F := inRow u6) (fun k hk _ => hk)).trans (upd_of_grown g3 (fun k hk _ => hk))) (fun j hj hj' => ?_)
          have := (hown j hj').1; omega
      have R3 := Lib.hid r3
      clear r3 o3 g3 hat hlt3 q1 q2 hup2 HC
      go_wp2_with (at_builtin; refine wpList_append_run rfl _ _ _ rfl rfl rfl R3.out ?_)
      go_roundw
      case rel => exact ⟨k + 1, by go_num, hlt, hnext.out⟩
      case measure => simp [intOf]; omega
    · have hk' : l.take k = l := List.take_of_length_le (by omega)
      have hkk : k = l.length := by omega
      have O := HD.out.own
      rw [hk', hkk] at O
      have O' := Lib.hid O
      clear O
      go_wp2
      go_ret
      exact ⟨_, rfl, O'.out, HD.out.up⟩
end Go.Proofs.YtadfolnhomongaaDoor
