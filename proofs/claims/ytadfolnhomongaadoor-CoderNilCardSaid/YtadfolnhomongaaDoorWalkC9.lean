/- Walks: the coder's NewReader and Decode. -/
import Derived.Test.YtadfolnhomongaaDoorWalkC8
namespace Go.Proofs.YtadfolnhomongaaDoor
open Go Go.RowKit Pc
set_option maxRecDepth 100000

def rZero (code : List Nat) : Array Value := #[.slice none 0 0, .int .u32 0, .string (str code), .int .u32 0]
set_option maxHeartbeats 400000 in
theorem NewReader_any (code : List Nat) (w : World) : Calls Tryd.prog 26 #[.string (str code)] w fun e w' => e = .returned (.pointer (some ⟨w.heap.size, 0, none⟩)) ∧ w.alloc (.cells (rZero code) 75) = w' := by
  go_enter Tryd.func26, Tryd.ntmps26
  go_wp2
  go_ret
  exact ⟨rfl, rfl⟩
theorem NewReader_rep {code : List Nat} (h : ∀ x, x ∈ code → x < 256) (w : World) : RRep (w.alloc (.cells (rZero code) 75)) w.heap.size (D.ofCode code) (· = w.heap.size) :=
  .inl ⟨code, h, rfl, heap_alloc_new w _, rfl⟩

theorem info_bool : (Tryd.prog.info? 4).map (fun i => (i.zero, i.size, i.bytes)) = some (some (.bool false), 1, 1) := by kernel_rfl

/-- Decode's loop behind k contexts. -/
structure DecAt (w wr : World) (rb : Nat) (code : List Nat) (l : List Int) (k : Nat) (v : Value) (F : Nat → Prop) : Prop where
  rep : RRep wr rb (decState (D.ofCode code) (l.take k)) F
  new : NewF F w
  own : wr.ownsRow w.heap.size 4 1 v k ((decodeFrom (D.ofCode code) (l.take k)).map Value.bool)
  apart : ∀ g, v.ownBlock = some g → ¬ F g
  up : Upd noBlk w wr

set_option maxHeartbeats 1000000 in
theorem Decode_any (b off cap : Nat) (code : List Nat) (hcode : ∀ x, x ∈ code → x < 256) (l : List Int) (hlen : l.length ≤ 100000) (w : World)
    (hc : ∀ j (h : j < l.length), w.cell? ⟨b, off + j, none⟩ = some (.int .i64 l[j])) :
    Calls Tryd.prog 18 #[.string (str code), .slice (some ⟨b, off, none⟩) l.length cap] w fun e w' => ∃ v, e = .returned v ∧
      w'.ownsRow w.heap.size 4 1 v l.length ((Pc.decode code l).map Value.bool) ∧ Upd noBlk w w' := by
  obtain ⟨i0, hi0, hz0, hz1, hz2⟩ := info_parts info_bool
  go_enter Tryd.func18, Tryd.ntmps18
  go_wp2_with (go_at_call 26; refine (NewReader_any _ _).mono ?_; rintro e w' ⟨rfl, rfl⟩)
  go_loopw [6, 13] (fun v i wr => ∃ k : Nat, i = .int .i64 k ∧ k ≤ l.length ∧ ∃ F, DecAt w wr w.heap.size code l k v F) (fun _ i _ => l.length - (intOf i).toNat)
  case atStart => exact ⟨0, rfl, Nat.zero_le _, _, NewReader_rep hcode w, fun k hk => by subst hk; exact Nat.le_refl _, World.ownsRow_nil _ _ _ _, fun g hg => by simp [Value.ownBlock] at hg, (Upd.refl _ _).alloc _⟩
  case round =>
    obtain ⟨k, rfl, hk, F, hd⟩ := hrel
    have HD := Lib.hid hd
    have HC := Lib.hid hc
    have hkb : ((k : Nat) : Int) ≤ 100000 := by omega
    have m2 : Hid (k + 1 ≤ maxLen) := by show _ ≤ _; unfold maxLen; omega
    have b1 : Hid ((k + 1) * 1 ≤ 140737488355328) := by show _ ≤ _; omega
    clear hd hc hlen
    by_cases hlt : k < l.length
    · have c0 : wr.cell? ⟨b, off + k, none⟩ = some (.int .i64 l[k]) := HD.out.up.cell (HC.out _ hlt) id
      have hk1 : Hid (l.take (k + 1) = l.take k ++ [l[k]]) := take_snoc hlt
      go_wp2_with fail
      refine (RBit_any w.heap.size l[k] _ F wr HD.out.rep).mono ?_
      rintro e w2 ⟨rfl, F', q1, q2, q3⟩
      obtain ⟨gg, cp, w3, r3, o3, g3, hat, hlt3⟩ := append_one w2 27 27 4 i0 _ 1 1 Tryd.underlying27 hi0 hz0 hz1 hz2 rfl (by omega)
        (ownsRow_keep HD.out.own (fun g hg => q2.block g (HD.out.own.lt g hg).2 (HD.out.apart g hg))) (Nat.le_trans HD.out.up.size q2.size) [.bool ((decState (D.ofCode code) (l.take k)).one l[k])] rfl (by simp [Value.oneCell']) m2.out b1.out
      have hup2 : Upd noBlk w w2 := upd_new HD.out.up q2 HD.out.new
      have hnext : Hid (DecAt w w3 w.heap.size code l (k + 1) (.slice (some ⟨gg, 0, none⟩) (k + 1) cp) F') := by
        have hown := HD.out.own.lt
        refine ⟨?_, ?_, ?_, ?_, ?_⟩
        · rw [hk1.out, decState_snoc]
          refine (q1.upd (Upd.alloc (Upd.refl noBlk w2) _) (fun _ _ => id)).upd (upd_of_grown g3 (F := inRow u6) (fun k hk _ => hk)) (fun j hj hr => ?_)
          rcases q3 j hj with h | h
          · exact HD.out.apart j hr h
          · have := (hown j hr).2; omega
        · intro j hj
          rcases q3 j hj with h | h
          · exact HD.out.new j h
          · exact Nat.le_trans HD.out.up.size h
        · rw [hk1.out, decodeFrom_snoc, List.map_append]; exact o3
        · intro g hg hF
          have hg' : gg = g := by simpa [Value.ownBlock] using hg
          subst hg'
          rcases hat with h | h
          · rcases q3 gg hF with h4 | h4
            · exact HD.out.apart gg h h4
            · have := (hown gg h).2; omega
          · have := q1.lt gg hF; omega
        · refine hup2.then ((upd_of_grown (World.grownBy_alloc w2 _ u6.ownBlock) (F := inRow u6) (fun k hk _ => hk)).trans (upd_of_grown g3 (fun k hk _ => hk))) (fun j hj hj' => ?_)
          have := (hown j hj').1; omega
      have R3 := Lib.hid r3
      clear r3 o3 g3 hat hlt3 q1 q2 q3 hup2 HC
      go_wp2_with (at_builtin; refine wpList_append_run rfl _ _ _ rfl rfl rfl R3.out ?_)
      go_roundw
      case rel => exact ⟨k + 1, by go_num, hlt, F', hnext.out⟩
      case measure => simp [intOf]; omega
    · have hk' : l.take k = l := List.take_of_length_le (by omega)
      have hkk : k = l.length := by omega
      have O := HD.out.own
      rw [hk', hkk] at O
      have O' := Lib.hid O
      clear O
      go_wp2
      go_ret
      exact ⟨_, rfl, O'.out, HD.out.up⟩
end Go.Proofs.YtadfolnhomongaaDoor
