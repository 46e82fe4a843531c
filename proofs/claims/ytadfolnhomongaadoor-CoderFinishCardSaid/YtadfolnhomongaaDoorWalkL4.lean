/- A row of bits that a law builds. No condition. -/
import Derived.Test.YtadfolnhomongaaDoorWalkL3
import Derived.Test.YtadfolnhomongaaDoorLawB
import Derived.Test.YtadfolnhomongaaDoorPureD
namespace Go.Proofs.YtadfolnhomongaaDoor
open Go Go.RowKit Pc
set_option maxRecDepth 100000

theorem info_bit : (Tryd.prog.info? 39).map (fun i => (i.zero.map (fun z => z.cells.size), i.size, i.bytes)) = some (some 2, 2, 16) := by kernel_rfl
theorem info_bit_parts : ∃ i z, Tryd.prog.info? 39 = some i ∧ i.zero = some z ∧ i.size = 2 ∧ i.bytes = 16 ∧ z.cells.size = 2 := by
  have h := info_bit
  cases hi : Tryd.prog.info? 39 with
  | none => rw [hi] at h; simp at h
  | some i =>
    rw [hi] at h
    simp only [Option.map_some, Option.some.injEq, Prod.mk.injEq, Option.map_eq_some_iff] at h
    obtain ⟨⟨z, h1, h2⟩, h3, h4⟩ := h
    exact ⟨i, z, rfl, h1, h3, h4, h2⟩

/-- A row of bits that the call owns. -/
structure BitsAt (w wr : World) (L : List (Int × Bool)) (v : Value) : Prop where
  own : wr.ownsRow w.heap.size 39 2 v L.length (L.flatMap bitV)
  up : Upd noBlk w wr
theorem BitsAt.start {w wr : World} (h : Upd noBlk w wr) : BitsAt w wr [] (.slice none 0 0) := ⟨World.ownsRow_nil _ _ _ _, h⟩
theorem BitsAt.keep {w wr w2 : World} {L : List (Int × Bool)} {v : Value} (h : BitsAt w wr L v) (hu : Upd noBlk wr w2) : BitsAt w w2 L v :=
  ⟨ownsRow_keep h.own (fun k hk => hu.block k (h.own.lt k hk).2 id), h.up.trans hu⟩
theorem BitsAt.form {w wr : World} {L : List (Int × Bool)} {v : Value} (h : BitsAt w wr L v) : ∃ a c, v = .slice a L.length c := by
  rcases h.own.2 with ⟨rfl, h0⟩ | ⟨g, cap, cur, rfl, _⟩
  · exact ⟨none, 0, by rw [h0]⟩
  · exact ⟨_, _, rfl⟩
theorem BitsAt.rd {w wr : World} {L : List (Int × Bool)} {v : Value} (h : BitsAt w wr L v) : RdBits wr v L := by
  rcases h.own.2 with ⟨rfl, h0⟩ | ⟨g, cap, cur, rfl, r⟩
  · exact .inl ⟨none, rfl, List.eq_nil_of_length_eq_zero h0⟩
  · refine .inr ⟨g, 0, cap, rfl, fun j u hu => ?_⟩
    have hj := (List.getElem?_eq_some_iff.1 hu).1
    rw [bitV_length] at hj
    rw [Nat.zero_add, h.own.cellAt j hj]; exact hu

/-- One more. -/
theorem BitsAt.more {w wr : World} {L : List (Int × Bool)} {v : Value} (h : BitsAt w wr L v) (c : Int) (b : Bool) (hl : L.length ≤ 100000) :
    ∃ g cap w', (Builtin.append_ #[22, 22] 22 #[v, .slice (some ⟨wr.heap.size, 0, none⟩) 1 1]).run Tryd.prog (wr.alloc (.cells #[.int .i64 c, .bool b] 39)) = .ok (.slice (some ⟨g, 0, none⟩) (L.length + 1) cap) w' ∧
      BitsAt w w' (L ++ [(c, b)]) (.slice (some ⟨g, 0, none⟩) (L.length + 1) cap) := by
  obtain ⟨i0, z, hi, hz, hs, hb, hzs⟩ := info_bit_parts
  obtain ⟨gg, cp, w3, r3, o3, g3, hat, hlt3⟩ := append_one wr 22 22 39 i0 z 2 16 Tryd.underlying22 hi hz hs hb hzs (by omega) h.own h.up.size [.int .i64 c, .bool b] rfl (by simp [Value.oneCell']) (by unfold maxLen; omega) (by omega)
  have hown := h.own.lt
  refine ⟨gg, cp, w3, r3, by rw [List.length_append, List.flatMap_append]; exact o3, ?_⟩
  refine h.up.then ((upd_of_grown (World.grownBy_alloc wr _ v.ownBlock) (F := inRow v) (fun k hk _ => hk)).trans (upd_of_grown g3 (fun k hk _ => hk))) (fun j hj hj' => ?_)
  have := (hown j hj').1; omega

/-- One more; which blocks may turn, and where the new row lies. -/
theorem BitsAt.more' {w wr : World} {L : List (Int × Bool)} {v : Value} (h : BitsAt w wr L v) (c : Int) (b : Bool) (hl : L.length ≤ 100000) :
    ∃ g cap w', (Builtin.append_ #[22, 22] 22 #[v, .slice (some ⟨wr.heap.size, 0, none⟩) 1 1]).run Tryd.prog (wr.alloc (.cells #[.int .i64 c, .bool b] 39)) = .ok (.slice (some ⟨g, 0, none⟩) (L.length + 1) cap) w' ∧
      BitsAt w w' (L ++ [(c, b)]) (.slice (some ⟨g, 0, none⟩) (L.length + 1) cap) ∧ Upd (inRow v) wr w' ∧ (v.ownBlock = some g ∨ wr.heap.size ≤ g) := by
  obtain ⟨i0, z, hi, hz, hs, hb, hzs⟩ := info_bit_parts
  obtain ⟨gg, cp, w3, r3, o3, g3, hat, hlt3⟩ := append_one wr 22 22 39 i0 z 2 16 Tryd.underlying22 hi hz hs hb hzs (by omega) h.own h.up.size [.int .i64 c, .bool b] rfl (by simp [Value.oneCell']) (by unfold maxLen; omega) (by omega)
  have hown := h.own.lt
  have hu := ((upd_of_grown (World.grownBy_alloc wr _ v.ownBlock) (F := inRow v) (fun k hk _ => hk)).trans (upd_of_grown g3 (fun k hk _ => hk)))
  refine ⟨gg, cp, w3, r3, ⟨by rw [List.length_append, List.flatMap_append]; exact o3, ?_⟩, hu, hat.imp id (fun h => by omega)⟩
  refine h.up.then hu (fun j hj hj' => ?_)
  have := (hown j hj').1; omega

/-- Two rows of bits that the call owns. -/
structure TwoAt (w wr : World) (X Y : List (Int × Bool)) (vx vy : Value) : Prop where
  x : BitsAt w wr X vx
  y : BitsAt w wr Y vy
  apart : ∀ g, vx.ownBlock = some g → vy.ownBlock ≠ some g
theorem TwoAt.start {w wr : World} (h : Upd noBlk w wr) : TwoAt w wr [] [] (.slice none 0 0) (.slice none 0 0) := ⟨BitsAt.start h, BitsAt.start h, fun g h => by simp [Value.ownBlock] at h⟩
theorem TwoAt.moreX {w wr : World} {X Y : List (Int × Bool)} {vx vy : Value} (h : TwoAt w wr X Y vx vy) (c : Int) (b : Bool) (hl : X.length ≤ 100000) :
    ∃ g cap w', (Builtin.append_ #[22, 22] 22 #[vx, .slice (some ⟨wr.heap.size, 0, none⟩) 1 1]).run Tryd.prog (wr.alloc (.cells #[.int .i64 c, .bool b] 39)) = .ok (.slice (some ⟨g, 0, none⟩) (X.length + 1) cap) w' ∧
      TwoAt w w' (X ++ [(c, b)]) Y (.slice (some ⟨g, 0, none⟩) (X.length + 1) cap) vy := by
  obtain ⟨g, cap, w', h1, h2, h3, h4⟩ := h.x.more' c b hl
  have hy := h.y.own.lt
  refine ⟨g, cap, w', h1, h2, ⟨ownsRow_keep h.y.own (fun k hk => h3.block k (hy k hk).2 (fun hk' => h.apart k hk' hk)), h2.up⟩, fun g' hg' hy' => ?_⟩
  have e : g = g' := by simpa [Value.ownBlock] using hg'
  subst e
  rcases h4 with h4 | h4
  · exact h.apart _ h4 hy'
  · have := (hy _ hy').2; omega
theorem TwoAt.swap {w wr : World} {X Y : List (Int × Bool)} {vx vy : Value} (h : TwoAt w wr X Y vx vy) : TwoAt w wr Y X vy vx := ⟨h.y, h.x, fun g h1 h2 => h.apart g h2 h1⟩

/-- A slice of numbers among a law's arguments. -/
def ArgNums (k : IntKind) (w : World) (v : Value) (l : List Int) : Prop :=
  (∃ x, v = .slice x 0 0 ∧ l = []) ∨ ∃ b off cap, v = .slice (some ⟨b, off, none⟩) l.length cap ∧ ((l.length : Nat) : Int) ≤ 9223372036854775807 ∧
    (∀ j (h : j < l.length), w.cell? ⟨b, off + j, none⟩ = some (.int k l[j])) ∧ ∀ n, n ∈ l → (Lit.int k n).wf = true
end Go.Proofs.YtadfolnhomongaaDoor
