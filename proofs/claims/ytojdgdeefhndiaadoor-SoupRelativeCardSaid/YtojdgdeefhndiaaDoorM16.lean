/- Strings as lists of numbers below 256. No condition. Rows of bytes in the call's own memory, and strings made of them. No condition. Numbers as digits to the base 65536. No condition. Plain laws of the polygon files' texts: words, lines, decimals. No condition. -/
import Derived.Test.YtojdgdeefhndiaaDoorM2
import Derived.Test.YtojdgdeefhndiaaDoorM15
import Derived.Test.YtojdgdeefhndiaaDoorM9
import Derived.Test.YtojdgdeefhndiaaDoorM7
namespace Go.Proofs.YtojdgdeefhndiaaDoor
open Go Go.RowKit

def byteV (d : Nat) : Value := .int .u8 d
def str (l : List Nat) : ByteArray := ⟨(l.map UInt8.ofNat).toArray⟩
theorem str_size (l : List Nat) : (str l).size = l.length := by simp [str, ByteArray.size]
theorem str_data (l : List Nat) : (str l).data.toList = l.map UInt8.ofNat := rfl
theorem str_toList (l : List Nat) : (str l).toList = l.map UInt8.ofNat := ByteArray.toList_mk _
theorem str_nil : str [] = ByteArray.empty := rfl
theorem str_extract (l : List Nat) (a b : Nat) : (str l).extract a b = str ((l.drop a).take (b - a)) := by
  unfold str; rw [ByteArray.extract_mk, List.map_take, List.map_drop]
theorem str_get {l : List Nat} {i : Nat} (h : i < l.length) (hb : ∀ d, d ∈ l → d < 256) (h' : i < (str l).size) : ((str l)[i]'h').toNat = l[i] := by
  have e : (str l)[i]'h' = UInt8.ofNat l[i] := by
    show (str l).data[i]'_ = _
    simp [str]
  rw [e]
  have := hb l[i] (List.getElem_mem h)
  simp; omega
theorem ofNat_inj {a b : Nat} (ha : a < 256) (hb : b < 256) (h : UInt8.ofNat a = UInt8.ofNat b) : a = b := by
  have := congrArg UInt8.toNat h
  simp at this
  omega
theorem map_ofNat_inj : ∀ {a b : List Nat}, (∀ d, d ∈ a → d < 256) → (∀ d, d ∈ b → d < 256) → a.map UInt8.ofNat = b.map UInt8.ofNat → a = b
  | [], [], _, _, _ => rfl
  | [], _ :: _, _, _, h => by simp at h
  | _ :: _, [], _, _, h => by simp at h
  | x :: a, y :: b, ha, hb, h => by
    simp only [List.map_cons, List.cons.injEq] at h
    rw [ofNat_inj (ha x (by simp)) (hb y (by simp)) h.1, map_ofNat_inj (fun d hd => ha d (by simp [hd])) (fun d hd => hb d (by simp [hd])) h.2]
theorem str_inj {a b : List Nat} (ha : ∀ d, d ∈ a → d < 256) (hb : ∀ d, d ∈ b → d < 256) (h : str a = str b) : a = b :=
  map_ofNat_inj ha hb (by rw [← str_data, ← str_data, h])
theorem str_append (a b : List Nat) : str a ++ str b = str (a ++ b) := by
  apply ByteArray.ext
  simp [str]
/-- Any string is one of these. -/
def bytesOf (s : ByteArray) : List Nat := s.data.toList.map UInt8.toNat
theorem bytesOf_lt (s : ByteArray) : ∀ d, d ∈ bytesOf s → d < 256 := by
  intro d hd
  obtain ⟨u, _, rfl⟩ := List.mem_map.1 hd
  exact u.toNat_lt
theorem str_bytesOf (s : ByteArray) : str (bytesOf s) = s := by
  apply ByteArray.ext
  show ((bytesOf s).map UInt8.ofNat).toArray = s.data
  have e : UInt8.ofNat ∘ UInt8.toNat = id := funext fun u => by simp
  rw [bytesOf, List.map_map, e, List.map_id]
theorem bytesOf_length (s : ByteArray) : (bytesOf s).length = s.size := by unfold bytesOf; rw [List.length_map]; rfl
theorem bytesOf_str {l : List Nat} (h : ∀ d, d ∈ l → d < 256) : bytesOf (str l) = l :=
  str_inj (bytesOf_lt _) h (str_bytesOf _)

theorem strOfNums_cast (l : List Nat) : strOfNums (l.map fun (d : Nat) => (d : Int)) = str l := by
  simp [strOfNums, str, Function.comp_def]

/-- A row of bytes that the call owns, made a string. -/
theorem conv_own {P : Program} {w : World} {base : Nat} {src e dst : TypeId} {v : Value} {l : List Nat} (hs : P.underlying src = some (.slice e)) (he : P.underlying e = some (.int .u8)) (hd : P.underlying dst = some .string)
    (hown : w.ownsRow base e 1 v l.length (l.map byteV)) : (convert src dst v).run P w = .ok (.string (str l)) w := by
  rcases hown.2 with ⟨rfl, h0⟩ | ⟨g, cap, cur, rfl, _, hg, _, _, hsz, htake⟩
  · rw [run_convert_bytes_nil w src e hs he 0 0 dst hd, List.eq_nil_of_length_eq_zero h0]; rfl
  · rw [run_convert_bytes_arg w src e hs he g 0 l.length cap (l.map fun (d : Nat) => (d : Int)) (by simp) (fun i hi => ?_) dst hd, strOfNums_cast]
    rw [Nat.zero_add, hown.cellAt i (by omega)]
    simp [byteV, hi]

/-- Two strings put together. -/
theorem run_add {P : Program} {a b c : List Nat} (h : a.length + b.length ≤ 9223372036854775807) (hc : a ++ b = c) (w : World) : (Op.stringOp .add (str a) (str b)).run P w = .ok (.string (str c)) w := by
  rw [run_string_add_sum (P := P) w (str a) (str b) (by rw [str_size, str_size]; exact h), str_append, hc]

/-- How long a string value is. -/
def lenOfV : Value → Nat | .string s => s.size | _ => 0
end Go.Proofs.YtojdgdeefhndiaaDoor
namespace Go.Proofs.YtojdgdeefhndiaaDoor
open Go Go.RowKit Sp
set_option maxRecDepth 100000

theorem info_u8 : (Tryd.prog.info? 5).map (fun i => (i.zero, i.size, i.bytes)) = some (some (.int .u8 0), 1, 1) := by kernel_rfl
def byV (l : Bytes) : List Value := l.map fun c => Value.int .u8 c.toNat
theorem byV_str (l : Bytes) : byV l = (l.map UInt8.toNat).map byteV := by simp [byV, byteV]
theorem str_bs (l : Bytes) : str (l.map UInt8.toNat) = bs l := by
  unfold str bs
  rw [List.map_map]
  have e : UInt8.ofNat ∘ UInt8.toNat = id := funext fun u => by simp
  rw [e, List.map_id]
theorem conv_bs {w : World} {base n : Nat} {v : Value} {l : Bytes} (hn : n = l.length) (hown : w.ownsRow base 5 1 v n (byV l)) : (convert 50 9 v).run Tryd.prog w = .ok (.string (bs l)) w := by
  subst hn
  rw [byV_str] at hown
  have := conv_own (P := Tryd.prog) (src := 50) (e := 5) (dst := 9) (l := l.map UInt8.toNat) Tryd.underlying50 Tryd.underlying5 Tryd.underlying9 (by rw [List.length_map]; exact hown)
  rw [str_bs] at this
  exact this
/-- One byte more, the row from a block on. -/
theorem append_by {w : World} {base : Nat} (hb : base ≤ w.heap.size) {v : Value} {l : Bytes} (h : w.ownsRow base 5 1 v l.length (byV l)) (c : UInt8) (hl : l.length < 4294967296) :
    ∃ g cap w', (Builtin.append_ #[50, 50] 50 #[v, .slice (some ⟨w.heap.size, 0, none⟩) 1 1]).run Tryd.prog (w.alloc (.cells #[.int .u8 c.toNat] 5)) = .ok (.slice (some ⟨g, 0, none⟩) (l.length + 1) cap) w' ∧
      w'.ownsRow base 5 1 (.slice (some ⟨g, 0, none⟩) (l.length + 1) cap) (l ++ [c]).length (byV (l ++ [c])) ∧ Upd (fun k => v.ownBlock = some k) w w' := by
  obtain ⟨i0, hi0, hz0, hz1, hz2⟩ := info_parts info_u8
  obtain ⟨g, cap, w', r, o, gr, _, _⟩ := append_one (P := Tryd.prog) w 50 50 5 i0 _ 1 1 Tryd.underlying50 hi0 hz0 hz1 hz2 rfl (by omega) h hb [.int .u8 c.toNat] rfl (by simp [Value.oneCell']) (by unfold maxLen; omega) (by omega)
  refine ⟨g, cap, w', r, ?_, (upd_of_grown (World.grownBy_alloc w _ v.ownBlock) (fun j hj _ => hj)).trans (upd_of_grown gr (fun j hj _ => hj))⟩
  have e : byV (l ++ [c]) = byV l ++ [.int .u8 c.toNat] := by simp [byV]
  rw [e, List.length_append]
  exact o
/-- n bytes of a number, the least significant one first. -/
def leB : Nat → Nat → Bytes
  | 0, _ => []
  | n + 1, v => UInt8.ofNat v :: leB n (v / 256)
theorem leB_length : ∀ (n v : Nat), (leB n v).length = n
  | 0, _ => rfl
  | n + 1, v => by rw [leB, List.length_cons, leB_length n]
/-- What a function that makes a string comes to. -/
def strR (s : Bytes) (w : World) (en : Ending) (w' : World) : Prop := en = .returned (.string (bs s)) ∧ Upd noBlk w w'
end Go.Proofs.YtojdgdeefhndiaaDoor
namespace Go.Proofs.YtojdgdeefhndiaaDoor
open Go Go.RowKit Sp
namespace Bg
/-- The digits of a number below 2^32. -/
def dg (n : Nat) : List Nat := if n = 0 then [] else if n < 65536 then [n] else [n % 65536, n / 65536]
def valL : List Nat → Nat
  | [] => 0
  | a :: r => a + 65536 * valL r
def trimS (l : List Nat) : List Nat := (l.reverse.dropWhile (· == 0)).reverse
theorem trimS_nil : trimS [] = [] := rfl
theorem trimS_snoc0 (l : List Nat) : trimS (l ++ [0]) = trimS l := by unfold trimS; simp
theorem trimS_snoc (l : List Nat) {a : Nat} (h : a ≠ 0) : trimS (l ++ [a]) = l ++ [a] := by unfold trimS; simp [h]
theorem trim1 (a : Nat) (h : a < 65536) : trimS [a] = dg a := by
  unfold dg
  by_cases h0 : a = 0
  · subst h0; rw [if_pos rfl]; exact trimS_snoc0 []
  · rw [if_neg h0, if_pos h]; exact trimS_snoc [] h0
theorem trim2 (a b : Nat) (ha : a < 65536) (hb : b < 65536) : trimS [a, b] = dg (a + 65536 * b) := by
  by_cases h0 : b = 0
  · subst h0
    rw [show ([a, 0] : List Nat) = [a] ++ [0] from rfl, trimS_snoc0, trim1 a ha]; simp
  · rw [show ([a, b] : List Nat) = [a] ++ [b] from rfl, trimS_snoc [a] h0]
    unfold dg
    rw [if_neg (by omega), if_neg (by omega)]
    have h1 : (a + 65536 * b) % 65536 = a := by omega
    have h2 : (a + 65536 * b) / 65536 = b := by omega
    rw [h1, h2]; rfl
theorem dg0 : dg 0 = [] := rfl
theorem dg1 {n : Nat} (h0 : n ≠ 0) (h : n < 65536) : dg n = [n] := by unfold dg; rw [if_neg h0, if_pos h]
theorem dg2 {n : Nat} (h : 65536 ≤ n) : dg n = [n % 65536, n / 65536] := by unfold dg; rw [if_neg (by omega), if_neg (by omega)]
theorem dg_cases (n : Nat) : (n = 0 ∧ dg n = []) ∨ ((n ≠ 0 ∧ n < 65536) ∧ dg n = [n]) ∨ (65536 ≤ n ∧ dg n = [n % 65536, n / 65536]) := by
  by_cases h0 : n = 0
  · subst h0; exact .inl ⟨rfl, rfl⟩
  · by_cases h : n < 65536
    · exact .inr (.inl ⟨⟨h0, h⟩, dg1 h0 h⟩)
    · exact .inr (.inr ⟨by omega, dg2 (by omega)⟩)
theorem dg_le (n : Nat) : (dg n).length ≤ 2 := by
  rcases dg_cases n with ⟨_, h⟩ | ⟨_, h⟩ | ⟨_, h⟩ <;> rw [h] <;> simp
theorem dg_val {n : Nat} : valL (dg n) = n := by
  rcases dg_cases n with ⟨h0, h⟩ | ⟨h0, h⟩ | ⟨h0, h⟩ <;> rw [h] <;> simp [valL] <;> omega
theorem dg_lt {n : Nat} (hn : n < 4294967296) : ∀ d, d ∈ dg n → d < 65536 := by
  intro d hd
  rcases dg_cases n with ⟨h0, h⟩ | ⟨h0, h⟩ | ⟨h0, h⟩ <;> rw [h] at hd
  · cases hd
  · rw [List.mem_singleton] at hd; omega
  · simp at hd; omega
/-- Digits below the base, at most two: without zeros behind they are those of their value. -/
theorem trim_dg {l : List Nat} (hl : l.length ≤ 2) (h : ∀ d, d ∈ l → d < 65536) : trimS l = dg (valL l) := by
  match l, hl with
  | [], _ => rfl
  | [a], _ => rw [trim1 a (h a (by simp))]; simp [valL]
  | [a, b], _ => rw [trim2 a b (h a (by simp)) (h b (by simp))]; simp [valL]
  | _ :: _ :: _ :: _, hl => exact absurd hl (by simp)
/-- A number in decimal. -/
def dec0 (n : Nat) (s : Bytes) : Bytes := if h : n = 0 then s else dec0 (n / 10) (UInt8.ofNat (48 + n % 10) :: s)
termination_by n
decreasing_by omega
def dec (n : Nat) : Bytes := if n = 0 then [48] else dec0 n []
theorem dec0_step {n : Nat} (h : 0 < n) (s : Bytes) : dec0 n s = dec0 (n / 10) (UInt8.ofNat (48 + n % 10) :: s) := by
  conv => lhs; rw [dec0]
  rw [dif_neg (by omega)]
theorem dec0_zero (s : Bytes) : dec0 0 s = s := by rw [dec0, dif_pos rfl]
/-- The bytes of a number below 2^24, the greatest first. -/
def mag (n : Nat) : Bytes := if n = 0 then [] else if n < 256 then [UInt8.ofNat n] else if n < 65536 then [UInt8.ofNat (n / 256), UInt8.ofNat (n % 256)] else [UInt8.ofNat (n / 65536), UInt8.ofNat (n % 65536 / 256), UInt8.ofNat (n % 256)]
end Bg
open Bg
def intV (n : Nat) : Value := .int .i64 n
/-- A row of numbers in memory from a block on. -/
def OwnN (base : Nat) (w : World) (v : Value) (l : List Nat) : Prop := w.ownsRow base 3 1 v l.length (l.map intV)
theorem OwnN.nil (base : Nat) (w : World) : OwnN base w (.slice none 0 0) [] := World.ownsRow_nil _ _ _ _
theorem OwnN.upd {w w' : World} {base : Nat} {v : Value} {l : List Nat} (h : OwnN base w v l) (hu : Upd noBlk w w') : OwnN base w' v l := ownsRow_upd h hu
theorem OwnN.mono {w : World} {base base' : Nat} {v : Value} {l : List Nat} (h : OwnN base w v l) (hb : base' ≤ base) : OwnN base' w v l := ownsRow_base h hb
theorem OwnN.keep {F : Nat → Prop} {w w' : World} {base : Nat} {v : Value} {l : List Nat} (h : OwnN base w v l) (hu : Upd F w w') (hv : ∀ k, F k → v.ownBlock ≠ some k) : OwnN base w' v l :=
  ownsRow_keep h (fun g hg => hu.block g (h.lt g hg).2 (fun hf => hv g hf hg))
theorem OwnN.form {w : World} {base : Nat} {v : Value} {l : List Nat} (h : OwnN base w v l) : ∃ A cap, v = .slice A l.length cap := own_form h
/-- The cells of a row. -/
theorem OwnN.cells {w : World} {base : Nat} {v : Value} {l : List Nat} (h : OwnN base w v l) (h0 : 0 < l.length) : ∃ g cap, v = .slice (some ⟨g, 0, none⟩) l.length cap ∧ (∀ j (hj : j < l.length), w.cell? ⟨g, j, none⟩ = some (.int .i64 (l[j] : Nat))) ∧ l.length ≤ cap ∧ cap ≤ maxLen ∧ base ≤ g ∧ g < w.heap.size := by
  rcases h.2 with ⟨_, h1⟩ | ⟨g, cap, cur, rfl, hb, hg, h1, h2, _⟩
  · omega
  · refine ⟨g, cap, rfl, fun j hj => ?_, h1, h2, hb, lt_of_heap hg⟩
    rw [World.ownsRow.cellAt h j (by omega), List.getElem?_map, List.getElem?_eq_getElem hj]; rfl
/-- The same row with fewer places. -/
theorem OwnN.take {w : World} {base g cap : Nat} {l : List Nat} {n : Nat} (h : OwnN base w (.slice (some ⟨g, 0, none⟩) n cap) l) (hn : n = l.length) (k : Nat) (hk : k ≤ l.length) : OwnN base w (.slice (some ⟨g, 0, none⟩) k cap) (l.take k) := by
  subst hn
  refine ⟨by simp, ?_⟩
  rcases h.2 with ⟨e, _⟩ | ⟨g', cap', cur, e, hb, hg, h1, h2, h3, h4⟩
  · cases e
  · cases e
    refine .inr ⟨g, cap, cur, by rw [List.length_take, Nat.min_eq_left hk], hb, hg, by rw [List.length_take]; omega, h2, h3, ?_⟩
    rw [List.length_take, Nat.min_eq_left hk, List.map_take, ← h4, List.take_take]
    congr 1; omega
theorem info_in : (Tryd.prog.info? 3).map (fun i => (i.zero, i.size, i.bytes)) = some (some (.int .i64 0), 1, 8) := by kernel_rfl
/-- One number more, the row from a block on. -/
theorem append_n {w : World} {base : Nat} (hb : base ≤ w.heap.size) {v : Value} {l : List Nat} (h : OwnN base w v l) (c : Nat) (hl : l.length < 4294967296) :
    ∃ g cap w', (Builtin.append_ #[46, 46] 46 #[v, .slice (some ⟨w.heap.size, 0, none⟩) 1 1]).run Tryd.prog (w.alloc (.cells #[.int .i64 c] 3)) = .ok (.slice (some ⟨g, 0, none⟩) (l.length + 1) cap) w' ∧
      OwnN base w' (.slice (some ⟨g, 0, none⟩) (l.length + 1) cap) (l ++ [c]) ∧ Upd (fun k => v.ownBlock = some k) w w' := by
  obtain ⟨i0, hi0, hz0, hz1, hz2⟩ := info_parts info_in
  obtain ⟨g, cap, w', r, o, gr, _, _⟩ := append_one (P := Tryd.prog) w 46 46 3 i0 _ 1 8 Tryd.underlying46 hi0 hz0 hz1 hz2 rfl (by omega) h hb [.int .i64 c] rfl (by simp [Value.oneCell']) (by unfold maxLen; omega) (by omega)
  refine ⟨g, cap, w', r, ?_, (upd_of_grown (World.grownBy_alloc w _ v.ownBlock) (fun j hj _ => hj)).trans (upd_of_grown gr (fun j hj _ => hj))⟩
  unfold OwnN
  rw [List.map_append, List.length_append]
  exact o
end Go.Proofs.YtojdgdeefhndiaaDoor
namespace Go.Proofs.YtojdgdeefhndiaaDoor
open Go Go.RowKit
open Sp in
theorem inR_iff (x y z : Int) : inR (x, y, z) = true ↔ (0 ≤ x ∧ x ≤ 2097151 ∧ 0 ≤ y ∧ y ≤ 2097151 ∧ 0 ≤ z ∧ z ≤ 2097151) := by unfold inR maxCoord; simp
namespace Sp
open Bg
/-- A word: not empty, without blanks, ends of lines and comments. -/
def gc (c : UInt8) : Prop := blank c = false ∧ c ≠ 35 ∧ c ≠ 10
def gw (w : Bytes) : Prop := w ≠ [] ∧ ∀ c, c ∈ w → gc c
/-- Words with one blank between. -/
def joinW : List Bytes → Bytes
  | [] => []
  | [w] => w
  | w :: v :: r => w ++ 32 :: joinW (v :: r)
theorem joinW_mem : ∀ {ws : List Bytes} {c : UInt8}, c ∈ joinW ws → c = 32 ∨ ∃ w, w ∈ ws ∧ c ∈ w
  | [w], c, h => .inr ⟨w, by simp, h⟩
  | w :: v :: r, c, h => by
    rw [joinW, List.mem_append, List.mem_cons] at h
    rcases h with h | h | h
    · exact .inr ⟨w, by simp, h⟩
    · exact .inl h
    · rcases joinW_mem h with h | ⟨x, h1, h2⟩
      · exact .inl h
      · exact .inr ⟨x, by simp [h1], h2⟩
theorem ahead_id : ∀ {l : Bytes}, (∀ c, c ∈ l → c ≠ 35) → ahead l = l
  | [], _ => rfl
  | c :: r, h => by rw [ahead, if_neg (h c (by simp)), ahead_id (fun d hd => h d (by simp [hd]))]
theorem fieldsGo_end {x : Bytes} (h : gw x) : fieldsGo [] x = [x] := by
  have := fieldsGo_run x [] [] (fun c hc => (h.2 c hc).1)
  rw [List.append_nil] at this
  rw [this, List.nil_append, fieldsGo, flush_ne h.1]
theorem fieldsGo_join : ∀ {ws : List Bytes}, (∀ w, w ∈ ws → gw w) → fieldsGo [] (joinW ws) = ws
  | [], _ => rfl
  | [w], h => fieldsGo_end (h w (by simp))
  | w :: v :: r, h => by
    rw [joinW, fieldsGo_run w [] _ (fun c hc => ((h w (by simp)).2 c hc).1), fieldsGo, if_pos (show blank 32 = true from rfl), List.nil_append, flush_ne (h w (by simp)).1, fieldsGo_join (fun x hx => h x (by simp at hx ⊢; exact .inr hx))]
    rfl
theorem wordsOf_join {ws : List Bytes} (h : ∀ w, w ∈ ws → gw w) : wordsOf (joinW ws) = ws := by
  unfold wordsOf
  rw [ahead_id (fun c hc => ?_), fieldsGo_join h]
  rcases joinW_mem hc with rfl | ⟨w, h1, h2⟩
  · decide
  · exact ((h w h1).2 c h2).2.1
theorem joinW_line {ws : List Bytes} (h : ∀ w, w ∈ ws → gw w) : ∀ c, c ∈ joinW ws → c ≠ 10 := by
  intro c hc
  rcases joinW_mem hc with rfl | ⟨w, h1, h2⟩
  · decide
  · exact ((h w h1).2 c h2).2.2
theorem linesGo_line : ∀ (l cur t : Bytes), (∀ c, c ∈ l → c ≠ 10) → linesGo cur (l ++ 10 :: t) = (cur ++ l) :: linesGo [] t
  | [], cur, t, _ => by rw [List.nil_append, linesGo, if_pos rfl, List.append_nil]
  | c :: l, cur, t, h => by
    rw [List.cons_append, linesGo, if_neg (h c (by simp)), linesGo_line l _ t (fun d hd => h d (by simp [hd])), List.append_assoc]; rfl
/-- Lines, each with its end. -/
def joinL (ls : List Bytes) : Bytes := ls.flatMap (fun l => l ++ [10])
theorem linesOf_join : ∀ (ls : List Bytes) (t : Bytes), (∀ l, l ∈ ls → ∀ c, c ∈ l → c ≠ 10) → linesOf (joinL ls ++ t) = ls ++ linesOf t
  | [], t, _ => rfl
  | l :: r, t, h => by
    have e : joinL (l :: r) ++ t = l ++ 10 :: (joinL r ++ t) := by simp [joinL]
    rw [e]
    unfold linesOf
    rw [linesGo_line l [] _ (h l (by simp))]
    have := linesOf_join r t (fun x hx => h x (by simp [hx]))
    unfold linesOf at this
    rw [this]; rfl
/-! ### Decimals -/
theorem dig_gc {d : Nat} (h : d < 10) : gc (UInt8.ofNat (48 + d)) ∧ isDig (UInt8.ofNat (48 + d)) = true ∧ (UInt8.ofNat (48 + d)).toNat = 48 + d := by
  have e : ∀ d, d < 10 → (gc (UInt8.ofNat (48 + d)) ∧ isDig (UInt8.ofNat (48 + d)) = true ∧ (UInt8.ofNat (48 + d)).toNat = 48 + d) := by
    unfold gc; decide
  exact e d h
theorem natOf_cons (c : UInt8) (s : Bytes) : natOf (c :: s) = (c.toNat - 48) * 10 ^ s.length + natOf s := by
  unfold natOf
  have key : ∀ (s : Bytes) (a : Nat), s.foldl (fun a c => 10 * a + (c.toNat - 48)) a = a * 10 ^ s.length + s.foldl (fun a c => 10 * a + (c.toNat - 48)) 0 := by
    intro s
    induction s with
    | nil => intro a; simp
    | cons x s ih =>
      intro a
      rw [List.foldl_cons, List.foldl_cons, ih (10 * a + (x.toNat - 48)), ih (10 * 0 + (x.toNat - 48)), List.length_cons, Nat.pow_succ, Nat.add_mul]
      rw [show 10 * a * 10 ^ s.length = a * (10 ^ s.length * 10) by rw [Nat.mul_comm 10 a, Nat.mul_assoc, Nat.mul_comm 10]]
      simp only [Nat.mul_zero, Nat.zero_add]; omega
  rw [List.foldl_cons, key]; simp
theorem dec0_facts : ∀ (n : Nat) (s : Bytes), (∀ c, c ∈ s → gc c ∧ isDig c = true) → (∀ c, c ∈ dec0 n s → gc c ∧ isDig c = true) ∧ natOf (dec0 n s) = n * 10 ^ s.length + natOf s ∧ s.length ≤ (dec0 n s).length ∧ (0 < n → s.length < (dec0 n s).length) ∧ (∀ k, n < 10 ^ k → (dec0 n s).length ≤ s.length + k) := by
  intro n
  induction n using Nat.strongRecOn with
  | ind n ih =>
    intro s hs
    by_cases h0 : n = 0
    · subst h0
      rw [dec0_zero]
      exact ⟨hs, by simp, Nat.le_refl _, fun h => absurd h (by omega), fun k _ => by omega⟩
    · rw [dec0_step (by omega)]
      obtain ⟨g1, g2, g3⟩ := dig_gc (show n % 10 < 10 by omega)
      obtain ⟨i1, i2, i3, i4, i5⟩ := ih (n / 10) (by omega) (UInt8.ofNat (48 + n % 10) :: s) (fun c hc => by
        rw [List.mem_cons] at hc
        rcases hc with rfl | hc
        · exact ⟨g1, g2⟩
        · exact hs c hc)
      rw [List.length_cons] at i2 i3 i5
      refine ⟨i1, ?_, by omega, fun _ => by omega, fun k hk => ?_⟩
      · rw [i2, natOf_cons, g3, Nat.pow_succ, Nat.add_sub_cancel_left]
        have : n / 10 * (10 ^ s.length * 10) = n / 10 * 10 * 10 ^ s.length := by rw [Nat.mul_comm (10 ^ s.length) 10, Nat.mul_assoc]
        rw [this, ← Nat.add_assoc, ← Nat.add_mul]
        congr 2; omega
      · cases k with
        | zero => simp at hk; omega
        | succ k =>
          rw [Nat.pow_succ] at hk
          have := i5 k (by omega)
          omega
theorem dec_facts (n : Nat) : (∀ c, c ∈ dec n → gc c ∧ isDig c = true) ∧ natOf (dec n) = n ∧ dec n ≠ [] ∧ (∀ k, 0 < k → n < 10 ^ k → (dec n).length ≤ k) := by
  unfold dec
  by_cases h : n = 0
  · rw [if_pos h]
    refine ⟨fun c hc => ?_, by rw [h]; rfl, by simp, fun k hk _ => by simp; omega⟩
    rw [List.mem_singleton] at hc
    subst hc
    unfold gc; decide
  · rw [if_neg h]
    obtain ⟨i1, i2, i3, i4, i5⟩ := dec0_facts n [] (fun c hc => by cases hc)
    refine ⟨i1, by simpa [natOf] using i2, fun e => ?_, fun k _ hk => by simpa using i5 k hk⟩
    have := i4 (by omega)
    rw [e] at this
    simp at this
theorem dec_gw (n : Nat) : gw (dec n) := ⟨(dec_facts n).2.2.1, fun c hc => ((dec_facts n).1 c hc).1⟩
theorem dig_ne {c : UInt8} (h : isDig c = true) : c ≠ 45 := by
  intro e; subst e; revert h; decide
theorem dec_head (n : Nat) : (dec n).head? ≠ some 45 := by
  intro h
  have hm : (45 : UInt8) ∈ dec n := List.mem_of_mem_head? (by rw [h]; rfl)
  exact dig_ne ((dec_facts n).1 _ hm).2 rfl
theorem unminus_dec (n : Nat) : unminus (dec n) = dec n := by
  have h := dec_head n
  cases he : dec n with
  | nil => exact absurd he (dec_facts n).2.2.1
  | cons c r =>
    rw [he] at h
    show (if c = 45 then r else c :: r) = c :: r
    rw [if_neg (fun e => h (by rw [e]; rfl))]
theorem isNum_dec (n : Nat) : isNum (dec n) = true := by
  unfold isNum
  rw [unminus_dec, Bool.and_eq_true, Bool.not_eq_true', List.isEmpty_eq_false_iff, List.all_eq_true]
  exact ⟨(dec_facts n).2.2.1, fun c hc => ((dec_facts n).1 c hc).2⟩
theorem long_dec {n : Nat} (h : n < 1000000000000000) : long (dec n) = false := by
  unfold long
  rw [unminus_dec, decide_eq_false_iff_not]
  have := (dec_facts n).2.2.2 15 (by decide) (by simpa using h)
  omega
theorem valOf_dec (n : Nat) : valOf (dec n) = n := by
  unfold valOf
  rw [if_neg (dec_head n), unminus_dec, (dec_facts n).2.1]
theorem numbersS_dec (ns : List Nat) (h : ∀ n, n ∈ ns → n < 1000000000000000) : numbersS (ns.map dec) = .ok (ns.map (fun n : Nat => (n : Int))) := by
  unfold numbersS
  have h1 : (ns.map dec).all isNum = true := by rw [List.all_eq_true]; intro w hw; obtain ⟨n, _, rfl⟩ := List.mem_map.1 hw; exact isNum_dec n
  have h2 : (ns.map dec).any long = false := by
    rw [List.any_eq_false]
    intro w hw
    obtain ⟨n, hn, rfl⟩ := List.mem_map.1 hw
    rw [long_dec (h n hn)]; simp
  rw [h1, h2]
  simp [valOf_dec]
/-- The words of a corner. -/
def ptW (p : Pt) : List Bytes := [dec p.1.toNat, dec p.2.1.toNat, dec p.2.2.toNat]
theorem cornerS_ptW {p : Pt} (h : inR p = true) : cornerS (ptW p) = .ok p := by
  obtain ⟨x, y, z⟩ := p
  obtain ⟨h1, h2, h3, h4, h5, h6⟩ := (inR_iff x y z).1 h
  obtain ⟨a, rfl⟩ : ∃ a : Nat, x = a := ⟨x.toNat, by omega⟩
  obtain ⟨b, rfl⟩ : ∃ b : Nat, y = b := ⟨y.toNat, by omega⟩
  obtain ⟨c, rfl⟩ : ∃ c : Nat, z = c := ⟨z.toNat, by omega⟩
  have hn := numbersS_dec [a, b, c] (fun n hn => by simp at hn; omega)
  unfold ptW cornerS
  simp only [Int.toNat_natCast]
  simp only [List.map_cons, List.map_nil] at hn
  rw [hn]
  simp only [valOf_dec]
  rw [if_pos h]
theorem ptW_gw (p : Pt) : ∀ w, w ∈ ptW p → gw w := by
  intro w hw
  simp only [ptW, List.mem_cons, List.not_mem_nil, or_false] at hw
  rcases hw with rfl | rfl | rfl <;> exact dec_gw _
end Sp
end Go.Proofs.YtojdgdeefhndiaaDoor
