/- Strings as lists of numbers below 256. No condition. -/
import Derived.Test.YtadfolnhomongaaDoorLib
namespace Go.Proofs.YtadfolnhomongaaDoor
open Go Go.RowKit

def byteV (d : Nat) : Value := .int .u8 d
def str (l : List Nat) : ByteArray := ⟨(l.map UInt8.ofNat).toArray⟩
theorem str_size (l : List Nat) : (str l).size = l.length := by simp [str, ByteArray.size]
theorem str_data (l : List Nat) : (str l).data.toList = l.map UInt8.ofNat := rfl
theorem str_toList (l : List Nat) : (str l).toList = l.map UInt8.ofNat := ByteArray.toList_mk _
theorem str_nil : str [] = ByteArray.empty := rfl
theorem str_extract (l : List Nat) (a b : Nat) : (str l).extract a b = str ((l.drop a).take (b - a)) := by
  unfold str; rw [ByteArray.extract_mk, List.map_take, List.map_drop]
theorem str_get {l : List Nat} {i : Nat} (h : i < l.length) (hb : ∀ d, d ∈ l → d < 256) (h' : i < (str l).size) : ((str l)[i]'h').toNat = l[i] := by
  have e : (str l)[i]'h' = UInt8.ofNat l[i] := by
    show (str l).data[i]'_ = _
    simp [str]
  rw [e]
  have := hb l[i] (List.getElem_mem h)
  simp; omega
theorem ofNat_inj {a b : Nat} (ha : a < 256) (hb : b < 256) (h : UInt8.ofNat a = UInt8.ofNat b) : a = b := by
  have := congrArg UInt8.toNat h
  simp at this
  omega
theorem map_ofNat_inj : ∀ {a b : List Nat}, (∀ d, d ∈ a → d < 256) → (∀ d, d ∈ b → d < 256) → a.map UInt8.ofNat = b.map UInt8.ofNat → a = b
  | [], [], _, _, _ => rfl
  | [], _ :: _, _, _, h => by simp at h
  | _ :: _, [], _, _, h => by simp at h
  | x :: a, y :: b, ha, hb, h => by
    simp only [List.map_cons, List.cons.injEq] at h
    rw [ofNat_inj (ha x (by simp)) (hb y (by simp)) h.1, map_ofNat_inj (fun d hd => ha d (by simp [hd])) (fun d hd => hb d (by simp [hd])) h.2]
theorem str_inj {a b : List Nat} (ha : ∀ d, d ∈ a → d < 256) (hb : ∀ d, d ∈ b → d < 256) (h : str a = str b) : a = b :=
  map_ofNat_inj ha hb (by rw [← str_data, ← str_data, h])
theorem str_append (a b : List Nat) : str a ++ str b = str (a ++ b) := by
  apply ByteArray.ext
  simp [str]
/-- Any string is one of these. -/
def bytesOf (s : ByteArray) : List Nat := s.data.toList.map UInt8.toNat
theorem bytesOf_lt (s : ByteArray) : ∀ d, d ∈ bytesOf s → d < 256 := by
  intro d hd
  obtain ⟨u, _, rfl⟩ := List.mem_map.1 hd
  exact u.toNat_lt
theorem str_bytesOf (s : ByteArray) : str (bytesOf s) = s := by
  apply ByteArray.ext
  show ((bytesOf s).map UInt8.ofNat).toArray = s.data
  have e : UInt8.ofNat ∘ UInt8.toNat = id := funext fun u => by simp
  rw [bytesOf, List.map_map, e, List.map_id]
theorem bytesOf_length (s : ByteArray) : (bytesOf s).length = s.size := by unfold bytesOf; rw [List.length_map]; rfl
theorem bytesOf_str {l : List Nat} (h : ∀ d, d ∈ l → d < 256) : bytesOf (str l) = l :=
  str_inj (bytesOf_lt _) h (str_bytesOf _)

theorem strOfNums_cast (l : List Nat) : strOfNums (l.map fun (d : Nat) => (d : Int)) = str l := by
  simp [strOfNums, str, Function.comp_def]

/-- A row of bytes that the call owns, made a string. -/
theorem conv_own {P : Program} {w : World} {base : Nat} {src e dst : TypeId} {v : Value} {l : List Nat} (hs : P.underlying src = some (.slice e)) (he : P.underlying e = some (.int .u8)) (hd : P.underlying dst = some .string)
    (hown : w.ownsRow base e 1 v l.length (l.map byteV)) : (convert src dst v).run P w = .ok (.string (str l)) w := by
  rcases hown.2 with ⟨rfl, h0⟩ | ⟨g, cap, cur, rfl, _, hg, _, _, hsz, htake⟩
  · rw [run_convert_bytes_nil w src e hs he 0 0 dst hd, List.eq_nil_of_length_eq_zero h0]; rfl
  · rw [run_convert_bytes_arg w src e hs he g 0 l.length cap (l.map fun (d : Nat) => (d : Int)) (by simp) (fun i hi => ?_) dst hd, strOfNums_cast]
    rw [Nat.zero_add, hown.cellAt i (by omega)]
    simp [byteV, hi]

/-- Two strings put together. -/
theorem run_add {P : Program} {a b c : List Nat} (h : a.length + b.length ≤ 9223372036854775807) (hc : a ++ b = c) (w : World) : (Op.stringOp .add (str a) (str b)).run P w = .ok (.string (str c)) w := by
  rw [run_string_add_sum (P := P) w (str a) (str b) (by rw [str_size, str_size]; exact h), str_append, hc]

/-- How long a string value is. -/
def lenOfV : Value → Nat | .string s => s.size | _ => 0
end Go.Proofs.YtadfolnhomongaaDoor
