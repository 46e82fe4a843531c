/- Parts: Frames by the blocks' own kinds; the kinds of the disk's and the store's rows; rows of bytes written over. No condition. SHA-256 as a plain function on bytes. No condition. Walks of the versions: guard, Reach on a root without parts. No condition. -/
import Derived.Test.YtmgklblglpplcaaGreatDoorRPubl1
import Derived.Test.YtmgklblglpplcaaGreatDoorRPubl2
import Derived.Test.YtmgklblglpplcaaGreatDoorRPubl3
import Derived.Test.YtmgklblglpplcaaGreatDoorRPubl4
import Derived.Test.YtmgklblglpplcaaGreatDoorRPubl5
import Derived.Test.YtmgklblglpplcaaGreatDoorRPubl6
import Derived.Test.YtmgklblglpplcaaGreatDoorRPubl9
import Derived.Test.YtmgklblglpplcaaGreatDoorRPubl10
import Derived.Test.YtmgklblglpplcaaGreatDoorRPubl11
import Derived.Test.YtmgklblglpplcaaGreatDoorRPubl12
import Derived.Test.YtmgklblglpplcaaGreatDoorRPubl14
import Derived.Test.YtmgklblglpplcaaGreatDoorRPubl15
import Derived.Test.YtmgklblglpplcaaGreatDoorRPubl16
import Derived.Test.YtmgklblglpplcaaGreatDoorRPubl19
import Derived.Test.YtmgklblglpplcaaGreatDoorRPubl20
import Derived.Test.YtmgklblglpplcaaGreatDoorRPubl21
import Derived.Test.YtmgklblglpplcaaGreatDoorRPubl22
import Derived.WalkKit
import Derived.WalkSpells
import Derived.WalkLawsBesides
import Derived.Lib.Hide
import Derived.BigQuiet
import Derived.Deep.DeepFit
import Derived.Deep.DeepCutAuto
import Derived.Deep.AppendLies
import Derived.Deep.QuietTactic
import Derived.Test.YtmgklblglpplcaaGreatDoorRows
import Derived.Deep.RegionHeld3
import Derived.StillTail
import Derived.Lib.AppendStr
import Derived.Lib.AppendZeros
import Derived.Deep.MidRow
import Derived.ArgAppend
import Derived.Deep.Upon
import Derived.Maps.OwnOps
import Derived.Maps.OwnSet
import Derived.Maps.RangeWalk
import Derived.WideKeyEntry
import Derived.Lib.Bits
import Derived.Laws.EntriesVeiled
import Derived.Handy
import Derived.DeepKeys4
import Derived.Deep.CutBlock
import Derived.Test.YtmgklblglpplcaaGreatDoorShelf2
import Derived.Laws.BitsAllLaws
import Derived.Laws.BytesArg
import Derived.Test.YtmgklblglpplcaaGreatDoorShelf
import Derived.Lib.Zigzag
import Derived.Recover
import Derived.Deep.WholeRow
import Derived.Laws.IdiomStrings
import Derived.Laws.MakeOwn
import Derived.IntWalk
import Derived.RangeFuncNested
import Derived.RangeFuncBound
import Derived.RangeFuncCalls
import Derived.RangeFuncLeaves
import Derived.RangeFuncFrom
import Derived.LoopIn
import Derived.LoopNIn
import Derived.OwnWalkIn
import Derived.TacticsInMore
import Derived.Stop.BytesEq
import Derived.Defers
namespace Go.Proofs.YtmgklblglpplcaaGreatDoor
open Go Go.RowKit Pk
set_option maxRecDepth 100000
def obF (Q:Nat→Obj→Prop) (w:World):Nat→Prop:=fun k=>∃o,w.heap[k]?=some o∧Q k o
def UpdO (Q:Nat→Obj→Prop) (w w':World):Prop:=Upd (obF Q w) w w'
theorem UpdO.refl (Q:Nat→Obj→Prop) (w:World):UpdO Q w w:=Upd.refl _ _
theorem UpdO.trans {Q:Nat→Obj→Prop} {a b c:World} (h:UpdO Q a b) (k:UpdO Q b c):UpdO Q a c:=
 Upd.then h k (fun i hi hg=>by
  by_cases hn:obF Q a i
  ·exact hn
  ·obtain ⟨o,ho,hq⟩:=hg;rw [Upd.block h i hi hn] at ho;exact ⟨o,ho,hq⟩)
theorem UpdO.of {Q:Nat→Obj→Prop} {F:Nat→Prop} {w w':World} (h:Upd F w w') (hF:∀i,i<w.heap.size→F i→obF Q w i):UpdO Q w w':=h.mono hF
theorem UpdO.same {Q:Nat→Obj→Prop} {w w':World} (h:Upd noBlk w w'):UpdO Q w w':=UpdO.of h (fun _ _ e=>e.elim)
theorem UpdO.alloc {Q:Nat→Obj→Prop} {a w:World} (h:UpdO Q a w) (o:Obj):UpdO Q a (w.alloc o):=Upd.alloc h o
theorem UpdO.drew {Q:Nat→Obj→Prop} {a w:World} (h:UpdO Q a w):UpdO Q a w.drew:=Upd.drew h
theorem UpdO.keep {Q:Nat→Obj→Prop} {w w':World} {b:Nat} {o:Obj} (h:UpdO Q w w') (hb:w.heap[b]?=some o) (hq:¬Q b o):w'.heap[b]?=some o:=
 Upd.heap h hb (fun ⟨o',h1,h2⟩=>by rw [hb] at h1;cases h1;exact hq h2)
theorem UpdO.mono {Q R:Nat→Obj→Prop} {w w':World} (h:UpdO Q w w') (hq:∀k o,Q k o→R k o):UpdO R w w':=Upd.mono h (fun k _ ⟨o,h1,h2⟩=>⟨o,h1,hq k o h2⟩)
theorem UpdO.size {Q:Nat→Obj→Prop} {w w':World} (h:UpdO Q w w'):w.heap.size≤w'.heap.size:=Upd.size h
theorem UpdO.blk {Q:Nat→Obj→Prop} {w w':World} {b:Nat} {o:Obj} (h:Upd (fun k=>k=b) w w') (hb:w.heap[b]?=some o) (hq:Q b o):UpdO Q w w':=UpdO.of h (fun k _ e=>⟨o,by rw [e];exact hb,by rw [e];exact hq⟩)
theorem UpdO.setCell {Q:Nat→Obj→Prop} {a w:World} {b i:Nat} {o:Obj} (h:UpdO Q a w) (hb:w.heap[b]?=some o) (hq:Q b o) (v:Value):UpdO Q a (w.setCell ⟨b,i,none⟩ v):=
 UpdO.trans h (UpdO.of ((Upd.refl (fun k=>k=b) w).setCell (p:=⟨b,i,none⟩) (fun _=>rfl) v) (fun k _ e=>⟨o,by rw [e];exact hb,by rw [e];exact hq⟩))
theorem UpdO.below {Q:Nat→Obj→Prop} {w w':World} (h:UpdO Q w w') (hQ:∀k o,Q k o→w.heap.size≤k):Upd noBlk w w':=
 Upd.mono h (fun k hk ⟨o,_,h2⟩=>absurd (hQ k o h2) (by omega))
def tyQ (Ts:List TypeId) (o:Obj):Prop:=∃cs T fr,o=.cells cs T fr∧T∈Ts
theorem tyQ_cells {Ts:List TypeId} {cs:Array Value} {T:TypeId} {fr:Nat × Nat}:tyQ Ts (.cells cs T fr)↔T∈Ts:=⟨fun ⟨_,_,_,e,h⟩=>by cases e;exact h,fun h=>⟨_,_,_,rfl,h⟩⟩
noncomputable def kStr:Kd Tryz.prog Bytes:={ T:=9,S:=54,k:=1,bytes:=16,enc:=fun s=>[.string (bs s)],len:=fun _=>rfl,one:=fun n v hv=>by rw [List.mem_singleton.1 hv];rfl,pos:=by decide,small:=by decide,und:=Tryz.underlying54,info:=kinfo_of (by kernel_rfl) }
def pkC (p:H32 × Bytes):List Value:=hashC p.1++[.string (bs p.2)]
theorem pkC_one (p:H32 × Bytes):∀v,v∈pkC p→v.oneCell'=true:=fun v hv=>by
 rcases List.mem_append.1 hv with h | h
 ·exact byV_one _ v h
 ·rw [List.mem_singleton.1 h];rfl
noncomputable def kPk:Kd Tryz.prog (H32 × Bytes):={ T:=63,S:=30,k:=33,bytes:=48,enc:=pkC,len:=fun p=>by unfold pkC;rw [List.length_append,hashC_len];rfl,one:=pkC_one,pos:=by decide,small:=by decide,und:=Tryz.underlying30,info:=kinfo_of (by kernel_rfl) }
noncomputable def kDp:Kd Tryz.prog (Nat × Bytes):={ T:=144,S:=58,k:=2,bytes:=24,enc:=fun p=>[.int .i64 (p.1:Int),.string (bs p.2)],len:=fun _=>rfl,one:=fun p v hv=>by simp at hv;rcases hv with rfl | rfl<;>rfl,pos:=by decide,small:=by decide,und:=Tryz.underlying58,info:=kinfo_of (by kernel_rfl) }
theorem Kd.Own.keepO {P:Program} {α:Type} {K:Kd P α} {Q:Nat→Obj→Prop} {base:Nat} {w w':World} {v:Value} {l:List α} (h:K.Own base w v l) (hu:UpdO Q w w') (hQ:∀g cs,¬Q g (.cells cs K.T (0,0))):K.Own base w' v l:=
 h.other hu (fun g hg hF=>by
  obtain ⟨_,cur,hc⟩:=h.blk hg;obtain ⟨o,ho,hq⟩:=hF;rw [hc] at ho;cases ho;exact hQ _ _ hq)
def OwB (base:Nat) (w:World) (v:Value) (l:Bytes):Prop:=w.ownsRow base 5 1 v l.length (byV l)
theorem OwB.upd {base:Nat} {w w':World} {v:Value} {l:Bytes} (h:OwB base w v l) (hu:Upd noBlk w w'):OwB base w' v l:=ownsRow_upd h hu
theorem OwB.other {base:Nat} {F:Nat→Prop} {w w':World} {v:Value} {l:Bytes} (h:OwB base w v l) (hu:Upd F w w') (hF:∀g,v.ownBlock=some g→¬F g):OwB base w' v l:=
 ownsRow_keep h (fun k hk=>hu.block k (World.ownsRow.lt h k hk).2 (hF k hk))
theorem OwB.blk {base:Nat} {w:World} {v:Value} {l:Bytes} (h:OwB base w v l) {g:Nat} (hg:v.ownBlock=some g):base≤g∧∃cur,w.heap[g]?=some (.cells cur 5 (0,0)):=by
 rcases h.2 with ⟨rfl,_⟩ | ⟨g',cap,cur,rfl,h1,h2,_⟩
 ·cases hg
 ·cases hg;exact ⟨h1,cur,h2⟩
theorem OwB.low {base base':Nat} {w:World} {v:Value} {l:Bytes} (h:OwB base w v l) (hb:base'≤base):OwB base' w v l:=by
 rcases h.2 with ⟨rfl,h0⟩ | ⟨g,cap,cur,rfl,h1,h2,h3⟩
 ·exact ⟨h.1,.inl ⟨rfl,h0⟩⟩
 ·exact ⟨h.1,.inr ⟨g,cap,cur,rfl,Nat.le_trans hb h1,h2,h3⟩⟩
theorem OwB.nil (base:Nat) (w:World):OwB base w (.slice none 0 0) []:=⟨rfl,.inl ⟨rfl,rfl⟩⟩
theorem OwB.form {base:Nat} {w:World} {v:Value} {l:Bytes} (h:OwB base w v l):∃A cap,v=.slice A l.length cap∧l.length≤cap:=by
 rcases h.2 with ⟨rfl,h0⟩ | ⟨g,cap,cur,rfl,_,_,h3,_⟩
 ·exact ⟨none,0,by rw [h0],by omega⟩
 ·exact ⟨_,cap,rfl,h3⟩
theorem OwB.whole {base:Nat} {w:World} {g:Nat} {l:Bytes} (hb:base≤g) (h:w.heap[g]?=some (.cells (byV l).toArray 5 (0,0))) (hl:l.length≤1000000):OwB base w (.slice (some ⟨g,0,none⟩) l.length l.length) l:=
 ⟨by rw [byV_len,Nat.mul_one],.inr ⟨g,l.length,_,rfl,hb,h,Nat.le_refl _,by unfold maxLen;omega,by simp [byV],by rw [Nat.mul_one];exact List.take_of_length_le (by simp [byV])⟩⟩
theorem OwB.rd {base:Nat} {w:World} {g cap n:Nat} {l:Bytes} (h:OwB base w (.slice (some ⟨g,0,none⟩) n cap) l):n=l.length∧w.rangeAt g 0 (byV l):=by
 rcases h.2 with ⟨e,_⟩ | ⟨g',cap',cur,e,h1,h2,h3,h4,h5,h6⟩
 ·cases e
 ·cases e;refine ⟨rfl,fun j v hv=>?_⟩;rw [Nat.zero_add,cell_of_row _ _ j cur 5 (0,0) h2];rw [←h6,Nat.mul_one,List.getElem?_take] at hv;split at hv
  ·simpa using hv
  ·cases hv
theorem make_zeros (n:Nat) (hn:n≤1000000) (w:World):(Instr.makeSlice 48 (.int .i64 (n:Int)) (.int .i64 (n:Int))).run Tryz.prog w=.ok (.slice (some ⟨w.heap.size,0,none⟩) n n) (w.alloc (.cells (byV (List.replicate n 0)).toArray 5)):=by
 obtain ⟨i0,hi,hz0,hz1,hz2⟩:=info_parts info_u8;have h:=run_make (P:=Tryz.prog) w 48 5 i0 (.int .u8 0) Tryz.underlying48 hi hz0 .i64 .i64 (n:Int) (n:Int) (by omega) (by omega) (by rw [hz2];omega) (by omega);rw [hz1,Nat.mul_one] at h;rw [h];have e:madeCells (Value.int .u8 0).cells n=(byV (List.replicate n 0)).toArray:=by
  apply Array.ext_getElem?;intro i;by_cases hi':i<n
  ·simp [madeCells,byV,hi',Value.cells,Nat.mod_one]
  ·simp [madeCells,byV,hi']
 simp [e]
theorem info_u8s:(Tryz.prog.info? 5).map (·.size)=some 1:=by kernel_rfl
theorem setRow_upd (w:World) (g:Nat) (cs:Array Value):Upd (fun k=>k=g) w (w.setRow g cs):=⟨rfl,rfl,rfl,by simp [World.setRow],fun k _ hk=>setRow_other w g k cs hk⟩
theorem take_splice {α:Type} (A S:List α) (off n:Nat) (h:off+S.length≤n) (hn:n≤A.length):(A.take off++S++A.drop (off+S.length)).take n=(A.take n).take off++S++(A.take n).drop (off+S.length):=by
 have e1:(A.take off).length=off:=by rw [List.length_take];omega
 rw [List.take_append,List.take_of_length_le (by rw [List.length_append,e1];exact h),List.take_take,Nat.min_eq_left (by omega),List.drop_take,List.length_append,e1]
theorem copy_str {base:Nat} {w:World} {g cap:Nat} {l:Bytes} (h:OwB base w (.slice (some ⟨g,0,none⟩) l.length cap) l) (off:Nat) (s:Bytes) (hs:off+s.length≤l.length) (ty:TypeId) (dc:Nat) :
  ∃w',(Builtin.copy_ #[48,9] ty #[.slice (some ⟨g,off,none⟩) (l.length-off) dc,.string (bs s)]).run Tryz.prog w=.ok (goInt s.length) w' ∧
   OwB base w' (.slice (some ⟨g,0,none⟩) l.length cap) (l.take off++s++l.drop (off+s.length))∧Upd (fun k=>k=g) w w':=by
 obtain ⟨i0,hi,hz0,hz1,hz2⟩:=info_parts info_u8;rcases h.2 with ⟨e,_⟩ | ⟨g',cap',cur,e,h1,h2,h3,h4,h5,h6⟩
 ·cases e
 ·cases e;have hst:=run_storeCells_at Tryz.prog g off 5 (byV s) 0 cur w h2 (by rw [byV_len,h5];omega) (byV_one s);have hfc:=Lib.run_firstCells_string (P:=Tryz.prog) (w:=w) 1 (bs s);rw [strCells_bs,bs_size] at hfc;have hmin:Nat.min (bs s).size (l.length-off)=s.length:=by rw [bs_size];exact Nat.min_eq_left (by omega)
  refine ⟨w.setRow g (cur.toList.take (off+0)++byV s++cur.toList.drop (off+0+(byV s).length)).toArray,?_,?_,setRow_upd _ _ _⟩
  ·simp [Builtin.copy_,run_underlying Tryz.underlying48,Builtin.lenOf,sizeOf,typeInfo,hi,hz1,hmin,hfc,hst]
  ·have hlen:(l.take off++s++l.drop (off+s.length)).length=l.length:=by simp;omega
   unfold OwB;rw [hlen];refine ⟨by rw [byV_len,hlen,Nat.mul_one],.inr ⟨g,cap,_,rfl,h1,setRow_heap w g cur _ 5 _ h2,h3,h4,by simp [byV_len,h5];omega,?_⟩⟩;rw [Nat.mul_one] at h6 ⊢;have e1:byV (l.take off++s++l.drop (off+s.length))=(byV l).take off++byV s++(byV l).drop (off+s.length):=by simp [byV,List.map_take,List.map_drop]
   rw [e1,←h6,byV_len,Nat.add_zero];have h7:=take_splice cur.toList (byV s) off l.length (by rw [byV_len];exact hs) (by simp [h5];omega);rw [byV_len] at h7;exact h7
end Go.Proofs.YtmgklblglpplcaaGreatDoor
namespace Go.Proofs.YtmgklblglpplcaaGreatDoor
open Go Go.RowKit Pk
namespace Dg
abbrev M32:Nat:=4294967296
def rotR (x n:Nat):Nat:=(x >>> n) ||| ((x <<< (32-n)) % M32)
def sg0 (x:Nat):Nat:=(rotR x 7 ^^^ rotR x 18) ^^^ (x >>> 3)
def sg1 (x:Nat):Nat:=(rotR x 17 ^^^ rotR x 19) ^^^ (x >>> 10)
def bg0 (x:Nat):Nat:=(rotR x 2 ^^^ rotR x 13) ^^^ rotR x 22
def bg1 (x:Nat):Nat:=(rotR x 6 ^^^ rotR x 11) ^^^ rotR x 25
def chW (e f g:Nat):Nat:=(e &&& f) ^^^ ((4294967295 ^^^ e) &&& g)
def mjW (a b c:Nat):Nat:=((a &&& b) ^^^ (a &&& c)) ^^^ (b &&& c)
def byteN (b:Bytes) (i:Nat):Nat:=(b.getD i 0).toNat
def wordB (b:Bytes) (i:Nat):Nat:=byteN b (4*i)*16777216+byteN b (4*i+1)*65536+byteN b (4*i+2)*256+byteN b (4*i+3)
def nextW (b:Bytes) (w:List Nat) (i:Nat):Nat:=if i<16 then wordB b i else (w.getD (i-16) 0+sg0 (w.getD (i-15) 0)+w.getD (i-7) 0+sg1 (w.getD (i-2) 0)) % M32
def words (b:Bytes):Nat→List Nat
 | 0=>[]
 | i+1=>words b i++[nextW b (words b i) i]
def kW:List Nat:=[
 0x428a2f98,0x71374491,0xb5c0fbcf,0xe9b5dba5,0x3956c25b,0x59f111f1,0x923f82a4,0xab1c5ed5,
 0xd807aa98,0x12835b01,0x243185be,0x550c7dc3,0x72be5d74,0x80deb1fe,0x9bdc06a7,0xc19bf174,
 0xe49b69c1,0xefbe4786,0x0fc19dc6,0x240ca1cc,0x2de92c6f,0x4a7484aa,0x5cb0a9dc,0x76f988da,
 0x983e5152,0xa831c66d,0xb00327c8,0xbf597fc7,0xc6e00bf3,0xd5a79147,0x06ca6351,0x14292967,
 0x27b70a85,0x2e1b2138,0x4d2c6dfc,0x53380d13,0x650a7354,0x766a0abb,0x81c2c92e,0x92722c85,
 0xa2bfe8a1,0xa81a664b,0xc24b8b70,0xc76c51a3,0xd192e819,0xd6990624,0xf40e3585,0x106aa070,
 0x19a4c116,0x1e376c08,0x2748774c,0x34b0bcb5,0x391c0cb3,0x4ed8aa4a,0x5b9cca4f,0x682e6ff3,
 0x748f82ee,0x78a5636f,0x84c87814,0x8cc70208,0x90befffa,0xa4506ceb,0xbef9a3f7,0xc67178f2]
structure S8 where
 a:Nat
 b:Nat
 c:Nat
 d:Nat
 e:Nat
 f:Nat
 g:Nat
 h:Nat
def rnd (k w:Nat) (s:S8):S8:=
 let t:=(s.h+bg1 s.e+chW s.e s.f s.g+k+w) % M32
 let u:=(bg0 s.a+mjW s.a s.b s.c) % M32
 ⟨(t+u) % M32,s.a,s.b,s.c,(s.d+t) % M32,s.e,s.f,s.g⟩
def rnds (w:List Nat) (s:S8):Nat→S8
 | 0=>s
 | i+1=>rnd (kW.getD i 0) (w.getD i 0) (rnds w s i)
def addS (s v:S8):S8:=⟨(s.a+v.a) % M32,(s.b+v.b) % M32,(s.c+v.c) % M32,(s.d+v.d) % M32,(s.e+v.e) % M32,(s.f+v.f) % M32,(s.g+v.g) % M32,(s.h+v.h) % M32⟩
def addB (s:S8) (b:Bytes):S8:=addS s (rnds (words b 64) s 64)
def start8:S8:=⟨0x6a09e667,0xbb67ae85,0x3c6ef372,0xa54ff53a,0x510e527f,0x9b05688c,0x1f83d9ab,0x5be0cd19⟩
def be4 (n:Nat):Bytes:=[UInt8.ofNat (n / 16777216),UInt8.ofNat (n / 65536),UInt8.ofNat (n / 256),UInt8.ofNat n]
def padB (s:Bytes):Bytes:=s++[128]++List.replicate ((119-s.length % 64) % 64) 0++be4 (s.length*8 / M32)++be4 (s.length*8 % M32)
def addAll:Nat→S8→Bytes→S8
 | 0,s,_=>s
 | k+1,s,m=>addAll k (addB s (m.take 64)) (m.drop 64)
def S8.bytes (s:S8):Bytes:=be4 s.a++be4 s.b++be4 s.c++be4 s.d++be4 s.e++be4 s.f++be4 s.g++be4 s.h
def shaB (s:Bytes):Bytes:=(addAll ((padB s).length / 64) start8 (padB s)).bytes
theorem be4_len (n:Nat):(be4 n).length=4:=rfl
theorem shaB_len (s:Bytes):(shaB s).length=32:=rfl
theorem padB_len (s:Bytes):(padB s).length % 64=0:=by
 unfold padB;simp only [List.length_append,be4_len,List.length_replicate,List.length_cons,List.length_nil];omega
end Dg
end Go.Proofs.YtmgklblglpplcaaGreatDoor
namespace Go.Proofs.YtmgklblglpplcaaGreatDoor
open Go Go.RowKit Pk
set_option maxRecDepth 100000
theorem guard1_idle (p:Addr) (w:World):CallsD Tryz.prog 64 #[.pointer (some p)] .returning w fun e u' w'=>e=.returned (.tuple #[])∧u'=.returning∧w'=w:=by
 refine callsD_of_wpS Tryz.func64 rfl fun c₀ cs hu=>?_;apply wpS_seq;apply wpS_region;simp [wpOpsS,go_sem,recoverD,hu,Tryz.ntmps64,Exit.thenS];refine wpS_of_wp ?_;go_wp2_with fail
 cases c₀;simp_all [bodyPostS,results,Tryz.results64]
theorem guard_any (a b c:Value) (w:World) (HC:∀W,Upd noBlk w W→Calls Tryz.prog 42 #[a,b,c] W (fun e w'=>e=.returned (.tuple #[])∧Upd noBlk W w')) :
  Calls Tryz.prog 41 #[.func (.func 42) #[] #[a,b,c]] w fun e w'=>e=.returned (.int .i64 0)∧Upd noBlk w w':=by
 have hmf:∀(fn:Fn) (first cap:Array Value) (w:World),(Instr.makeFunc fn first cap).run Tryz.prog w=.ok (.func fn first cap) w:=fun _ _ _ _=>rfl;have H:=Lib.hid (HC _ ((Upd.refl noBlk w).alloc (.cells #[.int .i64 0] 25)));clear HC;go_enter_defers Tryz.func41,Tryz.ntmps41
 go_wp2_with fail
 refine H.out.mono ?_;rintro e w1 ⟨rfl,u1⟩;have HB:=Lib.hid (u1.heap (heap_alloc_new w (.cells #[.int .i64 0] 25)) id);have HU:Hid (Upd noBlk w w1):=((Upd.refl noBlk w).alloc _).trans u1;obtain ⟨N,hN⟩:∃N,N=w.heap.size:=⟨_,rfl⟩;rw [←hN] at HB ⊢;have HN:=Lib.hid hN;clear hN u1 H;obtain ⟨c0,f0⟩:w1.cell? ⟨N,0,none⟩=some (.int .i64 0)∧w1.frozen? ⟨N,0,none⟩=false:=by simp [World.cell?,World.frozen?,HB.out]
 go_wp2_with fail
 refine leaves_cons (f:=64) (args:=#[.pointer (some ⟨N,0,none⟩)]) (by simp) (by simp [go_sem]) ?_;refine (guard1_idle ⟨N,0,none⟩ _).mono ?_;rintro e u' w'' ⟨rfl,rfl,rfl⟩;have hc:=heap_setCell_eq (i:=0) (.int .i64 0) HB.out;have c1:(w1.setCell ⟨N,0,none⟩ (.int .i64 0)).cell? ⟨N,0,none⟩=some (.int .i64 0):=by simp [World.cell?,hc]
 have hu:Upd noBlk w (w1.setCell ⟨N,0,none⟩ (.int .i64 0)):=HU.out.setCell (p:=⟨N,0,none⟩) (fun h=>by have:=HN.out;simp at h;omega) _;simp [Leaves,settle,results,Tryz.results41,go_sem,c1,hu]
theorem walk2_any (A:Option Addr) (cap:Nat) (p1 p2 p3 p4:Value) (w:World):Calls Tryz.prog 39 #[.slice A 0 cap,p1,p2,p3,p4] w fun e w'=>e=.returned (.tuple #[])∧w'=w:=by
 go_enter Tryz.func39,Tryz.ntmps39
 go_wp2_with fail
 go_loopw [13] (fun i wr=>i=.int .i64 0∧wr=w) (fun _ _=>0)
 case atStart=>exact ⟨rfl,rfl⟩
 case round=>
  obtain ⟨rfl,rfl⟩:=hrel;go_wp2_with fail
  go_end0
  exact ⟨rfl,rfl⟩
theorem copyM_any {bd bs ns:Nat} (w:World) (hs:kitHB.At w bs ns (fun _=>none)):Calls Tryz.prog 44 #[.map (some bd),.map (some bs)] w fun e w'=>e=.returned (.tuple #[])∧Upd noBlk w w':=by
 have HM:=Lib.hid hs;clear hs;go_enter Tryz.func44,Tryz.ntmps44
 go_wp2_with (at_range;refine HM.out.range rfl _ rfl rfl ?_;intro w0 cnt0 hrg0 hg0 hs0)
 have HR0:=Lib.hid hrg0;have HU0:Hid (Upd noBlk w w0):=upd_of_grown hg0 (fun j hj _=>by cases hj);obtain ⟨rb,hrb⟩:∃rb,rb=w.heap.size:=⟨_,rfl⟩;rw [←hrb] at HR0;rw [←hrb];clear hrg0 hg0 hs0 hrb HM;go_frame
 go_loopw [8] (fun _ wq=>wq=w0) (fun _ wq=>0)
 case atStart=>rfl
 case round=>
  obtain rfl:=hrel;go_wp2_with (at_next;refine HR0.out.nextH rfl _ rfl rfl ?_ ?_)
  ·show _→_;intro hc0;clear hc0;go_wp2_with fail
   go_end0
   exact ⟨rfl,HU0.out⟩
  ·exact trivial
end Go.Proofs.YtmgklblglpplcaaGreatDoor
