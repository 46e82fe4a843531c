/- Parts: A state and a reader side by side: what each step leaves. No condition. A state and a writer side by side: what each step leaves. No condition. Walks of the packets' program: an abandoned reading is caught. No condition. Walks of the packets' program: bytes and numbers are read. No condition. Walks of the packets' program: reading is abandoned; a number below a limit is read. No condition. -/
import Derived.Test.YtmgklblglpplcaaGreatDoorRPubl1
import Derived.Test.YtmgklblglpplcaaGreatDoorRPubl2
import Derived.Test.YtmgklblglpplcaaGreatDoorRPubl3
import Derived.Test.YtmgklblglpplcaaGreatDoorRPubl4
import Derived.Test.YtmgklblglpplcaaGreatDoorRPubl5
import Derived.Test.YtmgklblglpplcaaGreatDoorRPubl6
import Derived.Test.YtmgklblglpplcaaGreatDoorRPubl8
import Derived.Test.YtmgklblglpplcaaGreatDoorRPubl9
import Derived.Test.YtmgklblglpplcaaGreatDoorRPubl10
import Derived.Test.YtmgklblglpplcaaGreatDoorRPubl11
import Derived.Test.YtmgklblglpplcaaGreatDoorRPubl12
import Derived.Test.YtmgklblglpplcaaGreatDoorRPubl14
import Derived.Test.YtmgklblglpplcaaGreatDoorRPubl15
import Derived.Test.YtmgklblglpplcaaGreatDoorRPubl16
import Derived.Test.YtmgklblglpplcaaGreatDoorRPubl17
import Derived.Test.YtmgklblglpplcaaGreatDoorRPubl18
import Derived.Test.YtmgklblglpplcaaGreatDoorRPubl19
import Derived.Test.YtmgklblglpplcaaGreatDoorRPubl21
import Derived.WalkKit
import Derived.WalkSpells
import Derived.WalkLawsBesides
import Derived.Lib.Hide
import Derived.BigQuiet
import Derived.Deep.DeepFit
import Derived.Deep.DeepCutAuto
import Derived.Deep.AppendLies
import Derived.Deep.QuietTactic
import Derived.Maps.OwnOps
import Derived.Maps.OwnSet
import Derived.Maps.RangeWalk
import Derived.WideKeyEntry
import Derived.Deep.MidRow
import Derived.Lib.Bits
import Derived.Test.YtmgklblglpplcaaGreatDoorRows
import Derived.Deep.RegionHeld3
import Derived.StillTail
import Derived.Laws.EntriesVeiled
import Derived.Handy
import Derived.DeepKeys4
import Derived.ArgAppend
import Derived.Deep.Upon
import Derived.Deep.CutBlock
import Derived.Test.YtmgklblglpplcaaGreatDoorShelf2
import Derived.Test.YtmgklblglpplcaaGreatDoorShelf
import Derived.Laws.BitsAllLaws
import Derived.Lib.Zigzag
import Derived.Recover
namespace Go.Proofs.YtmgklblglpplcaaGreatDoor
open Go Go.RowKit Pk Pc
set_option maxRecDepth 100000
structure CW (D:Nat→Prop) (w0 wr:World) (b:Nat) (S:Wk) (bw:Nat) (l:Pk.Bits):Prop where
 ex:∃G F,SRep wr b S G∧WRep wr bw (encFrom E.init l) F∧(∀k,G k→¬F k)∧(∀k,G k∨F k→D k∨w0.heap.size≤k)
 up:Upd D w0 wr
theorem CW.upd {D:Nat→Prop} {w0 wr w2:World} {b:Nat} {S:Wk} {bw:Nat} {l:Pk.Bits} (h:CW D w0 wr b S bw l) (hu:Upd noBlk wr w2):CW D w0 w2 b S bw l:=by
 obtain ⟨⟨G,F,h1,h2,h3,h4⟩,h5⟩:=h;exact ⟨⟨G,F,h1.upd hu (fun _ _=>id),h2.upd hu (fun _ _=>id),h3,h4⟩,h5.trans (hu.mono (fun _ _ h=>h.elim))⟩
theorem CW.drew {D:Nat→Prop} {w0 wr:World} {b:Nat} {S:Wk} {bw:Nat} {l:Pk.Bits} (h:CW D w0 wr b S bw l):CW D w0 wr.drew b S bw l:=h.upd (Upd.refl _ wr).drew
theorem CW.stepW {D:Nat→Prop} {w0 wr w':World} {b:Nat} {S:Wk} {bw:Nat} {l':Pk.Bits} {G F F':Nat→Prop} (h1:SRep wr b S G) (h3:∀k,G k→¬F k) (h4:∀k,G k∨F k→D k∨w0.heap.size≤k) (h5:Upd D w0 wr) (h:WB F wr w' bw l' F'):CW D w0 w' b S bw l':=by
 obtain ⟨r,n,u⟩:=h;refine ⟨⟨G,F',h1.upd u (fun k hk=>h3 k hk),r,fun k hk hf=>?_,fun k hk=>?_⟩,h5.then u (fun i hi hf=>(h4 i (.inr hf)).resolve_right (by omega))⟩
 ·rcases n k hf with h | h
  ·exact h3 k hk h
  ·have:=h1.lt k hk;omega
 ·rcases hk with h | h
  ·exact h4 k (.inl h)
  ·rcases n k h with h | h
   ·exact h4 k (.inr h)
   ·exact .inr (by have:=h5.size;omega)
theorem CW.stepS {D:Nat→Prop} {w0 wr w':World} {b:Nat} {S':Wk} {bw:Nat} {l:Pk.Bits} {G F:Nat→Prop} (h2:WRep wr bw (encFrom E.init l) F) (h3:∀k,G k→¬F k) (h4:∀k,G k∨F k→D k∨w0.heap.size≤k) (h5:Upd D w0 wr) (h:SPost G wr w' b S'):CW D w0 w' b S' bw l:=by
 obtain ⟨G',r,n,u⟩:=h;refine ⟨⟨G',F,r,h2.upd u (fun k hf hk=>h3 k hk hf),fun k hk hf=>?_,fun k hk=>?_⟩,h5.then u (fun i hi hg=>(h4 i (.inl hg)).resolve_right (by omega))⟩
 ·rcases n k hk with h | h
  ·exact h3 k h hf
  ·have:=h2.lt k hf;omega
 ·rcases hk with h | h
  ·rcases n k h with h | h
   ·exact h4 k (.inl h)
   ·exact .inr (by have:=h5.size;omega)
  ·exact h4 k (.inr h)
theorem CW.bit {D:Nat→Prop} {w0 wr:World} {b:Nat} {S:Wk} {bw:Nat} {l:Pk.Bits} (h:CW D w0 wr b S bw l) (c:Int) (one:Bool) (hl:l.length≤900000) :
  Calls Tryz.prog 98 #[.pointer (some ⟨bw,0,none⟩),.int .i64 c,.bool one] wr fun en w'=>en=.returned (.tuple #[])∧CW D w0 w' b S bw (l++[(c,one)]):=by
 obtain ⟨⟨G,F,h1,h2,h3,h4⟩,h5⟩:=h;refine (WB.bit (F0:=F) (w:=wr) (WG.self h2) c one hl).mono ?_;rintro e w' ⟨rfl,F',h'⟩;exact ⟨rfl,CW.stepW h1 h3 h4 h5 h'⟩
theorem CW.number {D:Nat→Prop} {w0 wr:World} {b:Nat} {S:Wk} {bw:Nat} {l:Pk.Bits} (h:CW D w0 wr b S bw l) (c:Int) (n:Nat) (hn:n<2 ^ 64) (hl:l.length≤900000) :
  Calls Tryz.prog 95 #[.pointer (some ⟨bw,0,none⟩),.int .i64 c,.int .u64 n] wr fun en w'=>en=.returned (.tuple #[])∧CW D w0 w' b S bw (l++numBits c n):=by
 obtain ⟨⟨G,F,h1,h2,h3,h4⟩,h5⟩:=h;refine (WB.number (F0:=F) (w:=wr) (WG.self h2) c n hn hl).mono ?_;rintro e w' ⟨rfl,F',h'⟩;exact ⟨rfl,CW.stepW h1 h3 h4 h5 h'⟩
theorem CW.place {D:Nat→Prop} {w0 wr:World} {b:Nat} {S:Wk} {bw:Nat} {l:Pk.Bits} (h:CW D w0 wr b S bw l) (c:Int) (hc:0≤c∧c≤1000) (p near:Pt) (k1:farC p.1 near.1) (k2:farC p.2.1 near.2.1) (k3:farC p.2.2 near.2.2) (hl:l.length≤800000) :
  Calls Tryz.prog 100 #[.pointer (some ⟨bw,0,none⟩),.int .i64 c,ptV p,ptV near] wr fun en w'=>en=.returned (.tuple #[])∧CW D w0 w' b S bw (l++placeB c p near):=by
 obtain ⟨⟨G,F,h1,h2,h3,h4⟩,h5⟩:=h;refine (writePlace_any (F0:=F) (w:=wr) (WG.self h2) c hc p near k1 k2 k3 hl).mono ?_;rintro e w' ⟨rfl,F',h'⟩;exact ⟨rfl,CW.stepW h1 h3 h4 h5 h'⟩
theorem CW.last {D:Nat→Prop} {w0 wr:World} {b:Nat} {S:Wk} {bw:Nat} {l:Pk.Bits} (h:CW D w0 wr b S bw l) (hl:S.known.length≤1000000) :
  Calls Tryz.prog 130 #[.pointer (some ⟨b,0,none⟩)] wr fun en w'=>en=.returned (ptV (lastK S.known))∧Upd noBlk wr w':=by
 obtain ⟨G,F,h1,h2,h3,h4⟩:=h.ex;refine (last_any b S G hl wr h1).mono ?_;rintro e w' ⟨rfl,hu⟩;exact ⟨rfl,hu⟩
theorem CW.visit {D:Nat→Prop} {w0 wr:World} {b:Nat} {S:Wk} {bw:Nat} {l:Pk.Bits} (h:CW D w0 wr b S bw l) (t:Tri) (first:Nat) (hf:first=0∨first=1) (ht:okT t) (hfr:freeT false S.tris t) (hl:S.tris.length≤100000) (hg:S.gates.length≤1000000) :
  Calls Tryz.prog 102 #[.pointer (some ⟨b,0,none⟩),triV t,.int .i64 first] wr fun en w'=>en=.returned (.bool true)∧CW D w0 w' b (S.visit t first) bw l:=by
 obtain ⟨⟨G,F,h1,h2,h3,h4⟩,h5⟩:=h;refine (visit_any b S G t first hf ht hl hg wr h1).mono ?_;rintro e w' ⟨rfl,_,h'⟩;exact ⟨by rw [decide_eq_true hfr],CW.stepS h2 h3 h4 h5 (h' hfr)⟩
theorem CW.next {D:Nat→Prop} {w0 wr:World} {b:Nat} {S:Wk} {bw:Nat} {l:Pk.Bits} (h:CW D w0 wr b S bw l) (hok:∀g,g∈S.gates→okT g) (hl:S.gates.length≤1000000) :
  Calls Tryz.prog 96 #[.pointer (some ⟨b,0,none⟩)] wr fun en w'=>en=.returned (.tuple #[gateV (nextV S.tris S.gates),.bool (nextB S.tris S.gates)])∧CW D w0 w' b ⟨S.known,S.tris,restG S.tris S.gates⟩ bw l:=by
 obtain ⟨⟨G,F,h1,h2,h3,h4⟩,h5⟩:=h;refine (snext_any b S G hok hl wr h1).mono ?_;rintro e w' ⟨rfl,h'⟩;exact ⟨rfl,CW.stepS h2 h3 h4 h5 h'⟩
theorem CW.finish {D:Nat→Prop} {w0 wr:World} {b:Nat} {S:Wk} {bw:Nat} {l:Pk.Bits} (h:CW D w0 wr b S bw l) (hl:l.length≤900000) :
  Calls Tryz.prog 103 #[.pointer (some ⟨bw,0,none⟩)] wr fun en w'=>en=.returned (.string (str (encode l)))∧Upd noBlk wr w':=by
 obtain ⟨⟨G,F,h1,h2,h3,h4⟩,h5⟩:=h;exact WFinish_any bw _ F wr h2 (by have:=done_len hl;omega)
theorem CW.enter {D:Nat→Prop} {w0 wr:World} {b:Nat} {S:Wk} {bw:Nat} {l:Pk.Bits} (h:CW D w0 wr b S bw l):∃D1:Nat→Prop,(∀k,D1 k→k<wr.heap.size)∧(∀w1,Upd noBlk wr w1→CW D1 w1 w1 b S bw l)∧(∀w1 w' S' l',Upd noBlk wr w1→CW D1 w1 w' b S' bw l'→CW D w0 w' b S' bw l')∧(∀k,D1 k→D k∨w0.heap.size≤k):=by
 obtain ⟨⟨G,F,h1,h2,h3,h4⟩,h5⟩:=h;refine ⟨fun k=>G k∨F k,fun k hk=>?_,fun w1 hu=>?_,fun w1 w' S' l' hu h'=>?_,h4⟩
 ·rcases hk with h | h
  ·exact h1.lt k h
  ·exact h2.lt k h
 ·exact ⟨⟨G,F,h1.upd hu (fun _ _=>id),h2.upd hu (fun _ _=>id),h3,fun k hk=>.inl hk⟩,Upd.refl _ _⟩
 ·obtain ⟨⟨G',F',k1,k2,k3,k4⟩,k5⟩:=h';have hs:=hu.size;have hs5:=h5.size;refine ⟨⟨G',F',k1,k2,k3,fun k hk=>?_⟩,?_⟩
  ·rcases k4 k hk with h | h
   ·exact h4 k h
   ·exact .inr (by omega)
  ·exact (h5.trans (hu.mono (fun _ _ h=>h.elim))).then k5 (fun i hi hd=>(h4 i hd).resolve_right (by omega))
end Go.Proofs.YtmgklblglpplcaaGreatDoor
namespace Go.Proofs.YtmgklblglpplcaaGreatDoor
open Go Go.RowKit Pk Pc
set_option maxRecDepth 100000
structure CR (Z N:Nat→Prop) (w0 wr:World) (b:Nat) (S:Wk) (br:Nat) (d:D):Prop where
 ex:∃G F,SRep wr b S G∧RRep wr br d F∧(∀k,G k→¬F k)∧(∀k,G k∨F k→Z k∨w0.heap.size≤k)
 up:Upd (fun k=>Z k∨N k) w0 wr
theorem CR.upd {Z N:Nat→Prop} {w0 wr w2:World} {b:Nat} {S:Wk} {br:Nat} {d:D} (h:CR Z N w0 wr b S br d) (hu:Upd noBlk wr w2):CR Z N w0 w2 b S br d:=by
 obtain ⟨⟨G,F,h1,h2,h3,h4⟩,h5⟩:=h;exact ⟨⟨G,F,h1.upd hu (fun _ _=>id),h2.upd hu (fun _ _=>id),h3,h4⟩,h5.trans (hu.mono (fun _ _ h=>h.elim))⟩
theorem CR.drew {Z N:Nat→Prop} {w0 wr:World} {b:Nat} {S:Wk} {br:Nat} {d:D} (h:CR Z N w0 wr b S br d):CR Z N w0 wr.drew b S br d:=h.upd (Upd.refl _ wr).drew
theorem CR.stepR {Z N:Nat→Prop} {w0 wr w':World} {b:Nat} {S:Wk} {br:Nat} {d':D} {G F F':Nat→Prop} (h1:SRep wr b S G) (h3:∀k,G k→¬F k) (h4:∀k,G k∨F k→Z k∨w0.heap.size≤k) (h5:Upd (fun k=>Z k∨N k) w0 wr) (h:RG F wr w' br d' F'):CR Z N w0 w' b S br d':=by
 obtain ⟨r,n,u⟩:=h;refine ⟨⟨G,F',h1.upd u (fun k hk=>h3 k hk),r,fun k hk hf=>?_,fun k hk=>?_⟩,h5.then u (fun i hi hf=>.inl ((h4 i (.inr hf)).resolve_right (by omega)))⟩
 ·rcases n k hf with h | h
  ·exact h3 k hk h
  ·have:=h1.lt k hk;omega
 ·rcases hk with h | h
  ·exact h4 k (.inl h)
  ·rcases n k h with h | h
   ·exact h4 k (.inr h)
   ·exact .inr (by have:=h5.size;omega)
theorem CR.stepS {Z N:Nat→Prop} {w0 wr w':World} {b:Nat} {S':Wk} {br:Nat} {d:D} {G F:Nat→Prop} (h2:RRep wr br d F) (h3:∀k,G k→¬F k) (h4:∀k,G k∨F k→Z k∨w0.heap.size≤k) (h5:Upd (fun k=>Z k∨N k) w0 wr) (h:SPost G wr w' b S'):CR Z N w0 w' b S' br d:=by
 obtain ⟨G',r,n,u⟩:=h;refine ⟨⟨G',F,r,h2.upd u (fun k hf hk=>h3 k hk hf),fun k hk hf=>?_,fun k hk=>?_⟩,h5.then u (fun i hi hg=>.inl ((h4 i (.inl hg)).resolve_right (by omega)))⟩
 ·rcases n k hk with h | h
  ·exact h3 k h hf
  ·have:=h2.lt k hf;omega
 ·rcases hk with h | h
  ·rcases n k h with h | h
   ·exact h4 k (.inl h)
   ·exact .inr (by have:=h5.size;omega)
  ·exact h4 k (.inr h)
theorem CR.bit {Z N:Nat→Prop} {w0 wr:World} {b:Nat} {S:Wk} {br:Nat} {d:D} (h:CR Z N w0 wr b S br d) (c:Int) :
  Calls Tryz.prog 131 #[.pointer (some ⟨br,0,none⟩),.int .i64 c] wr fun en w'=>en=.returned (.bool (d.one c))∧CR Z N w0 w' b S br (d.bit c):=by
 obtain ⟨⟨G,F,h1,h2,h3,h4⟩,h5⟩:=h;refine ((RG.self h2).bit c).mono ?_;rintro e w' ⟨rfl,F',h'⟩;exact ⟨rfl,CR.stepR h1 h3 h4 h5 h'⟩
theorem CR.number {Z N:Nat→Prop} {w0 wr:World} {b:Nat} {S:Wk} {br:Nat} {d:D} (h:CR Z N w0 wr b S br d) (c:Int) :
  Calls Tryz.prog 151 #[.pointer (some ⟨br,0,none⟩),.int .i64 c] wr fun en w'=>en=.returned (numV (d.number c))∧CR Z N w0 w' b S br (d.number c).d:=by
 obtain ⟨⟨G,F,h1,h2,h3,h4⟩,h5⟩:=h;refine (RNumber_any (RG.self h2) c).mono ?_;rintro e w' ⟨rfl,F',h'⟩;exact ⟨rfl,CR.stepR h1 h3 h4 h5 h'⟩
theorem CR.last {Z N:Nat→Prop} {w0 wr:World} {b:Nat} {S:Wk} {br:Nat} {d:D} (h:CR Z N w0 wr b S br d) (hl:S.known.length≤1000000) :
  Calls Tryz.prog 130 #[.pointer (some ⟨b,0,none⟩)] wr fun en w'=>en=.returned (ptV (lastK S.known))∧Upd noBlk wr w':=by
 obtain ⟨G,F,h1,h2,h3,h4⟩:=h.ex;refine (last_any b S G hl wr h1).mono ?_;rintro e w' ⟨rfl,hu⟩;exact ⟨rfl,hu⟩
theorem CR.visit {Z N:Nat→Prop} {w0 wr:World} {b:Nat} {S:Wk} {br:Nat} {d:D} (h:CR Z N w0 wr b S br d) (t:Tri) (first:Nat) (hf:first=0∨first=1) (ht:okT t) (hl:S.tris.length≤100000) (hg:S.gates.length≤1000000) :
  Calls Tryz.prog 102 #[.pointer (some ⟨b,0,none⟩),triV t,.int .i64 first] wr fun en w'=>en=.returned (.bool (decide (freeT false S.tris t)))∧Upd (fun k=>Z k∨N k) w0 w'∧(freeT false S.tris t→CR Z N w0 w' b (S.visit t first) br d):=by
 obtain ⟨⟨G,F,h1,h2,h3,h4⟩,h5⟩:=h;refine (visit_any b S G t first hf ht hl hg wr h1).mono ?_;rintro e w' ⟨rfl,hu,h'⟩;exact ⟨rfl,h5.then hu (fun i hi hg=>.inl ((h4 i (.inl hg)).resolve_right (by omega))),fun hfr=>CR.stepS h2 h3 h4 h5 (h' hfr)⟩
theorem CR.next {Z N:Nat→Prop} {w0 wr:World} {b:Nat} {S:Wk} {br:Nat} {d:D} (h:CR Z N w0 wr b S br d) (hok:∀g,g∈S.gates→okT g) (hl:S.gates.length≤1000000) :
  Calls Tryz.prog 96 #[.pointer (some ⟨b,0,none⟩)] wr fun en w'=>en=.returned (.tuple #[gateV (nextV S.tris S.gates),.bool (nextB S.tris S.gates)])∧CR Z N w0 w' b ⟨S.known,S.tris,restG S.tris S.gates⟩ br d:=by
 obtain ⟨⟨G,F,h1,h2,h3,h4⟩,h5⟩:=h;refine (snext_any b S G hok hl wr h1).mono ?_;rintro e w' ⟨rfl,h'⟩;exact ⟨rfl,CR.stepS h2 h3 h4 h5 h'⟩
theorem CR.own {Z N:Nat→Prop} {w0 wr w2:World} {b:Nat} {S:Wk} {br:Nat} {d:D} (h:CR Z N w0 wr b S br d) (hN:∀k,N k→¬Z k∧k<w0.heap.size) (hu:Upd N wr w2):CR Z N w0 w2 b S br d:=by
 obtain ⟨⟨G,F,h1,h2,h3,h4⟩,h5⟩:=h;have hd:∀k,G k∨F k→¬N k:=fun k hk hn=>by
  obtain ⟨q1,q2⟩:=hN k hn;rcases h4 k hk with h | h
  ·exact q1 h
  ·omega
 exact ⟨⟨G,F,h1.upd hu (fun k hk=>hd k (.inl hk)),h2.upd hu (fun k hk=>hd k (.inr hk)),h3,h4⟩,h5.trans (hu.mono (fun _ _ h=>.inr h))⟩
theorem CR.enter {Z N:Nat→Prop} {w0 wr:World} {b:Nat} {S:Wk} {br:Nat} {d:D} (h:CR Z N w0 wr b S br d) (N1:Nat→Prop) (hN1:∀k,N1 k→wr.heap.size≤k):∃Z1:Nat→Prop,(∀k,Z1 k→k<wr.heap.size)∧(∀w1,Upd noBlk wr w1→CR Z1 N1 w1 w1 b S br d)∧(∀w1 w' S' d',Upd noBlk wr w1→CR Z1 N1 w1 w' b S' br d'→CR Z N w0 w' b S' br d')∧(∀w1 w',Upd noBlk wr w1→Upd (fun k=>Z1 k∨N1 k) w1 w'→Upd (fun k=>Z k∨N k) w0 w')∧(∀k,Z1 k→Z k∨w0.heap.size≤k):=by
 obtain ⟨⟨G,F,h1,h2,h3,h4⟩,h5⟩:=h;have hq:∀w1 w',Upd noBlk wr w1→Upd (fun k=>(G k∨F k)∨N1 k) w1 w'→Upd (fun k=>Z k∨N k) w0 w':=fun w1 w' hu k5=>by
  have hs:=hu.size;have hs5:=h5.size;refine (h5.trans (hu.mono (fun _ _ h=>h.elim))).then k5 (fun i hi hd=>?_);rcases hd with hd | hd
  ·exact .inl ((h4 i hd).resolve_right (by omega))
  ·have:=hN1 i hd;omega
 refine ⟨fun k=>G k∨F k,fun k hk=>?_,fun w1 hu=>?_,fun w1 w' S' d' hu h'=>?_,hq,h4⟩
 ·rcases hk with h | h
  ·exact h1.lt k h
  ·exact h2.lt k h
 ·exact ⟨⟨G,F,h1.upd hu (fun _ _=>id),h2.upd hu (fun _ _=>id),h3,fun k hk=>.inl hk⟩,Upd.refl _ _⟩
 ·obtain ⟨⟨G',F',k1,k2,k3,k4⟩,k5⟩:=h';have hs:=hu.size;have hs5:=h5.size;refine ⟨⟨G',F',k1,k2,k3,fun k hk=>?_⟩,hq w1 w' hu k5⟩;rcases k4 k hk with h | h
  ·exact h4 k h
  ·exact .inr (by omega)
theorem CR.base {Z N:Nat→Prop} {w:World} {b:Nat} {S:Wk} {br:Nat} {d:D} (h:CR Z N w w b S br d) (N':Nat→Prop):CR Z N' w w b S br d:=⟨h.ex,Upd.refl _ _⟩
end Go.Proofs.YtmgklblglpplcaaGreatDoor
namespace Go.Proofs.YtmgklblglpplcaaGreatDoor
open Go Go.RowKit Pk Pc
set_option maxRecDepth 100000
def wrongV:Value:=.iface 224 (.agg #[])
def panicW:Ending:=.panicked [{ v:=wrongV,recovered:=false }]
def orFail {α:Type} (o:Option α) (good:α→Ending→World→Prop) (bad:World→Prop) (en:Ending) (w':World):Prop:=match o with
 | some a=>good a en w'
 | none=>en=panicW∧bad w'
theorem fail_any (w:World):Calls Tryz.prog 88 #[] w fun en w'=>en=panicW∧w=w':=by
 go_enter Tryz.func88,Tryz.ntmps88
 go_wp2_with fail
 exact ⟨rfl,rfl,rfl⟩
theorem RG.upd {F0 F:Nat→Prop} {w wr w2:World} {r:Nat} {d:D} (h:RG F0 w wr r d F) (hu:Upd noBlk wr w2):RG F0 w w2 r d F:=⟨h.rep.upd hu (fun _ _=>id),h.new,h.up.trans (hu.mono (fun _ _ h=>h.elim))⟩
end Go.Proofs.YtmgklblglpplcaaGreatDoor
namespace Go.Proofs.YtmgklblglpplcaaGreatDoor
open Go Go.RowKit Pk Pc
set_option maxRecDepth 100000
theorem cellF1 {w:World} {b:Nat} {x:Value} {t:TypeId} (h:w.heap[b]?=some (.cells #[x] t (0,0))):w.cell? ⟨b,0,none⟩=some x∧w.frozen? ⟨b,0,none⟩=false:=by simp [World.cell?,World.frozen?,h]
set_option maxHeartbeats 1000000 in
theorem caught_panic (b:Nat) (x:Value) (T:TypeId) (w:World) (hb:w.heap[b]?=some (.cells #[x] T (0,0))) :
  CallsD Tryz.prog 87 #[.pointer (some ⟨b,0,none⟩)] (.panicking [{ v:=wrongV,recovered:=false }]) w fun e u' w'=>
   e=.returned (.tuple #[])∧u'=.panicking [{ v:=wrongV,recovered:=true }]∧w'=(w.alloc (.cells #[] 224)).setCell ⟨b,0,none⟩ (.int .i64 13):=by
 obtain ⟨hc,hz⟩:=cellF1 (((Upd.refl noBlk w).alloc (.cells #[] 224)).heap hb id);unfold wrongV;refine callsD_of_wpS Tryz.func87 rfl fun c₀ cs hu=>?_;simp only [Tryz.ntmps87,List.size_toArray,List.length_cons,List.length_nil,Nat.reduceAdd,Nat.reduceSub,Array.replicate_succ,
  Array.replicate_zero,List.push_toArray,List.append_toArray,List.nil_append,List.cons_append]
 apply wpS_seq;apply wpS_region;generalize hQ:Exit.thenS (Code.wpS _ _ _) _=Q;simp only [List.size_toArray,List.length_cons,List.length_nil,Nat.reduceAdd,List.range,List.range.loop];rw [wpOpsS];go_simp
 have hr:recoverD (c₀ :: cs)=some (.iface 224 (.agg #[]),{ c₀ with mode:=.panicking [{ v:=.iface 224 (.agg #[]),recovered:=true }] } :: cs):=by simp only [recoverD,hu]
 rw [hr];simp only;rw [wpOpsS];go_simp
 rw [wpOpsS,←hQ];refine wpS_of_wp ?_;clear hQ Q hr;have hta:∀W:World,(Instr.typeAssert (.iface 224 (.agg #[])) 20 224 true).run Tryz.prog W=.ok (.tuple #[.agg #[],.bool true]) W:=fun _=>by kernel_rfl
 go_wp2_with fail
 exact ⟨rfl,_,rfl,_,results_none rfl _ _ _,rfl,rfl,rfl⟩
set_option maxHeartbeats 1000000 in
theorem caught_idle (p:Addr) (w:World) :
  CallsD Tryz.prog 87 #[.pointer (some p)] .returning w fun e u' w'=>e=.returned (.tuple #[])∧u'=.returning∧w'=w:=by
 refine callsD_of_wpS Tryz.func87 rfl fun c₀ cs hu=>?_;simp only [Tryz.ntmps87,List.size_toArray,List.length_cons,List.length_nil,Nat.reduceAdd,Nat.reduceSub,Array.replicate_succ,
  Array.replicate_zero,List.push_toArray,List.append_toArray,List.nil_append,List.cons_append]
 apply wpS_seq;apply wpS_region;generalize hQ:Exit.thenS (Code.wpS _ _ _) _=Q;simp only [List.size_toArray,List.length_cons,List.length_nil,Nat.reduceAdd,List.range,List.range.loop];rw [wpOpsS];go_simp
 have hr:recoverD (c₀ :: cs)=none:=by simp only [recoverD,hu]
 rw [hr];simp only;rw [wpOpsS];go_simp
 rw [wpOpsS,←hQ];refine wpS_of_wp ?_;clear hQ Q hr;go_wp2_with fail
 refine ⟨rfl,.returning,?_,_,results_none rfl _ _ _,rfl,rfl,rfl⟩;cases c₀;simp only at hu;rw [hu]
theorem load_err {w:World} {eb:Nat} {x:Value} {T:TypeId} (h:w.heap[eb]?=some (.cells #[x] T (0,0))):(loadVar 25 ⟨eb,0,none⟩).run Tryz.prog w=.ok x w:=by
 obtain ⟨hc,_⟩:=cellF1 h;simp [loadVar,go_sem,hc]
theorem results_cell_cell {fn:Func} {t p:Tmp} {ty ty2:TypeId} (h:fn.results=#[.cell t ty2,.cell p ty]) (tmps:Array Value) {P:Program} {w:World} {a a2:Addr} {x x2:Value} (ht:tmps.getD t undef=.pointer (some a2)) (hp:tmps.getD p undef=.pointer (some a)) (hl2:(loadVar ty2 a2).run P w=.ok x2 w) (hl:(loadVar ty a).run P w=.ok x w) :
  (results fn tmps).run P w=.ok (.tuple #[x2,x]) w:=by
 have hp':tmps[p]?.getD undef=.pointer (some a):=by simpa using hp
 have ht':tmps[t]?.getD undef=.pointer (some a2):=by simpa using ht
 simp only [results,h];simp [Sem.run_bind,Result.andThen,asAddr,hp',ht',hl,hl2]
theorem door_bad {fn:Func} {tmps:Array Value} {R:Ending→World→Prop} {eb:Nat} {x:Value} {T:TypeId} {w:World} (hb:w.heap[eb]?=some (.cells #[x] T (0,0)))
  (h:∀W,W.heap[eb]?=some (.cells #[.int .i64 13] T (0,0))→Upd (fun k=>k=eb) w W→∃v,(results fn tmps).run Tryz.prog W=.ok v W∧R (.returned v) W) :
  bodyPostD Tryz.prog fn R (.panic [{ v:=wrongV,recovered:=false }]) { tmps:=tmps,defers:=[{ target:=.fn (.func 87) #[],args:=#[.pointer (some ⟨eb,0,none⟩)] }] } w:=by
 refine leaves_cons (f:=87) (args:=#[.pointer (some ⟨eb,0,none⟩)]) (by simp) (by simp [go_sem]) ?_;refine (caught_panic _ _ _ _ hb).mono ?_;rintro e u' w'' ⟨rfl,rfl,rfl⟩;have hu:Upd (fun k=>k=eb) w (w.alloc (.cells #[] 224)):=(Upd.refl _ w).alloc _;refine h _ (heap_setCell_eq (i:=0) (.int .i64 13) (((Upd.refl noBlk w).alloc _).heap hb id)) (hu.setCell (p:=⟨eb,0,none⟩) (fun _=>rfl) _)
theorem door_good {fn:Func} {tmps:Array Value} {R:Ending→World→Prop} {eb:Nat} {w:World} (h:∃v,(results fn tmps).run Tryz.prog w=.ok v w∧R (.returned v) w) :
  bodyPostD Tryz.prog fn R .ret { tmps:=tmps,defers:=[{ target:=.fn (.func 87) #[],args:=#[.pointer (some ⟨eb,0,none⟩)] }] } w:=by
 refine leaves_cons (f:=87) (args:=#[.pointer (some ⟨eb,0,none⟩)]) (by simp) (by simp [go_sem]) ?_;refine (caught_idle _ _).mono ?_;rintro e u' w'' ⟨rfl,rfl,rfl⟩;exact h
end Go.Proofs.YtmgklblglpplcaaGreatDoor
namespace Go.Proofs.YtmgklblglpplcaaGreatDoor
open Go Go.RowKit Pk Pc
set_option maxRecDepth 100000
def RdS (w:World) (b:Nat) (s:Bytes):Prop:=w.heap[b]?=some (.cells #[.string (bs s)] 198 (0,0))
theorem takeR_short {n:Nat} {s:Bytes} (h:s.length<n):takeR n s=none:=if_pos h
theorem takeR_good {n:Nat} {s:Bytes} (h:¬s.length<n):takeR n s=some (s.take n,s.drop n):=if_neg h
set_option maxHeartbeats 1000000 in
theorem kTake_any (b n:Nat) (s:Bytes) (w:World) (h:RdS w b s) :
  Calls Tryz.prog 112 #[.pointer (some ⟨b,0,none⟩),.int .i64 n] w fun en w'=>orFail (takeR n s) (fun a en w'=>en=.returned (.string (bs a.1))∧RdS w' b a.2∧Upd (fun k=>k=b) w w') (fun w'=>w=w') en w':=by
 have HF:=fun W=>Lib.hid (fail_any W);obtain ⟨hc,hf⟩:=cellF1 h;have HH:Hid (w.heap[b]?=some (.cells #[.string (bs s)] 198 (0,0))):=h;obtain ⟨tgt,htgt⟩:∃t,t=takeR n s:=⟨_,rfl⟩;rw [←htgt];by_cases hl:s.length<n
 ·have HTN:Hid (tgt=none):=by show _=_;rw [htgt];exact takeR_short hl
  have hsz:((bs s).size:Int)<(n:Int):=by rw [bs_size];omega
  clear htgt h;go_enter Tryz.func112,Tryz.ntmps112
  go_wp2_with fail
  refine (HF _).out.mono ?_;rintro e w2 ⟨rfl,rfl⟩;unfold panicW;go_wp2_with fail
  refine ⟨rfl,?_⟩;rw [HTN.out];exact ⟨rfl,rfl⟩
 ·have HTS:Hid (tgt=some (s.take n,s.drop n)):=by show _=_;rw [htgt];exact takeR_good hl
  have hsz:¬((bs s).size:Int)<(n:Int):=by rw [bs_size];omega
  have hsz2:(n:Int)≤((bs s).size:Int):=by omega
  have hx1:(bs s).extract 0 n=bs (s.take n):=by rw [bs_extract];simp
  have hx2:(bs s).extract n (bs s).size=bs (s.drop n):=by rw [bs_extract,bs_size];congr 1;rw [List.take_of_length_le (by rw [List.length_drop];omega)]
  clear htgt h;go_enter Tryz.func112,Tryz.ntmps112
  go_wp2_with fail
  go_ret
  rw [HTS.out];exact ⟨rfl,heap_setCell_eq (i:=0) _ HH.out,(Upd.refl (fun k=>k=b) w).setCell (p:=⟨b,0,none⟩) (fun _=>rfl) _⟩
def kindM (k:Nat):Bytes→Option Bytes
 | []=>none
 | c :: r=>if c.toNat=k then some r else none
set_option maxHeartbeats 1000000 in
theorem kKind_any (b k:Nat) (s:Bytes) (w:World) (h:RdS w b s) :
  Calls Tryz.prog 104 #[.pointer (some ⟨b,0,none⟩),.int .u8 k] w fun en w'=>orFail (kindM k s) (fun a en w'=>en=.returned (.tuple #[])∧RdS w' b a∧Upd (fun k=>k=b) w w') (Upd (fun k=>k=b) w) en w':=by
 have HF:=fun W=>Lib.hid (fail_any W);have HTK:=Lib.hid (kTake_any b 1 s w h);obtain ⟨tgt,htgt⟩:∃t,t=kindM k s:=⟨_,rfl⟩;rw [←htgt];have HT:=Lib.hid htgt;clear htgt h;go_enter Tryz.func104,Tryz.ntmps104
 go_wp2_with fail
 refine HTK.out.mono ?_;intro e w2 hp;cases s with
 | nil=>
  have HTN:Hid (tgt=none):=HT.out;rw [takeR_short (by decide)] at hp;obtain ⟨rfl,rfl⟩:=hp;clear HTK HT;unfold panicW;go_wp2_with fail
  refine ⟨rfl,?_⟩;rw [HTN.out];exact ⟨rfl,Upd.refl _ _⟩
 | cons c r=>
  rw [takeR_good (by simp)] at hp;obtain ⟨rfl,h2,u2⟩:=hp;have HR:=Lib.hid h2;have HU:=Lib.hid u2;clear HTK h2 u2;simp only [List.take_succ_cons,List.take_zero,List.drop_succ_cons,List.drop_zero] at HR ⊢;have hz:0<(bs [c]).size:=by rw [bs_size];simp
  have h0:((bs [c])[0]'hz).toNat=c.toNat:=rfl;by_cases hk:c.toNat=k
  ·have HTS:Hid (tgt=some r):=by show _=_;rw [HT.out];exact if_pos hk
   subst hk;clear HT;go_wp2_with fail
   go_end0
   rw [HTS.out];exact ⟨rfl,HR.out,HU.out⟩
  ·have HTN:Hid (tgt=none):=by show _=_;rw [HT.out];exact if_neg hk
   have hk2:¬(c.toNat:Int)=(k:Int):=by omega
   clear HT;go_wp2_with fail
   refine (HF _).out.mono ?_;rintro e w3 ⟨rfl,rfl⟩;unfold panicW;go_wp2_with fail
   refine ⟨rfl,?_⟩;rw [HTN.out];exact ⟨rfl,HU.out⟩
theorem i64_or_nat {a y:Nat} (ha:a<2 ^ 63) (hy:y<2 ^ 63):bits .or .i64 (a:Int) (y:Int)=((a ||| y:Nat):Int):=by
 have h:=Nat.or_lt_two_pow ha hy;show IntKind.i64.wrap ((BitVec.ofInt 64 (a:Int) ||| BitVec.ofInt 64 (y:Int)).toNat:Int)=_;rw [BitVec.toNat_or,BitVec.ofInt_natCast,BitVec.ofInt_natCast,BitVec.toNat_ofNat,BitVec.toNat_ofNat,Nat.mod_eq_of_lt (by omega),Nat.mod_eq_of_lt (by omega),IntKind.wrap_i64];omega
theorem u8_and127 (c:Nat):bits .and .u8 (c:Int) 127=((c % 128:Nat):Int):=by
 have h127:(BitVec.ofInt 8 127).toNat=2 ^ 7-1:=by decide
 have key:(BitVec.ofInt 8 (c:Int) &&& BitVec.ofInt 8 127).toNat=c % 2 ^ 7:=by
  rw [BitVec.toNat_and,BitVec.ofInt_natCast,BitVec.toNat_ofNat,h127,Nat.and_two_pow_sub_one_eq_mod];omega
 show IntKind.u8.wrap ((BitVec.ofInt 8 (c:Int) &&& BitVec.ofInt 8 127).toNat:Nat)=_;rw [key,IntKind.wrap_u8];omega
theorem digit_acc {acc k c:Nat} (hk:k<9) (ha:acc<128 ^ k):bits BinOp.or IntKind.i64 (acc:Int) (wrap64 (wrap64 (bits BinOp.and IntKind.u8 (c:Int) 127)*2 ^ (7*k)))=((acc+c % 128*128 ^ k:Nat):Int):=by
 have e:(128:Nat) ^ k=2 ^ (7*k):=by rw [Nat.pow_mul]
 have hp:(128:Nat) ^ k≤2 ^ 56:=by rw [e];exact Nat.pow_le_pow_right (by decide) (by omega)
 have hm:c % 128*128 ^ k≤127*2 ^ 56:=Nat.mul_le_mul (by omega) hp;rw [u8_and127 c];have e1:wrap64 ((c % 128:Nat):Int)=((c % 128:Nat):Int):=by unfold wrap64;omega
 have e2:((c % 128:Nat):Int)*2 ^ (7*k)=((c % 128*128 ^ k:Nat):Int):=by rw [e];push_cast;rfl
 have e3:wrap64 ((c % 128*128 ^ k:Nat):Int)=((c % 128*128 ^ k:Nat):Int):=by unfold wrap64;omega
 rw [e1,e2,e3,i64_or_nat (by omega) (by omega)];have:=Nat.two_pow_add_eq_or_of_lt (i:=7*k) (b:=acc) (by rw [←e];exact ha) (c % 128);rw [e,Nat.or_comm,Nat.mul_comm (c % 128),←this,Nat.add_comm]
theorem acc_lt {acc k c:Nat} (ha:acc<128 ^ k):acc+c % 128*128 ^ k<128 ^ (k+1):=by
 have h:c % 128*128 ^ k≤127*128 ^ k:=Nat.mul_le_mul_right _ (by omega);rw [Nat.pow_succ];omega
set_option maxHeartbeats 1000000 in
theorem kNum_any (b:Nat) (s:Bytes) (w:World) (h:RdS w b s) :
  Calls Tryz.prog 105 #[.pointer (some ⟨b,0,none⟩)] w fun en w'=>orFail (readNum s) (fun a en w'=>en=.returned (.int .i64 (a.1:Nat))∧RdS w' b a.2∧Upd (fun k=>k=b) w w') (Upd (fun k=>k=b) w) en w':=by
 have HF:=fun W=>Lib.hid (fail_any W);have HTK:=fun s W hW=>Lib.hid (kTake_any b 1 s W hW);obtain ⟨tgt,htgt⟩:∃t,t=readNum s:=⟨_,rfl⟩;rw [←htgt];have HT:Hid (numR 9 1 0 s=tgt):=htgt.symm;have HR:=Lib.hid h;clear htgt h;go_enter Tryz.func105,Tryz.ntmps105
 go_wp2_with fail
 go_loopw [3,4] (fun n i wr=>∃(k acc:Nat) (s':Bytes),n=.int .i64 acc∧i=.int .i64 ((7*k:Nat):Int)∧k≤9∧acc<128 ^ k∧RdS wr b s'∧numR (9-k) (128 ^ k) acc s'=tgt∧Upd (fun k=>k=b) w wr) (fun _ i _=>63-(intOf i).toNat)
 case atStart=>exact ⟨0,0,s,rfl,rfl,by decide,by decide,HR.out,HT.out,Upd.refl _ _⟩
 case round=>
  obtain ⟨k,acc,s',rfl,rfl,hk,ha,hr,ht,hu⟩:=hrel;have HR2:=Lib.hid hr;have HT2:=Lib.hid ht;have HU:=Lib.hid hu;have HA:Hid (acc<128 ^ k):=ha;clear hr ht hu ha;by_cases hk9:k<9
  ·have hlt:((7*k:Nat):Int)<63:=by omega
   have HK:Hid (k<9):=hk9;have HT1:=Lib.hid (HTK s' wr HR2.out);clear hk hk9;have hws:wrap64 (7*(k:Int)+7)=7*(k:Int)+7:=by unfold wrap64;omega
   go_wp2_with fail
   refine HT1.out.out.mono ?_;intro e w2 hp;cases s' with
   | nil=>
    have HTN:Hid (tgt=none):=by
     show _=_;rw [←HT2.out];obtain ⟨j,hj⟩:∃j,9-k=j+1:=⟨8-k,by have:=HK.out;omega⟩;rw [hj];rfl
    rw [takeR_short (by decide)] at hp;obtain ⟨rfl,rfl⟩:=hp;clear HT1 HT;unfold panicW;go_wp2_with fail
    refine ⟨rfl,?_⟩;rw [HTN.out];exact ⟨rfl,HU.out⟩
   | cons c r=>
    obtain ⟨j,hj⟩:∃j,9-k=j+1:=⟨8-k,by have:=HK.out;omega⟩;have ht:=HT2.out;rw [hj] at ht;have HT3:Hid ((if c.toNat<128 then some (acc+c.toNat % 128*128 ^ k,r) else numR j (128 ^ k*128) (acc+c.toNat % 128*128 ^ k) r)=tgt):=ht;have HJ:Hid (9-k=j+1):=hj;have hv:=digit_acc (c:=c.toNat) HK.out HA.out;have HA2:=Lib.hid (acc_lt (c:=c.toNat) HA.out);clear ht hj HT HT2;rw [takeR_good (by simp)] at hp;obtain ⟨rfl,h2,u2⟩:=hp;have HR3:=Lib.hid h2;have HU2:=Lib.hid (HU.out.trans u2);clear HT1 h2 u2;simp only [List.take_succ_cons,List.take_zero,List.drop_succ_cons,List.drop_zero] at HR3 ⊢;have hz:0<(bs [c]).size:=by rw [bs_size];simp
    have h0:((bs [c])[0]'hz).toNat=c.toNat:=rfl;generalize acc+c.toNat % 128*128 ^ k=acc2 at *;by_cases hc:c.toNat<128
    ·have HTS:Hid (tgt=some (acc2,r)):=by show _=_;rw [←HT3.out];exact if_pos hc
     have hc':(c.toNat:Int)<128:=by omega
     go_wp2_with fail
     go_ret
     rw [HTS.out];exact ⟨rfl,HR3.out,HU2.out⟩
    ·have HT4:Hid (numR j (128 ^ k*128) acc2 r=tgt):=by show _=_;rw [←HT3.out];exact (if_neg hc).symm
     have hc':¬(c.toNat:Int)<128:=by omega
     clear HT3;go_wp2_with fail
     refine ⟨⟨k+1,acc2,r,rfl,by congr 1,by have:=HK.out;omega,HA2.out,HR3.out,?_,HU2.out⟩,?_⟩
     ·have e:9-(k+1)=j:=by have:=HJ.out;omega
      rw [e,Nat.pow_succ];exact HT4.out
     ·simp only [intOf];have:=HK.out;omega
  ·obtain rfl:k=9:=by omega
   have HTN:Hid (tgt=none):=HT2.out.symm;clear HT HT2 HA;go_wp2_with fail
   refine (HF _).out.mono ?_;rintro e w3 ⟨rfl,rfl⟩;unfold panicW;go_wp2_with fail
   refine ⟨rfl,?_⟩;rw [HTN.out];exact ⟨rfl,HU.out⟩
end Go.Proofs.YtmgklblglpplcaaGreatDoor
