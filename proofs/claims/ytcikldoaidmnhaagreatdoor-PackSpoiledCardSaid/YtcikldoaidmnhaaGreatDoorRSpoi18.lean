/- Parts: A state and a reader side by side: what each step leaves. No condition. A state and a writer side by side: what each step leaves. No condition. Hashes and parts as they lie in memory; strings made of bytes in the middle of a block. No condition. The reference's meshes as plain functions: its sorting, its corners, its border. No condition. Walks of the packets' program: a triangle that is not at a  -/
import Derived.Test.YtcikldoaidmnhaaGreatDoorRSpoi1
import Derived.Test.YtcikldoaidmnhaaGreatDoorRSpoi2
import Derived.Test.YtcikldoaidmnhaaGreatDoorRSpoi3
import Derived.Test.YtcikldoaidmnhaaGreatDoorRSpoi4
import Derived.Test.YtcikldoaidmnhaaGreatDoorRSpoi5
import Derived.Test.YtcikldoaidmnhaaGreatDoorRSpoi6
import Derived.Test.YtcikldoaidmnhaaGreatDoorRSpoi7
import Derived.Test.YtcikldoaidmnhaaGreatDoorRSpoi8
import Derived.Test.YtcikldoaidmnhaaGreatDoorRSpoi9
import Derived.Test.YtcikldoaidmnhaaGreatDoorRSpoi11
import Derived.Test.YtcikldoaidmnhaaGreatDoorRSpoi12
import Derived.Test.YtcikldoaidmnhaaGreatDoorRSpoi14
import Derived.Test.YtcikldoaidmnhaaGreatDoorRSpoi15
import Derived.Test.YtcikldoaidmnhaaGreatDoorRSpoi16
import Derived.Test.YtcikldoaidmnhaaGreatDoorRSpoi17
import Derived.WalkKit
import Derived.WalkSpells
import Derived.WalkLawsBesides
import Derived.Lib.Hide
import Derived.BigQuiet
import Derived.Deep.DeepFit
import Derived.Deep.DeepCutAuto
import Derived.Deep.AppendLies
import Derived.Deep.QuietTactic
import Derived.Test.YtcikldoaidmnhaaGreatDoorRows
import Derived.Deep.RegionHeld3
import Derived.StillTail
import Derived.Maps.OwnOps
import Derived.Maps.OwnSet
import Derived.Maps.RangeWalk
import Derived.WideKeyEntry
import Derived.Deep.MidRow
import Derived.Lib.Bits
import Derived.Laws.EntriesVeiled
import Derived.Handy
import Derived.DeepKeys4
import Derived.ArgAppend
import Derived.Deep.Upon
import Derived.Deep.CutBlock
import Derived.Test.YtcikldoaidmnhaaGreatDoorShelf2
import Derived.Laws.BitsAllLaws
import Derived.Laws.BytesArg
import Derived.Test.YtcikldoaidmnhaaGreatDoorShelf
import Derived.Lib.Zigzag
namespace Go.Proofs.YtcikldoaidmnhaaGreatDoor
open Go Go.RowKit Pk
set_option maxRecDepth 100000
abbrev H32:={h:Bytes // h.length=32}
abbrev P32:=H32 × H32
def hashC (h:H32):List Value:=byV h.1
def partC (p:P32):List Value:=byV p.1.1++byV p.2.1
def plainP (p:P32):Part:=(p.1.1,p.2.1)
theorem byV_len (l:Bytes):(byV l).length=l.length:=by simp [byV]
theorem hashC_len (h:H32):(hashC h).length=32:=by unfold hashC;rw [byV_len,h.2]
theorem partC_len (p:P32):(partC p).length=64:=by unfold partC;rw [List.length_append,byV_len,byV_len,p.1.2,p.2.2]
theorem byV_one (l:Bytes):∀v,v∈byV l→v.oneCell'=true:=by
 intro v hv;obtain ⟨c,_,rfl⟩:=List.mem_map.1 hv;rfl
theorem partC_one (p:P32):∀v,v∈partC p→v.oneCell'=true:=by
 intro v hv;rcases List.mem_append.1 hv with h | h
 ·exact byV_one _ v h
 ·exact byV_one _ v h
noncomputable def kHash:Kd Tryz.prog H32:={ T:=81,S:=63,k:=32,bytes:=32,enc:=hashC,len:=hashC_len,one:=fun h=>byV_one h.1,pos:=by decide,small:=by decide,und:=Tryz.underlying63,info:=kinfo_of (by kernel_rfl) }
noncomputable def kPart:Kd Tryz.prog P32:={ T:=83,S:=47,k:=64,bytes:=64,enc:=partC,len:=partC_len,one:=partC_one,pos:=by decide,small:=by decide,und:=Tryz.underlying47,info:=kinfo_of (by kernel_rfl) }
theorem conv_mid {w:World} {b off cap:Nat} {l:Bytes} (h:w.rangeAt b off (byV l)):(convert 41 9 (.slice (some ⟨b,off,none⟩) l.length cap)).run Tryz.prog w=.ok (.string (bs l)) w:=by
 have e:l.length=(l.map UInt8.toNat).length:=by simp
 rw [run_convert_bytes_arg w 41 5 Tryz.underlying41 Tryz.underlying5 b off l.length cap ((l.map UInt8.toNat).map fun (d:Nat)=>(d:Int)) (by simp) (fun i hi=>?_) 9 Tryz.underlying9,strOfNums_cast,str_bs];refine h i _ ?_;simp [byV,hi]
theorem part_ranges {w:World} {b o:Nat} {p:P32} (h:kPart.At w b o p):w.rangeAt b o (byV p.1.1)∧w.rangeAt b (o+32) (byV p.2.1):=by
 have h':w.rangeAt b o (byV p.1.1++byV p.2.1):=h;refine ⟨fun j v hv=>h' j v ?_,fun j v hv=>?_⟩
 ·have hj:=(List.getElem?_eq_some_iff.1 hv).1;rw [List.getElem?_append_left hj];exact hv
 ·rw [Nat.add_assoc];refine h' (32+j) v ?_;rw [List.getElem?_append_right (by rw [byV_len,p.1.2];omega),byV_len,p.1.2,Nat.add_sub_cancel_left];exact hv
end Go.Proofs.YtcikldoaidmnhaaGreatDoor
namespace Go.Proofs.YtcikldoaidmnhaaGreatDoor
open Go Go.RowKit Pk Pc
set_option maxRecDepth 100000
structure CW (D:Nat→Prop) (w0 wr:World) (b:Nat) (S:Wk) (bw:Nat) (l:Pk.Bits):Prop where
 ex:∃G F,SRep wr b S G∧WRep wr bw (encFrom E.init l) F∧(∀k,G k→¬F k)∧(∀k,G k∨F k→D k∨w0.heap.size≤k)
 up:Upd D w0 wr
theorem CW.upd {D:Nat→Prop} {w0 wr w2:World} {b:Nat} {S:Wk} {bw:Nat} {l:Pk.Bits} (h:CW D w0 wr b S bw l) (hu:Upd noBlk wr w2):CW D w0 w2 b S bw l:=by
 obtain ⟨⟨G,F,h1,h2,h3,h4⟩,h5⟩:=h;exact ⟨⟨G,F,h1.upd hu (fun _ _=>id),h2.upd hu (fun _ _=>id),h3,h4⟩,h5.trans (hu.mono (fun _ _ h=>h.elim))⟩
theorem CW.drew {D:Nat→Prop} {w0 wr:World} {b:Nat} {S:Wk} {bw:Nat} {l:Pk.Bits} (h:CW D w0 wr b S bw l):CW D w0 wr.drew b S bw l:=h.upd (Upd.refl _ wr).drew
theorem CW.stepW {D:Nat→Prop} {w0 wr w':World} {b:Nat} {S:Wk} {bw:Nat} {l':Pk.Bits} {G F F':Nat→Prop} (h1:SRep wr b S G) (h3:∀k,G k→¬F k) (h4:∀k,G k∨F k→D k∨w0.heap.size≤k) (h5:Upd D w0 wr) (h:WB F wr w' bw l' F'):CW D w0 w' b S bw l':=by
 obtain ⟨r,n,u⟩:=h;refine ⟨⟨G,F',h1.upd u (fun k hk=>h3 k hk),r,fun k hk hf=>?_,fun k hk=>?_⟩,h5.then u (fun i hi hf=>(h4 i (.inr hf)).resolve_right (by omega))⟩
 ·rcases n k hf with h | h
  ·exact h3 k hk h
  ·have:=h1.lt k hk;omega
 ·rcases hk with h | h
  ·exact h4 k (.inl h)
  ·rcases n k h with h | h
   ·exact h4 k (.inr h)
   ·exact .inr (by have:=h5.size;omega)
theorem CW.stepS {D:Nat→Prop} {w0 wr w':World} {b:Nat} {S':Wk} {bw:Nat} {l:Pk.Bits} {G F:Nat→Prop} (h2:WRep wr bw (encFrom E.init l) F) (h3:∀k,G k→¬F k) (h4:∀k,G k∨F k→D k∨w0.heap.size≤k) (h5:Upd D w0 wr) (h:SPost G wr w' b S'):CW D w0 w' b S' bw l:=by
 obtain ⟨G',r,n,u⟩:=h;refine ⟨⟨G',F,r,h2.upd u (fun k hf hk=>h3 k hk hf),fun k hk hf=>?_,fun k hk=>?_⟩,h5.then u (fun i hi hg=>(h4 i (.inl hg)).resolve_right (by omega))⟩
 ·rcases n k hk with h | h
  ·exact h3 k h hf
  ·have:=h2.lt k hf;omega
 ·rcases hk with h | h
  ·rcases n k h with h | h
   ·exact h4 k (.inl h)
   ·exact .inr (by have:=h5.size;omega)
  ·exact h4 k (.inr h)
theorem CW.bit {D:Nat→Prop} {w0 wr:World} {b:Nat} {S:Wk} {bw:Nat} {l:Pk.Bits} (h:CW D w0 wr b S bw l) (c:Int) (one:Bool) (hl:l.length≤900000) :
  Calls Tryz.prog 49 #[.pointer (some ⟨bw,0,none⟩),.int .i64 c,.bool one] wr fun en w'=>en=.returned (.tuple #[])∧CW D w0 w' b S bw (l++[(c,one)]):=by
 obtain ⟨⟨G,F,h1,h2,h3,h4⟩,h5⟩:=h;refine (WB.bit (F0:=F) (w:=wr) (WG.self h2) c one hl).mono ?_;rintro e w' ⟨rfl,F',h'⟩;exact ⟨rfl,CW.stepW h1 h3 h4 h5 h'⟩
theorem CW.number {D:Nat→Prop} {w0 wr:World} {b:Nat} {S:Wk} {bw:Nat} {l:Pk.Bits} (h:CW D w0 wr b S bw l) (c:Int) (n:Nat) (hn:n<2 ^ 64) (hl:l.length≤900000) :
  Calls Tryz.prog 46 #[.pointer (some ⟨bw,0,none⟩),.int .i64 c,.int .u64 n] wr fun en w'=>en=.returned (.tuple #[])∧CW D w0 w' b S bw (l++numBits c n):=by
 obtain ⟨⟨G,F,h1,h2,h3,h4⟩,h5⟩:=h;refine (WB.number (F0:=F) (w:=wr) (WG.self h2) c n hn hl).mono ?_;rintro e w' ⟨rfl,F',h'⟩;exact ⟨rfl,CW.stepW h1 h3 h4 h5 h'⟩
theorem CW.place {D:Nat→Prop} {w0 wr:World} {b:Nat} {S:Wk} {bw:Nat} {l:Pk.Bits} (h:CW D w0 wr b S bw l) (c:Int) (hc:0≤c∧c≤1000) (p near:Pt) (k1:farC p.1 near.1) (k2:farC p.2.1 near.2.1) (k3:farC p.2.2 near.2.2) (hl:l.length≤800000) :
  Calls Tryz.prog 51 #[.pointer (some ⟨bw,0,none⟩),.int .i64 c,ptV p,ptV near] wr fun en w'=>en=.returned (.tuple #[])∧CW D w0 w' b S bw (l++placeB c p near):=by
 obtain ⟨⟨G,F,h1,h2,h3,h4⟩,h5⟩:=h;refine (writePlace_any (F0:=F) (w:=wr) (WG.self h2) c hc p near k1 k2 k3 hl).mono ?_;rintro e w' ⟨rfl,F',h'⟩;exact ⟨rfl,CW.stepW h1 h3 h4 h5 h'⟩
theorem CW.last {D:Nat→Prop} {w0 wr:World} {b:Nat} {S:Wk} {bw:Nat} {l:Pk.Bits} (h:CW D w0 wr b S bw l) (hl:S.known.length≤1000000) :
  Calls Tryz.prog 98 #[.pointer (some ⟨b,0,none⟩)] wr fun en w'=>en=.returned (ptV (lastK S.known))∧Upd noBlk wr w':=by
 obtain ⟨G,F,h1,h2,h3,h4⟩:=h.ex;refine (last_any b S G hl wr h1).mono ?_;rintro e w' ⟨rfl,hu⟩;exact ⟨rfl,hu⟩
theorem CW.meet {D:Nat→Prop} {w0 wr:World} {b:Nat} {S:Wk} {bw:Nat} {l:Pk.Bits} (h:CW D w0 wr b S bw l) (p:Pt) (hp:okP p) (hl:S.known.length≤100000) :
  Calls Tryz.prog 50 #[.pointer (some ⟨b,0,none⟩),ptV p] wr fun en w'=>en=.returned (.tuple #[.int .i64 (meetN S.known p),.bool (decide (p∈S.known))])∧CW D w0 w' b ⟨meetK S.known p,S.tris,S.gates⟩ bw l:=by
 obtain ⟨⟨G,F,h1,h2,h3,h4⟩,h5⟩:=h;refine (meet_any b S G p hp hl wr h1).mono ?_;rintro e w' ⟨rfl,h'⟩;exact ⟨rfl,CW.stepS h2 h3 h4 h5 h'⟩
theorem CW.visit {D:Nat→Prop} {w0 wr:World} {b:Nat} {S:Wk} {bw:Nat} {l:Pk.Bits} (h:CW D w0 wr b S bw l) (t:Tri) (first:Nat) (hf:first=0∨first=1) (ht:okT t) (hfr:freeT false S.tris t) (hl:S.tris.length≤100000) (hg:S.gates.length≤1000000) :
  Calls Tryz.prog 53 #[.pointer (some ⟨b,0,none⟩),triV t,.int .i64 first] wr fun en w'=>en=.returned (.bool true)∧CW D w0 w' b (S.visit t first) bw l:=by
 obtain ⟨⟨G,F,h1,h2,h3,h4⟩,h5⟩:=h;refine (visit_any b S G t first hf ht hl hg wr h1).mono ?_;rintro e w' ⟨rfl,_,h'⟩;exact ⟨by rw [decide_eq_true hfr],CW.stepS h2 h3 h4 h5 (h' hfr)⟩
theorem CW.next {D:Nat→Prop} {w0 wr:World} {b:Nat} {S:Wk} {bw:Nat} {l:Pk.Bits} (h:CW D w0 wr b S bw l) (hok:∀g,g∈S.gates→okT g) (hl:S.gates.length≤1000000) :
  Calls Tryz.prog 47 #[.pointer (some ⟨b,0,none⟩)] wr fun en w'=>en=.returned (.tuple #[gateV (nextV S.tris S.gates),.bool (nextB S.tris S.gates)])∧CW D w0 w' b ⟨S.known,S.tris,restG S.tris S.gates⟩ bw l:=by
 obtain ⟨⟨G,F,h1,h2,h3,h4⟩,h5⟩:=h;refine (snext_any b S G hok hl wr h1).mono ?_;rintro e w' ⟨rfl,h'⟩;exact ⟨rfl,CW.stepS h2 h3 h4 h5 h'⟩
theorem CW.finish {D:Nat→Prop} {w0 wr:World} {b:Nat} {S:Wk} {bw:Nat} {l:Pk.Bits} (h:CW D w0 wr b S bw l) (hl:l.length≤900000) :
  Calls Tryz.prog 54 #[.pointer (some ⟨bw,0,none⟩)] wr fun en w'=>en=.returned (.string (str (encode l)))∧Upd noBlk wr w':=by
 obtain ⟨⟨G,F,h1,h2,h3,h4⟩,h5⟩:=h;exact WFinish_any bw _ F wr h2 (by have:=done_len hl;omega)
theorem CW.enter {D:Nat→Prop} {w0 wr:World} {b:Nat} {S:Wk} {bw:Nat} {l:Pk.Bits} (h:CW D w0 wr b S bw l):∃D1:Nat→Prop,(∀k,D1 k→k<wr.heap.size)∧(∀w1,Upd noBlk wr w1→CW D1 w1 w1 b S bw l)∧(∀w1 w' S' l',Upd noBlk wr w1→CW D1 w1 w' b S' bw l'→CW D w0 w' b S' bw l')∧(∀k,D1 k→D k∨w0.heap.size≤k):=by
 obtain ⟨⟨G,F,h1,h2,h3,h4⟩,h5⟩:=h;refine ⟨fun k=>G k∨F k,fun k hk=>?_,fun w1 hu=>?_,fun w1 w' S' l' hu h'=>?_,h4⟩
 ·rcases hk with h | h
  ·exact h1.lt k h
  ·exact h2.lt k h
 ·exact ⟨⟨G,F,h1.upd hu (fun _ _=>id),h2.upd hu (fun _ _=>id),h3,fun k hk=>.inl hk⟩,Upd.refl _ _⟩
 ·obtain ⟨⟨G',F',k1,k2,k3,k4⟩,k5⟩:=h';have hs:=hu.size;have hs5:=h5.size;refine ⟨⟨G',F',k1,k2,k3,fun k hk=>?_⟩,?_⟩
  ·rcases k4 k hk with h | h
   ·exact h4 k h
   ·exact .inr (by omega)
  ·exact (h5.trans (hu.mono (fun _ _ h=>h.elim))).then k5 (fun i hi hd=>(h4 i hd).resolve_right (by omega))
theorem CW.keepObj {D:Nat→Prop} {w0 wr:World} {b:Nat} {S:Wk} {bw:Nat} {l:Pk.Bits} (h:CW D w0 wr b S bw l) {k:Nat} {o:Obj} (ho:w0.heap[k]?=some o) (hk:¬D k):wr.heap[k]?=some o:=h.up.heap ho hk
def cornAt (t:Tri):Nat→Pt
 | 0=>t.1
 | 1=>t.2.1
 | _=>t.2.2
def seedK (t:Tri) (known:List Pt):Nat→List Pt
 | 0=>known
 | j+1=>meetK (seedK t known j) (cornAt t j)
def seedBs (t:Tri) (known:List Pt):Nat→Pk.Bits
 | 0=>[]
 | j+1=>seedBs t known j++cornerB (seedK t known j) (cornAt t j) (lastK (seedK t known j)) 0 192 256
theorem corner_len {known:List Pt} {p near:Pt} {b n q:Int} (hp:inP p) (hn:nearP near) (hk:known.length≤100000):(cornerB known p near b n q).length≤400:=by
 unfold cornerB;split
 ·rw [List.length_cons];have:=numBits_length n (n:=known.length-1-known.idxOf p) (by omega);omega
 ·obtain ⟨p1,p2,p3,p4,p5,p6⟩:=hp;obtain ⟨n1,n2,n3⟩:=hn;rw [List.length_cons];unfold placeB;rw [List.length_append,List.length_append];have a1:=numBits_length q (n:=zig (p.1-near.1)) (by have:=zig_small p1 p2 n1.1 n1.2;omega);have a2:=numBits_length (q+64) (n:=zig (p.2.1-near.2.1)) (by have:=zig_small p3 p4 n2.1 n2.2;omega);have a3:=numBits_length (q+128) (n:=zig (p.2.2-near.2.2)) (by have:=zig_small p5 p6 n3.1 n3.2;omega);omega
theorem seedK_len (t:Tri) (known:List Pt):∀j,(seedK t known j).length≤known.length+j
 | 0=>Nat.le_refl _
 | j+1=>by have:=seedK_len t known j;have h2:=meetK_len (seedK t known j) (cornAt t j);show (meetK _ _).length≤_;omega
theorem cornAt_in {t:Tri} (h:inT t) (j:Nat):inP (cornAt t j):=by
 obtain ⟨h1,h2,h3⟩:=h;match j with
 | 0=>exact h1
 | 1=>exact h2
 | _+2=>exact h3
theorem seedK_in {t:Tri} (h:inT t) {known:List Pt} (hk:∀p,p∈known→inP p):∀j,∀p,p∈seedK t known j→inP p
 | 0=>hk
 | j+1=>meetK_in (seedK_in h hk j) (cornAt_in h j)
theorem seedBs_len {t:Tri} (h:inT t) {known:List Pt} (hk:∀p,p∈known→inP p) (hl:known.length≤90000):∀j,j≤3→(seedBs t known j).length≤400*j
 | 0,_=>Nat.le_refl _
 | j+1,hj=>by
  have h1:=seedBs_len h hk hl j (by omega);have h2:=corner_len (known:=seedK t known j) (p:=cornAt t j) (near:=lastK (seedK t known j)) (b:=0) (n:=192) (q:=256) (cornAt_in h j) (near_of_in (lastK_in (seedK_in h hk j))) (by have:=seedK_len t known j;omega);show (_++_:List _).length≤_;rw [List.length_append];omega
theorem okP_of {p:Pt} (h:inP p):okP p:=by
 obtain ⟨p1,p2,p3,p4,p5,p6⟩:=h;exact ⟨⟨by omega,by omega⟩,⟨by omega,by omega⟩,⟨by omega,by omega⟩⟩
theorem okT_of {t:Tri} (h:inT t):okT t:=⟨okP_of h.1,okP_of h.2.1,okP_of h.2.2⟩
theorem far_of {p near:Pt} (hp:inP p) (hn:nearP near):farC p.1 near.1∧farC p.2.1 near.2.1∧farC p.2.2 near.2.2:=by
 obtain ⟨p1,p2,p3,p4,p5,p6⟩:=hp;obtain ⟨n1,n2,n3⟩:=hn;unfold farC;omega
end Go.Proofs.YtcikldoaidmnhaaGreatDoor
namespace Go.Proofs.YtcikldoaidmnhaaGreatDoor
open Go Go.RowKit Pk Pc
set_option maxRecDepth 100000
theorem index_tri (t:Tri) (j:Nat) (hj:j<3) (W:World):(Instr.index 45 (triV t) (.int .i64 (j:Int))).run Tryz.prog W=.ok (ptV (cornAt t j)) W:=by
 obtain ⟨⟨a0,a1,a2⟩,⟨a3,a4,a5⟩,⟨a6,a7,a8⟩⟩:=t;rcases (by omega:j=0∨j=1∨j=2) with rfl | rfl | rfl<;>kernel_rfl
theorem cells2 {w:World} {b:Nat} {x0 x1:Value} {t:TypeId} {fr:Nat × Nat} (h:w.heap[b]?=some (.cells #[x0,x1] t fr)):w.cell? ⟨b,0,none⟩=some x0∧w.cell? ⟨b,1,none⟩=some x1:=by simp [World.cell?,h]
set_option maxHeartbeats 4000000 in
theorem seed_any {D:Nat→Prop} {w0 wq:World} {b:Nat} {S:Wk} {bw:Nat} {l:Pk.Bits} (h:CW D w0 wq b S bw l) (t:Tri) (ht:inT t) (hk:∀p,p∈S.known→inP p) (hkl:S.known.length≤90000) (hfr:freeT false S.tris t) (htl:S.tris.length≤100000) (hgl:S.gates.length≤1000000) (hl:l.length≤700000) :
  Calls Tryz.prog 48 #[.agg #[.pointer (some ⟨b,0,none⟩),.pointer (some ⟨bw,0,none⟩)],triV t] wq fun en w'=>en=.returned (.tuple #[])∧CW D w0 w' b (Wk.visit ⟨seedK t S.known 3,S.tris,S.gates⟩ t 0) bw (l++seedBs t S.known 3):=by
 obtain ⟨D1,e1,e2,e3,_⟩:=h.enter;have HIX:=fun j hj W=>Lib.hid (index_tri t j hj W);obtain ⟨K,tr,gs⟩:=S;simp only at *;have HT:=Lib.hid ht;have HK:=Lib.hid hk;have HKL:Hid (K.length≤90000):=hkl;have HFR:=Lib.hid hfr;have HTL:Hid (tr.length≤100000):=htl;have HGL:Hid (gs.length≤1000000):=hgl;have HLL:Hid (l.length≤700000):=hl;obtain ⟨tv,htv⟩:∃tv,tv=triC t:=⟨_,rfl⟩;have htV:triV t=.agg tv.toArray:=by rw [htv];rfl
 obtain ⟨w1,hw1⟩:∃w1,w1=(wq.alloc (.cells #[.pointer (some ⟨b,0,none⟩),.pointer (some ⟨bw,0,none⟩)] 95)).alloc (.cells (triC t).toArray 45):=⟨_,rfl⟩;have hu1:Upd noBlk wq w1:=by rw [hw1];exact ((Upd.refl _ wq).alloc _).alloc _
 have HC1:=Lib.hid (e2 w1 hu1);have HB1:Hid (w1.heap[wq.heap.size]?=some (.cells #[.pointer (some ⟨b,0,none⟩),.pointer (some ⟨bw,0,none⟩)] 95 (0,0))):=by show _=_;rw [hw1];exact ((Upd.refl noBlk _).alloc _).heap (heap_alloc_new wq _) id
 have HT1:Hid (w1.heap[wq.heap.size+1]?=some (.cells (triC t).toArray 45 (0,0))):=by
  show _=_;rw [hw1];have:=heap_alloc_new (wq.alloc (.cells #[.pointer (some ⟨b,0,none⟩),.pointer (some ⟨bw,0,none⟩)] 95)) (.cells (triC t).toArray 45);rwa [World.size_alloc] at this
 have HE3:Hid (∀w' S' l',CW D1 w1 w' b S' bw l'→CW D w0 w' b S' bw l'):=fun w' S' l'=>e3 w1 w' S' l' hu1;have HD0:Hid (¬D1 wq.heap.size):=fun h=>by have:=e1 _ h;omega
 have HD1:Hid (¬D1 (wq.heap.size+1)):=fun h=>by have:=e1 _ h;omega
 clear h e1 e2 e3 ht hk hkl hfr htl hgl hl htv htV;clear tv;obtain ⟨⟨a0,a1,a2⟩,⟨a3,a4,a5⟩,⟨a6,a7,a8⟩⟩:=t;unfold triV triC at *;go_enter Tryz.func48,Tryz.ntmps48
 go_upto_region 1 with fail
 rw [←hw1];clear hw1 hu1;obtain ⟨g0,g1,g2,g3,g4,g5,g6,g7,g8⟩:=cells9 HT1.out;go_wp2_with fail
 clear g0 g1 g2 g3 g4 g5 g6 g7 g8;go_loopw [10] (fun i wr=>∃j:Nat,i=.int .i64 j∧j≤3∧CW D1 w1 wr b ⟨seedK ((a0,a1,a2),(a3,a4,a5),(a6,a7,a8)) K j,tr,gs⟩ bw (l++seedBs ((a0,a1,a2),(a3,a4,a5),(a6,a7,a8)) K j)) (fun i _=>3-(intOf i).toNat)
 case atStart=>exact ⟨0,rfl,by omega,by show CW _ _ _ _ ⟨K,tr,gs⟩ _ (l++[]);rw [List.append_nil];exact HC1.out⟩
 case round=>
  obtain ⟨j,rfl,hj,hc⟩:=hrel;have HC:=Lib.hid hc;clear hc HC1;by_cases hj3:j<3
  ·have hj':(j:Int)<3:=by omega
   have hix:=fun W=>(HIX j hj3 W).out;have hpin:=cornAt_in HT.out j;have hKin:=seedK_in HT.out HK.out j;have hKlen:=seedK_len ((a0,a1,a2),(a3,a4,a5),(a6,a7,a8)) K j;have hBlen:=seedBs_len HT.out HK.out HKL.out j hj;have hnin:=near_of_in (lastK_in hKin);have HS:Hid (seedBs ((a0,a1,a2),(a3,a4,a5),(a6,a7,a8)) K (j+1)=seedBs ((a0,a1,a2),(a3,a4,a5),(a6,a7,a8)) K j++cornerB (seedK ((a0,a1,a2),(a3,a4,a5),(a6,a7,a8)) K j) (cornAt ((a0,a1,a2),(a3,a4,a5),(a6,a7,a8)) j) (lastK (seedK ((a0,a1,a2),(a3,a4,a5),(a6,a7,a8)) K j)) 0 192 256):=rfl;have HSK:Hid (seedK ((a0,a1,a2),(a3,a4,a5),(a6,a7,a8)) K (j+1)=meetK (seedK ((a0,a1,a2),(a3,a4,a5),(a6,a7,a8)) K j) (cornAt ((a0,a1,a2),(a3,a4,a5),(a6,a7,a8)) j)):=rfl;obtain ⟨D2,d1,d2,d3,d4⟩:=HC.out.enter;have HBR:=Lib.hid (HC.out.keepObj HB1.out HD0.out);have HLT:Hid (wq.heap.size<wr.heap.size):=lt_of_heap HBR.out;have HD2:Hid (¬D2 wq.heap.size):=fun h=>by
    rcases d4 _ h with h | h
    ·exact HD0.out h
    ·have:=lt_of_heap HB1.out;omega
   have HDD:=Lib.hid d1;have HD3:=Lib.hid d2;have HD4:=Lib.hid d3;clear d1 d2 d3 d4;generalize seedK ((a0,a1,a2),(a3,a4,a5),(a6,a7,a8)) K j=KJ at *;generalize seedBs ((a0,a1,a2),(a3,a4,a5),(a6,a7,a8)) K j=BJ at *;generalize hpp:cornAt ((a0,a1,a2),(a3,a4,a5),(a6,a7,a8)) j=pj at *;clear hpp;obtain ⟨p0,p1,p2⟩:=pj;generalize hnn:lastK KJ=nj at *;have HNN:=Lib.hid hnn;clear hnn;obtain ⟨n0,n1,n2⟩:=nj;have HPIN:=Lib.hid hpin;have HNIN:=Lib.hid hnin;have HKJL:Hid (KJ.length≤90003):=by have:=HKL.out;show _≤_;omega
   have HBJL:Hid ((l++BJ).length≤702000):=by have:=HLL.out;show _≤_;rw [List.length_append];omega
   unfold ptV at hix;clear hpin hnin hKin hKlen hBlen;have hu1:Upd noBlk wr (wr.alloc (.cells #[.int .i64 p0,.int .i64 p1,.int .i64 p2] 43)):=(Upd.refl _ wr).alloc _;have HLAST:=Lib.hid ((HD3.out _ hu1).last (by have:=HKJL.out;show KJ.length≤_;omega));have HU1:=Lib.hid hu1;have HP1:=Lib.hid (heap_alloc_new wr (.cells #[.int .i64 p0,.int .i64 p1,.int .i64 p2] 43));have HB2:=Lib.hid (hu1.heap HBR.out id);obtain ⟨b0,b1⟩:=cells2 HBR.out;obtain ⟨b0',b1'⟩:=cells2 HB2.out;rw [HNN.out] at HLAST;clear hu1;go_wp2_with fail
   refine HLAST.out.mono ?_;rintro e w2 ⟨rfl,u2⟩;have HU2:=Lib.hid (HU1.out.trans u2);have HB3:=Lib.hid (u2.heap HB2.out id);have HP2:=Lib.hid (u2.heap HP1.out id);clear u2 HLAST b0 b1 b0' b1';unfold ptV;have HU3:=Lib.hid (HU2.out.alloc (.cells #[.int .i64 n0,.int .i64 n1,.int .i64 n2] 43));have hu3:Upd noBlk w2 (w2.alloc (.cells #[.int .i64 n0,.int .i64 n1,.int .i64 n2] 43)):=(Upd.refl _ w2).alloc _;have HB4:=Lib.hid (hu3.heap HB3.out id);have HP4:=Lib.hid (hu3.heap HP2.out id);have HN4:=Lib.hid (heap_alloc_new w2 (.cells #[.int .i64 n0,.int .i64 n1,.int .i64 n2] 43));have HBN:Hid (wr.heap.size≤w2.heap.size):=HU2.out.size;have HMEET:=Lib.hid ((HD3.out _ HU3.out).meet (p0,p1,p2) (okP_of HPIN.out) (by have:=HKJL.out;show KJ.length≤_;omega));obtain ⟨x3,hx3⟩:∃x3,x3=w2.alloc (.cells #[.int .i64 n0,.int .i64 n1,.int .i64 n2] 43):=⟨_,rfl⟩;rw [←hx3] at HU3 HB4 HP4 HN4 HMEET;have HBS:=HB4;have HPS:=HP4;have HNS:=HN4;obtain ⟨b0,b1⟩:=cells2 HB4.out;obtain ⟨k0,k1,k2⟩:=cells3 HP4.out;clear hu3 HB2 HP1 HB3 HP2;go_upto_region 5 with fail
   rw [←hx3];clear hx3;unfold ptV at HMEET;go_wp2_with fail
   refine HMEET.out.mono ?_;rintro e w4 ⟨rfl,hc4⟩;have HC4:=Lib.hid hc4;have HB5:=Lib.hid (hc4.keepObj HB4.out HD2.out);have HP5:=Lib.hid (hc4.keepObj HP4.out (fun h=>by have:=HDD.out _ h;omega));have HN5:=Lib.hid (hc4.keepObj HN4.out (fun h=>by have:=HDD.out _ h;have:=HBN.out;omega));clear hc4 HMEET b0 b1 k0 k1 k2 HB4 HP4 HN4;obtain ⟨b0,b1⟩:=cells2 HB5.out;by_cases hm:(p0,p1,p2)∈KJ
   ·have hd:decide ((p0,p1,p2)∈KJ)=true:=decide_eq_true hm;have HCB:Hid (cornerB KJ (p0,p1,p2) (n0,n1,n2) 0 192 256=[(0,true)]++numBits 192 (meetN KJ (p0,p1,p2))):=by
     show _=_;unfold cornerB meetN;rw [if_pos hm,if_pos hm];rfl
    have HML:Hid (meetN KJ (p0,p1,p2)≤100000):=by show _≤_;unfold meetN;have:=HKJL.out;split<;>omega
    generalize meetN KJ (p0,p1,p2)=mn at *;have hwn:IntKind.u64.wrap (mn:Int)=(mn:Int):=by have:=HML.out;have:=IntKind.wrap_u64 (mn:Int);omega
    rw [hd];have HBIT:=Lib.hid (HC4.out.bit 0 true (by have:=HBJL.out;omega));clear hm hd;go_wp2_with fail
    refine HBIT.out.mono ?_;rintro e w5 ⟨rfl,hc5⟩;have HC5:=Lib.hid hc5;have HB6:=Lib.hid (hc5.keepObj HBS.out HD2.out);clear hc5 HBIT b0 b1;obtain ⟨b0,b1⟩:=cells2 HB6.out;have HNUM:=Lib.hid (HC5.out.number 192 mn (by have:=HML.out;omega) (by have:=HBJL.out;rw [List.length_append];simp only [List.length_cons,List.length_nil];omega));go_wp2_with fail
    refine HNUM.out.mono ?_;rintro e w6 ⟨rfl,hc6⟩;have HC6:=Lib.hid (HD4.out x3 w6 _ _ HU3.out hc6);clear hc6 HNUM b0 b1;go_wp2_with fail
    refine ⟨⟨j+1,by go_num,by omega,?_⟩,by simp [intOf];omega⟩;rw [HS.out,HSK.out,HCB.out,←List.append_assoc,←List.append_assoc];exact HC6.out
   ·have hd:decide ((p0,p1,p2)∈KJ)=false:=decide_eq_false hm;have HCB:Hid (cornerB KJ (p0,p1,p2) (n0,n1,n2) 0 192 256=[(0,false)]++placeB 256 (p0,p1,p2) (n0,n1,n2)):=by
     show _=_;unfold cornerB;rw [if_neg hm];rfl
    rw [hd];have HBIT:=Lib.hid (HC4.out.bit 0 false (by have:=HBJL.out;omega));clear hm hd;go_wp2_with fail
    refine HBIT.out.mono ?_;rintro e w5 ⟨rfl,hc5⟩;have HC5:=Lib.hid hc5;have HB6:=Lib.hid (hc5.keepObj HBS.out HD2.out);have HP6:=Lib.hid (hc5.keepObj HPS.out (fun h=>by have:=HDD.out _ h;omega));have HN6:=Lib.hid (hc5.keepObj HNS.out (fun h=>by have:=HDD.out _ h;have:=HBN.out;omega));clear hc5 HBIT b0 b1;obtain ⟨b0,b1⟩:=cells2 HB6.out;obtain ⟨k0,k1,k2⟩:=cells3 HP6.out;obtain ⟨m0,m1,m2⟩:=cells3 HN6.out;obtain ⟨f1,f2,f3⟩:=far_of HPIN.out HNIN.out;have HPL:=Lib.hid (HC5.out.place 256 ⟨by omega,by omega⟩ (p0,p1,p2) (n0,n1,n2) f1 f2 f3 (by have:=HBJL.out;rw [List.length_append];simp only [List.length_cons,List.length_nil];omega));unfold ptV at HPL;clear f1 f2 f3;go_wp2_with fail
    refine HPL.out.mono ?_;rintro e w6 ⟨rfl,hc6⟩;have HC6:=Lib.hid (HD4.out x3 w6 _ _ HU3.out hc6);clear hc6 HPL b0 b1 k0 k1 k2 m0 m1 m2;go_wp2_with fail
    refine ⟨⟨j+1,by go_num,by omega,?_⟩,by simp [intOf];omega⟩;rw [HS.out,HSK.out,HCB.out,←List.append_assoc,←List.append_assoc];exact HC6.out
  ·obtain rfl:j=3:=by omega
   have HBE:=Lib.hid (HC.out.keepObj HB1.out HD0.out);have HTE:=Lib.hid (HC.out.keepObj HT1.out HD1.out);obtain ⟨b0,b1⟩:=cells2 HBE.out;obtain ⟨g0,g1,g2,g3,g4,g5,g6,g7,g8⟩:=cells9 HTE.out;have HV:=Lib.hid (HC.out.visit ((a0,a1,a2),(a3,a4,a5),(a6,a7,a8)) 0 (.inl rfl) (okT_of HT.out) HFR.out HTL.out HGL.out);unfold triV triC at HV;go_wp2_with fail
   refine HV.out.mono ?_;rintro e w6 ⟨rfl,hc6⟩;have HC6:=Lib.hid (HE3.out _ _ _ hc6);clear hc6 HV;go_wp2_with fail
   go_end0
   exact ⟨rfl,HC6.out⟩
end Go.Proofs.YtcikldoaidmnhaaGreatDoor
namespace Go.Proofs.YtcikldoaidmnhaaGreatDoor
open Go Go.RowKit Pk Pc
set_option maxRecDepth 100000
structure CR (Z N:Nat→Prop) (w0 wr:World) (b:Nat) (S:Wk) (br:Nat) (d:D):Prop where
 ex:∃G F,SRep wr b S G∧RRep wr br d F∧(∀k,G k→¬F k)∧(∀k,G k∨F k→Z k∨w0.heap.size≤k)
 up:Upd (fun k=>Z k∨N k) w0 wr
theorem CR.upd {Z N:Nat→Prop} {w0 wr w2:World} {b:Nat} {S:Wk} {br:Nat} {d:D} (h:CR Z N w0 wr b S br d) (hu:Upd noBlk wr w2):CR Z N w0 w2 b S br d:=by
 obtain ⟨⟨G,F,h1,h2,h3,h4⟩,h5⟩:=h;exact ⟨⟨G,F,h1.upd hu (fun _ _=>id),h2.upd hu (fun _ _=>id),h3,h4⟩,h5.trans (hu.mono (fun _ _ h=>h.elim))⟩
theorem CR.drew {Z N:Nat→Prop} {w0 wr:World} {b:Nat} {S:Wk} {br:Nat} {d:D} (h:CR Z N w0 wr b S br d):CR Z N w0 wr.drew b S br d:=h.upd (Upd.refl _ wr).drew
theorem CR.stepR {Z N:Nat→Prop} {w0 wr w':World} {b:Nat} {S:Wk} {br:Nat} {d':D} {G F F':Nat→Prop} (h1:SRep wr b S G) (h3:∀k,G k→¬F k) (h4:∀k,G k∨F k→Z k∨w0.heap.size≤k) (h5:Upd (fun k=>Z k∨N k) w0 wr) (h:RG F wr w' br d' F'):CR Z N w0 w' b S br d':=by
 obtain ⟨r,n,u⟩:=h;refine ⟨⟨G,F',h1.upd u (fun k hk=>h3 k hk),r,fun k hk hf=>?_,fun k hk=>?_⟩,h5.then u (fun i hi hf=>.inl ((h4 i (.inr hf)).resolve_right (by omega)))⟩
 ·rcases n k hf with h | h
  ·exact h3 k hk h
  ·have:=h1.lt k hk;omega
 ·rcases hk with h | h
  ·exact h4 k (.inl h)
  ·rcases n k h with h | h
   ·exact h4 k (.inr h)
   ·exact .inr (by have:=h5.size;omega)
theorem CR.stepS {Z N:Nat→Prop} {w0 wr w':World} {b:Nat} {S':Wk} {br:Nat} {d:D} {G F:Nat→Prop} (h2:RRep wr br d F) (h3:∀k,G k→¬F k) (h4:∀k,G k∨F k→Z k∨w0.heap.size≤k) (h5:Upd (fun k=>Z k∨N k) w0 wr) (h:SPost G wr w' b S'):CR Z N w0 w' b S' br d:=by
 obtain ⟨G',r,n,u⟩:=h;refine ⟨⟨G',F,r,h2.upd u (fun k hf hk=>h3 k hk hf),fun k hk hf=>?_,fun k hk=>?_⟩,h5.then u (fun i hi hg=>.inl ((h4 i (.inl hg)).resolve_right (by omega)))⟩
 ·rcases n k hk with h | h
  ·exact h3 k h hf
  ·have:=h2.lt k hf;omega
 ·rcases hk with h | h
  ·rcases n k h with h | h
   ·exact h4 k (.inl h)
   ·exact .inr (by have:=h5.size;omega)
  ·exact h4 k (.inr h)
theorem CR.bit {Z N:Nat→Prop} {w0 wr:World} {b:Nat} {S:Wk} {br:Nat} {d:D} (h:CR Z N w0 wr b S br d) (c:Int) :
  Calls Tryz.prog 151 #[.pointer (some ⟨br,0,none⟩),.int .i64 c] wr fun en w'=>en=.returned (.bool (d.one c))∧CR Z N w0 w' b S br (d.bit c):=by
 obtain ⟨⟨G,F,h1,h2,h3,h4⟩,h5⟩:=h;refine ((RG.self h2).bit c).mono ?_;rintro e w' ⟨rfl,F',h'⟩;exact ⟨rfl,CR.stepR h1 h3 h4 h5 h'⟩
theorem CR.number {Z N:Nat→Prop} {w0 wr:World} {b:Nat} {S:Wk} {br:Nat} {d:D} (h:CR Z N w0 wr b S br d) (c:Int) :
  Calls Tryz.prog 174 #[.pointer (some ⟨br,0,none⟩),.int .i64 c] wr fun en w'=>en=.returned (numV (d.number c))∧CR Z N w0 w' b S br (d.number c).d:=by
 obtain ⟨⟨G,F,h1,h2,h3,h4⟩,h5⟩:=h;refine (RNumber_any (RG.self h2) c).mono ?_;rintro e w' ⟨rfl,F',h'⟩;exact ⟨rfl,CR.stepR h1 h3 h4 h5 h'⟩
theorem CR.last {Z N:Nat→Prop} {w0 wr:World} {b:Nat} {S:Wk} {br:Nat} {d:D} (h:CR Z N w0 wr b S br d) (hl:S.known.length≤1000000) :
  Calls Tryz.prog 98 #[.pointer (some ⟨b,0,none⟩)] wr fun en w'=>en=.returned (ptV (lastK S.known))∧Upd noBlk wr w':=by
 obtain ⟨G,F,h1,h2,h3,h4⟩:=h.ex;refine (last_any b S G hl wr h1).mono ?_;rintro e w' ⟨rfl,hu⟩;exact ⟨rfl,hu⟩
theorem CR.meet {Z N:Nat→Prop} {w0 wr:World} {b:Nat} {S:Wk} {br:Nat} {d:D} (h:CR Z N w0 wr b S br d) (p:Pt) (hp:okP p) (hl:S.known.length≤100000) :
  Calls Tryz.prog 50 #[.pointer (some ⟨b,0,none⟩),ptV p] wr fun en w'=>en=.returned (.tuple #[.int .i64 (meetN S.known p),.bool (decide (p∈S.known))])∧CR Z N w0 w' b ⟨meetK S.known p,S.tris,S.gates⟩ br d:=by
 obtain ⟨⟨G,F,h1,h2,h3,h4⟩,h5⟩:=h;refine (meet_any b S G p hp hl wr h1).mono ?_;rintro e w' ⟨rfl,h'⟩;exact ⟨rfl,CR.stepS h2 h3 h4 h5 h'⟩
theorem CR.visit {Z N:Nat→Prop} {w0 wr:World} {b:Nat} {S:Wk} {br:Nat} {d:D} (h:CR Z N w0 wr b S br d) (t:Tri) (first:Nat) (hf:first=0∨first=1) (ht:okT t) (hl:S.tris.length≤100000) (hg:S.gates.length≤1000000) :
  Calls Tryz.prog 53 #[.pointer (some ⟨b,0,none⟩),triV t,.int .i64 first] wr fun en w'=>en=.returned (.bool (decide (freeT false S.tris t)))∧Upd (fun k=>Z k∨N k) w0 w'∧(freeT false S.tris t→CR Z N w0 w' b (S.visit t first) br d):=by
 obtain ⟨⟨G,F,h1,h2,h3,h4⟩,h5⟩:=h;refine (visit_any b S G t first hf ht hl hg wr h1).mono ?_;rintro e w' ⟨rfl,hu,h'⟩;exact ⟨rfl,h5.then hu (fun i hi hg=>.inl ((h4 i (.inl hg)).resolve_right (by omega))),fun hfr=>CR.stepS h2 h3 h4 h5 (h' hfr)⟩
theorem CR.next {Z N:Nat→Prop} {w0 wr:World} {b:Nat} {S:Wk} {br:Nat} {d:D} (h:CR Z N w0 wr b S br d) (hok:∀g,g∈S.gates→okT g) (hl:S.gates.length≤1000000) :
  Calls Tryz.prog 47 #[.pointer (some ⟨b,0,none⟩)] wr fun en w'=>en=.returned (.tuple #[gateV (nextV S.tris S.gates),.bool (nextB S.tris S.gates)])∧CR Z N w0 w' b ⟨S.known,S.tris,restG S.tris S.gates⟩ br d:=by
 obtain ⟨⟨G,F,h1,h2,h3,h4⟩,h5⟩:=h;refine (snext_any b S G hok hl wr h1).mono ?_;rintro e w' ⟨rfl,h'⟩;exact ⟨rfl,CR.stepS h2 h3 h4 h5 h'⟩
theorem CR.own {Z N:Nat→Prop} {w0 wr w2:World} {b:Nat} {S:Wk} {br:Nat} {d:D} (h:CR Z N w0 wr b S br d) (hN:∀k,N k→¬Z k∧k<w0.heap.size) (hu:Upd N wr w2):CR Z N w0 w2 b S br d:=by
 obtain ⟨⟨G,F,h1,h2,h3,h4⟩,h5⟩:=h;have hd:∀k,G k∨F k→¬N k:=fun k hk hn=>by
  obtain ⟨q1,q2⟩:=hN k hn;rcases h4 k hk with h | h
  ·exact q1 h
  ·omega
 exact ⟨⟨G,F,h1.upd hu (fun k hk=>hd k (.inl hk)),h2.upd hu (fun k hk=>hd k (.inr hk)),h3,h4⟩,h5.trans (hu.mono (fun _ _ h=>.inr h))⟩
theorem CR.keepObj {Z N:Nat→Prop} {w0 wr:World} {b:Nat} {S:Wk} {br:Nat} {d:D} (h:CR Z N w0 wr b S br d) {k:Nat} {o:Obj} (ho:w0.heap[k]?=some o) (hk:¬Z k) (hn:¬N k):wr.heap[k]?=some o:=h.up.heap ho (fun h=>h.elim hk hn)
theorem CR.enter {Z N:Nat→Prop} {w0 wr:World} {b:Nat} {S:Wk} {br:Nat} {d:D} (h:CR Z N w0 wr b S br d) (N1:Nat→Prop) (hN1:∀k,N1 k→wr.heap.size≤k):∃Z1:Nat→Prop,(∀k,Z1 k→k<wr.heap.size)∧(∀w1,Upd noBlk wr w1→CR Z1 N1 w1 w1 b S br d)∧(∀w1 w' S' d',Upd noBlk wr w1→CR Z1 N1 w1 w' b S' br d'→CR Z N w0 w' b S' br d')∧(∀w1 w',Upd noBlk wr w1→Upd (fun k=>Z1 k∨N1 k) w1 w'→Upd (fun k=>Z k∨N k) w0 w')∧(∀k,Z1 k→Z k∨w0.heap.size≤k):=by
 obtain ⟨⟨G,F,h1,h2,h3,h4⟩,h5⟩:=h;have hq:∀w1 w',Upd noBlk wr w1→Upd (fun k=>(G k∨F k)∨N1 k) w1 w'→Upd (fun k=>Z k∨N k) w0 w':=fun w1 w' hu k5=>by
  have hs:=hu.size;have hs5:=h5.size;refine (h5.trans (hu.mono (fun _ _ h=>h.elim))).then k5 (fun i hi hd=>?_);rcases hd with hd | hd
  ·exact .inl ((h4 i hd).resolve_right (by omega))
  ·have:=hN1 i hd;omega
 refine ⟨fun k=>G k∨F k,fun k hk=>?_,fun w1 hu=>?_,fun w1 w' S' d' hu h'=>?_,hq,h4⟩
 ·rcases hk with h | h
  ·exact h1.lt k h
  ·exact h2.lt k h
 ·exact ⟨⟨G,F,h1.upd hu (fun _ _=>id),h2.upd hu (fun _ _=>id),h3,fun k hk=>.inl hk⟩,Upd.refl _ _⟩
 ·obtain ⟨⟨G',F',k1,k2,k3,k4⟩,k5⟩:=h';have hs:=hu.size;have hs5:=h5.size;refine ⟨⟨G',F',k1,k2,k3,fun k hk=>?_⟩,hq w1 w' hu k5⟩;rcases k4 k hk with h | h
  ·exact h4 k h
  ·exact .inr (by omega)
theorem CR.lift {Z N:Nat→Prop} {w0 wr:World} {b:Nat} {S:Wk} {br:Nat} {d:D} (h:CR Z N w0 wr b S br d):∃Z2:Nat→Prop,CR Z2 noBlk wr wr b S br d∧(∀k,Z2 k→k<wr.heap.size) ∧
  (∀w' S' d',CR Z2 noBlk wr w' b S' br d'→CR Z N w0 w' b S' br d'∧∀k o,wr.heap[k]?=some o→¬Z k→k<w0.heap.size→w'.heap[k]?=some o) ∧
  (∀w',Upd (fun k=>Z2 k∨noBlk k) wr w'→Upd (fun k=>Z k∨N k) w0 w'):=by
 obtain ⟨Z2,q1,q2,q3,q4,q5⟩:=h.enter noBlk (fun _ h=>h.elim);refine ⟨Z2,q2 _ (Upd.refl _ _),q1,fun w' S' d' hc=>⟨q3 _ w' S' d' (Upd.refl _ _) hc,fun k o ho hz hk=>hc.up.heap ho (fun h=>?_)⟩,fun w' hu=>q4 _ w' (Upd.refl _ _) hu⟩;rcases h with h | h
 ·rcases q5 k h with h | h
  ·exact hz h
  ·omega
 ·exact h
theorem CR.base {Z N:Nat→Prop} {w:World} {b:Nat} {S:Wk} {br:Nat} {d:D} (h:CR Z N w w b S br d) (N':Nat→Prop):CR Z N' w w b S br d:=⟨h.ex,Upd.refl _ _⟩
theorem CR.monoN {Z N N':Nat→Prop} {w0 w:World} {b:Nat} {S:Wk} {br:Nat} {d:D} (h:CR Z N w0 w b S br d) (hN:∀k,N k→N' k):CR Z N' w0 w b S br d:=⟨h.ex,h.up.mono (fun k _ hk=>hk.imp id (hN k))⟩
theorem CR.setN {Z N:Nat→Prop} {w0 wr w2:World} {b:Nat} {S:Wk} {br:Nat} {d:D} (h:CR Z N w0 wr b S br d) {k:Nat} (hk:k<w0.heap.size) (hz:¬Z k) (hu:Upd (fun i=>i=k) wr w2):CR Z (fun i=>N i∨i=k) w0 w2 b S br d:=by
 obtain ⟨⟨G,F,h1,h2,h3,h4⟩,h5⟩:=h;have hd:∀i,G i∨F i→¬i=k:=fun i hi e=>by
  subst e;rcases h4 i hi with h | h
  ·exact hz h
  ·omega
 exact ⟨⟨G,F,h1.upd hu (fun i hi=>hd i (.inl hi)),h2.upd hu (fun i hi=>hd i (.inr hi)),h3,h4⟩,(h5.mono (fun i _ hi=>hi.imp id .inl)).trans (hu.mono (fun i _ hi=>.inr (.inr hi)))⟩
theorem CR.allocSet {Z N:Nat→Prop} {w0 wr w2:World} {b:Nat} {S:Wk} {br:Nat} {d:D} (h:CR Z N w0 wr b S br d) (o:Obj) (hu:Upd (fun i=>i=wr.heap.size) (wr.alloc o) w2):CR Z N w0 w2 b S br d:=by
 obtain ⟨Z4,q1,q2,q3,_,_⟩:=h.enter (fun k=>k=wr.heap.size) (fun k hk=>by omega);have ha:Upd noBlk wr (wr.alloc o):=(Upd.refl _ wr).alloc o;refine q3 _ w2 S d ha ((q2 _ ha).own (fun k hk=>⟨fun h=>by have:=q1 _ h;omega,?_⟩) hu);rw [hk,World.size_alloc];exact Nat.lt_succ_self _
end Go.Proofs.YtcikldoaidmnhaaGreatDoor
namespace Go.Proofs.YtcikldoaidmnhaaGreatDoor
open Go Go.RowKit Pk Pc
set_option maxRecDepth 100000
def wrongV:Value:=.iface 224 (.agg #[])
def panicW:Ending:=.panicked [{ v:=wrongV,recovered:=false }]
def orFail {α:Type} (o:Option α) (good:α→Ending→World→Prop) (bad:World→Prop) (en:Ending) (w':World):Prop:=match o with
 | some a=>good a en w'
 | none=>en=panicW∧bad w'
theorem fail_any (w:World):Calls Tryz.prog 114 #[] w fun en w'=>en=panicW∧w=w':=by
 go_enter Tryz.func114,Tryz.ntmps114
 go_wp2_with fail
 exact ⟨rfl,rfl,rfl⟩
def openerV (b br:Nat):Value:=.agg #[.pointer (some ⟨b,0,none⟩),.pointer (some ⟨br,0,none⟩)]
def numM (d:D) (c lim:Int):Option (Nat × D):=if (d.number c).ok=true∧((d.number c).n:Int)<lim then some ((d.number c).n,(d.number c).d) else none
theorem RG.upd {F0 F:Nat→Prop} {w wr w2:World} {r:Nat} {d:D} (h:RG F0 w wr r d F) (hu:Upd noBlk wr w2):RG F0 w w2 r d F:=⟨h.rep.upd hu (fun _ _=>id),h.new,h.up.trans (hu.mono (fun _ _ h=>h.elim))⟩
set_option maxHeartbeats 1000000 in
theorem onumber_R {F0 F:Nat→Prop} {w0 wr:World} (b:Nat) {br:Nat} {d:D} (h:RG F0 w0 wr br d F) (c lim:Int) (h0:0≤lim) (h1:lim≤9223372036854775807) :
  Calls Tryz.prog 149 #[openerV b br,.int .i64 c,.int .i64 lim] wr fun en w'=>orFail (numM d c lim) (fun a en w'=>en=.returned (.int .i64 (a.1:Nat))∧∃F',RG F0 w0 w' br a.2 F') (Upd F0 w0) en w':=by
 have hal:=(Upd.refl noBlk wr).alloc (.cells #[.pointer (some ⟨b,0,none⟩),.pointer (some ⟨br,0,none⟩)] 183);have HC:=Lib.hid (h.upd hal);have HB:=Lib.hid (heap_alloc_new wr (.cells #[.pointer (some ⟨b,0,none⟩),.pointer (some ⟨br,0,none⟩)] 183));have HL:=Lib.hid (And.intro h0 h1);obtain ⟨tgt,htgt⟩:∃t,t=numM d c lim:=⟨_,rfl⟩;rw [←htgt];have HT:=Lib.hid htgt;have hwl:IntKind.u64.wrap lim=lim:=by have:=IntKind.wrap_u64 lim;omega
 clear h hal h0 h1 htgt;unfold openerV;go_enter Tryz.func149,Tryz.ntmps149
 go_upto_region 1 with fail
 generalize wr.heap.size=bo at *;generalize wr.alloc (.cells #[.pointer (some ⟨b,0,none⟩),.pointer (some ⟨br,0,none⟩)] 183)=w1 at *;obtain ⟨g0,g1⟩:=cells2 HB.out;go_wp2_with fail
 refine (RNumber_any HC.out c).mono ?_;rintro e w2 ⟨rfl,F',h2⟩;have H2:=Lib.hid h2;unfold numM at HT;generalize d.number c=x at *;obtain ⟨n,ok,d'⟩:=x;clear g0 g1 HC HB h2;unfold numV;simp only at HT H2 ⊢;have HF:=fun W=>Lib.hid (fail_any W);cases ok with
 | false=>
  have HN:Hid (tgt=none):=by show _=_;have:=HT.out;rw [this];simp
  go_wp2_with fail
  refine (HF _).out.mono ?_;rintro e w3 ⟨rfl,rfl⟩;unfold panicW;go_wp2_with fail
  refine ⟨rfl,?_⟩;rw [HN.out];exact ⟨rfl,H2.out.up⟩
 | true=>
  by_cases hn:(n:Int)<lim
  ·have HN:Hid (tgt=some (n,d')):=by show _=_;have:=HT.out;rw [this,if_pos ⟨rfl,hn⟩]
   have hn2:¬lim≤(n:Int):=by omega
   have hwn:IntKind.i64.wrap (n:Int)=n:=wrapN (by omega) (by have:=HL.out;omega);go_wp2_with fail
   go_ret
   rw [HN.out];exact ⟨rfl,F',H2.out⟩
  ·have HN:Hid (tgt=none):=by show _=_;have:=HT.out;rw [this];simp [hn]
   have hn2:lim≤(n:Int):=by omega
   go_wp2_with fail
   refine (HF _).out.mono ?_;rintro e w3 ⟨rfl,rfl⟩;unfold panicW;go_wp2_with fail
   refine ⟨rfl,?_⟩;rw [HN.out];exact ⟨rfl,H2.out.up⟩
theorem onumber_any {Z N:Nat→Prop} {w0 wr:World} {b:Nat} {S:Wk} {br:Nat} {d:D} (h:CR Z N w0 wr b S br d) (c lim:Int) (h0:0≤lim) (h1:lim≤9223372036854775807) :
  Calls Tryz.prog 149 #[openerV b br,.int .i64 c,.int .i64 lim] wr fun en w'=>orFail (numM d c lim) (fun a en w'=>en=.returned (.int .i64 (a.1:Nat))∧CR Z N w0 w' b S br a.2) (Upd (fun k=>Z k∨N k) w0) en w':=by
 obtain ⟨⟨G,F,q1,q2,q3,q4⟩,q5⟩:=h;refine (onumber_R b (RG.self q2) c lim h0 h1).mono ?_;intro en w' hp;rcases hm:numM d c lim with _ | ⟨n,d'⟩
 ·rw [hm] at hp;obtain ⟨rfl,hu⟩:=hp;exact ⟨rfl,q5.then hu (fun i hi hf=>.inl ((q4 i (.inr hf)).resolve_right (by omega)))⟩
 ·rw [hm] at hp;obtain ⟨rfl,F',hr⟩:=hp;exact ⟨rfl,CR.stepR q1 q3 q4 q5 hr⟩
end Go.Proofs.YtcikldoaidmnhaaGreatDoor
namespace Go.Proofs.YtcikldoaidmnhaaGreatDoor
open Go Go.RowKit
namespace Pk
theorem rot_ref (t:Tri):(if ptLt t.2.2 t.1&&(ptLt t.2.2 t.2.1||!ptLt t.2.1 t.1) then (t.2.2,t.1,t.2.1) else if ptLt t.2.1 t.1 then (t.2.1,t.2.2,t.1) else t)=rot t:=by
 unfold rot;cases h1:ptLt t.2.1 t.1<;>cases h2:ptLt t.2.2 t.2.1<;>cases h3:ptLt t.2.2 t.1<;>simp
 have:=ptLt_trans h2 h1;rw [h3] at this;cases this
def mergeT:List Tri→List Tri→List Tri
 | [],b=>b
 | a :: r,b=>b.takeWhile (fun t=>triLt t a)++a :: mergeT r (b.dropWhile (fun t=>triLt t a))
theorem mergeT_perm:∀a b:List Tri,(mergeT a b).Perm (a++b)
 | [],b=>List.Perm.refl _
 | a :: r,b=>by
  rw [mergeT];have h1:=mergeT_perm r (b.dropWhile (fun t=>triLt t a));have h2:b=b.takeWhile (fun t=>triLt t a)++b.dropWhile (fun t=>triLt t a):=List.takeWhile_append_dropWhile.symm;refine (List.perm_middle).trans ?_;rw [List.cons_append];refine List.Perm.cons a ?_;refine (List.Perm.append_left _ h1).trans ?_;refine List.Perm.trans ?_ (List.Perm.of_eq (congrArg (r++·) h2.symm));show (_++(r++_)).Perm (r++(_++_));rw [←List.append_assoc,←List.append_assoc];exact List.Perm.append_right _ List.perm_append_comm
theorem le_of_ge {s t:Tri} (h:triLt s t=false):triLe t s=true:=by unfold triLe;rw [h];rfl
theorem le_of_lt {s t:Tri} (h:triLt s t=true):triLe s t=true:=by unfold triLe;rw [triLt_asymm h];rfl
def Sorted (l:List Tri):Prop:=l.Pairwise (fun a b=>triLe a b=true)
theorem sorted_drop {a:Tri}:∀{b:List Tri},Sorted b→(∀x,x∈b.dropWhile (fun t=>triLt t a)→triLe a x=true)∧Sorted (b.dropWhile (fun t=>triLt t a))
 | [],_=>⟨fun x h=>(by cases h),List.Pairwise.nil⟩
 | y :: b,h=>by
  obtain ⟨p1,p2⟩:=List.pairwise_cons.1 h;rw [List.dropWhile_cons];cases hy:triLt y a
  ·simp only [Bool.false_eq_true,if_false];refine ⟨fun x hx=>?_,h⟩;rcases List.mem_cons.1 hx with rfl | hx
   ·exact le_of_ge hy
   ·exact triLe_trans _ _ _ (le_of_ge hy) (p1 x hx)
  ·simp only [if_true];exact sorted_drop p2
theorem mergeT_sorted:∀{a b:List Tri},Sorted a→Sorted b→Sorted (mergeT a b)
 | [],b,_,h=>h
 | a :: r,b,h1,h2=>by
  obtain ⟨p1,p2⟩:=List.pairwise_cons.1 h1;obtain ⟨q1,q2⟩:=sorted_drop (a:=a) h2;have ih:=mergeT_sorted p2 q2;rw [mergeT];have ht:∀x,x∈b.takeWhile (fun t=>triLt t a)→triLt x a=true:=fun x hx=>by
   exact List.all_eq_true.1 (List.all_takeWhile (p:=fun t=>triLt t a) (l:=b)) x hx
  have hr:∀x,x∈a :: mergeT r (b.dropWhile (fun t=>triLt t a))→triLe a x=true:=fun x hx=>by
   rcases List.mem_cons.1 hx with rfl | hx
   ·exact le_of_ge (triLt_irrefl x)
   ·rcases List.mem_append.1 ((mergeT_perm _ _).mem_iff.1 hx) with hx | hx
    ·exact p1 x hx
    ·exact q1 x hx
  refine List.pairwise_append.2 ⟨?_,List.pairwise_cons.2 ⟨fun x hx=>hr x (List.mem_cons_of_mem _ hx),ih⟩,fun x hx y hy=>triLe_trans _ _ _ (le_of_lt (ht x hx)) (hr y hy)⟩;exact List.Pairwise.sublist (List.takeWhile_sublist _) h2
theorem mergeT_sort (a b:List Tri):mergeT (a.mergeSort triLe) (b.mergeSort triLe)=(a++b).mergeSort triLe:=by
 have hs:∀l:List Tri,Sorted (l.mergeSort triLe):=fun l=>List.pairwise_mergeSort triLe_trans triLe_total l;refine sorted_unique ?_ (mergeT_sorted (hs a) (hs b)) (hs _);refine (mergeT_perm _ _).trans (List.Perm.trans ?_ (List.mergeSort_perm _ _).symm);exact List.Perm.append (List.mergeSort_perm _ _) (List.mergeSort_perm _ _)
theorem sort_half (l:List Tri):mergeT ((l.take (l.length / 2)).mergeSort triLe) ((l.drop (l.length / 2)).mergeSort triLe)=l.mergeSort triLe:=by
 rw [mergeT_sort,List.take_append_drop]
theorem sort_few (l:List Tri) (h:l.length<2):l.mergeSort triLe=l:=by
 match l,h with
 | [],_=>simp
 | [a],_=>simp
end Pk
end Go.Proofs.YtcikldoaidmnhaaGreatDoor
