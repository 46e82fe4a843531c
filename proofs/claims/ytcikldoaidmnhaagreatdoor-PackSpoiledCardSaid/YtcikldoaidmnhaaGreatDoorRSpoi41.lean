/- Parts: Walks of the reference of packets: group packets are opened. No condition. -/
import Derived.Test.YtcikldoaidmnhaaGreatDoorRSpoi1
import Derived.Test.YtcikldoaidmnhaaGreatDoorRSpoi2
import Derived.Test.YtcikldoaidmnhaaGreatDoorRSpoi3
import Derived.Test.YtcikldoaidmnhaaGreatDoorRSpoi4
import Derived.Test.YtcikldoaidmnhaaGreatDoorRSpoi5
import Derived.Test.YtcikldoaidmnhaaGreatDoorRSpoi6
import Derived.Test.YtcikldoaidmnhaaGreatDoorRSpoi7
import Derived.Test.YtcikldoaidmnhaaGreatDoorRSpoi11
import Derived.Test.YtcikldoaidmnhaaGreatDoorRSpoi12
import Derived.Test.YtcikldoaidmnhaaGreatDoorRSpoi13
import Derived.Test.YtcikldoaidmnhaaGreatDoorRSpoi14
import Derived.Test.YtcikldoaidmnhaaGreatDoorRSpoi17
import Derived.Test.YtcikldoaidmnhaaGreatDoorRSpoi18
import Derived.Test.YtcikldoaidmnhaaGreatDoorRSpoi19
import Derived.Test.YtcikldoaidmnhaaGreatDoorRSpoi20
import Derived.Test.YtcikldoaidmnhaaGreatDoorRSpoi25
import Derived.Test.YtcikldoaidmnhaaGreatDoorRSpoi26
import Derived.Test.YtcikldoaidmnhaaGreatDoorRSpoi31
import Derived.Test.YtcikldoaidmnhaaGreatDoorRSpoi32
import Derived.Test.YtcikldoaidmnhaaGreatDoorRSpoi33
import Derived.Test.YtcikldoaidmnhaaGreatDoorRSpoi34
import Derived.Test.YtcikldoaidmnhaaGreatDoorRSpoi36
import Derived.Test.YtcikldoaidmnhaaGreatDoorRSpoi37
import Derived.Test.YtcikldoaidmnhaaGreatDoorRSpoi38
import Derived.WalkKit
import Derived.WalkSpells
import Derived.WalkLawsBesides
import Derived.Lib.Hide
import Derived.BigQuiet
import Derived.Deep.DeepFit
import Derived.Deep.DeepCutAuto
import Derived.Deep.AppendLies
import Derived.Deep.QuietTactic
import Derived.Test.YtcikldoaidmnhaaGreatDoorRows
import Derived.Deep.RegionHeld3
import Derived.StillTail
import Derived.Maps.OwnOps
import Derived.Maps.OwnSet
import Derived.Maps.RangeWalk
import Derived.WideKeyEntry
import Derived.Deep.MidRow
import Derived.Lib.Bits
import Derived.Laws.EntriesVeiled
import Derived.Handy
import Derived.DeepKeys4
import Derived.ArgAppend
import Derived.Deep.Upon
import Derived.Deep.CutBlock
import Derived.Test.YtcikldoaidmnhaaGreatDoorShelf2
import Derived.Test.YtcikldoaidmnhaaGreatDoorShelf
import Derived.Laws.BitsAllLaws
import Derived.Lib.Zigzag
import Derived.Recover
import Derived.Laws.BytesArg
import Derived.Deep.WholeRow
import Derived.Laws.IdiomStrings
import Derived.Deep.LoopGhost
namespace Go.Proofs.YtcikldoaidmnhaaGreatDoor
open Go Go.RowKit Pk
set_option maxRecDepth 100000
theorem StepB.move {s1 s2:Bytes} {b2:Bool} {a b c d e f:Nat} (h:LoopB readNum 6 s1 6 [a,b,c,d,e,f] s2 b2):StepB moveR s1 false (((a:Int),(b:Int),(c:Int)),((d:Int),(e:Int),(f:Int))) s2 b2:=by
 rcases h with ⟨rfl,h⟩ | ⟨rfl,_,h⟩
 ·exact .none (.inr (by unfold moveR;rw [h]))
 ·exact .some (by unfold moveR;rw [h])
structure GSt (w w2 W:World) (rb gb jb:Nat) (cs:Array Value) (s:Bytes) (b:Bool):Prop where
 r:RdJ W jb s b
 g:W.heap[gb]?=some (.cells cs 68 (0,0))
 z:W.heap[rb]?=some (.cells #[.int .i64 0,.slice none 0 0,.slice none 0 0,.slice none 0 0,.int .i64 0,.int .i64 0,.bool false,.string ⟨#[]⟩] 68 (0,0))
 up:Upd noBlk w W
 sz:w2.heap.size≤W.heap.size
structure GNe (w w2:World) (rb gb jb:Nat):Prop where
 r:rb≠jb
 g:gb≠jb
 q:rb≠gb
 wr:w.heap.size≤rb
 wg:w.heap.size≤gb
 wj:w.heap.size≤jb
 jr:rb<w2.heap.size
 jg:gb<w2.heap.size
 jj:jb<w2.heap.size
theorem GSt.call {w w2 W W':World} {rb gb jb:Nat} {cs:Array Value} {s s':Bytes} {b b':Bool} (h:GSt w w2 W rb gb jb cs s b) (hn:GNe w w2 rb gb jb) (hu:Upd (fun k=>k=jb) W W') (hr:RdJ W' jb s' b'):GSt w w2 W' rb gb jb cs s' b':=
 ⟨hr,hu.heap h.g (fun e=>hn.g e),hu.heap h.z (fun e=>hn.r e),h.up.then hu (fun i hi e=>by have e':i=jb:=e;have:=hn.wj;omega),Nat.le_trans h.sz hu.size⟩
theorem GSt.keep {w w2 W W':World} {rb gb jb:Nat} {cs:Array Value} {s:Bytes} {b:Bool} (h:GSt w w2 W rb gb jb cs s b) (hu:Upd noBlk W W'):GSt w w2 W' rb gb jb cs s b:=
 ⟨hu.heap h.r id,hu.heap h.g id,hu.heap h.z id,h.up.trans hu,Nat.le_trans h.sz hu.size⟩
theorem GSt.other {w w2 W W':World} {F:Nat→Prop} {rb gb jb:Nat} {cs:Array Value} {s:Bytes} {b:Bool} (h:GSt w w2 W rb gb jb cs s b) (hn:GNe w w2 rb gb jb) (hu:Upd F W W') (hF:∀k,F k→w2.heap.size≤k):GSt w w2 W' rb gb jb cs s b:=
 ⟨hu.heap h.r (fun f=>by have:=hF _ f;have:=hn.jj;omega),hu.heap h.g (fun f=>by have:=hF _ f;have:=hn.jg;omega),hu.heap h.z (fun f=>by have:=hF _ f;have:=hn.jr;omega),h.up.then hu (fun i hi f=>by have:=hF _ f;have:=hn.jj;have:=hn.wj;omega),Nat.le_trans h.sz hu.size⟩
theorem GSt.set {w w2 W:World} {rb gb jb:Nat} {cs:Array Value} {s:Bytes} {b:Bool} (h:GSt w w2 W rb gb jb cs s b) (hn:GNe w w2 rb gb jb) (i:Nat) (v:Value):GSt w w2 (W.setCell ⟨gb,i,none⟩ v) rb gb jb (cs.setIfInBounds i v) s b:=
 ⟨heap_setCell_ne v h.r (fun e=>hn.g e.symm),heap_setCell_eq (i:=i) v h.g,heap_setCell_ne v h.z hn.q,h.up.setCell (p:=⟨gb,i,none⟩) (fun hh=>absurd hh (Nat.not_lt.2 hn.wg)) v,by rw [World.size_setCell];exact h.sz⟩
theorem Kd.Own.late {α:Type} {K:Kd Tryz.prog α} {B k:Nat} {w w':World} {v:Value} {l:List α} (h:K.Own B w v l) (hu:Upd (fun i=>i=k) w w') (hk:k<B):K.Own B w' v l:=h.other hu (fun g hg e=>by have h1:=(Kd.Own.blk h hg).1;have e':g=k:=e;omega)
theorem Kd.Own.lateS {α:Type} {K:Kd Tryz.prog α} {B k:Nat} {w:World} {v:Value} {l:List α} (h:K.Own B w v l) (i:Nat) (x:Value) (hk:k<B):K.Own B (w.setCell ⟨k,i,none⟩ x) v l:=Kd.Own.late h ((Upd.refl (fun j=>j=k) w).setCell (p:=⟨k,i,none⟩) (fun _=>rfl) x) hk
theorem map_hash (l:List H32):(l.map (·.1)).map h32=l:=by
 rw [List.map_map];have:l.map (h32 ∘ (·.1))=l.map id:=List.map_congr_left (fun p _=>h32_mk p.2);rw [this,List.map_id]
def c6 (l:List Nat):Array Value:=#[.int .i64 ((l.getD 0 0:Nat):Int),.int .i64 ((l.getD 1 0:Nat):Int),.int .i64 ((l.getD 2 0:Nat):Int),.int .i64 ((l.getD 3 0:Nat):Int),.int .i64 ((l.getD 4 0:Nat):Int),.int .i64 ((l.getD 5 0:Nat):Int)]
theorem c6_set:∀(l:List Nat) (x:Nat),l.length<6→(c6 l).setIfInBounds l.length (.int .i64 (x:Int))=c6 (l++[x])
 | [],_,_=>rfl
 | [_],_,_=>rfl
 | [_,_],_,_=>rfl
 | [_,_,_],_,_=>rfl
 | [_,_,_,_],_,_=>rfl
 | [_,_,_,_,_],_,_=>rfl
 | _ :: _ :: _ :: _ :: _ :: _ :: l,_,h=>by simp only [List.length_cons] at h;omega
theorem c6_at {w:World} {b:Nat} {l:List Nat} {t:TypeId} (h:w.heap[b]?=some (.cells (c6 l) t (0,0))) {j:Nat} (hj:j<6):(∃x:Nat,w.cell? ⟨b,j,none⟩=some (.int .i64 (x:Int)))∧w.frozen? ⟨b,j,none⟩=false:=by
 obtain ⟨⟨h0,h1,h2,h3,h4,h5⟩,⟨f0,f1,f2,f3,f4,f5⟩⟩:(w.cell? ⟨b,0,none⟩=some (.int .i64 ((l.getD 0 0:Nat):Int))∧w.cell? ⟨b,1,none⟩=some (.int .i64 ((l.getD 1 0:Nat):Int))∧w.cell? ⟨b,2,none⟩=some (.int .i64 ((l.getD 2 0:Nat):Int))∧w.cell? ⟨b,3,none⟩=some (.int .i64 ((l.getD 3 0:Nat):Int))∧w.cell? ⟨b,4,none⟩=some (.int .i64 ((l.getD 4 0:Nat):Int))∧w.cell? ⟨b,5,none⟩=some (.int .i64 ((l.getD 5 0:Nat):Int)))∧(w.frozen? ⟨b,0,none⟩=false∧w.frozen? ⟨b,1,none⟩=false∧w.frozen? ⟨b,2,none⟩=false∧w.frozen? ⟨b,3,none⟩=false∧w.frozen? ⟨b,4,none⟩=false∧w.frozen? ⟨b,5,none⟩=false):=by simp [World.cell?,World.frozen?,h,c6]
 rcases (by omega:j=0∨j=1∨j=2∨j=3∨j=4∨j=5) with rfl | rfl | rfl | rfl | rfl | rfl
 ·exact ⟨⟨_,h0⟩,f0⟩
 ·exact ⟨⟨_,h1⟩,f1⟩
 ·exact ⟨⟨_,h2⟩,f2⟩
 ·exact ⟨⟨_,h3⟩,f3⟩
 ·exact ⟨⟨_,h4⟩,f4⟩
 ·exact ⟨⟨_,h5⟩,f5⟩
theorem LoopB.any {α:Type} {one:Bytes→Option (α × Bytes)} {n:Nat} {s:Bytes} {k:Nat} {l:List α} {s1 s2:Bytes} {x:α} {b1 b2:Bool} (hk:k<n) (h:LoopB one n s k l s1 b1) (h2:StepB one s1 b1 x s2 b2):LoopB one n s (k+1) (l++[x]) s2 b2:=by
 cases b1 with
 | false=>exact LoopB.step hk h h2
 | true=>
  rcases h with ⟨_,h⟩ | ⟨h,_⟩
  ·rcases h2 with ⟨rfl,_⟩ | ⟨_,h3,_⟩
   ·exact .inl ⟨rfl,h⟩
   ·cases h3
  ·cases h
theorem own_two {α:Type} {K:Kd Tryz.prog α} {B jb:Nat} {w w':World} {v:Value} {l:List α} {o:Obj} (h:K.Own B w v l) (hu:Upd (fun i=>i=jb∨i=w.heap.size) (w.alloc o) w') (hj:jb<B):K.Own B w' v l:=
 Kd.Own.other (Kd.Own.upd h ((Upd.refl noBlk w).alloc o)) hu (fun g hg e=>by
  have h1:=(Kd.Own.blk h hg);obtain ⟨k1,_,k2⟩:=h1;have k3:=lt_of_heap k2;rcases e with e | e<;>omega)
theorem GSt.two {w w2 W W':World} {rb gb jb:Nat} {cs:Array Value} {s s':Bytes} {b b':Bool} {o:Obj} (h:GSt w w2 W rb gb jb cs s b) (hn:GNe w w2 rb gb jb) (hu:Upd (fun i=>i=jb∨i=W.heap.size) (W.alloc o) W') (hr:RdJ W' jb s' b'):GSt w w2 W' rb gb jb cs s' b':=by
 have k:=h.keep ((Upd.refl noBlk W).alloc o);have hs:=h.sz;exact ⟨hr,hu.heap k.g (fun e=>by have h1:=hn.g;have h2:=hn.jg;rcases e with e | e<;>omega),hu.heap k.z (fun e=>by have h1:=hn.r;have h2:=hn.jr;rcases e with e | e<;>omega),k.up.then hu (fun i hi e=>by have h1:=hn.wj;have h2:=hn.jj;rcases e with e | e<;>omega),Nat.le_trans k.sz hu.size⟩
theorem six_of {l:List Nat} (h:l.length=6):∃a b c d e f,l=[a,b,c,d,e,f]:=by
 match l,h with
 | [a,b,c,d,e,f],_=>exact ⟨a,b,c,d,e,f,rfl⟩
theorem own_apart {α β:Type} {K1:Kd Tryz.prog α} {K2:Kd Tryz.prog β} {B:Nat} {w:World} {v1 v2:Value} {l1:List α} {l2:List β} (h1:K1.Own B w v1 l1) (h2:K2.Own B w v2 l2) (ht:K1.T≠K2.T):∀g,v1.ownBlock=some g→¬v2.ownBlock=some g:=fun g e1 e2=>by
 obtain ⟨_,c1,k1⟩:=Kd.Own.blk h1 e1;obtain ⟨_,c2,k2⟩:=Kd.Own.blk h2 e2;rw [k1] at k2;exact ht (Obj.cells.inj (Option.some.inj k2)).2.1
set_option maxHeartbeats 4000000 in
theorem jOpenGroup_any (s:Bytes) (hs:s.length≤1152921504606846976) (w:World):Calls Tryz.prog 37 #[.string (bs s)] w fun en w'=>groupP (grpR s) w en w':=by
 obtain ⟨w1,hw1⟩:∃w1,w1=(w.alloc (.cells #[.int .i64 0,.slice none 0 0,.slice none 0 0,.slice none 0 0,.int .i64 0,.int .i64 0,.bool false,.string ⟨#[]⟩] 68)).alloc (.cells #[.int .i64 0,.slice none 0 0,.slice none 0 0,.slice none 0 0,.int .i64 0,.int .i64 0,.bool false,.string ⟨#[]⟩] 68):=⟨_,rfl⟩;have HZ0:Hid (w1.heap[w.heap.size]?=some (.cells #[.int .i64 0,.slice none 0 0,.slice none 0 0,.slice none 0 0,.int .i64 0,.int .i64 0,.bool false,.string ⟨#[]⟩] 68 (0,0))):=by show _=_;rw [hw1];exact ((Upd.refl noBlk _).alloc _).heap (heap_alloc_new w _) id
 have HG0:Hid (w1.heap[w.heap.size+1]?=some (.cells #[.int .i64 0,.slice none 0 0,.slice none 0 0,.slice none 0 0,.int .i64 0,.int .i64 0,.bool false,.string ⟨#[]⟩] 68 (0,0))):=by
  show _=_;rw [hw1,←World.size_alloc w (.cells #[.int .i64 0,.slice none 0 0,.slice none 0 0,.slice none 0 0,.int .i64 0,.int .i64 0,.bool false,.string ⟨#[]⟩] 68)];exact heap_alloc_new _ _
 have HU0:Hid (Upd noBlk w w1):=by show Upd _ _ _;rw [hw1];exact ((Upd.refl noBlk w).alloc _).alloc _
 have hsz1:w1.heap.size=w.heap.size+2:=by rw [hw1,World.size_alloc,World.size_alloc]
 obtain ⟨tgt,htgt⟩:∃t,t=grpR s:=⟨_,rfl⟩;rw [←htgt];rw [grp_same s (by omega)] at htgt;have HT:=Lib.hid htgt;have HSL:Hid (s.length≤1152921504606846976):=hs;clear htgt hs;go_enter Tryz.func37,Tryz.ntmps37
 go_upto_region 2 with fail
 rw [←hw1];clear hw1;obtain ⟨rb,hrb⟩:∃rb,rb=w.heap.size:=⟨_,rfl⟩;obtain ⟨gb,hgb⟩:∃gb,gb=rb+1:=⟨_,rfl⟩;have HB:Hid (w.heap.size≤rb∧gb=rb+1∧w1.heap.size=rb+2):=⟨by omega,hgb,by omega⟩;rw [←hrb] at HZ0 HG0;rw [←hrb] at hsz1;rw [←hgb] at HG0;rw [←hrb,←hgb];clear hrb hgb hsz1;have HEND:Hid (∀W:World,Upd noBlk w W→W.heap[rb]?=some (.cells #[.int .i64 0,.slice none 0 0,.slice none 0 0,.slice none 0 0,.int .i64 0,.int .i64 0,.bool false,.string ⟨#[]⟩] 68 (0,0))→tgt=none→True):=fun _ _ _ _=>trivial;cases s with
 | nil=>
  have HTN:Hid (tgt=none):=HT.out;have hz:(((bs []).size:Nat):Int)=0:=rfl;obtain ⟨_,⟨f0,f1,f2,f3,f4,f5,f6,f7⟩⟩:=cellsF8 HZ0.out;obtain ⟨⟨g0,g1,g2,g3,g4,g5,g6,g7⟩,_⟩:=cellsF8 HG0.out;go_wp2_with fail
  obtain ⟨hsx,hsu⟩:=same8 HZ0.out
  (try simp only [Exit.inBlock,Exit.then])
  refine bodyPost_ret (results_cell_tmp1 rfl _ rfl (load_group hsx)) rfl ?_;rw [HTN.out];exact ⟨HU0.out.trans hsu,rfl⟩
 | cons c r=>
  have hz:0<(bs (c :: r)).size:=by rw [bs_size];simp
  have h0:((bs (c :: r))[0]'hz).toNat=c.toNat:=rfl;have hsz:¬(((bs (c :: r)).size:Nat):Int)=0:=by omega
  have hs1:(1:Int)≤(((bs (c :: r)).size:Nat):Int):=by omega
  have hx:(bs (c :: r)).extract 1 (bs (c :: r)).size=bs r:=by rw [bs_extract,bs_size];simp
  have hnz:¬bs (c :: r)=ByteArray.empty:=fun h=>by rw [h] at hz;cases hz
  have hcc:c=2↔c.toNat=2:=⟨fun e=>by rw [e];rfl,fun e=>by rw [←UInt8.toNat_inj,e];rfl⟩;by_cases hc:c.toNat=2
  ·have HTS:Hid ((grpF r=none→tgt=none)∧∀g size,grpF r=some (g,size)→tgt=if size / 2≠g.mag.length then none else if rightG g=true∧groupB g=c :: r then some g else none):=by
    constructor
    ·intro h;rw [HT.out];unfold grpRR;simp only;rw [if_neg (by rw [ne_eq,hcc];omega),h]
    ·intro g size h;rw [HT.out];unfold grpRR;simp only;rw [if_neg (by rw [ne_eq,hcc];omega),h]
   have HRL:Hid (r.length≤1152921504606846976):=by have:=HSL.out;rw [List.length_cons] at this;show _≤_;omega
   clear HT hcc;have hal:Upd noBlk w1 (w1.alloc (.cells #[.string (bs r),.bool false] 147)):=(Upd.refl _ w1).alloc _;have HRJ:Hid (RdJ (w1.alloc (.cells #[.string (bs r),.bool false] 147)) w1.heap.size r false):=heap_alloc_new w1 _;have hsa:(w1.alloc (.cells #[.string (bs r),.bool false] 147)).heap.size=w1.heap.size+1:=World.size_alloc _ _;have HZ2:=Lib.hid (hal.heap HZ0.out id);have HG2:=Lib.hid (hal.heap HG0.out id);have HU2:=Lib.hid (HU0.out.trans hal);clear hal;go_upto_region 5 with fail
   generalize w1.alloc (.cells #[.string (bs r),.bool false] 147)=w2 at *;obtain ⟨jb,hjb⟩:∃jb,jb=w1.heap.size:=⟨_,rfl⟩;rw [←hjb] at HRJ hsa ⊢;have HNE:Hid (GNe w w2 rb gb jb):=by
    obtain ⟨k1,k2,k3⟩:=HB.out;exact ⟨by omega,by omega,by omega,k1,by omega,by omega,by omega,by omega,by omega⟩
   have S0:Hid (GSt w w2 w2 rb gb jb #[.int .i64 0,.slice none 0 0,.slice none 0 0,.slice none 0 0,.int .i64 0,.int .i64 0,.bool false,.string ⟨#[]⟩] r false):=⟨HRJ.out,HG2.out,HZ2.out,HU2.out,Nat.le_refl _⟩;clear hjb hsa h0 hz hx hs1 hsz hc hnz HZ0 HG0 HU0 HZ2 HG2 HU2 HRJ HB HEND;have HN0:=Lib.hid (jNumR_any jb r false w2 S0.out.r);go_wp2_with fail
   refine HN0.out.mono ?_;rintro e w3 ⟨lv,s1,b1,rfl,hr,hst,hlv,hu⟩;have S1:=Lib.hid (S0.out.call HNE.out hu hr);have HS1:=Lib.hid hst;have HLV:Hid (lv<9223372036854775808):=hlv;have S1s:=Lib.hid (S1.out.set HNE.out 0 (.int .i64 (lv:Int)));obtain ⟨_,⟨f0,f1,f2,f3,f4,f5,f6,f7⟩⟩:=cellsF8 S1.out.g;clear hr hst hlv hu HN0 S0;go_upto_region 6 with fail
   generalize w3.setCell ⟨gb,0,none⟩ (.int .i64 (lv:Int))=w3s at *;clear f0 f1 f2 f3 f4 f5 f6 f7 S1;have HP:=Lib.hid (jPartsR_any jb s1 b1 w3s S1s.out.r);go_wp2_with fail
   refine HP.out.mono ?_;rintro e w4 ⟨vi,ins,s2,b2,rfl,ho,hr,hst,hl,hu⟩;obtain ⟨Ai,ci,rfl,_⟩:=ho.form;have HOI0:=Lib.hid (Kd.Own.mono ho S1s.out.sz);have HIL:Hid (ins.length≤65536):=hl;have S2:=Lib.hid (S1s.out.call HNE.out hu hr);have HS2:=Lib.hid hst;have S2s:=Lib.hid (S2.out.set HNE.out 1 (.slice Ai ins.length ci));have HOI1:=Lib.hid (Kd.Own.lateS HOI0.out 1 (.slice Ai ins.length ci) HNE.out.jg);obtain ⟨_,⟨f0,f1,f2,f3,f4,f5,f6,f7⟩⟩:=cellsF8 (show w4.heap[gb]?=some (.cells #[.int .i64 (lv:Int),.slice none 0 0,.slice none 0 0,.slice none 0 0,.int .i64 0,.int .i64 0,.bool false,.string ⟨#[]⟩] 68 (0,0)) from S2.out.g);clear ho hr hst hl hu HP S1s HOI0;go_upto_region 7 with fail
   generalize w4.setCell ⟨gb,1,none⟩ (.slice Ai ins.length ci)=w4s at *;clear f0 f1 f2 f3 f4 f5 f6 f7 S2;have HCT:=Lib.hid (jCount_any jb s2 b2 w4s S2s.out.r);go_wp2_with fail
   refine HCT.out.mono ?_;rintro e w5 ⟨n,s3,b3,rfl,hr,hst,hn,hu⟩;have S3:Hid (GSt w w2 w5 rb gb jb #[.int .i64 (lv:Int),.slice Ai ins.length ci,.slice none 0 0,.slice none 0 0,.int .i64 0,.int .i64 0,.bool false,.string ⟨#[]⟩] s3 b3):=S2s.out.call HNE.out hu hr;have HOI3:=Lib.hid (Kd.Own.late HOI1.out hu HNE.out.jj);have HSC:=Lib.hid hst;have HN:Hid (n≤65536):=hn;have hnI:(n:Int)≤65536:=by omega
   clear hr hst hn hu HCT S2s HOI1;have HHR:=fun s bad W hW=>Lib.hid (jHashR_any jb s bad W hW);go_upto_block 0 with fail
   go_cut [7] (fun _ wc=>∃(Ao:Option Addr) (outs:List H32) (co:Nat) (s4:Bytes) (b4:Bool),GSt w w2 wc rb gb jb #[.int .i64 (lv:Int),.slice Ai ins.length ci,.slice Ao outs.length co,.slice none 0 0,.int .i64 0,.int .i64 0,.bool false,.string ⟨#[]⟩] s4 b4∧kPart.Own w2.heap.size wc (.slice Ai ins.length ci) ins∧kHash.Own w2.heap.size wc (.slice Ao outs.length co) outs∧StepB (manyR (takeR 32)) s2 b2 (outs.map (·.1)) s4 b4∧outs.length≤65536)
   case first=>
    go_wp2_with fail
    go_loopw [7] (fun i wr=>∃(k:Nat) (Ao:Option Addr) (outs:List H32) (co:Nat) (s4:Bytes) (b4:Bool),i=.int .i64 k∧outs.length=k∧k≤n∧GSt w w2 wr rb gb jb #[.int .i64 (lv:Int),.slice Ai ins.length ci,.slice Ao k co,.slice none 0 0,.int .i64 0,.int .i64 0,.bool false,.string ⟨#[]⟩] s4 b4∧kPart.Own w2.heap.size wr (.slice Ai ins.length ci) ins∧kHash.Own w2.heap.size wr (.slice Ao k co) outs∧((b3=true∧b4=true)∨(b3=false∧LoopB (takeR 32) n s3 k (outs.map (·.1)) s4 b4))) (fun i _=>n-(intOf i).toNat)
    case atStart=>
     refine ⟨0,none,[],0,s3,b3,rfl,rfl,Nat.zero_le _,S3.out,HOI3.out,Kd.Own.nil _ _ _,?_⟩;cases b3 with
     | true=>exact .inl ⟨rfl,rfl⟩
     | false=>exact .inr ⟨rfl,LoopB.start _ _ _⟩
    case round=>
     obtain ⟨k,Ao,outs,co,s4,b4,rfl,hlk,hk,hg,hoi,hoo,hlp⟩:=hrel;have SG:=Lib.hid hg;have HOI:=Lib.hid hoi;have HOO:=Lib.hid hoo;have HLP:=Lib.hid hlp;have HLK:Hid (outs.length=k):=hlk;clear hg hoi hoo hlp hlk;obtain ⟨⟨c0,c1⟩,_⟩:=cellF2 (show wr.heap[jb]?=some (.cells #[.string (bs s4),.bool b4] 147 (0,0)) from SG.out.r);by_cases hlt:k<n∧b4=false
     ·obtain ⟨hkn,rfl⟩:=hlt;have hkn':(k:Int)<(n:Int):=by omega
      have HK:Hid (k<n):=hkn;have hkw:IntKind.i64.wrap ((k:Int)+1)=(k:Int)+1:=by rw [IntKind.wrap_i64];omega
      have SD:=Lib.hid (SG.out.keep (Upd.refl noBlk wr).drew);have H1:=HHR s4 false wr.drew SD.out.r;clear hk hkn HHR;go_wp2_with fail
      clear c0 c1;refine wp_region_tree 6 (OT.sures [0,2,1] (.run 3 (.run 4 (.run 5 .nil)))) (fun w'=>Upd (fun i=>i=jb∨w2.heap.size≤i) wr w') (by kernel_rfl) (by kernel_rfl) (fun c a d v w h=>by cases d<;>exact h) ((Upd.refl _ wr).drew) ?_
      simp only [OT.sures]
      iterate 3 (apply wpT_sure rfl rfl;focus (intro w' hw';obtain ⟨⟨g0,g1,g2,g3,g4,g5,g6,g7⟩,_⟩:=cellsF8 (hw'.heap SG.out.g (fun e=>by have h1:=HNE.out.g;have h2:=HNE.out.jg;rcases e with e | e<;>omega));go_simp;rfl))
      refine wpT_run (fun w'=>Upd (fun i=>i=jb∨w2.heap.size≤i) wr w') (fun _ h=>h) rfl (fun K' hK=>?_);go_simp
      refine H1.out.mono ?_;rintro e z1 ⟨h1,s5,b5,rfl,hr,hst,hu⟩;have S5:=Lib.hid (SD.out.call HNE.out hu hr);have HS5:=Lib.hid hst;have HOI5:=Lib.hid (Kd.Own.late (Kd.Own.upd HOI.out (Upd.refl noBlk wr).drew) hu HNE.out.jj);have HOO5:=Lib.hid (Kd.Own.late (Kd.Own.upd HOO.out (Upd.refl noBlk wr).drew) hu HNE.out.jj);have U5:Hid (Upd (fun i=>i=jb∨w2.heap.size≤i) wr z1):=by
       show Upd _ _ _;exact ((Upd.refl _ wr).drew).trans (hu.mono (fun i _ e=>.inl e))
      refine hK _ _ ⟨U5.out,?_⟩;clear hK K' hr hst hu H1 SG SD HOI HOO;have HSZ:Hid ((sizeOf 81).run Tryz.prog z1=.ok 32 z1):=by show _=_;kernel_rfl
      have HZZ:Hid ((zeroValue 81).run Tryz.prog z1=.ok (.agg (Array.replicate 32 (.int .u8 0))) z1):=by show _=_;kernel_rfl
      refine wpT_run (fun w'=>Upd (fun i=>i=jb∨w2.heap.size≤i) wr w') (fun _ h=>h) rfl (fun K' hK=>?_);refine if_wanted (by go_simp) ?_;refine wp_val _ _ (exec_build1 z1 (.tmp 47) (hashC h1) Tryz.underlying63 HSZ.out HZZ.out (by decide) (by decide) (hashC_len _) rfl (by go_simp)) ?_;refine hK _ _ ⟨U5.out.alloc _,?_⟩;clear hK K' HSZ HZZ;have hoo5:kHash.Own w2.heap.size z1 (.slice Ao outs.length co) outs:=by rw [HLK.out];exact HOO5.out
      obtain ⟨g,cap3,z3,r3,o3,v3,_⟩:=hoo5.app1 S5.out.sz h1 (by have:=HN.out;have:=HK.out;have:=HLK.out;omega);rw [HLK.out] at r3 o3 v3;have R3:=Lib.hid r3;have O3:=Lib.hid o3;have hF:∀i,(Value.slice Ao k co).ownBlock=some i→w2.heap.size≤i:=fun i e=>(Kd.Own.blk HOO5.out e).1;have S6:=Lib.hid (S5.out.other HNE.out v3 hF);have HOI6:=Lib.hid (Kd.Own.other HOI5.out v3 (own_apart HOI5.out HOO5.out (by decide)));have U6:Hid (Upd (fun i=>i=jb∨w2.heap.size≤i) wr z3):=by
       show Upd _ _ _;exact U5.out.trans (v3.mono (fun i _ e=>.inr (hF i e)))
      have HLK2:Hid ((outs++[h1]).length=k+1):=by show _=_;rw [List.length_append,HLK.out];rfl
      have HLP2:Hid ((b3=true∧b5=true)∨(b3=false∧LoopB (takeR 32) n s3 (k+1) ((outs++[h1]).map (·.1)) s5 b5)):=by
       rcases HLP.out with ⟨_,h⟩ | ⟨hb,hl⟩
       ·cases h
       ·refine .inr ⟨hb,?_⟩;rw [List.map_append];exact LoopB.step HK.out hl HS5.out
      clear r3 o3 v3 hF hoo5 HLP HS5 S5 HOI5 HOO5 U5;refine wpT_run (fun w'=>Upd (fun i=>i=jb∨w2.heap.size≤i) wr w') (fun _ h=>h) rfl (fun K' hK=>?_);refine if_wanted (by go_simp) ?_;refine wp_append_run (.tmp 45) (.tmp 48) _ rfl (by go_simp) (by go_simp) R3.out ?_;refine hK _ _ ⟨U6.out,?_⟩;clear hK K' R3;refine wpT_nil ?_;obtain ⟨_,⟨f0,f1,f2,f3,f4,f5,f6,f7⟩⟩:=cellsF8 S6.out.g;have S7:=Lib.hid (S6.out.set HNE.out 2 (.slice (some ⟨g,0,none⟩) (k+1) cap3));have HOI7:=Lib.hid (Kd.Own.lateS HOI6.out 2 (.slice (some ⟨g,0,none⟩) (k+1) cap3) HNE.out.jg);have O7:=Lib.hid (Kd.Own.lateS O3.out 2 (.slice (some ⟨g,0,none⟩) (k+1) cap3) HNE.out.jg);go_wp2_with fail
      go_roundw
      case rel=>exact ⟨k+1,some ⟨g,0,none⟩,outs++[h1],cap3,s5,b5,by push_cast;rfl,HLK2.out,HK.out,S7.out,HOI7.out,O7.out,HLP2.out⟩
      case measure=>simp only [intOf];have:=HK.out;omega
     ·have HPO:Hid (StepB (manyR (takeR 32)) s2 b2 (outs.map (·.1)) s4 b4):=by
       refine StepB.many (n:=n) (k:=k) HSC.out ?_;rcases HLP.out with h | ⟨h1,h2⟩
       ·exact .inl h
       ·refine .inr ⟨h1,h2,fun e=>?_⟩;rw [Decidable.not_and_iff_or_not] at hlt;rcases hlt with h | h
        ·omega
        ·exact absurd e h
      have HFIN:Hid (∃(Ao:Option Addr) (outs:List H32) (co:Nat) (s4:Bytes) (b4:Bool),GSt w w2 wr rb gb jb #[.int .i64 (lv:Int),.slice Ai ins.length ci,.slice Ao outs.length co,.slice none 0 0,.int .i64 0,.int .i64 0,.bool false,.string ⟨#[]⟩] s4 b4∧kPart.Own w2.heap.size wr (.slice Ai ins.length ci) ins∧kHash.Own w2.heap.size wr (.slice Ao outs.length co) outs∧StepB (manyR (takeR 32)) s2 b2 (outs.map (·.1)) s4 b4∧outs.length≤65536):=by
       refine ⟨Ao,outs,co,s4,b4,?_,HOI.out,?_,HPO.out,by rw [HLK.out];have:=HN.out;omega⟩
       ·rw [HLK.out];exact SG.out
       ·rw [HLK.out];exact HOO.out
      by_cases hkn:k<n
      ·have hkn':(k:Int)<(n:Int):=by omega
       obtain rfl:b4=true:=by cases b4 with
        | true=>rfl
        | false=>exact absurd ⟨hkn,rfl⟩ hlt
       clear hlt;go_wp2_with fail
       go_meet
       exact HFIN.out
      ·have hkn':¬(k:Int)<(n:Int):=by omega
       clear hlt;go_wp2_with fail
       go_meet
       exact HFIN.out
   case rest=>
    obtain ⟨Ao,outs,co,s4,b4,hg,hoi,hoo,hst,hol⟩:=hcut;have S4:=Lib.hid hg;have HOI4:=Lib.hid hoi;have HOO4:=Lib.hid hoo;have HS3:=Lib.hid hst;have HOL:Hid (outs.length≤65536):=hol;have HCT:=Lib.hid (jCount_any jb s4 b4 wc hg.r);clear hg hoi hoo hst hol HSC HN hnI S3 HOI3 HHR;go_wp2_with fail
    refine HCT.out.mono ?_;rintro e w6 ⟨m,s5,b5,rfl,hr,hst,hm,hu⟩;have S5:=Lib.hid (S4.out.call HNE.out hu hr);have HOI5:=Lib.hid (Kd.Own.late HOI4.out hu HNE.out.jj);have HOO5:=Lib.hid (Kd.Own.late HOO4.out hu HNE.out.jj);have HSC:=Lib.hid hst;have HN:Hid (m≤65536):=hm;have hmI:(m:Int)≤65536:=by omega
    clear hr hst hm hu HCT S4 HOI4 HOO4;have HNR:=fun s bad W hW=>Lib.hid (jNumR_any jb s bad W hW);go_upto_block 2 with fail
    go_cut [8,9,10] (fun _ _ _ wd=>∃(Am:Option Addr) (moves:List Mv) (cm:Nat) (s6:Bytes) (b6:Bool),GSt w w2 wd rb gb jb #[.int .i64 (lv:Int),.slice Ai ins.length ci,.slice Ao outs.length co,.slice Am moves.length cm,.int .i64 0,.int .i64 0,.bool false,.string ⟨#[]⟩] s6 b6∧kPart.Own w2.heap.size wd (.slice Ai ins.length ci) ins∧kHash.Own w2.heap.size wd (.slice Ao outs.length co) outs∧kMove.Own w2.heap.size wd (.slice Am moves.length cm) moves∧StepB (manyR moveR) s4 b4 moves s6 b6∧moves.length≤65536)
    case first=>
     go_wp2_with fail
     go_loopw [8] (fun i wr=>∃(k:Nat) (Am:Option Addr) (moves:List Mv) (cm:Nat) (s6:Bytes) (b6:Bool),i=.int .i64 k∧moves.length=k∧k≤m∧GSt w w2 wr rb gb jb #[.int .i64 (lv:Int),.slice Ai ins.length ci,.slice Ao outs.length co,.slice Am k cm,.int .i64 0,.int .i64 0,.bool false,.string ⟨#[]⟩] s6 b6∧kPart.Own w2.heap.size wr (.slice Ai ins.length ci) ins∧kHash.Own w2.heap.size wr (.slice Ao outs.length co) outs∧kMove.Own w2.heap.size wr (.slice Am k cm) moves∧((b5=true∧b6=true)∨(b5=false∧LoopB moveR m s5 k moves s6 b6))) (fun i _=>m-(intOf i).toNat)
     case atStart=>
      refine ⟨0,none,[],0,s5,b5,rfl,rfl,Nat.zero_le _,S5.out,HOI5.out,HOO5.out,Kd.Own.nil _ _ _,?_⟩;cases b5 with
      | true=>exact .inl ⟨rfl,rfl⟩
      | false=>exact .inr ⟨rfl,LoopB.start _ _ _⟩
     case round=>
      obtain ⟨k,Am,moves,cm,s6,b6,rfl,hlk,hk,hg,hoi,hoo,hom,hlp⟩:=hrel;have SG:=Lib.hid hg;have HOI:=Lib.hid hoi;have HOO:=Lib.hid hoo;have HOM:=Lib.hid hom;have HLP:=Lib.hid hlp;have HLK:Hid (moves.length=k):=hlk;clear hg hoi hoo hom hlp hlk;obtain ⟨⟨c0,c1⟩,_⟩:=cellF2 (show wr.heap[jb]?=some (.cells #[.string (bs s6),.bool b6] 147 (0,0)) from SG.out.r);by_cases hlt:k<m∧b6=false
      ·obtain ⟨hkn,rfl⟩:=hlt;have hkn':(k:Int)<(m:Int):=by omega
       have HK:Hid (k<m):=hkn;have hkw:IntKind.i64.wrap ((k:Int)+1)=(k:Int)+1:=by rw [IntKind.wrap_i64];omega
       clear hk hkn;obtain ⟨x0,hx0⟩:∃x0,x0=wr.alloc (.cells #[.int .i64 0,.int .i64 0,.int .i64 0,.int .i64 0,.int .i64 0,.int .i64 0] 142):=⟨_,rfl⟩;obtain ⟨cb,hcb⟩:∃cb,cb=wr.heap.size:=⟨_,rfl⟩;have HC0:Hid (x0.heap[cb]?=some (.cells (c6 []) 142 (0,0))):=by show _=_;rw [hx0,hcb];exact heap_alloc_new wr _
       have HR0:Hid (RdJ x0 jb s6 false):=by show RdJ _ _ _ _;rw [hx0];exact ((Upd.refl noBlk wr).alloc _).heap SG.out.r id
       have HTW:Hid (∀W',Upd (fun i=>i=jb∨i=cb) x0 W'→∀s' b',RdJ W' jb s' b'→GSt w w2 W' rb gb jb #[.int .i64 (lv:Int),.slice Ai ins.length ci,.slice Ao outs.length co,.slice Am k cm,.int .i64 0,.int .i64 0,.bool false,.string ⟨#[]⟩] s' b'∧kPart.Own w2.heap.size W' (.slice Ai ins.length ci) ins∧kHash.Own w2.heap.size W' (.slice Ao outs.length co) outs∧kMove.Own w2.heap.size W' (.slice Am k cm) moves):=fun W' hu s' b' hr=>by
        rw [hx0,hcb] at hu;exact ⟨SG.out.two HNE.out hu hr,own_two HOI.out hu HNE.out.jj,own_two HOO.out hu HNE.out.jj,own_two HOM.out hu HNE.out.jj⟩
       have HCB:Hid (cb≠jb):=by have:=lt_of_heap SG.out.r;show _≠_;omega
       go_upto_block 4 with fail
       rw [←hx0,←hcb];clear hx0 hcb c0 c1 SG HOI HOO HOM;go_cut [10] (fun _ wq=>∃(l:List Nat) (s7:Bytes) (b7:Bool),l.length=6∧wq.heap[cb]?=some (.cells (c6 l) 142 (0,0))∧RdJ wq jb s7 b7∧LoopB readNum 6 s6 6 l s7 b7∧Upd (fun i=>i=jb∨i=cb) x0 wq)
       case first=>
        go_wp2_with fail
        go_loopw [10] (fun i wz=>∃(j:Nat) (l:List Nat) (s7:Bytes) (b7:Bool),i=.int .i64 j∧l.length=j∧j≤6∧wz.heap[cb]?=some (.cells (c6 l) 142 (0,0))∧RdJ wz jb s7 b7∧LoopB readNum 6 s6 j l s7 b7∧Upd (fun i=>i=jb∨i=cb) x0 wz) (fun i _=>6-(intOf i).toNat)
        case atStart=>exact ⟨0,[],s6,false,rfl,rfl,by omega,HC0.out,HR0.out,LoopB.start _ _ _,Upd.refl _ _⟩
        case round=>
         obtain ⟨j,l,s7,b7,rfl,hlj,hj,hc,hr,hlp,hu⟩:=hrel;have HLJ:Hid (l.length=j):=hlj;have HC:=Lib.hid hc;have HLP2:=Lib.hid hlp;have HU:=Lib.hid hu;have HN7:=HNR s7 b7 wr hr;by_cases hj6:j<6
         ·have hj6':(j:Int)<6:=by omega
          have hjw:IntKind.i64.wrap ((j:Int)+1)=(j:Int)+1:=by rw [IntKind.wrap_i64];omega
          have HJ:Hid (j<6):=hj6;clear hlj hj hc hr hlp hu hj6;go_wp2_with fail
          refine HN7.out.mono ?_;rintro e y ⟨x,s8,b8,rfl,hr,hst,_,hu⟩;have HC2:=Lib.hid (hu.heap HC.out HCB.out);obtain ⟨⟨x0',hcx⟩,hfx⟩:=c6_at HC2.out HJ.out;have HR2:Hid (RdJ (y.setCell ⟨cb,j,none⟩ (.int .i64 (x:Int))) jb s8 b8):=heap_setCell_ne _ hr HCB.out.symm;have HC3:Hid ((y.setCell ⟨cb,j,none⟩ (.int .i64 (x:Int))).heap[cb]?=some (.cells (c6 (l++[x])) 142 (0,0))):=by
           show _=_;have h:=heap_setCell_eq (i:=j) (.int .i64 (x:Int)) HC2.out;rw [←HLJ.out,c6_set l x (by rw [HLJ.out];exact HJ.out)] at h;rw [←HLJ.out];exact h
          have HU3:Hid (Upd (fun i=>i=jb∨i=cb) x0 (y.setCell ⟨cb,j,none⟩ (.int .i64 (x:Int)))):=by
           show Upd _ _ _;exact Upd.setCell (F:=fun i=>i=jb∨i=cb) (p:=⟨cb,j,none⟩) (HU.out.trans (hu.mono (fun i _ e=>.inl e))) (fun _=>.inr rfl) _
          have HLP3:=Lib.hid (LoopB.any HJ.out HLP2.out hst);have HLJ2:Hid ((l++[x]).length=j+1):=by show _=_;rw [List.length_append,HLJ.out];rfl
          clear hr hst hu HN7 HC HLP2 HU HLJ HC2;go_wp2_with fail
          go_roundw
          case rel=>exact ⟨j+1,l++[x],s8,b8,by push_cast;rfl,HLJ2.out,HJ.out,HC3.out,HR2.out,HLP3.out,HU3.out⟩
          case measure=>simp only [intOf];have:=HJ.out;omega
         ·obtain rfl:j=6:=by omega
          clear HN7;go_wp2_with fail
          go_meet
          exact ⟨l,s7,b7,hlj,hc,hr,hlp,hu⟩
       case rest=>
        obtain ⟨l,s7,b7,hl6,hc,hr,hlp2,hu⟩:=hcut;obtain ⟨na,nb,nc,nd,ne,nf,rfl⟩:=six_of hl6;obtain ⟨hg,hoi,hoo,hom⟩:=HTW.out _ hu s7 b7 hr;have SG:=Lib.hid hg;have HOI:=Lib.hid hoi;have HOO:=Lib.hid hoo;have HOM:=Lib.hid hom;have HMV:=Lib.hid (StepB.move hlp2);have HCC:Hid (wc.heap[cb]?=some (.cells #[.int .i64 (na:Int),.int .i64 (nb:Int),.int .i64 (nc:Int),.int .i64 (nd:Int),.int .i64 (ne:Int),.int .i64 (nf:Int)] 142 (0,0))):=hc;clear hg hoi hoo hom hlp2 hl6 hc hr hu HTW HC0 HR0;have hom5:kMove.Own w2.heap.size wc (.slice Am moves.length cm) moves:=by rw [HLK.out];exact HOM.out
        obtain ⟨g,cap3,z3,r3,o3,v3,_⟩:=hom5.app1 SG.out.sz (((na:Int),(nb:Int),(nc:Int)),((nd:Int),(ne:Int),(nf:Int))) (by have:=HN.out;have:=HK.out;have:=HLK.out;omega);rw [HLK.out] at r3 o3 v3;have R3:Hid ((Builtin.append_ #[64,64] 64 #[.slice Am k cm,.slice (some ⟨wc.heap.size,0,none⟩) 1 1]).run Tryz.prog (wc.alloc (.cells #[.int .i64 (na:Int),.int .i64 (nb:Int),.int .i64 (nc:Int),.int .i64 (nd:Int),.int .i64 (ne:Int),.int .i64 (nf:Int)] 79))=.ok (.slice (some ⟨g,0,none⟩) (k+1) cap3) z3):=r3;have O3:=Lib.hid o3;have hF:∀i,(Value.slice Am k cm).ownBlock=some i→w2.heap.size≤i:=fun i e=>(Kd.Own.blk HOM.out e).1;have S6:=Lib.hid (SG.out.other HNE.out v3 hF);have HOI6:=Lib.hid (Kd.Own.other HOI.out v3 (own_apart HOI.out HOM.out (by decide)));have HOO6:=Lib.hid (Kd.Own.other HOO.out v3 (own_apart HOO.out HOM.out (by decide)));have HLK2:Hid ((moves++[(((na:Int),(nb:Int),(nc:Int)),((nd:Int),(ne:Int),(nf:Int)))]).length=k+1):=by show _=_;rw [List.length_append,HLK.out];rfl
        have HLP3:Hid ((b5=true∧b7=true)∨(b5=false∧LoopB moveR m s5 (k+1) (moves++[(((na:Int),(nb:Int),(nc:Int)),((nd:Int),(ne:Int),(nf:Int)))]) s7 b7)):=by
         rcases HLP.out with ⟨_,h⟩ | ⟨hb,hl⟩
         ·cases h
         ·exact .inr ⟨hb,LoopB.step HK.out hl HMV.out⟩
        obtain ⟨⟨g0,g1,g2,g3,g4,g5,g6,g7⟩,_⟩:=cellsF8 SG.out.g;obtain ⟨q0,q1,q2,q3,q4,q5⟩:=cells6 HCC.out;obtain ⟨_,⟨f0,f1,f2,f3,f4,f5,f6,f7⟩⟩:=cellsF8 S6.out.g;have S7:=Lib.hid (S6.out.set HNE.out 3 (.slice (some ⟨g,0,none⟩) (k+1) cap3));have HOI7:=Lib.hid (Kd.Own.lateS HOI6.out 3 (.slice (some ⟨g,0,none⟩) (k+1) cap3) HNE.out.jg);have HOO7:=Lib.hid (Kd.Own.lateS HOO6.out 3 (.slice (some ⟨g,0,none⟩) (k+1) cap3) HNE.out.jg);have O7:=Lib.hid (Kd.Own.lateS O3.out 3 (.slice (some ⟨g,0,none⟩) (k+1) cap3) HNE.out.jg);clear r3 o3 v3 hF hom5 HLP HMV HOI HOO HOM SG S6 HOI6 HOO6 O3 HCC;go_wp2_with (at_builtin;refine wpList_append_run rfl _ _ _ rfl rfl rfl R3.out ?_)
        go_roundw
        case rel=>exact ⟨k+1,some ⟨g,0,none⟩,moves++[(((na:Int),(nb:Int),(nc:Int)),((nd:Int),(ne:Int),(nf:Int)))],cap3,s7,b7,by push_cast;rfl,HLK2.out,HK.out,S7.out,HOI7.out,HOO7.out,O7.out,HLP3.out⟩
        case measure=>simp only [intOf];have:=HK.out;omega
      ·have HPO:Hid (StepB (manyR moveR) s4 b4 moves s6 b6):=by
        refine StepB.many (n:=m) (k:=k) HSC.out ?_;rcases HLP.out with h | ⟨h1,h2⟩
        ·exact .inl h
        ·refine .inr ⟨h1,h2,fun e=>?_⟩;rw [Decidable.not_and_iff_or_not] at hlt;rcases hlt with h | h
         ·omega
         ·exact absurd e h
       have HFIN:Hid (∃(Am:Option Addr) (moves:List Mv) (cm:Nat) (s6:Bytes) (b6:Bool),GSt w w2 wr rb gb jb #[.int .i64 (lv:Int),.slice Ai ins.length ci,.slice Ao outs.length co,.slice Am moves.length cm,.int .i64 0,.int .i64 0,.bool false,.string ⟨#[]⟩] s6 b6∧kPart.Own w2.heap.size wr (.slice Ai ins.length ci) ins∧kHash.Own w2.heap.size wr (.slice Ao outs.length co) outs∧kMove.Own w2.heap.size wr (.slice Am moves.length cm) moves∧StepB (manyR moveR) s4 b4 moves s6 b6∧moves.length≤65536):=by
        refine ⟨Am,moves,cm,s6,b6,?_,HOI.out,HOO.out,?_,HPO.out,by rw [HLK.out];have:=HN.out;omega⟩
        ·rw [HLK.out];exact SG.out
        ·rw [HLK.out];exact HOM.out
       by_cases hkn:k<m
       ·have hkn':(k:Int)<(m:Int):=by omega
        obtain rfl:b6=true:=by cases b6 with
         | true=>rfl
         | false=>exact absurd ⟨hkn,rfl⟩ hlt
        clear hlt;go_wp2_with fail
        go_meet
        exact HFIN.out
       ·have hkn':¬(k:Int)<(m:Int):=by omega
        clear hlt;go_wp2_with fail
        go_meet
        exact HFIN.out
    case rest=>
     obtain ⟨Am,moves,cm,s6,b6,hg,hoi,hoo,hom,hst,hml⟩:=hcut;have S6:=Lib.hid hg;have HOI6:=Lib.hid hoi;have HOO6:=Lib.hid hoo;have HOM6:=Lib.hid hom;have HS4:=Lib.hid hst;have HML:Hid (moves.length≤65536):=hml;clear hg hoi hoo hom hst hml HSC HN hmI S5 HOI5 HOO5;have HNX:=HNR s6 b6 wc S6.out.r;go_wp2_with fail
     refine HNX.out.mono ?_;rintro e w7 ⟨er,s7,b7,rfl,hr,hst,hlt,hu⟩;have S7:Hid (GSt w w2 w7 rb gb jb #[.int .i64 (lv:Int),.slice Ai ins.length ci,.slice Ao outs.length co,.slice Am moves.length cm,.int .i64 0,.int .i64 0,.bool false,.string ⟨#[]⟩] s7 b7):=S6.out.call HNE.out hu hr;have HOI7:=Lib.hid (Kd.Own.late HOI6.out hu HNE.out.jj);have HOO7:=Lib.hid (Kd.Own.late HOO6.out hu HNE.out.jj);have HOM7:=Lib.hid (Kd.Own.late HOM6.out hu HNE.out.jj);have HS5:=Lib.hid hst;have HBer:Hid (er<9223372036854775808):=hlt;have S7s:=Lib.hid (S7.out.set HNE.out 4 (.int .i64 (er:Int)));have HOI7s:=Lib.hid (Kd.Own.lateS HOI7.out 4 (.int .i64 (er:Int)) HNE.out.jg);have HOO7s:=Lib.hid (Kd.Own.lateS HOO7.out 4 (.int .i64 (er:Int)) HNE.out.jg);have HOM7s:=Lib.hid (Kd.Own.lateS HOM7.out 4 (.int .i64 (er:Int)) HNE.out.jg);obtain ⟨_,⟨f0,f1,f2,f3,f4,f5,f6,f7⟩⟩:=cellsF8 S7.out.g;clear hr hst hlt hu HNX S6 HOI6 HOO6 HOM6;go_upto_region 23 with fail
     generalize w7.setCell ⟨gb,4,none⟩ (.int .i64 (er:Int))=w7s at *;clear f0 f1 f2 f3 f4 f5 f6 f7 S7 HOI7 HOO7 HOM7;have HNX:=HNR s7 b7 w7s S7s.out.r;go_wp2_with fail
     refine HNX.out.mono ?_;rintro e w8 ⟨tot,s8,b8,rfl,hr,hst,hlt,hu⟩;have S8:Hid (GSt w w2 w8 rb gb jb #[.int .i64 (lv:Int),.slice Ai ins.length ci,.slice Ao outs.length co,.slice Am moves.length cm,.int .i64 (er:Int),.int .i64 0,.bool false,.string ⟨#[]⟩] s8 b8):=S7s.out.call HNE.out hu hr;have HOI8:=Lib.hid (Kd.Own.late HOI7s.out hu HNE.out.jj);have HOO8:=Lib.hid (Kd.Own.late HOO7s.out hu HNE.out.jj);have HOM8:=Lib.hid (Kd.Own.late HOM7s.out hu HNE.out.jj);have HS6:=Lib.hid hst;have HBtot:Hid (tot<9223372036854775808):=hlt;have S8s:=Lib.hid (S8.out.set HNE.out 5 (.int .i64 (tot:Int)));have HOI8s:=Lib.hid (Kd.Own.lateS HOI8.out 5 (.int .i64 (tot:Int)) HNE.out.jg);have HOO8s:=Lib.hid (Kd.Own.lateS HOO8.out 5 (.int .i64 (tot:Int)) HNE.out.jg);have HOM8s:=Lib.hid (Kd.Own.lateS HOM8.out 5 (.int .i64 (tot:Int)) HNE.out.jg);obtain ⟨_,⟨f0,f1,f2,f3,f4,f5,f6,f7⟩⟩:=cellsF8 S8.out.g;clear hr hst hlt hu HNX S7s HOI7s HOO7s HOM7s;go_upto_region 24 with fail
     generalize w8.setCell ⟨gb,5,none⟩ (.int .i64 (tot:Int))=w8s at *;clear f0 f1 f2 f3 f4 f5 f6 f7 S8 HOI8 HOO8 HOM8;have HNX:=HNR s8 b8 w8s S8s.out.r;go_wp2_with fail
     refine HNX.out.mono ?_;rintro e w9 ⟨size,s9,b9,rfl,hr,hst,hlt,hu⟩;have S9:Hid (GSt w w2 w9 rb gb jb #[.int .i64 (lv:Int),.slice Ai ins.length ci,.slice Ao outs.length co,.slice Am moves.length cm,.int .i64 (er:Int),.int .i64 (tot:Int),.bool false,.string ⟨#[]⟩] s9 b9):=S8s.out.call HNE.out hu hr;have HOI9:=Lib.hid (Kd.Own.late HOI8s.out hu HNE.out.jj);have HOO9:=Lib.hid (Kd.Own.late HOO8s.out hu HNE.out.jj);have HOM9:=Lib.hid (Kd.Own.late HOM8s.out hu HNE.out.jj);have HS7:=Lib.hid hst;have HBsize:Hid (size<9223372036854775808):=hlt;clear hr hst hlt hu HNX S8s HOI8s HOO8s HOM8s HNR;have HF:=Lib.hid (grpF_steps HS1.out HS2.out HS3.out HS4.out HS5.out HS6.out HS7.out);clear HS1 HS2 HS3 HS4 HS5 HS6 HS7;obtain ⟨⟨c0,c1⟩,_⟩:=cellF2 (show w9.heap[jb]?=some (.cells #[.string (bs s9),.bool b9] 147 (0,0)) from S9.out.r);obtain ⟨_,⟨z0,z1,z2,z3,z4,z5,z6,z7⟩⟩:=cellsF8 S9.out.z;cases b9 with
     | true=>
      have HTN:Hid (tgt=none):=by
       refine HTS.out.1 ?_;rcases HF.out with ⟨_,h⟩ | ⟨h,_⟩
       ·exact h
       ·cases h
      clear HF HTS;go_wp2_with fail
      obtain ⟨hsx,hsu⟩:=same8 S9.out.z
      (try simp only [Exit.inBlock,Exit.then])
      refine bodyPost_ret (results_cell_tmp1 rfl _ rfl (load_group hsx)) rfl ?_;rw [HTN.out];exact ⟨S9.out.up.trans hsu,rfl⟩
     | false=>
      have hgf:grpF r=some (⟨lv,ins.map plainP,outs.map (·.1),moves,er,tot,decide (size % 2=1),s9⟩,size):=by
       rcases HF.out with ⟨h,_⟩ | ⟨_,h⟩
       ·cases h
       ·exact h
      have HT2:=Lib.hid (HTS.out.2 _ _ hgf);have HSM:Hid (s9.length≤1152921504606846976):=Nat.le_trans (grpF_len hgf) HRL.out;have h9I:(((bs s9).size:Nat):Int)≤1152921504606846976:=by rw [bs_size];have:=HSM.out;omega
      clear hgf HF HTS;by_cases hq:size / 2=s9.length
      ·have HT3:Hid (tgt=if rightG ⟨lv,ins.map plainP,outs.map (·.1),moves,er,tot,decide (size % 2=1),s9⟩=true∧groupB ⟨lv,ins.map plainP,outs.map (·.1),moves,er,tot,decide (size % 2=1),s9⟩=c :: r then some ⟨lv,ins.map plainP,outs.map (·.1),moves,er,tot,decide (size % 2=1),s9⟩ else none):=by
        show _=_;rw [HT2.out,if_neg (by simpa using hq)]
       have hqI:(size:Int) / 2=(((bs s9).size:Nat):Int):=by rw [bs_size];omega
       obtain ⟨NG,hNG⟩:∃NG,NG=decide (size % 2=1):=⟨_,rfl⟩;have hng1:((size:Int) % 2 == 1)=NG:=by rw [hNG,Bool.eq_iff_iff];simp;omega
       have hng2:decide ((size:Int) % 2=1)=NG:=by rw [hNG,Bool.eq_iff_iff];simp;omega
       rw [←hNG] at HT3;have hszI:(size:Int)≤9223372036854775807:=by have:=HBsize.out;omega
       clear hNG HT2 hq;obtain ⟨X,hX⟩:∃X:GV,X=⟨(lv:Int),ins,outs,moves,(er:Int),(tot:Int),NG,s9⟩:=⟨_,rfl⟩;have HXG:Hid (X.g=⟨(lv:Int),ins.map plainP,outs.map (·.1),moves,(er:Int),(tot:Int),NG,s9⟩):=by show _=_;rw [hX];rfl
       have HXO:Hid X.Ok:=by
        show GV.Ok X;rw [hX];exact ⟨by have:=HLV.out;show (lv:Int)<_;omega,by have:=HBer.out;show (er:Int)<_;omega,by have:=HBtot.out;show (tot:Int)<_;omega,HSM.out⟩
       have HJG:Hid (∀W,kPart.Rd W (.slice Ai ins.length ci) ins→kHash.Rd W (.slice Ao outs.length co) outs→kMove.Rd W (.slice Am moves.length cm) moves→Calls Tryz.prog 33 #[.agg #[.int .i64 (lv:Int),.slice Ai ins.length ci,.slice Ao outs.length co,.slice Am moves.length cm,.int .i64 (er:Int),.int .i64 (tot:Int),.bool NG,.string (bs s9)]] W fun en w'=>strR (if rightG X.g=true then groupB X.g else []) W en w'):=fun W h1 h2 h3=>by
        have h:=jGroup_any X HXO.out (.slice Ai ins.length ci) (.slice Ao outs.length co) (.slice Am moves.length cm) W (by rw [hX];exact h1) (by rw [hX];exact h2) (by rw [hX];exact h3);have e:X.V (.slice Ai ins.length ci) (.slice Ao outs.length co) (.slice Am moves.length cm)=.agg #[.int .i64 (lv:Int),.slice Ai ins.length ci,.slice Ao outs.length co,.slice Am moves.length cm,.int .i64 (er:Int),.int .i64 (tot:Int),.bool NG,.string (bs s9)]:=by rw [hX];rfl
        rw [e] at h;exact h
       rw [←HXG.out] at HT3;clear hX HXO HLV HBer HBtot HBsize HSM;have SA:=Lib.hid ((S9.out.set HNE.out 6 (.bool NG)).set HNE.out 7 (.string (bs s9)));have HOIA:=Lib.hid (Kd.Own.lateS (Kd.Own.lateS HOI9.out 6 (.bool NG) HNE.out.jg) 7 (.string (bs s9)) HNE.out.jg);have HOOA:=Lib.hid (Kd.Own.lateS (Kd.Own.lateS HOO9.out 6 (.bool NG) HNE.out.jg) 7 (.string (bs s9)) HNE.out.jg);have HOMA:=Lib.hid (Kd.Own.lateS (Kd.Own.lateS HOM9.out 6 (.bool NG) HNE.out.jg) 7 (.string (bs s9)) HNE.out.jg);obtain ⟨_,⟨f0,f1,f2,f3,f4,f5,f6,f7⟩⟩:=cellsF8 S9.out.g;go_upto_region 28 with fail
       generalize (w9.setCell ⟨gb,6,none⟩ (.bool NG)).setCell ⟨gb,7,none⟩ (.string (bs s9))=wA at *;clear f0 f1 f2 f3 f4 f5 f6 f7 c0 c1 z0 z1 z2 z3 z4 z5 z6 z7 hng1 hng2 hqI hszI h9I S9 HOI9 HOO9 HOM9;have SB0:Hid (GSt w w2 wA rb gb jb #[.int .i64 (lv:Int),.slice Ai ins.length ci,.slice Ao outs.length co,.slice Am moves.length cm,.int .i64 (er:Int),.int .i64 (tot:Int),.bool NG,.string (bs s9)] s9 false):=SA.out;have HGR:=Lib.hid (HJG.out wA HOIA.out.rd HOOA.out.rd HOMA.out.rd);clear HJG SA;obtain ⟨⟨g0,g1,g2,g3,g4,g5,g6,g7⟩,_⟩:=cellsF8 SB0.out.g;by_cases hc:rightG X.g=true∧groupB X.g=c :: r
       ·have HTN:Hid (tgt=some X.g):=by show _=_;rw [HT3.out];exact if_pos hc
        obtain ⟨hc1,hc2⟩:=hc;rw [if_pos hc1,hc2] at HGR;have hss:((bs (c :: r)).toList == (bs (c :: r)).toList)=true:=by simp
        clear HT3 hc1 hc2;go_wp2_with fail
        refine HGR.out.mono ?_;rintro e wB ⟨rfl,u⟩;have SB:=Lib.hid (SB0.out.keep u);have HOIB:=Lib.hid (Kd.Own.upd HOIA.out u);have HOOB:=Lib.hid (Kd.Own.upd HOOA.out u);have HOMB:=Lib.hid (Kd.Own.upd HOMA.out u);clear u g0 g1 g2 g3 g4 g5 g6 g7 HGR SB0 HOIA HOOA HOMA;obtain ⟨⟨g0,g1,g2,g3,g4,g5,g6,g7⟩,_⟩:=cellsF8 SB.out.g;obtain ⟨_,⟨z0,z1,z2,z3,z4,z5,z6,z7⟩⟩:=cellsF8 SB.out.z;go_wp2_with fail
        obtain ⟨hz,hset⟩:=set8 (y0:=.int .i64 (lv:Int)) (y1:=.slice Ai ins.length ci) (y2:=.slice Ao outs.length co) (y3:=.slice Am moves.length cm) (y4:=.int .i64 (er:Int)) (y5:=.int .i64 (tot:Int)) (y6:=.bool NG) (y7:=.string (bs s9)) SB.out.z
        (try simp only [Exit.inBlock,Exit.then])
        refine bodyPost_ret (results_cell_tmp1 rfl _ rfl (load_group hz)) rfl ?_;rw [HTN.out,HXG.out];have hle:w.heap.size≤w2.heap.size:=by have h1:=HNE.out.wr;have h2:=HNE.out.jr;omega
        refine ⟨upd_newE SB.out.up hset HNE.out.wr,.slice Ai ins.length ci,.slice Ao outs.length co,.slice Am moves.length cm,rfl,⟨?_,?_,?_⟩⟩
        ·show kPart.Own _ _ _ ((ins.map plainP).map p32);rw [p32_plain'];exact (Kd.Own.late HOIB.out hset HNE.out.jr).mono hle
        ·show kHash.Own _ _ _ ((outs.map (·.1)).map h32);rw [map_hash];exact (Kd.Own.late HOOB.out hset HNE.out.jr).mono hle
        ·show kMove.Own _ _ _ (moves.map id);rw [List.map_id];exact (Kd.Own.late HOMB.out hset HNE.out.jr).mono hle
       ·have HTN:Hid (tgt=none):=by show _=_;rw [HT3.out];exact if_neg hc
        have hne:((bs (if rightG X.g=true then groupB X.g else [])).toList == (bs (c :: r)).toList)=false:=by
         rw [beq_eq_false_iff_ne,bs_toList,bs_toList];by_cases h1:rightG X.g=true
         ·rw [if_pos h1];exact fun e=>hc ⟨h1,e⟩
         ·rw [if_neg h1];exact fun e=>by cases e
        clear HT3 hc;generalize (if rightG X.g=true then groupB X.g else [])=zz at *;go_wp2_with fail
        refine HGR.out.mono ?_;rintro e wB ⟨rfl,u⟩;have SB:=Lib.hid (SB0.out.keep u);clear u g0 g1 g2 g3 g4 g5 g6 g7 HGR SB0;obtain ⟨_,⟨z0,z1,z2,z3,z4,z5,z6,z7⟩⟩:=cellsF8 SB.out.z;go_wp2_with fail
        obtain ⟨hsx,hsu⟩:=same8 SB.out.z
        (try simp only [Exit.inBlock,Exit.then])
        refine bodyPost_ret (results_cell_tmp1 rfl _ rfl (load_group hsx)) rfl ?_;rw [HTN.out];exact ⟨SB.out.up.trans hsu,rfl⟩
      ·have HTN:Hid (tgt=none):=by
        show _=_;rw [HT2.out];exact if_pos hq
       have hqI:¬(size:Int) / 2=(((bs s9).size:Nat):Int):=by rw [bs_size];omega
       have hqB:((size:Int) / 2 != (((bs s9).size:Nat):Int))=true:=by simpa using hqI
       have hszI:(size:Int)≤9223372036854775807:=by have:=HBsize.out;omega
       clear HT2 hq;go_wp2_with fail
       obtain ⟨hsx,hsu⟩:=same8 S9.out.z
       (try simp only [Exit.inBlock,Exit.then])
       refine bodyPost_ret (results_cell_tmp1 rfl _ rfl (load_group hsx)) rfl ?_;rw [HTN.out];exact ⟨S9.out.up.trans hsu,rfl⟩
  ·have HTN:Hid (tgt=none):=by
    show _=_;rw [HT.out];unfold grpRR;simp only;rw [if_pos (by rw [ne_eq,hcc];exact hc)]
   have hc':¬(c.toNat:Int)=2:=by omega
   have hne3:((c.toNat:Int) != 2)=true:=by simpa using hc'
   obtain ⟨_,⟨f0,f1,f2,f3,f4,f5,f6,f7⟩⟩:=cellsF8 HZ0.out;obtain ⟨⟨g0,g1,g2,g3,g4,g5,g6,g7⟩,_⟩:=cellsF8 HG0.out;clear HT hcc;go_wp2_with fail
   obtain ⟨hsx,hsu⟩:=same8 HZ0.out
   (try simp only [Exit.inBlock,Exit.then])
   refine bodyPost_ret (results_cell_tmp1 rfl _ rfl (load_group hsx)) rfl ?_;rw [HTN.out];exact ⟨HU0.out.trans hsu,rfl⟩
end Go.Proofs.YtcikldoaidmnhaaGreatDoor
