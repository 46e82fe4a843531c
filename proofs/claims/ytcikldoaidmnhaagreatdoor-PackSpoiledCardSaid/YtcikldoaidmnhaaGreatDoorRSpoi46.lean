/- Parts: The law: OpenGroup and OpenRoot agree with the reference about packets that are spoiled, and about arbitrary strings. No condition. -/
import Derived.Test.YtcikldoaidmnhaaGreatDoorRSpoi1
import Derived.Test.YtcikldoaidmnhaaGreatDoorRSpoi2
import Derived.Test.YtcikldoaidmnhaaGreatDoorRSpoi3
import Derived.Test.YtcikldoaidmnhaaGreatDoorRSpoi4
import Derived.Test.YtcikldoaidmnhaaGreatDoorRSpoi5
import Derived.Test.YtcikldoaidmnhaaGreatDoorRSpoi6
import Derived.Test.YtcikldoaidmnhaaGreatDoorRSpoi7
import Derived.Test.YtcikldoaidmnhaaGreatDoorRSpoi11
import Derived.Test.YtcikldoaidmnhaaGreatDoorRSpoi12
import Derived.Test.YtcikldoaidmnhaaGreatDoorRSpoi13
import Derived.Test.YtcikldoaidmnhaaGreatDoorRSpoi18
import Derived.Test.YtcikldoaidmnhaaGreatDoorRSpoi19
import Derived.Test.YtcikldoaidmnhaaGreatDoorRSpoi20
import Derived.Test.YtcikldoaidmnhaaGreatDoorRSpoi22
import Derived.Test.YtcikldoaidmnhaaGreatDoorRSpoi26
import Derived.Test.YtcikldoaidmnhaaGreatDoorRSpoi29
import Derived.Test.YtcikldoaidmnhaaGreatDoorRSpoi33
import Derived.Test.YtcikldoaidmnhaaGreatDoorRSpoi34
import Derived.Test.YtcikldoaidmnhaaGreatDoorRSpoi35
import Derived.Test.YtcikldoaidmnhaaGreatDoorRSpoi36
import Derived.Test.YtcikldoaidmnhaaGreatDoorRSpoi37
import Derived.Test.YtcikldoaidmnhaaGreatDoorRSpoi38
import Derived.Test.YtcikldoaidmnhaaGreatDoorRSpoi40
import Derived.Test.YtcikldoaidmnhaaGreatDoorRSpoi41
import Derived.Test.YtcikldoaidmnhaaGreatDoorRSpoi44
import Derived.Test.YtcikldoaidmnhaaGreatDoorRSpoi45
import Derived.WalkKit
import Derived.WalkSpells
import Derived.WalkLawsBesides
import Derived.Lib.Hide
import Derived.BigQuiet
import Derived.Deep.DeepFit
import Derived.Deep.DeepCutAuto
import Derived.Deep.AppendLies
import Derived.Deep.QuietTactic
import Derived.Lib.Bits
import Derived.Maps.OwnOps
import Derived.Maps.OwnSet
import Derived.Maps.RangeWalk
import Derived.WideKeyEntry
import Derived.Deep.MidRow
import Derived.Test.YtcikldoaidmnhaaGreatDoorRows
import Derived.Deep.RegionHeld3
import Derived.StillTail
import Derived.Laws.EntriesVeiled
import Derived.Handy
import Derived.DeepKeys4
import Derived.ArgAppend
import Derived.Deep.Upon
import Derived.Deep.CutBlock
import Derived.Test.YtcikldoaidmnhaaGreatDoorShelf2
import Derived.ChangeKeysEq
import Derived.Deep.AppendSrc
import Derived.Test.YtcikldoaidmnhaaGreatDoorShelf
import Derived.Laws.BitsAllLaws
import Derived.Lib.Zigzag
import Derived.Recover
import Derived.Deep.LoopGhost
import Derived.Laws.BytesArg
import Derived.Deep.WholeRow
import Derived.Laws.IdiomStrings
import Derived.ProofKit
import Derived.OpenShut
import Derived.ChangeOld
import Derived.Deep.SlicePairs
import Derived.Deep.Grids
import Derived.WideKeyPair
import Derived.Test.YtcikldoaidmnhaaGreatDoorCards
import Derived.Test.YtcikldoaidmnhaaGreatDoorTie
import Derived.ShutString
import Derived.Below
import Derived.Carry
import Derived.Laws.IdiomArrays
import Derived.Deep.DeepHandedRow
import Derived.Deep.DeepWitnessRowRef
import Derived.Lib.LaidTab
namespace Go.Proofs.YtcikldoaidmnhaaGreatDoor
open Go Go.RowKit Pk
set_option maxRecDepth 100000
def gvU:Option Grp→GV
 | none=>⟨0,[],[],[],0,0,false,[]⟩
 | some g=>gvOf g
def rtU:Option (List Part)→List P32
 | none=>[]
 | some l=>l.map p32
def erU {α:Type}:Option α→Int
 | none=>13
 | some _=>0
theorem own_len {α:Type} {K:Kd Tryz.prog α} {b:Nat} {w:World} {v:Value} {l:List α} (h:K.Own b w v l):l.length≤maxLen:=by
 rcases h.2 with ⟨_,e⟩ | ⟨g,cap,cur,_,_,_,h1,h2,_⟩
 ·rw [e];exact Nat.zero_le _
 ·exact Nat.le_trans h1 h2
structure GrpU (X:GV) (E:Int) (w:World) (en:Ending) (w':World):Prop where
 ex:∃vi vo vm,en=.returned (.tuple #[.agg #[.int .i64 X.level,vi,vo,vm,.int .i64 X.err,.int .i64 X.total,.bool X.neg,.string (bs X.mag)],.int .i64 E])∧kPart.Rd w' vi X.ins∧kHash.Rd w' vo X.outs∧kMove.Rd w' vm X.moves
 len:X.ins.length≤maxLen∧X.outs.length≤maxLen∧X.moves.length≤maxLen
 up:Upd noBlk w w'
theorem groupP_uni {o:Option Grp} {w w':World} {en:Ending} (h:groupP o w en w'):GrpU (gvU o) (erU o) w en w':=by
 obtain ⟨hu,h⟩:=h;cases o with
 | none=>exact ⟨⟨_,_,_,h,Kd.Rd.nil _ _,Kd.Rd.nil _ _,Kd.Rd.nil _ _⟩,⟨Nat.zero_le _,Nat.zero_le _,Nat.zero_le _⟩,hu⟩
 | some g=>
  obtain ⟨vi,vo,vm,rfl,hat⟩:=h;have hm:=hat.moves;rw [List.map_id] at hm;exact ⟨⟨vi,vo,vm,rfl,hat.ins.rd,hat.outs.rd,hm.rd⟩,⟨own_len hat.ins,own_len hat.outs,own_len hm⟩,hu⟩
structure RootU (l:List P32) (E:Int) (w:World) (en:Ending) (w':World):Prop where
 ex:∃v,en=.returned (.tuple #[.agg #[v],.int .i64 E])∧kPart.Rd w' v l
 len:l.length≤maxLen
 up:Upd noBlk w w'
theorem rootQ_uni {o:Option (List Part)} {w w':World} {en:Ending} (h:rootQ o w en w'):RootU (rtU o) (erU o) w en w':=by
 obtain ⟨hu,h⟩:=h;cases o with
 | none=>exact ⟨⟨_,h,Kd.Rd.nil _ _⟩,Nat.zero_le _,hu⟩
 | some l=>
  obtain ⟨v,rfl,ho⟩:=h;exact ⟨⟨v,rfl,ho.rd⟩,own_len ho,hu⟩
theorem rootB_len (l:List P32) (h:l.length≤10):(rootB (l.map plainP)).length≤10000:=by
 unfold rootB partsB;rw [List.length_cons,List.length_append,List.length_map];have h1:=flat_le (fun p:Part=>p.1++p.2) 64 (l.map plainP) (fun p hp=>by
  obtain ⟨q,_,rfl⟩:=List.mem_map.1 hp;show (q.1.1++q.2.1).length≤64;rw [List.length_append,q.1.2,q.2.2];decide)
 rw [List.length_map] at h1;have h2:=digB_ten (n:=l.length) (by omega);omega
set_option maxHeartbeats 8000000 in
theorem lawPackSpoiled_c (x:FV) (vi vo vm:Value) (q0 q1 q2:Int) (raw:ByteArray) (hx:x.Ok) (hraw:raw.size≤maxLen) (w:World) (h:x.Rd w vi vo vm):Calls Tryz.prog 11 #[x.V vi vo vm,.agg #[.int .i64 q0,.int .i64 q1,.int .i64 q2],.string raw] w fun en w'=>en=.returned (.bool true)∧Upd noBlk w w':=by
 have HS:=fun W=>Lib.hid (sanity_any W);have HG0:Hid (∀W,Upd noBlk w W→Calls Tryz.prog 31 #[x.V vi vo vm] W fun en w'=>∃ui uo um,en=.returned (x.gv.V ui uo um)∧kPart.Own W.heap.size w' ui x.gv.ins∧kHash.Own W.heap.size w' uo x.gv.outs∧kMove.Own W.heap.size w' um x.gv.moves∧Upd noBlk W w'):=fun W hW=>group_any x vi vo vm W hx.ins hx.outs hx.moves hx.mag (h.ins.keep hW) (h.outs.keep hW) (h.moves.keep hW);have HPA:Hid (∀W,Upd noBlk w W→Calls Tryz.prog 24 #[vi] W fun en w'=>∃v,en=.returned v∧kPart.Own W.heap.size w' v ((x.ins.take 10).map partOf)∧Upd noBlk W w'):=fun W hW=>jParts_any vi x.ins W hx.ins (h.ins.keep hW);obtain ⟨hok,l1,l2,l3,l4⟩:=FV.gv_ok hx;have HOK:=Lib.hid hok;have HL:Hid (x.gv.ins.length≤10∧x.gv.outs.length≤10∧x.gv.moves.length≤10∧x.gv.mag.length≤40):=⟨l1,l2,l3,l4⟩;obtain ⟨z,hz⟩:∃z,z=x.gv:=⟨_,rfl⟩;rw [←hz] at HG0 HOK HL;obtain ⟨PL,hPL⟩:∃PL,PL=(x.ins.take 10).map partOf:=⟨_,rfl⟩;have HPL:Hid (PL.length≤10):=by show _≤_;rw [hPL,List.length_map,List.length_take];omega
 rw [←hPL] at HPA;obtain ⟨SG,hSG⟩:∃S,S=(if rightG z.g=true then groupB z.g else []):=⟨_,rfl⟩;have HSG:Hid (SG.length≤10000):=by
  show _≤_;rw [hSG];split
  ·rename_i hr
   exact groupB_len HOK.out hr HL.out
  ·simp
 have HJG:=fun a b c W h1 h2 h3=>Lib.hid (jGroup_any z HOK.out a b c W h1 h2 h3);rw [←hSG] at HJG;have HSP:=fun s hs W=>Lib.hid (jSpoiled_any s hs q0 q1 q2 W);obtain ⟨RW,hRW⟩:∃RW:Bytes,raw=bs RW:=⟨raw.data.toList,rfl⟩;subst hRW;obtain ⟨mn,hmn⟩:∃mn:Nat,min (((bs RW).size:Nat):Int) 100=(mn:Int):=⟨min (bs RW).size 100,by omega⟩;have hmz:(mn:Int)≤(((bs RW).size:Nat):Int):=by omega
 have hmz2:mn≤(bs RW).size:=by omega
 have hcut:(bs RW).extract 0 mn=bs (RW.take mn):=bs_cut RW mn;have hRL:(RW.take mn).length≤100:=by rw [List.length_take];omega
 have HRL:Hid ((RW.take mn).length≤100):=hRL;have hraw':(((bs RW).size:Nat):Int)≤9223372036854775807:=by unfold maxLen at hraw;omega
 obtain ⟨Ai,ci,hvi,_⟩:=h.ins;obtain ⟨Ao,co,hvo,_⟩:=h.outs;obtain ⟨Am,cm,hvm,_⟩:=h.moves;subst hvi hvo hvm;clear hz hPL hSG hraw hRL hok l1 l2 l3 l4 h hx HL;generalize RW.take mn=RC at *;unfold FV.V at *;obtain ⟨w0,hw0⟩:∃w0,w0=(w.alloc (.cells #[.int .i64 x.level,.int .i64 x.err,.int .i64 x.total,.slice Ai x.ins.length ci,.slice Ao x.outs.length co,.slice Am x.moves.length cm,.bool x.neg,.string (bs x.mag)] 62)).alloc (.cells #[.int .i64 q0,.int .i64 q1,.int .i64 q2] 24):=⟨_,rfl⟩;have HU0:Hid (Upd noBlk w w0):=by show Upd _ _ _;rw [hw0];exact ((Upd.refl _ w).alloc _).alloc _
 have HX:Hid (w0.heap[w.heap.size]?=some (.cells #[.int .i64 x.level,.int .i64 x.err,.int .i64 x.total,.slice Ai x.ins.length ci,.slice Ao x.outs.length co,.slice Am x.moves.length cm,.bool x.neg,.string (bs x.mag)] 62 (0,0))):=by show _=_;rw [hw0];exact ((Upd.refl noBlk _).alloc _).heap (heap_alloc_new w _) id
 have HY:Hid (w0.heap[w.heap.size+1]?=some (.cells #[.int .i64 q0,.int .i64 q1,.int .i64 q2] 24 (0,0))):=by
  show _=_;rw [hw0,←World.size_alloc w (.cells #[.int .i64 x.level,.int .i64 x.err,.int .i64 x.total,.slice Ai x.ins.length ci,.slice Ao x.outs.length co,.slice Am x.moves.length cm,.bool x.neg,.string (bs x.mag)] 62)];exact heap_alloc_new _ _
 go_enter Tryz.func11,Tryz.ntmps11
 go_upto_region 1 with fail
 rw [←hw0];clear hw0;generalize w.heap.size=xb at *;obtain ⟨yb,hyb⟩:∃yb,yb=xb+1:=⟨_,rfl⟩;rw [←hyb] at HY ⊢;clear hyb;go_wp2_with fail
 refine (HS _).out.mono ?_;rintro e w1 ⟨rfl,u1⟩;have U1:=Lib.hid (HU0.out.trans u1);have HX1:=Lib.hid (u1.heap HX.out id);have HY1:=Lib.hid (u1.heap HY.out id);clear u1 HS HX HY HU0;go_upto_region 3 with fail
 clear hmn hmz hmz2 hcut hraw';go_cut [8] (fun s wc=>∃L:Bytes,s=.string (bs L)∧L.length≤10001∧Upd noBlk w1 wc)
 case first=>
  refine wp_region_tree 5 (OT.sures [0,3] (.run 1 (.run 2 (.run 4 .nil)))) (fun w'=>Upd noBlk w1 w') (by kernel_rfl) (by kernel_rfl) (fun c a d v w h=>by cases d<;>exact h) ((Upd.refl noBlk w1).drew) ?_
  simp only [OT.sures]
  iterate 2 (apply wpT_sure rfl rfl;focus (intro w' hw';obtain ⟨a0,a1,a2,a3,a4,a5,a6,a7⟩:=cells8 (hw'.heap HX1.out id);obtain ⟨⟨b0,b1,b2⟩,_⟩:=cellsF3 (hw'.heap HY1.out id);go_simp;rfl))
  refine wpT_run (fun w'=>Upd noBlk w1 w') (fun _ h=>h) rfl (fun K' hK=>?_);go_simp
  refine (HG0.out _ (U1.out.trans (Upd.refl noBlk w1).drew)).mono ?_;rintro e z1 ⟨ui,uo,um,rfl,hi,ho,hm,u1⟩;have V1:=Lib.hid ((Upd.refl noBlk w1).drew.trans u1);have HJ1:=HJG ui uo um z1 hi.rd ho.rd hm.rd;refine hK _ _ ⟨V1.out,?_⟩;clear hK K' u1 hi ho hm HG0 HJG;refine wpT_run (fun w'=>Upd noBlk w1 w') (fun _ h=>h) rfl (fun K' hK=>?_);go_simp
  refine HJ1.out.mono ?_;rintro e z2 ⟨rfl,u2⟩;have V2:=Lib.hid (V1.out.trans u2);have HS2:=HSP (bs SG) (by rw [bs_size];have:=HSG.out;omega) z2;refine hK _ _ ⟨V2.out,?_⟩;clear hK K' u2 HJ1 V1 HSP;refine wpT_run (fun w'=>Upd noBlk w1 w') (fun _ h=>h) rfl (fun K' hK=>?_);go_simp
  refine HS2.out.mono ?_;rintro e z3 ⟨R,rfl,hr,u3⟩;have V3:=Lib.hid (V2.out.trans u3);refine hK _ _ ⟨V3.out,?_⟩;obtain ⟨L0,rfl⟩:∃L0:Bytes,R=bs L0:=⟨R.data.toList,rfl⟩;have HLL:Hid (L0.length≤10001):=by
   rw [bs_size,bs_size] at hr;have:=HSG.out;show _≤_;omega
  clear hK K' u3 HS2 V2 hr;refine wpT_nil ?_;go_wp2_with fail
  go_meet
  exact ⟨L0,rfl,HLL.out,V3.out⟩
 case rest=>
  obtain ⟨L0,rfl,hl0,hu⟩:=hcut;have HL0:Hid (L0.length≤10001):=hl0;have U2:=Lib.hid (U1.out.trans hu);have HX2:=Lib.hid (hu.heap HX1.out id);have HY2:=Lib.hid (hu.heap HY1.out id);clear hl0 hu U1 HX1 HY1 HG0 HJG HOK HSG;generalize wc=w2 at *;go_upto_region 4 with fail
  go_cut [9] (fun s wc=>∃L:Bytes,s=.string (bs L)∧L.length≤10001∧Upd noBlk w2 wc)
  case first=>
   refine wp_region_tree 7 (OT.sures [0,5,1] (.run 2 (OT.sures [3] (.run 4 (.run 6 .nil))))) (fun w'=>Upd noBlk w2 w') (by kernel_rfl) (by kernel_rfl) (fun c a d v w h=>by cases d<;>exact h) ((Upd.refl noBlk w2).drew) ?_
   simp only [OT.sures]
   iterate 3 (apply wpT_sure rfl rfl;focus (intro w' hw';obtain ⟨a0,a1,a2,a3,a4,a5,a6,a7⟩:=cells8 (hw'.heap HX2.out id);obtain ⟨⟨b0,b1,b2⟩,_⟩:=cellsF3 (hw'.heap HY2.out id);go_simp;rfl))
   refine wpT_run (fun w'=>Upd noBlk w2 w') (fun _ h=>h) rfl (fun K' hK=>?_);go_simp
   refine (HPA.out _ (U2.out.trans (Upd.refl noBlk w2).drew)).mono ?_;rintro e z1 ⟨vp,rfl,hp,u1⟩;obtain ⟨Ap,cp,rfl,_⟩:=hp.form;have V1:=Lib.hid ((Upd.refl noBlk w2).drew.trans u1);have hro:=jRoot_any (.slice Ap PL.length cp) PL z1 hp.rd;rw [if_neg (by have:=HPL.out;omega)] at hro;have HRO:=Lib.hid hro;refine hK _ _ ⟨V1.out,?_⟩;clear hK K' u1 hp HPA hro;apply wpT_sure rfl rfl
   focus (intro w' hw';go_simp;rfl)
   refine wpT_run (fun w'=>Upd noBlk w2 w') (fun _ h=>h) rfl (fun K' hK=>?_);go_simp
   refine HRO.out.mono ?_;rintro e z2 ⟨rfl,u2⟩;have V2:=Lib.hid (V1.out.trans u2);have HS2:=HSP (bs (rootB (PL.map plainP))) (by rw [bs_size];have:=rootB_len PL HPL.out;omega) z2;refine hK _ _ ⟨V2.out,?_⟩;clear hK K' u2 HRO V1 HSP;refine wpT_run (fun w'=>Upd noBlk w2 w') (fun _ h=>h) rfl (fun K' hK=>?_);go_simp
   refine HS2.out.mono ?_;rintro e z3 ⟨R,rfl,hr,u3⟩;have V3:=Lib.hid (V2.out.trans u3);refine hK _ _ ⟨V3.out,?_⟩;obtain ⟨L1,rfl⟩:∃L1:Bytes,R=bs L1:=⟨R.data.toList,rfl⟩;have HLL:Hid (L1.length≤10001):=by
    rw [bs_size,bs_size] at hr;have:=rootB_len PL HPL.out;show _≤_;omega
   clear hK K' u3 HS2 V2 hr;refine wpT_nil ?_;go_wp2_with fail
   go_meet
   exact ⟨L1,rfl,HLL.out,V3.out⟩
  case rest=>
   obtain ⟨L1,rfl,hl1,hu⟩:=hcut;have HL1:Hid (L1.length≤10001):=hl1;have U3:=Lib.hid (U2.out.trans hu);clear hl1 hu U2 HX2 HY2 HPA HSP HPL;generalize wc=w3 at *;obtain ⟨L3,hL3⟩:∃L3:Bytes,(⟨#[2]⟩:ByteArray)++bs RC=bs L3:=⟨_,(bs_append [2] RC)⟩;obtain ⟨L4,hL4⟩:∃L4:Bytes,(⟨#[3]⟩:ByteArray)++bs RC=bs L4:=⟨_,(bs_append [3] RC)⟩;have hlen3:L3.length≤101:=by
    have h:=congrArg ByteArray.size hL3;rw [ByteArray.size_append,bs_size,bs_size] at h;have:=HRL.out;have e:(⟨#[2]⟩:ByteArray).size=1:=rfl;omega
   have hlen4:L4.length≤101:=by
    have h:=congrArg ByteArray.size hL4;rw [ByteArray.size_append,bs_size,bs_size] at h;have:=HRL.out;have e:(⟨#[3]⟩:ByteArray).size=1:=rfl;omega
   have hsz:¬9223372036854775807<1+(bs RC).size:=by
    have h1:=HRL.out;rw [bs_size];omega
   obtain ⟨w4,hw4⟩:∃w4,w4=w3.alloc (.cells #[.string (bs L0),.string (bs L1),.string (bs RC),.string (bs L3),.string (bs L4)] 9):=⟨_,rfl⟩;obtain ⟨sb,hsb⟩:∃sb,sb=w3.heap.size:=⟨_,rfl⟩;have HSB:Hid (∀k,k<5→∃L,w4.cell? ⟨sb,k,none⟩=some (.string (bs L))∧L.length≤10001):=fun k hk=>by
    have hc:w4.heap[sb]?=some (.cells #[.string (bs L0),.string (bs L1),.string (bs RC),.string (bs L3),.string (bs L4)] 9 (0,0)):=by rw [hw4,hsb];exact heap_alloc_new w3 _
    rw [cell_of_row _ _ k _ 9 (0,0) hc];rcases (by omega:k=0∨k=1∨k=2∨k=3∨k=4) with rfl | rfl | rfl | rfl | rfl
    ·exact ⟨L0,rfl,HL0.out⟩
    ·exact ⟨L1,rfl,HL1.out⟩
    ·exact ⟨RC,rfl,by have:=HRL.out;omega⟩
    ·exact ⟨L3,rfl,by omega⟩
    ·exact ⟨L4,rfl,by omega⟩
   have U4:Hid (Upd noBlk w w4):=by show Upd _ _ _;rw [hw4];exact U3.out.alloc _
   clear hlen3 hlen4 HL0 HL1 HRL U3;go_upto_block 0 with fail
   rw [←hw4,←hsb];clear hw4 hsb hL3 hL4 hsz;go_wp2_with fail
   go_loopw [47] (fun i wr=>∃k:Nat,i=.int .i64 k∧k≤5∧Upd noBlk w4 wr) (fun i _=>5-(intOf i).toNat)
   case atStart=>exact ⟨0,rfl,by omega,Upd.refl _ _⟩
   case round=>
    obtain ⟨k,rfl,hk,hu⟩:=hrel;have HU:=Lib.hid hu;clear hu;by_cases hlt:k<5
    ·have hlt':(k:Int)<5:=by omega
     have HK:Hid (k<5):=hlt;obtain ⟨L,hc0,hl⟩:=HSB.out k hlt;have hc:=HU.out.cell hc0 id;have HQ1:∀W,Hid (Calls Tryz.prog 35 #[.string (bs L)] W fun en w'=>GrpU (gvU (grpR L)) (erU (grpR L)) W en w'):=fun W=>(OpenGroup_any L (by omega) W).mono (fun _ _ h=>groupP_uni h);have HQ2:∀W,Hid (Calls Tryz.prog 37 #[.string (bs L)] W fun en w'=>GrpU (gvU (grpR L)) (erU (grpR L)) W en w'):=fun W=>(jOpenGroup_any L (by omega) W).mono (fun _ _ h=>groupP_uni h);have HQ3:∀W,Hid (Calls Tryz.prog 26 #[.string (bs L)] W fun en w'=>RootU (rtU (rootR L)) (erU (rootR L)) W en w'):=fun W=>(OpenRoot_any L W).mono (fun _ _ h=>rootQ_uni h);have HQ4:∀W,Hid (Calls Tryz.prog 38 #[.string (bs L)] W fun en w'=>RootU (rtU (rootR L)) (erU (rootR L)) W en w'):=fun W=>(jOpenRoot_any L W).mono (fun _ _ h=>rootQ_uni h);generalize gvU (grpR L)=X at *;generalize erU (grpR L)=E at *;generalize rtU (rootR L)=l at *;generalize erU (rootR L)=F at *;clear hc0 hlt hl;go_wp2_with fail
     refine (HQ1 _).out.mono ?_;rintro e y1 ⟨⟨vi,vo,vm,rfl,r1,r2,r3⟩,⟨n1,n2,n3⟩,u⟩;obtain ⟨Ai1,ci1,rfl,_⟩:=id r1;obtain ⟨Ao1,co1,rfl,_⟩:=id r2;obtain ⟨Am1,cm1,rfl,_⟩:=id r3;have al:Upd noBlk y1 (y1.alloc (.cells #[.int .i64 X.level,.slice Ai1 X.ins.length ci1,.slice Ao1 X.outs.length co1,.slice Am1 X.moves.length cm1,.int .i64 X.err,.int .i64 X.total,.bool X.neg,.string (bs X.mag)] 68)):=(Upd.refl _ y1).alloc _;have ua:=u.trans al;have W1:=Lib.hid (HU.out.trans ua);have RI1:=Lib.hid (Kd.Rd.keep r1 al);have RO1:=Lib.hid (Kd.Rd.keep r2 al);have RM1:=Lib.hid (Kd.Rd.keep r3 al);have B1:Hid ((y1.alloc (.cells #[.int .i64 X.level,.slice Ai1 X.ins.length ci1,.slice Ao1 X.outs.length co1,.slice Am1 X.moves.length cm1,.int .i64 X.err,.int .i64 X.total,.bool X.neg,.string (bs X.mag)] 68)).heap[y1.heap.size]?=some (.cells #[.int .i64 X.level,.slice Ai1 X.ins.length ci1,.slice Ao1 X.outs.length co1,.slice Am1 X.moves.length cm1,.int .i64 X.err,.int .i64 X.total,.bool X.neg,.string (bs X.mag)] 68 (0,0))):=heap_alloc_new y1 _;have NL:Hid (X.ins.length≤maxLen∧X.outs.length≤maxLen∧X.moves.length≤maxLen):=⟨n1,n2,n3⟩;clear r1 r2 r3 n1 n2 n3 u al ua HQ1 ;go_upto_region 9 with fail
     generalize y1.alloc (.cells #[.int .i64 X.level,.slice Ai1 X.ins.length ci1,.slice Ao1 X.outs.length co1,.slice Am1 X.moves.length cm1,.int .i64 X.err,.int .i64 X.total,.bool X.neg,.string (bs X.mag)] 68)=x1 at *;generalize y1.heap.size=b1 at *;go_wp2_with fail
     refine (HQ2 _).out.mono ?_;rintro e y2 ⟨⟨vj,vp,vn,rfl,r1,r2,r3⟩,⟨n1,n2,n3⟩,u⟩;obtain ⟨Ai2,ci2,rfl,_⟩:=id r1;obtain ⟨Ao2,co2,rfl,_⟩:=id r2;obtain ⟨Am2,cm2,rfl,_⟩:=id r3;have al:Upd noBlk y2 (y2.alloc (.cells #[.int .i64 X.level,.slice Ai2 X.ins.length ci2,.slice Ao2 X.outs.length co2,.slice Am2 X.moves.length cm2,.int .i64 X.err,.int .i64 X.total,.bool X.neg,.string (bs X.mag)] 68)):=(Upd.refl _ y2).alloc _;have ua:=u.trans al;have W2:=Lib.hid (W1.out.trans ua);have RI2:=Lib.hid (Kd.Rd.keep r1 al);have RO2:=Lib.hid (Kd.Rd.keep r2 al);have RM2:=Lib.hid (Kd.Rd.keep r3 al);have B2:Hid ((y2.alloc (.cells #[.int .i64 X.level,.slice Ai2 X.ins.length ci2,.slice Ao2 X.outs.length co2,.slice Am2 X.moves.length cm2,.int .i64 X.err,.int .i64 X.total,.bool X.neg,.string (bs X.mag)] 68)).heap[y2.heap.size]?=some (.cells #[.int .i64 X.level,.slice Ai2 X.ins.length ci2,.slice Ao2 X.outs.length co2,.slice Am2 X.moves.length cm2,.int .i64 X.err,.int .i64 X.total,.bool X.neg,.string (bs X.mag)] 68 (0,0))):=heap_alloc_new y2 _;have RI1b:=Lib.hid (Kd.Rd.keep RI1.out ua);have RO1b:=Lib.hid (Kd.Rd.keep RO1.out ua);have RM1b:=Lib.hid (Kd.Rd.keep RM1.out ua);have B1b:=Lib.hid (ua.heap B1.out id);clear r1 r2 r3 n1 n2 n3 u al ua HQ2 RI1 RO1 RM1 B1 W1;go_upto_region 10 with fail
     generalize y2.alloc (.cells #[.int .i64 X.level,.slice Ai2 X.ins.length ci2,.slice Ao2 X.outs.length co2,.slice Am2 X.moves.length cm2,.int .i64 X.err,.int .i64 X.total,.bool X.neg,.string (bs X.mag)] 68)=x2 at *;generalize y2.heap.size=b2 at *;go_wp2_with fail
     refine (HQ3 _).out.mono ?_;rintro e y3 ⟨⟨v3,rfl,r1⟩,n1,u⟩;obtain ⟨A3,c3,rfl,_⟩:=id r1;have al:Upd noBlk y3 (y3.alloc (.cells #[.slice A3 l.length c3] 50)):=(Upd.refl _ y3).alloc _;have ua:=u.trans al;have W3:=Lib.hid (W2.out.trans ua);have RR3:=Lib.hid (Kd.Rd.keep r1 al);have B3:Hid ((y3.alloc (.cells #[.slice A3 l.length c3] 50)).heap[y3.heap.size]?=some (.cells #[.slice A3 l.length c3] 50 (0,0))):=heap_alloc_new y3 _;have NR:Hid (l.length≤maxLen):=n1;have RI1c:=Lib.hid (Kd.Rd.keep RI1b.out ua);have RO1c:=Lib.hid (Kd.Rd.keep RO1b.out ua);have RM1c:=Lib.hid (Kd.Rd.keep RM1b.out ua);have B1c:=Lib.hid (ua.heap B1b.out id);have RI2c:=Lib.hid (Kd.Rd.keep RI2.out ua);have RO2c:=Lib.hid (Kd.Rd.keep RO2.out ua);have RM2c:=Lib.hid (Kd.Rd.keep RM2.out ua);have B2c:=Lib.hid (ua.heap B2.out id);clear r1 n1 u al ua HQ3 RI1b RO1b RM1b B1b RI2 RO2 RM2 B2 W2;go_upto_region 11 with fail
     generalize y3.alloc (.cells #[.slice A3 l.length c3] 50)=x3 at *;generalize y3.heap.size=b3 at *;go_wp2_with fail
     refine (HQ4 _).out.mono ?_;rintro e y4 ⟨⟨v4,rfl,r1⟩,n1,u⟩;obtain ⟨A4,c4,rfl,_⟩:=id r1;have al:Upd noBlk y4 (y4.alloc (.cells #[.slice A4 l.length c4] 50)):=(Upd.refl _ y4).alloc _;have ua:=u.trans al;have W4:=Lib.hid (W3.out.trans ua);have RR4:=Lib.hid (Kd.Rd.keep r1 al);have B4:Hid ((y4.alloc (.cells #[.slice A4 l.length c4] 50)).heap[y4.heap.size]?=some (.cells #[.slice A4 l.length c4] 50 (0,0))):=heap_alloc_new y4 _;have RI1d:=Lib.hid (Kd.Rd.keep RI1c.out ua);have RO1d:=Lib.hid (Kd.Rd.keep RO1c.out ua);have RM1d:=Lib.hid (Kd.Rd.keep RM1c.out ua);have B1d:=Lib.hid (ua.heap B1c.out id);have RI2d:=Lib.hid (Kd.Rd.keep RI2c.out ua);have RO2d:=Lib.hid (Kd.Rd.keep RO2c.out ua);have RM2d:=Lib.hid (Kd.Rd.keep RM2c.out ua);have B2d:=Lib.hid (ua.heap B2c.out id);have RR3d:=Lib.hid (Kd.Rd.keep RR3.out ua);have B3d:=Lib.hid (ua.heap B3.out id);clear r1 n1 u al ua HQ4 RI1c RO1c RM1c B1c RI2c RO2c RM2c B2c RR3 B3 W3;go_upto_region 12 with fail
     generalize y4.alloc (.cells #[.slice A4 l.length c4] 50)=x4 at *;generalize y4.heap.size=b4 at *;have HSM:=Lib.hid (jSameGroup_same X (.slice Ai1 X.ins.length ci1) (.slice Ao1 X.outs.length co1) (.slice Am1 X.moves.length cm1) (.slice Ai2 X.ins.length ci2) (.slice Ao2 X.outs.length co2) (.slice Am2 X.moves.length cm2) x4 NL.out.1 NL.out.2.1 NL.out.2.2 RI1d.out RO1d.out RM1d.out RI2d.out RO2d.out RM2d.out);unfold GV.V at HSM;have HSR:=fun W h1 h2=>Lib.hid (jSameParts_any (.slice A3 l.length c3) (.slice A4 l.length c4) l l NR.out W h1 h2);rw [decide_eq_true rfl] at HSR;obtain ⟨p0,p1,p2,p3,p4,p5,p6,p7⟩:=cells8 B1d.out;obtain ⟨s0,s1,s2,s3,s4,s5,s6,s7⟩:=cells8 B2d.out;go_wp2_with fail
     refine HSM.out.mono ?_;rintro e y5 ⟨rfl,u⟩;have W5:=Lib.hid (W4.out.trans u);have HSR5:=HSR y5 (RR3d.out.keep u) (RR4.out.keep u);obtain ⟨t0,_⟩:=cellF1 (u.heap B3d.out id);obtain ⟨t1,_⟩:=cellF1 (u.heap B4.out id);clear p0 p1 p2 p3 p4 p5 p6 p7 s0 s1 s2 s3 s4 s5 s6 s7 u HSM HSR W4;go_wp2_with fail
     refine HSR5.out.mono ?_;rintro e y6 ⟨rfl,u⟩;have W6:=Lib.hid (W5.out.trans u);clear u HSR5 W5 t0 t1;go_wp2_with fail
     exact ⟨⟨k+1,by push_cast;rfl,HK.out,W6.out⟩,by simp only [intOf];have:=HK.out;omega⟩
    ·obtain rfl:k=5:=by omega
     go_wp2_with fail
     go_ret
     exact ⟨rfl,U4.out.trans HU.out⟩
end Go.Proofs.YtcikldoaidmnhaaGreatDoor
