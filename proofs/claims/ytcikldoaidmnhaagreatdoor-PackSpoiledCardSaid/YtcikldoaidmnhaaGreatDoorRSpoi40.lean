/- Parts: The group packet that fields determine. No condition. -/
import Derived.Test.YtcikldoaidmnhaaGreatDoorRSpoi1
import Derived.Test.YtcikldoaidmnhaaGreatDoorRSpoi2
import Derived.Test.YtcikldoaidmnhaaGreatDoorRSpoi4
import Derived.Test.YtcikldoaidmnhaaGreatDoorRSpoi5
import Derived.Test.YtcikldoaidmnhaaGreatDoorRSpoi6
import Derived.Test.YtcikldoaidmnhaaGreatDoorRSpoi7
import Derived.Test.YtcikldoaidmnhaaGreatDoorRSpoi11
import Derived.Test.YtcikldoaidmnhaaGreatDoorRSpoi12
import Derived.Test.YtcikldoaidmnhaaGreatDoorRSpoi14
import Derived.Test.YtcikldoaidmnhaaGreatDoorRSpoi17
import Derived.Test.YtcikldoaidmnhaaGreatDoorRSpoi18
import Derived.Test.YtcikldoaidmnhaaGreatDoorRSpoi19
import Derived.Test.YtcikldoaidmnhaaGreatDoorRSpoi20
import Derived.Test.YtcikldoaidmnhaaGreatDoorRSpoi25
import Derived.Test.YtcikldoaidmnhaaGreatDoorRSpoi29
import Derived.Test.YtcikldoaidmnhaaGreatDoorRSpoi31
import Derived.Test.YtcikldoaidmnhaaGreatDoorRSpoi32
import Derived.Test.YtcikldoaidmnhaaGreatDoorRSpoi35
import Derived.Test.YtcikldoaidmnhaaGreatDoorRSpoi37
import Derived.Test.YtcikldoaidmnhaaGreatDoorRSpoi38
import Derived.WalkKit
import Derived.WalkSpells
import Derived.WalkLawsBesides
import Derived.Lib.Hide
import Derived.BigQuiet
import Derived.Deep.DeepFit
import Derived.Deep.DeepCutAuto
import Derived.Deep.AppendLies
import Derived.Deep.QuietTactic
import Derived.Test.YtcikldoaidmnhaaGreatDoorRows
import Derived.Deep.RegionHeld3
import Derived.StillTail
import Derived.Maps.OwnOps
import Derived.Maps.OwnSet
import Derived.Maps.RangeWalk
import Derived.WideKeyEntry
import Derived.Deep.MidRow
import Derived.Lib.Bits
import Derived.Laws.EntriesVeiled
import Derived.Handy
import Derived.DeepKeys4
import Derived.ArgAppend
import Derived.Deep.Upon
import Derived.Deep.CutBlock
import Derived.Test.YtcikldoaidmnhaaGreatDoorShelf2
import Derived.Laws.BitsAllLaws
import Derived.Laws.BytesArg
import Derived.Deep.WholeRow
import Derived.Test.YtcikldoaidmnhaaGreatDoorShelf
import Derived.Lib.Zigzag
import Derived.Recover
import Derived.Laws.IdiomStrings
namespace Go.Proofs.YtcikldoaidmnhaaGreatDoor
open Go Go.RowKit Pk
set_option maxRecDepth 100000
structure FV where
 level:Int
 err:Int
 total:Int
 ins:List Int
 outs:List Int
 moves:List Mv
 neg:Bool
 mag:Bytes
def FV.V (x:FV) (vi vo vm:Value):Value:=.agg #[.int .i64 x.level,.int .i64 x.err,.int .i64 x.total,vi,vo,vm,.bool x.neg,.string (bs x.mag)]
def FV.gv (x:FV):GV:=⟨x.level,(x.ins.take 10).map partOf,((x.outs.take 10).map partOf).map (·.1),(x.moves.take 10).map moveOf,x.err,x.total,x.neg,x.mag.take 40⟩
theorem bs_cut (s:Bytes) (m:Nat):(bs s).extract 0 m=bs (s.take m):=by
 apply ByteArray.ext;simp [bs]
set_option maxHeartbeats 4000000 in
theorem group_any (x:FV) (vi vo vm:Value) (w:World) (hl1:x.ins.length≤9223372036854775807) (hl2:x.outs.length≤9223372036854775807) (hl3:x.moves.length≤9223372036854775807) (hl4:x.mag.length≤9223372036854775807) (hi:kInt.Rd w vi x.ins) (ho:kInt.Rd w vo x.outs) (hm:kSix.Rd w vm x.moves) :
  Calls Tryz.prog 31 #[x.V vi vo vm] w fun en w'=>∃ui uo um,en=.returned (x.gv.V ui uo um)∧kPart.Own w.heap.size w' ui x.gv.ins∧kHash.Own w.heap.size w' uo x.gv.outs∧kMove.Own w.heap.size w' um x.gv.moves∧Upd noBlk w w':=by
 obtain ⟨lv,er,tot,ins,outs,moves,neg,mag⟩:=x;simp only at hi ho hm hl1 hl2 hl3 hl4;unfold FV.gv FV.V GV.V;simp only;have HPI:Hid (∀W,Upd noBlk w W→Calls Tryz.prog 24 #[vi] W fun en w'=>∃v,en=.returned v∧kPart.Own W.heap.size w' v ((ins.take 10).map partOf)∧Upd noBlk W w'):=fun W hW=>jParts_any vi ins W hl1 (hi.keep hW);have HPO:Hid (∀W,Upd noBlk w W→Calls Tryz.prog 24 #[vo] W fun en w'=>∃v,en=.returned v∧kPart.Own W.heap.size w' v ((outs.take 10).map partOf)∧Upd noBlk W w'):=fun W hW=>jParts_any vo outs W hl2 (ho.keep hW);have HMO:Hid (∀W,Upd noBlk w W→Calls Tryz.prog 78 #[vm] W fun en w'=>∃v,en=.returned v∧kMove.Own W.heap.size w' v ((moves.take 10).map moveOf)∧Upd noBlk W w'):=fun W hW=>jMoves_any vm moves W hl3 (hm.keep hW);have HL1:Hid (((ins.take 10).map partOf).length≤10):=by show _≤_;rw [List.length_map,List.length_take];omega
 have HL2:Hid (((outs.take 10).map partOf).length≤10):=by show _≤_;rw [List.length_map,List.length_take];omega
 have HL3:Hid (((moves.take 10).map moveOf).length≤10):=by show _≤_;rw [List.length_map,List.length_take];omega
 generalize (ins.take 10).map partOf=pis at *;generalize (outs.take 10).map partOf=pos at *;generalize (moves.take 10).map moveOf=pms at *;have hex:∃mn:Nat,(min (((bs mag).size:Nat):Int) 40=(mn:Int))∧mn≤(bs mag).size∧(bs mag).extract 0 mn=bs (mag.take 40):=by
  refine ⟨min (bs mag).size 40,by omega,Nat.min_le_left _ _,?_⟩;rw [bs_cut,bs_size];congr 1
  by_cases h:mag.length≤40
  ·rw [Nat.min_eq_left h,List.take_of_length_le h,List.take_of_length_le (Nat.le_refl _)]
  ·rw [Nat.min_eq_right (by omega)]
 obtain ⟨mn,hmn,hmz,hme⟩:=hex;have HME:=Lib.hid hme;have HMN:=Lib.hid hmn;have HMZ:Hid (mn≤(bs mag).size):=hmz;have hsz64:(((bs mag).size:Nat):Int)≤9223372036854775807:=by rw [bs_size];omega
 have HS64:=Lib.hid hsz64;generalize mag.take 40=mg at *;clear hi ho hm hl1 hl2 hl3 hl4 hmn hmz hme hsz64;obtain ⟨w1,hw1⟩:∃w1,w1=(w.alloc (.cells #[.int .i64 lv,.int .i64 er,.int .i64 tot,vi,vo,vm,.bool neg,.string (bs mag)] 62)).alloc (.cells #[.int .i64 0,.slice none 0 0,.slice none 0 0,.slice none 0 0,.int .i64 0,.int .i64 0,.bool false,.string ⟨#[]⟩] 68):=⟨_,rfl⟩;have HU:Hid (Upd noBlk w w1):=by show Upd _ _ _;rw [hw1];exact ((Upd.refl _ w).alloc _).alloc _
 have HA:Hid (w1.heap[w.heap.size]?=some (.cells #[.int .i64 lv,.int .i64 er,.int .i64 tot,vi,vo,vm,.bool neg,.string (bs mag)] 62 (0,0))):=by show _=_;rw [hw1];exact ((Upd.refl noBlk _).alloc _).heap (heap_alloc_new w _) id
 have HB:Hid (w1.heap[w.heap.size+1]?=some (.cells #[.int .i64 0,.slice none 0 0,.slice none 0 0,.slice none 0 0,.int .i64 0,.int .i64 0,.bool false,.string ⟨#[]⟩] 68 (0,0))):=by
  show _=_;rw [hw1];have:=heap_alloc_new (w.alloc (.cells #[.int .i64 lv,.int .i64 er,.int .i64 tot,vi,vo,vm,.bool neg,.string (bs mag)] 62)) (.cells #[.int .i64 0,.slice none 0 0,.slice none 0 0,.slice none 0 0,.int .i64 0,.int .i64 0,.bool false,.string ⟨#[]⟩] 68);rwa [World.size_alloc] at this
 go_enter Tryz.func31,Tryz.ntmps31
 go_upto_region 1 with fail
 rw [←hw1];clear hw1;obtain ⟨ba,hba⟩:∃ba,ba=w.heap.size:=⟨_,rfl⟩;rw [←hba] at HA HB ⊢;have HWA:Hid (w.heap.size≤ba):=by show _≤_;omega
 clear hba;obtain ⟨bb,hbb⟩:∃bb,bb=ba+1:=⟨_,rfl⟩;have HBB:Hid (bb=ba+1):=hbb;rw [←hbb] at HB ⊢;clear hbb;have HBW:Hid (bb<w1.heap.size):=lt_of_heap HB.out;go_cut [3] (fun c wc=>∃nb ui um,c=.pointer (some ⟨nb,0,none⟩)∧w1.heap.size≤nb∧wc.heap[nb]?=some (.cells #[.int .i64 lv,ui,.slice none 0 0,um,.int .i64 er,.int .i64 tot,.bool neg,.string (bs mg)] 68 (0,0))∧kPart.Own w1.heap.size wc ui pis∧kMove.Own w1.heap.size wc um pms∧(∀g,ui.ownBlock=some g→g≠nb)∧(∀g,um.ownBlock=some g→g≠nb)∧Upd noBlk w1 wc)
 case first=>
  refine wp_region_tree 24 (OT.sures [0,2,5,8,10,12,14,16,1,3,6,9,11,13,15,17,18,19,20,21] (.fork 4 (.fork 7 (.sure 22 (.run 23 .nil)) 23 (.run 7 (.sure 22 .nil))) 23 (.run 4 (.run 7 (.sure 22 .nil))))) (fun w'=>Upd noBlk w1 w') (by kernel_rfl) (by kernel_rfl) (fun c a d v w h=>by cases d<;>exact h) ((Upd.refl noBlk w1).drew) ?_
  simp only [OT.sures]
  iterate 20 (apply wpT_sure rfl rfl;focus (intro w' hw';obtain ⟨a0,a1,a2,a3,a4,a5,a6,a7⟩:=cells8 (hw'.heap HA.out id);have h1:=HMN.out;have h2:=HMZ.out;have h3:=HME.out;have h4:=HS64.out;go_simp;rfl))
  refine wpT_fork (fun w'=>Upd noBlk w1 w') (fun w'=>Upd noBlk w1 w') (fun _ h=>h) (fun _ h=>h) rfl rfl (fun K' hK=>?_) (fun K' hK=>?_)
  ·skip
   go_simp
   refine (HPI.out _ (HU.out.trans (Upd.refl noBlk w1).drew)).mono ?_;rintro e zi ⟨ui,rfl,hoi,uzi⟩;obtain ⟨Ai,ci,rfl,_⟩:=hoi.form;have VI:=Lib.hid ((Upd.refl noBlk w1).drew.trans uzi);have HOI:=Lib.hid (hoi.mono (base':=w1.heap.size) (Upd.size (Upd.refl noBlk w1).drew));refine hK _ _ ⟨VI.out,?_⟩;clear hK K' uzi hoi;refine wpT_fork (fun w'=>Upd noBlk w1 w') (fun w'=>Upd noBlk w1 w') (fun _ h=>h) (fun _ h=>h) rfl rfl (fun K' hK=>?_) (fun K' hK=>?_)
   ·skip
    go_simp
    refine (HMO.out _ (HU.out.trans VI.out)).mono ?_;rintro e zm ⟨um,rfl,hom,uzm⟩;obtain ⟨Am,cm,rfl,_⟩:=hom.form;have VM:=Lib.hid (VI.out.trans uzm);have HOM:=Lib.hid (hom.mono (base':=w1.heap.size) (Upd.size VI.out));have HOI2:=Lib.hid (HOI.out.upd uzm);refine hK _ _ ⟨VM.out,?_⟩;clear hK K' uzm hom HOI
    (apply wpT_sure rfl rfl;focus (intro w' hw';go_simp;rfl))
    refine wpT_run (fun w'=>Upd noBlk w1 w') (fun _ h=>h) rfl (fun K' hK=>?_);go_simp
    have HN:Hid ((zm.alloc (.cells #[.int .i64 0,.slice none 0 0,.slice none 0 0,.slice none 0 0,.int .i64 0,.int .i64 0,.bool false,.string ⟨#[]⟩] 68)).heap[zm.heap.size]?=some (.cells #[.int .i64 0,.slice none 0 0,.slice none 0 0,.slice none 0 0,.int .i64 0,.int .i64 0,.bool false,.string ⟨#[]⟩] 68 (0,0))):=heap_alloc_new zm _;have hal:=(Upd.refl noBlk zm).alloc (.cells #[.int .i64 0,.slice none 0 0,.slice none 0 0,.slice none 0 0,.int .i64 0,.int .i64 0,.bool false,.string ⟨#[]⟩] 68);have HV:=Lib.hid (VM.out.trans hal);have HOIF:=Lib.hid (HOI2.out.upd hal);have HOMF:=Lib.hid (HOM.out.upd hal);have HDI:Hid (∀g,(Value.slice Ai pis.length ci).ownBlock=some g→g≠zm.heap.size):=fun g hg e=>by have:=(HOI2.out.lt g hg).2;omega
    have HDM:Hid (∀g,(Value.slice Am pms.length cm).ownBlock=some g→g≠zm.heap.size):=fun g hg e=>by have:=(HOM.out.lt g hg).2;omega
    have HNB:Hid (w1.heap.size≤zm.heap.size):=VM.out.size;refine hK _ _ ⟨HV.out,?_⟩;clear hK K' hal HOI2 HOM VM VI;generalize zm.alloc (.cells #[.int .i64 0,.slice none 0 0,.slice none 0 0,.slice none 0 0,.int .i64 0,.int .i64 0,.bool false,.string ⟨#[]⟩] 68)=z3 at *;generalize zm.heap.size=nb at *;refine wpT_nil ?_;obtain ⟨_,⟨f0,f1,f2,f3,f4,f5,f6,f7⟩⟩:=cellsF8 HN.out;go_wp2_with fail
    go_meet
    obtain ⟨hz,hset⟩:=set8 (y0:=.int .i64 lv) (y1:=.slice Ai pis.length ci) (y2:=.slice none 0 0) (y3:=.slice Am pms.length cm) (y4:=.int .i64 er) (y5:=.int .i64 tot) (y6:=.bool neg) (y7:=.string (bs mg)) HN.out;exact ⟨_,_,_,rfl,HNB.out,hz,HOIF.out.other hset (fun g hg e=>HDI.out g hg e),HOMF.out.other hset (fun g hg e=>HDM.out g hg e),HDI.out,HDM.out,upd_newE HV.out hset HNB.out⟩
   ·skip
    go_simp
    have hn0:(zi.alloc (.cells #[.int .i64 0,.slice none 0 0,.slice none 0 0,.slice none 0 0,.int .i64 0,.int .i64 0,.bool false,.string ⟨#[]⟩] 68)).heap[zi.heap.size]?=some (.cells #[.int .i64 0,.slice none 0 0,.slice none 0 0,.slice none 0 0,.int .i64 0,.int .i64 0,.bool false,.string ⟨#[]⟩] 68 (0,0)):=heap_alloc_new zi _;have hal:=(Upd.refl noBlk zi).alloc (.cells #[.int .i64 0,.slice none 0 0,.slice none 0 0,.slice none 0 0,.int .i64 0,.int .i64 0,.bool false,.string ⟨#[]⟩] 68);have HV0:=Lib.hid (VI.out.trans hal);have HOI0:=Lib.hid (HOI.out.upd hal);have HDI:Hid (∀g,(Value.slice Ai pis.length ci).ownBlock=some g→g≠zi.heap.size):=fun g hg e=>by have:=(HOI.out.lt g hg).2;omega
    have HNB:Hid (w1.heap.size≤zi.heap.size):=VI.out.size;have HNL:Hid (zi.heap.size<(zi.alloc (.cells #[.int .i64 0,.slice none 0 0,.slice none 0 0,.slice none 0 0,.int .i64 0,.int .i64 0,.bool false,.string ⟨#[]⟩] 68)).heap.size):=by show _<_;rw [World.size_alloc];omega
    refine hK _ _ ⟨HV0.out,?_⟩;have HN0:=Lib.hid hn0;clear hK K' hal HOI VI hn0;generalize zi.alloc (.cells #[.int .i64 0,.slice none 0 0,.slice none 0 0,.slice none 0 0,.int .i64 0,.int .i64 0,.bool false,.string ⟨#[]⟩] 68)=z3 at *;generalize zi.heap.size=nb at *;have HOI:=HOI0;refine wpT_run (fun w'=>Upd noBlk w1 w') (fun _ h=>h) rfl (fun K' hK=>?_);go_simp
    refine (HMO.out _ (HU.out.trans HV0.out)).mono ?_;rintro e zm ⟨um,rfl,hom,uzm⟩;obtain ⟨Am,cm,rfl,_⟩:=hom.form;have VM:=Lib.hid (HV0.out.trans uzm);have HOM:=Lib.hid (hom.mono (base':=w1.heap.size) (Upd.size HV0.out));have HOI2:=Lib.hid (HOI.out.upd uzm);have HN:=Lib.hid (uzm.heap HN0.out id);have HV:=VM;have HOIF:=HOI2;have HOMF:=HOM;have HDM:Hid (∀g,(Value.slice Am pms.length cm).ownBlock=some g→g≠nb):=fun g hg e=>by have h1:=(hom.blk hg).1;have:=HNL.out;omega
    refine hK _ _ ⟨VM.out,?_⟩;clear hK K' uzm hom HOI HOI0 HN0 HNL
    (apply wpT_sure rfl rfl;focus (intro w' hw';go_simp;rfl))
    refine wpT_nil ?_;obtain ⟨_,⟨f0,f1,f2,f3,f4,f5,f6,f7⟩⟩:=cellsF8 HN.out;go_wp2_with fail
    go_meet
    obtain ⟨hz,hset⟩:=set8 (y0:=.int .i64 lv) (y1:=.slice Ai pis.length ci) (y2:=.slice none 0 0) (y3:=.slice Am pms.length cm) (y4:=.int .i64 er) (y5:=.int .i64 tot) (y6:=.bool neg) (y7:=.string (bs mg)) HN.out;exact ⟨_,_,_,rfl,HNB.out,hz,HOIF.out.other hset (fun g hg e=>HDI.out g hg e),HOMF.out.other hset (fun g hg e=>HDM.out g hg e),HDI.out,HDM.out,upd_newE HV.out hset HNB.out⟩
  ·skip
   go_simp
   have hn0:(w1.alloc (.cells #[.int .i64 0,.slice none 0 0,.slice none 0 0,.slice none 0 0,.int .i64 0,.int .i64 0,.bool false,.string ⟨#[]⟩] 68)).drew.heap[w1.heap.size]?=some (.cells #[.int .i64 0,.slice none 0 0,.slice none 0 0,.slice none 0 0,.int .i64 0,.int .i64 0,.bool false,.string ⟨#[]⟩] 68 (0,0)):=heap_alloc_new w1 _;have hal:=((Upd.refl noBlk w1).alloc (.cells #[.int .i64 0,.slice none 0 0,.slice none 0 0,.slice none 0 0,.int .i64 0,.int .i64 0,.bool false,.string ⟨#[]⟩] 68)).drew;have HV0:=Lib.hid hal;have HNB0:Hid (w1.heap.size≤w1.heap.size):=Nat.le_refl _;have HNL:Hid (w1.heap.size<(w1.alloc (.cells #[.int .i64 0,.slice none 0 0,.slice none 0 0,.slice none 0 0,.int .i64 0,.int .i64 0,.bool false,.string ⟨#[]⟩] 68)).drew.heap.size):=by show w1.heap.size<(w1.alloc (.cells #[.int .i64 0,.slice none 0 0,.slice none 0 0,.slice none 0 0,.int .i64 0,.int .i64 0,.bool false,.string ⟨#[]⟩] 68)).heap.size;rw [World.size_alloc];omega
   have HN0:=Lib.hid hn0;refine hK _ _ ⟨?_,?_⟩
   ·exact HV0.out
   clear hK K' hal hn0;obtain ⟨nb,hnb⟩:∃nb,nb=w1.heap.size:=⟨_,rfl⟩;have HNB:Hid (w1.heap.size≤nb):=by show _≤_;omega
   rw [←hnb] at HN0 HNL ⊢;clear hnb HNB0;generalize (w1.alloc (.cells #[.int .i64 0,.slice none 0 0,.slice none 0 0,.slice none 0 0,.int .i64 0,.int .i64 0,.bool false,.string ⟨#[]⟩] 68)).drew=z3 at *;refine wpT_run (fun w'=>Upd noBlk w1 w') (fun _ h=>h) rfl (fun K' hK=>?_);go_simp
   refine (HPI.out _ (HU.out.trans HV0.out)).mono ?_;rintro e zi ⟨ui,rfl,hoi,uzi⟩;obtain ⟨Ai,ci,rfl,_⟩:=hoi.form;have VI:=Lib.hid (HV0.out.trans uzi);have HOI:=Lib.hid (hoi.mono (base':=w1.heap.size) (Upd.size HV0.out));have HN1:=Lib.hid (uzi.heap HN0.out id);have HDI:Hid (∀g,(Value.slice Ai pis.length ci).ownBlock=some g→g≠nb):=fun g hg e=>by have h1:=(hoi.blk hg).1;have:=HNL.out;omega
   have HNL2:Hid (nb<zi.heap.size):=by show _<_;have:=HNL.out;have:=uzi.size;omega
   refine hK _ _ ⟨VI.out,?_⟩;clear hK K' uzi hoi HN0 HV0;refine wpT_run (fun w'=>Upd noBlk w1 w') (fun _ h=>h) rfl (fun K' hK=>?_);go_simp
   refine (HMO.out _ (HU.out.trans VI.out)).mono ?_;rintro e zm ⟨um,rfl,hom,uzm⟩;obtain ⟨Am,cm,rfl,_⟩:=hom.form;have VM:=Lib.hid (VI.out.trans uzm);have HOM:=Lib.hid (hom.mono (base':=w1.heap.size) (Upd.size VI.out));have HOI2:=Lib.hid (HOI.out.upd uzm);have HN:=Lib.hid (uzm.heap HN1.out id);have HV:=VM;have HOIF:=HOI2;have HOMF:=HOM;have HDM:Hid (∀g,(Value.slice Am pms.length cm).ownBlock=some g→g≠nb):=fun g hg e=>by have h1:=(hom.blk hg).1;have:=HNL2.out;omega
   refine hK _ _ ⟨VM.out,?_⟩;clear hK K' uzm hom HOI HN1 HNL HNL2
   (apply wpT_sure rfl rfl;focus (intro w' hw';go_simp;rfl))
   refine wpT_nil ?_;obtain ⟨_,⟨f0,f1,f2,f3,f4,f5,f6,f7⟩⟩:=cellsF8 HN.out;go_wp2_with fail
   go_meet
   obtain ⟨hz,hset⟩:=set8 (y0:=.int .i64 lv) (y1:=.slice Ai pis.length ci) (y2:=.slice none 0 0) (y3:=.slice Am pms.length cm) (y4:=.int .i64 er) (y5:=.int .i64 tot) (y6:=.bool neg) (y7:=.string (bs mg)) HN.out;exact ⟨_,_,_,rfl,HNB.out,hz,HOIF.out.other hset (fun g hg e=>HDI.out g hg e),HOMF.out.other hset (fun g hg e=>HDM.out g hg e),HDI.out,HDM.out,upd_newE HV.out hset HNB.out⟩
 case rest=>
  obtain ⟨nb,ui,um,rfl,hnb,hb,hoi,hom,hdi,hdm,hu⟩:=hcut;obtain ⟨Ai,ci,rfl,_⟩:=hoi.form;obtain ⟨Am,cm,rfl,_⟩:=hom.form;have HNB:Hid (w1.heap.size≤nb):=hnb;have HPO2:=Lib.hid (HPO.out wc (HU.out.trans hu));have HOI:=Lib.hid hoi;have HOM:=Lib.hid hom;have HDI:Hid (∀g,(Value.slice Ai pis.length ci).ownBlock=some g→g≠nb):=hdi;have HDM:Hid (∀g,(Value.slice Am pms.length cm).ownBlock=some g→g≠nb):=hdm;have HUC:=Lib.hid (HU.out.trans hu);have HN:=Lib.hid hb;have HB2:=Lib.hid (hu.heap HB.out id);obtain ⟨a0,a1,a2,a3,a4,a5,a6,a7⟩:=cells8 (hu.heap HA.out id);clear hu hb hoi hom hdi hdm hnb HPO HPI HMO HB HME HMN HMZ HS64;go_wp2_with fail
  refine HPO2.out.mono ?_;rintro e w2 ⟨v,rfl,ho,u2⟩;obtain ⟨Ap,cp,rfl,_⟩:=ho.form;have HNC:Hid (nb<wc.heap.size):=lt_of_heap HN.out;have HNW:Hid (nb<w2.heap.size):=Nat.lt_of_lt_of_le (lt_of_heap HN.out) u2.size;have HXP:=Lib.hid ho;have HOI2:=Lib.hid (HOI.out.upd u2);have HOM2:=Lib.hid (HOM.out.upd u2);have HN2:=Lib.hid (u2.heap HN.out id);have HU2:=Lib.hid (HUC.out.trans u2);have HB3:=Lib.hid (u2.heap HB2.out id);clear ho u2 HPO2 HOI HOM HN HUC HB2 a0 a1 a2 a3 a4 a5 a6 a7;have hpl:(pos.length:Int)≤10:=by have:=HL2.out;omega
  go_wp2_with fail
  go_loopw [33] (fun i wr=>∃k:Nat,i=.int .i64 k∧k≤pos.length∧(∃uo,wr.heap[nb]?=some (.cells #[.int .i64 lv,.slice Ai pis.length ci,uo,.slice Am pms.length cm,.int .i64 er,.int .i64 tot,.bool neg,.string (bs mg)] 68 (0,0))∧kHash.Own w2.heap.size wr uo ((pos.take k).map (·.1)))∧Upd (fun b=>b=nb) w2 wr) (fun i _=>pos.length-(intOf i).toNat)
  case atStart=>exact ⟨0,rfl,Nat.zero_le _,⟨_,HN2.out,Kd.Own.nil _ _ _⟩,Upd.refl _ _⟩
  case round=>
   obtain ⟨k,rfl,hk,⟨uo,hb,ho⟩,hu⟩:=hrel;have HN3:=Lib.hid hb;have HO:=Lib.hid ho;have HU3:=Lib.hid hu;obtain ⟨Ao,co,hform,_⟩:=ho.form;have hlk:((pos.take k).map (·.1)).length=k:=by rw [List.length_map,List.length_take];omega
   rw [hlk] at hform;subst hform;have HLK:=Lib.hid hlk;clear hb ho hu hlk;by_cases hlt:k<pos.length
   ·have hlt':(k:Int)<(pos.length:Int):=by omega
    have HK:Hid (k<pos.length):=hlt;obtain ⟨A',cap',e',_,hx⟩:=(HXP.out.fresh HU3.out HNC.out).rd;cases e';obtain ⟨b,off,rfl,f1⟩:=hx (by omega);have hat:=f1 k hlt;have hk64:kPart.k=64:=rfl;rw [hk64] at hat;have HAT:=Lib.hid hat;have HTK:Hid ((pos.take (k+1)).map (·.1)=(pos.take k).map (·.1)++[(pos[k]).1]):=by
     show _=_;rw [List.take_succ_eq_append_getElem hlt,List.map_append];rfl
    clear f1 hat hk64 hx;generalize pos[k]=pk at *;clear hlt;have HI:Hid ((Tryz.prog.info? 83).map (·.size)=some (partC pk).length):=by show _=_;rw [partC_len];kernel_rfl
    have HST:∀c:Array Value,c.size=64→(storeCells ⟨wr.heap.size,0,none⟩ (partC pk) 0).run Tryz.prog (wr.alloc (.cells c 83))=.ok () (wr.alloc (.cells (partC pk).toArray 83)):=fun c hc=>by
     have:=run_storeCells_new (P:=Tryz.prog) wr 83 c (partC pk).toArray (by simpa using HI.out) (by simp [hc,partC_len]) (all_oneCell_toArray (partC_one pk));simpa using this
    have hlen:=partC_len pk;go_upto_region 5 with (first | (refine wpList_load_mid rfl _ _ rfl b (off+k*64) rfl (partC pk) _ HAT.out Tryz.underlying83 rfl HI.out ?_))
    clear HST HAT HI hlen;have HR1:Hid (kPart.At (wr.alloc (.cells (partC pk).toArray 83)) wr.heap.size 0 pk):=by
     show World.rangeAt _ _ _ _;intro j v hv;rw [Nat.zero_add,cell_of_row _ _ j (partC pk).toArray 83 (0,0) (heap_alloc_last wr _)];have hv':(partC pk)[j]?=some v:=hv;simpa using hv'
    have hal:=(Upd.refl noBlk wr).alloc (.cells (partC pk).toArray 83);have HU4:=Lib.hid (HU3.out.alloc (.cells (partC pk).toArray 83));have HN4:=Lib.hid (hal.heap HN3.out id);have HO4:=Lib.hid (HO.out.upd hal);clear hal HN3 HO HU3;generalize wr.heap.size=pb at *;generalize wr.alloc (.cells (partC pk).toArray 83)=wa at *;obtain ⟨ra,rb⟩:=part_ranges HR1.out;have RA:=Lib.hid ra;clear ra rb HR1;obtain ⟨g,cap2,w4,hrun,ho4,hu4,hat4⟩:=HO4.out.app1 HU4.out.size pk.1 (by rw [HLK.out];have:=HK.out;have:=HL2.out;omega);rw [HLK.out] at hrun ho4;rw [←HTK.out] at ho4;have HRUN:=Lib.hid hrun;have HO5:=Lib.hid ho4;have HGE:Hid (∀i,(Value.slice Ao k co).ownBlock=some i→w2.heap.size≤i):=fun i e=>(HO4.out.blk e).1;have HU5:=Lib.hid (HU4.out.then hu4 (fun i hi e=>absurd hi (by have:=HGE.out i e;omega)));have HN5:=Lib.hid (hu4.heap HN4.out (fun e=>by have:=HGE.out nb e;have:=HNW.out;omega));have HSZ:Hid ((sizeOf 81).run Tryz.prog wa=.ok 32 wa):=by show _=_;kernel_rfl
    have HZ:Hid ((zeroValue 81).run Tryz.prog wa=.ok (.agg (Array.replicate 32 (.int .u8 0))) wa):=by show _=_;kernel_rfl
    have HIH:=Lib.hid (size_hash pk.1);have HLH:Hid ((byV pk.1.1).length=32):=by show _=_;rw [byV_len,pk.1.2]
    clear hrun ho4 hu4 HU4 HO4;obtain ⟨⟨a0,a1,a2,a3,a4,a5,a6,a7⟩,_⟩:=cellsF8 HN4.out;obtain ⟨⟨b0,b1,b2,b3,b4,b5,b6,b7⟩,⟨f0,f1,f2,f3,f4,f5,f6,f7⟩⟩:=cellsF8 HN5.out;go_wp2_with (first | (refine wpList_load_mid rfl _ _ rfl pb 0 rfl (byV pk.1.1) _ RA.out Tryz.underlying81 rfl HIH.out ?_) | (refine wpList_val rfl (.slice (some ⟨wa.heap.size,0,none⟩) 1 1) (wa.alloc (.cells (byV pk.1.1).toArray 81)) (exec_build1 wa _ (byV pk.1.1) Tryz.underlying63 HSZ.out HZ.out (by decide) (by decide) HLH.out rfl rfl) ?_) | (at_builtin;refine wpList_append_run rfl _ _ _ rfl rfl rfl HRUN.out ?_))
    have s2:=heap_setCell_eq (i:=2) (.slice (some ⟨g,0,none⟩) (k+1) cap2) HN5.out;have hset:=(Upd.refl (fun b=>b=nb) w4).setCell (p:=⟨nb,2,none⟩) (fun _=>rfl) (.slice (some ⟨g,0,none⟩) (k+1) cap2);exact ⟨⟨k+1,by push_cast;rfl,HK.out,⟨_,s2,HO5.out.fresh hset HNW.out⟩,HU5.out.trans hset⟩,by simp only [intOf];have:=HK.out;omega⟩
   ·obtain rfl:k=pos.length:=by omega
    rw [List.take_length] at HO;have HBR:=Lib.hid (HU3.out.heap HB3.out (fun e=>by have e':bb=nb:=e;have:=HNB.out;have:=HBW.out;omega));have HOI3:=Lib.hid (HOI2.out.other HU3.out (fun g hg e=>HDI.out g hg e));have HOM3:=Lib.hid (HOM2.out.other HU3.out (fun g hg e=>HDM.out g hg e));have HUW:=Lib.hid (upd_newE HU2.out HU3.out (by have:=HNB.out;have h1:w.heap.size≤w1.heap.size:=HU.out.size;omega));have HSW:Hid (w.heap.size≤w1.heap.size∧w.heap.size≤w2.heap.size∧bb<w2.heap.size∧w.heap.size≤bb):=⟨HU.out.size,HU2.out.size,lt_of_heap HB3.out,by have:=HWA.out;have:=HBB.out;omega⟩;clear HU3 HB3 HOI2 HOM2 HXP HLK;obtain ⟨⟨a0,a1,a2,a3,a4,a5,a6,a7⟩,_⟩:=cellsF8 HN3.out;obtain ⟨_,⟨f0,f1,f2,f3,f4,f5,f6,f7⟩⟩:=cellsF8 HBR.out;go_wp2_with fail
    obtain ⟨hz,hset⟩:=set8 (y0:=.int .i64 lv) (y1:=.slice Ai pis.length ci) (y2:=.slice Ao pos.length co) (y3:=.slice Am pms.length cm) (y4:=.int .i64 er) (y5:=.int .i64 tot) (y6:=.bool neg) (y7:=.string (bs mg)) HBR.out
    (try simp only [Exit.inBlock,Exit.then])
    refine bodyPost_ret (results_cell_row rfl _ _ bb 68 _ (0,0) _ rfl hz Tryz.underlying68 rfl (by kernel_rfl)) rfl ?_;have hs:=HSW.out;exact ⟨_,_,_,rfl,(HOI3.out.fresh hset HBW.out).mono hs.1,(HO.out.fresh hset hs.2.2.1).mono hs.2.1,(HOM3.out.fresh hset HBW.out).mono hs.1,upd_newE HUW.out hset hs.2.2.2⟩
end Go.Proofs.YtcikldoaidmnhaaGreatDoor
