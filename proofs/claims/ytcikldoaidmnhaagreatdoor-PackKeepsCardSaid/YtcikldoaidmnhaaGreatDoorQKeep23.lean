/- Parts: The group packet that fields determine. No condition. Walks of the packets' program: OpenGroup. No condition. -/
import Derived.Test.YtcikldoaidmnhaaGreatDoorQKeep20
import Derived.Test.YtcikldoaidmnhaaGreatDoorQKeep22
namespace Go.Proofs.YtcikldoaidmnhaaGreatDoor
open Go Go.RowKit Pk Pc
set_option maxRecDepth 100000
theorem listR_len {α:Type} {one:Bytes→Option (α × Bytes)} (h:∀s x r,one s=some (x,r)→r.length≤s.length):∀(k:Nat) (s:Bytes) (l:List α) (r:Bytes),listR one k s=some (l,r)→r.length≤s.length
 | 0,s,l,r,e=>by cases e;exact Nat.le_refl _
 | k+1,s,l,r,e=>by
  rw [listR_step] at e;rcases hm:one s with _ | ⟨x,r1⟩
  ·rw [hm] at e;cases e
  ·rw [hm] at e;simp only at e;rcases hm2:listR one k r1 with _ | ⟨l2,r2⟩
   ·rw [hm2] at e;cases e
   ·rw [hm2] at e;cases e;exact Nat.le_trans (listR_len h k _ _ _ hm2) (h _ _ _ hm)
theorem manyR_len {α:Type} {one:Bytes→Option (α × Bytes)} (h:∀s x r,one s=some (x,r)→r.length≤s.length) {s:Bytes} {l:List α} {r:Bytes} (e:manyR one s=some (l,r)):r.length≤s.length:=by
 unfold manyR at e;rcases hm:readNum s with _ | ⟨n,r1⟩
 ·rw [hm] at e;cases e
 ·rw [hm] at e;simp only at e;split at e
  ·cases e
  ·exact Nat.le_trans (listR_len h _ _ _ _ e) (Nat.le_of_lt (readNum_len hm))
theorem moveR_len (s:Bytes) (x:Mv) (r:Bytes) (h:moveR s=some (x,r)):r.length≤s.length:=by
 unfold moveR at h;split at h
 ·rename_i hm
  cases h;exact listR_len (fun s x r h=>Nat.le_of_lt (readNum_len h)) _ _ _ _ hm
 ·cases h
theorem grpF_len {s:Bytes} {g:Grp} {size:Nat} (h:grpF s=some (g,size)):g.mag.length≤s.length:=by
 unfold grpF at h;split at h
 ·cases h
 ·rename_i h1
  split at h
  ·cases h
  ·rename_i h2
   split at h
   ·cases h
   ·rename_i h3
    split at h
    ·cases h
    ·rename_i h4
     split at h
     ·cases h
     ·rename_i h5
      split at h
      ·cases h
      ·rename_i h6
       split at h
       ·cases h
       ·rename_i sz s7 h7
        obtain ⟨rfl,rfl⟩:=Prod.mk.inj (Option.some.inj h);have a1:=readNum_len h1;have a2:=manyR_len (fun s x r h=>Nat.le_of_lt (partR_good h).2) h2;have a3:=manyR_len (fun s x r h=>by have:=(takeR_len h).2;omega) h3;have a4:=manyR_len moveR_len h4;have a5:=readNum_len h5;have a6:=readNum_len h6;have a7:=readNum_len h7;show s7.length≤s.length;omega
def gvOf (g:Grp):GV:=⟨g.level,g.ins.map p32,g.outs.map h32,g.moves,g.err,g.total,g.neg,g.mag⟩
theorem gvOf_g {g:Grp} (h:goodG g):(gvOf g).g=g:=by
 obtain ⟨lv,ins,outs,moves,er,tot,neg,mag⟩:=g;unfold gvOf GV.g;simp only;rw [plain_map h.1];have e:(outs.map h32).map (·.1)=outs:=by
  rw [List.map_map];have:outs.map ((fun x:H32=>x.1) ∘ h32)=outs.map id:=List.map_congr_left (fun p hp=>h32_len (h.2 p hp));rw [this,List.map_id]
 rw [e]
theorem groupO_good {s:Bytes} {g:Grp} (h:groupO s=some g):goodG g∧(g.level≤9223372036854775807∧g.err≤9223372036854775807∧g.total≤9223372036854775807)∧g.mag.length≤s.length:=by
 unfold groupO at h;rcases hk:kindM 2 s with _ | r
 ·rw [hk] at h;cases h
 ·rw [hk] at h;simp only at h;have hr:r.length≤s.length:=by
   unfold kindM at hk;split at hk
   ·cases hk
   ·split at hk
    ·cases hk;simp
    ·cases hk
  rcases hf:grpF r with _ | ⟨g',size⟩
  ·rw [hf] at h;cases h
  ·rw [hf] at h;simp only at h;rcases ht:takeR (size / 2) g'.mag with _ | ⟨m,r2⟩
   ·rw [ht] at h;cases h
   ·rw [ht] at h;cases h;obtain ⟨h1,h2,_⟩:=grpF_good hf;have h3:=grpF_len hf;have h4:=takeR_len ht;refine ⟨h1,h2,?_⟩;show m.length≤_;omega
theorem grpR_of (s:Bytes):grpR s=match groupO s with
  | none=>none
  | some g=>if rightG g=true∧groupB g=s then some g else none:=by
 unfold grpR groupO kindM;cases s with
 | nil=>rfl
 | cons c r=>
  have hc:c.toNat=2↔c=2:=⟨fun h=>UInt8.toNat_inj.1 (by rw [h];rfl),fun h=>by rw [h];rfl⟩;by_cases h:c=2
  ·subst h;simp only [ne_eq,not_true_eq_false,if_false];rw [if_pos (by decide)];simp only;rcases grpF r with _ | ⟨g,size⟩
   ·rfl
   ·simp only;by_cases hm:g.mag.length<size / 2
    ·rw [if_pos hm,takeR_short hm]
    ·rw [if_neg hm,takeR_good hm]
  ·have h2:¬c.toNat=2:=fun e=>h (hc.1 e);simp only [ne_eq,h,not_false_eq_true,if_true,if_neg h2]
set_option maxHeartbeats 2000000 in
theorem set8 {w:World} {xb:Nat} {c0 c1 c2 c3 c4 c5 c6 c7 y0 y1 y2 y3 y4 y5 y6 y7:Value} {t:TypeId} (h:w.heap[xb]?=some (.cells #[c0,c1,c2,c3,c4,c5,c6,c7] t (0,0))) :
  ((((((((w.setCell ⟨xb,0,none⟩ y0).setCell ⟨xb,1,none⟩ y1).setCell ⟨xb,2,none⟩ y2).setCell ⟨xb,3,none⟩ y3).setCell ⟨xb,4,none⟩ y4).setCell ⟨xb,5,none⟩ y5).setCell ⟨xb,6,none⟩ y6).setCell ⟨xb,7,none⟩ y7).heap[xb]?=some (.cells #[y0,y1,y2,y3,y4,y5,y6,y7] t (0,0))∧Upd (fun k=>k=xb) w ((((((((w.setCell ⟨xb,0,none⟩ y0).setCell ⟨xb,1,none⟩ y1).setCell ⟨xb,2,none⟩ y2).setCell ⟨xb,3,none⟩ y3).setCell ⟨xb,4,none⟩ y4).setCell ⟨xb,5,none⟩ y5).setCell ⟨xb,6,none⟩ y6).setCell ⟨xb,7,none⟩ y7):=by
 have h0:(w.setCell ⟨xb,0,none⟩ y0).heap[xb]?=some (.cells #[y0,c1,c2,c3,c4,c5,c6,c7] t (0,0)):=heap_setCell_eq (i:=0) y0 h;have h1:((w.setCell ⟨xb,0,none⟩ y0).setCell ⟨xb,1,none⟩ y1).heap[xb]?=some (.cells #[y0,y1,c2,c3,c4,c5,c6,c7] t (0,0)):=heap_setCell_eq (i:=1) y1 h0;have h2:(((w.setCell ⟨xb,0,none⟩ y0).setCell ⟨xb,1,none⟩ y1).setCell ⟨xb,2,none⟩ y2).heap[xb]?=some (.cells #[y0,y1,y2,c3,c4,c5,c6,c7] t (0,0)):=heap_setCell_eq (i:=2) y2 h1;have h3:((((w.setCell ⟨xb,0,none⟩ y0).setCell ⟨xb,1,none⟩ y1).setCell ⟨xb,2,none⟩ y2).setCell ⟨xb,3,none⟩ y3).heap[xb]?=some (.cells #[y0,y1,y2,y3,c4,c5,c6,c7] t (0,0)):=heap_setCell_eq (i:=3) y3 h2;have h4:(((((w.setCell ⟨xb,0,none⟩ y0).setCell ⟨xb,1,none⟩ y1).setCell ⟨xb,2,none⟩ y2).setCell ⟨xb,3,none⟩ y3).setCell ⟨xb,4,none⟩ y4).heap[xb]?=some (.cells #[y0,y1,y2,y3,y4,c5,c6,c7] t (0,0)):=heap_setCell_eq (i:=4) y4 h3;have h5:((((((w.setCell ⟨xb,0,none⟩ y0).setCell ⟨xb,1,none⟩ y1).setCell ⟨xb,2,none⟩ y2).setCell ⟨xb,3,none⟩ y3).setCell ⟨xb,4,none⟩ y4).setCell ⟨xb,5,none⟩ y5).heap[xb]?=some (.cells #[y0,y1,y2,y3,y4,y5,c6,c7] t (0,0)):=heap_setCell_eq (i:=5) y5 h4;have h6:(((((((w.setCell ⟨xb,0,none⟩ y0).setCell ⟨xb,1,none⟩ y1).setCell ⟨xb,2,none⟩ y2).setCell ⟨xb,3,none⟩ y3).setCell ⟨xb,4,none⟩ y4).setCell ⟨xb,5,none⟩ y5).setCell ⟨xb,6,none⟩ y6).heap[xb]?=some (.cells #[y0,y1,y2,y3,y4,y5,y6,c7] t (0,0)):=heap_setCell_eq (i:=6) y6 h5;have h7:((((((((w.setCell ⟨xb,0,none⟩ y0).setCell ⟨xb,1,none⟩ y1).setCell ⟨xb,2,none⟩ y2).setCell ⟨xb,3,none⟩ y3).setCell ⟨xb,4,none⟩ y4).setCell ⟨xb,5,none⟩ y5).setCell ⟨xb,6,none⟩ y6).setCell ⟨xb,7,none⟩ y7).heap[xb]?=some (.cells #[y0,y1,y2,y3,y4,y5,y6,y7] t (0,0)):=heap_setCell_eq (i:=7) y7 h6;exact ⟨h7,(((((((((Upd.refl (fun k=>k=xb) w).setCell (p:=⟨xb,0,none⟩) (fun _=>rfl) y0).setCell (p:=⟨xb,1,none⟩) (fun _=>rfl) y1).setCell (p:=⟨xb,2,none⟩) (fun _=>rfl) y2).setCell (p:=⟨xb,3,none⟩) (fun _=>rfl) y3).setCell (p:=⟨xb,4,none⟩) (fun _=>rfl) y4).setCell (p:=⟨xb,5,none⟩) (fun _=>rfl) y5).setCell (p:=⟨xb,6,none⟩) (fun _=>rfl) y6).setCell (p:=⟨xb,7,none⟩) (fun _=>rfl) y7)⟩
def groupP (o:Option Grp) (w:World) (en:Ending) (w':World):Prop:=Upd noBlk w w'∧match o with
 | some g=>∃vi vo vm,en=.returned (.tuple #[.agg (grpC g vi vo vm),.int .i64 0])∧GrpAt w.heap.size w' g vi vo vm
 | none=>en=.returned (.tuple #[.agg #[.int .i64 0,.slice none 0 0,.slice none 0 0,.slice none 0 0,.int .i64 0,.int .i64 0,.bool false,.string ⟨#[]⟩],.int .i64 13])
set_option maxHeartbeats 4000000 in
theorem OpenGroup_any (s:Bytes) (hs:s.length≤1152921504606846976) (w:World) :
  Calls Tryz.prog 35 #[.string (bs s)] w fun en w'=>groupP (grpR s) w en w':=by
 have HOP:=fun W=>Lib.hid (openGroup_any s W);obtain ⟨tgt,htgt⟩:∃t,t=grpR s:=⟨_,rfl⟩;rw [←htgt];have HT:=Lib.hid htgt;have HSL:Hid (s.length≤1152921504606846976):=hs;clear htgt hs;have HX:Hid ((w.alloc (.cells #[.int .i64 0,.slice none 0 0,.slice none 0 0,.slice none 0 0,.int .i64 0,.int .i64 0,.bool false,.string ⟨#[]⟩] 68)).heap[w.heap.size]?=some (.cells #[.int .i64 0,.slice none 0 0,.slice none 0 0,.slice none 0 0,.int .i64 0,.int .i64 0,.bool false,.string ⟨#[]⟩] 68 (0,0))):=heap_alloc_new w _;have HU0:Hid (Upd noBlk w (w.alloc (.cells #[.int .i64 0,.slice none 0 0,.slice none 0 0,.slice none 0 0,.int .i64 0,.int .i64 0,.bool false,.string ⟨#[]⟩] 68))):=(Upd.refl _ w).alloc _;go_enter Tryz.func35,Tryz.ntmps35
 go_upto_region 1 with fail
 obtain ⟨xb,hxb⟩:∃xb,xb=w.heap.size:=⟨_,rfl⟩;have HXB:Hid (w.heap.size≤xb):=by show _≤_;omega
 rw [←hxb] at HX;rw [←hxb];clear hxb;generalize w.alloc (.cells #[.int .i64 0,.slice none 0 0,.slice none 0 0,.slice none 0 0,.int .i64 0,.int .i64 0,.bool false,.string ⟨#[]⟩] 68)=w1 at *;have HOP1:=HOP w1;clear HOP;go_wp2_with fail
 refine HOP1.out.mono ?_;rintro e w2 ⟨hu,hv⟩;have HU2:=Lib.hid (HU0.out.trans hu);have HX2:=Lib.hid (hu.heap HX.out id);rcases hm:groupO s with _ | g
 ·rw [hm] at hv;obtain ⟨c,rfl,hc8,hc1⟩:=hv;have HTN:Hid (tgt=none):=by show _=_;rw [HT.out,grpR_of,hm]
  obtain ⟨W,hst,_,hw⟩:=store_row (P:=Tryz.prog) (heap_alloc_new w2 (.cells #[.int .i64 0,.slice none 0 0,.slice none 0 0,.slice none 0 0,.int .i64 0,.int .i64 0,.bool false,.string ⟨#[]⟩] 68)) (vs:=c) (by rw [hc8];rfl) hc1;have HWX:=Lib.hid (hw.heap (((Upd.refl noBlk w2).alloc (.cells #[.int .i64 0,.slice none 0 0,.slice none 0 0,.slice none 0 0,.int .i64 0,.int .i64 0,.bool false,.string ⟨#[]⟩] 68)).heap HX2.out id) (by have:=lt_of_heap HX2.out;omega));have HWU:=Lib.hid (upd_newE (HU2.out.alloc (.cells #[.int .i64 0,.slice none 0 0,.slice none 0 0,.slice none 0 0,.int .i64 0,.int .i64 0,.bool false,.string ⟨#[]⟩] 68)) hw (Nat.le_trans HU2.out.size (Nat.le_refl _)));clear HT HOP1 hu hm HX HU0 hw HX2 HU2 hc1;obtain ⟨_,⟨f0,f1,f2,f3,f4,f5,f6,f7⟩⟩:=cellsF8 HWX.out;go_wp2_with fail
  obtain ⟨hsx,hsu⟩:=same8 HWX.out
  (try simp only [Exit.inBlock,Exit.then])
  refine bodyPost_ret (results_cell_tmp1 rfl _ rfl (load_group hsx)) rfl ?_;rw [HTN.out];exact ⟨HWU.out.trans hsu,rfl⟩
 ·rw [hm] at hv;obtain ⟨vi,vo,vm,rfl,hat⟩:=hv;have HTS:Hid (tgt=if rightG g=true∧groupB g=s then some g else none):=by show _=_;rw [HT.out,grpR_of,hm]
  obtain ⟨hgood,hnum,hmag⟩:=groupO_good hm;obtain ⟨Ai,capi,hvi,_⟩:=hat.ins.form;obtain ⟨Ao,capo,hvo,_⟩:=hat.outs.form;obtain ⟨Am,capm,hvm,_⟩:=hat.moves.form;rw [List.length_map] at hvi hvo hvm;subst hvi hvo hvm;have hA:Upd noBlk w2 (w2.alloc (.cells #[.int .i64 g.level,.slice Ai g.ins.length capi,.slice Ao g.outs.length capo,.slice Am g.moves.length capm,.int .i64 g.err,.int .i64 g.total,.bool g.neg,.string (bs g.mag)] 68)):=(Upd.refl _ w2).alloc _;have HOI:=Lib.hid (hat.ins.upd hA);have HOO:=Lib.hid (hat.outs.upd hA);have hom:=hat.moves.upd hA;rw [List.map_id] at hom;have HOM:=Lib.hid hom;have HXA:=Lib.hid (hA.heap HX2.out id);have HTA:Hid ((w2.alloc (.cells #[.int .i64 g.level,.slice Ai g.ins.length capi,.slice Ao g.outs.length capo,.slice Am g.moves.length capm,.int .i64 g.err,.int .i64 g.total,.bool g.neg,.string (bs g.mag)] 68)).heap[w2.heap.size]?=some (.cells #[.int .i64 g.level,.slice Ai g.ins.length capi,.slice Ao g.outs.length capo,.slice Am g.moves.length capm,.int .i64 g.err,.int .i64 g.total,.bool g.neg,.string (bs g.mag)] 68 (0,0))):=heap_alloc_new w2 _;have HUA:=Lib.hid (HU2.out.trans hA);have HS1:Hid (xb<w1.heap.size):=lt_of_heap HX.out;have hok:(gvOf g).Ok:=⟨by have:=hnum.1;show g.level<_;omega,by have:=hnum.2.1;show g.err<_;omega,by have:=hnum.2.2;show g.total<_;omega,by have:=HSL.out;show g.mag.length≤_;omega⟩;have hsn:s≠[]:=by rintro rfl;cases hm
  have hgr:=Group_any (gvOf g) hok (.slice Ai g.ins.length capi) (.slice Ao g.outs.length capo) (.slice Am g.moves.length capm) _ HOI.out.rd HOO.out.rd HOM.out.rd;rw [gvOf_g hgood] at hgr;have HGR:Hid (Calls Tryz.prog 32 #[.agg #[.int .i64 g.level,.slice Ai g.ins.length capi,.slice Ao g.outs.length capo,.slice Am g.moves.length capm,.int .i64 g.err,.int .i64 g.total,.bool g.neg,.string (bs g.mag)]] (w2.alloc (.cells #[.int .i64 g.level,.slice Ai g.ins.length capi,.slice Ao g.outs.length capo,.slice Am g.moves.length capm,.int .i64 g.err,.int .i64 g.total,.bool g.neg,.string (bs g.mag)] 68)) fun en w'=>strR (if rightG g=true then groupB g else []) (w2.alloc (.cells #[.int .i64 g.level,.slice Ai g.ins.length capi,.slice Ao g.outs.length capo,.slice Am g.moves.length capm,.int .i64 g.err,.int .i64 g.total,.bool g.neg,.string (bs g.mag)] 68)) en w'):=hgr;clear HT HOP1 hu hm hA HX HU0 HX2 HU2 hat hgr hok hnum hmag hgood hom;unfold grpC;go_upto_region 2 with fail
  generalize w2.heap.size=tb at *;generalize w2.alloc (.cells #[.int .i64 g.level,.slice Ai g.ins.length capi,.slice Ao g.outs.length capo,.slice Am g.moves.length capm,.int .i64 g.err,.int .i64 g.total,.bool g.neg,.string (bs g.mag)] 68)=w3 at *;obtain ⟨_,⟨f0,f1,f2,f3,f4,f5,f6,f7⟩⟩:=cellsF8 HXA.out;obtain ⟨⟨g0,g1,g2,g3,g4,g5,g6,g7⟩,_⟩:=cellsF8 HTA.out;by_cases hc:rightG g=true∧groupB g=s
  ·have HTN:Hid (tgt=some g):=by show _=_;rw [HTS.out];exact if_pos hc
   obtain ⟨hc1,hc2⟩:=hc;rw [if_pos hc1,hc2] at HGR;clear HTS hc1 hc2;go_wp2_with fail
   refine HGR.out.mono ?_;rintro e w4 ⟨rfl,u4⟩;have HX4:=Lib.hid (u4.heap HXA.out id);have HT4:=Lib.hid (u4.heap HTA.out id);have HOI4:=Lib.hid (HOI.out.upd u4);have HOO4:=Lib.hid (HOO.out.upd u4);have HOM4:=Lib.hid (HOM.out.upd u4);have HU4:=Lib.hid (HUA.out.trans u4);clear u4 f0 f1 f2 f3 f4 f5 f6 f7 g0 g1 g2 g3 g4 g5 g6 g7 HGR;obtain ⟨_,⟨f0,f1,f2,f3,f4,f5,f6,f7⟩⟩:=cellsF8 HX4.out;obtain ⟨⟨g0,g1,g2,g3,g4,g5,g6,g7⟩,_⟩:=cellsF8 HT4.out;go_wp2_with fail
   obtain ⟨hz,hset⟩:=set8 (y0:=.int .i64 g.level) (y1:=.slice Ai g.ins.length capi) (y2:=.slice Ao g.outs.length capo) (y3:=.slice Am g.moves.length capm) (y4:=.int .i64 g.err) (y5:=.int .i64 g.total) (y6:=.bool g.neg) (y7:=.string (bs g.mag)) HX4.out
   (try simp only [Exit.inBlock,Exit.then])
   refine bodyPost_ret (results_cell_tmp1 rfl _ rfl (load_group hz)) rfl ?_;rw [HTN.out];have hs1:=HS1.out;have hxb:=HXB.out;refine ⟨upd_newE HU4.out hset hxb,_,_,_,rfl,⟨(HOI4.out.fresh hset hs1).mono (by omega),(HOO4.out.fresh hset hs1).mono (by omega),?_⟩⟩;rw [List.map_id];exact (HOM4.out.fresh hset hs1).mono (by omega)
  ·have HTN:Hid (tgt=none):=by show _=_;rw [HTS.out];exact if_neg hc
   have hne:((bs (if rightG g=true then groupB g else [])).toList == (bs s).toList)=false:=by
    rw [beq_eq_false_iff_ne,bs_toList,bs_toList];by_cases h1:rightG g=true
    ·rw [if_pos h1];exact fun e=>hc ⟨h1,e⟩
    ·rw [if_neg h1];exact fun e=>hsn e.symm
   clear HTS hc;generalize (if rightG g=true then groupB g else [])=z at *;go_wp2_with fail
   refine HGR.out.mono ?_;rintro e w4 ⟨rfl,u4⟩;have HX4:=Lib.hid (u4.heap HXA.out id);have HU4:=Lib.hid (HUA.out.trans u4);clear u4 f0 f1 f2 f3 f4 f5 f6 f7 g0 g1 g2 g3 g4 g5 g6 g7 HGR;obtain ⟨_,⟨f0,f1,f2,f3,f4,f5,f6,f7⟩⟩:=cellsF8 HX4.out;go_wp2_with fail
   obtain ⟨hsx,hsu⟩:=same8 HX4.out
   (try simp only [Exit.inBlock,Exit.then])
   refine bodyPost_ret (results_cell_tmp1 rfl _ rfl (load_group hsx)) rfl ?_;rw [HTN.out];exact ⟨HU4.out.trans hsu,rfl⟩
end Go.Proofs.YtcikldoaidmnhaaGreatDoor
namespace Go.Proofs.YtcikldoaidmnhaaGreatDoor
open Go Go.RowKit Pk
set_option maxRecDepth 100000
structure FV where
 level:Int
 err:Int
 total:Int
 ins:List Int
 outs:List Int
 moves:List Mv
 neg:Bool
 mag:Bytes
def FV.V (x:FV) (vi vo vm:Value):Value:=.agg #[.int .i64 x.level,.int .i64 x.err,.int .i64 x.total,vi,vo,vm,.bool x.neg,.string (bs x.mag)]
def FV.gv (x:FV):GV:=⟨x.level,(x.ins.take 10).map partOf,((x.outs.take 10).map partOf).map (·.1),(x.moves.take 10).map moveOf,x.err,x.total,x.neg,x.mag.take 40⟩
theorem bs_cut (s:Bytes) (m:Nat):(bs s).extract 0 m=bs (s.take m):=by
 apply ByteArray.ext;simp [bs]
set_option maxHeartbeats 4000000 in
theorem group_any (x:FV) (vi vo vm:Value) (w:World) (hl1:x.ins.length≤9223372036854775807) (hl2:x.outs.length≤9223372036854775807) (hl3:x.moves.length≤9223372036854775807) (hl4:x.mag.length≤9223372036854775807) (hi:kInt.Rd w vi x.ins) (ho:kInt.Rd w vo x.outs) (hm:kSix.Rd w vm x.moves) :
  Calls Tryz.prog 31 #[x.V vi vo vm] w fun en w'=>∃ui uo um,en=.returned (x.gv.V ui uo um)∧kPart.Own w.heap.size w' ui x.gv.ins∧kHash.Own w.heap.size w' uo x.gv.outs∧kMove.Own w.heap.size w' um x.gv.moves∧Upd noBlk w w':=by
 obtain ⟨lv,er,tot,ins,outs,moves,neg,mag⟩:=x;simp only at hi ho hm hl1 hl2 hl3 hl4;unfold FV.gv FV.V GV.V;simp only;have HPI:Hid (∀W,Upd noBlk w W→Calls Tryz.prog 24 #[vi] W fun en w'=>∃v,en=.returned v∧kPart.Own W.heap.size w' v ((ins.take 10).map partOf)∧Upd noBlk W w'):=fun W hW=>jParts_any vi ins W hl1 (hi.keep hW);have HPO:Hid (∀W,Upd noBlk w W→Calls Tryz.prog 24 #[vo] W fun en w'=>∃v,en=.returned v∧kPart.Own W.heap.size w' v ((outs.take 10).map partOf)∧Upd noBlk W w'):=fun W hW=>jParts_any vo outs W hl2 (ho.keep hW);have HMO:Hid (∀W,Upd noBlk w W→Calls Tryz.prog 78 #[vm] W fun en w'=>∃v,en=.returned v∧kMove.Own W.heap.size w' v ((moves.take 10).map moveOf)∧Upd noBlk W w'):=fun W hW=>jMoves_any vm moves W hl3 (hm.keep hW);have HL1:Hid (((ins.take 10).map partOf).length≤10):=by show _≤_;rw [List.length_map,List.length_take];omega
 have HL2:Hid (((outs.take 10).map partOf).length≤10):=by show _≤_;rw [List.length_map,List.length_take];omega
 have HL3:Hid (((moves.take 10).map moveOf).length≤10):=by show _≤_;rw [List.length_map,List.length_take];omega
 generalize (ins.take 10).map partOf=pis at *;generalize (outs.take 10).map partOf=pos at *;generalize (moves.take 10).map moveOf=pms at *;have hex:∃mn:Nat,(min (((bs mag).size:Nat):Int) 40=(mn:Int))∧mn≤(bs mag).size∧(bs mag).extract 0 mn=bs (mag.take 40):=by
  refine ⟨min (bs mag).size 40,by omega,Nat.min_le_left _ _,?_⟩;rw [bs_cut,bs_size];congr 1
  by_cases h:mag.length≤40
  ·rw [Nat.min_eq_left h,List.take_of_length_le h,List.take_of_length_le (Nat.le_refl _)]
  ·rw [Nat.min_eq_right (by omega)]
 obtain ⟨mn,hmn,hmz,hme⟩:=hex;have HME:=Lib.hid hme;have HMN:=Lib.hid hmn;have HMZ:Hid (mn≤(bs mag).size):=hmz;have hsz64:(((bs mag).size:Nat):Int)≤9223372036854775807:=by rw [bs_size];omega
 have HS64:=Lib.hid hsz64;generalize mag.take 40=mg at *;clear hi ho hm hl1 hl2 hl3 hl4 hmn hmz hme hsz64;obtain ⟨w1,hw1⟩:∃w1,w1=(w.alloc (.cells #[.int .i64 lv,.int .i64 er,.int .i64 tot,vi,vo,vm,.bool neg,.string (bs mag)] 62)).alloc (.cells #[.int .i64 0,.slice none 0 0,.slice none 0 0,.slice none 0 0,.int .i64 0,.int .i64 0,.bool false,.string ⟨#[]⟩] 68):=⟨_,rfl⟩;have HU:Hid (Upd noBlk w w1):=by show Upd _ _ _;rw [hw1];exact ((Upd.refl _ w).alloc _).alloc _
 have HA:Hid (w1.heap[w.heap.size]?=some (.cells #[.int .i64 lv,.int .i64 er,.int .i64 tot,vi,vo,vm,.bool neg,.string (bs mag)] 62 (0,0))):=by show _=_;rw [hw1];exact ((Upd.refl noBlk _).alloc _).heap (heap_alloc_new w _) id
 have HB:Hid (w1.heap[w.heap.size+1]?=some (.cells #[.int .i64 0,.slice none 0 0,.slice none 0 0,.slice none 0 0,.int .i64 0,.int .i64 0,.bool false,.string ⟨#[]⟩] 68 (0,0))):=by
  show _=_;rw [hw1];have:=heap_alloc_new (w.alloc (.cells #[.int .i64 lv,.int .i64 er,.int .i64 tot,vi,vo,vm,.bool neg,.string (bs mag)] 62)) (.cells #[.int .i64 0,.slice none 0 0,.slice none 0 0,.slice none 0 0,.int .i64 0,.int .i64 0,.bool false,.string ⟨#[]⟩] 68);rwa [World.size_alloc] at this
 go_enter Tryz.func31,Tryz.ntmps31
 go_upto_region 1 with fail
 rw [←hw1];clear hw1;obtain ⟨ba,hba⟩:∃ba,ba=w.heap.size:=⟨_,rfl⟩;rw [←hba] at HA HB ⊢;have HWA:Hid (w.heap.size≤ba):=by show _≤_;omega
 clear hba;obtain ⟨bb,hbb⟩:∃bb,bb=ba+1:=⟨_,rfl⟩;have HBB:Hid (bb=ba+1):=hbb;rw [←hbb] at HB ⊢;clear hbb;have HBW:Hid (bb<w1.heap.size):=lt_of_heap HB.out;go_cut [3] (fun c wc=>∃nb ui um,c=.pointer (some ⟨nb,0,none⟩)∧w1.heap.size≤nb∧wc.heap[nb]?=some (.cells #[.int .i64 lv,ui,.slice none 0 0,um,.int .i64 er,.int .i64 tot,.bool neg,.string (bs mg)] 68 (0,0))∧kPart.Own w1.heap.size wc ui pis∧kMove.Own w1.heap.size wc um pms∧(∀g,ui.ownBlock=some g→g≠nb)∧(∀g,um.ownBlock=some g→g≠nb)∧Upd noBlk w1 wc)
 case first=>
  refine wp_region_tree 24 (OT.sures [0,2,5,8,10,12,14,16,1,3,6,9,11,13,15,17,18,19,20,21] (.fork 4 (.fork 7 (.sure 22 (.run 23 .nil)) 23 (.run 7 (.sure 22 .nil))) 23 (.run 4 (.run 7 (.sure 22 .nil))))) (fun w'=>Upd noBlk w1 w') (by kernel_rfl) (by kernel_rfl) (fun c a d v w h=>by cases d<;>exact h) ((Upd.refl noBlk w1).drew) ?_
  simp only [OT.sures]
  iterate 20 (apply wpT_sure rfl rfl;focus (intro w' hw';obtain ⟨a0,a1,a2,a3,a4,a5,a6,a7⟩:=cells8 (hw'.heap HA.out id);have h1:=HMN.out;have h2:=HMZ.out;have h3:=HME.out;have h4:=HS64.out;go_simp;rfl))
  refine wpT_fork (fun w'=>Upd noBlk w1 w') (fun w'=>Upd noBlk w1 w') (fun _ h=>h) (fun _ h=>h) rfl rfl (fun K' hK=>?_) (fun K' hK=>?_)
  ·skip
   go_simp
   refine (HPI.out _ (HU.out.trans (Upd.refl noBlk w1).drew)).mono ?_;rintro e zi ⟨ui,rfl,hoi,uzi⟩;obtain ⟨Ai,ci,rfl,_⟩:=hoi.form;have VI:=Lib.hid ((Upd.refl noBlk w1).drew.trans uzi);have HOI:=Lib.hid (hoi.mono (base':=w1.heap.size) (Upd.size (Upd.refl noBlk w1).drew));refine hK _ _ ⟨VI.out,?_⟩;clear hK K' uzi hoi;refine wpT_fork (fun w'=>Upd noBlk w1 w') (fun w'=>Upd noBlk w1 w') (fun _ h=>h) (fun _ h=>h) rfl rfl (fun K' hK=>?_) (fun K' hK=>?_)
   ·skip
    go_simp
    refine (HMO.out _ (HU.out.trans VI.out)).mono ?_;rintro e zm ⟨um,rfl,hom,uzm⟩;obtain ⟨Am,cm,rfl,_⟩:=hom.form;have VM:=Lib.hid (VI.out.trans uzm);have HOM:=Lib.hid (hom.mono (base':=w1.heap.size) (Upd.size VI.out));have HOI2:=Lib.hid (HOI.out.upd uzm);refine hK _ _ ⟨VM.out,?_⟩;clear hK K' uzm hom HOI
    (apply wpT_sure rfl rfl;focus (intro w' hw';go_simp;rfl))
    refine wpT_run (fun w'=>Upd noBlk w1 w') (fun _ h=>h) rfl (fun K' hK=>?_);go_simp
    have HN:Hid ((zm.alloc (.cells #[.int .i64 0,.slice none 0 0,.slice none 0 0,.slice none 0 0,.int .i64 0,.int .i64 0,.bool false,.string ⟨#[]⟩] 68)).heap[zm.heap.size]?=some (.cells #[.int .i64 0,.slice none 0 0,.slice none 0 0,.slice none 0 0,.int .i64 0,.int .i64 0,.bool false,.string ⟨#[]⟩] 68 (0,0))):=heap_alloc_new zm _;have hal:=(Upd.refl noBlk zm).alloc (.cells #[.int .i64 0,.slice none 0 0,.slice none 0 0,.slice none 0 0,.int .i64 0,.int .i64 0,.bool false,.string ⟨#[]⟩] 68);have HV:=Lib.hid (VM.out.trans hal);have HOIF:=Lib.hid (HOI2.out.upd hal);have HOMF:=Lib.hid (HOM.out.upd hal);have HDI:Hid (∀g,(Value.slice Ai pis.length ci).ownBlock=some g→g≠zm.heap.size):=fun g hg e=>by have:=(HOI2.out.lt g hg).2;omega
    have HDM:Hid (∀g,(Value.slice Am pms.length cm).ownBlock=some g→g≠zm.heap.size):=fun g hg e=>by have:=(HOM.out.lt g hg).2;omega
    have HNB:Hid (w1.heap.size≤zm.heap.size):=VM.out.size;refine hK _ _ ⟨HV.out,?_⟩;clear hK K' hal HOI2 HOM VM VI;generalize zm.alloc (.cells #[.int .i64 0,.slice none 0 0,.slice none 0 0,.slice none 0 0,.int .i64 0,.int .i64 0,.bool false,.string ⟨#[]⟩] 68)=z3 at *;generalize zm.heap.size=nb at *;refine wpT_nil ?_;obtain ⟨_,⟨f0,f1,f2,f3,f4,f5,f6,f7⟩⟩:=cellsF8 HN.out;go_wp2_with fail
    go_meet
    obtain ⟨hz,hset⟩:=set8 (y0:=.int .i64 lv) (y1:=.slice Ai pis.length ci) (y2:=.slice none 0 0) (y3:=.slice Am pms.length cm) (y4:=.int .i64 er) (y5:=.int .i64 tot) (y6:=.bool neg) (y7:=.string (bs mg)) HN.out;exact ⟨_,_,_,rfl,HNB.out,hz,HOIF.out.other hset (fun g hg e=>HDI.out g hg e),HOMF.out.other hset (fun g hg e=>HDM.out g hg e),HDI.out,HDM.out,upd_newE HV.out hset HNB.out⟩
   ·skip
    go_simp
    have hn0:(zi.alloc (.cells #[.int .i64 0,.slice none 0 0,.slice none 0 0,.slice none 0 0,.int .i64 0,.int .i64 0,.bool false,.string ⟨#[]⟩] 68)).heap[zi.heap.size]?=some (.cells #[.int .i64 0,.slice none 0 0,.slice none 0 0,.slice none 0 0,.int .i64 0,.int .i64 0,.bool false,.string ⟨#[]⟩] 68 (0,0)):=heap_alloc_new zi _;have hal:=(Upd.refl noBlk zi).alloc (.cells #[.int .i64 0,.slice none 0 0,.slice none 0 0,.slice none 0 0,.int .i64 0,.int .i64 0,.bool false,.string ⟨#[]⟩] 68);have HV0:=Lib.hid (VI.out.trans hal);have HOI0:=Lib.hid (HOI.out.upd hal);have HDI:Hid (∀g,(Value.slice Ai pis.length ci).ownBlock=some g→g≠zi.heap.size):=fun g hg e=>by have:=(HOI.out.lt g hg).2;omega
    have HNB:Hid (w1.heap.size≤zi.heap.size):=VI.out.size;have HNL:Hid (zi.heap.size<(zi.alloc (.cells #[.int .i64 0,.slice none 0 0,.slice none 0 0,.slice none 0 0,.int .i64 0,.int .i64 0,.bool false,.string ⟨#[]⟩] 68)).heap.size):=by show _<_;rw [World.size_alloc];omega
    refine hK _ _ ⟨HV0.out,?_⟩;have HN0:=Lib.hid hn0;clear hK K' hal HOI VI hn0;generalize zi.alloc (.cells #[.int .i64 0,.slice none 0 0,.slice none 0 0,.slice none 0 0,.int .i64 0,.int .i64 0,.bool false,.string ⟨#[]⟩] 68)=z3 at *;generalize zi.heap.size=nb at *;have HOI:=HOI0;refine wpT_run (fun w'=>Upd noBlk w1 w') (fun _ h=>h) rfl (fun K' hK=>?_);go_simp
    refine (HMO.out _ (HU.out.trans HV0.out)).mono ?_;rintro e zm ⟨um,rfl,hom,uzm⟩;obtain ⟨Am,cm,rfl,_⟩:=hom.form;have VM:=Lib.hid (HV0.out.trans uzm);have HOM:=Lib.hid (hom.mono (base':=w1.heap.size) (Upd.size HV0.out));have HOI2:=Lib.hid (HOI.out.upd uzm);have HN:=Lib.hid (uzm.heap HN0.out id);have HV:=VM;have HOIF:=HOI2;have HOMF:=HOM;have HDM:Hid (∀g,(Value.slice Am pms.length cm).ownBlock=some g→g≠nb):=fun g hg e=>by have h1:=(hom.blk hg).1;have:=HNL.out;omega
    refine hK _ _ ⟨VM.out,?_⟩;clear hK K' uzm hom HOI HOI0 HN0 HNL
    (apply wpT_sure rfl rfl;focus (intro w' hw';go_simp;rfl))
    refine wpT_nil ?_;obtain ⟨_,⟨f0,f1,f2,f3,f4,f5,f6,f7⟩⟩:=cellsF8 HN.out;go_wp2_with fail
    go_meet
    obtain ⟨hz,hset⟩:=set8 (y0:=.int .i64 lv) (y1:=.slice Ai pis.length ci) (y2:=.slice none 0 0) (y3:=.slice Am pms.length cm) (y4:=.int .i64 er) (y5:=.int .i64 tot) (y6:=.bool neg) (y7:=.string (bs mg)) HN.out;exact ⟨_,_,_,rfl,HNB.out,hz,HOIF.out.other hset (fun g hg e=>HDI.out g hg e),HOMF.out.other hset (fun g hg e=>HDM.out g hg e),HDI.out,HDM.out,upd_newE HV.out hset HNB.out⟩
  ·skip
   go_simp
   have hn0:(w1.alloc (.cells #[.int .i64 0,.slice none 0 0,.slice none 0 0,.slice none 0 0,.int .i64 0,.int .i64 0,.bool false,.string ⟨#[]⟩] 68)).drew.heap[w1.heap.size]?=some (.cells #[.int .i64 0,.slice none 0 0,.slice none 0 0,.slice none 0 0,.int .i64 0,.int .i64 0,.bool false,.string ⟨#[]⟩] 68 (0,0)):=heap_alloc_new w1 _;have hal:=((Upd.refl noBlk w1).alloc (.cells #[.int .i64 0,.slice none 0 0,.slice none 0 0,.slice none 0 0,.int .i64 0,.int .i64 0,.bool false,.string ⟨#[]⟩] 68)).drew;have HV0:=Lib.hid hal;have HNB0:Hid (w1.heap.size≤w1.heap.size):=Nat.le_refl _;have HNL:Hid (w1.heap.size<(w1.alloc (.cells #[.int .i64 0,.slice none 0 0,.slice none 0 0,.slice none 0 0,.int .i64 0,.int .i64 0,.bool false,.string ⟨#[]⟩] 68)).drew.heap.size):=by show w1.heap.size<(w1.alloc (.cells #[.int .i64 0,.slice none 0 0,.slice none 0 0,.slice none 0 0,.int .i64 0,.int .i64 0,.bool false,.string ⟨#[]⟩] 68)).heap.size;rw [World.size_alloc];omega
   have HN0:=Lib.hid hn0;refine hK _ _ ⟨?_,?_⟩
   ·exact HV0.out
   clear hK K' hal hn0;obtain ⟨nb,hnb⟩:∃nb,nb=w1.heap.size:=⟨_,rfl⟩;have HNB:Hid (w1.heap.size≤nb):=by show _≤_;omega
   rw [←hnb] at HN0 HNL ⊢;clear hnb HNB0;generalize (w1.alloc (.cells #[.int .i64 0,.slice none 0 0,.slice none 0 0,.slice none 0 0,.int .i64 0,.int .i64 0,.bool false,.string ⟨#[]⟩] 68)).drew=z3 at *;refine wpT_run (fun w'=>Upd noBlk w1 w') (fun _ h=>h) rfl (fun K' hK=>?_);go_simp
   refine (HPI.out _ (HU.out.trans HV0.out)).mono ?_;rintro e zi ⟨ui,rfl,hoi,uzi⟩;obtain ⟨Ai,ci,rfl,_⟩:=hoi.form;have VI:=Lib.hid (HV0.out.trans uzi);have HOI:=Lib.hid (hoi.mono (base':=w1.heap.size) (Upd.size HV0.out));have HN1:=Lib.hid (uzi.heap HN0.out id);have HDI:Hid (∀g,(Value.slice Ai pis.length ci).ownBlock=some g→g≠nb):=fun g hg e=>by have h1:=(hoi.blk hg).1;have:=HNL.out;omega
   have HNL2:Hid (nb<zi.heap.size):=by show _<_;have:=HNL.out;have:=uzi.size;omega
   refine hK _ _ ⟨VI.out,?_⟩;clear hK K' uzi hoi HN0 HV0;refine wpT_run (fun w'=>Upd noBlk w1 w') (fun _ h=>h) rfl (fun K' hK=>?_);go_simp
   refine (HMO.out _ (HU.out.trans VI.out)).mono ?_;rintro e zm ⟨um,rfl,hom,uzm⟩;obtain ⟨Am,cm,rfl,_⟩:=hom.form;have VM:=Lib.hid (VI.out.trans uzm);have HOM:=Lib.hid (hom.mono (base':=w1.heap.size) (Upd.size VI.out));have HOI2:=Lib.hid (HOI.out.upd uzm);have HN:=Lib.hid (uzm.heap HN1.out id);have HV:=VM;have HOIF:=HOI2;have HOMF:=HOM;have HDM:Hid (∀g,(Value.slice Am pms.length cm).ownBlock=some g→g≠nb):=fun g hg e=>by have h1:=(hom.blk hg).1;have:=HNL2.out;omega
   refine hK _ _ ⟨VM.out,?_⟩;clear hK K' uzm hom HOI HN1 HNL HNL2
   (apply wpT_sure rfl rfl;focus (intro w' hw';go_simp;rfl))
   refine wpT_nil ?_;obtain ⟨_,⟨f0,f1,f2,f3,f4,f5,f6,f7⟩⟩:=cellsF8 HN.out;go_wp2_with fail
   go_meet
   obtain ⟨hz,hset⟩:=set8 (y0:=.int .i64 lv) (y1:=.slice Ai pis.length ci) (y2:=.slice none 0 0) (y3:=.slice Am pms.length cm) (y4:=.int .i64 er) (y5:=.int .i64 tot) (y6:=.bool neg) (y7:=.string (bs mg)) HN.out;exact ⟨_,_,_,rfl,HNB.out,hz,HOIF.out.other hset (fun g hg e=>HDI.out g hg e),HOMF.out.other hset (fun g hg e=>HDM.out g hg e),HDI.out,HDM.out,upd_newE HV.out hset HNB.out⟩
 case rest=>
  obtain ⟨nb,ui,um,rfl,hnb,hb,hoi,hom,hdi,hdm,hu⟩:=hcut;obtain ⟨Ai,ci,rfl,_⟩:=hoi.form;obtain ⟨Am,cm,rfl,_⟩:=hom.form;have HNB:Hid (w1.heap.size≤nb):=hnb;have HPO2:=Lib.hid (HPO.out wc (HU.out.trans hu));have HOI:=Lib.hid hoi;have HOM:=Lib.hid hom;have HDI:Hid (∀g,(Value.slice Ai pis.length ci).ownBlock=some g→g≠nb):=hdi;have HDM:Hid (∀g,(Value.slice Am pms.length cm).ownBlock=some g→g≠nb):=hdm;have HUC:=Lib.hid (HU.out.trans hu);have HN:=Lib.hid hb;have HB2:=Lib.hid (hu.heap HB.out id);obtain ⟨a0,a1,a2,a3,a4,a5,a6,a7⟩:=cells8 (hu.heap HA.out id);clear hu hb hoi hom hdi hdm hnb HPO HPI HMO HB HME HMN HMZ HS64;go_wp2_with fail
  refine HPO2.out.mono ?_;rintro e w2 ⟨v,rfl,ho,u2⟩;obtain ⟨Ap,cp,rfl,_⟩:=ho.form;have HNC:Hid (nb<wc.heap.size):=lt_of_heap HN.out;have HNW:Hid (nb<w2.heap.size):=Nat.lt_of_lt_of_le (lt_of_heap HN.out) u2.size;have HXP:=Lib.hid ho;have HOI2:=Lib.hid (HOI.out.upd u2);have HOM2:=Lib.hid (HOM.out.upd u2);have HN2:=Lib.hid (u2.heap HN.out id);have HU2:=Lib.hid (HUC.out.trans u2);have HB3:=Lib.hid (u2.heap HB2.out id);clear ho u2 HPO2 HOI HOM HN HUC HB2 a0 a1 a2 a3 a4 a5 a6 a7;have hpl:(pos.length:Int)≤10:=by have:=HL2.out;omega
  go_wp2_with fail
  go_loopw [33] (fun i wr=>∃k:Nat,i=.int .i64 k∧k≤pos.length∧(∃uo,wr.heap[nb]?=some (.cells #[.int .i64 lv,.slice Ai pis.length ci,uo,.slice Am pms.length cm,.int .i64 er,.int .i64 tot,.bool neg,.string (bs mg)] 68 (0,0))∧kHash.Own w2.heap.size wr uo ((pos.take k).map (·.1)))∧Upd (fun b=>b=nb) w2 wr) (fun i _=>pos.length-(intOf i).toNat)
  case atStart=>exact ⟨0,rfl,Nat.zero_le _,⟨_,HN2.out,Kd.Own.nil _ _ _⟩,Upd.refl _ _⟩
  case round=>
   obtain ⟨k,rfl,hk,⟨uo,hb,ho⟩,hu⟩:=hrel;have HN3:=Lib.hid hb;have HO:=Lib.hid ho;have HU3:=Lib.hid hu;obtain ⟨Ao,co,hform,_⟩:=ho.form;have hlk:((pos.take k).map (·.1)).length=k:=by rw [List.length_map,List.length_take];omega
   rw [hlk] at hform;subst hform;have HLK:=Lib.hid hlk;clear hb ho hu hlk;by_cases hlt:k<pos.length
   ·have hlt':(k:Int)<(pos.length:Int):=by omega
    have HK:Hid (k<pos.length):=hlt;obtain ⟨A',cap',e',_,hx⟩:=(HXP.out.fresh HU3.out HNC.out).rd;cases e';obtain ⟨b,off,rfl,f1⟩:=hx (by omega);have hat:=f1 k hlt;have hk64:kPart.k=64:=rfl;rw [hk64] at hat;have HAT:=Lib.hid hat;have HTK:Hid ((pos.take (k+1)).map (·.1)=(pos.take k).map (·.1)++[(pos[k]).1]):=by
     show _=_;rw [List.take_succ_eq_append_getElem hlt,List.map_append];rfl
    clear f1 hat hk64 hx;generalize pos[k]=pk at *;clear hlt;have HI:Hid ((Tryz.prog.info? 83).map (·.size)=some (partC pk).length):=by show _=_;rw [partC_len];kernel_rfl
    have HST:∀c:Array Value,c.size=64→(storeCells ⟨wr.heap.size,0,none⟩ (partC pk) 0).run Tryz.prog (wr.alloc (.cells c 83))=.ok () (wr.alloc (.cells (partC pk).toArray 83)):=fun c hc=>by
     have:=run_storeCells_new (P:=Tryz.prog) wr 83 c (partC pk).toArray (by simpa using HI.out) (by simp [hc,partC_len]) (all_oneCell_toArray (partC_one pk));simpa using this
    have hlen:=partC_len pk;go_upto_region 5 with (first | (refine wpList_load_mid rfl _ _ rfl b (off+k*64) rfl (partC pk) _ HAT.out Tryz.underlying83 rfl HI.out ?_))
    clear HST HAT HI hlen;have HR1:Hid (kPart.At (wr.alloc (.cells (partC pk).toArray 83)) wr.heap.size 0 pk):=by
     show World.rangeAt _ _ _ _;intro j v hv;rw [Nat.zero_add,cell_of_row _ _ j (partC pk).toArray 83 (0,0) (heap_alloc_last wr _)];have hv':(partC pk)[j]?=some v:=hv;simpa using hv'
    have hal:=(Upd.refl noBlk wr).alloc (.cells (partC pk).toArray 83);have HU4:=Lib.hid (HU3.out.alloc (.cells (partC pk).toArray 83));have HN4:=Lib.hid (hal.heap HN3.out id);have HO4:=Lib.hid (HO.out.upd hal);clear hal HN3 HO HU3;generalize wr.heap.size=pb at *;generalize wr.alloc (.cells (partC pk).toArray 83)=wa at *;obtain ⟨ra,rb⟩:=part_ranges HR1.out;have RA:=Lib.hid ra;clear ra rb HR1;obtain ⟨g,cap2,w4,hrun,ho4,hu4,hat4⟩:=HO4.out.app1 HU4.out.size pk.1 (by rw [HLK.out];have:=HK.out;have:=HL2.out;omega);rw [HLK.out] at hrun ho4;rw [←HTK.out] at ho4;have HRUN:=Lib.hid hrun;have HO5:=Lib.hid ho4;have HGE:Hid (∀i,(Value.slice Ao k co).ownBlock=some i→w2.heap.size≤i):=fun i e=>(HO4.out.blk e).1;have HU5:=Lib.hid (HU4.out.then hu4 (fun i hi e=>absurd hi (by have:=HGE.out i e;omega)));have HN5:=Lib.hid (hu4.heap HN4.out (fun e=>by have:=HGE.out nb e;have:=HNW.out;omega));have HSZ:Hid ((sizeOf 81).run Tryz.prog wa=.ok 32 wa):=by show _=_;kernel_rfl
    have HZ:Hid ((zeroValue 81).run Tryz.prog wa=.ok (.agg (Array.replicate 32 (.int .u8 0))) wa):=by show _=_;kernel_rfl
    have HIH:=Lib.hid (size_hash pk.1);have HLH:Hid ((byV pk.1.1).length=32):=by show _=_;rw [byV_len,pk.1.2]
    clear hrun ho4 hu4 HU4 HO4;obtain ⟨⟨a0,a1,a2,a3,a4,a5,a6,a7⟩,_⟩:=cellsF8 HN4.out;obtain ⟨⟨b0,b1,b2,b3,b4,b5,b6,b7⟩,⟨f0,f1,f2,f3,f4,f5,f6,f7⟩⟩:=cellsF8 HN5.out;go_wp2_with (first | (refine wpList_load_mid rfl _ _ rfl pb 0 rfl (byV pk.1.1) _ RA.out Tryz.underlying81 rfl HIH.out ?_) | (refine wpList_val rfl (.slice (some ⟨wa.heap.size,0,none⟩) 1 1) (wa.alloc (.cells (byV pk.1.1).toArray 81)) (exec_build1 wa _ (byV pk.1.1) Tryz.underlying63 HSZ.out HZ.out (by decide) (by decide) HLH.out rfl rfl) ?_) | (at_builtin;refine wpList_append_run rfl _ _ _ rfl rfl rfl HRUN.out ?_))
    have s2:=heap_setCell_eq (i:=2) (.slice (some ⟨g,0,none⟩) (k+1) cap2) HN5.out;have hset:=(Upd.refl (fun b=>b=nb) w4).setCell (p:=⟨nb,2,none⟩) (fun _=>rfl) (.slice (some ⟨g,0,none⟩) (k+1) cap2);exact ⟨⟨k+1,by push_cast;rfl,HK.out,⟨_,s2,HO5.out.fresh hset HNW.out⟩,HU5.out.trans hset⟩,by simp only [intOf];have:=HK.out;omega⟩
   ·obtain rfl:k=pos.length:=by omega
    rw [List.take_length] at HO;have HBR:=Lib.hid (HU3.out.heap HB3.out (fun e=>by have e':bb=nb:=e;have:=HNB.out;have:=HBW.out;omega));have HOI3:=Lib.hid (HOI2.out.other HU3.out (fun g hg e=>HDI.out g hg e));have HOM3:=Lib.hid (HOM2.out.other HU3.out (fun g hg e=>HDM.out g hg e));have HUW:=Lib.hid (upd_newE HU2.out HU3.out (by have:=HNB.out;have h1:w.heap.size≤w1.heap.size:=HU.out.size;omega));have HSW:Hid (w.heap.size≤w1.heap.size∧w.heap.size≤w2.heap.size∧bb<w2.heap.size∧w.heap.size≤bb):=⟨HU.out.size,HU2.out.size,lt_of_heap HB3.out,by have:=HWA.out;have:=HBB.out;omega⟩;clear HU3 HB3 HOI2 HOM2 HXP HLK;obtain ⟨⟨a0,a1,a2,a3,a4,a5,a6,a7⟩,_⟩:=cellsF8 HN3.out;obtain ⟨_,⟨f0,f1,f2,f3,f4,f5,f6,f7⟩⟩:=cellsF8 HBR.out;go_wp2_with fail
    obtain ⟨hz,hset⟩:=set8 (y0:=.int .i64 lv) (y1:=.slice Ai pis.length ci) (y2:=.slice Ao pos.length co) (y3:=.slice Am pms.length cm) (y4:=.int .i64 er) (y5:=.int .i64 tot) (y6:=.bool neg) (y7:=.string (bs mg)) HBR.out
    (try simp only [Exit.inBlock,Exit.then])
    refine bodyPost_ret (results_cell_row rfl _ _ bb 68 _ (0,0) _ rfl hz Tryz.underlying68 rfl (by kernel_rfl)) rfl ?_;have hs:=HSW.out;exact ⟨_,_,_,rfl,(HOI3.out.fresh hset HBW.out).mono hs.1,(HO.out.fresh hset hs.2.2.1).mono hs.2.1,(HOM3.out.fresh hset HBW.out).mono hs.1,upd_newE HUW.out hset hs.2.2.2⟩
end Go.Proofs.YtcikldoaidmnhaaGreatDoor
