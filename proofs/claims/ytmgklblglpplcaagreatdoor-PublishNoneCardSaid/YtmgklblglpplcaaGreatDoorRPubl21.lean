/- Parts: Rows of bytes that a string was turned into: appended to. No condition. The maps of the versions: keyed by hashes. No condition. The walk of one function's own activations, where its body holds a range over a function whose rounds may panic. No condition. Walks: strings.TrimRight at one zero byte, the coder's Finish. -/
import Derived.Test.YtmgklblglpplcaaGreatDoorRPubl1
import Derived.Test.YtmgklblglpplcaaGreatDoorRPubl2
import Derived.Test.YtmgklblglpplcaaGreatDoorRPubl3
import Derived.Test.YtmgklblglpplcaaGreatDoorRPubl5
import Derived.Test.YtmgklblglpplcaaGreatDoorRPubl6
import Derived.Test.YtmgklblglpplcaaGreatDoorRPubl9
import Derived.Test.YtmgklblglpplcaaGreatDoorRPubl10
import Derived.Test.YtmgklblglpplcaaGreatDoorRPubl12
import Derived.Test.YtmgklblglpplcaaGreatDoorRPubl14
import Derived.Test.YtmgklblglpplcaaGreatDoorRPubl16
import Derived.Test.YtmgklblglpplcaaGreatDoorRPubl19
import Derived.WalkKit
import Derived.WalkSpells
import Derived.WalkLawsBesides
import Derived.Lib.Hide
import Derived.BigQuiet
import Derived.Deep.DeepFit
import Derived.Deep.DeepCutAuto
import Derived.Deep.AppendLies
import Derived.Deep.QuietTactic
import Derived.Test.YtmgklblglpplcaaGreatDoorRows
import Derived.Deep.RegionHeld3
import Derived.StillTail
import Derived.Lib.AppendStr
import Derived.Lib.AppendZeros
import Derived.Deep.MidRow
import Derived.ArgAppend
import Derived.Deep.Upon
import Derived.Maps.OwnOps
import Derived.Maps.OwnSet
import Derived.Maps.RangeWalk
import Derived.WideKeyEntry
import Derived.Lib.Bits
import Derived.Laws.EntriesVeiled
import Derived.Handy
import Derived.DeepKeys4
import Derived.Deep.CutBlock
import Derived.Test.YtmgklblglpplcaaGreatDoorShelf2
import Derived.Laws.BitsAllLaws
import Derived.Laws.BytesArg
import Derived.RangeFuncNested
import Derived.RangeFuncBound
import Derived.RangeFuncCalls
import Derived.RangeFuncLeaves
import Derived.RangeFuncFrom
namespace Go.Proofs.YtmgklblglpplcaaGreatDoor
open Go Go.RowKit Pk
set_option maxRecDepth 100000
structure RowB (w:World) (base g cap:Nat) (l:Bytes):Prop where
 low:base≤g
 fits:l.length≤cap
 at_:w.rangeAt g 0 (byV l)
 there:∀j,j<cap→(w.cell? ⟨g,j,none⟩).isSome=true
 free:∀j,j<cap→w.frozen? ⟨g,j,none⟩=false
theorem RowB.upd {w w':World} {base g cap:Nat} {l:Bytes} (h:RowB w base g cap l) {F:Nat→Prop} (hu:Upd F w w') (hF:¬F g) (hg:g<w.heap.size):RowB w' base g cap l:=by
 have hb:=hu.block g hg hF;exact ⟨h.low,h.fits,fun j v hv=>(World.cell?_of_block hb).trans (h.at_ j v hv),fun j hj=>by rw [World.cell?_of_block (a:=⟨g,j,none⟩) hb];exact h.there j hj,fun j hj=>(World.frozen?_of_block (a:=⟨g,j,none⟩) hb).trans (h.free j hj)⟩
theorem RowB.ofOwn {w:World} {base n:Nat} {v:Value} {l:Bytes} (h:w.ownsRow base 5 1 v n (byV l)) (hv:v≠.slice none 0 0):∃g cap,v=.slice (some ⟨g,0,none⟩) l.length cap∧RowB w base g cap l∧g<w.heap.size:=by
 have hn:l.length=n:=by have:=h.1;rw [byV_len] at this;omega
 rcases h.2 with ⟨e,_⟩ | ⟨g,cap,cur,rfl,h1,h2,h3,_,h5,h6⟩
 ·exact absurd e hv
 ·refine ⟨g,cap,by rw [hn],⟨h1,by omega,fun j u hu=>?_,fun j hj=>?_,fun j _=>?_⟩,lt_of_heap h2⟩
  ·rw [Nat.zero_add,cell_of_row _ _ j _ 5 (0,0) h2];rw [←h6] at hu;rw [List.getElem?_take] at hu;split at hu
   ·simpa using hu
   ·cases hu
  ·rw [cell_of_row _ _ j _ 5 (0,0) h2];simp;omega
  ·simp [World.frozen?,h2]
theorem RowB.stored {w:World} {base g cap:Nat} {l:Bytes} (h:RowB w base g cap l) (s:Bytes) (hs:l.length+s.length≤cap):RowB (w.setCells g l.length (byV s)) base g cap (l++s):=by
 have hth:w.there g l.length (byV s).length:=fun j hj=>⟨h.there _ (by rw [byV_len] at hj;omega),h.free _ (by rw [byV_len] at hj;omega)⟩;have e:byV (l++s)=byV l++byV s:=by simp [byV]
 refine ⟨h.low,by rw [List.length_append];exact hs,?_,fun j hj=>World.isSome_setCells g (byV s) l.length w ⟨g,j,none⟩ (h.there j hj),fun j hj=>(World.frozen?_setCells g (byV s) l.length w ⟨g,j,none⟩).trans (h.free j hj)⟩;rw [e];have h1:=World.rangeAt_setCells_apart h.at_ g l.length (byV s) (.inr (.inl (by rw [byV_len];omega)));have h2:=World.rangeAt_setCells_same w g l.length (byV s) hth;intro j v hv;by_cases hj:j<(byV l).length
 ·rw [List.getElem?_append_left hj] at hv;exact h1 j v hv
 ·rw [List.getElem?_append_right (by omega)] at hv;have:=h2 _ v hv;rw [byV_len] at this hj;rwa [show 0+j=l.length+(j-l.length) by omega]
theorem RowB.app {w:World} {base g cap:Nat} {l:Bytes} (h:RowB w base g cap l) (hb:base≤w.heap.size) (hg:g<w.heap.size) {a:Addr} {c:Nat} (s:Bytes) (hs:∀j u,(byV s)[j]?=some u→w.cell? (a.add j)=some u) (h47:l.length+s.length≤140737488355328) :
  ∃g' cap' w',(Builtin.append_ #[48,48] 48 #[.slice (some ⟨g,0,none⟩) l.length cap,.slice (some a) s.length c]).run Tryz.prog w=.ok (.slice (some ⟨g',0,none⟩) (l++s).length cap') w'∧RowB w' base g' cap' (l++s)∧Upd (fun k=>k=g) w w'∧g'<w'.heap.size:=by
 obtain ⟨i0,hi0,hz0,hz1,hz2⟩:=info_parts info_u8;by_cases hroom:l.length+s.length≤cap
 ·have hr:=run_append_room_cells (P:=Tryz.prog) (w:=w) 48 48 5 i0 Tryz.underlying48 hi0 g 0 l.length cap a s.length c (byV s) (by rw [byV_len,hz1,Nat.mul_one]) hs (byV_one s) hroom
   (fun j hj=>by rw [hz1,Nat.mul_one,Nat.zero_add];exact h.there _ (by rw [byV_len] at hj;omega)) (fun j hj=>by rw [hz1,Nat.mul_one,Nat.zero_add];exact h.free _ (by rw [byV_len] at hj;omega))
  rw [hz1,Nat.mul_one,Nat.zero_add] at hr;refine ⟨g,cap,_,by rw [List.length_append];exact hr,h.stored s hroom,setCells_upd _ _ _,?_⟩;have:=(setCells_upd (g:=g) (byV s) l.length w).size;omega
 ·obtain ⟨v',w',hr,ho,hgr⟩:=run_append_arg_grows (P:=Tryz.prog) (w:=w) 48 48 5 i0 _ 1 1 Tryz.underlying48 hi0 hz0 hz1 hz2 rfl (by omega) ⟨g,0,none⟩ l.length cap (byV l) (by rw [byV_len,Nat.mul_one]) (fun j u hu=>by rw [Addr.add_mid];exact h.at_ j u hu) a s.length c (byV s) (by rw [byV_len,Nat.mul_one]) hs (by omega) (by unfold maxLen;omega) (by omega);have e:byV (l++s)=byV l++byV s:=by simp [byV]
  rw [←e] at ho;obtain ⟨g',cap',rfl,hB,hlt⟩:=RowB.ofOwn ho (by
   rintro rfl;rcases ho.2 with ⟨_,hz⟩ | ⟨_,_,_,hz,_⟩
   ·omega
   ·cases hz)
  exact ⟨g',cap',w',hr,⟨Nat.le_trans hb hB.low,hB.fits,hB.at_,hB.there,hB.free⟩,upd_of_grown hgr (fun j hj _=>by cases hj),hlt⟩
theorem RowB.appS {w:World} {base g cap:Nat} {l:Bytes} (h:RowB w base g cap l) (hb:base≤w.heap.size) (hg:g<w.heap.size) (s:Bytes) (h47:l.length+s.length≤140737488355328) :
  ∃g' cap' w',(Builtin.append_ #[48,9] 48 #[.slice (some ⟨g,0,none⟩) l.length cap,.string (bs s)]).run Tryz.prog w=.ok (.slice (some ⟨g',0,none⟩) (l++s).length cap') w'∧RowB w' base g' cap' (l++s)∧Upd (fun k=>k=g) w w'∧g'<w'.heap.size:=by
 obtain ⟨i0,hi0,hz0,hz1,hz2⟩:=info_parts info_u8;have hsz:(bs s).size=s.length:=bs_size s;by_cases hroom:l.length+s.length≤cap
 ·have hst:=run_storeCells_cells (P:=Tryz.prog) g l.length (byV s) 0 w (fun j hj=>by rw [Nat.add_zero];exact h.there _ (by rw [byV_len] at hj;omega)) (fun j hj=>by rw [Nat.add_zero];exact h.free _ (by rw [byV_len] at hj;omega)) (byV_one s);rw [Nat.add_zero] at hst;have hfc:=Lib.run_firstCells_string (P:=Tryz.prog) (w:=w) 1 (bs s);rw [strCells_bs,hsz] at hfc;refine ⟨g,cap,w.setCells g l.length (byV s),?_,h.stored s hroom,setCells_upd _ _ _,?_⟩
  ·rw [List.length_append];simp [Builtin.append_,run_underlying Tryz.underlying48,run_underlying Tryz.underlying9,sizeOf,typeInfo,hi0,hz1,Builtin.lenOf,hsz,hroom,hfc,Addr.add_mid,hst]
  ·have:=(setCells_upd (g:=g) (byV s) l.length w).size;omega
 ·have hr:=Lib.run_append_grow_string (P:=Tryz.prog) w 48 9 48 5 i0 _ Tryz.underlying48 Tryz.underlying9 hi0 hz0 ⟨g,0,none⟩ l.length cap (byV l) (by rw [byV_len,hz1,Nat.mul_one]) (fun j u hu=>by rw [Addr.add_mid];exact h.at_ j u hu) (bs s) (by rw [hsz];omega) (by rw [hsz];omega) (by rw [hz2,hsz];exact growslice_fits (by omega) (by omega));rw [hsz,strCells_bs] at hr;have hge:=grownCap_ge w (l.length+s.length) cap 5;have hcm:grownCap w (l.length+s.length) cap 5≤maxLen:=grownCap_le_maxLen w (l.length+s.length) cap 5 (by unfold maxLen;omega);have e:byV (l++s)=byV l++byV s:=by simp [byV]
  obtain ⟨C,hC⟩:∃C,C=grownCap w (l.length+s.length) cap 5:=⟨_,rfl⟩;rw [←hC] at hr hge hcm;have ho:(w.drew.alloc (.cells ((byV l).toArray++(byV s).toArray++Builtin.zeroCells (Value.int .u8 0).cells (C-(l.length+s.length))) 5)).ownsRow base 5 1 (.slice (some ⟨w.heap.size,0,none⟩) (l.length+s.length) C) (l.length+s.length) (byV (l++s)):=by
   refine ⟨by rw [byV_len,List.length_append,Nat.mul_one],.inr ⟨w.heap.size,C,_,rfl,hb,heap_alloc_new w.drew _,hge,hcm,?_,?_⟩⟩
   ·have hz1:(Value.int IntKind.u8 0).cells.size=1:=rfl;simp only [Array.size_append,List.size_toArray,size_zeroCells,hz1,byV_len];omega
   ·simp only [Array.toList_append];rw [←e,Nat.mul_one];have hl2:l.length+s.length=(byV (l++s)).length:=by rw [byV_len,List.length_append]
    rw [hl2];exact List.take_left
  obtain ⟨g',cap',he,hB,hlt⟩:=RowB.ofOwn ho (by rintro ⟨⟩);have e1:w.heap.size=g':=by injection he with h1 _ _;injection h1 with h1;injection h1
  have e2:C=cap':=by injection he
  rw [←e1,←e2] at hB;rw [←e1] at hlt;exact ⟨w.heap.size,C,_,by rw [List.length_append];exact hr,hB,⟨rfl,rfl,rfl,by simp,fun k hk _=>_root_.Go.heap_alloc_old w.drew _ hk⟩,hlt⟩
end Go.Proofs.YtmgklblglpplcaaGreatDoor
namespace Go.Proofs.YtmgklblglpplcaaGreatDoor
open Go Go.RowKit Pc
set_option maxRecDepth 100000
theorem snoc_cases {α:Type} (k:List α):k=[]∨∃k0 d,k=k0++[d]:=by
 rcases List.eq_nil_or_concat k with h | ⟨k0,d,h⟩
 ·exact .inl h
 ·exact .inr ⟨k0,d,by rw [h,List.concat_eq_append]⟩
theorem trim_snoc_zero (l:List Nat):trim (l++[0])=trim l:=by simp [trim,trimR]
theorem trim_snoc_ne (l:List Nat) {d:Nat} (h:d≠0):trim (l++[d])=l++[d]:=by simp [trim,trimR,h]
set_option maxHeartbeats 400000 in
theorem trimByte_any (l:List Nat) (hl:∀d,d∈l→d<256) (hlen:l.length≤maxLen) (w:World) :
  Calls Tryz.prog 160 #[.string (str l),.int .u8 0] w fun e w'=>e=.returned (.string (str (trim l)))∧w=w':=by
 unfold maxLen at hlen;go_enter Tryz.func160,Tryz.ntmps160
 go_wp2
 go_loop [0] (fun s=>∃k,s=.string (str k)∧trim k=trim l∧(∀d,d∈k→d<256)∧k.length≤l.length) (fun s=>lenOfV s)
 case atStart=>exact ⟨l,rfl,rfl,hl,Nat.le_refl _⟩
 case round=>
  obtain ⟨k,rfl,h1,h2,h3⟩:=hrel;have hsz:=str_size k;rcases snoc_cases k with rfl | ⟨k0,d,rfl⟩
  ·have h4:Hid (trim l=[]):=h1.symm;clear h1 hl h2 h3;go_wp2
   go_ret
   exact ⟨by rw [h4.out];rfl,rfl⟩
  ·have hsz':(str (k0++[d])).size=k0.length+1:=by rw [str_size];simp
   have hk0:(k0.length:Int)<9223372036854775807:=by simp at h3;omega
   have hix:∀(i:Nat) (h:i<(str (k0++[d])).size),i=k0.length→((str (k0++[d]))[i]'h).toNat=d:=by
    intro i h e;subst e;rw [str_get (by simp) h2];simp
   by_cases hd:d=0
   ·subst hd;have H1:Hid (trim k0=trim l):=by show _=_;rw [←h1,trim_snoc_zero]
    have hq:(str (k0++[0])).extract 0 k0.length=str k0:=by rw [str_extract];simp
    have H2:Hid (∀d,d∈k0→d<256):=fun d hd=>h2 d (by simp [hd]);have h4:k0.length≤l.length:=by simp at h3;omega
    clear hl h1 h2 h3 hsz;go_wp2
    go_round
    case rel=>exact ⟨k0,rfl,H1.out,H2.out,h4⟩
    case measure=>simp [lenOfV,str_size]
   ·have hq:((d:Int) == 0)=false:=by rw [beq_eq_false_iff_ne];omega
    have H1:Hid (trim l=k0++[d]):=by show _=_;rw [←h1,trim_snoc_ne _ hd]
    clear hl h1 h2 h3 hsz;go_wp2
    go_ret
    exact ⟨by rw [H1.out];rfl,rfl⟩
set_option maxHeartbeats 400000 in
theorem trimRight_any (l:List Nat) (hl:∀d,d∈l→d<256) (hlen:l.length≤maxLen) (w:World) :
  Calls Tryz.prog 144 #[.string (str l),.string ⟨#[0]⟩] w fun e w'=>e=.returned (.string (str (trim l)))∧w=w':=by
 rcases l with _ | ⟨x,l⟩
 ·have hs0:(str []).toList=[]:=str_toList _;go_enter Tryz.func144,Tryz.ntmps144
  go_wp2
  go_ret
  exact ⟨rfl,rfl⟩
 ·have hs0:(str (x :: l)).toList=UInt8.ofNat x :: l.map UInt8.ofNat:=str_toList _;have hq:(⟨#[0]⟩:ByteArray).size=1:=rfl;go_enter Tryz.func144,Tryz.ntmps144
  go_wp2_with fail
  refine (trimByte_any _ hl hlen _).mono ?_;rintro e w' ⟨rfl,rfl⟩;go_wp2
  go_ret
  exact ⟨rfl,rfl⟩
theorem WRep.reads {w:World} {b:Nat} {e:E} {F:Nat→Prop} (h:WRep w b e F):∃dv,w.cell? ⟨b,1+1,none⟩=some dv∧w.cell? ⟨b,3,none⟩=some (.int .u32 e.low) ∧
  w.ownsRow 0 5 1 dv e.done.length (e.done.map byteV):=by
 rcases h with ⟨rfl,h2,rfl⟩ | ⟨wb,dv,h1,rfl⟩
 ·exact ⟨.slice none 0 0,by rw [cell_of_row w b _ _ _ _ h2];rfl,by rw [cell_of_row w b 3 _ _ _ h2];rfl,World.ownsRow_nil _ _ _ _⟩
 ·exact ⟨dv,by rw [cell_of_row w b _ _ _ _ h1.blk];rfl,by rw [cell_of_row w b 3 _ _ _ h1.blk];rfl,h1.own⟩
theorem byteV_one (l:List Nat):∀u∈l.map byteV,u.oneCell'=true:=by
 intro u hu;obtain ⟨d,_,rfl⟩:=List.mem_map.1 hu;rfl
set_option maxHeartbeats 1000000 in
theorem WFinish_any (b:Nat) (e:E) (F:Nat→Prop) (w:World) (h:WRep w b e F) (hlen:e.done.length+1≤1000000) :
  Calls Tryz.prog 103 #[.pointer (some ⟨b,0,none⟩)] w fun en w'=>en=.returned (.string (str e.finish))∧Upd noBlk w w':=by
 obtain ⟨dv,hc2,hc3,hown⟩:=h.reads;have he:=h.wf;have hlow:(e.low:Int)<4294967296:=by have:=he.low;omega
 obtain ⟨i0,hi0,hz0,hz1,hz2⟩:=info_parts info_u8;have m1:Hid (e.done.length≤maxLen):=by show _≤_;unfold maxLen;omega
 have m2:Hid (e.done.length+1≤maxLen):=by show _≤_;unfold maxLen;omega
 have b1:Hid ((e.done.length+1)*1≤140737488355328):=by show _≤_;omega
 obtain ⟨v1,w1,r1,o1,g1⟩:=append_copy w 48 48 5 i0 _ 1 1 Tryz.underlying48 hi0 hz0 hz1 hz2 rfl (by omega) hown (byteV_one _) m1.out (by omega);have u1:Hid (Upd noBlk w w1):=upd_of_grown g1 (fun k hk=>by simp at hk);have hc3':=g1.cell hc3 (by simp);have R1:=Lib.hid r1;have O1:=Lib.hid o1;have hq:((e.low:Int)+16777216-1) / 16777216=(e.last:Int):=by unfold E.last;omega
 have hlast:Hid (e.last≤256):=by show _≤_;unfold E.last;omega
 have hd:=Lib.hid he.done;clear r1 o1 hown h hlen;by_cases hl:e.last=256
 ·have ht:((e.last:Int) == 256)=true:=by rw [beq_iff_eq];omega
  have HL:=Lib.hid hl;clear hl;go_enter Tryz.func103,Tryz.ntmps103
  go_wp2_with (at_builtin;refine wpList_append_run rfl _ _ _ rfl rfl rfl R1.out ?_)
  refine (carry_v v1 e.done hd.out w1 O1.out m1.out).mono ?_;rintro en w2 ⟨rfl,o2,g2⟩;have hcl:Hid ((carry e.done).length=e.done.length):=carry_length _;have hbase:Hid (w.heap.size≤w2.heap.size):=Nat.le_trans u1.out.size g2.size;obtain ⟨gg,cap,w3,r3,o3,g3,hat,hlt⟩:=append_one w2 48 48 5 i0 _ 1 1 Tryz.underlying48 hi0 hz0 hz1 hz2 rfl (by omega) o2 hbase.out [byteV 0] rfl (byteV_one [0]) m2.out b1.out;have hcv:=conv_own (P:=Tryz.prog) (src:=48) (e:=5) (dst:=9) (l:=carry e.done++[0]) Tryz.underlying48 Tryz.underlying5 Tryz.underlying9 (by rw [List.length_append,hcl.out,List.map_append];exact o3);have hw8:IntKind.u8.wrap (e.last:Int)=0:=by rw [HL.out];rfl
  have R3:=Lib.hid r3;have O3:=Lib.hid o3;have hu:Hid (Upd noBlk w w3):=by
   refine (u1.out.grown g2 (fun k hk hk'=>?_)).then ((upd_of_grown (World.grownBy_alloc w2 _ v1.ownBlock) (F:=inRow v1) (fun k hk _=>hk)).trans (upd_of_grown g3 (fun k hk _=>hk))) (fun k hk hk'=>?_)
   ·have:=(O1.out.lt k hk).1;omega
   ·have:=(O1.out.lt k hk').1;omega
  clear r3 o3 o2 g2 g3;go_wp2_with (at_builtin;refine wpList_append_run rfl _ _ _ rfl rfl rfl R3.out ?_)
  have hfin:Hid (trim (carry e.done++[0])=e.finish):=by show _=_;unfold E.finish;rw [if_pos HL.out]
  have hb8:Hid (∀d,d∈carry e.done++[0]→d<256):=by
   intro d hd';rcases List.mem_append.1 hd' with h | h
   ·exact carry_lt hd.out d h
   ·simp at h;omega
  have hln:Hid ((carry e.done++[0]).length≤maxLen):=by show _≤_;rw [List.length_append,hcl.out];exact m2.out
  clear hcv;refine (trimRight_any _ hb8.out hln.out _).mono ?_;rintro en w4 ⟨rfl,rfl⟩;go_wp2
  go_ret
  exact ⟨by rw [←hfin.out];rfl,hu.out⟩
 ·have ht:((e.last:Int) == 256)=false:=by rw [beq_eq_false_iff_ne];omega
  have HL:=Lib.hid hl;have hl256:e.last<256:=by have:=hlast.out;omega
  obtain ⟨gg,cap,w3,r3,o3,g3,hat,hlt⟩:=append_one w1 48 48 5 i0 _ 1 1 Tryz.underlying48 hi0 hz0 hz1 hz2 rfl (by omega) O1.out u1.out.size [byteV e.last] rfl (byteV_one [e.last]) m2.out b1.out;have hcv:=conv_own (P:=Tryz.prog) (src:=48) (e:=5) (dst:=9) (l:=e.done++[e.last]) Tryz.underlying48 Tryz.underlying5 Tryz.underlying9 (by rw [List.length_append,List.map_append];exact o3);have hw8:IntKind.u8.wrap (e.last:Int)=(e.last:Int):=wrap_u8 (by omega) (by omega);have R3:=Lib.hid r3;have O3:=Lib.hid o3;have hu:Hid (Upd noBlk w w3):=by
   refine u1.out.then ((upd_of_grown (World.grownBy_alloc w1 _ v1.ownBlock) (F:=inRow v1) (fun k hk _=>hk)).trans (upd_of_grown g3 (fun k hk _=>hk))) (fun k hk hk'=>?_);have:=(O1.out.lt k hk').1;omega
  have hfin:Hid (trim (e.done++[e.last])=e.finish):=by show _=_;unfold E.finish;rw [if_neg hl]
  have hb8:Hid (∀d,d∈e.done++[e.last]→d<256):=by
   intro d hd';rcases List.mem_append.1 hd' with h | h
   ·exact hd.out d h
   ·simp at h;omega
  have hln:Hid ((e.done++[e.last]).length≤maxLen):=by show _≤_;rw [List.length_append];exact m2.out
  clear hl r3 o3 g3 hl256;go_enter Tryz.func103,Tryz.ntmps103
  go_wp2_with (first | (at_builtin;refine wpList_append_run rfl _ _ _ rfl rfl rfl R1.out ?_) | (at_builtin;refine wpList_append_run rfl _ _ _ rfl rfl rfl R3.out ?_))
  refine (trimRight_any _ hb8.out hln.out _).mono ?_;rintro en w4 ⟨rfl,rfl⟩;go_wp2
  go_ret
  exact ⟨by rw [←hfin.out];rfl,hu.out⟩
end Go.Proofs.YtmgklblglpplcaaGreatDoor
namespace Go.Proofs.YtmgklblglpplcaaGreatDoor
open Go Go.RowKit Pk
set_option maxRecDepth 100000
theorem laidOutH:laidOutB Tryz.prog=true:=by kernel_rfl
theorem keyedH:Maps.Keyed Tryz.prog 36:=Maps.Keyed.of_law (deep_law_laid laidOutH (m:=10) (by decide) (of_decide_eq_true (by kernel_rfl)) (by kernel_rfl) (by kernel_rfl))
def hashV0 (h:H32):Value:=.agg (hashC h).toArray
def klH (h:H32):Lit:=.string (keyBytes (h.1.map fun c=>Lit.int .u8 c.toNat))
theorem mapM_some {α β:Type} (f:α→Option β) (g:α→β):∀l:List α,(∀a,a∈l→f a=some (g a))→l.mapM f=some (l.map g)
 | [],_=>rfl
 | a :: l,h=>by
  rw [List.mapM_cons,h a List.mem_cons_self,mapM_some f g l (fun b hb=>h b (List.mem_cons_of_mem _ hb))];rfl
theorem flatten_single {α:Type}:∀l:List α,(l.map fun a=>[a]).flatten=l
 | []=>rfl
 | a :: l=>by rw [List.map_cons,List.flatten_cons,flatten_single l];rfl
theorem range_get (l:Bytes):(List.range l.length).map (fun i=>Lit.int .u8 (((l.getD i 0).toNat:Nat):Int))=l.map fun c=>Lit.int .u8 c.toNat:=by
 apply List.ext_getElem
 ·simp
 ·intro i h1 h2;have hi:i<l.length:=by simpa using h1
  simp [hi]
theorem keyLitsU8 (c:UInt8) (m:Nat):Tryz.prog.keyLits (m+1) 5 [.int .u8 (c.toNat:Int)]=some [.int .u8 (c.toNat:Int)]:=by
 have hw:(Lit.int .u8 (c.toNat:Int)).wf=true:=by
  have:=c.toNat_lt;simp [Lit.wf,IntKind.min,IntKind.max,IntKind.signed,IntKind.bits];omega
 unfold Program.keyLits;simp [Tryz.underlying5,hw]
theorem keyH (h:H32):keyOf Tryz.prog 36 (hashV0 h)=some (klH h):=by
 obtain ⟨l,hl⟩:=h;have hkt:Tryz.prog.keyType 36=true:=by kernel_rfl
 obtain ⟨m,hm⟩:∃m,Tryz.prog.types.size=m+1:=⟨Tryz.prog.types.size-1,by kernel_rfl⟩;have hcl:Tryz.prog.cellsOf 36=32:=by kernel_rfl
 have hci:Tryz.prog.cellsOf 5=1:=by kernel_rfl
 have hlen:(byV l).length=32:=by simp [byV,hl]
 unfold keyOf hashV0 klH;simp only [Tryz.underlying36];rw [if_pos (by simp [hkt,Value.formed,Tryz.underlying36,hcl,hashC,hlen]),hm];unfold Program.keyLits;simp only [Tryz.underlying36,Value.cells,hashC];rw [if_pos (by rw [hcl];simpa using hlen)];rw [mapM_some _ (fun i=>[Lit.int .u8 (((l.getD i 0).toNat:Nat):Int)])]
 ·rw [Option.map_some,Option.map_some];have h1:((List.range 32).map fun i=>[Lit.int .u8 (((l.getD i 0).toNat:Nat):Int)])=((List.range 32).map fun i=>Lit.int .u8 (((l.getD i 0).toNat:Nat):Int)).map fun a=>[a]:=by rw [List.map_map];rfl
  rw [h1,flatten_single,←hl,range_get]
 ·intro i hi;have hi:=List.mem_range.1 hi;rw [hci,Nat.mul_one];have e:((byV l).toArray.toList.drop i).take 1=[.int .u8 ((l.getD i 0).toNat:Int)]:=by
   have hi2:i<l.length:=by omega
   have hi3:i<(byV l).length:=by omega
   rw [List.drop_eq_getElem_cons (by simpa using hi3)];simp [byV,hi2]
  rw [e];exact keyLitsU8 _ m
theorem hashC_inj (a b:H32) (h:hashC a=hashC b):a=b:=by
 obtain ⟨a,ha⟩:=a;obtain ⟨b,hb⟩:=b;apply Subtype.ext;exact byV_inj h
theorem hashV0_inj (a b:H32) (h:hashV0 a=hashV0 b):a=b:=hashC_inj a b (by
 unfold hashV0 at h;simpa using h)
theorem klH_inj {a b:H32} (h:klH a=klH b):a=b:=by
 have h1:=keyH a;have h2:=keyH b;rw [←h] at h2;exact hashV0_inj a b (keyedH.inj h1 h2)
theorem zero_boolH (w:World):(zeroValue 4).run Tryz.prog w=.ok (.bool false) w:=by kernel_rfl
theorem zero_strH (w:World):(zeroValue 9).run Tryz.prog w=.ok (.string (bs [])) w:=by kernel_rfl
theorem bs_inj (a b:Bytes) (h:bs a=bs b):a=b:=by
 have:=congrArg (fun s:ByteArray=>s.data.toList) h;simpa [bs_data] using this
noncomputable def kitHB:MapKit Tryz.prog H32 Bool:={ t:=68,k:=36,e:=4,encK:=hashV0,klK:=klH,goodK:=fun _=>True,encV:=.bool,dV:=fun b=>.lit (.bool b),goodV:=fun _=>True,zero:=false,R:=mkR (fun _=>True) Value.bool (fun b=>.lit (.bool b)),keyed:=keyedH,ht:=Tryz.underlying68,hkey:=fun h _=>keyH h,inj:=fun _ _ _ _=>klH_inj,hval:=fun b hb=>mkR_val (fun _ _ e=>by cases e;rfl) b hb,hinv:=fun _ _ h=>mkR_inv (fun _ _ e=>by cases e;rfl) h,dinj:=fun _ _ _ _ e=>by cases e;rfl,hz:=zero_boolH,gz:=trivial }
noncomputable def kitHS:MapKit Tryz.prog H32 Bytes:={ t:=29,k:=36,e:=9,encK:=hashV0,klK:=klH,goodK:=fun _=>True,encV:=fun s=>.string (bs s),dV:=fun s=>.lit (.string s),goodV:=fun _=>True,zero:=[],R:=mkR (fun _=>True) (fun s=>Value.string (bs s)) (fun s=>.lit (.string s)),keyed:=keyedH,ht:=Tryz.underlying29,hkey:=fun h _=>keyH h,inj:=fun _ _ _ _=>klH_inj,hval:=fun b hb=>mkR_val (fun _ _ e=>bs_inj _ _ (by cases e;rfl)) b hb,hinv:=fun _ _ h=>mkR_inv (fun _ _ e=>bs_inj _ _ (by cases e;rfl)) h,dinj:=fun _ _ _ _ e=>by cases e;rfl,hz:=zero_strH,gz:=trivial }
noncomputable def kitSrc:MapKit Tryz.prog H32 Bytes:={ t:=89,k:=36,e:=9,encK:=hashV0,klK:=klH,goodK:=fun _=>True,encV:=fun s=>.string (bs s),dV:=fun s=>.lit (.string s),goodV:=fun _=>True,zero:=[],R:=mkR (fun _=>True) (fun s=>Value.string (bs s)) (fun s=>.lit (.string s)),keyed:=keyedH,ht:=Tryz.underlying89,hkey:=fun h _=>keyH h,inj:=fun _ _ _ _=>klH_inj,hval:=fun b hb=>mkR_val (fun _ _ e=>bs_inj _ _ (by cases e;rfl)) b hb,hinv:=fun _ _ h=>mkR_inv (fun _ _ e=>bs_inj _ _ (by cases e;rfl)) h,dinj:=fun _ _ _ _ e=>by cases e;rfl,hz:=zero_strH,gz:=trivial }
end Go.Proofs.YtmgklblglpplcaaGreatDoor
namespace Go.Proofs.YtmgklblglpplcaaGreatDoor
open Go Go.RowKit
variable {P:Program} {Q:Exit→Act→World→Prop} {a:Act} {w:World} {n:Nat} {f:Nat}
def wpAt (f:Nat) (P:Program) (c:Code) (Q:Exit→Act→World→Prop) (a:Act) (w:World):Prop:=
 ∀(b:Frame) (k:List Item) (cs:List Frame),b.roundOf=none→b.fn=f →
  ∃e a' w',Q e a' w'∧ArrivesIn (Machine.fenced P Fence.wide) P (lone (b.atR a (.code c :: k)) cs w) b k cs e a' w'
theorem wpAt_of {c:Code} (h:c.wpIn Fence.wide n P Q a w):wpAt f P c Q a w:=fun b k cs hro _=>h b k cs hro trivial (room_wide _)
theorem wide_calm (fr:Frame) (cs:List Frame) (w:World):(lone fr cs w).fenced P Fence.wide:=fenced_wide P _
theorem wpAt_seq {x y:Code} (h:wpAt f P x (Exit.then (wpAt f P y Q) Q) a w):wpAt f P (.seq x y) Q a w:=by
 intro b k cs hro hb;obtain ⟨e,a1,w1,hq,harr⟩:=h b (.code y :: k) cs hro hb;have s0:StepsIn (Machine.fenced P Fence.wide) P (lone (b.atR a (.code (.seq x y) :: k)) cs w) (lone (b.atR a (.code x :: .code y :: k)) cs w):=.one (wide_calm _ _ _) stepR_seq;cases e with
 | normal=>
  obtain ⟨e2,a2,w2,hq2,harr2⟩:=hq b k cs hro hb;exact ⟨e2,a2,w2,hq2,.of_steps (StepsIn.trans s0 harr) harr2⟩
 | exit id=>exact ⟨_,a1,w1,hq,.of_steps s0 (.pass (x:=.code y) rfl (fun _ _=>.inl (by simp)) harr)⟩
 | goto l=>exact ⟨_,a1,w1,hq,.of_steps s0 (.pass (x:=.code y) rfl (fun _ _=>.inl (by simp)) harr)⟩
 | ret=>exact ⟨_,a1,w1,hq,.of_steps s0 (.pass (x:=.code y) rfl (fun _ _=>.inl (by simp)) harr)⟩
 | panic ch=>exact ⟨_,a1,w1,hq,.of_steps s0 (.pass (x:=.code y) rfl (fun _ _=>.inl (by simp)) harr)⟩
 | outgrown=>exact ⟨_,a1,w1,hq,.of_steps s0 (.pass (x:=.code y) rfl (fun _ _=>.inl (by simp)) harr)⟩
theorem wpAt_block {id:Nat} {c:Code} (h:wpAt f P c (Exit.inBlock id Q) a w):wpAt f P (.block id c) Q a w:=by
 intro b k cs hro hb;obtain ⟨e,a1,w1,hq,harr⟩:=h b (.inBlock id :: k) cs hro hb;have s0:StepsIn (Machine.fenced P Fence.wide) P (lone (b.atR a (.code (.block id c) :: k)) cs w) (lone (b.atR a (.code c :: .inBlock id :: k)) cs w):=.one (wide_calm _ _ _) stepR_block;cases e with
 | normal=>exact ⟨.normal,a1,w1,hq,StepsIn.trans s0 (StepsIn.trans harr (.one (wide_calm _ _ _) stepR_inBlock))⟩
 | exit id'=>
  by_cases hid:id'=id
  ·simp only [Exit.inBlock,hid,if_true] at hq;exact ⟨.normal,a1,w1,hq,StepsIn.trans s0 (harr.1 k (by simp [exitTo,hid]))⟩
  ·simp only [Exit.inBlock,hid,if_false] at hq;have this:(id == id')=false:=by simp;exact fun h=>hid h.symm
   have hx:exitTo id' (.inBlock id :: k)=exitTo id' k:=by simp [exitTo,this]
   exact ⟨.exit id',a1,w1,hq,fun k' hk=>StepsIn.trans s0 (harr.1 k' (by rw [hx];exact hk)),
    fun hr' hk=>let ⟨k1,h1,h2⟩:=harr.2 hr' (by rw [hx];exact hk);⟨k1,h1,StepsIn.trans s0 h2⟩⟩
 | goto l=>
  have hx:gotoIn l (.inBlock id :: k)=gotoIn l k:=by simp [gotoIn]
  exact ⟨_,a1,w1,hq,fun k' hk=>StepsIn.trans s0 (harr.1 k' (by rw [hx];exact hk)),
   fun hr' hk=>let ⟨k1,h1,h2⟩:=harr.2 hr' (by rw [hx];exact hk);⟨k1,h1,StepsIn.trans s0 h2⟩⟩
 | ret=>exact ⟨_,a1,w1,hq,.of_steps s0 harr⟩
 | panic ch=>exact ⟨_,a1,w1,hq,.of_steps s0 harr⟩
 | outgrown=>exact ⟨_,a1,w1,hq,.of_steps s0 harr⟩
theorem wpAt_range {g:Operand} {ps:Array Tmp} {assign body:Code}
  (h:∃(l:Nat) (mark:List Deferred) (w₁:World) (d:Deferred) (w₁':World) (gf:FuncId) (args:Array Value) (w₂:World),
   (Instr.enterLoop f a.tmps ps assign body none).run P w=.ok (l,mark) w₁ ∧
   (resolve a.eval (rangeCall g l) 0).run P w₁=.ok d w₁' ∧
   (∀f',Target.leads P w₁' d.target d.args=some f'→Fence.wide.fn f') ∧
   (invoke d.target d.args).run P w₁'=.ok (.enter gf args) w₂ ∧
   (Fence.wide.depth.isSome=true→1≤n) ∧
   CallsIn Fence.wide (n-1) P gf args w₂ (rangePost Fence.wide n P l Q { a with defers:=mark++a.defers })) :
  wpAt f P (.rangeFunc g ps assign body) Q a w:=by
 intro b k cs hro hb;obtain ⟨l,mark,w₁,d,w₁',gf,args,w₂,he,hres,_,hinv,_,_,hcall⟩:=h;subst hb;rw [←hro] at he;have henter:=stepR_rangeFunc (P:=P) (b:=b) (a:=a) (k:=k) (cs:=cs) (w:=w) he hres hinv;obtain ⟨e,w₃,fr,hR,hsteps,_,hleave⟩:=hcall (b.atR { a with defers:=mark++a.defers } (.inRangeFunc l :: k) :: cs) (room_wide _);have s0:=StepsIn.one (I:=Machine.fenced P Fence.wide) (wide_calm _ _ _) henter;cases e with
 | outgrown=>
  obtain ⟨a₀,w₀,hq⟩:=hR;exact ⟨.outgrown,a₀,w₀,hq,.inr (Outgrown.of_steps (.one henter) hsteps)⟩
 | returned v=>
  obtain ⟨jump,w₄,hend,hj⟩:=hR;have s1:StepsIn (Machine.fenced P Fence.wide) P (lone (b.atR a (.code (.rangeFunc g ps assign body) :: k)) cs w) (lone (b.atR { a with defers:=mark++a.defers } ((jump.map Item.code).toList++k)) cs w₄):=by
   refine StepsIn.trans s0 (StepsIn.trans hsteps (.head (wide_calm _ _ _) ?_ (.one (wide_calm _ _ _) (stepR_endRangeFunc hend))));rw [←finish_atR_inRangeFunc l v];exact step_leave_returned hleave
  cases jump with
  | none=>exact ⟨.normal,_,w₄,hj,s1⟩
  | some c=>
   obtain ⟨e',a'',w₅,hq,harr⟩:=hj b k cs hro trivial (room_wide _);exact ⟨e',a'',w₅,hq,.of_steps s1 harr⟩
 | panicked chain=>
  refine ⟨.panic chain,_,w₃,hR,.inRangeFunc l :: k,StepsIn.trans s0 (StepsIn.trans hsteps (.one (wide_calm _ _ _) ?_))⟩;rw [←Frame.raise_atR];exact step_leave_panicked hleave
theorem calls_of_wpAt {fn:Func} {c:Code} {args:Array Value} {R:Ending→World→Prop} (hf:P.funcs[f]?=some fn) (hb:fn.body=some c)
  (h:wpAt f P c (bodyPostM Fence.wide n P fn R) { tmps:=args++Array.replicate (fn.ntmps-args.size) undef,defers:=[] } w):Calls P f args w R:=by
 refine (callsIn_wide (n:=n)).1 ⟨trivial,fun cs hr=>?_⟩;let b:Frame:={ (default:Frame) with fn:=f,kind:=.normal,roundOf:=none }
 have henter:Frame.enter P f args .normal=b.atR { tmps:=args++Array.replicate (fn.ntmps-args.size) undef,defers:=[] } [.code c]:=by
  simp [Frame.enter,Frame.atR,hf,hb,b]
 obtain ⟨e,a',w',hq,harr⟩:=h b [] cs rfl rfl;rw [←henter] at harr;cases e with
 | normal=>
  obtain ⟨e',w'',fr',hR,hs,hfn,hl⟩:=leaves_stepsInM a'.defers .returning w' { b.atR a' [] with mode:=.returning } cs rfl rfl rfl hf rfl trivial hr hq;exact ⟨e',w'',fr',hR,ComesIn.of_steps (StepsIn.trans harr (.one (wide_calm _ _ _) (stepR_end rfl))) hs,hfn,hl⟩
 | ret=>
  obtain ⟨todo,hs₀⟩:=harr.1 rfl;obtain ⟨e',w'',fr',hR,hs,hfn,hl⟩:=leaves_stepsInM a'.defers .returning w' { b.atR a' todo with mode:=.returning } cs rfl rfl rfl hf rfl trivial hr hq;exact ⟨e',w'',fr',hR,ComesIn.of_steps hs₀ hs,hfn,hl⟩
 | panic chain=>
  obtain ⟨todo,hs₀⟩:=harr;obtain ⟨e',w'',fr',hR,hs,hfn,hl⟩:=leaves_stepsInM a'.defers (.panicking chain) w' { b.atR a' todo with mode:=.panicking chain } cs rfl rfl rfl hf rfl trivial hr hq;exact ⟨e',w'',fr',hR,ComesIn.of_steps hs₀ hs,hfn,hl⟩
 | exit id=>exact hq.elim
 | goto l=>exact hq.elim
 | outgrown=>exact ⟨.outgrown,w',b,hq,harr.resolve_left (by simp [b]),rfl,trivial⟩
theorem upd_putObj0 (W:World) (D:Nat) (o:Obj):Upd (fun k=>k=D) W (W.putObj D o):=⟨rfl,rfl,rfl,by simp,fun _ _ h=>World.putObj_heap_other h⟩
end Go.Proofs.YtmgklblglpplcaaGreatDoor
