/- Parts: Walks of the program's SHA-256: a block is added to a state. No condition. Walks of the program's SHA-256: the words of a block. No condition. -/
import Derived.Test.YtmgklblglpplcaaGreatDoorRPubl2
import Derived.Test.YtmgklblglpplcaaGreatDoorRPubl3
import Derived.Test.YtmgklblglpplcaaGreatDoorRPubl4
import Derived.Test.YtmgklblglpplcaaGreatDoorRPubl5
import Derived.Test.YtmgklblglpplcaaGreatDoorRPubl6
import Derived.Test.YtmgklblglpplcaaGreatDoorRPubl10
import Derived.Test.YtmgklblglpplcaaGreatDoorRPubl11
import Derived.Test.YtmgklblglpplcaaGreatDoorRPubl12
import Derived.Test.YtmgklblglpplcaaGreatDoorRPubl14
import Derived.Test.YtmgklblglpplcaaGreatDoorRPubl15
import Derived.Test.YtmgklblglpplcaaGreatDoorRPubl20
import Derived.Test.YtmgklblglpplcaaGreatDoorRPubl22
import Derived.Test.YtmgklblglpplcaaGreatDoorRPubl23
import Derived.Test.YtmgklblglpplcaaGreatDoorRPubl25
import Derived.Test.YtmgklblglpplcaaGreatDoorRPubl26
import Derived.Test.YtmgklblglpplcaaGreatDoorRPubl27
import Derived.Test.YtmgklblglpplcaaGreatDoorRPubl29
import Derived.Test.YtmgklblglpplcaaGreatDoorRPubl31
import Derived.Test.YtmgklblglpplcaaGreatDoorRPubl32
import Derived.WalkKit
import Derived.WalkSpells
import Derived.WalkLawsBesides
import Derived.Lib.Hide
import Derived.BigQuiet
import Derived.Deep.DeepFit
import Derived.Deep.DeepCutAuto
import Derived.Deep.AppendLies
import Derived.Deep.QuietTactic
import Derived.Test.YtmgklblglpplcaaGreatDoorRows
import Derived.Deep.RegionHeld3
import Derived.StillTail
import Derived.Maps.OwnOps
import Derived.Maps.OwnSet
import Derived.Maps.RangeWalk
import Derived.WideKeyEntry
import Derived.Deep.MidRow
import Derived.Lib.Bits
import Derived.Laws.EntriesVeiled
import Derived.Handy
import Derived.DeepKeys4
import Derived.ArgAppend
import Derived.Deep.Upon
import Derived.Deep.CutBlock
import Derived.Test.YtmgklblglpplcaaGreatDoorShelf2
import Derived.Test.YtmgklblglpplcaaGreatDoorShelf
import Derived.Laws.BitsAllLaws
import Derived.Lib.Zigzag
import Derived.Recover
import Derived.Laws.BytesArg
import Derived.Deep.WholeRow
import Derived.Laws.IdiomStrings
import Derived.IntWalk
namespace Go.Proofs.YtmgklblglpplcaaGreatDoor
open Go Go.RowKit Pk Dg
set_option maxRecDepth 100000
theorem cell_byte {w:World} {g off:Nat} {B:Bytes} (h:w.rangeAt g off (byV B)) {i:Nat} (hi:i<B.length):w.cell? ⟨g,off+i,none⟩=some (.int .u8 ((byteN B i:Nat):Int)):=by
 refine h i _ ?_;rw [byV,List.getElem?_map,List.getElem?_eq_getElem hi];have e2:byteN B i=(B[i]'hi).toNat:=by unfold byteN;rw [List.getD_eq_getElem?_getD,List.getElem?_eq_getElem hi];rfl
 rw [e2];rfl
set_option maxHeartbeats 4000000 in
theorem schedule_any (b:Bytes) (hb:b.length=64) {g off:Nat} (w:World) (hr:w.rangeAt g off (byV b)):Calls Tryz.prog 56 #[.slice (some ⟨g,off,none⟩) 64 64] w fun en w'=>en=.returned (.agg (rowW (words b 64) 64))∧Upd noBlk w w':=by
 have hz64:∀W,(zeroValue 121).run Tryz.prog W=.ok (.agg (rowW [] 64)) W:=fun W=>by kernel_rfl
 have HR:=Lib.hid hr;have HL:=Lib.hid hb;have b0:Hid (((w.alloc (.cells (rowW [] 64) 121)).alloc (.cells (rowW [] 64) 121)).heap[w.heap.size]?=some (.cells (rowW [] 64) 121 (0,0))):=((Upd.refl noBlk _).alloc _).heap (heap_alloc_new w _) id;have b1:Hid (((w.alloc (.cells (rowW [] 64) 121)).alloc (.cells (rowW [] 64) 121)).heap[w.heap.size+1]?=some (.cells (rowW [] 64) 121 (0,0))):=by
  have h:=heap_alloc_new (w.alloc (.cells (rowW [] 64) 121)) (.cells (rowW [] 64) 121);rw [show (w.alloc (.cells (rowW [] 64) 121)).heap.size=w.heap.size+1 from Array.size_push ..] at h;exact h
 have HU0:Hid (Upd noBlk w ((w.alloc (.cells (rowW [] 64) 121)).alloc (.cells (rowW [] 64) 121))):=((Upd.refl noBlk w).alloc _).alloc _;clear hr hb;go_enter Tryz.func56,Tryz.ntmps56
 go_wp2_with fail
 generalize (w.alloc _).alloc _=w1 at *;obtain ⟨N,hN⟩:∃N,N=w.heap.size:=⟨_,rfl⟩;rw [←hN] at b0 b1 ⊢;have HWN:Hid (w.heap.size≤N):=by show _≤_;omega
 have HB0:Hid (BW w1 (N+1) [] w1):=⟨b1.out,Upd.refl _ _⟩;clear hN b1 hz64;go_loopw [9] (fun i wr=>∃k:Nat,i=.int .i64 k∧k≤64∧BW w1 (N+1) (words b k) wr) (fun i _=>64-(intOf i).toNat)
 case atStart=>exact ⟨0,rfl,by omega,HB0.out⟩
 case round=>
  obtain ⟨k,rfl,hk,hbw⟩:=hrel;have HBW:=Lib.hid hbw;clear hbw HB0;by_cases hlt:k<64
  ·by_cases h16:k<16
   ·have h16':(k:Int)<16:=by omega
    have hlt':(k:Int)<64:=by omega
    have hl:=HL.out;have HRr:Hid (wr.rangeAt g off (byV b)):=fun j v hv=>by
     have h1:=HU0.out.cell (HR.out j v hv) id;have hlt:=World.block_lt_of_cell? w _ (HR.out j v hv);exact HBW.out.up.cell h1 (by have:=HWN.out;intro e;simp only at e;simp at hlt;omega)
    have c0:=cell_byte HRr.out (show 4*k<b.length by omega);have c1:=cell_byte HRr.out (show 4*k+1<b.length by omega);have c2:=cell_byte HRr.out (show 4*k+2<b.length by omega);have c3:=cell_byte HRr.out (show 4*k+3<b.length by omega);have hw:=word_any (w:=wr) (g:=g) (off:=off+4*k) (n:=64-4*k) (cap:=64-4*k) (byteN_lt b (4*k)) (byteN_lt b (4*k+1)) (byteN_lt b (4*k+2)) (byteN_lt b (4*k+3)) (by omega) c0 (by rw [Nat.add_assoc];exact c1) (by rw [Nat.add_assoc];exact c2) (by rw [Nat.add_assoc];exact c3);have HW:=Lib.hid hw;have HWB:Hid (words b (k+1)=words b k++[byteN b (4*k)*16777216+byteN b (4*k+1)*65536+byteN b (4*k+2)*256+byteN b (4*k+3)]):=by
     show _=_;rw [words,nextW,if_pos h16];rfl
    generalize byteN b (4*k)*16777216+byteN b (4*k+1)*65536+byteN b (4*k+2)*256+byteN b (4*k+3)=v at *;have d1:¬4*k=64:=by omega
    have d2:4*(k:Int)≤64:=by omega
    have d3:¬64=4*k:=by omega
    clear c0 c1 c2 c3 hw hl HRr;go_wp2_with fail
    refine HW.out.mono ?_;rintro e wz ⟨rfl,kz,hz⟩;have UZ:Hid (Upd noBlk wr wz):=by show Upd _ _ _;rw [hz];exact (Upd.refl noBlk wr).drewN kz
    have cc:=UZ.out.cell (cell_rowW HBW.out.row hlt) id;have cf:wz.frozen? ⟨N+1,k,none⟩=false:=fro_row (UZ.out.heap HBW.out.row id);clear hz;unfold w32;go_wp2_with fail
    refine ⟨⟨k+1,by push_cast;rfl,hlt,?_⟩,by simp only [intOf];omega⟩;rw [HWB.out];exact HBW.out.set _ (words_len b k) hlt UZ.out
   ·obtain ⟨j,rfl⟩:∃j,k=j+16:=⟨k-16,by omega⟩;have h16':¬(j:Int)+16<16:=by omega
    have hlt':(j:Int)+16<64:=by omega
    have HWB:Hid (words b (j+16+1)=words b (j+16)++[((words b (j+16)).getD j 0+sg0 ((words b (j+16)).getD (j+1) 0)+(words b (j+16)).getD (j+9) 0+sg1 ((words b (j+16)).getD (j+14) 0)) % 4294967296]):=by
     show _=_;rw [words,nextW,if_neg h16];rw [show j+16-16=j by omega,show j+16-15=j+1 by omega,show j+16-7=j+9 by omega,show j+16-2=j+14 by omega]
    have c0:=cell_rowW HBW.out.row (show j<64 by omega);have c1:=cell_rowW HBW.out.row (show j+1<64 by omega);have c9:=cell_rowW HBW.out.row (show j+9<64 by omega);have c14:=cell_rowW HBW.out.row (show j+14<64 by omega);have l1:=getD_lt (words_lt b (j+16)) (j+1);have l14:=getD_lt (words_lt b (j+16)) (j+14);have HWL:=Lib.hid (words_len b (j+16));obtain ⟨a0,ha0⟩:∃x,(words b (j+16)).getD j 0=x:=⟨_,rfl⟩;obtain ⟨a1,ha1⟩:∃x,(words b (j+16)).getD (j+1) 0=x:=⟨_,rfl⟩;obtain ⟨a9,ha9⟩:∃x,(words b (j+16)).getD (j+9) 0=x:=⟨_,rfl⟩;obtain ⟨a14,ha14⟩:∃x,(words b (j+16)).getD (j+14) 0=x:=⟨_,rfl⟩;rw [ha0,ha1,ha9,ha14] at HWB;rw [ha0] at c0;rw [ha1] at c1 l1;rw [ha9] at c9;rw [ha14] at c14 l14;obtain ⟨s0,hs0⟩:∃x,sg0 a1=x:=⟨_,rfl⟩;obtain ⟨s1,hs1⟩:∃x,sg1 a14=x:=⟨_,rfl⟩;rw [hs0,hs1] at HWB;have R7:=Lib.hid (fun W=>brot_7 a1 l1 W);have R18:=Lib.hid (fun W=>brot_18 a1 l1 W);have R17:=Lib.hid (fun W=>brot_17 a14 l14 W);have R19:=Lib.hid (fun W=>brot_19 a14 l14 W);obtain ⟨p3,hp3⟩:∃p,p=a1 / 8:=⟨_,rfl⟩;obtain ⟨p10,hp10⟩:∃p,p=a14 / 1024:=⟨_,rfl⟩;have HX0:Hid (bits .xor .u32 (bits .xor .u32 ((rotR a1 7:Nat):Int) ((rotR a1 18:Nat):Int)) (p3:Int)=(s0:Int)):=by
     show _=_;rw [Dg.u32_xor (rotR_lt l1) (rotR_lt l1),Dg.u32_xor (xor_lt (rotR_lt l1) (rotR_lt l1)) (by omega),←hs0,hp3];unfold sg0;rw [shr_eq]
    have HX1:Hid (bits .xor .u32 (bits .xor .u32 ((rotR a14 17:Nat):Int) ((rotR a14 19:Nat):Int)) (p10:Int)=(s1:Int)):=by
     show _=_;rw [Dg.u32_xor (rotR_lt l14) (rotR_lt l14),Dg.u32_xor (xor_lt (rotR_lt l14) (rotR_lt l14)) (by omega),←hs1,hp10];unfold sg1;rw [shr_eq]
    have e3:(a1:Int) / 8=(p3:Int):=by omega
    have e10:(a14:Int) / 1024=(p10:Int):=by omega
    have v1:(a1:Int)≤4294967295:=by omega
    have v14:(a14:Int)≤4294967295:=by omega
    generalize rotR a1 7=r7 at *;generalize rotR a1 18=r18 at *;generalize rotR a14 17=r17 at *;generalize rotR a14 19=r19 at *;have m16:IntKind.i64.wrap ((j:Int)+16-16)=(j:Int):=by rw [IntWalk.i64_in _ (by omega)];omega
    have m7:IntKind.i64.wrap ((j:Int)+16-7)=(j:Int)+9:=by rw [IntWalk.i64_in _ (by omega)];omega
    obtain ⟨y1,hy1⟩:∃y,y=(a0+s0) % 4294967296:=⟨_,rfl⟩;obtain ⟨y2,hy2⟩:∃y,y=(y1+a9) % 4294967296:=⟨_,rfl⟩;obtain ⟨y3,hy3⟩:∃y,y=(y2+s1) % 4294967296:=⟨_,rfl⟩;have Y1:Hid (IntKind.u32.wrap ((a0:Int)+(s0:Int))=(y1:Int)):=by show _=_;rw [wrap_add,hy1]
    have Y2:Hid (IntKind.u32.wrap ((y1:Int)+(a9:Int))=(y2:Int)):=by show _=_;rw [wrap_add,hy2]
    have Y3:Hid (IntKind.u32.wrap ((y2:Int)+(s1:Int))=(y3:Int)):=by show _=_;rw [wrap_add,hy3]
    rw [←add4,←hy1,←hy2,←hy3] at HWB;clear hy1 hy2 hy3;have n16:IntKind.i64.wrap (j:Int)=(j:Int):=IntWalk.i64_in _ (by omega);have n7:IntKind.i64.wrap ((j:Int)+9)=(j:Int)+9:=IntWalk.i64_in _ (by omega);have n7b:((j:Int)+9).toNat=j+9:=by omega
    have n7c:(j:Int)<64:=by omega
    have n7d:(j:Int)+9<64:=by omega
    have n7e:0≤(j:Int)+9:=by omega
    have C0:=Lib.hid c0;have C9:=Lib.hid c9;clear ha0 ha1 ha9 ha14 hs0 hs1 hp3 hp10 l1 l14 c0 c9;go_wp2_with fail
    go_quiet (fail)
    have UD:Hid (Upd noBlk wr (wr.drewN nq)):=(Upd.refl noBlk wr).drewN nq;generalize wr.drewN nq=wa at *;clear c1 c14;have hx0:=HX0.out;have hx1:=HX1.out;go_wp2_with fail
    refine (R7.out _).mono ?_;rintro e w' ⟨rfl,rfl⟩;unfold w32;go_wp2_with fail
    refine (R18.out _).mono ?_;rintro e w' ⟨rfl,rfl⟩;unfold w32;go_wp2_with fail
    refine (R17.out _).mono ?_;rintro e w' ⟨rfl,rfl⟩;unfold w32;go_wp2_with fail
    refine (R19.out _).mono ?_;rintro e w' ⟨rfl,rfl⟩;unfold w32;go_wp2_with fail
    clear hx0 hx1 R7 R18 R17 R19 HX0 HX1 e3 e10 v1 v14;refine wp_region_tree 14 (OT.sures [0,1,5,7,12,2,8,3,9,4,10,6,11,13] .nil) (fun w'=>Upd noBlk wr w') (by kernel_rfl) (by kernel_rfl) (fun c a d v w h=>by cases d<;>exact h) (UD.out.drew) ?_
    simp only [OT.sures]
    iterate 11 (apply wpT_sure rfl rfl;focus (intro w' hw';have g0:=hw'.cell C0.out id;have g9:=hw'.cell C9.out id;go_simp;rfl))
    refine wpT_sure rfl rfl (.int .u32 (y1:Int)) (fun w' hw'=>?_) ?_
    focus (go_simp;exact Y1.out)
    refine wpT_sure rfl rfl (.int .u32 (y2:Int)) (fun w' hw'=>?_) ?_
    focus (go_simp;exact Y2.out)
    refine wpT_sure rfl rfl (.int .u32 (y3:Int)) (fun w' hw'=>?_) ?_
    focus (go_simp;exact Y3.out)
    refine wpT_nil ?_;have UV:Hid (Upd noBlk wr wa.drew):=UD.out.drew;generalize wa.drew=wv at *;have cc:=UV.out.cell (cell_rowW HBW.out.row hlt) id;have cf:wv.frozen? ⟨N+1,j+16,none⟩=false:=fro_row (UV.out.heap HBW.out.row id);clear m16 m7 n16 n7 n7b n7c n7d n7e C0 C9 Y1 Y2 Y3 UD;go_wp2_with fail
    refine ⟨⟨j+16+1,by push_cast;rfl,hlt,?_⟩,by simp only [intOf];omega⟩;rw [HWB.out];exact HBW.out.set _ HWL.out hlt UV.out
  ·obtain rfl:k=64:=by omega
   have HB1:=HBW.out.row;have HB0:=Lib.hid (HBW.out.up.heap b0.out (by omega));obtain ⟨Z,hst4,hz1,hz2⟩:=store_row (P:=Tryz.prog) HB0.out (vs:=(rowW (words b 64) 64).toList) (by simp [rowW_size]) (row_one (words b 64) 64);have HRA:Hid (wr.rangeAt (N+1) 0 (rowW (words b 64) 64).toList):=fun j u hu=>by
    rw [Nat.zero_add,cell_of_row _ _ j _ 121 (0,0) HB1];simpa using hu
   have HI:Hid ((Tryz.prog.info? 121).map (·.size)=some (rowW (words b 64) 64).toList.length):=by show _=_;rw [show (rowW (words b 64) 64).toList.length=64 by simp [rowW_size]];kernel_rfl
   have HZ1:=Lib.hid hz1;have HZ2:Hid (Upd noBlk w Z):=(HU0.out.then HBW.out.up (fun i hi e=>by have:=HWN.out;omega)).then hz2 (fun i hi e=>by have:=HWN.out;omega);clear hz1 hz2 HB1;go_wp2_with (first | (refine wpList_load_mid rfl _ _ rfl (N+1) 0 rfl (rowW (words b 64) 64).toList _ HRA.out Tryz.underlying121 rfl HI.out ?_))
   (try simp only [Exit.inBlock,Exit.then])
   refine bodyPost_ret (results_cell_row rfl _ _ N 121 _ (0,0) _ rfl HZ1.out Tryz.underlying121 rfl (by have:=HI.out;simpa using this)) rfl ?_;exact ⟨rfl,HZ2.out⟩
end Go.Proofs.YtmgklblglpplcaaGreatDoor
namespace Go.Proofs.YtmgklblglpplcaaGreatDoor
open Go Go.RowKit Pk Dg
set_option maxRecDepth 100000
theorem ft_c1 {a b c d e f g h k w c1 c2 c3 c4 c5 c6 c7 y1 y2 y3 y4 z1 z2 z3 z4 z5 u v1 v5:Nat} (t:FT a b c d e f g h k w c1 c2 c3 c4 c5 c6 c7 y1 y2 y3 y4 z1 z2 z3 z4 z5 u v1 v5) (oe:e<4294967296):bg1 e=c1:=by
 have h1:=t.x1;rw [Dg.u32_xor (rotR_lt oe) (rotR_lt oe),Dg.u32_xor (xor_lt (rotR_lt oe) (rotR_lt oe)) (rotR_lt oe)] at h1;have:bg1 e=((rotR e 6 ^^^ rotR e 11) ^^^ rotR e 25):=rfl;omega
theorem ft_c6 {a b c d e f g h k w c1 c2 c3 c4 c5 c6 c7 y1 y2 y3 y4 z1 z2 z3 z4 z5 u v1 v5:Nat} (t:FT a b c d e f g h k w c1 c2 c3 c4 c5 c6 c7 y1 y2 y3 y4 z1 z2 z3 z4 z5 u v1 v5) (oa:a<4294967296):bg0 a=c6:=by
 have h1:=t.x6;rw [Dg.u32_xor (rotR_lt oa) (rotR_lt oa),Dg.u32_xor (xor_lt (rotR_lt oa) (rotR_lt oa)) (rotR_lt oa)] at h1;have:bg0 a=((rotR a 2 ^^^ rotR a 13) ^^^ rotR a 22):=rfl;omega
theorem exec_index_agg {op:Oper} {e:Operand→Value} {w:World} (t:TypeId) (x y:Operand) (ho:op.op=.index t x y) {a i v:Value} (hx:e x=a) (hy:e y=i) (hr:(Instr.index t a i).run Tryz.prog w=.ok v w) :
  (execOp e op).run Tryz.prog w=.ok (.value v) w:=by
 unfold execOp;simp only [ho,hx,hy,Sem.run_bind,Result.andThen_ok,hr,Sem.run_pure]
set_option maxHeartbeats 8000000 in
theorem gadd_any (s:S8) (hs:s.Ok) (b:Bytes) (hb:b.length=64) {p g off:Nat} (w:World) (hp:w.heap[p]?=some (.cells (rowW (l8 s) 8) 82 (0,0))) (hr:w.rangeAt g off (byV b)) :
  Calls Tryz.prog 35 #[.pointer (some ⟨p,0,none⟩),.slice (some ⟨g,off,none⟩) 64 64] w fun en w'=>en=.returned (.tuple #[])∧w'.heap[p]?=some (.cells (rowW (l8 (addB s b)) 8) 82 (0,0))∧Upd (fun k=>k=p) w w':=by
 have hz64:∀W,(zeroValue 121).run Tryz.prog W=.ok (.agg (rowW [] 64)) W:=fun W=>by kernel_rfl
 have HP:=Lib.hid hp;have HSC:=Lib.hid (schedule_any b hb w hr);have HRO:=fun W=>Lib.hid (rounds_any W);clear hp hr;go_enter Tryz.func35,Tryz.ntmps35
 go_wp2_with fail
 refine HSC.out.mono ?_;rintro e w1 ⟨rfl,u1⟩;go_wp2_with fail
 refine (HRO _).out.mono ?_;rintro e w2 ⟨rfl,u2⟩;obtain ⟨W,hW⟩:∃W,words b 64=W:=⟨_,rfl⟩;have HAB:Hid (addB s b=addS s (rnds W s 64)):=by show _=_;rw [←hW];rfl
 rw [hW];have hu2:Upd noBlk w w2:=u1.trans u2;obtain ⟨A,hA⟩:∃A,A=w2.heap.size:=⟨_,rfl⟩;have a0:((w2.alloc (.cells (rowW [] 64) 121)).alloc (.cells (rowW [] 64) 121)).heap[A]?=some (.cells (rowW [] 64) 121 (0,0)):=by rw [hA];exact ((Upd.refl noBlk _).alloc _).heap (heap_alloc_new w2 _) id
 have a1:((w2.alloc (.cells (rowW [] 64) 121)).alloc (.cells (rowW [] 64) 121)).heap[A+1]?=some (.cells (rowW [] 64) 121 (0,0)):=by
  have h:=heap_alloc_new (w2.alloc (.cells (rowW [] 64) 121)) (.cells (rowW [] 64) 121);rw [show (w2.alloc (.cells (rowW [] 64) 121)).heap.size=w2.heap.size+1 from Array.size_push ..] at h;rw [hA];exact h
 obtain ⟨X,hst1,hx1,hx2⟩:=store_row (P:=Tryz.prog) a0 (vs:=(rowW W 64).toList) (by simp [rowW_size]) (row_one W 64);have a2:=(hx2.heap a1 (by omega));obtain ⟨Y,hst2,hy1,hy2⟩:=store_row (P:=Tryz.prog) a2 (vs:=(rowW kW 64).toList) (by simp [rowW_size]) (row_one kW 64);have uY:Upd noBlk w2 Y:=((((Upd.refl noBlk w2).alloc _).alloc _).then hx2 (fun i hi e=>by omega)).then hy2 (fun i hi e=>by omega);have HWY:Hid (Y.heap[A]?=some (.cells (rowW W 64) 121 (0,0))):=by have:=hy2.heap hx1 (by omega);show _=_;simpa using this
 have HKY:Hid (Y.heap[A+1]?=some (.cells (rowW kW 64) 121 (0,0))):=by show _=_;simpa using hy1
 have HPY:=Lib.hid ((hu2.trans uY).heap HP.out id);have HUY:=Lib.hid (hu2.trans uY);have HPA:Hid (p<A):=by have:=lt_of_heap (hu2.heap HP.out id);show _<_;omega
 rw [hA] at hst1 hst2;clear a0 a1 a2 hx1 hx2 hy1 hy2 u1 u2 hu2 uY HP HSC HRO hW;go_wp2_with fail
 rw [←hA];clear hst1 hst2 hz64 hA;obtain ⟨⟨sa,sb,sc,sd,se,sf,sg,sh⟩,hss⟩:∃q,s=q:=⟨_,rfl⟩;have HPs:Hid (Y.heap[p]?=some (.cells (rowW [sa,sb,sc,sd,se,sf,sg,sh] 8) 82 (0,0))):=by have:=HPY.out;rw [hss] at this;exact this
 obtain ⟨q0,q1,q2,q3,q4,q5,q6,q7⟩:=cellsW8 HPs.out;have HSS:=Lib.hid hss;clear hss;go_quiet (fail)
 clear q0 q1 q2 q3 q4 q5 q6 q7;have UD:Hid (Upd noBlk Y (Y.drewN nq)):=(Upd.refl noBlk Y).drewN nq;generalize Y.drewN nq=wa at *;go_wp2_with fail
 go_loopw [6,7,8,9,10,11,12,13,54] (fun va vb vc vd ve vf vg vh i wr=>∃(k a b c d e f g h:Nat),i=.int .i64 k∧k≤64∧va=.int .u32 (a:Int)∧vb=.int .u32 (b:Int)∧vc=.int .u32 (c:Int)∧vd=.int .u32 (d:Int)∧ve=.int .u32 (e:Int)∧vf=.int .u32 (f:Int)∧vg=.int .u32 (g:Int)∧vh=.int .u32 (h:Int)∧rnds W s k=⟨a,b,c,d,e,f,g,h⟩∧Upd noBlk Y wr) (fun _ _ _ _ _ _ _ _ i _=>64-(intOf i).toNat)
 case atStart=>exact ⟨0,sa,sb,sc,sd,se,sf,sg,sh,rfl,by omega,rfl,rfl,rfl,rfl,rfl,rfl,rfl,rfl,HSS.out,UD.out⟩
 case round=>
  obtain ⟨k,a,b2,c,d,e,f,g2,h,rfl,hk,rfl,rfl,rfl,rfl,rfl,rfl,rfl,rfl,hr,hu⟩:=hrel;have HU:=Lib.hid hu;clear hu;by_cases hlt:k<64
  ·have hlt':(k:Int)<64:=by omega
   have nk:0≤(k:Int):=by omega
   have hok:=rnds_ok W hs k;rw [hr] at hok;have hrs:rnds W s (k+1)=rnd (kW.getD k 0) (W.getD k 0) (rnds W s k):=rfl;rw [hr] at hrs;have cK:=cell_rowW (HU.out.heap HKY.out id) hlt;have cW:=cell_rowW (HU.out.heap HWY.out id) hlt;obtain ⟨kk,hkk⟩:∃x,kW.getD k 0=x:=⟨_,rfl⟩;obtain ⟨ww,hww⟩:∃x,W.getD k 0=x:=⟨_,rfl⟩;rw [hkk] at cK hrs;rw [hww] at cW hrs;obtain ⟨c1,c2,c3,c4,c5,c6,c7,y1,y2,y3,y4,z1,z2,z3,z4,z5,u,v1,v5,ft⟩:=ft_ex kk ww hok;have M1:=Lib.hid (fun W=>mixed_bg1 e hok.e W);have M0:=Lib.hid (fun W=>mixed_bg0 a hok.a W);rw [ft_c1 ft hok.e] at M1;rw [ft_c6 ft hok.a] at M0;have FTH:=Lib.hid ft;have HRS:Hid (rnds W s (k+1)=⟨v1,a,b2,c,v5,e,f,g2⟩):=by show _=_;rw [hrs,ft.r]
   have CK:=Lib.hid cK;have CW:=Lib.hid cW;clear hok hrs ft hkk hww hr cK cW;go_wp2_with fail
   refine wp_region_tree 21 (OT.sures [0,1,4,5,7,9,13,17,6,8,14,18,10,15,19,11] (.run 2 (OT.sures [3,12,16,20] .nil))) (fun w'=>Upd noBlk wr w') (by kernel_rfl) (by kernel_rfl) (fun c a d v w h=>by cases d<;>exact h) ((Upd.refl noBlk wr).drew) ?_
   simp only [OT.sures]
   iterate 8 (apply wpT_sure rfl rfl;focus (intro w' hw';go_simp;rfl))
   refine wpT_sure rfl rfl (.int .u32 (c2:Int)) (fun w' hw'=>?_) ?_
   focus (go_simp;exact FTH.out.x2)
   refine wpT_sure rfl rfl (.int .u32 (c3:Int)) (fun w' hw'=>?_) ?_
   focus (go_simp;exact FTH.out.x3)
   iterate 2 (apply wpT_sure rfl rfl;focus (intro w' hw';go_simp;rfl))
   refine wpT_sure rfl rfl (.int .u32 (c4:Int)) (fun w' hw'=>?_) ?_
   focus (go_simp;exact FTH.out.x4)
   refine wpT_sure rfl rfl (.int .u32 (kk:Int)) (fun w' hw'=>?_) ?_
   focus (have g0:=hw'.cell CK.out id;go_simp)
   refine wpT_sure rfl rfl (.int .u32 (ww:Int)) (fun w' hw'=>?_) ?_
   focus (have g0:=hw'.cell CW.out id;go_simp)
   refine wpT_sure rfl rfl (.int .u32 (c5:Int)) (fun w' hw'=>?_) ?_
   focus (go_simp;exact FTH.out.x5)
   have UD2:Hid (Upd noBlk wr wr.drew):=(Upd.refl noBlk wr).drew;generalize wr.drew=wb at *;refine wpT_run (fun w'=>Upd noBlk wr w') (fun _ h=>h) rfl (fun K' hK=>?_);go_simp
   refine (M1.out _).mono ?_;rintro e' w' ⟨rfl,rfl⟩;refine hK _ _ ⟨UD2.out,?_⟩;clear hK K' M1;unfold w32;refine wpT_sure rfl rfl (.int .u32 (y1:Int)) (fun w' hw'=>?_) ?_
   focus (go_simp;exact FTH.out.p1)
   refine wpT_sure rfl rfl (.int .u32 (y2:Int)) (fun w' hw'=>?_) ?_
   focus (go_simp;exact FTH.out.p2)
   refine wpT_sure rfl rfl (.int .u32 (y3:Int)) (fun w' hw'=>?_) ?_
   focus (go_simp;exact FTH.out.p3)
   refine wpT_sure rfl rfl (.int .u32 (y4:Int)) (fun w' hw'=>?_) ?_
   focus (go_simp;exact FTH.out.p4)
   refine wpT_nil ?_;have x7:=FTH.out.x7;have x8:=FTH.out.x8;have x9:=FTH.out.x9;have xA:=FTH.out.xA;have xB:=FTH.out.xB;have p5:=FTH.out.p5;have p6:=FTH.out.p6;have p7:=FTH.out.p7;have p5':((c6:Int)+(z5:Int)) % 4294967296=(u:Int):=by rw [←p5,IntKind.wrap_u32]
   have p6':((y4:Int)+(u:Int)) % 4294967296=(v1:Int):=by rw [←p6,IntKind.wrap_u32]
   have p7':((d:Int)+(y4:Int)) % 4294967296=(v5:Int):=by rw [←p7,IntKind.wrap_u32]
   go_wp2_with fail
   refine (M0.out _).mono ?_;rintro e' w' ⟨rfl,rfl⟩;unfold w32;go_wp2_with fail
   exact ⟨⟨k+1,v1,a,b2,c,v5,e,f,g2,by push_cast;rfl,hlt,rfl,rfl,rfl,rfl,rfl,rfl,rfl,rfl,HRS.out,HU.out.trans UD2.out⟩,by simp only [intOf];omega⟩
  ·obtain rfl:k=64:=by omega
   obtain ⟨wq,hwq⟩:∃wq:World,wq=wr:=⟨_,rfl⟩;have HQP:Hid (wq.heap[p]?=some (.cells (rowW (mixL s ⟨a,b2,c,d,e,f,g2,h⟩ 0) 8) 82 (0,0))):=by show _=_;rw [hwq];exact HU.out.heap HPY.out id
   have HQU:Hid (Upd noBlk w wq):=by show Upd _ _ _;rw [hwq];exact HUY.out.trans HU.out
   have HAD:Hid (addB s b=addS s ⟨a,b2,c,d,e,f,g2,h⟩):=by show _=_;rw [HAB.out,hr]
   rw [←hwq];clear hr hwq HU HAB;rw [show ((64:Nat):Int)=(64:Int) from rfl];go_wp2_with (refine wpList_value (o:=⟨some 113,_,_,_,_,_⟩) (.agg (rowW [a,b2,c,d,e,f,g2,h] 8)) rfl ?hv ?_;(case hv=>kernel_rfl))
   go_loopw [114] (fun i wx=>∃k:Nat,i=.int .i64 k∧k≤8∧wx.heap[p]?=some (.cells (rowW (mixL s ⟨a,b2,c,d,e,f,g2,h⟩ k) 8) 82 (0,0))∧Upd (fun j=>j=p) wq wx) (fun i _=>8-(intOf i).toNat)
   case atStart=>exact ⟨0,rfl,by omega,HQP.out,Upd.refl _ _⟩
   case round=>
    obtain ⟨k,rfl,hk3,hb3,hu3⟩:=hrel;have HB3:=Lib.hid hb3;have HU3:=Lib.hid hu3;clear hb3 hu3 HQP;by_cases hlt3:k<8
    ·have hlt3':(k:Int)<8:=by omega
     have nk:0≤(k:Int):=by omega
     have hs1:=cell_rowW HB3.out hlt3;rw [mixL_at s _ k hlt3] at hs1;have HM:=Lib.hid (mixL_set s ⟨a,b2,c,d,e,f,g2,h⟩ k hlt3);obtain ⟨x,hx⟩:∃x,(l8 s).getD k 0=x:=⟨_,rfl⟩;obtain ⟨y,hy⟩:∃y,(l8 ⟨a,b2,c,d,e,f,g2,h⟩).getD k 0=y:=⟨_,rfl⟩;rw [hx] at hs1 HM;rw [hy] at HM;have HIX:Hid (∀W:World,(Instr.index 82 (.agg (rowW [a,b2,c,d,e,f,g2,h] 8)) (.int .i64 (k:Int))).run Tryz.prog W=.ok (.int .u32 (y:Int)) W):=by
      intro W;rw [←hy];rcases (by omega:k=0∨k=1∨k=2∨k=3∨k=4∨k=5∨k=6∨k=7) with rfl | rfl | rfl | rfl | rfl | rfl | rfl | rfl<;>kernel_rfl
     obtain ⟨z,hz⟩:∃z,z=(x+y) % 4294967296:=⟨_,rfl⟩;have HZ:Hid (IntKind.u32.wrap ((x:Int)+(y:Int))=(z:Int)):=by show _=_;rw [wrap_add,hz]
     rw [←hz] at HM;have S1:=Lib.hid hs1;clear hs1 hx hy hz;go_wp2_with (refine wpList_value (o:=⟨some 117,_,_,_,_,_⟩) (.int .u32 (y:Int)) rfl ?hv ?_;(case hv=>exact exec_index_agg 82 (.tmp 113) (.tmp 114) rfl (by go_simp) (by go_simp) (HIX.out _)))
     refine wp_region_tree 8 (OT.sures [0,1,5,2,7,3,4,6] .nil) (fun w'=>Upd noBlk wr w') (by kernel_rfl) (by kernel_rfl) (fun c a d v w h=>by cases d<;>exact h) ((Upd.refl noBlk wr).drew) ?_
     simp only [OT.sures]
     iterate 6 (apply wpT_sure rfl rfl;focus (intro w' hw';go_simp;rfl))
     refine wpT_sure rfl rfl (.int .u32 (x:Int)) (fun w' hw'=>?_) ?_
     focus (have g0:=hw'.cell S1.out id;go_simp)
     refine wpT_sure rfl rfl (.int .u32 (z:Int)) (fun w' hw'=>?_) ?_
     focus (go_simp;exact HZ.out)
     refine wpT_nil ?_;have cc:=S1.out;have cf:wr.frozen? ⟨p,k,none⟩=false:=fro_row HB3.out;go_wp2_with fail
     refine ⟨⟨k+1,by push_cast;rfl,hlt3,?_,(HU3.out.setCell (p:=⟨p,k,none⟩) (fun _=>rfl) _).drew⟩,by simp only [intOf];omega⟩;have h1:=heap_setCell_eq (i:=k) (.int .u32 (z:Int)) HB3.out;rw [rowW_put _ 8 k z (mixL_len s _ k) hlt3,HM.out] at h1;exact h1
    ·obtain rfl:k=8:=by omega
     have HB8:Hid (wr.heap[p]?=some (.cells (rowW (l8 (addB s b)) 8) 82 (0,0))):=by have:=HB3.out;rw [mixL_end,←HAD.out] at this;exact this
     have HUE:Hid (Upd (fun j=>j=p) w wr):=(HQU.out.mono (fun _ _ h=>h.elim)).trans HU3.out;clear HQU HU3 HB3;go_wp2_with fail
     go_end0
     exact ⟨rfl,HB8.out,HUE.out⟩
end Go.Proofs.YtmgklblglpplcaaGreatDoor
