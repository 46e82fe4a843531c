/- Parts: Walks of the reference of SHA-256: a block is added to a state. No condition. -/
import Derived.Test.YtmgklblglpplcaaGreatDoorRPubl1
import Derived.Test.YtmgklblglpplcaaGreatDoorRPubl2
import Derived.Test.YtmgklblglpplcaaGreatDoorRPubl3
import Derived.Test.YtmgklblglpplcaaGreatDoorRPubl4
import Derived.Test.YtmgklblglpplcaaGreatDoorRPubl5
import Derived.Test.YtmgklblglpplcaaGreatDoorRPubl6
import Derived.Test.YtmgklblglpplcaaGreatDoorRPubl9
import Derived.Test.YtmgklblglpplcaaGreatDoorRPubl10
import Derived.Test.YtmgklblglpplcaaGreatDoorRPubl11
import Derived.Test.YtmgklblglpplcaaGreatDoorRPubl12
import Derived.Test.YtmgklblglpplcaaGreatDoorRPubl14
import Derived.Test.YtmgklblglpplcaaGreatDoorRPubl15
import Derived.Test.YtmgklblglpplcaaGreatDoorRPubl20
import Derived.Test.YtmgklblglpplcaaGreatDoorRPubl22
import Derived.Test.YtmgklblglpplcaaGreatDoorRPubl23
import Derived.Test.YtmgklblglpplcaaGreatDoorRPubl25
import Derived.Test.YtmgklblglpplcaaGreatDoorRPubl26
import Derived.Test.YtmgklblglpplcaaGreatDoorRPubl27
import Derived.Test.YtmgklblglpplcaaGreatDoorRPubl29
import Derived.WalkKit
import Derived.WalkSpells
import Derived.WalkLawsBesides
import Derived.Lib.Hide
import Derived.BigQuiet
import Derived.Deep.DeepFit
import Derived.Deep.DeepCutAuto
import Derived.Deep.AppendLies
import Derived.Deep.QuietTactic
import Derived.Test.YtmgklblglpplcaaGreatDoorRows
import Derived.Deep.RegionHeld3
import Derived.StillTail
import Derived.Maps.OwnOps
import Derived.Maps.OwnSet
import Derived.Maps.RangeWalk
import Derived.WideKeyEntry
import Derived.Deep.MidRow
import Derived.Lib.Bits
import Derived.Laws.EntriesVeiled
import Derived.Handy
import Derived.DeepKeys4
import Derived.ArgAppend
import Derived.Deep.Upon
import Derived.Deep.CutBlock
import Derived.Test.YtmgklblglpplcaaGreatDoorShelf2
import Derived.Test.YtmgklblglpplcaaGreatDoorShelf
import Derived.Laws.BitsAllLaws
import Derived.Lib.Zigzag
import Derived.Recover
import Derived.Laws.BytesArg
import Derived.Deep.WholeRow
import Derived.Laws.IdiomStrings
import Derived.IntWalk
namespace Go.Proofs.YtmgklblglpplcaaGreatDoor
open Go Go.RowKit Pk Dg
set_option maxRecDepth 100000
def l8 (s:S8):List Nat:=[s.a,s.b,s.c,s.d,s.e,s.f,s.g,s.h]
theorem rowW8 (a b c d e f g h:Nat):rowW [a,b,c,d,e,f,g,h] 8=#[.int .u32 (a:Int),.int .u32 (b:Int),.int .u32 (c:Int),.int .u32 (d:Int),.int .u32 (e:Int),.int .u32 (f:Int),.int .u32 (g:Int),.int .u32 (h:Int)]:=rfl
theorem cell_rowW {w:World} {N n i:Nat} {l:List Nat} {T:TypeId} (h:w.heap[N]?=some (.cells (rowW l n) T (0,0))) (hi:i<n):w.cell? ⟨N,i,none⟩=some (.int .u32 ((l.getD i 0:Nat):Int)):=by
 rw [cell_of_row _ _ i _ T (0,0) h,rowW_get l n i hi]
theorem fro_row {w:World} {N i:Nat} {a:Array Value} {T:TypeId} (h:w.heap[N]?=some (.cells a T (0,0))):w.frozen? ⟨N,i,none⟩=false:=by simp [World.frozen?,h]
theorem add4 {a b c d:Nat}:((((a+b) % 4294967296+c) % 4294967296)+d) % 4294967296=(a+b+c+d) % 4294967296:=by omega
theorem wrap_add {a b:Nat}:IntKind.u32.wrap ((a:Int)+(b:Int))=(((a+b) % 4294967296:Nat):Int):=by rw [IntKind.wrap_u32];omega
theorem index_bs {b:Bytes} {n:Nat} (hn:n<b.length) {i:Int} (hi:i=(n:Int)) (W:World):(Instr.index 9 (.string (bs b)) (.int .i64 i)).run Tryz.prog W=.ok (.int .u8 ((byteN b n:Nat):Int)) W:=by
 subst hi;rw [run_index_string (P:=Tryz.prog) (w:=W) 9 (bs b) .i64 _ Tryz.underlying9];have hs:n<(bs b).size:=by rw [bs_size];exact hn
 have e:(bs b)[n]'hs=b[n]'hn:=bs_get b n hn;have e2:byteN b n=(b[n]'hn).toNat:=by unfold byteN;rw [List.getD_eq_getElem?_getD,List.getElem?_eq_getElem hn];rfl
 rw [e2,←e];simp [hs]
theorem exec_index_bs {op:Oper} {e:Operand→Value} {w:World} (x y:Operand) (ho:op.op=.index 9 x y) {b:Bytes} {n:Nat} (hx:e x=.string (bs b)) {i:Int} (hy:e y=.int .i64 i) (hn:n<b.length) (hi:i=(n:Int)) {v:Nat} (hv:byteN b n=v) :
  (execOp e op).run Tryz.prog w=.ok (.value (.int .u8 (v:Int))) w:=by
 subst hv;unfold execOp;simp only [ho,hx,hy,Sem.run_bind,Result.andThen_ok,index_bs hn hi,Sem.run_pure]
structure BW (w1:World) (N1:Nat) (l:List Nat) (wr:World):Prop where
 row:wr.heap[N1]?=some (.cells (rowW l 64) 121 (0,0))
 up:Upd (fun k=>k=N1) w1 wr
theorem BW.set {w1 wr:World} {N1:Nat} {l:List Nat} (h:BW w1 N1 l wr) (x:Nat) {n:Nat} (hn:l.length=n) (hl:n<64) {w2:World} (hu:Upd noBlk wr w2):BW w1 N1 (l++[x]) (w2.setCell ⟨N1,n,none⟩ (.int .u32 (x:Int))):=by
 subst hn;have hr:=hu.heap h.row id;refine ⟨?_,(h.up.trans (hu.mono (fun _ _ h=>h.elim))).setCell (fun _=>rfl) _⟩;rw [heap_setCell_eq _ hr,rowW_set l 64 x hl]
theorem BW.drew {w1 wr:World} {N1:Nat} {l:List Nat} (h:BW w1 N1 l wr):BW w1 N1 l wr.drew:=⟨h.row,h.up.drew⟩
structure FT (a b c d e f g h k w:Nat) (c1 c2 c3 c4 c5 c6 c7 y1 y2 y3 y4 z1 z2 z3 z4 z5 u v1 v5:Nat):Prop where
 x1:bits .xor .u32 (bits .xor .u32 ((rotR e 6:Nat):Int) ((rotR e 11:Nat):Int)) ((rotR e 25:Nat):Int)=(c1:Int)
 p1:IntKind.u32.wrap ((h:Int)+(c1:Int))=(y1:Int)
 x2:bits .and .u32 (e:Int) (f:Int)=(c2:Int)
 x3:bits .xor .u32 4294967295 (e:Int)=(c3:Int)
 x4:bits .and .u32 (c3:Int) (g:Int)=(c4:Int)
 x5:bits .xor .u32 (c2:Int) (c4:Int)=(c5:Int)
 p2:IntKind.u32.wrap ((y1:Int)+(c5:Int))=(y2:Int)
 p3:IntKind.u32.wrap ((y2:Int)+(k:Int))=(y3:Int)
 p4:IntKind.u32.wrap ((y3:Int)+(w:Int))=(y4:Int)
 x6:bits .xor .u32 (bits .xor .u32 ((rotR a 2:Nat):Int) ((rotR a 13:Nat):Int)) ((rotR a 22:Nat):Int)=(c6:Int)
 x7:bits .and .u32 (a:Int) (b:Int)=(z1:Int)
 x8:bits .and .u32 (a:Int) (c:Int)=(z2:Int)
 x9:bits .xor .u32 (z1:Int) (z2:Int)=(z3:Int)
 xA:bits .and .u32 (b:Int) (c:Int)=(z4:Int)
 xB:bits .xor .u32 (z3:Int) (z4:Int)=(z5:Int)
 p5:IntKind.u32.wrap ((c6:Int)+(z5:Int))=(u:Int)
 p6:IntKind.u32.wrap ((y4:Int)+(u:Int))=(v1:Int)
 p7:IntKind.u32.wrap ((d:Int)+(y4:Int))=(v5:Int)
 r:rnd k w ⟨a,b,c,d,e,f,g,h⟩=⟨v1,a,b,c,v5,e,f,g⟩
 b7:c7=0
theorem ft_ex {a b c d e f g h:Nat} (k w:Nat) (ok:(S8.mk a b c d e f g h).Ok):∃c1 c2 c3 c4 c5 c6 c7 y1 y2 y3 y4 z1 z2 z3 z4 z5 u v1 v5,FT a b c d e f g h k w c1 c2 c3 c4 c5 c6 c7 y1 y2 y3 y4 z1 z2 z3 z4 z5 u v1 v5:=by
 obtain ⟨oa,ob,oc,od,oe,of,og,oh⟩:=ok;simp only at oa ob oc od oe of og oh;refine ⟨bg1 e,e &&& f,4294967295 ^^^ e,(4294967295 ^^^ e) &&& g,chW e f g,bg0 a,0,(h+bg1 e) % 4294967296,((h+bg1 e) % 4294967296+chW e f g) % 4294967296,(((h+bg1 e) % 4294967296+chW e f g) % 4294967296+k) % 4294967296,((((h+bg1 e) % 4294967296+chW e f g) % 4294967296+k) % 4294967296+w) % 4294967296,
  a &&& b,a &&& c,(a &&& b) ^^^ (a &&& c),b &&& c,mjW a b c,(bg0 a+mjW a b c) % 4294967296,(((((h+bg1 e) % 4294967296+chW e f g) % 4294967296+k) % 4294967296+w) % 4294967296+(bg0 a+mjW a b c) % 4294967296) % 4294967296,(d+((((h+bg1 e) % 4294967296+chW e f g) % 4294967296+k) % 4294967296+w) % 4294967296) % 4294967296,
  ?_,wrap_add,Dg.u32_and oe of,Dg.u32_xor (a:=4294967295) (by decide) oe,Dg.u32_and (xor_lt (by decide) oe) og,Dg.u32_xor (and_lt oe) (and_lt (xor_lt (by decide) oe)),wrap_add,wrap_add,wrap_add,?_,Dg.u32_and oa ob,Dg.u32_and oa oc,Dg.u32_xor (and_lt oa) (and_lt oa),Dg.u32_and ob oc,Dg.u32_xor (xor_lt (and_lt oa) (and_lt oa)) (and_lt ob),wrap_add,wrap_add,wrap_add,?_,rfl⟩
 ·rw [Dg.u32_xor (rotR_lt oe) (rotR_lt oe),Dg.u32_xor (xor_lt (rotR_lt oe) (rotR_lt oe)) (rotR_lt oe)];rfl
 ·rw [Dg.u32_xor (rotR_lt oa) (rotR_lt oa),Dg.u32_xor (xor_lt (rotR_lt oa) (rotR_lt oa)) (rotR_lt oa)];rfl
 ·have e1:(h+bg1 e+chW e f g+k+w) % 4294967296=((((h+bg1 e) % 4294967296+chW e f g) % 4294967296+k) % 4294967296+w) % 4294967296:=by omega
  unfold rnd;simp only [M32,e1]
theorem cellsW8 {W:World} {N:Nat} {a b c d e f g h:Nat} {T:TypeId} (hh:W.heap[N]?=some (.cells (rowW [a,b,c,d,e,f,g,h] 8) T (0,0))) :
  W.cell? ⟨N,0,none⟩=some (.int .u32 (a:Int))∧W.cell? ⟨N,1,none⟩=some (.int .u32 (b:Int))∧W.cell? ⟨N,2,none⟩=some (.int .u32 (c:Int))∧W.cell? ⟨N,3,none⟩=some (.int .u32 (d:Int)) ∧
  W.cell? ⟨N,4,none⟩=some (.int .u32 (e:Int))∧W.cell? ⟨N,5,none⟩=some (.int .u32 (f:Int))∧W.cell? ⟨N,6,none⟩=some (.int .u32 (g:Int))∧W.cell? ⟨N,7,none⟩=some (.int .u32 (h:Int)):=by
 rw [rowW8] at hh;simp [World.cell?,hh]
structure BV (w1:World) (NV:Nat) (l:List Nat) (wr:World):Prop where
 row:wr.heap[NV]?=some (.cells (rowW l 8) 82 (0,0))
 up:Upd (fun k=>k=NV) w1 wr
def mixL (s v:S8) (k:Nat):List Nat:=(List.range 8).map fun j=>if j<k then ((l8 s).getD j 0+(l8 v).getD j 0) % 4294967296 else (l8 s).getD j 0
theorem mixL_len (s v:S8) (k:Nat):(mixL s v k).length=8:=by simp [mixL]
theorem mixL_get (s v:S8) (k j:Nat) (h:j<8):(mixL s v k)[j]?=some (if j<k then ((l8 s).getD j 0+(l8 v).getD j 0) % 4294967296 else (l8 s).getD j 0):=by
 simp [mixL,h]
theorem mixL_at (s v:S8) (k:Nat) (h:k<8):(mixL s v k).getD k 0=(l8 s).getD k 0:=by
 rw [List.getD_eq_getElem?_getD,mixL_get s v k k h,if_neg (by omega)];rfl
theorem mixL_set (s v:S8) (k:Nat) (h:k<8):(mixL s v k).set k (((l8 s).getD k 0+(l8 v).getD k 0) % 4294967296)=mixL s v (k+1):=by
 apply List.ext_getElem?;intro j;by_cases hj:j<8
 ·rw [mixL_get s v (k+1) j hj];by_cases e:k=j
  ·subst e;rw [List.getElem?_set_self (by rw [mixL_len];exact h),if_pos (by omega)]
  ·rw [List.getElem?_set_ne e,mixL_get s v k j hj];by_cases h2:j<k
   ·rw [if_pos h2,if_pos (by omega)]
   ·rw [if_neg h2,if_neg (by omega)]
 ·rw [List.getElem?_eq_none (by rw [List.length_set,mixL_len];omega),List.getElem?_eq_none (by rw [mixL_len];omega)]
theorem mixL_end (s v:S8):mixL s v 8=l8 (addS s v):=rfl
set_option maxHeartbeats 4000000 in
theorem jblock_any (s:S8) (hs:s.Ok) (b:Bytes) (hb:b.length=64) (w:World):Calls Tryz.prog 53 #[.agg (rowW (l8 s) 8),.string (bs b)] w fun en w'=>en=.returned (.agg (rowW (l8 (addB s b)) 8))∧Upd noBlk w w':=by
 have hz8:∀W,(zeroValue 82).run Tryz.prog W=.ok (.agg (rowW [] 8)) W:=fun W=>by kernel_rfl
 have hz64:∀W,(zeroValue 121).run Tryz.prog W=.ok (.agg (rowW [] 64)) W:=fun W=>by kernel_rfl
 obtain ⟨N,hN⟩:∃N,N=w.heap.size:=⟨_,rfl⟩;obtain ⟨w0,hw0⟩:∃w0,w0=(w.alloc (.cells (rowW (l8 s) 8) 82)).alloc (.cells (rowW [] 8) 82):=⟨_,rfl⟩;have HS:Hid (w0.heap[N]?=some (.cells (rowW (l8 s) 8) 82 (0,0))):=by
  show _=_;rw [hw0,hN];exact ((Upd.refl noBlk _).alloc _).heap (heap_alloc_new w _) id
 have HR:Hid (w0.heap[N+1]?=some (.cells (rowW [] 8) 82 (0,0))):=by
  show _=_;have h:=heap_alloc_new (w.alloc (.cells (rowW (l8 s) 8) 82)) (.cells (rowW [] 8) 82);rw [show (w.alloc (.cells (rowW (l8 s) 8) 82)).heap.size=w.heap.size+1 from Array.size_push ..] at h;rw [hw0,hN];exact h
 have HU0:Hid (Upd noBlk w w0):=by show Upd _ _ _;rw [hw0];exact ((Upd.refl noBlk w).alloc _).alloc _
 have HN:=Lib.hid (Nat.le_of_eq hN.symm);go_enter Tryz.func53,Tryz.ntmps53
 go_wp2_with fail
 rw [←hw0,←hN];refine (jrounds_any _).mono ?_;rintro e w1 ⟨rfl,u1⟩;have hu1:Upd noBlk w w1:=HU0.out.trans u1;have HS1:=Lib.hid (u1.heap HS.out id);have HR1:=Lib.hid (u1.heap HR.out id);obtain ⟨X,hst,hx1,hx2⟩:=store_row (P:=Tryz.prog) (heap_alloc_new w1 (.cells (rowW [] 64) 121)) (vs:=(rowW kW 64).toList) (by simp [rowW_size]) (row_one kW 64);have u2:Upd noBlk w1 X:=((Upd.refl noBlk w1).alloc _).then hx2 (fun i hi e=>by omega);have HK:=Lib.hid hx1;have HS2:=Lib.hid (u2.heap HS1.out id);have HR2:=Lib.hid (u2.heap HR1.out id);have HU2:=Lib.hid (hu1.trans u2);obtain ⟨N1,hN1⟩:∃N1,N1=w1.heap.size:=⟨_,rfl⟩;have HN1:=Lib.hid hN1;have HT:=Lib.hid hst;clear hx1 hx2 u1 u2 hu1 HS1 HR1 HS HR HU0 hw0 hN1;have hst:=HT.out;go_wp2_with fail
 obtain ⟨N2,hN2⟩:∃N2,N2=X.heap.size:=⟨_,rfl⟩;obtain ⟨w3,hw3⟩:∃w3,w3=X.alloc (.cells (rowW [] 64) 121):=⟨_,rfl⟩;have HB0:Hid (BW w3 N2 [] w3):=by
  refine ⟨?_,Upd.refl _ _⟩;rw [hw3,hN2];exact heap_alloc_new X _
 have u3:Upd noBlk X w3:=by rw [hw3];exact (Upd.refl noBlk X).alloc _
 have HS3:=Lib.hid (u3.heap HS2.out id);have HR3:=Lib.hid (u3.heap HR2.out id);have HK3:Hid (w3.heap[N1]?=some (.cells (rowW kW 64) 121 (0,0))):=by show _=_;rw [HN1.out];have:=u3.heap HK.out id;simpa using this
 have HU3:=Lib.hid (HU2.out.trans u3);have HL3:Hid (N1<N2∧N+1<N2):=by
  have h1:=lt_of_heap HK.out;have h2:=lt_of_heap HR2.out;exact ⟨by have:=HN1.out;omega,by omega⟩
 have e1:w.heap.size=N:=by have:=HN.out;omega
 have HE1:=Lib.hid e1;rw [←hN2,←hw3,←HN1.out,e1];clear hst HT HN HK HS2 HR2 HU2 hN2 hw3 u3 e1 hN HN1;go_loopw [7] (fun i wr=>∃k:Nat,i=.int .i64 k∧k≤64∧BW w3 N2 (words b k) wr) (fun i _=>64-(intOf i).toNat)
 case atStart=>exact ⟨0,rfl,by omega,HB0.out⟩
 case round=>
  obtain ⟨k,rfl,hk,hbw⟩:=hrel;have HBW:=Lib.hid hbw;clear hbw HB0;by_cases hlt:k<64
  ·by_cases h16:k<16
   ·have h16':(k:Int)<16:=by omega
    have hlt':(k:Int)<64:=by omega
    have hl:b.length=64:=hb;have m0:IntKind.i64.wrap (4*(k:Int))=4*(k:Int):=IntWalk.i64_in _ (by omega);have m1:IntKind.i64.wrap (4*(k:Int)+1)=4*(k:Int)+1:=IntWalk.i64_in _ (by omega);have m2:IntKind.i64.wrap (4*(k:Int)+2)=4*(k:Int)+2:=IntWalk.i64_in _ (by omega);have m3:IntKind.i64.wrap (4*(k:Int)+3)=4*(k:Int)+3:=IntWalk.i64_in _ (by omega);obtain ⟨x0,hx0⟩:∃x,byteN b (4*k)=x:=⟨_,rfl⟩;obtain ⟨x1,hx1⟩:∃x,byteN b (4*k+1)=x:=⟨_,rfl⟩;obtain ⟨x2,hx2⟩:∃x,byteN b (4*k+2)=x:=⟨_,rfl⟩;obtain ⟨x3,hx3⟩:∃x,byteN b (4*k+3)=x:=⟨_,rfl⟩;have X0:=Lib.hid hx0;have X1:=Lib.hid hx1;have X2:=Lib.hid hx2;have X3:=Lib.hid hx3;have c0:=byteN_lt b (4*k);have c1:=byteN_lt b (4*k+1);have c2:=byteN_lt b (4*k+2);have c3:=byteN_lt b (4*k+3);have HW4:=Lib.hid (word4 c0 c1 c2 c3);have HWB:Hid (words b (k+1)=words b k++[byteN b (4*k)*16777216+byteN b (4*k+1)*65536+byteN b (4*k+2)*256+byteN b (4*k+3)]):=by
     show _=_;rw [words,nextW,if_pos h16];rfl
    rw [hx0] at c0 HW4 HWB;rw [hx1] at c1 HW4 HWB;rw [hx2] at c2 HW4 HWB;rw [hx3] at c3 HW4 HWB;have j0:(x0:Int)<256:=by omega
    have j1:(x1:Int)<256:=by omega
    have j2:(x2:Int)<256:=by omega
    have j3:(x3:Int)<256:=by omega
    clear c0 c1 c2 c3 hx0 hx1 hx2 hx3;go_wp2_with fail
    refine wp_region_tree 30 (OT.sures [0,1,2,7,8,15,16,23,24,3,9,17,25,4,10,18,26,5,11,19,27,6,12,20,28,13,21,14,22,29] .nil) (fun _=>True) (by kernel_rfl) (by kernel_rfl) (fun c a d v w h=>by cases d<;>exact h) trivial ?_
    simp only [OT.sures]
    iterate 13 (apply wpT_sure rfl rfl;focus (intro w' hw';go_simp;rfl))
    refine wpT_sure rfl rfl (.int .u8 (x0:Int)) (fun w' _=>exec_index_bs (.tmp 25) (.tmp 27) rfl (n:=4*k) (i:=4*(k:Int)) (by go_simp) (by go_simp) (by omega) (by push_cast;rfl) X0.out) ?_
    iterate 3 (apply wpT_sure rfl rfl;focus (intro w' hw';go_simp;rfl))
    iterate 1 (apply wpT_sure rfl rfl;focus (intro w' hw';go_simp;rfl))
    refine wpT_sure rfl rfl (.int .u8 (x1:Int)) (fun w' _=>exec_index_bs (.tmp 31) (.tmp 34) rfl (n:=4*k+1) (i:=4*(k:Int)+1) (by go_simp) (by go_simp) (by omega) (by push_cast;rfl) X1.out) ?_;refine wpT_sure rfl rfl (.int .u8 (x2:Int)) (fun w' _=>exec_index_bs (.tmp 39) (.tmp 42) rfl (n:=4*k+2) (i:=4*(k:Int)+2) (by go_simp) (by go_simp) (by omega) (by push_cast;rfl) X2.out) ?_;refine wpT_sure rfl rfl (.int .u8 (x3:Int)) (fun w' _=>exec_index_bs (.tmp 47) (.tmp 50) rfl (n:=4*k+3) (i:=4*(k:Int)+3) (by go_simp) (by go_simp) (by omega) (by push_cast;rfl) X3.out) ?_
    iterate 9 (apply wpT_sure rfl rfl;focus (intro w' hw';go_simp;rfl))
    refine wpT_nil ?_;have cc:=cell_rowW HBW.out.row hlt;have cf:wr.frozen? ⟨N2,k,none⟩=false:=fro_row HBW.out.row;go_wp2_with fail
    refine ⟨⟨k+1,by push_cast;rfl,hlt,?_⟩,by simp only [intOf];omega⟩;have h4:=HW4.out;simp only [Int.natCast_mul,Int.cast_ofNat_Int] at h4;rw [HWB.out,h4];exact (HBW.out.set _ (words_len b k) hlt (Upd.refl _ _)).drew
   ·obtain ⟨j,rfl⟩:∃j,k=j+16:=⟨k-16,by omega⟩;have h16':¬(j:Int)+16<16:=by omega
    have hlt':(j:Int)+16<64:=by omega
    have HWB:Hid (words b (j+16+1)=words b (j+16)++[((words b (j+16)).getD j 0+sg0 ((words b (j+16)).getD (j+1) 0)+(words b (j+16)).getD (j+9) 0+sg1 ((words b (j+16)).getD (j+14) 0)) % 4294967296]):=by
     show _=_;rw [words,nextW,if_neg h16];rw [show j+16-16=j by omega,show j+16-15=j+1 by omega,show j+16-7=j+9 by omega,show j+16-2=j+14 by omega]
    have c0:=cell_rowW HBW.out.row (show j<64 by omega);have c1:=cell_rowW HBW.out.row (show j+1<64 by omega);have c9:=cell_rowW HBW.out.row (show j+9<64 by omega);have c14:=cell_rowW HBW.out.row (show j+14<64 by omega);have l1:=getD_lt (words_lt b (j+16)) (j+1);have l14:=getD_lt (words_lt b (j+16)) (j+14);have HWL:=Lib.hid (words_len b (j+16));obtain ⟨a0,ha0⟩:∃x,(words b (j+16)).getD j 0=x:=⟨_,rfl⟩;obtain ⟨a1,ha1⟩:∃x,(words b (j+16)).getD (j+1) 0=x:=⟨_,rfl⟩;obtain ⟨a9,ha9⟩:∃x,(words b (j+16)).getD (j+9) 0=x:=⟨_,rfl⟩;obtain ⟨a14,ha14⟩:∃x,(words b (j+16)).getD (j+14) 0=x:=⟨_,rfl⟩;rw [ha0,ha1,ha9,ha14] at HWB;rw [ha0] at c0;rw [ha1] at c1 l1;rw [ha9] at c9;rw [ha14] at c14 l14;obtain ⟨s0,hs0⟩:∃x,sg0 a1=x:=⟨_,rfl⟩;obtain ⟨s1,hs1⟩:∃x,sg1 a14=x:=⟨_,rfl⟩;rw [hs0,hs1] at HWB;have R7:=Lib.hid (fun W=>jrot_7 a1 l1 W);have R18:=Lib.hid (fun W=>jrot_18 a1 l1 W);have R17:=Lib.hid (fun W=>jrot_17 a14 l14 W);have R19:=Lib.hid (fun W=>jrot_19 a14 l14 W);obtain ⟨p3,hp3⟩:∃p,p=a1 / 8:=⟨_,rfl⟩;obtain ⟨p10,hp10⟩:∃p,p=a14 / 1024:=⟨_,rfl⟩;have HX0:Hid (bits .xor .u32 (bits .xor .u32 ((rotR a1 7:Nat):Int) ((rotR a1 18:Nat):Int)) (p3:Int)=(s0:Int)):=by
     show _=_;rw [Dg.u32_xor (rotR_lt l1) (rotR_lt l1),Dg.u32_xor (xor_lt (rotR_lt l1) (rotR_lt l1)) (by omega),←hs0,hp3];unfold sg0;rw [shr_eq]
    have HX1:Hid (bits .xor .u32 (bits .xor .u32 ((rotR a14 17:Nat):Int) ((rotR a14 19:Nat):Int)) (p10:Int)=(s1:Int)):=by
     show _=_;rw [Dg.u32_xor (rotR_lt l14) (rotR_lt l14),Dg.u32_xor (xor_lt (rotR_lt l14) (rotR_lt l14)) (by omega),←hs1,hp10];unfold sg1;rw [shr_eq]
    have e3:(a1:Int) / 8=(p3:Int):=by omega
    have e10:(a14:Int) / 1024=(p10:Int):=by omega
    have v1:(a1:Int)≤4294967295:=by omega
    have v14:(a14:Int)≤4294967295:=by omega
    generalize rotR a1 7=r7 at *;generalize rotR a1 18=r18 at *;generalize rotR a14 17=r17 at *;generalize rotR a14 19=r19 at *;have m16:IntKind.i64.wrap ((j:Int)+16-16)=(j:Int):=by rw [IntWalk.i64_in _ (by omega)];omega
    have m7:IntKind.i64.wrap ((j:Int)+16-7)=(j:Int)+9:=by rw [IntWalk.i64_in _ (by omega)];omega
    obtain ⟨y1,hy1⟩:∃y,y=(a0+s0) % 4294967296:=⟨_,rfl⟩;obtain ⟨y2,hy2⟩:∃y,y=(y1+a9) % 4294967296:=⟨_,rfl⟩;obtain ⟨y3,hy3⟩:∃y,y=(y2+s1) % 4294967296:=⟨_,rfl⟩;have Y1:Hid (IntKind.u32.wrap ((a0:Int)+(s0:Int))=(y1:Int)):=by show _=_;rw [wrap_add,hy1]
    have Y2:Hid (IntKind.u32.wrap ((y1:Int)+(a9:Int))=(y2:Int)):=by show _=_;rw [wrap_add,hy2]
    have Y3:Hid (IntKind.u32.wrap ((y2:Int)+(s1:Int))=(y3:Int)):=by show _=_;rw [wrap_add,hy3]
    rw [←add4,←hy1,←hy2,←hy3] at HWB;clear hy1 hy2 hy3;have n16:IntKind.i64.wrap (j:Int)=(j:Int):=IntWalk.i64_in _ (by omega);have n7:IntKind.i64.wrap ((j:Int)+9)=(j:Int)+9:=IntWalk.i64_in _ (by omega);have n7b:((j:Int)+9).toNat=j+9:=by omega
    have n7c:(j:Int)<64:=by omega
    have n7d:(j:Int)+9<64:=by omega
    have n7e:0≤(j:Int)+9:=by omega
    have C0:=Lib.hid c0;have C9:=Lib.hid c9;clear ha0 ha1 ha9 ha14 hs0 hs1 hp3 hp10 l1 l14 c0 c9;go_wp2_with fail
    clear c1 c14;refine wp_region_tree 28 (OT.sures [0,1,5,7,10,14,19,21,24,2,11,15,25,3,16,4,17] (.run 6 (.run 8 (OT.sures [9,12,13,18] (.run 20 (.run 22 (OT.sures [23,26,27] .nil))))))) (fun w'=>Upd noBlk wr w') (by kernel_rfl) (by kernel_rfl) (fun c a d v w h=>by cases d<;>exact h) ((Upd.refl noBlk wr).drew) ?_
    simp only [OT.sures]
    iterate 17 (apply wpT_sure rfl rfl;focus (intro w' hw';have g0:=hw'.cell C0.out id;have g9:=hw'.cell C9.out id;go_simp;rfl))
    have UD:Hid (Upd noBlk wr wr.drew):=(Upd.refl noBlk wr).drew;generalize wr.drew=wa at *;refine wpT_run (fun w'=>Upd noBlk wr w') (fun _ h=>h) rfl (fun K' hK=>?_);go_simp
    refine (R7.out _).mono ?_;rintro e wz ⟨rfl,kz,hz⟩;have UZ:Hid (Upd noBlk wr wz):=by show Upd _ _ _;rw [hz];exact UD.out.drewN kz
    refine hK _ _ ⟨UZ.out,?_⟩;clear hK K' hz R7 UD;unfold w32;refine wpT_run (fun w'=>Upd noBlk wr w') (fun _ h=>h) rfl (fun K' hK=>?_);go_simp
    refine (R18.out _).mono ?_;rintro e wy ⟨rfl,kz,hz⟩;have UY:Hid (Upd noBlk wr wy):=by show Upd _ _ _;rw [hz];exact UZ.out.drewN kz
    refine hK _ _ ⟨UY.out,?_⟩;clear hK K' hz R18 UZ;unfold w32
    iterate 1 (apply wpT_sure rfl rfl;focus (intro w' hw';go_simp;rfl))
    refine wpT_sure rfl rfl (.int .u32 (s0:Int)) (fun w' hw'=>?_) ?_
    focus (go_simp;exact HX0.out)
    refine wpT_sure rfl rfl (.int .u32 (y1:Int)) (fun w' hw'=>?_) ?_
    focus (go_simp;exact Y1.out)
    refine wpT_sure rfl rfl (.int .u32 (y2:Int)) (fun w' hw'=>?_) ?_
    focus (go_simp;exact Y2.out)
    refine wpT_run (fun w'=>Upd noBlk wr w') (fun _ h=>h) rfl (fun K' hK=>?_);go_simp
    refine (R17.out _).mono ?_;rintro e wx ⟨rfl,kz,hz⟩;have UX:Hid (Upd noBlk wr wx):=by show Upd _ _ _;rw [hz];exact UY.out.drewN kz
    refine hK _ _ ⟨UX.out,?_⟩;clear hK K' hz R17 UY;unfold w32;refine wpT_run (fun w'=>Upd noBlk wr w') (fun _ h=>h) rfl (fun K' hK=>?_);go_simp
    refine (R19.out _).mono ?_;rintro e wv ⟨rfl,kz,hz⟩;have UV:Hid (Upd noBlk wr wv):=by show Upd _ _ _;rw [hz];exact UX.out.drewN kz
    refine hK _ _ ⟨UV.out,?_⟩;clear hK K' hz R19 UX;unfold w32
    iterate 1 (apply wpT_sure rfl rfl;focus (intro w' hw';go_simp;rfl))
    refine wpT_sure rfl rfl (.int .u32 (s1:Int)) (fun w' hw'=>?_) ?_
    focus (go_simp;exact HX1.out)
    refine wpT_sure rfl rfl (.int .u32 (y3:Int)) (fun w' hw'=>?_) ?_
    focus (go_simp;exact Y3.out)
    refine wpT_nil ?_;have cc:=UV.out.cell (cell_rowW HBW.out.row hlt) id;have cf:wv.frozen? ⟨N2,j+16,none⟩=false:=fro_row (UV.out.heap HBW.out.row id);go_wp2_with fail
    refine ⟨⟨j+16+1,by push_cast;rfl,hlt,?_⟩,by simp only [intOf];omega⟩;rw [HWB.out];exact HBW.out.set _ HWL.out hlt UV.out
  ·obtain rfl:k=64:=by omega
   have hbw:=HBW.out;have HSr:=Lib.hid (hbw.up.heap HS3.out (by have:=HL3.out;omega));have HRr:=Lib.hid (hbw.up.heap HR3.out (by have:=HL3.out;omega));have HKr:=Lib.hid (hbw.up.heap HK3.out (by have:=HL3.out;omega));have HWr:=Lib.hid hbw.row;have HUr:Hid (Upd noBlk w wr):=HU3.out.then hbw.up (fun i hi e=>by have:=HL3.out;have:=HE1.out;omega);have HI8:Hid ((Tryz.prog.info? 82).map (·.size)=some (rowW (l8 s) 8).toList.length):=by show _=_;rw [show (rowW (l8 s) 8).toList.length=8 by simp [rowW_size]];kernel_rfl
   have HRA:Hid (wr.rangeAt N 0 (rowW (l8 s) 8).toList):=fun j v hv=>by
    rw [Nat.zero_add,cell_of_row _ _ j _ 82 (0,0) HSr.out];simpa using hv
   obtain ⟨Y,hst2,hy1,hy2⟩:=store_row (P:=Tryz.prog) (heap_alloc_new wr (.cells (rowW [] 8) 82)) (vs:=(rowW (l8 s) 8).toList) (by simp [rowW_size]) (row_one (l8 s) 8);have uY:Upd noBlk wr Y:=((Upd.refl noBlk wr).alloc _).then hy2 (fun i hi e=>by omega);have HV0:=Lib.hid hy1;clear hbw hst hy1 hy2 HBW HS3 HR3 HK3 HU3;go_wp2_with (first | (refine wpList_load_mid rfl _ _ rfl N 0 rfl (rowW (l8 s) 8).toList _ HRA.out Tryz.underlying82 rfl HI8.out ?_))
   obtain ⟨NV,hNV⟩:∃NV,NV=wr.heap.size:=⟨_,rfl⟩;have HNV:=Lib.hid hNV;rw [←hNV] at HV0 ⊢;have HSy:=Lib.hid (uY.heap HSr.out id);have HRy:=Lib.hid (uY.heap HRr.out id);have HKy:=Lib.hid (uY.heap HKr.out id);have HWy:=Lib.hid (uY.heap HWr.out id);have HUy:=Lib.hid (HUr.out.trans uY);have HLy:Hid (N<NV∧N+1<NV∧N1<NV∧N2<NV):=by
    have h1:=lt_of_heap HSr.out;have h2:=lt_of_heap HRr.out;have h3:=lt_of_heap HKr.out;have h4:=lt_of_heap HWr.out;exact ⟨by omega,by omega,by omega,by omega⟩
   clear hz8 hz64 hst2 uY HSr HRr HKr HWr HUr HRA HNV hNV;go_loopw [11] (fun i wv=>∃k:Nat,i=.int .i64 k∧k≤64∧BV Y NV (l8 (rnds (words b 64) s k)) wv) (fun i _=>64-(intOf i).toNat)
   case atStart=>exact ⟨0,rfl,by omega,by have:=HV0.out;simpa [rnds] using this,Upd.refl _ _⟩
   case round=>
    obtain ⟨k,rfl,hk2,hbv⟩:=hrel;have HBV:=Lib.hid hbv;clear hbv HV0 hk hlt;by_cases hlt2:k<64
    ·have hlt2':(k:Int)<64:=by omega
     have hok:=rnds_ok (words b 64) hs k;have hrs:rnds (words b 64) s (k+1)=rnd (kW.getD k 0) ((words b 64).getD k 0) (rnds (words b 64) s k):=rfl;obtain ⟨⟨a,b2,c,d,e,f,g,h⟩,hr⟩:∃r,rnds (words b 64) s k=r:=⟨_,rfl⟩;rw [hr] at hok hrs HBV;have HBV2:Hid (BV Y NV [a,b2,c,d,e,f,g,h] wr):=HBV.out;have cK:=cell_rowW (HBV2.out.up.heap HKy.out (by have:=HLy.out;omega)) hlt2;have cW:=cell_rowW (HBV2.out.up.heap HWy.out (by have:=HLy.out;omega)) hlt2;obtain ⟨kk,hkk⟩:∃x,kW.getD k 0=x:=⟨_,rfl⟩;obtain ⟨ww,hww⟩:∃x,(words b 64).getD k 0=x:=⟨_,rfl⟩;rw [hkk] at cK hrs;rw [hww] at cW hrs;obtain ⟨q0,q1,q2,q3,q4,q5,q6,q7⟩:=cellsW8 HBV2.out.row;obtain ⟨c1,c2,c3,c4,c5,c6,c7,y1,y2,y3,y4,z1,z2,z3,z4,z5,u,v1,v5,ft⟩:=ft_ex kk ww hok;have FTH:=Lib.hid ft;have oa:=hok.a;have oe:=hok.e;simp only at oa oe;have HRS:=Lib.hid hrs;have R6:=Lib.hid (fun W=>jrot_6 e oe W);have R11:=Lib.hid (fun W=>jrot_11 e oe W);have R25:=Lib.hid (fun W=>jrot_25 e oe W);have R2:=Lib.hid (fun W=>jrot_2 a oa W);have R13:=Lib.hid (fun W=>jrot_13 a oa W);have R22:=Lib.hid (fun W=>jrot_22 a oa W);have X1:=Lib.hid ft.x1;have X6:=Lib.hid ft.x6;obtain ⟨r6,hr6⟩:∃x,rotR e 6=x:=⟨_,rfl⟩;obtain ⟨r11,hr11⟩:∃x,rotR e 11=x:=⟨_,rfl⟩;obtain ⟨r25,hr25⟩:∃x,rotR e 25=x:=⟨_,rfl⟩;obtain ⟨r2,hr2⟩:∃x,rotR a 2=x:=⟨_,rfl⟩;obtain ⟨r13,hr13⟩:∃x,rotR a 13=x:=⟨_,rfl⟩;obtain ⟨r22,hr22⟩:∃x,rotR a 22=x:=⟨_,rfl⟩;rw [hr6] at R6 X1;rw [hr11] at R11 X1;rw [hr25] at R25 X1;rw [hr2] at R2 X6;rw [hr13] at R13 X6;rw [hr22] at R22 X6;have nk:0≤(k:Int):=by omega
     clear hr6 hr11 hr25 hr2 hr13 hr22 hok oa oe hrs ft hkk hww hr HBV;go_wp2_with fail
     have Q7:=Lib.hid q7;have Q5:=Lib.hid q5;have Q6:=Lib.hid q6;have Q1:=Lib.hid q1;have Q2:=Lib.hid q2;have CK:=Lib.hid cK;have CW:=Lib.hid cW;clear q0 q1 q2 q3 q4 q5 q6 q7 cK cW;refine wp_region_tree 30 (OT.sures [0,2,4,7,11,12,15,17,22,26,1,13,16,18,23,27,14,19,24,28,20] (.run 3 (.run 5 (OT.sures [6] (.run 8 (OT.sures [9,10,21,25,29] .nil)))))) (fun w'=>Upd noBlk wr w') (by kernel_rfl) (by kernel_rfl) (fun c a d v w h=>by cases d<;>exact h) ((Upd.refl noBlk wr).drew) ?_
     simp only [OT.sures]
     iterate 10 (apply wpT_sure rfl rfl;focus (intro w' hw';go_simp;rfl))
     refine wpT_sure rfl rfl (.int .u32 (h:Int)) (fun w' hw'=>?_) ?_
     focus (have g0:=hw'.cell Q7.out id;go_simp)
     refine wpT_sure rfl rfl (.int .u32 (f:Int)) (fun w' hw'=>?_) ?_
     focus (have g0:=hw'.cell Q5.out id;go_simp)
     refine wpT_sure rfl rfl (.int .u32 (c3:Int)) (fun w' hw'=>?_) ?_
     focus (go_simp;exact FTH.out.x3)
     refine wpT_sure rfl rfl (.int .u32 (g:Int)) (fun w' hw'=>?_) ?_
     focus (have g0:=hw'.cell Q6.out id;go_simp)
     iterate 2 (apply wpT_sure rfl rfl;focus (intro w' hw';go_simp;rfl))
     refine wpT_sure rfl rfl (.int .u32 (c2:Int)) (fun w' hw'=>?_) ?_
     focus (go_simp;exact FTH.out.x2)
     refine wpT_sure rfl rfl (.int .u32 (c4:Int)) (fun w' hw'=>?_) ?_
     focus (go_simp;exact FTH.out.x4)
     refine wpT_sure rfl rfl (.int .u32 (kk:Int)) (fun w' hw'=>?_) ?_
     focus (have g0:=hw'.cell CK.out id;go_simp)
     refine wpT_sure rfl rfl (.int .u32 (ww:Int)) (fun w' hw'=>?_) ?_
     focus (have g0:=hw'.cell CW.out id;go_simp)
     refine wpT_sure rfl rfl (.int .u32 (c5:Int)) (fun w' hw'=>?_) ?_
     focus (go_simp;exact FTH.out.x5)
     have UD:Hid (Upd noBlk wr wr.drew):=(Upd.refl noBlk wr).drew;generalize wr.drew=wa at *;refine wpT_run (fun w'=>Upd noBlk wr w') (fun _ h=>h) rfl (fun K' hK=>?_);go_simp
     refine (R6.out _).mono ?_;rintro e' wb ⟨rfl,kz,hz⟩;have UA:Hid (Upd noBlk wr wb):=by show Upd _ _ _;rw [hz];exact UD.out.drewN kz
     refine hK _ _ ⟨UA.out,?_⟩;clear hK K' hz R6 UD kz;unfold w32;refine wpT_run (fun w'=>Upd noBlk wr w') (fun _ h=>h) rfl (fun K' hK=>?_);go_simp
     refine (R11.out _).mono ?_;rintro e' wc ⟨rfl,kz,hz⟩;have UB:Hid (Upd noBlk wr wc):=by show Upd _ _ _;rw [hz];exact UA.out.drewN kz
     refine hK _ _ ⟨UB.out,?_⟩;clear hK K' hz R11 UA kz;unfold w32
     iterate 1 (apply wpT_sure rfl rfl;focus (intro w' hw';go_simp;rfl))
     refine wpT_run (fun w'=>Upd noBlk wr w') (fun _ h=>h) rfl (fun K' hK=>?_);go_simp
     refine (R25.out _).mono ?_;rintro e' wd ⟨rfl,kz,hz⟩;have UC:Hid (Upd noBlk wr wd):=by show Upd _ _ _;rw [hz];exact UB.out.drewN kz
     refine hK _ _ ⟨UC.out,?_⟩;clear hK K' hz R25 UB kz;unfold w32;refine wpT_sure rfl rfl (.int .u32 (c1:Int)) (fun w' hw'=>?_) ?_
     focus (go_simp;exact X1.out)
     refine wpT_sure rfl rfl (.int .u32 (y1:Int)) (fun w' hw'=>?_) ?_
     focus (go_simp;exact FTH.out.p1)
     refine wpT_sure rfl rfl (.int .u32 (y2:Int)) (fun w' hw'=>?_) ?_
     focus (go_simp;exact FTH.out.p2)
     refine wpT_sure rfl rfl (.int .u32 (y3:Int)) (fun w' hw'=>?_) ?_
     focus (go_simp;exact FTH.out.p3)
     refine wpT_sure rfl rfl (.int .u32 (y4:Int)) (fun w' hw'=>?_) ?_
     focus (go_simp;exact FTH.out.p4)
     refine wpT_nil ?_;go_wp2_with fail
     refine wp_region_tree 24 (OT.sures [0,2,5,8,9,12,13,17,19,10,14,18,20,11,15,21,16,22] (.run 1 (.run 3 (OT.sures [4] (.run 6 (OT.sures [7,23] .nil)))))) (fun w'=>Upd noBlk wr w') (by kernel_rfl) (by kernel_rfl) (fun c a d v w h=>by cases d<;>exact h) (UC.out.drew) ?_
     simp only [OT.sures]
     iterate 9 (apply wpT_sure rfl rfl;focus (intro w' hw';go_simp;rfl))
     refine wpT_sure rfl rfl (.int .u32 (b2:Int)) (fun w' hw'=>?_) ?_
     focus (have g0:=hw'.cell Q1.out id;go_simp)
     refine wpT_sure rfl rfl (.int .u32 (c:Int)) (fun w' hw'=>?_) ?_
     focus (have g0:=hw'.cell Q2.out id;go_simp)
     refine wpT_sure rfl rfl (.int .u32 (b2:Int)) (fun w' hw'=>?_) ?_
     focus (have g0:=hw'.cell Q1.out id;go_simp)
     refine wpT_sure rfl rfl (.int .u32 (c:Int)) (fun w' hw'=>?_) ?_
     focus (have g0:=hw'.cell Q2.out id;go_simp)
     refine wpT_sure rfl rfl (.int .u32 (z1:Int)) (fun w' hw'=>?_) ?_
     focus (go_simp;exact FTH.out.x7)
     refine wpT_sure rfl rfl (.int .u32 (z2:Int)) (fun w' hw'=>?_) ?_
     focus (go_simp;exact FTH.out.x8)
     refine wpT_sure rfl rfl (.int .u32 (z4:Int)) (fun w' hw'=>?_) ?_
     focus (go_simp;exact FTH.out.xA)
     refine wpT_sure rfl rfl (.int .u32 (z3:Int)) (fun w' hw'=>?_) ?_
     focus (go_simp;exact FTH.out.x9)
     refine wpT_sure rfl rfl (.int .u32 (z5:Int)) (fun w' hw'=>?_) ?_
     focus (go_simp;exact FTH.out.xB)
     have UD:Hid (Upd noBlk wr wd.drew):=UC.out.drew;generalize wd.drew=we at *;clear UC;refine wpT_run (fun w'=>Upd noBlk wr w') (fun _ h=>h) rfl (fun K' hK=>?_);go_simp
     refine (R2.out _).mono ?_;rintro e' wf ⟨rfl,kz,hz⟩;have UA:Hid (Upd noBlk wr wf):=by show Upd _ _ _;rw [hz];exact UD.out.drewN kz
     refine hK _ _ ⟨UA.out,?_⟩;clear hK K' hz R2 UD kz;unfold w32;refine wpT_run (fun w'=>Upd noBlk wr w') (fun _ h=>h) rfl (fun K' hK=>?_);go_simp
     refine (R13.out _).mono ?_;rintro e' wg ⟨rfl,kz,hz⟩;have UB:Hid (Upd noBlk wr wg):=by show Upd _ _ _;rw [hz];exact UA.out.drewN kz
     refine hK _ _ ⟨UB.out,?_⟩;clear hK K' hz R13 UA kz;unfold w32
     iterate 1 (apply wpT_sure rfl rfl;focus (intro w' hw';go_simp;rfl))
     refine wpT_run (fun w'=>Upd noBlk wr w') (fun _ h=>h) rfl (fun K' hK=>?_);go_simp
     refine (R22.out _).mono ?_;rintro e' wh ⟨rfl,kz,hz⟩;have UC:Hid (Upd noBlk wr wh):=by show Upd _ _ _;rw [hz];exact UB.out.drewN kz
     refine hK _ _ ⟨UC.out,?_⟩;clear hK K' hz R22 UB kz;unfold w32;refine wpT_sure rfl rfl (.int .u32 (c6:Int)) (fun w' hw'=>?_) ?_
     focus (go_simp;exact X6.out)
     refine wpT_sure rfl rfl (.int .u32 (u:Int)) (fun w' hw'=>?_) ?_
     focus (go_simp;exact FTH.out.p5)
     refine wpT_nil ?_;have HVh:=Lib.hid (UC.out.heap HBV2.out.row id);obtain ⟨q0,q1,q2,q3,q4,q5,q6,q7⟩:=cellsW8 HVh.out;have p6:=FTH.out.p6;have p7:=FTH.out.p7;have p6':((y4:Int)+(u:Int)) % 4294967296=(v1:Int):=by rw [←p6,IntKind.wrap_u32]
     have p7':((d:Int)+(y4:Int)) % 4294967296=(v5:Int):=by rw [←p7,IntKind.wrap_u32]
     obtain ⟨Z,hst3,hz1,hz2⟩:=store_row (P:=Tryz.prog) HVh.out (vs:=(rowW [v1,a,b2,c,v5,e,f,g] 8).toList) (by simp [rowW_size]) (row_one [v1,a,b2,c,v5,e,f,g] 8);have HZ1:=Lib.hid hz1;have HZ2:=Lib.hid hz2;clear hz1 hz2;go_wp2_with (refine wpList_value (o:=⟨some 174,_,_,_,_,_⟩) (.agg (rowW [v1,a,b2,c,v5,e,f,g] 8)) rfl ?hv ?_;(case hv=>kernel_rfl))
     refine ⟨⟨k+1,by push_cast;rfl,hlt2,?_⟩,by simp only [intOf];omega⟩;rw [HRS.out,FTH.out.r];exact ⟨by have:=HZ1.out;simpa [l8] using this,(HBV2.out.up.trans (UC.out.mono (fun _ _ h=>h.elim))).trans HZ2.out⟩
    ·obtain rfl:k=64:=by omega
     have HXr:=Lib.hid HBV.out.row;have HSx:=Lib.hid (HBV.out.up.heap HSy.out (by have:=HLy.out;omega));have HRx:=Lib.hid (HBV.out.up.heap HRy.out (by have:=HLy.out;omega));have HUx:Hid (Upd noBlk w wr):=HUy.out.then HBV.out.up (fun i hi e=>by have:=HLy.out;have:=HE1.out;omega);obtain ⟨v,hv⟩:∃v,rnds (words b 64) s 64=v:=⟨_,rfl⟩;have HAD:Hid (addB s b=addS s v):=by show _=_;rw [←hv];rfl
     rw [hv] at HXr;obtain ⟨wq,hwq⟩:∃wq:World,wq=wr:=⟨_,rfl⟩;rw [←hwq] at HXr HSx HRx HUx ⊢;clear hv HBV HSy HRy HKy HWy HUy hwq;rw [show ((64:Nat):Int)=(64:Int) from rfl];go_wp2_with fail
     go_loopw [16] (fun i wx=>∃k:Nat,i=.int .i64 k∧k≤8∧wx.heap[N]?=some (.cells (rowW (mixL s v k) 8) 82 (0,0))∧Upd (fun j=>j=N) wq wx) (fun i _=>8-(intOf i).toNat)
     case atStart=>exact ⟨0,rfl,by omega,HSx.out,Upd.refl _ _⟩
     case round=>
      obtain ⟨k,rfl,hk3,hb3,hu3⟩:=hrel;have HB3:=Lib.hid hb3;have HU3:=Lib.hid hu3;clear hb3 hu3 HSx;by_cases hlt3:k<8
      ·have hlt3':(k:Int)<8:=by omega
       have nk:0≤(k:Int):=by omega
       have hs1:=cell_rowW HB3.out hlt3;rw [mixL_at s v k hlt3] at hs1;have hv1:=cell_rowW (HU3.out.heap HXr.out (by have:=HLy.out;omega)) hlt3;have HM:=Lib.hid (mixL_set s v k hlt3);obtain ⟨x,hx⟩:∃x,(l8 s).getD k 0=x:=⟨_,rfl⟩;obtain ⟨y,hy⟩:∃y,(l8 v).getD k 0=y:=⟨_,rfl⟩;rw [hx] at hs1 HM;rw [hy] at hv1 HM;obtain ⟨z,hz⟩:∃z,z=(x+y) % 4294967296:=⟨_,rfl⟩;have HZ:Hid (IntKind.u32.wrap ((x:Int)+(y:Int))=(z:Int)):=by show _=_;rw [wrap_add,hz]
       rw [←hz] at HM;have S1:=Lib.hid hs1;have V1:=Lib.hid hv1;clear hs1 hv1 hx hy hz;go_wp2_with fail
       refine wp_region_tree 8 (OT.sures [0,1,4,2,5,3,6,7] .nil) (fun w'=>Upd noBlk wr w') (by kernel_rfl) (by kernel_rfl) (fun c a d v w h=>by cases d<;>exact h) ((Upd.refl noBlk wr).drew) ?_
       simp only [OT.sures]
       iterate 5 (apply wpT_sure rfl rfl;focus (intro w' hw';go_simp;rfl))
       refine wpT_sure rfl rfl (.int .u32 (x:Int)) (fun w' hw'=>?_) ?_
       focus (have g0:=hw'.cell S1.out id;go_simp)
       refine wpT_sure rfl rfl (.int .u32 (y:Int)) (fun w' hw'=>?_) ?_
       focus (have g0:=hw'.cell V1.out id;go_simp)
       refine wpT_sure rfl rfl (.int .u32 (z:Int)) (fun w' hw'=>?_) ?_
       focus (go_simp;exact HZ.out)
       refine wpT_nil ?_;have cc:=S1.out;have cf:wr.frozen? ⟨N,k,none⟩=false:=fro_row HB3.out;go_wp2_with fail
       refine ⟨⟨k+1,by push_cast;rfl,hlt3,?_,(HU3.out.setCell (p:=⟨N,k,none⟩) (fun _=>rfl) _).drew⟩,by simp only [intOf];omega⟩;have h1:=heap_setCell_eq (i:=k) (.int .u32 (z:Int)) HB3.out;rw [rowW_put _ 8 k z (mixL_len s v k) hlt3,HM.out] at h1;exact h1
      ·obtain rfl:k=8:=by omega
       have HRz:=Lib.hid (HU3.out.heap HRx.out (by omega));have HB8:Hid (wr.heap[N]?=some (.cells (rowW (l8 (addS s v)) 8) 82 (0,0))):=by have:=HB3.out;rw [mixL_end] at this;exact this
       obtain ⟨Z,hst4,hz1,hz2⟩:=store_row (P:=Tryz.prog) HRz.out (vs:=(rowW (l8 (addS s v)) 8).toList) (by simp [rowW_size]) (row_one (l8 (addS s v)) 8);have HRA:Hid (wr.rangeAt N 0 (rowW (l8 (addS s v)) 8).toList):=fun j u hu=>by
        rw [Nat.zero_add,cell_of_row _ _ j _ 82 (0,0) HB8.out];simpa using hu
       have HI:Hid ((Tryz.prog.info? 82).map (·.size)=some (rowW (l8 (addS s v)) 8).toList.length):=by show _=_;rw [show (rowW (l8 (addS s v)) 8).toList.length=8 by simp [rowW_size]];kernel_rfl
       have HZ1:=Lib.hid hz1;have HZ2:Hid (Upd noBlk w Z):=(HUx.out.then HU3.out (fun i hi e=>by have:=HE1.out;omega)).then hz2 (fun i hi e=>by have:=HE1.out;omega);clear hz1 hz2;go_wp2_with (first | (refine wpList_load_mid rfl _ _ rfl N 0 rfl (rowW (l8 (addS s v)) 8).toList _ HRA.out Tryz.underlying82 rfl HI.out ?_))
       (try simp only [Exit.inBlock,Exit.then])
       refine bodyPost_ret (results_cell_row rfl _ _ (N+1) 82 _ (0,0) _ rfl HZ1.out Tryz.underlying82 rfl (by have:=HI.out;simpa using this)) rfl ?_;refine ⟨?_,HZ2.out⟩;rw [HAD.out]
end Go.Proofs.YtmgklblglpplcaaGreatDoor
