/- Parts: Walks of the store: digits, body. No condition. Walks of the store: write. No condition. -/
import Derived.Test.YtmgklblglpplcaaGreatDoorRPubl1
import Derived.Test.YtmgklblglpplcaaGreatDoorRPubl2
import Derived.Test.YtmgklblglpplcaaGreatDoorRPubl3
import Derived.Test.YtmgklblglpplcaaGreatDoorRPubl4
import Derived.Test.YtmgklblglpplcaaGreatDoorRPubl5
import Derived.Test.YtmgklblglpplcaaGreatDoorRPubl6
import Derived.Test.YtmgklblglpplcaaGreatDoorRPubl9
import Derived.Test.YtmgklblglpplcaaGreatDoorRPubl10
import Derived.Test.YtmgklblglpplcaaGreatDoorRPubl11
import Derived.Test.YtmgklblglpplcaaGreatDoorRPubl12
import Derived.Test.YtmgklblglpplcaaGreatDoorRPubl14
import Derived.Test.YtmgklblglpplcaaGreatDoorRPubl15
import Derived.Test.YtmgklblglpplcaaGreatDoorRPubl16
import Derived.Test.YtmgklblglpplcaaGreatDoorRPubl19
import Derived.Test.YtmgklblglpplcaaGreatDoorRPubl20
import Derived.Test.YtmgklblglpplcaaGreatDoorRPubl21
import Derived.Test.YtmgklblglpplcaaGreatDoorRPubl22
import Derived.Test.YtmgklblglpplcaaGreatDoorRPubl25
import Derived.Test.YtmgklblglpplcaaGreatDoorRPubl31
import Derived.Test.YtmgklblglpplcaaGreatDoorRPubl35
import Derived.Test.YtmgklblglpplcaaGreatDoorRPubl37
import Derived.Test.YtmgklblglpplcaaGreatDoorRPubl38
import Derived.WalkKit
import Derived.WalkSpells
import Derived.WalkLawsBesides
import Derived.Lib.Hide
import Derived.BigQuiet
import Derived.Deep.DeepFit
import Derived.Deep.DeepCutAuto
import Derived.Deep.AppendLies
import Derived.Deep.QuietTactic
import Derived.Test.YtmgklblglpplcaaGreatDoorRows
import Derived.Deep.RegionHeld3
import Derived.StillTail
import Derived.Lib.AppendStr
import Derived.Lib.AppendZeros
import Derived.Deep.MidRow
import Derived.ArgAppend
import Derived.Deep.Upon
import Derived.Maps.OwnOps
import Derived.Maps.OwnSet
import Derived.Maps.RangeWalk
import Derived.WideKeyEntry
import Derived.Lib.Bits
import Derived.Laws.EntriesVeiled
import Derived.Handy
import Derived.DeepKeys4
import Derived.Deep.CutBlock
import Derived.Test.YtmgklblglpplcaaGreatDoorShelf2
import Derived.Laws.BitsAllLaws
import Derived.Laws.BytesArg
import Derived.Test.YtmgklblglpplcaaGreatDoorShelf
import Derived.Lib.Zigzag
import Derived.Recover
import Derived.Deep.WholeRow
import Derived.Laws.IdiomStrings
import Derived.Laws.MakeOwn
import Derived.Laws.CopyOwn
import Derived.IntWalk
import Derived.RangeFuncNested
import Derived.RangeFuncBound
import Derived.RangeFuncCalls
import Derived.RangeFuncLeaves
import Derived.RangeFuncFrom
import Derived.LoopIn
import Derived.LoopNIn
import Derived.OwnWalkIn
import Derived.TacticsInMore
import Derived.Stop.BytesEq
import Derived.Defers
import Derived.Lib.SliceRun
import Derived.WalkMore
namespace Go.Proofs.YtmgklblglpplcaaGreatDoor
open Go Go.RowKit Pk
set_option maxRecDepth 100000
noncomputable def kU8:Kd Tryz.prog UInt8:={ T:=5,S:=48,k:=1,bytes:=1,enc:=fun c=>[.int .u8 (c.toNat:Int)],len:=fun _=>rfl,one:=fun n v hv=>by rw [List.mem_singleton.1 hv];rfl,pos:=by decide,small:=by decide,und:=Tryz.underlying48,info:=kinfo_of (by kernel_rfl) }
theorem flat_byV:∀l:Bytes,l.flatMap kU8.enc=byV l
 | []=>rfl
 | c :: l=>by rw [List.flatMap_cons,flat_byV l];rfl
theorem ownU8 {base:Nat} {w:World} {v:Value} {l:Bytes}:kU8.Own base w v l↔OwB base w v l:=by
 unfold Kd.Own OwB;rw [flat_byV];exact Iff.rfl
theorem append_mid {base:Nat} {w:World} {v:Value} {l:Bytes} (h:OwB base w v l) (hb:base≤w.heap.size) {b off c:Nat} (m:Bytes) (hm:w.rangeAt b off (byV m)) (hl:l.length+m.length<4294967296) (h0:0<m.length) :
  ∃g cap w',(Builtin.append_ #[48,48] 48 #[v,.slice (some ⟨b,off,none⟩) m.length c]).run Tryz.prog w=.ok (.slice (some ⟨g,0,none⟩) (l.length+m.length) cap) w' ∧
   OwB base w' (.slice (some ⟨g,0,none⟩) (l.length+m.length) cap) (l++m)∧Upd (fun k=>v.ownBlock=some k) w w':=by
 obtain ⟨g,cap,w',r,o,u,_⟩:=(ownU8.2 h).appN hb (b:=b) (off:=off) (c:=c) m (fun j hj=>fun i u hu=>by
  have hi:i=0:=by
   have:=(List.getElem?_eq_some_iff.1 hu).1;simp [kU8] at this;exact this
  subst hi;have e:(byV m)[j]?=some u:=by
   unfold byV;rw [List.getElem?_map,List.getElem?_eq_getElem hj];exact hu
  have h9:=hm j u e;have hk:kU8.k=1:=rfl;rw [hk,Nat.mul_one,Nat.add_zero];exact h9) hl h0
 exact ⟨g,cap,w',r,ownU8.1 o,u⟩
theorem u8_nat {n:Nat} (h:n<128):(UInt8.ofNat n).toNat=n:=by rw [UInt8.toNat_ofNat'];omega
theorem udigits_any {base:Nat} (v:Value) (l:Bytes) (n:Nat) (hn:n<128) (hl:l.length≤1000) (w:World) (h:OwB base w v l) (hb:base≤w.heap.size) :
  Calls Tryz.prog 50 #[v,.int .i64 (n:Int)] w fun e w'=>∃v',e=.returned v'∧OwB base w' v' (l++[UInt8.ofNat n])∧Upd (fun k=>v.ownBlock=some k) w w':=by
 obtain ⟨g,cap,w1,r,o,u⟩:=append_by hb h (UInt8.ofNat n) (by omega);rw [u8_nat hn] at r;obtain ⟨A,c,rfl,hc⟩:=h.form;have HR:=Lib.hid r;have HO:=Lib.hid o;have HU:=Lib.hid u;have hn1:¬(128:Int)≤(n:Int):=by omega
 have hw:IntKind.u8.wrap (n:Int)=(n:Int):=wrap_u8 (by omega) (by omega);clear r o u h hc;go_enter Tryz.func50,Tryz.ntmps50
 go_wp2_with fail
 go_loopw [0,1] (fun a b wr=>a=.slice A l.length c∧b=.int .i64 (n:Int)∧wr=w) (fun _ _ _=>0)
 case atStart=>exact ⟨rfl,rfl,rfl⟩
 case round=>
  obtain ⟨rfl,rfl,rfl⟩:=hrel;go_wp2_with (first | (at_builtin;refine wpList_append_run rfl _ _ _ rfl rfl rfl HR.out ?_))
  go_ret
  exact ⟨_,rfl,by have:=HO.out;simpa [OwB] using this,HU.out⟩
def pubC (pv:Value) (X:H32):List Value:=pv :: hashC X
theorem pubC_len (pv:Value) (X:H32):(pubC pv X).length=33:=by unfold pubC;rw [List.length_cons,hashC_len]
theorem pub_hash {w:World} {b:Nat} {X:H32} {pv:Value} (h:w.rangeAt b 0 (pubC pv X)):w.rangeAt b 1 (hashC X):=fun j v hv=>by
 have:=h (j+1) v (by unfold pubC;rw [List.getElem?_cons_succ];exact hv);rw [show 0+(j+1)=1+j by omega] at this;exact this
theorem pub_row {w:World} {b:Nat} {X:H32} {pv:Value} (h:w.rangeAt b 0 (pubC pv X)):w.cell? ⟨b,0,none⟩=some pv:=h 0 _ rfl
def bodyP (P:List Bytes) (k:Nat):Bytes:=[UInt8.ofNat P.length]++(P.take k).flatMap (fun s=>UInt8.ofNat s.length :: s)
theorem bodyP_succ (P:List Bytes) (k:Nat) (hk:k<P.length):bodyP P (k+1)=bodyP P k++[UInt8.ofNat P[k].length]++P[k]:=by
 unfold bodyP;rw [List.take_succ_eq_append_getElem hk,List.flatMap_append];simp
def bodyB (P:List Bytes) (X:H32):Bytes:=bodyP P P.length++X.1
theorem OwB.notBox {W:World} {B:Nat} {t:TypeId} {cs:Array Value} {base:Nat} {v:Value} {l:Bytes} (h:OwB base W v l) (hb:W.heap[B]?=some (.cells cs t (0,0))) (ht:t≠5):¬v.ownBlock=some B:=fun e=>by
 obtain ⟨_,cur,hc⟩:=h.blk e;rw [hb] at hc;have h9:(Obj.cells cs t (0,0))=.cells cur 5 (0,0):=Option.some.inj hc;injection h9 with _ h10 _
 exact ht h10
theorem OwB.fresh {w wr w3:World} {v:Value} {l:Bytes} (h:OwB w.heap.size wr v l) (hu:Upd noBlk w wr) (u3:Upd (fun k=>v.ownBlock=some k) wr w3):Upd noBlk w w3:=
 hu.then u3 (fun i hi e=>by have:=(h.blk e).1;omega)
set_option maxHeartbeats 2000000 in
theorem body_any (pv:Value) (P:List Bytes) (X:H32) (hP:P.length<128) (hs:∀s,s∈P→s.length<128) (hlen:∀k,k≤P.length→(bodyP P k).length≤800) (w:World) (h:kStr.Rd w pv P) :
  Calls Tryz.prog 25 #[.agg (pubC pv X).toArray] w fun e w'=>∃v,e=.returned v∧OwB w.heap.size w' v (bodyB P X)∧Upd noBlk w w':=by
 obtain ⟨A,cap,rfl,hc,hx⟩:=h;obtain ⟨N,hN⟩:∃N,N=w.heap.size:=⟨_,rfl⟩;obtain ⟨w1,hw1⟩:∃w1,w1=w.alloc (.cells (pubC (.slice A P.length cap) X).toArray 56):=⟨_,rfl⟩;have hb:w1.heap[N]?=some (.cells (pubC (.slice A P.length cap) X).toArray 56 (0,0)):=by rw [hw1,hN];exact heap_alloc_new w _
 have U1:Hid (Upd noBlk w w1):=by show Upd _ _ _;rw [hw1];exact (Upd.refl _ w).alloc _
 have R1:=Lib.hid hb;have hpl:=pubC_len (.slice A P.length cap) X;have HX:=Lib.hid hx;have HS:=Lib.hid hs;have HL:=Lib.hid hlen;have hp128:(P.length:Int)<128:=by omega
 have HP:=Lib.hid hP;have c0:=pub_row (range_row hb);clear hb hx hs hlen hP;go_enter Tryz.func25,Tryz.ntmps25
 go_upto_region 1 with fail
 rw [←hw1,←hN];have HN:=Lib.hid hN;clear hw1 hN;go_wp2_with fail
 refine (udigits_any (base:=w.heap.size) (.slice none 0 0) [] P.length HP.out (by simp) w1 (OwB.nil _ _) U1.out.size).mono ?_;rintro e w2 ⟨v2,rfl,o2,u2⟩;have U12:Upd noBlk w1 w2:=u2.mono (fun _ _ h=>by cases h);have U2:=Lib.hid (U1.out.trans U12);have R2:=Lib.hid (U12.heap R1.out id);have c2:=pub_row (range_row R2.out);have O2:Hid (OwB w.heap.size w2 v2 (bodyP P 0)):=by show OwB _ _ _ _;unfold bodyP;simpa using o2
 clear o2 u2 U12 c0 R1;go_wp2_with fail
 go_loopw [3,13] (fun r i wr=>∃k:Nat,i=.int .i64 k∧k≤P.length∧OwB w.heap.size wr r (bodyP P k)∧Upd noBlk w wr∧wr.heap[N]?=some (.cells (pubC (.slice A P.length cap) X).toArray 56 (0,0))) (fun _ i _=>P.length-(intOf i).toNat)
 case atStart=>exact ⟨0,rfl,Nat.zero_le _,O2.out,U2.out,R2.out⟩
 case round=>
  obtain ⟨k,rfl,hk,ho,hu,hr⟩:=hrel;have HO:=Lib.hid ho;have HU:=Lib.hid hu;have HR:=Lib.hid hr;have hk63:(k:Int)<128:=by omega
  clear ho hu hr O2 U2 R2 c2;by_cases hlt:k<P.length
  ·have hlt':(k:Int)<(P.length:Int):=by omega
   obtain ⟨b,off,rfl,hx⟩:=HX.out (by omega);have cs:wr.cell? ⟨b,off+k,none⟩=some (.string (bs P[k])):=by
    have h9:=(hx k hlt).keep HU.out 0 _ rfl;rw [show kStr.k=1 from rfl,Nat.mul_one,Nat.add_zero] at h9;exact h9
   have HSU:=Lib.hid (bodyP_succ P k hlt);have HSL:Hid (P[k].length<128):=HS.out _ (List.getElem_mem hlt);have HL1:=Lib.hid (HL.out k (by omega));clear hx HX HL;generalize P[k]=s at *;have hsz:(bs s).size=s.length:=bs_size s;go_wp2_with fail
   refine (udigits_any (base:=w.heap.size) _ (bodyP P k) s.length HSL.out (by have:=HL1.out;omega) wr HO.out HU.out.size).mono ?_;rintro e w3 ⟨v3,rfl,o3,u3⟩;have U3:=Lib.hid (HO.out.fresh HU.out u3);have HO3:=Lib.hid o3;have HR3:=Lib.hid (u3.heap HR.out (HO.out.notBox HR.out (by decide)));clear o3 u3;obtain ⟨v4,w4,r4,o4,u4⟩:=append_str U3.out.size HO3.out s (by have:=HL1.out;have h2:=HSL.out;simp only [List.length_append,List.length_cons,List.length_nil];omega);have HR4:=Lib.hid r4;have O4:Hid (OwB w.heap.size w4 v4 (bodyP P (k+1))):=by show OwB _ _ _ _;rw [HSU.out];exact o4
   have U4:=Lib.hid (HO3.out.fresh U3.out u4);have HN4:=Lib.hid (u4.heap HR3.out (HO3.out.notBox HR3.out (by decide)));clear r4 o4 u4;go_wp2_with (first | (at_builtin;refine wpList_append_run2 rfl _ _ _ _ rfl rfl rfl HR4.out ?_))
   exact ⟨⟨k+1,by push_cast;rfl,hlt,O4.out,U4.out,HN4.out⟩,by simp only [intOf];omega⟩
  ·obtain rfl:k=P.length:=by omega
   have HRH:=pub_hash (range_row HR.out);have hx32:X.1.length=32:=X.2;obtain ⟨g,cap3,w3,r3,o3,u3⟩:=append_mid HO.out HU.out.size (b:=N) (off:=1) (c:=32) X.1 HRH (by have:=HL.out _ (Nat.le_refl _);omega) (by omega);rw [hx32] at r3 o3;have R3:=Lib.hid r3;have O3:Hid (OwB w.heap.size w3 (.slice (some ⟨g,0,none⟩) ((bodyP P P.length).length+32) cap3) (bodyB P X)):=o3;have U3:=Lib.hid (HO.out.fresh HU.out u3);obtain ⟨A3,c3,rfl,hc3⟩:=HO.out.form;clear r3 o3 u3 HRH;go_wp2_with (first | (at_builtin;refine wpList_append_run rfl _ _ _ rfl rfl rfl R3.out ?_))
   go_ret
   exact ⟨_,rfl,O3.out,U3.out⟩
end Go.Proofs.YtmgklblglpplcaaGreatDoor
namespace Go.Proofs.YtmgklblglpplcaaGreatDoor
open Go Go.RowKit Pk
set_option maxRecDepth 100000
def strB (D:Nat) (en:Int) (M:Nat) (ov rv:Value) (br:Bool):Obj:=.cells #[.pointer (some ⟨D,0,none⟩),.int .i64 en,.map (some M),ov,rv,.bool br] 33 (0,0)
theorem str_cells {w:World} {S D M:Nat} {en:Int} {ov rv:Value} {br:Bool} (h:w.heap[S]?=some (strB D en M ov rv br)):w.cell? ⟨S,0,none⟩=some (.pointer (some ⟨D,0,none⟩))∧w.cell? ⟨S,1,none⟩=some (.int .i64 en)∧w.cell? ⟨S,2,none⟩=some (.map (some M))∧w.cell? ⟨S,3,none⟩=some ov ∧
  w.cell? ⟨S,4,none⟩=some rv∧w.cell? ⟨S,5,none⟩=some (.bool br)∧w.frozen? ⟨S,0,none⟩=false∧w.frozen? ⟨S,1,none⟩=false∧w.frozen? ⟨S,2,none⟩=false∧w.frozen? ⟨S,3,none⟩=false∧w.frozen? ⟨S,4,none⟩=false∧w.frozen? ⟨S,5,none⟩=false:=by
 simp [World.cell?,World.frozen?,h,strB]
def wQ (B k:Nat) (o:Obj):Prop:=B≤k∧tyQ [5,144,60,33] o
theorem dQ_wQ {B:Nat} (k:Nat) (o:Obj) (h:dQ B k o):wQ B k o:=by
 obtain ⟨hb,cs,T,fr,rfl,hT⟩:=h;refine ⟨hb,cs,T,fr,rfl,?_⟩;simp at hT ⊢;rcases hT with h | h | h<;>simp [h]
theorem dQ_str {B k:Nat} (D:Nat) (en:Int) (M:Nat) (ov rv:Value) (br:Bool):¬dQ B k (strB D en M ov rv br):=fun h=>by
 have:=tyQ_cells.1 h.2;simp at this
theorem wQ_str {B k:Nat} (h:B≤k) (D:Nat) (en:Int) (M:Nat) (ov rv:Value) (br:Bool):wQ B k (strB D en M ov rv br):=⟨h,tyQ_cells.2 (by simp)⟩
def frameB (B:Bytes):Bytes:=UInt8.ofNat B.length :: B
set_option maxHeartbeats 4000000 in
theorem write_any {B0 S D M n base:Nat} {en:Nat} {ov rv bv:Value} {l:Bytes} (B:Bytes) (hB:B.length<128) (hB0:0<B.length) (hen:en≤10000) (hl:l.length≤10000) (hn:n≤10000) (w:World)
  (hS:w.heap[S]?=some (strB D (en:Int) M ov rv false)) (hD:DiskAt B0 D w l n) (hb:OwB base w bv B) (hBS:B0≤S) :
  Calls Tryz.prog 24 #[.pointer (some ⟨S,0,none⟩),bv] w fun e w'=>e=.returned (.int .i64 0)∧w'.heap[S]?=some (strB D ((en+1+(frameB B).length:Nat):Int) M ov rv false) ∧
   DiskAt B0 D w' (putB (putB l (en+1) (frameB B++[0])) en [1]) (n+200)∧UpdO (wQ B0) w w':=by
 obtain ⟨gb,cb,rfl⟩:∃gb cb,bv=.slice (some ⟨gb,0,none⟩) B.length cb:=by
  rcases hb.2 with ⟨_,e0⟩ | ⟨g,cap,cur,e,_⟩
  ·omega
  ·exact ⟨g,cap,e⟩
 have HS:=Lib.hid hS;have HD:=Lib.hid hD;have HB:=Lib.hid hb;have HBS:=Lib.hid hBS;clear hBS;have HN:Hid (B.length<128∧0<B.length∧en≤10000∧l.length≤10000∧n≤10000):=⟨hB,hB0,hen,hl,hn⟩;have h63:(en:Int)+1≤9223372036854775807:=by omega
 have h0:-9223372036854775808≤(en:Int)+1:=by omega
 clear hS hD hb hB hB0 hen hl hn;go_enter Tryz.func24,Tryz.ntmps24
 go_wp2_with fail
 go_step3
 go_wp2_with fail
 refine (udigits_any (base:=w.heap.size) (.slice none 0 0) [] B.length HN.out.1 (by simp) w (OwB.nil _ _) (Nat.le_refl _)).mono ?_;rintro e w1 ⟨v1,rfl,o1,u1⟩;have U1:Hid (Upd noBlk w w1):=u1.mono (fun _ _ h=>by cases h);have hrd:=(OwB.rd (HB.out.upd U1.out)).2;obtain ⟨g2,c2,w2,r2,o2,u2⟩:=append_mid o1 U1.out.size (b:=gb) (off:=0) (c:=cb) B hrd (by have:=HN.out;simp;omega) HN.out.2.1;obtain ⟨A1,c1,rfl,_⟩:=o1.form;have U2:=Lib.hid (o1.fresh U1.out u2);obtain ⟨nf,hnf⟩:∃nf,nf=(frameB B).length:=⟨_,rfl⟩;have hnf2:([]++[UInt8.ofNat B.length]).length+B.length=nf:=by rw [hnf];simp [frameB];omega
 rw [hnf2] at r2 o2;have HR2:=Lib.hid r2;have O2:Hid (OwB w.heap.size w2 (.slice (some ⟨g2,0,none⟩) nf c2) (frameB B)):=by show OwB _ _ _ _;exact o2
 have HNF:=Lib.hid hnf;clear o1 u1 r2 o2 u2 hrd hnf hnf2;go_upto_region 2 with (first | (at_builtin;refine wpList_append_run rfl _ _ _ rfl rfl rfl HR2.out ?_))
 have UDd:Hid (Upd noBlk w w2.drew):=U2.out.drew;have O2d:Hid (OwB w.heap.size w2.drew (.slice (some ⟨g2,0,none⟩) nf c2) (frameB B)):=O2.out.upd (Upd.refl noBlk w2).drew;obtain ⟨g3,c3,w3,r3,o3,u3⟩:=append_by (l:=frameB B) UDd.out.size O2d.out 0 (by have:=HN.out;simp [frameB];omega);rw [←HNF.out] at r3 o3;have HR3:Hid ((Builtin.append_ #[48,48] 48 #[.slice (some ⟨g2,0,none⟩) nf c2,.slice (some ⟨w2.drew.heap.size,0,none⟩) 1 1]).run Tryz.prog (w2.drew.alloc (.cells #[.int .u8 0] 5))=.ok (.slice (some ⟨g3,0,none⟩) (nf+1) c3) w3):=r3;have hnl:nf+1=(frameB B++[0]).length:=by rw [HNF.out];simp
 have HCV:Hid ((convert 48 9 (.slice (some ⟨g3,0,none⟩) (nf+1) c3)).run Tryz.prog w3=.ok (.string (bs (frameB B++[0]))) w3):=conv_bs hnl (by rw [hnl] at o3 ⊢;exact o3);have U3:=Lib.hid (O2d.out.fresh UDd.out u3);have HU3:=Lib.hid u3;obtain ⟨s0,s1,s2,s3,s4,s5,f0,f1,f2,f3,f4,f5⟩:=str_cells (U2.out.heap HS.out id);have S0:=Lib.hid s0;have S1:=Lib.hid s1;have hS2:=U2.out.heap HS.out id;have hns:¬(Value.slice (some ⟨g2,0,none⟩) nf c2).ownBlock=some S:=O2.out.notBox hS2 (by decide);have HNS:=Lib.hid hns;clear r3 o3 u3 hnl s0 s1 s2 s3 s4 s5 f0 f1 f2 f3 f4 f5 hS2 hns;refine Code.wp_mono (Q:=noPan _) (fun e a w h=>noPan_out h) ?_;refine wp_region_tree 13 (OT.sures [0,4,9,1,2,3,5,6,7,8] (.run 10 (.run 11 (.sure 12 .nil)))) (fun w'=>Upd (fun k=>(Value.slice (some ⟨g2,0,none⟩) nf c2).ownBlock=some k) w2 w') (by kernel_rfl) (by kernel_rfl) (fun c a d v w h=>h) ((Upd.refl _ w2).drew) ?_;simp only [OT.sures]
 iterate 10 (apply wpT_sure rfl rfl;focus (intro w' hw';have g0:=hw'.cell S0.out HNS.out;have g1:=hw'.cell S1.out HNS.out;go_simp;rfl))
 have UD2:Hid (Upd noBlk w2 w2.drew):=(Upd.refl noBlk w2).drew;generalize w2.drew=wd at *;refine wpT_run (fun w'=>Upd (fun k=>(Value.slice (some ⟨g2,0,none⟩) nf c2).ownBlock=some k) w2 w') (fun _ h=>h) rfl (fun K' hK=>?_);refine if_wantU (by go_simp) ?_;go_simp
 refine hK _ _ ⟨(UD2.out.mono (fun _ _ h=>h.elim)).alloc _,?_⟩;clear hK K';refine wpT_run (fun w'=>w'=w3) (fun w' h=>by rw [h];exact (UD2.out.mono (fun _ _ h=>h.elim)).trans HU3.out) rfl (fun K' hK=>?_);refine if_wantU (by go_simp) ?_;refine wp_append_run (.tmp 21) (.tmp 22) _ rfl (by go_simp) (by go_simp) HR3.out ?_;refine hK _ _ ⟨rfl,?_⟩;clear hK K';refine wpT_sure rfl rfl (.string (bs (frameB B++[0]))) (fun w' hw'=>?_) ?_
 focus (subst hw';have e1:=HCV.out;go_simp)
 refine wpT_nil ?_;go_wp2_with fail
 have hfl:(frameB B++[0]).length=nf+1:=by rw [HNF.out];simp
 have hnf:nf=B.length+1:=by rw [HNF.out];rfl
 have HNV:Hid (nf=B.length+1):=hnf;have HW:=dwrite_any (D:=D) (n:=n) (l:=l) (by have:=HN.out;omega) (by have:=HN.out;omega) (en+1) (frameB B++[0]) (by have:=HN.out;rw [hfl];omega) (by rw [hfl];omega) w3 (HD.out.keep U3.out);have hc:(((en+1:Nat)):Int)=(en:Int)+1:=by omega
 rw [hc,hfl] at HW;have HWW:=Lib.hid HW;have S3:=Lib.hid (U3.out.heap HS.out id);clear HW hc hfl hnf;refine HWW.out.mono ?_;rintro e w4 ⟨rfl,d4,u4⟩;have S4:=Lib.hid (u4.keep S3.out (dQ_str _ _ _ _ _ _));have D4:=Lib.hid d4;have U4:Hid (UpdO (wQ B0) w w4):=(UpdO.same U3.out).trans (u4.mono dQ_wQ);obtain ⟨t0,t1,t2,t3,t4,t5,g0,g1,g2',g3',g4,g5⟩:=str_cells S4.out;have HPL:Hid ((putB l (en+1) (frameB B++[0])).length≤20000):=by
  have h1:=putB_len l (en+1) (frameB B++[0]);have h2:(frameB B++[0]).length=B.length+2:=by simp [frameB]
  have:=HN.out;show _≤_;rw [h1,h2];omega
 clear d4 u4 HWW;go_wp2_with fail
 (try simp only [noPan,Exit.then])
 go_wp2_with fail
 refine (dsync_any (by have:=HPL.out;omega) (by have:=HN.out;have:=HNV.out;omega) w4 D4.out).mono ?_;rintro e w5 ⟨rfl,d5,u5⟩;have S5:=Lib.hid (u5.keep S4.out (dQ_str _ _ _ _ _ _));have D5:=Lib.hid d5;have U5:Hid (UpdO (wQ B0) w w5):=U4.out.trans (u5.mono dQ_wQ);clear d5 u5 t0 t1 t2 t3 t4 t5 g0 g1 g2' g3' g4 g5;obtain ⟨t0,t1,t2,t3,t4,t5,g0,g1,g2',g3',g4,g5⟩:=str_cells S5.out;have T0:=Lib.hid t0;have T1:=Lib.hid t1;clear t0 t1 t2 t3 t4 t5 g0 g1 g2' g3' g4 g5;go_upto_region 6 with fail
 have UD5:Hid (Upd noBlk w5 w5.drew):=(Upd.refl noBlk w5).drew;have HCW:Hid ((convert 48 9 (.slice (some ⟨w5.drew.heap.size,0,none⟩) 1 1)).run Tryz.prog (w5.drew.alloc (.cells #[.int .u8 1] 5))=.ok (.string (bs [1])) (w5.drew.alloc (.cells #[.int .u8 1] 5))):=
  conv_bs (l:=[1]) (base:=0) rfl (OwB.whole (l:=[1]) (Nat.zero_le _) (heap_alloc_new w5.drew _) (by decide))
 refine Code.wp_mono (Q:=noPan _) (fun e a w h=>noPan_out h) ?_;refine wp_region_tree 10 (OT.sures [0,4,1,2,3,5,6,7] (.run 8 (.sure 9 .nil))) (fun w'=>Upd noBlk w5 w') (by kernel_rfl) (by kernel_rfl) (fun c a d v w h=>h) UD5.out ?_;simp only [OT.sures]
 iterate 8 (apply wpT_sure rfl rfl;focus (intro w' hw';have g0:=hw'.cell T0.out id;have g1:=hw'.cell T1.out id;go_simp;rfl))
 generalize w5.drew=wd5 at *;obtain ⟨w6,hw6⟩:∃w6,w6=wd5.alloc (.cells #[.int .u8 1] 5):=⟨_,rfl⟩;rw [←hw6] at HCW;have U56:Hid (Upd noBlk w5 w6):=by show Upd _ _ _;rw [hw6];exact UD5.out.alloc _
 have HW6:=Lib.hid hw6;clear hw6;refine wpT_run (fun w'=>w'=w6) (fun w' h=>by rw [h];exact U56.out) rfl (fun K' hK=>?_);refine if_wantU (by go_simp) ?_;go_simp
 refine hK _ _ ⟨HW6.out.symm,?_⟩;clear hK K';refine wpT_sure rfl rfl (.string (bs [1])) (fun w' hw'=>?_) ?_
 focus (subst hw';have e1:=HCW.out;go_simp)
 rw [←HW6.out];clear HW6;refine wpT_nil ?_;have HW2:=Lib.hid (dwrite_any (D:=D) (by have:=HPL.out;omega) (by have:=HN.out;have:=HNV.out;omega) en [1] (by have:=HN.out;simp;omega) (by simp) w6 (D5.out.keep U56.out));have S6:=Lib.hid (U56.out.heap S5.out id);go_wp2_with fail
 refine HW2.out.mono ?_;rintro e w7 ⟨rfl,d7,u7⟩;have S7:=Lib.hid (u7.keep S6.out (dQ_str _ _ _ _ _ _));have D7:=Lib.hid d7;have U7:Hid (UpdO (wQ B0) w w7):=(U5.out.trans (UpdO.same U56.out)).trans (u7.mono dQ_wQ);obtain ⟨t0,t1,t2,t3,t4,t5,g0,g1,g2',g3',g4,g5⟩:=str_cells S7.out;clear d7 u7 HW2;have HPL7:Hid ((putB (putB l (en+1) (frameB B++[0])) en [1]).length≤40000):=by
  have h1:=putB_len (putB l (en+1) (frameB B++[0])) en [1];have:=HN.out;have:=HPL.out;show _≤_;rw [h1,List.length_singleton];omega
 go_wp2_with fail
 (try simp only [noPan,Exit.then])
 go_wp2_with fail
 refine (dsync_any (by have:=HPL7.out;omega) (by have:=HN.out;have:=HNV.out;simp;omega) w7 D7.out).mono ?_;rintro e w8 ⟨rfl,d8,u8⟩;have S8:=Lib.hid (u8.keep S7.out (dQ_str _ _ _ _ _ _));have D8:=Lib.hid d8;have U8:Hid (UpdO (wQ B0) w w8):=U7.out.trans (u8.mono dQ_wQ);clear d8 u8 t0 t1 t2 t3 t4 t5 g0 g1 g2' g3' g4 g5;obtain ⟨t0,t1,t2,t3,t4,t5,g0,g1,g2',g3',g4,g5⟩:=str_cells S8.out;have hq1:(en:Int)+(1+(nf:Int))≤9223372036854775807:=by have:=HN.out;have:=HNV.out;omega
 have hq2:1+(nf:Int)≤9223372036854775807:=by have:=HN.out;have:=HNV.out;omega
 go_wp2_with fail
 rw [Exit.noGoto_ret];go_ret
 have hs:=heap_setCell_eq (i:=1) (.int .i64 ((en:Int)+(1+(nf:Int)))) S8.out;refine ⟨rfl,hs.trans ?_,?_,U8.out.trans (UpdO.blk ((Upd.refl (fun k=>k=S) w8).setCell (p:=⟨S,1,none⟩) (fun _=>rfl) _) S8.out (wQ_str HBS.out _ _ _ _ _ _))⟩
 ·have e:((en+1+(frameB B).length:Nat):Int)=(en:Int)+(1+(nf:Int)):=by rw [HNF.out];omega
  rw [e];rfl
 ·refine DiskAt.mono (n:=n+1+(nf+1)+1+1+1+1) ?_ (by have:=HN.out;have:=HNV.out;omega);have d8:DiskAt B0 D w8 (putB (putB l (en+1) (frameB B++[0])) en [1]) (n+1+(nf+1)+1+1+1+1):=D8.out;obtain ⟨nv,sv,lv,ca,lf,ps,k1,k2,k3,k4⟩:=d8;have hne:D≠S:=fun e=>by
   rw [e,S8.out] at k1;cases k1
  have hu:=(Upd.refl (fun k=>k=S) w8).setCell (p:=⟨S,1,none⟩) (fun _=>rfl) (.int .i64 ((en:Int)+(1+(nf:Int))));refine ⟨nv,sv,lv,ca,lf,ps,hu.heap k1 hne,k2.other hu (fun g hg e=>?_),k3.other hu (fun g hg e=>?_),k4⟩
  ·exact k2.notBox S8.out (by decide) (by rw [hg,e])
  ·obtain ⟨_,cur,hc⟩:=k3.blk hg;rw [e,S8.out] at hc;cases hc
end Go.Proofs.YtmgklblglpplcaaGreatDoor
