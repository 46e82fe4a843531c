/- Parts: Walks of the packets' program: bytes and numbers are read. No condition. Walks of the packets' program: hashes, parts and moves are read. No condition. Walks of the reference of packets: digits, hashes. No condition. -/
import Derived.Test.YtcikldoaidmnhaaGreatDoorRSpoi1
import Derived.Test.YtcikldoaidmnhaaGreatDoorRSpoi2
import Derived.Test.YtcikldoaidmnhaaGreatDoorRSpoi4
import Derived.Test.YtcikldoaidmnhaaGreatDoorRSpoi5
import Derived.Test.YtcikldoaidmnhaaGreatDoorRSpoi6
import Derived.Test.YtcikldoaidmnhaaGreatDoorRSpoi7
import Derived.Test.YtcikldoaidmnhaaGreatDoorRSpoi11
import Derived.Test.YtcikldoaidmnhaaGreatDoorRSpoi12
import Derived.Test.YtcikldoaidmnhaaGreatDoorRSpoi14
import Derived.Test.YtcikldoaidmnhaaGreatDoorRSpoi18
import Derived.Test.YtcikldoaidmnhaaGreatDoorRSpoi19
import Derived.Test.YtcikldoaidmnhaaGreatDoorRSpoi20
import Derived.Test.YtcikldoaidmnhaaGreatDoorRSpoi22
import Derived.WalkKit
import Derived.WalkSpells
import Derived.WalkLawsBesides
import Derived.Lib.Hide
import Derived.BigQuiet
import Derived.Deep.DeepFit
import Derived.Deep.DeepCutAuto
import Derived.Deep.AppendLies
import Derived.Deep.QuietTactic
import Derived.Test.YtcikldoaidmnhaaGreatDoorRows
import Derived.Deep.RegionHeld3
import Derived.StillTail
import Derived.Maps.OwnOps
import Derived.Maps.OwnSet
import Derived.Maps.RangeWalk
import Derived.WideKeyEntry
import Derived.Deep.MidRow
import Derived.Lib.Bits
import Derived.Laws.EntriesVeiled
import Derived.Handy
import Derived.DeepKeys4
import Derived.ArgAppend
import Derived.Deep.Upon
import Derived.Deep.CutBlock
import Derived.Test.YtcikldoaidmnhaaGreatDoorShelf2
import Derived.Laws.BitsAllLaws
import Derived.Laws.BytesArg
import Derived.Deep.WholeRow
import Derived.Test.YtcikldoaidmnhaaGreatDoorShelf
import Derived.Lib.Zigzag
import Derived.Recover
import Derived.Laws.IdiomStrings
namespace Go.Proofs.YtcikldoaidmnhaaGreatDoor
open Go Go.RowKit Pk
set_option maxRecDepth 100000
set_option maxHeartbeats 1000000 in
theorem jdigits_any (n:Nat) (hn:n<9223372036854775808) (w:World):Calls Tryz.prog 82 #[.int .i64 n] w fun en w'=>strR (digB n) w en w':=by
 have HN:Hid (n<9223372036854775808):=hn;have HT:=Lib.hid (digB_ten hn);have h63:(n:Int)≤9223372036854775807:=by omega
 clear hn;go_enter Tryz.func82,Tryz.ntmps82
 go_wp2_with fail
 go_loopw [0,3] (fun i o wr=>∃(m:Nat) (L:Bytes),i=.int .i64 m∧L++digB m=digB n∧m≤n∧o=.string (bs L)∧Upd noBlk w wr) (fun i _ _=>(intOf i).toNat)
 case atStart=>exact ⟨n,[],rfl,rfl,Nat.le_refl _,rfl,Upd.refl _ _⟩
 case round=>
  obtain ⟨m,L,rfl,h1,h2,rfl,h4⟩:=hrel;have HL:=Lib.hid h1;have HM:=Lib.hid h2;have HU:=Lib.hid h4;have hm63:(m:Int)≤9223372036854775807:=by omega
  have HLL:Hid (L.length≤10):=by have h5:=congrArg List.length h1;rw [List.length_append] at h5;have:=HT.out;show _≤_;omega
  clear h1 h2 h4 h63;by_cases hb:m<128
  ·have hb':(m:Int)<128:=by omega
   have hb'':¬(128:Int)≤(m:Int):=by omega
   have HB:=Lib.hid hb;clear hb;obtain ⟨x,hx⟩:∃x,x=UInt8.ofNat m:=⟨_,rfl⟩;have hxm:(x.toNat:Int)=(m:Int):=by rw [hx,u8_small (by have:=HB.out;omega)]
   have HU2:Hid (Upd noBlk w (wr.alloc (.cells #[.int .u8 m] 5))):=HU.out.alloc _;have hcv:=conv_one x wr.heap.size (wr.alloc (.cells #[.int .u8 m] 5)) (by rw [hxm];exact heap_alloc_new wr _);have hsz:¬9223372036854775807<(bs L).size+(bs [x]).size:=by rw [bs_size,bs_size];have:=HLL.out;simp only [List.length_cons,List.length_nil];omega
   have hwm:IntKind.u8.wrap (m:Int)=(m:Int):=by simp [IntKind.wrap,IntKind.signed,IntKind.bits];omega
   go_wp2_with fail
   go_ret
   refine ⟨?_,HU2.out⟩;show Ending.returned (.string (bs L++bs [UInt8.ofNat m]))=_;rw [bs_append,←HL.out,digB_small HB.out]
  ·have hb':(128:Int)≤(m:Int):=by omega
   have HB:=Lib.hid hb;clear hb;obtain ⟨x,hx⟩:∃x,x=UInt8.ofNat (m % 128+128):=⟨_,rfl⟩;have hxm:(x.toNat:Int)=(m:Int) % 128+128:=by rw [hx,u8_small (by omega)];omega
   have HX:Hid (x=UInt8.ofNat (m % 128+128)):=hx;clear hx;have HU2:Hid (Upd noBlk w (wr.alloc (.cells #[.int .u8 ((m:Int) % 128+128)] 5))):=HU.out.alloc _;have hcv:=conv_one x wr.heap.size (wr.alloc (.cells #[.int .u8 ((m:Int) % 128+128)] 5)) (by rw [hxm];exact heap_alloc_new wr _);have hsz:¬9223372036854775807<(bs L).size+(bs [x]).size:=by rw [bs_size,bs_size];have:=HLL.out;simp only [List.length_cons,List.length_nil];omega
   clear hxm;go_wp2_with fail
   refine ⟨⟨m / 128,L++[x],by go_num,?_,by have:=HM.out;omega,by rw [←bs_append],HU2.out⟩,?_⟩
   ·rw [←HL.out,digB_big HB.out,HX.out];simp
   ·simp only [intOf];have:=HB.out;omega
set_option maxHeartbeats 1000000 in
theorem jbytes_any (h:H32) (w:World):Calls Tryz.prog 83 #[.agg (byV h.1).toArray] w fun en w'=>strR h.1 w en w':=by
 have HB:Hid ((w.alloc (.cells (byV h.1).toArray 81)).heap[w.heap.size]?=some (.cells (byV h.1).toArray 81 (0,0))):=heap_alloc_new w _;have HU0:Hid (Upd noBlk w (w.alloc (.cells (byV h.1).toArray 81))):=(Upd.refl _ w).alloc _;go_enter Tryz.func83,Tryz.ntmps83
 go_wp2_with fail
 generalize w.alloc (.cells (byV h.1).toArray 81)=w1 at *;obtain ⟨N,hN⟩:∃N,N=w.heap.size:=⟨_,rfl⟩;rw [←hN] at HB ⊢;have HWN:Hid (w.heap.size≤N):=by show _≤_;omega
 clear hN;go_loopw [3,4] (fun o i wr=>∃k:Nat,i=.int .i64 k∧k≤32∧wr.ownsRow w1.heap.size 5 1 o k (byV (h.1.take k))∧Upd noBlk w1 wr) (fun _ i _=>32-(intOf i).toNat)
 case atStart=>exact ⟨0,rfl,by omega,World.ownsRow_nil _ _ _ _,Upd.refl _ _⟩
 case round=>
  obtain ⟨k,rfl,hk,ho,hu⟩:=hrel;have HO:=Lib.hid ho;have HU:=Lib.hid hu;obtain ⟨A,cap,rfl⟩:=own_form ho;clear ho hu;have hl32:h.1.length=32:=h.2;have HTL:Hid ((h.1.take k).length=k):=by show _=_;rw [List.length_take];omega
  by_cases hlt:k<32
  ·have hlt':(k:Int)<32:=by omega
   have hc:wr.cell? ⟨N,k,none⟩=some (.int .u8 ((h.1[k]'(by omega)).toNat)):=by
    rw [cell_of_row _ _ k _ 81 (0,0) (HU.out.heap HB.out id)];simp [byV,hl32,hlt]
   have HTK:Hid (h.1.take (k+1)=h.1.take k++[h.1[k]'(by omega)]):=List.take_succ_eq_append_getElem (by omega);generalize h.1[k]'(by omega)=x at *;have ho2:=HO.out;rw [show (Value.slice A k cap)=Value.slice A (h.1.take k).length cap by rw [HTL.out]] at ho2;have hup:Upd noBlk w wr:=HU0.out.trans HU.out;have ho3:wr.ownsRow w1.heap.size 5 1 (.slice A (h.1.take k).length cap) (h.1.take k).length (byV (h.1.take k)):=by have:=HO.out;rw [HTL.out];exact this
   obtain ⟨g,cap3,w3,r3,o3,u3⟩:=append_by HU.out.size ho3 x (by rw [HTL.out];omega);rw [HTL.out] at r3 o3;rw [←HTK.out] at o3;have R3:=Lib.hid r3;have O3:=Lib.hid o3;have HU3:=Lib.hid (HU.out.then u3 (fun i hi e=>absurd hi (by have:=(ho3.lt i e).1;omega)));clear r3 o3 u3 ho2 ho3 hup;go_wp2_with (first | (at_builtin;refine wpList_append_run rfl _ _ _ rfl rfl rfl R3.out ?_))
   exact ⟨⟨k+1,by push_cast;rfl,hlt,by have:=O3.out;rw [List.length_take,Nat.min_eq_left (by omega)] at this;exact this,HU3.out⟩,by simp only [intOf];omega⟩
  ·obtain rfl:k=32:=by omega
   have hcv:(convert 41 9 (.slice A 32 cap)).run Tryz.prog wr=.ok (.string (bs h.1)) wr:=by
    have hx:=HO.out;have e:h.1.take 32=h.1:=List.take_of_length_le (by omega);rw [e] at hx;have h1:=conv_bs (l:=h.1) (n:=32) hl32.symm hx;exact h1
   have HUZ:=Lib.hid (HU0.out.trans HU.out);go_wp2_with fail
   go_ret
   exact ⟨rfl,HUZ.out⟩
end Go.Proofs.YtcikldoaidmnhaaGreatDoor
namespace Go.Proofs.YtcikldoaidmnhaaGreatDoor
open Go Go.RowKit Pk Pc
set_option maxRecDepth 100000
def RdS (w:World) (b:Nat) (s:Bytes):Prop:=w.heap[b]?=some (.cells #[.string (bs s)] 193 (0,0))
theorem takeR_short {n:Nat} {s:Bytes} (h:s.length<n):takeR n s=none:=if_pos h
theorem takeR_good {n:Nat} {s:Bytes} (h:¬s.length<n):takeR n s=some (s.take n,s.drop n):=if_neg h
set_option maxHeartbeats 1000000 in
theorem kTake_any (b n:Nat) (s:Bytes) (w:World) (h:RdS w b s) :
  Calls Tryz.prog 136 #[.pointer (some ⟨b,0,none⟩),.int .i64 n] w fun en w'=>orFail (takeR n s) (fun a en w'=>en=.returned (.string (bs a.1))∧RdS w' b a.2∧Upd (fun k=>k=b) w w') (fun w'=>w=w') en w':=by
 have HF:=fun W=>Lib.hid (fail_any W);obtain ⟨hc,hf⟩:=cellF1 h;have HH:Hid (w.heap[b]?=some (.cells #[.string (bs s)] 193 (0,0))):=h;obtain ⟨tgt,htgt⟩:∃t,t=takeR n s:=⟨_,rfl⟩;rw [←htgt];by_cases hl:s.length<n
 ·have HTN:Hid (tgt=none):=by show _=_;rw [htgt];exact takeR_short hl
  have hsz:((bs s).size:Int)<(n:Int):=by rw [bs_size];omega
  clear htgt h;go_enter Tryz.func136,Tryz.ntmps136
  go_wp2_with fail
  refine (HF _).out.mono ?_;rintro e w2 ⟨rfl,rfl⟩;unfold panicW;go_wp2_with fail
  refine ⟨rfl,?_⟩;rw [HTN.out];exact ⟨rfl,rfl⟩
 ·have HTS:Hid (tgt=some (s.take n,s.drop n)):=by show _=_;rw [htgt];exact takeR_good hl
  have hsz:¬((bs s).size:Int)<(n:Int):=by rw [bs_size];omega
  have hsz2:(n:Int)≤((bs s).size:Int):=by omega
  have hx1:(bs s).extract 0 n=bs (s.take n):=by rw [bs_extract];simp
  have hx2:(bs s).extract n (bs s).size=bs (s.drop n):=by rw [bs_extract,bs_size];congr 1;rw [List.take_of_length_le (by rw [List.length_drop];omega)]
  clear htgt h;go_enter Tryz.func136,Tryz.ntmps136
  go_wp2_with fail
  go_ret
  rw [HTS.out];exact ⟨rfl,heap_setCell_eq (i:=0) _ HH.out,(Upd.refl (fun k=>k=b) w).setCell (p:=⟨b,0,none⟩) (fun _=>rfl) _⟩
def kindM (k:Nat):Bytes→Option Bytes
 | []=>none
 | c :: r=>if c.toNat=k then some r else none
set_option maxHeartbeats 1000000 in
theorem kKind_any (b k:Nat) (s:Bytes) (w:World) (h:RdS w b s) :
  Calls Tryz.prog 123 #[.pointer (some ⟨b,0,none⟩),.int .u8 k] w fun en w'=>orFail (kindM k s) (fun a en w'=>en=.returned (.tuple #[])∧RdS w' b a∧Upd (fun k=>k=b) w w') (Upd (fun k=>k=b) w) en w':=by
 have HF:=fun W=>Lib.hid (fail_any W);have HTK:=Lib.hid (kTake_any b 1 s w h);obtain ⟨tgt,htgt⟩:∃t,t=kindM k s:=⟨_,rfl⟩;rw [←htgt];have HT:=Lib.hid htgt;clear htgt h;go_enter Tryz.func123,Tryz.ntmps123
 go_wp2_with fail
 refine HTK.out.mono ?_;intro e w2 hp;cases s with
 | nil=>
  have HTN:Hid (tgt=none):=HT.out;rw [takeR_short (by decide)] at hp;obtain ⟨rfl,rfl⟩:=hp;clear HTK HT;unfold panicW;go_wp2_with fail
  refine ⟨rfl,?_⟩;rw [HTN.out];exact ⟨rfl,Upd.refl _ _⟩
 | cons c r=>
  rw [takeR_good (by simp)] at hp;obtain ⟨rfl,h2,u2⟩:=hp;have HR:=Lib.hid h2;have HU:=Lib.hid u2;clear HTK h2 u2;simp only [List.take_succ_cons,List.take_zero,List.drop_succ_cons,List.drop_zero] at HR ⊢;have hz:0<(bs [c]).size:=by rw [bs_size];simp
  have h0:((bs [c])[0]'hz).toNat=c.toNat:=rfl;by_cases hk:c.toNat=k
  ·have HTS:Hid (tgt=some r):=by show _=_;rw [HT.out];exact if_pos hk
   subst hk;clear HT;go_wp2_with fail
   go_end0
   rw [HTS.out];exact ⟨rfl,HR.out,HU.out⟩
  ·have HTN:Hid (tgt=none):=by show _=_;rw [HT.out];exact if_neg hk
   have hk2:¬(c.toNat:Int)=(k:Int):=by omega
   clear HT;go_wp2_with fail
   refine (HF _).out.mono ?_;rintro e w3 ⟨rfl,rfl⟩;unfold panicW;go_wp2_with fail
   refine ⟨rfl,?_⟩;rw [HTN.out];exact ⟨rfl,HU.out⟩
theorem i64_or_nat {a y:Nat} (ha:a<2 ^ 63) (hy:y<2 ^ 63):bits .or .i64 (a:Int) (y:Int)=((a ||| y:Nat):Int):=by
 have h:=Nat.or_lt_two_pow ha hy;show IntKind.i64.wrap ((BitVec.ofInt 64 (a:Int) ||| BitVec.ofInt 64 (y:Int)).toNat:Int)=_;rw [BitVec.toNat_or,BitVec.ofInt_natCast,BitVec.ofInt_natCast,BitVec.toNat_ofNat,BitVec.toNat_ofNat,Nat.mod_eq_of_lt (by omega),Nat.mod_eq_of_lt (by omega),IntKind.wrap_i64];omega
theorem u8_and127 (c:Nat):bits .and .u8 (c:Int) 127=((c % 128:Nat):Int):=by
 have h127:(BitVec.ofInt 8 127).toNat=2 ^ 7-1:=by decide
 have key:(BitVec.ofInt 8 (c:Int) &&& BitVec.ofInt 8 127).toNat=c % 2 ^ 7:=by
  rw [BitVec.toNat_and,BitVec.ofInt_natCast,BitVec.toNat_ofNat,h127,Nat.and_two_pow_sub_one_eq_mod];omega
 show IntKind.u8.wrap ((BitVec.ofInt 8 (c:Int) &&& BitVec.ofInt 8 127).toNat:Nat)=_;rw [key,IntKind.wrap_u8];omega
theorem digit_acc {acc k c:Nat} (hk:k<9) (ha:acc<128 ^ k):bits BinOp.or IntKind.i64 (acc:Int) (wrap64 (wrap64 (bits BinOp.and IntKind.u8 (c:Int) 127)*2 ^ (7*k)))=((acc+c % 128*128 ^ k:Nat):Int):=by
 have e:(128:Nat) ^ k=2 ^ (7*k):=by rw [Nat.pow_mul]
 have hp:(128:Nat) ^ k≤2 ^ 56:=by rw [e];exact Nat.pow_le_pow_right (by decide) (by omega)
 have hm:c % 128*128 ^ k≤127*2 ^ 56:=Nat.mul_le_mul (by omega) hp;rw [u8_and127 c];have e1:wrap64 ((c % 128:Nat):Int)=((c % 128:Nat):Int):=by unfold wrap64;omega
 have e2:((c % 128:Nat):Int)*2 ^ (7*k)=((c % 128*128 ^ k:Nat):Int):=by rw [e];push_cast;rfl
 have e3:wrap64 ((c % 128*128 ^ k:Nat):Int)=((c % 128*128 ^ k:Nat):Int):=by unfold wrap64;omega
 rw [e1,e2,e3,i64_or_nat (by omega) (by omega)];have:=Nat.two_pow_add_eq_or_of_lt (i:=7*k) (b:=acc) (by rw [←e];exact ha) (c % 128);rw [e,Nat.or_comm,Nat.mul_comm (c % 128),←this,Nat.add_comm]
theorem acc_lt {acc k c:Nat} (ha:acc<128 ^ k):acc+c % 128*128 ^ k<128 ^ (k+1):=by
 have h:c % 128*128 ^ k≤127*128 ^ k:=Nat.mul_le_mul_right _ (by omega);rw [Nat.pow_succ];omega
set_option maxHeartbeats 1000000 in
theorem kNum_any (b:Nat) (s:Bytes) (w:World) (h:RdS w b s) :
  Calls Tryz.prog 131 #[.pointer (some ⟨b,0,none⟩)] w fun en w'=>orFail (readNum s) (fun a en w'=>en=.returned (.int .i64 (a.1:Nat))∧RdS w' b a.2∧Upd (fun k=>k=b) w w') (Upd (fun k=>k=b) w) en w':=by
 have HF:=fun W=>Lib.hid (fail_any W);have HTK:=fun s W hW=>Lib.hid (kTake_any b 1 s W hW);obtain ⟨tgt,htgt⟩:∃t,t=readNum s:=⟨_,rfl⟩;rw [←htgt];have HT:Hid (numR 9 1 0 s=tgt):=htgt.symm;have HR:=Lib.hid h;clear htgt h;go_enter Tryz.func131,Tryz.ntmps131
 go_wp2_with fail
 go_loopw [3,4] (fun n i wr=>∃(k acc:Nat) (s':Bytes),n=.int .i64 acc∧i=.int .i64 ((7*k:Nat):Int)∧k≤9∧acc<128 ^ k∧RdS wr b s'∧numR (9-k) (128 ^ k) acc s'=tgt∧Upd (fun k=>k=b) w wr) (fun _ i _=>63-(intOf i).toNat)
 case atStart=>exact ⟨0,0,s,rfl,rfl,by decide,by decide,HR.out,HT.out,Upd.refl _ _⟩
 case round=>
  obtain ⟨k,acc,s',rfl,rfl,hk,ha,hr,ht,hu⟩:=hrel;have HR2:=Lib.hid hr;have HT2:=Lib.hid ht;have HU:=Lib.hid hu;have HA:Hid (acc<128 ^ k):=ha;clear hr ht hu ha;by_cases hk9:k<9
  ·have hlt:((7*k:Nat):Int)<63:=by omega
   have HK:Hid (k<9):=hk9;have HT1:=Lib.hid (HTK s' wr HR2.out);clear hk hk9;have hws:wrap64 (7*(k:Int)+7)=7*(k:Int)+7:=by unfold wrap64;omega
   go_wp2_with fail
   refine HT1.out.out.mono ?_;intro e w2 hp;cases s' with
   | nil=>
    have HTN:Hid (tgt=none):=by
     show _=_;rw [←HT2.out];obtain ⟨j,hj⟩:∃j,9-k=j+1:=⟨8-k,by have:=HK.out;omega⟩;rw [hj];rfl
    rw [takeR_short (by decide)] at hp;obtain ⟨rfl,rfl⟩:=hp;clear HT1 HT;unfold panicW;go_wp2_with fail
    refine ⟨rfl,?_⟩;rw [HTN.out];exact ⟨rfl,HU.out⟩
   | cons c r=>
    obtain ⟨j,hj⟩:∃j,9-k=j+1:=⟨8-k,by have:=HK.out;omega⟩;have ht:=HT2.out;rw [hj] at ht;have HT3:Hid ((if c.toNat<128 then some (acc+c.toNat % 128*128 ^ k,r) else numR j (128 ^ k*128) (acc+c.toNat % 128*128 ^ k) r)=tgt):=ht;have HJ:Hid (9-k=j+1):=hj;have hv:=digit_acc (c:=c.toNat) HK.out HA.out;have HA2:=Lib.hid (acc_lt (c:=c.toNat) HA.out);clear ht hj HT HT2;rw [takeR_good (by simp)] at hp;obtain ⟨rfl,h2,u2⟩:=hp;have HR3:=Lib.hid h2;have HU2:=Lib.hid (HU.out.trans u2);clear HT1 h2 u2;simp only [List.take_succ_cons,List.take_zero,List.drop_succ_cons,List.drop_zero] at HR3 ⊢;have hz:0<(bs [c]).size:=by rw [bs_size];simp
    have h0:((bs [c])[0]'hz).toNat=c.toNat:=rfl;generalize acc+c.toNat % 128*128 ^ k=acc2 at *;by_cases hc:c.toNat<128
    ·have HTS:Hid (tgt=some (acc2,r)):=by show _=_;rw [←HT3.out];exact if_pos hc
     have hc':(c.toNat:Int)<128:=by omega
     go_wp2_with fail
     go_ret
     rw [HTS.out];exact ⟨rfl,HR3.out,HU2.out⟩
    ·have HT4:Hid (numR j (128 ^ k*128) acc2 r=tgt):=by show _=_;rw [←HT3.out];exact (if_neg hc).symm
     have hc':¬(c.toNat:Int)<128:=by omega
     clear HT3;go_wp2_with fail
     refine ⟨⟨k+1,acc2,r,rfl,by congr 1,by have:=HK.out;omega,HA2.out,HR3.out,?_,HU2.out⟩,?_⟩
     ·have e:9-(k+1)=j:=by have:=HJ.out;omega
      rw [e,Nat.pow_succ];exact HT4.out
     ·simp only [intOf];have:=HK.out;omega
  ·obtain rfl:k=9:=by omega
   have HTN:Hid (tgt=none):=HT2.out.symm;clear HT HT2 HA;go_wp2_with fail
   refine (HF _).out.mono ?_;rintro e w3 ⟨rfl,rfl⟩;unfold panicW;go_wp2_with fail
   refine ⟨rfl,?_⟩;rw [HTN.out];exact ⟨rfl,HU.out⟩
end Go.Proofs.YtcikldoaidmnhaaGreatDoor
namespace Go.Proofs.YtcikldoaidmnhaaGreatDoor
open Go Go.RowKit Pk Pc
set_option maxRecDepth 100000
def readQ {α:Type} (V:α→Value) (o:Option (α × Bytes)) (b:Nat) (w:World) (en:Ending) (w':World):Prop:=
 orFail o (fun a en w'=>en=.returned (V a.1)∧RdS w' b a.2∧Upd (fun k=>k=b) w w') (Upd (fun k=>k=b) w) en w'
def h32 (l:Bytes):H32:=if h:l.length=32 then ⟨l,h⟩ else ⟨List.replicate 32 0,List.length_replicate⟩
theorem store_row {P:Program} {w:World} {g:Nat} {cur:Array Value} {t:TypeId} {vs:List Value} (hb:w.heap[g]?=some (.cells cur t (0,0))) (hl:vs.length=cur.size) (h1:∀v∈vs,v.oneCell'=true) :
  ∃W,(storeCells ⟨g,0,none⟩ vs 0).run P w=.ok () W∧W.heap[g]?=some (.cells vs.toArray t (0,0))∧Upd (fun k=>k=g) w W:=by
 have h:=run_storeCells_from (P:=P) g t vs 0 cur w hb (by omega) h1;rw [List.take_zero,List.nil_append] at h;refine ⟨_,h,setRow_heap w g cur vs.toArray t (0,0) hb,rfl,rfl,rfl,by simp [World.setRow],fun i hi hf=>?_⟩;have hf':¬g=i:=fun e=>hf e.symm;simp only [World.setRow,Array.getElem?_modify,if_neg hf']
theorem bytes_row (l:Bytes) (w:World):∃cap W,(convert 9 41 (.string (bs l))).run Tryz.prog w=.ok (.slice (some ⟨w.heap.size,0,none⟩) l.length cap) W∧Upd noBlk w W∧W.rangeAt w.heap.size 0 (byV l):=by
 have h:=run_bytes_of_string (P:=Tryz.prog) w 9 41 5 (bs l) Tryz.underlying9 Tryz.underlying41 Tryz.underlying5;rw [bs_size] at h;generalize grownCap w l.length 0 5=cap at h;refine ⟨cap,_,h,((Upd.refl _ _).drew).alloc _,fun j v hj=>?_⟩;have hg:(w.drew.alloc (.cells (bytesRow (bs l) cap) 5 ((bytesRow (bs l) cap).size,(bytesRow (bs l) cap).size+1))).heap[w.heap.size]?=some (.cells (bytesRow (bs l) cap) 5 ((bytesRow (bs l) cap).size,(bytesRow (bs l) cap).size+1)):=heap_alloc_new w.drew _;have hjl:j<l.length:=by have:=(List.getElem?_eq_some_iff.1 hj).1;rw [byV_len] at this;exact this
 have hs:j<(bs l).data.size:=by unfold bs;simpa using hjl
 rw [Nat.zero_add];simp only [World.cell?,hg];rw [bytesRow_at (bs l) cap j hs];have hb:(byV l)[j]?=some (.int .u8 ((l[j].toNat:Nat):Int)):=by unfold byV;rw [List.getElem?_map,List.getElem?_eq_getElem hjl];rfl
 rw [hb] at hj;rw [←hj];simp [bs];rfl
theorem h32_mk {l:Bytes} (h:l.length=32):h32 l=⟨l,h⟩:=dif_pos h
set_option maxHeartbeats 1000000 in
theorem kHashR_any (b:Nat) (s:Bytes) (w:World) (h:RdS w b s) :
  Calls Tryz.prog 133 #[.pointer (some ⟨b,0,none⟩)] w fun en w'=>readQ (fun l=>.agg (hashC (h32 l)).toArray) (takeR 32 s) b w en w':=by
 have HTK:=fun W hW=>Lib.hid (kTake_any b 32 s W hW);obtain ⟨tgt,htgt⟩:∃t,t=takeR 32 s:=⟨_,rfl⟩;rw [←htgt];have HT:=Lib.hid htgt;have HR:=Lib.hid h;clear htgt h;go_enter Tryz.func133,Tryz.ntmps133
 have HRB:Hid ((w.alloc (.cells (Array.replicate 32 (.int .u8 0)) 81)).heap[w.heap.size]?=some (.cells (Array.replicate 32 (.int .u8 0)) 81 (0,0))):=heap_alloc_new w _;have HU0:Hid (Upd noBlk w (w.alloc (.cells (Array.replicate 32 (.int .u8 0)) 81))):=(Upd.refl _ w).alloc _;have hrep:(Array.replicate 32 (Value.int .u8 0))=#[.int .u8 0,.int .u8 0,.int .u8 0,.int .u8 0,.int .u8 0,.int .u8 0,.int .u8 0,.int .u8 0,.int .u8 0,.int .u8 0,.int .u8 0,.int .u8 0,.int .u8 0,.int .u8 0,.int .u8 0,.int .u8 0,.int .u8 0,.int .u8 0,.int .u8 0,.int .u8 0,.int .u8 0,.int .u8 0,.int .u8 0,.int .u8 0,.int .u8 0,.int .u8 0,.int .u8 0,.int .u8 0,.int .u8 0,.int .u8 0,.int .u8 0,.int .u8 0]:=rfl;rw [hrep] at HRB HU0;go_upto_region 1 with fail
 have HBB:Hid (b<w.heap.size):=lt_of_heap HR.out;obtain ⟨rb,hrb⟩:∃rb,rb=w.heap.size:=⟨_,rfl⟩;have HRBS:Hid (w.heap.size≤rb):=by show _≤_;omega
 rw [←hrb] at HRB HBB;rw [←hrb];clear hrb;generalize w.alloc _=w1 at *;have HTK1:=HTK w1 (HU0.out.heap HR.out id);clear HTK hrep;go_wp2_with fail
 refine HTK1.out.mono ?_;intro e w2 hp;rcases hm:takeR 32 s with _ | ⟨l,r⟩
 ·rw [hm] at hp;obtain ⟨rfl,rfl⟩:=hp;have HTN:Hid (tgt=none):=by show _=_;rw [HT.out,hm]
  clear HT HTK1 hm;unfold panicW;go_wp2_with fail
  refine ⟨rfl,?_⟩;rw [HTN.out];exact ⟨rfl,HU0.out.mono (fun _ _ h=>h.elim)⟩
 ·rw [hm] at hp;obtain ⟨rfl,h2,u2⟩:=hp;have HTS:Hid (tgt=some (l,r)):=by show _=_;rw [HT.out,hm]
  have hll:=(takeR_len hm).1;have HRR:=Lib.hid h2;have HU2:=Lib.hid u2;have HRB2:=Lib.hid (u2.heap HRB.out (by have:=HBB.out;omega));obtain ⟨cap,W,hcv,hu3,hra⟩:=bytes_row l w2;rw [hll] at hcv;have HC:=Lib.hid hcv;have HU3:=Lib.hid hu3;have HRA:Hid (W.rangeAt w2.heap.size 0 (hashC ⟨l,hll⟩)):=hra;obtain ⟨X,hst,hx1,hx2⟩:=store_row (P:=Tryz.prog) (hu3.heap HRB2.out id) (vs:=hashC ⟨l,hll⟩) (by rw [hashC_len];rfl) (byV_one l);have hst2:=hst;have hat:(Instr.arrayAt 81 (.slice (some ⟨w2.heap.size,0,none⟩) 32 cap)).run Tryz.prog W=.ok (.pointer (some ⟨w2.heap.size,0,none⟩)) W:=by kernel_rfl
  have HI:Hid ((Tryz.prog.info? 81).map (·.size)=some (hashC ⟨l,hll⟩).length):=by show _=_;rw [hashC_len];kernel_rfl
  have hlen:=hashC_len ⟨l,hll⟩;clear hst HTK1 HT hm h2 u2 hu3 hra;go_wp2_with (first | (refine wpList_load_mid rfl _ _ rfl w2.heap.size 0 rfl (hashC ⟨l,hll⟩) _ HRA.out Tryz.underlying81 rfl HI.out ?_))
  (try simp only [Exit.inBlock,Exit.then])
  refine bodyPost_ret (results_cell_row rfl _ _ rb 81 _ (0,0) _ rfl hx1 Tryz.underlying81 rfl (by have:=HI.out;simpa using this)) rfl ?_;unfold readQ;rw [HTS.out];have hn:¬b=rb:=by have:=HBB.out;omega
  refine ⟨by show _=Ending.returned (.agg (hashC (h32 l)).toArray);rw [h32_mk hll],hx2.heap (HU3.out.heap HRR.out id) hn,?_⟩;exact (((HU0.out.mono (fun _ _ h=>h.elim)).trans HU2.out).trans (HU3.out.mono (fun _ _ h=>h.elim))).then hx2 (fun i hi e=>by have e':i=rb:=e;have:=HRBS.out;omega)
theorem h32_len {l:Bytes} (h:l.length=32):(h32 l).1=l:=by unfold h32;rw [dif_pos h]
def partV (p:Part):Value:=.agg (partC (h32 p.1,h32 p.2)).toArray
theorem fold_set (off:Nat):∀(l:List Value) (k:Nat) (cs:Array Value),off+k+l.length≤cs.size→(l.zipIdx k).foldl (fun cs x=>cs.setIfInBounds (off+x.2) x.1) cs=(cs.toList.take (off+k)++l++cs.toList.drop (off+k+l.length)).toArray
 | [],k,cs,_=>by simp
 | v :: l,k,cs,h=>by
  simp only [List.length_cons] at h;rw [List.zipIdx_cons,List.foldl_cons,fold_set off l (k+1) _ (by simp;omega)];have hn:off+k<cs.toList.length:=by simp;omega
  have e:(cs.setIfInBounds (off+k) v).toList=cs.toList.take (off+k)++v :: cs.toList.drop (off+k+1):=by
   rw [Array.toList_setIfInBounds,List.set_eq_take_append_cons_drop,if_pos hn]
  have ht:(cs.toList.take (off+k)).length=off+k:=by rw [List.length_take];omega
  rw [e,List.take_append,List.drop_append,ht,show off+(k+1)-(off+k)=1 by omega,show off+(k+1)+l.length-(off+k)=l.length+1 by omega];rw [List.take_of_length_le (i:=off+(k+1)) (by omega),List.drop_of_length_le (i:=off+(k+1)+l.length) (by omega)];simp only [List.take_succ_cons,List.take_zero,List.nil_append,List.drop_succ_cons,List.drop_drop,List.length_cons,List.append_assoc,List.cons_append];congr 4
  congr 1
  omega
theorem fold_set0 (l:List Value) (cs:Array Value) (h:l.length≤cs.size):l.zipIdx.foldl (fun cs x=>cs.setIfInBounds x.2 x.1) cs=(l++cs.toList.drop l.length).toArray:=by
 have:=fold_set 0 l 0 cs (by omega);simpa using this
theorem wpList_val {P:Program} {ops:Array Oper} {rest:List Oper} {o:Oper} {a:Act} {w:World} {Q:Exit→Act→World→Prop} (hg:o.guard=none) (v:Value) (w':World) (hv:(execOp a.eval o).run P w=.ok (.value v) w') (h:wpList P ops Q rest (a.put o.dst v) w'):wpList P ops Q (o :: rest) a w:=
 wpList_plain hg fun K hK=>by
  unfold Oper.wp;rw [hv];exact hK _ _ h
theorem build_part (a b:H32) (W:World):(Instr.build 83 #[(0,.agg (hashC a).toArray),(1,.agg (hashC b).toArray)]).run Tryz.prog W=.ok (.agg (partC (a,b)).toArray) W:=by
 have h1:(zeroValue 83).run Tryz.prog W=.ok (.agg (Array.replicate 64 (.int .u8 0))) W:=by kernel_rfl
 have hZ:(Array.replicate 64 (Value.int .u8 0)).size=64:=Array.size_replicate ..;generalize Array.replicate 64 (Value.int .u8 0)=Z at *;have ha:=hashC_len a;have hb:=hashC_len b;have hf1:=fold_set0 (hashC a) Z (by omega);have hR:(Z.toList.drop (hashC a).length).length=32:=by rw [List.length_drop,Array.length_toList,hZ,ha]
 generalize Z.toList.drop (hashC a).length=R at *;have hs1:((hashC a++R).toArray).size=64:=by rw [List.size_toArray,List.length_append,ha,hR]
 have hf2:=fold_set 32 (hashC b) 0 (hashC a++R).toArray (by rw [hs1,hb];decide);have hend:(((hashC a++R).toArray.toList.take (32+0)++hashC b++(hashC a++R).toArray.toList.drop (32+0+(hashC b).length)).toArray)=(partC (a,b)).toArray:=by
  have e1:(hashC a++R).toArray.toList=hashC a++R:=rfl;rw [e1,List.take_left' ha,List.drop_of_length_le (by rw [List.length_append,ha,hR,hb];decide),List.append_nil];rfl
 rw [hend] at hf2;generalize (hashC a++R).toArray=F1 at *;generalize (partC (a,b)).toArray=E at *;simp [Instr.build,go_sem,h1,Instr.fill,ha,hb,hZ,hf1,hf2,hs1,Value.cells]
theorem exec_build_part (a b:H32) (W:World) {ev:Operand→Value} {o:Oper} (x y:Operand) (ho:o.op=.build 83 #[(0,x),(1,y)]) (hx:ev x=.agg (hashC a).toArray) (hy:ev y=.agg (hashC b).toArray):(execOp ev o).run Tryz.prog W=.ok (.value (.agg (partC (a,b)).toArray)) W:=by
 have h:=build_part a b W;unfold execOp;rw [ho];simp only [List.map_toArray,List.map_cons,List.map_nil,hx,hy];rw [Sem.run_bind,h];rfl
set_option maxHeartbeats 1000000 in
theorem kPartR_any (b:Nat) (s:Bytes) (w:World) (h:RdS w b s) :
  Calls Tryz.prog 125 #[.pointer (some ⟨b,0,none⟩)] w fun en w'=>readQ partV (partR s) b w en w':=by
 have HHR:=fun s W hW=>Lib.hid (kHashR_any b s W hW);obtain ⟨tgt,htgt⟩:∃t,t=partR s:=⟨_,rfl⟩;rw [←htgt];have HT:=Lib.hid htgt;have HR:=Lib.hid h;have HBB:Hid (b<w.heap.size):=lt_of_heap HR.out;clear htgt h;go_enter Tryz.func125,Tryz.ntmps125
 go_upto_region 1 with fail
 generalize hw1:w.alloc _=w1;obtain ⟨c0,hc0,hrb0⟩:∃c0:Array Value,c0.size=64∧w1.heap[w.heap.size]?=some (.cells c0 83 (0,0)):=by
  refine ⟨_,?_,(by rw [←hw1];exact heap_alloc_new w _)⟩;rfl
 have HU0:Hid (Upd noBlk w w1):=by show Upd _ _ _;rw [←hw1];exact (Upd.refl _ w).alloc _
 have HRB:=Lib.hid hrb0;have HC0:Hid (c0.size=64):=hc0;obtain ⟨rb,hrb⟩:∃rb,rb=w.heap.size:=⟨_,rfl⟩;have HRBS:Hid (w.heap.size≤rb):=by show _≤_;omega
 rw [←hrb] at HRB HBB;rw [←hrb];clear hrb hrb0 hc0 hw1;have H1:=HHR s w1 (HU0.out.heap HR.out id);go_wp2_with fail
 refine H1.out.mono ?_;intro e w2 hp;unfold readQ at hp;rcases hm:takeR 32 s with _ | ⟨l1,r1⟩
 ·rw [hm] at hp;obtain ⟨rfl,hu⟩:=hp;have HTN:Hid (tgt=none):=by show _=_;rw [HT.out];unfold partR;rw [hm]
  have HU2:=Lib.hid ((HU0.out.mono (fun _ _ h=>h.elim)).trans hu);clear HT H1 hm hu HHR;unfold panicW;go_wp2_with fail
  refine ⟨rfl,?_⟩;rw [HTN.out];exact ⟨rfl,HU2.out⟩
 rw [hm] at hp;obtain ⟨rfl,h2,u2⟩:=hp;have HL1:Hid (l1.length=32):=(takeR_len hm).1;have HU2:Hid (Upd (fun k=>k=b) w w2):=(HU0.out.mono (fun _ _ h=>h.elim)).trans u2;have HRB2:=Lib.hid (u2.heap HRB.out (by have:=HBB.out;omega));have HR2:=Lib.hid h2;have H2:=HHR r1 w2 h2;have HM1:=Lib.hid hm;clear hm h2 u2 H1 HHR;go_wp2_with fail
 refine H2.out.mono ?_;intro e w3 hp;unfold readQ at hp;rcases hm:takeR 32 r1 with _ | ⟨l2,r2⟩
 ·rw [hm] at hp;obtain ⟨rfl,hu⟩:=hp;have HTN:Hid (tgt=none):=by show _=_;rw [HT.out];unfold partR;rw [HM1.out];show (match takeR 32 r1 with | none=>none | some (b,r2)=>some ((l1,b),r2))=none;rw [hm]
  have HU3:=Lib.hid (HU2.out.trans hu);clear HT H2 hm hu;unfold panicW;go_wp2_with fail
  refine ⟨rfl,?_⟩;rw [HTN.out];exact ⟨rfl,HU3.out⟩
 rw [hm] at hp;obtain ⟨rfl,h3,u3⟩:=hp;have HL2:Hid (l2.length=32):=(takeR_len hm).1;have HTS:Hid (tgt=some ((l1,l2),r2)):=by show _=_;rw [HT.out];unfold partR;rw [HM1.out];show (match takeR 32 r1 with | none=>none | some (b,r2)=>some ((l1,b),r2))=some _;rw [hm]
 have HU3:=Lib.hid (HU2.out.trans u3);have HRB3:=Lib.hid (u3.heap HRB2.out (by have:=HBB.out;omega));have HR3:=Lib.hid h3;clear hm h3 u3 H2 HT HM1;obtain ⟨X,hst,hx1,hx2⟩:=store_row (P:=Tryz.prog) HRB3.out (vs:=partC (h32 l1,h32 l2)) (by rw [partC_len];exact HC0.out.symm) (partC_one _);have hpl:=partC_len (h32 l1,h32 l2);have HPL:Hid ((partC (h32 l1,h32 l2)).length=64):=hpl;go_wp2_with (first | (refine wpList_val rfl (.agg (partC (h32 l1,h32 l2)).toArray) w3 (exec_build_part (h32 l1) (h32 l2) w3 _ _ rfl rfl rfl) ?_))
 (try simp only [Exit.inBlock,Exit.then])
 refine bodyPost_ret (results_cell_row rfl _ _ rb 83 _ (0,0) _ rfl hx1 Tryz.underlying83 rfl (by rw [List.size_toArray,HPL.out];kernel_rfl)) rfl ?_;unfold readQ;rw [HTS.out];have hn:¬b=rb:=by have:=HBB.out;omega
 exact ⟨rfl,hx2.heap HR3.out hn,HU3.out.then hx2 (fun i hi e=>by have e':i=rb:=e;have:=HRBS.out;omega)⟩
end Go.Proofs.YtcikldoaidmnhaaGreatDoor
