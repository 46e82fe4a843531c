/- Parts: Hashes and parts as they lie in memory; strings made of bytes in the middle of a block. No condition. Opening group packets as plain functions on bytes; what is accepted is the packet of what is returned. No condition. Walks of the packets' program: OpenCluster. No condition. Walks of the packets' program: Root. No condition. Walks of the packets' program: bytes and numbers are read. No condition. -/
import Derived.Test.YtcikldoaidmnhaaGreatDoorQFace5
import Derived.Test.YtcikldoaidmnhaaGreatDoorQFace6
import Derived.Test.YtcikldoaidmnhaaGreatDoorQFace9
import Derived.Test.YtcikldoaidmnhaaGreatDoorQFace18
import Derived.Test.YtcikldoaidmnhaaGreatDoorQFace20
import Derived.Laws.BitsAllLaws
import Derived.Laws.BytesArg
import Derived.Deep.CutBlock
import Derived.Deep.WholeRow
namespace Go.Proofs.YtcikldoaidmnhaaGreatDoor
open Go Go.RowKit Pk Pc
set_option maxRecDepth 100000
theorem openCluster_any (l:List Nat) (hl:∀d,d∈l→d<256) (w:World) :
  Calls Tryz.prog 67 #[.string (str l)] w fun en w'=>openQ (openM false l) w en w':=by
 by_cases h:∃code,l=1 :: code
 ·obtain ⟨code,rfl⟩:=h;exact openCluster_one code (fun d hd=>hl d (List.mem_cons_of_mem _ hd)) w
 ·have hn:openM false l=none:=by
   unfold openM;split
   ·rename_i code;exact absurd ⟨code,rfl⟩ h
   ·rfl
  rw [hn];refine (openCluster_bad l hl (fun code e=>h ⟨code,e⟩) w).mono ?_;rintro e w' ⟨v,rfl,hu⟩;exact ⟨hu,v,rfl⟩
theorem clusterN_lt (c:List Tri):∀d,d∈clusterN c→d<256:=fun d hd=>by
 unfold clusterN at hd;split at hd
 ·unfold packC at hd;rcases List.mem_cons.1 hd with rfl | hd
  ·decide
  ·exact encode_lt _ d hd
 ·cases hd
def openP (o:Option (List Tri)) (w:World) (en:Ending) (w':World):Prop:=Upd noBlk w w'∧∃v,match o with
 | some l=>en=.returned (.tuple #[v,.int .i64 0])∧kTri.Rd w' v l
 | none=>en=.returned (.tuple #[v,.int .i64 13])∧kTri.Rd w' v []
set_option maxHeartbeats 2000000 in
theorem OpenCluster_any (l:List Nat) (hl:∀d,d∈l→d<256) (w:World) :
  Calls Tryz.prog 19 #[.string (str l)] w fun en w'=>openP (openN l) w en w':=by
 have HOP:=Lib.hid (openCluster_any l hl w);obtain ⟨tgt,htgt⟩:∃t,t=openN l:=⟨_,rfl⟩;rw [←htgt];have HT:=Lib.hid htgt;clear htgt;go_enter Tryz.func19,Tryz.ntmps19
 go_wp2_with fail
 refine HOP.out.mono ?_;rintro e w2 ⟨hu,v,hv⟩;have HU:=Lib.hid hu;rcases hm:openM false l with _ | T
 ·rw [hm] at hv;simp only at hv;subst hv;have HTN:Hid (tgt=none):=by show _=_;rw [HT.out];unfold openN;rw [hm]
  clear hu HOP hm;go_wp2_with fail
  go_ret2
  rw [HTN.out];exact ⟨HU.out,_,rfl,Kd.Rd.nil kTri w2⟩
 ·rw [hm] at hv;obtain ⟨rfl,hrd⟩:=hv;have HTS:Hid (tgt=if clusterN (canon T)=l then some (canon T) else none):=by show _=_;rw [HT.out];unfold openN;rw [hm]
  obtain ⟨ht2,ht1⟩:=openM_in hm;have HCL:=Lib.hid (Cluster_any v (canon T) (by rw [canon_length];omega) (fun t ht=>okT_of (canon_in ht2 t ht)) w2 hrd);have HRD:=Lib.hid hrd;clear hu HOP hm hrd ht1 ht2;go_wp2_with fail
  refine HCL.out.mono ?_;rintro e w3 ⟨rfl,u3⟩;have HU3:=Lib.hid u3;have hlt:=clusterN_lt (canon T);clear u3 HCL;by_cases hc:clusterN (canon T)=l
  ·have HTN:Hid (tgt=some (canon T)):=by show _=_;rw [HTS.out];exact if_pos hc
   rw [hc];clear hlt hc;go_wp2_with fail
   go_ret2
   rw [HTN.out];exact ⟨HU.out.trans HU3.out,_,rfl,HRD.out.keep HU3.out⟩
  ·have HTN:Hid (tgt=none):=by show _=_;rw [HTS.out];exact if_neg hc
   have hne:((str (clusterN (canon T))).toList == (str l).toList)=false:=by
    rw [beq_eq_false_iff_ne];intro e;exact hc (map_ofNat_inj hlt hl (by rw [←str_toList,←str_toList,e]))
   clear hlt hc;generalize str (clusterN (canon T))=z at *;go_wp2_with fail
   go_ret2
   rw [HTN.out];exact ⟨HU.out.trans HU3.out,_,rfl,Kd.Rd.nil kTri w3⟩
end Go.Proofs.YtcikldoaidmnhaaGreatDoor
namespace Go.Proofs.YtcikldoaidmnhaaGreatDoor
open Go Go.RowKit Pk Pc
set_option maxRecDepth 100000
def RdS (w:World) (b:Nat) (s:Bytes):Prop:=w.heap[b]?=some (.cells #[.string (bs s)] 193 (0,0))
theorem takeR_short {n:Nat} {s:Bytes} (h:s.length<n):takeR n s=none:=if_pos h
theorem takeR_good {n:Nat} {s:Bytes} (h:¬s.length<n):takeR n s=some (s.take n,s.drop n):=if_neg h
set_option maxHeartbeats 1000000 in
theorem kTake_any (b n:Nat) (s:Bytes) (w:World) (h:RdS w b s) :
  Calls Tryz.prog 136 #[.pointer (some ⟨b,0,none⟩),.int .i64 n] w fun en w'=>orFail (takeR n s) (fun a en w'=>en=.returned (.string (bs a.1))∧RdS w' b a.2∧Upd (fun k=>k=b) w w') (fun w'=>w=w') en w':=by
 have HF:=fun W=>Lib.hid (fail_any W);obtain ⟨hc,hf⟩:=cellF1 h;have HH:Hid (w.heap[b]?=some (.cells #[.string (bs s)] 193 (0,0))):=h;obtain ⟨tgt,htgt⟩:∃t,t=takeR n s:=⟨_,rfl⟩;rw [←htgt];by_cases hl:s.length<n
 ·have HTN:Hid (tgt=none):=by show _=_;rw [htgt];exact takeR_short hl
  have hsz:((bs s).size:Int)<(n:Int):=by rw [bs_size];omega
  clear htgt h;go_enter Tryz.func136,Tryz.ntmps136
  go_wp2_with fail
  refine (HF _).out.mono ?_;rintro e w2 ⟨rfl,rfl⟩;unfold panicW;go_wp2_with fail
  refine ⟨rfl,?_⟩;rw [HTN.out];exact ⟨rfl,rfl⟩
 ·have HTS:Hid (tgt=some (s.take n,s.drop n)):=by show _=_;rw [htgt];exact takeR_good hl
  have hsz:¬((bs s).size:Int)<(n:Int):=by rw [bs_size];omega
  have hsz2:(n:Int)≤((bs s).size:Int):=by omega
  have hx1:(bs s).extract 0 n=bs (s.take n):=by rw [bs_extract];simp
  have hx2:(bs s).extract n (bs s).size=bs (s.drop n):=by rw [bs_extract,bs_size];congr 1;rw [List.take_of_length_le (by rw [List.length_drop];omega)]
  clear htgt h;go_enter Tryz.func136,Tryz.ntmps136
  go_wp2_with fail
  go_ret
  rw [HTS.out];exact ⟨rfl,heap_setCell_eq (i:=0) _ HH.out,(Upd.refl (fun k=>k=b) w).setCell (p:=⟨b,0,none⟩) (fun _=>rfl) _⟩
def kindM (k:Nat):Bytes→Option Bytes
 | []=>none
 | c :: r=>if c.toNat=k then some r else none
set_option maxHeartbeats 1000000 in
theorem kKind_any (b k:Nat) (s:Bytes) (w:World) (h:RdS w b s) :
  Calls Tryz.prog 123 #[.pointer (some ⟨b,0,none⟩),.int .u8 k] w fun en w'=>orFail (kindM k s) (fun a en w'=>en=.returned (.tuple #[])∧RdS w' b a∧Upd (fun k=>k=b) w w') (Upd (fun k=>k=b) w) en w':=by
 have HF:=fun W=>Lib.hid (fail_any W);have HTK:=Lib.hid (kTake_any b 1 s w h);obtain ⟨tgt,htgt⟩:∃t,t=kindM k s:=⟨_,rfl⟩;rw [←htgt];have HT:=Lib.hid htgt;clear htgt h;go_enter Tryz.func123,Tryz.ntmps123
 go_wp2_with fail
 refine HTK.out.mono ?_;intro e w2 hp;cases s with
 | nil=>
  have HTN:Hid (tgt=none):=HT.out;rw [takeR_short (by decide)] at hp;obtain ⟨rfl,rfl⟩:=hp;clear HTK HT;unfold panicW;go_wp2_with fail
  refine ⟨rfl,?_⟩;rw [HTN.out];exact ⟨rfl,Upd.refl _ _⟩
 | cons c r=>
  rw [takeR_good (by simp)] at hp;obtain ⟨rfl,h2,u2⟩:=hp;have HR:=Lib.hid h2;have HU:=Lib.hid u2;clear HTK h2 u2;simp only [List.take_succ_cons,List.take_zero,List.drop_succ_cons,List.drop_zero] at HR ⊢;have hz:0<(bs [c]).size:=by rw [bs_size];simp
  have h0:((bs [c])[0]'hz).toNat=c.toNat:=rfl;by_cases hk:c.toNat=k
  ·have HTS:Hid (tgt=some r):=by show _=_;rw [HT.out];exact if_pos hk
   subst hk;clear HT;go_wp2_with fail
   go_end0
   rw [HTS.out];exact ⟨rfl,HR.out,HU.out⟩
  ·have HTN:Hid (tgt=none):=by show _=_;rw [HT.out];exact if_neg hk
   have hk2:¬(c.toNat:Int)=(k:Int):=by omega
   clear HT;go_wp2_with fail
   refine (HF _).out.mono ?_;rintro e w3 ⟨rfl,rfl⟩;unfold panicW;go_wp2_with fail
   refine ⟨rfl,?_⟩;rw [HTN.out];exact ⟨rfl,HU.out⟩
theorem i64_or_nat {a y:Nat} (ha:a<2 ^ 63) (hy:y<2 ^ 63):bits .or .i64 (a:Int) (y:Int)=((a ||| y:Nat):Int):=by
 have h:=Nat.or_lt_two_pow ha hy;show IntKind.i64.wrap ((BitVec.ofInt 64 (a:Int) ||| BitVec.ofInt 64 (y:Int)).toNat:Int)=_;rw [BitVec.toNat_or,BitVec.ofInt_natCast,BitVec.ofInt_natCast,BitVec.toNat_ofNat,BitVec.toNat_ofNat,Nat.mod_eq_of_lt (by omega),Nat.mod_eq_of_lt (by omega),IntKind.wrap_i64];omega
theorem u8_and127 (c:Nat):bits .and .u8 (c:Int) 127=((c % 128:Nat):Int):=by
 have h127:(BitVec.ofInt 8 127).toNat=2 ^ 7-1:=by decide
 have key:(BitVec.ofInt 8 (c:Int) &&& BitVec.ofInt 8 127).toNat=c % 2 ^ 7:=by
  rw [BitVec.toNat_and,BitVec.ofInt_natCast,BitVec.toNat_ofNat,h127,Nat.and_two_pow_sub_one_eq_mod];omega
 show IntKind.u8.wrap ((BitVec.ofInt 8 (c:Int) &&& BitVec.ofInt 8 127).toNat:Nat)=_;rw [key,IntKind.wrap_u8];omega
theorem digit_acc {acc k c:Nat} (hk:k<9) (ha:acc<128 ^ k):bits BinOp.or IntKind.i64 (acc:Int) (wrap64 (wrap64 (bits BinOp.and IntKind.u8 (c:Int) 127)*2 ^ (7*k)))=((acc+c % 128*128 ^ k:Nat):Int):=by
 have e:(128:Nat) ^ k=2 ^ (7*k):=by rw [Nat.pow_mul]
 have hp:(128:Nat) ^ k≤2 ^ 56:=by rw [e];exact Nat.pow_le_pow_right (by decide) (by omega)
 have hm:c % 128*128 ^ k≤127*2 ^ 56:=Nat.mul_le_mul (by omega) hp;rw [u8_and127 c];have e1:wrap64 ((c % 128:Nat):Int)=((c % 128:Nat):Int):=by unfold wrap64;omega
 have e2:((c % 128:Nat):Int)*2 ^ (7*k)=((c % 128*128 ^ k:Nat):Int):=by rw [e];push_cast;rfl
 have e3:wrap64 ((c % 128*128 ^ k:Nat):Int)=((c % 128*128 ^ k:Nat):Int):=by unfold wrap64;omega
 rw [e1,e2,e3,i64_or_nat (by omega) (by omega)];have:=Nat.two_pow_add_eq_or_of_lt (i:=7*k) (b:=acc) (by rw [←e];exact ha) (c % 128);rw [e,Nat.or_comm,Nat.mul_comm (c % 128),←this,Nat.add_comm]
theorem acc_lt {acc k c:Nat} (ha:acc<128 ^ k):acc+c % 128*128 ^ k<128 ^ (k+1):=by
 have h:c % 128*128 ^ k≤127*128 ^ k:=Nat.mul_le_mul_right _ (by omega);rw [Nat.pow_succ];omega
set_option maxHeartbeats 1000000 in
theorem kNum_any (b:Nat) (s:Bytes) (w:World) (h:RdS w b s) :
  Calls Tryz.prog 131 #[.pointer (some ⟨b,0,none⟩)] w fun en w'=>orFail (readNum s) (fun a en w'=>en=.returned (.int .i64 (a.1:Nat))∧RdS w' b a.2∧Upd (fun k=>k=b) w w') (Upd (fun k=>k=b) w) en w':=by
 have HF:=fun W=>Lib.hid (fail_any W);have HTK:=fun s W hW=>Lib.hid (kTake_any b 1 s W hW);obtain ⟨tgt,htgt⟩:∃t,t=readNum s:=⟨_,rfl⟩;rw [←htgt];have HT:Hid (numR 9 1 0 s=tgt):=htgt.symm;have HR:=Lib.hid h;clear htgt h;go_enter Tryz.func131,Tryz.ntmps131
 go_wp2_with fail
 go_loopw [3,4] (fun n i wr=>∃(k acc:Nat) (s':Bytes),n=.int .i64 acc∧i=.int .i64 ((7*k:Nat):Int)∧k≤9∧acc<128 ^ k∧RdS wr b s'∧numR (9-k) (128 ^ k) acc s'=tgt∧Upd (fun k=>k=b) w wr) (fun _ i _=>63-(intOf i).toNat)
 case atStart=>exact ⟨0,0,s,rfl,rfl,by decide,by decide,HR.out,HT.out,Upd.refl _ _⟩
 case round=>
  obtain ⟨k,acc,s',rfl,rfl,hk,ha,hr,ht,hu⟩:=hrel;have HR2:=Lib.hid hr;have HT2:=Lib.hid ht;have HU:=Lib.hid hu;have HA:Hid (acc<128 ^ k):=ha;clear hr ht hu ha;by_cases hk9:k<9
  ·have hlt:((7*k:Nat):Int)<63:=by omega
   have HK:Hid (k<9):=hk9;have HT1:=Lib.hid (HTK s' wr HR2.out);clear hk hk9;have hws:wrap64 (7*(k:Int)+7)=7*(k:Int)+7:=by unfold wrap64;omega
   go_wp2_with fail
   refine HT1.out.out.mono ?_;intro e w2 hp;cases s' with
   | nil=>
    have HTN:Hid (tgt=none):=by
     show _=_;rw [←HT2.out];obtain ⟨j,hj⟩:∃j,9-k=j+1:=⟨8-k,by have:=HK.out;omega⟩;rw [hj];rfl
    rw [takeR_short (by decide)] at hp;obtain ⟨rfl,rfl⟩:=hp;clear HT1 HT;unfold panicW;go_wp2_with fail
    refine ⟨rfl,?_⟩;rw [HTN.out];exact ⟨rfl,HU.out⟩
   | cons c r=>
    obtain ⟨j,hj⟩:∃j,9-k=j+1:=⟨8-k,by have:=HK.out;omega⟩;have ht:=HT2.out;rw [hj] at ht;have HT3:Hid ((if c.toNat<128 then some (acc+c.toNat % 128*128 ^ k,r) else numR j (128 ^ k*128) (acc+c.toNat % 128*128 ^ k) r)=tgt):=ht;have HJ:Hid (9-k=j+1):=hj;have hv:=digit_acc (c:=c.toNat) HK.out HA.out;have HA2:=Lib.hid (acc_lt (c:=c.toNat) HA.out);clear ht hj HT HT2;rw [takeR_good (by simp)] at hp;obtain ⟨rfl,h2,u2⟩:=hp;have HR3:=Lib.hid h2;have HU2:=Lib.hid (HU.out.trans u2);clear HT1 h2 u2;simp only [List.take_succ_cons,List.take_zero,List.drop_succ_cons,List.drop_zero] at HR3 ⊢;have hz:0<(bs [c]).size:=by rw [bs_size];simp
    have h0:((bs [c])[0]'hz).toNat=c.toNat:=rfl;generalize acc+c.toNat % 128*128 ^ k=acc2 at *;by_cases hc:c.toNat<128
    ·have HTS:Hid (tgt=some (acc2,r)):=by show _=_;rw [←HT3.out];exact if_pos hc
     have hc':(c.toNat:Int)<128:=by omega
     go_wp2_with fail
     go_ret
     rw [HTS.out];exact ⟨rfl,HR3.out,HU2.out⟩
    ·have HT4:Hid (numR j (128 ^ k*128) acc2 r=tgt):=by show _=_;rw [←HT3.out];exact (if_neg hc).symm
     have hc':¬(c.toNat:Int)<128:=by omega
     clear HT3;go_wp2_with fail
     refine ⟨⟨k+1,acc2,r,rfl,by congr 1,by have:=HK.out;omega,HA2.out,HR3.out,?_,HU2.out⟩,?_⟩
     ·have e:9-(k+1)=j:=by have:=HJ.out;omega
      rw [e,Nat.pow_succ];exact HT4.out
     ·simp only [intOf];have:=HK.out;omega
  ·obtain rfl:k=9:=by omega
   have HTN:Hid (tgt=none):=HT2.out.symm;clear HT HT2 HA;go_wp2_with fail
   refine (HF _).out.mono ?_;rintro e w3 ⟨rfl,rfl⟩;unfold panicW;go_wp2_with fail
   refine ⟨rfl,?_⟩;rw [HTN.out];exact ⟨rfl,HU.out⟩
end Go.Proofs.YtcikldoaidmnhaaGreatDoor
namespace Go.Proofs.YtcikldoaidmnhaaGreatDoor
open Go Go.RowKit
namespace Pk
abbrev Mv:=(Int × Int × Int) × (Int × Int × Int)
theorem takeR_len {k:Nat} {s a r:Bytes} (h:takeR k s=some (a,r)):a.length=k∧r.length+k=s.length:=by
 unfold takeR at h;split at h
 ·cases h
 ·cases h;simp;omega
theorem partR_good {s r:Bytes} {p:Part} (h:partR s=some (p,r)):goodPart p∧r.length<s.length:=by
 unfold partR at h;cases h1:takeR 32 s with
 | none=>rw [h1] at h;cases h
 | some x=>
  obtain ⟨a,r1⟩:=x;rw [h1] at h;simp only at h;cases h2:takeR 32 r1 with
  | none=>rw [h2] at h;cases h
  | some y=>
   obtain ⟨b,r2⟩:=y;rw [h2] at h;cases h;have k1:=takeR_len h1;have k2:=takeR_len h2;exact ⟨⟨k1.1,k2.1⟩,by omega⟩
theorem listR_all {α:Type} {one:Bytes→Option (α × Bytes)} {good:α→Prop} (h:∀s x r,one s=some (x,r)→good x):∀(k:Nat) (s:Bytes) (l:List α) (r:Bytes),listR one k s=some (l,r)→(∀x,x∈l→good x)∧l.length=k
 | 0,s,l,r,e=>by cases e;exact ⟨fun x hx=>(by cases hx),rfl⟩
 | k+1,s,l,r,e=>by
  rw [listR] at e;cases h1:one s with
  | none=>rw [h1] at e;cases e
  | some x=>
   obtain ⟨x,r1⟩:=x;rw [h1] at e;simp only at e;cases h2:listR one k r1 with
   | none=>rw [h2] at e;cases e
   | some y=>
    obtain ⟨l',r2⟩:=y;rw [h2] at e;cases e;obtain ⟨k1,k2⟩:=listR_all h k r1 l' r h2;refine ⟨fun z hz=>?_,by simp [k2]⟩;rcases List.mem_cons.1 hz with rfl | hz
    ·exact h _ _ _ h1
    ·exact k1 z hz
theorem manyR_all {α:Type} {one:Bytes→Option (α × Bytes)} {good:α→Prop} (h:∀s x r,one s=some (x,r)→good x) {s:Bytes} {l:List α} {r:Bytes} (e:manyR one s=some (l,r)):(∀x,x∈l→good x)∧l.length≤65536:=by
 unfold manyR at e;cases h1:readNum s with
 | none=>rw [h1] at e;cases e
 | some x=>
  obtain ⟨n,r1⟩:=x;rw [h1] at e;simp only at e;split at e
  ·cases e
  ·obtain ⟨k1,k2⟩:=listR_all h _ _ _ _ e;exact ⟨k1,by omega⟩
end Pk
end Go.Proofs.YtcikldoaidmnhaaGreatDoor
namespace Go.Proofs.YtcikldoaidmnhaaGreatDoor
open Go Go.RowKit Pk
set_option maxRecDepth 100000
theorem or128:∀x,x<256→x ||| 128=x % 128+128:=by decide +kernel
theorem digB_small {n:Nat} (h:n<128):digB n=[UInt8.ofNat n]:=by rw [digB,dif_pos h]
theorem digB_big {n:Nat} (h:¬n<128):digB n=UInt8.ofNat (n % 128+128) :: digB (n / 128):=by rw [digB,dif_neg h]
theorem digB_len9:∀(k n:Nat),n<128 ^ k→0<k→(digB n).length≤k
 | 0,_,_,h=>absurd h (by omega)
 | k+1,n,h,_=>by
  by_cases hn:n<128
  ·rw [digB_small hn];simp
  ·rw [digB_big hn,List.length_cons];have hk:0<k:=by
    rcases Nat.eq_zero_or_pos k with rfl | hk
    ·simp at h;omega
    ·exact hk
   have:=digB_len9 k (n / 128) (by rw [Nat.pow_succ] at h;omega) hk;omega
theorem digB_ten {n:Nat} (h:n<9223372036854775808):(digB n).length≤10:=digB_len9 10 n (Nat.lt_of_lt_of_le h (by decide)) (by decide)
theorem u8_or {m:Nat}:bits .or .u8 ((m:Int) % 256) 128=(((UInt8.ofNat (m % 128+128)).toNat:Nat):Int):=by
 have e:(m:Int) % 256=((m % 256:Nat):Int):=by omega
 have e2:(128:Int)=((128:Nat):Int):=rfl;rw [e,e2,u8_or_nat _ _ (by omega) (by omega),or128 _ (by omega),u8_small (by omega)];congr 1
 omega
set_option maxHeartbeats 1000000 in
theorem digits_any (n:Nat) (hn:n<9223372036854775808) (w:World):Calls Tryz.prog 80 #[.int .i64 n] w fun en w'=>strR (digB n) w en w':=by
 have HN:Hid (n<9223372036854775808):=hn;have HT:=Lib.hid (digB_ten hn);have h63:(n:Int)≤9223372036854775807:=by omega
 clear hn;go_enter Tryz.func80,Tryz.ntmps80
 go_wp2_with fail
 go_loopw [0,3] (fun i o wr=>∃(m:Nat) (L:Bytes),i=.int .i64 m∧L++digB m=digB n∧m≤n∧wr.ownsRow w.heap.size 5 1 o L.length (byV L)∧Upd noBlk w wr) (fun i _ _=>(intOf i).toNat)
 case atStart=>exact ⟨n,[],rfl,rfl,Nat.le_refl _,World.ownsRow_nil _ _ _ _,Upd.refl _ _⟩
 case round=>
  obtain ⟨m,L,rfl,h1,h2,h3,h4⟩:=hrel;have HL:=Lib.hid h1;have HM:=Lib.hid h2;have HO:=Lib.hid h3;have HU:=Lib.hid h4;have hm63:(m:Int)≤9223372036854775807:=by omega
  have HLL:Hid (L.length≤10):=by have h5:=congrArg List.length h1;rw [List.length_append] at h5;have:=HT.out;show _≤_;omega
  obtain ⟨A,cap,rfl⟩:=own_form h3;clear h1 h2 h3 h4 h63;by_cases hb:m<128
  ·have hb':(m:Int)<128:=by omega
   have hb'':¬(128:Int)≤(m:Int):=by omega
   have HB:=Lib.hid hb;clear hb;obtain ⟨g,cap3,w3,r3,o3,u3⟩:=append_by HU.out.size HO.out (UInt8.ofNat m) (by have:=HLL.out;omega);rw [u8_small (by have:=HB.out;omega)] at r3;have R3:=Lib.hid r3;have HW3:Hid (Upd noBlk w w3):=HU.out.then u3 (fun i hi e=>absurd (HO.out.lt i e).1 (by omega));have HCV:=Lib.hid (conv_bs rfl o3);have hlen:(L++[UInt8.ofNat m]).length=L.length+1:=by simp
   have HDN:Hid (L++[UInt8.ofNat m]=digB n):=by show _=_;rw [←HL.out,digB_small HB.out]
   have hc3:((convert 41 9 (.slice (some ⟨g,0,none⟩) (L.length+1) cap3)).run Tryz.prog w3=.ok (.string (bs (digB n))) w3):=by rw [←HDN.out];exact HCV.out
   clear r3 o3 u3 hlen HCV;go_wp2_with (first | (at_builtin;refine wpList_append_run rfl _ _ _ rfl rfl rfl R3.out ?_))
   go_ret
   exact ⟨rfl,HW3.out⟩
  ·have hb':(128:Int)≤(m:Int):=by omega
   have HB:=Lib.hid hb;clear hb;have hor:=u8_or (m:=m);obtain ⟨g,cap3,w3,r3,o3,u3⟩:=append_by HU.out.size HO.out (UInt8.ofNat (m % 128+128)) (by have:=HLL.out;omega);obtain ⟨x,hx⟩:∃x,x=(UInt8.ofNat (m % 128+128)).toNat:=⟨_,rfl⟩;rw [←hx] at r3 hor;have R3:=Lib.hid r3;have O3:=Lib.hid o3;have HW3:Hid (Upd noBlk w w3):=HU.out.then u3 (fun i hi e=>absurd (HO.out.lt i e).1 (by omega));clear r3 o3 u3 hx;go_wp2_with (first | (at_builtin;refine wpList_append_run rfl _ _ _ rfl rfl rfl R3.out ?_))
   refine ⟨⟨m / 128,L++[UInt8.ofNat (m % 128+128)],by go_num,?_,by have:=HM.out;omega,?_,HW3.out⟩,?_⟩
   ·rw [←HL.out,digB_big HB.out];simp
   ·have:=O3.out;rw [List.length_append] at this ⊢;exact this
   ·simp only [intOf];have:=HB.out;omega
end Go.Proofs.YtcikldoaidmnhaaGreatDoor
namespace Go.Proofs.YtcikldoaidmnhaaGreatDoor
open Go Go.RowKit Pk
set_option maxRecDepth 100000
abbrev H32:={h:Bytes // h.length=32}
abbrev P32:=H32 × H32
def hashC (h:H32):List Value:=byV h.1
def partC (p:P32):List Value:=byV p.1.1++byV p.2.1
def plainP (p:P32):Part:=(p.1.1,p.2.1)
theorem byV_len (l:Bytes):(byV l).length=l.length:=by simp [byV]
theorem hashC_len (h:H32):(hashC h).length=32:=by unfold hashC;rw [byV_len,h.2]
theorem partC_len (p:P32):(partC p).length=64:=by unfold partC;rw [List.length_append,byV_len,byV_len,p.1.2,p.2.2]
theorem byV_one (l:Bytes):∀v,v∈byV l→v.oneCell'=true:=by
 intro v hv;obtain ⟨c,_,rfl⟩:=List.mem_map.1 hv;rfl
theorem partC_one (p:P32):∀v,v∈partC p→v.oneCell'=true:=by
 intro v hv;rcases List.mem_append.1 hv with h | h
 ·exact byV_one _ v h
 ·exact byV_one _ v h
noncomputable def kHash:Kd Tryz.prog H32:={ T:=81,S:=63,k:=32,bytes:=32,enc:=hashC,len:=hashC_len,one:=fun h=>byV_one h.1,pos:=by decide,small:=by decide,und:=Tryz.underlying63,info:=kinfo_of (by kernel_rfl) }
noncomputable def kPart:Kd Tryz.prog P32:={ T:=83,S:=47,k:=64,bytes:=64,enc:=partC,len:=partC_len,one:=partC_one,pos:=by decide,small:=by decide,und:=Tryz.underlying47,info:=kinfo_of (by kernel_rfl) }
theorem conv_mid {w:World} {b off cap:Nat} {l:Bytes} (h:w.rangeAt b off (byV l)):(convert 41 9 (.slice (some ⟨b,off,none⟩) l.length cap)).run Tryz.prog w=.ok (.string (bs l)) w:=by
 have e:l.length=(l.map UInt8.toNat).length:=by simp
 rw [run_convert_bytes_arg w 41 5 Tryz.underlying41 Tryz.underlying5 b off l.length cap ((l.map UInt8.toNat).map fun (d:Nat)=>(d:Int)) (by simp) (fun i hi=>?_) 9 Tryz.underlying9,strOfNums_cast,str_bs];refine h i _ ?_;simp [byV,hi]
theorem part_ranges {w:World} {b o:Nat} {p:P32} (h:kPart.At w b o p):w.rangeAt b o (byV p.1.1)∧w.rangeAt b (o+32) (byV p.2.1):=by
 have h':w.rangeAt b o (byV p.1.1++byV p.2.1):=h;refine ⟨fun j v hv=>h' j v ?_,fun j v hv=>?_⟩
 ·have hj:=(List.getElem?_eq_some_iff.1 hv).1;rw [List.getElem?_append_left hj];exact hv
 ·rw [Nat.add_assoc];refine h' (32+j) v ?_;rw [List.getElem?_append_right (by rw [byV_len,p.1.2];omega),byV_len,p.1.2,Nat.add_sub_cancel_left];exact hv
end Go.Proofs.YtcikldoaidmnhaaGreatDoor
namespace Go.Proofs.YtcikldoaidmnhaaGreatDoor
open Go Go.RowKit Pk
set_option maxRecDepth 100000
theorem conv32 (h:H32) {w:World} {b off:Nat} (ha:w.rangeAt b off (byV h.1)):(convert 41 9 (.slice (some ⟨b,off,none⟩) 32 32)).run Tryz.prog w=.ok (.string (bs h.1)) w:=by
 have:=conv_mid (cap:=32) ha;rw [h.2] at this;exact this
set_option maxHeartbeats 2000000 in
theorem parts_any (v:Value) (l:List P32) (hl:l.length≤65536) (w:World) (h:kPart.Rd w v l):Calls Tryz.prog 73 #[v] w fun en w'=>strR (partsB (l.map plainP)) w en w':=by
 obtain ⟨A,cap,rfl,hcap,hx⟩:=h;have HX:=Lib.hid hx;have HDG:=fun W=>Lib.hid (digits_any l.length (by omega) W);have hl':(l.length:Int)≤65536:=by omega
 have HPB:Hid (partsB (l.map plainP)=digB l.length++(l.map plainP).flatMap (fun p=>p.1++p.2)):=by show _=_;unfold partsB;rw [List.length_map]
 have HDL:=Lib.hid (digB_ten (n:=l.length) (by omega));clear hx hl;go_enter Tryz.func73,Tryz.ntmps73
 go_wp2_with fail
 refine (HDG _).out.mono ?_;rintro e w1 ⟨rfl,u1⟩;have U1:=Lib.hid u1;clear u1 HDG;go_wp2_with fail
 go_loopw [3,11] (fun s i wr=>∃k:Nat,i=.int .i64 k∧k≤l.length∧s=.string (bs (digB l.length++((l.take k).map plainP).flatMap (fun p=>p.1++p.2)))∧Upd noBlk w wr) (fun _ i _=>l.length-(intOf i).toNat)
 case atStart=>exact ⟨0,rfl,Nat.zero_le _,by simp,U1.out⟩
 case round=>
  obtain ⟨k,rfl,hk,rfl,hu⟩:=hrel;have HU:=Lib.hid hu;clear hu;by_cases hlt:k<l.length
  ·have hlt':(k:Int)<(l.length:Int):=by omega
   obtain ⟨b,off,rfl,f1⟩:=HX.out (by omega);have hat:=(f1 k hlt).keep HU.out;have hk64:kPart.k=64:=rfl;rw [hk64] at hat;have HAT:=Lib.hid hat;have HTK:Hid (((l.take (k+1)).map plainP).flatMap (fun p=>p.1++p.2)=((l.take k).map plainP).flatMap (fun p=>p.1++p.2)++(l[k].1.1++l[k].2.1)):=by
    show _=_;rw [List.take_succ_eq_append_getElem hlt,List.map_append,List.flatMap_append];simp [plainP]
   clear f1 hat hk64;generalize l[k]=pk at *;have HI:Hid ((Tryz.prog.info? 83).map (·.size)=some (partC pk).length):=by show _=_;rw [partC_len];kernel_rfl
   have HST:∀c:Array Value,c.size=64→(storeCells ⟨wr.heap.size,0,none⟩ (partC pk) 0).run Tryz.prog (wr.alloc (.cells c 83))=.ok () (wr.alloc (.cells (partC pk).toArray 83)):=fun c hc=>by
    have:=run_storeCells_new (P:=Tryz.prog) wr 83 c (partC pk).toArray (by simpa using HI.out) (by simp [hc,partC_len]) (all_oneCell_toArray (partC_one pk));simpa using this
   have hlen:=partC_len pk;go_wp2_with (first | (refine wpList_load_mid rfl _ _ rfl b (off+k*64) rfl (partC pk) _ HAT.out Tryz.underlying83 rfl HI.out ?_))
   clear HST;have HR1:Hid (kPart.At (wr.alloc (.cells (partC pk).toArray 83)) wr.heap.size 0 pk):=by
    show World.rangeAt _ _ _ _;intro j v hv;rw [Nat.zero_add,cell_of_row _ _ j (partC pk).toArray 83 (0,0) (heap_alloc_last wr _)];have hv':(partC pk)[j]?=some v:=hv;simpa using hv'
   have HU1:Hid (Upd noBlk w (wr.alloc (.cells (partC pk).toArray 83))):=HU.out.alloc _;have HBS:Hid (wr.heap.size<(wr.alloc (.cells (partC pk).toArray 83)).heap.size):=by show _<(wr.heap.push _).size;rw [Array.size_push];omega
   have HPL:Hid ((digB l.length++((l.take k).map plainP).flatMap (fun p=>p.1++p.2)).length≤10+k*64):=by
    show _≤_;have h1:=HDL.out;have h2:(((l.take k).map plainP).flatMap (fun p=>p.1++p.2)).length=(l.take k).length*64:=by
     generalize l.take k=q;induction q with
     | nil=>rfl
     | cons p q ih=>rw [List.map_cons,List.flatMap_cons,List.length_append,ih];simp [plainP,p.1.2,p.2.2];omega
    rw [List.length_append,h2,List.length_take,Nat.min_eq_left hk];omega
   have HEQ:Hid (digB l.length++((l.take (k+1)).map plainP).flatMap (fun p=>p.1++p.2)=(digB l.length++((l.take k).map plainP).flatMap (fun p=>p.1++p.2))++(pk.1.1++pk.2.1)):=by
    show _=_;rw [HTK.out,List.append_assoc]
   clear HTK HAT HI HX;have hpre:∃pre,pre=digB l.length++((l.take k).map plainP).flatMap (fun p=>p.1++p.2):=⟨_,rfl⟩;obtain ⟨pre,hpre⟩:=hpre;simp only [←List.map_take];rw [←hpre] at HPL HEQ ⊢;clear hpre;generalize hbb:wr.heap.size=bb at *;generalize wr.alloc (.cells (partC pk).toArray 83)=wa at *;clear hbb hlen;have HS1:Hid (¬9223372036854775807<(bs pk.1.1).size+(bs pk.2.1).size):=by show ¬_;rw [bs_size,bs_size,pk.1.2,pk.2.2];omega
   have HS2:Hid (¬9223372036854775807<(bs pre).size+((bs pk.1.1).size+(bs pk.2.1).size)):=by show ¬_;rw [bs_size,bs_size,bs_size,pk.1.2,pk.2.2];have:=HPL.out;omega
   refine wp_region_tree 9 (OT.sures [0,1,2,3,4,5,6,7,8] .nil) (fun w'=>Upd noBlk wa w') (by kernel_rfl) (by kernel_rfl) (fun c a d v w h=>by cases d<;>exact h) ((Upd.refl noBlk wa).drew) ?_
   simp only [OT.sures]
   iterate 9 (apply wpT_sure rfl rfl;focus (intro w' hw';obtain ⟨ra,rb⟩:=part_ranges (HR1.out.keep hw');have c1:=conv32 pk.1 ra;have c2:=conv32 pk.2 rb;have s1:=HS1.out;have s2:=HS2.out;go_simp;rfl))
   refine wpT_nil ?_;go_wp2_with fail
   refine ⟨⟨k+1,by push_cast;rfl,by omega,?_,HU1.out.drew⟩,?_⟩
   ·rw [HEQ.out,bs_append,bs_append]
   ·simp only [intOf];omega
  ·obtain rfl:k=l.length:=by omega
   go_wp2_with fail
   go_ret
   refine ⟨?_,HU.out⟩;rw [HPB.out,List.take_length];rfl
end Go.Proofs.YtcikldoaidmnhaaGreatDoor
namespace Go.Proofs.YtcikldoaidmnhaaGreatDoor
open Go Go.RowKit Pk
set_option maxRecDepth 100000
theorem cells1 {w:World} {b:Nat} {x0:Value} {t:TypeId} {fr:Nat × Nat} (h:w.heap[b]?=some (.cells #[x0] t fr)):w.cell? ⟨b,0,none⟩=some x0:=by simp [World.cell?,h]
theorem conv_one (x:UInt8) (bl:Nat) (W:World) (hb:W.heap[bl]?=some (.cells #[.int .u8 x.toNat] 5 (0,0))):(convert 41 9 (.slice (some ⟨bl,0,none⟩) 1 1)).run Tryz.prog W=.ok (.string (bs [x])) W:=by
 have ho:W.ownsRow 0 5 1 (.slice (some ⟨bl,0,none⟩) 1 1) 1 (byV [x]):=⟨rfl,.inr ⟨bl,1,_,rfl,Nat.zero_le _,hb,Nat.le_refl _,by unfold maxLen;omega,rfl,rfl⟩⟩;exact conv_bs rfl ho
theorem flat_parts_len (q:List P32):((q.map plainP).flatMap (fun p=>p.1++p.2)).length=q.length*64:=by
 induction q with
 | nil=>rfl
 | cons p q ih=>rw [List.map_cons,List.flatMap_cons,List.length_append,ih];simp [plainP,p.1.2,p.2.2];omega
theorem partsB_len (l:List P32) (hl:l.length≤65536):(partsB (l.map plainP)).length≤10+l.length*64:=by
 unfold partsB;rw [List.length_append,flat_parts_len,List.length_map];have:=digB_ten (n:=l.length) (by omega);omega
set_option maxHeartbeats 2000000 in
theorem Root_any (v:Value) (l:List P32) (w:World) (h:kPart.Rd w v l):Calls Tryz.prog 25 #[.agg #[v]] w fun en w'=>strR (if 65536<l.length then [] else rootB (l.map plainP)) w en w':=by
 have HPA:Hid (∀W,l.length≤65536→Upd noBlk w W→Calls Tryz.prog 73 #[v] W fun en w'=>strR (partsB (l.map plainP)) W en w'):=fun W hl hW=>parts_any v l hl W (h.keep hW);obtain ⟨A,cap,rfl,hcap,hx⟩:=h;clear hx;go_enter Tryz.func25,Tryz.ntmps25
 have HU0:Hid (Upd noBlk w (w.alloc (.cells #[.slice A l.length cap] 50))):=(Upd.refl _ w).alloc _;by_cases hl:65536<l.length
 ·have hl':(65536:Int)<(l.length:Int):=by omega
  rw [if_pos hl];clear HPA;go_wp2_with fail
  go_ret
  exact ⟨rfl,HU0.out⟩
 ·have hl':(l.length:Int)≤65536:=by omega
  rw [if_neg hl];go_wp2_with fail
  have HKB:Hid ((w.alloc (.cells #[.slice A l.length cap] 50)).heap[w.heap.size]?=some (.cells #[.slice A l.length cap] 50 (0,0))):=heap_alloc_last w _;have HFN:Hid (∀W,Upd noBlk (w.alloc (.cells #[.slice A l.length cap] 50)) W→Calls Tryz.prog 73 #[.slice A l.length cap] W fun en w'=>strR (partsB (l.map plainP)) W en w'):=fun W hW=>HPA.out W (by omega) (HU0.out.trans hW);have HSZ:Hid (¬9223372036854775807<(bs [3]).size+(bs (partsB (l.map plainP))).size):=by
   show ¬_;have:=partsB_len l (by omega);rw [bs_size,bs_size];simp only [List.length_cons,List.length_nil];omega
  have HSUM:Hid (bs [3]++bs (partsB (l.map plainP))=bs (rootB (l.map plainP))):=by show _=_;rw [bs_append];rfl
  have HCV:=Lib.hid (conv_one 3);clear hl hl' HPA;generalize w.heap.size=bb at *;generalize w.alloc (.cells #[.slice A l.length cap] 50)=wr at *;refine wp_region_tree 6 (OT.sures [2,3] (.fork 0 (.sure 1 (.run 4 (.sure 5 .nil))) 4 (.run 0 (.sure 1 (.sure 5 .nil))))) (fun w'=>Upd noBlk wr w') (by kernel_rfl) (by kernel_rfl) (fun c a d v w h=>by cases d<;>exact h) ((Upd.refl noBlk wr).drew) ?_
  simp only [OT.sures]
  iterate 2 (apply wpT_sure rfl rfl;focus (intro w' hw';have b0:=cells1 (hw'.heap HKB.out id);go_simp;rfl))
  refine wpT_fork (fun w'=>Upd noBlk wr w'∧w'.heap[wr.heap.size]?=some (.cells #[.int .u8 3] 5 (0,0))) (fun w'=>Upd noBlk wr w') (fun _ h=>h.1) (fun _ h=>h) rfl rfl (fun K' hK=>?_) (fun K' hK=>?_)
  ·go_simp
   have hal:Upd noBlk wr (wr.alloc (.cells #[.int .u8 3] 5)).drew:=((Upd.refl noBlk wr).alloc _).drew;have hbl:(wr.alloc (.cells #[.int .u8 3] 5)).drew.heap[wr.heap.size]?=some (.cells #[.int .u8 3] 5 (0,0)):=heap_alloc_new wr _;refine hK _ _ ⟨⟨hal,hbl⟩,?_⟩;clear hK K'
   (apply wpT_sure rfl rfl;focus (intro w' hw';have hc:=HCV.out wr.heap.size w' hw'.2;go_simp;rfl))
   refine wpT_run (fun w'=>Upd noBlk wr w'∧w'.heap[wr.heap.size]?=some (.cells #[.int .u8 3] 5 (0,0))) (fun _ h=>h) rfl (fun K' hK=>?_);go_simp
   refine (HFN.out _ hal).mono ?_;rintro e wz ⟨rfl,uz⟩;have UZ:=Lib.hid (HU0.out.trans (hal.trans uz));refine hK _ _ ⟨⟨hal.trans uz,uz.heap hbl id⟩,?_⟩;clear hK K' hal hbl uz
   (apply wpT_sure rfl rfl;focus (intro w' hw';have hz:=HSZ.out;go_simp;rfl))
   refine wpT_nil ?_;go_wp2_with fail
   go_ret
   exact ⟨by rw [←HSUM.out];rfl,UZ.out⟩
  ·go_simp
   have hdr:Upd noBlk wr wr.drew:=(Upd.refl noBlk wr).drew;refine (HFN.out _ hdr).mono ?_;rintro e wz ⟨rfl,uz⟩;have UZ:=Lib.hid (HU0.out.trans (hdr.trans uz));refine hK _ _ ⟨hdr.trans uz,?_⟩;have UZ2:=Lib.hid (hdr.trans uz);clear hK K' hdr uz;refine wpT_run (fun w'=>Upd noBlk wr w'∧w'.heap[wz.heap.size]?=some (.cells #[.int .u8 3] 5 (0,0))) (fun _ h=>h.1) rfl (fun K' hK=>?_);go_simp
   refine hK _ _ ⟨⟨UZ2.out.alloc _,heap_alloc_new wz _⟩,?_⟩;clear hK K'
   (apply wpT_sure rfl rfl;focus (intro w' hw';have hc:=HCV.out wz.heap.size w' hw'.2;go_simp;rfl))
   (apply wpT_sure rfl rfl;focus (intro w' hw';have hz:=HSZ.out;go_simp;rfl))
   refine wpT_nil ?_;go_wp2_with fail
   go_ret
   exact ⟨by rw [←HSUM.out];rfl,UZ.out.alloc _⟩
end Go.Proofs.YtcikldoaidmnhaaGreatDoor
