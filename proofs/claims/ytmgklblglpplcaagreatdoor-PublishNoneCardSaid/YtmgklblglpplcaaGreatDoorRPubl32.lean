/- Parts: A string turned into a row of bytes. No condition. Walks of the program's SHA-256: words and their bytes, the words of a block. No condition. Walks of the reference of SHA-256: the message of a string. No condition. -/
import Derived.Test.YtmgklblglpplcaaGreatDoorRPubl2
import Derived.Test.YtmgklblglpplcaaGreatDoorRPubl3
import Derived.Test.YtmgklblglpplcaaGreatDoorRPubl4
import Derived.Test.YtmgklblglpplcaaGreatDoorRPubl5
import Derived.Test.YtmgklblglpplcaaGreatDoorRPubl6
import Derived.Test.YtmgklblglpplcaaGreatDoorRPubl11
import Derived.Test.YtmgklblglpplcaaGreatDoorRPubl12
import Derived.Test.YtmgklblglpplcaaGreatDoorRPubl14
import Derived.Test.YtmgklblglpplcaaGreatDoorRPubl19
import Derived.Test.YtmgklblglpplcaaGreatDoorRPubl20
import Derived.Test.YtmgklblglpplcaaGreatDoorRPubl21
import Derived.Test.YtmgklblglpplcaaGreatDoorRPubl22
import Derived.Test.YtmgklblglpplcaaGreatDoorRPubl25
import Derived.Test.YtmgklblglpplcaaGreatDoorRPubl27
import Derived.Test.YtmgklblglpplcaaGreatDoorRPubl29
import Derived.Test.YtmgklblglpplcaaGreatDoorRPubl30
import Derived.WalkKit
import Derived.WalkSpells
import Derived.WalkLawsBesides
import Derived.Lib.Hide
import Derived.BigQuiet
import Derived.Deep.DeepFit
import Derived.Deep.DeepCutAuto
import Derived.Deep.AppendLies
import Derived.Deep.QuietTactic
import Derived.Test.YtmgklblglpplcaaGreatDoorRows
import Derived.Deep.RegionHeld3
import Derived.StillTail
import Derived.Lib.AppendStr
import Derived.Lib.AppendZeros
import Derived.Deep.MidRow
import Derived.ArgAppend
import Derived.Deep.Upon
import Derived.Maps.OwnOps
import Derived.Maps.OwnSet
import Derived.Maps.RangeWalk
import Derived.WideKeyEntry
import Derived.Lib.Bits
import Derived.Laws.EntriesVeiled
import Derived.Handy
import Derived.DeepKeys4
import Derived.Deep.CutBlock
import Derived.Test.YtmgklblglpplcaaGreatDoorShelf2
import Derived.Laws.BitsAllLaws
import Derived.Laws.BytesArg
import Derived.Test.YtmgklblglpplcaaGreatDoorShelf
import Derived.Lib.Zigzag
import Derived.Recover
import Derived.Deep.WholeRow
import Derived.Laws.IdiomStrings
import Derived.IntWalk
namespace Go.Proofs.YtmgklblglpplcaaGreatDoor
open Go Go.RowKit Pk
set_option maxRecDepth 100000
theorem conv_row (l:Bytes) (w:World):∃cap W,(convert 9 48 (.string (bs l))).run Tryz.prog w=.ok (.slice (some ⟨w.heap.size,0,none⟩) l.length cap) W∧RowB W w.heap.size w.heap.size cap l∧Upd noBlk w W∧w.heap.size<W.heap.size:=by
 have h:=run_bytes_of_string (P:=Tryz.prog) w 9 48 5 (bs l) Tryz.underlying9 Tryz.underlying48 Tryz.underlying5;rw [bs_size] at h;have hge:=grownCap_ge w l.length 0 5;generalize grownCap w l.length 0 5=cap at h hge;have hg:(w.drew.alloc (.cells (bytesRow (bs l) cap) 5 ((bytesRow (bs l) cap).size,(bytesRow (bs l) cap).size+1))).heap[w.heap.size]?=some (.cells (bytesRow (bs l) cap) 5 ((bytesRow (bs l) cap).size,(bytesRow (bs l) cap).size+1)):=heap_alloc_new w.drew _;have hsz:(bytesRow (bs l) cap).size=cap:=by
  unfold bytesRow;rw [Array.size_append,Array.size_map,Array.size_replicate,bs_size];have:(bs l).data.size=l.length:=by unfold bs;simp
  omega
 refine ⟨cap,_,h,⟨Nat.le_refl _,hge,fun j v hj=>?_,fun j hj=>?_,fun j hj=>?_⟩,((Upd.refl _ _).drew).alloc _,by simp⟩
 ·have hjl:j<l.length:=by have:=(List.getElem?_eq_some_iff.1 hj).1;rw [byV_len] at this;exact this
  have hs:j<(bs l).data.size:=by unfold bs;simpa using hjl
  rw [Nat.zero_add];simp only [World.cell?,hg];rw [bytesRow_at (bs l) cap j hs];have hb:(byV l)[j]?=some (.int .u8 ((l[j].toNat:Nat):Int)):=by unfold byV;rw [List.getElem?_map,List.getElem?_eq_getElem hjl];rfl
  rw [hb] at hj;rw [←hj];simp [bs];rfl
 ·simp only [World.cell?,hg];rw [Array.getElem?_eq_getElem (by rw [hsz];exact hj)];rfl
 ·have hf:∀(sz:Nat),sz=cap→(decide (sz≤j)&&decide (j<sz+1))=false:=fun sz e=>by subst e;simp;omega
  simp only [World.frozen?,hg];exact hf _ hsz
end Go.Proofs.YtmgklblglpplcaaGreatDoor
namespace Go.Proofs.YtmgklblglpplcaaGreatDoor
open Go Go.RowKit Pk Dg
set_option maxRecDepth 100000
theorem u8_congr {a b:Nat} (h:a % 256=b % 256):UInt8.ofNat a=UInt8.ofNat b:=by
 apply UInt8.toNat_inj.1;simp only [UInt8.toNat_ofNat'];exact h
def be8 (n:Nat):Bytes:=[UInt8.ofNat (n / 72057594037927936),UInt8.ofNat (n / 281474976710656),UInt8.ofNat (n / 1099511627776),UInt8.ofNat (n / 4294967296),UInt8.ofNat (n / 16777216),UInt8.ofNat (n / 65536),UInt8.ofNat (n / 256),UInt8.ofNat n]
theorem be8_eq (n:Nat):be4 (n / 4294967296)++be4 (n % 4294967296)=be8 n:=by
 show [UInt8.ofNat (n / 4294967296 / 16777216),UInt8.ofNat (n / 4294967296 / 65536),UInt8.ofNat (n / 4294967296 / 256),UInt8.ofNat (n / 4294967296),UInt8.ofNat (n % 4294967296 / 16777216),UInt8.ofNat (n % 4294967296 / 65536),UInt8.ofNat (n % 4294967296 / 256),UInt8.ofNat (n % 4294967296)]=be8 n;rw [u8_congr (a:=n / 4294967296 / 16777216) (b:=n / 72057594037927936) (by omega),u8_congr (a:=n / 4294967296 / 65536) (b:=n / 281474976710656) (by omega),u8_congr (a:=n / 4294967296 / 256) (b:=n / 1099511627776) (by omega),
  u8_congr (a:=n % 4294967296 / 16777216) (b:=n / 16777216) (by omega),u8_congr (a:=n % 4294967296 / 65536) (b:=n / 65536) (by omega),u8_congr (a:=n % 4294967296 / 256) (b:=n / 256) (by omega),u8_congr (a:=n % 4294967296) (b:=n) (by omega)]
 rfl
theorem be8_len (n:Nat):(be8 n).length=8:=rfl
def padN (s:Bytes):Nat:=(119-s.length % 64) % 64
theorem padN_lt (s:Bytes):padN s<64:=Nat.mod_lt _ (by decide)
theorem pad_test (s:Bytes) (j m:Nat) (hm:m=s.length+1+j) (hj:j≤padN s):(m % 64=56)↔j=padN s:=by
 unfold padN at *;omega
theorem padB_eq (s:Bytes):padB s=s++[128]++List.replicate (padN s) 0++be8 (s.length*8):=by
 unfold padB padN;rw [List.append_assoc (s++[128]++_),←be8_eq]
set_option maxHeartbeats 2000000 in
theorem jpadded_any (s:Bytes) (hs:s.length≤1152921504606846976) (w:World):Calls Tryz.prog 52 #[.string (bs s)] w fun en w'=>strR (padB s) w en w':=by
 rw [padB_eq];have HP:=Lib.hid (padN_lt s);obtain ⟨p,hp⟩:∃p,p=padN s:=⟨_,rfl⟩;have HT:=Lib.hid (fun j m hm hj=>pad_test s j m hm hj);rw [←hp] at HT HP;rw [←hp];obtain ⟨n,hn⟩:∃n,n=s.length:=⟨_,rfl⟩;rw [←hn] at HT hs;rw [←hn];have hsz:(bs s).size=n:=by rw [bs_size,hn]
 have hcat:bs s++⟨#[128]⟩=bs (s++[128]):=bs_append s [128];have hz1:(⟨#[128]⟩:ByteArray).size=1:=rfl;have HN:=Lib.hid hn;have hs':(n:Int)≤1152921504606846976:=by omega
 have HL:=Lib.hid hs;clear hp hn hs;go_enter Tryz.func52,Tryz.ntmps52
 go_wp2_with fail
 go_loopw [3] (fun t wr=>∃(j:Nat) (T:Bytes),t=.string (bs T)∧T=s++[128]++List.replicate j 0∧j≤p∧wr=w) (fun t _=>match t with | .string b=>(n+1+p)-b.size | _=>0)
 case atStart=>exact ⟨0,s++[128],rfl,by simp,Nat.zero_le _,rfl⟩
 case round=>
  obtain ⟨j,T,rfl,hT,hj,hw⟩:=hrel;obtain ⟨m,hm⟩:∃m,m=n+1+j:=⟨_,rfl⟩;have hszT:(bs T).size=m:=by rw [bs_size,hT,hm];simp;have:=HN.out;omega
  have HTT:=Lib.hid hT;have HM:=Lib.hid hm;have HW:=Lib.hid hw;have hm':(m:Int)≤1152921504606847100:=by have:=HP.out;omega
  by_cases hjp:j=p
  ·have ht:(m:Int) % 64=56:=by have:=(HT.out j m hm hj).2 hjp;omega
   have HJ:=Lib.hid hjp;clear hT hm hw hjp hj;go_wp2_with fail
   obtain ⟨P,hP⟩:∃P,P=s++[128]++List.replicate p 0:=⟨_,rfl⟩;obtain ⟨q,hq⟩:∃q,q=n*8:=⟨_,rfl⟩;have HPL:Hid (P.length≤1152921504606847100):=by show _≤_;rw [hP];simp;have:=HN.out;have:=HL.out;have:=HP.out;omega
   have HTP:Hid (T=P):=by show _=_;rw [HTT.out,hP,HJ.out]
   rw [HW.out];clear HTT HT HJ HM HW hm' ht hszT hq hsz hcat;have HPP:=Lib.hid hP;clear hP;go_loopw [3,5] (fun t i wx=>∃k:Nat,k≤8∧i=.int .i64 (7-(k:Int))∧t=.string (bs (P++(be8 (n*8)).take k))∧Upd noBlk w wx) (fun _ i _=>(intOf i+1).toNat)
   case atStart=>exact ⟨0,by omega,rfl,by rw [HTP.out];simp,Upd.refl _ _⟩
   case round=>
    obtain ⟨k,hk,rfl,rfl,hu⟩:=hrel;have HU:=Lib.hid hu;clear hu;rcases (by omega:k=0∨k=1∨k=2∨k=3∨k=4∨k=5∨k=6∨k=7∨k=8) with rfl | rfl | rfl | rfl | rfl | rfl | rfl | rfl | rfl
    ·obtain ⟨x,hx⟩:∃x,x=UInt8.ofNat (n*8 / 72057594037927936):=⟨_,rfl⟩;have hl:=HL.out;have hxm:(x.toNat:Int)=(n:Int)*8 / 72057594037927936:=by rw [hx,UInt8.toNat_ofNat'];omega
     have HX:=Lib.hid hx;have HU2:Hid (Upd noBlk w (wr.alloc (.cells #[.int .u8 ((n:Int)*8 / 72057594037927936)] 5))):=HU.out.alloc _;have hcv:=conv_one x wr.heap.size (wr.alloc (.cells #[.int .u8 ((n:Int)*8 / 72057594037927936)] 5)) (by rw [hxm];exact heap_alloc_new wr _);obtain ⟨A,hA⟩:∃A,A=P++(be8 (n*8)).take 0:=⟨_,rfl⟩;have HA:=Lib.hid hA;rw [←hA];have hsz:¬9223372036854775807<(bs A).size+(bs [x]).size:=by
      rw [bs_size,bs_size,hA,List.length_append];have:=HPL.out;have h8:((be8 (n*8)).take 0).length≤8:=by rw [List.length_take,be8_len];omega
      simp only [List.length_cons,List.length_nil];omega
     have hcat:bs A++bs [x]=bs (A++[x]):=bs_append A [x];clear hx hxm hA hl;go_wp2_with fail
     refine ⟨⟨1,by omega,rfl,?_,HU2.out⟩,by simp [intOf]⟩;rw [HA.out,HX.out];simp [be8]
    ·obtain ⟨x,hx⟩:∃x,x=UInt8.ofNat (n*8 / 281474976710656):=⟨_,rfl⟩;have hl:=HL.out;have hxm:(x.toNat:Int)=((n:Int)*8 / 281474976710656) % 256:=by rw [hx,UInt8.toNat_ofNat'];omega
     have HX:=Lib.hid hx;have HU2:Hid (Upd noBlk w (wr.alloc (.cells #[.int .u8 (((n:Int)*8 / 281474976710656) % 256)] 5))):=HU.out.alloc _;have hcv:=conv_one x wr.heap.size (wr.alloc (.cells #[.int .u8 (((n:Int)*8 / 281474976710656) % 256)] 5)) (by rw [hxm];exact heap_alloc_new wr _);obtain ⟨A,hA⟩:∃A,A=P++(be8 (n*8)).take 1:=⟨_,rfl⟩;have HA:=Lib.hid hA;rw [←hA];have hsz:¬9223372036854775807<(bs A).size+(bs [x]).size:=by
      rw [bs_size,bs_size,hA,List.length_append];have:=HPL.out;have h8:((be8 (n*8)).take 1).length≤8:=by rw [List.length_take,be8_len];omega
      simp only [List.length_cons,List.length_nil];omega
     have hcat:bs A++bs [x]=bs (A++[x]):=bs_append A [x];clear hx hxm hA hl;go_wp2_with fail
     refine ⟨⟨2,by omega,rfl,?_,HU2.out⟩,by simp [intOf]⟩;rw [HA.out,HX.out];simp [be8]
    ·obtain ⟨x,hx⟩:∃x,x=UInt8.ofNat (n*8 / 1099511627776):=⟨_,rfl⟩;have hl:=HL.out;have hxm:(x.toNat:Int)=((n:Int)*8 / 1099511627776) % 256:=by rw [hx,UInt8.toNat_ofNat'];omega
     have HX:=Lib.hid hx;have HU2:Hid (Upd noBlk w (wr.alloc (.cells #[.int .u8 (((n:Int)*8 / 1099511627776) % 256)] 5))):=HU.out.alloc _;have hcv:=conv_one x wr.heap.size (wr.alloc (.cells #[.int .u8 (((n:Int)*8 / 1099511627776) % 256)] 5)) (by rw [hxm];exact heap_alloc_new wr _);obtain ⟨A,hA⟩:∃A,A=P++(be8 (n*8)).take 2:=⟨_,rfl⟩;have HA:=Lib.hid hA;rw [←hA];have hsz:¬9223372036854775807<(bs A).size+(bs [x]).size:=by
      rw [bs_size,bs_size,hA,List.length_append];have:=HPL.out;have h8:((be8 (n*8)).take 2).length≤8:=by rw [List.length_take,be8_len];omega
      simp only [List.length_cons,List.length_nil];omega
     have hcat:bs A++bs [x]=bs (A++[x]):=bs_append A [x];clear hx hxm hA hl;go_wp2_with fail
     refine ⟨⟨3,by omega,rfl,?_,HU2.out⟩,by simp [intOf]⟩;rw [HA.out,HX.out];simp [be8]
    ·obtain ⟨x,hx⟩:∃x,x=UInt8.ofNat (n*8 / 4294967296):=⟨_,rfl⟩;have hl:=HL.out;have hxm:(x.toNat:Int)=((n:Int)*8 / 4294967296) % 256:=by rw [hx,UInt8.toNat_ofNat'];omega
     have HX:=Lib.hid hx;have HU2:Hid (Upd noBlk w (wr.alloc (.cells #[.int .u8 (((n:Int)*8 / 4294967296) % 256)] 5))):=HU.out.alloc _;have hcv:=conv_one x wr.heap.size (wr.alloc (.cells #[.int .u8 (((n:Int)*8 / 4294967296) % 256)] 5)) (by rw [hxm];exact heap_alloc_new wr _);obtain ⟨A,hA⟩:∃A,A=P++(be8 (n*8)).take 3:=⟨_,rfl⟩;have HA:=Lib.hid hA;rw [←hA];have hsz:¬9223372036854775807<(bs A).size+(bs [x]).size:=by
      rw [bs_size,bs_size,hA,List.length_append];have:=HPL.out;have h8:((be8 (n*8)).take 3).length≤8:=by rw [List.length_take,be8_len];omega
      simp only [List.length_cons,List.length_nil];omega
     have hcat:bs A++bs [x]=bs (A++[x]):=bs_append A [x];clear hx hxm hA hl;go_wp2_with fail
     refine ⟨⟨4,by omega,rfl,?_,HU2.out⟩,by simp [intOf]⟩;rw [HA.out,HX.out];simp [be8]
    ·obtain ⟨x,hx⟩:∃x,x=UInt8.ofNat (n*8 / 16777216):=⟨_,rfl⟩;have hl:=HL.out;have hxm:(x.toNat:Int)=((n:Int)*8 / 16777216) % 256:=by rw [hx,UInt8.toNat_ofNat'];omega
     have HX:=Lib.hid hx;have HU2:Hid (Upd noBlk w (wr.alloc (.cells #[.int .u8 (((n:Int)*8 / 16777216) % 256)] 5))):=HU.out.alloc _;have hcv:=conv_one x wr.heap.size (wr.alloc (.cells #[.int .u8 (((n:Int)*8 / 16777216) % 256)] 5)) (by rw [hxm];exact heap_alloc_new wr _);obtain ⟨A,hA⟩:∃A,A=P++(be8 (n*8)).take 4:=⟨_,rfl⟩;have HA:=Lib.hid hA;rw [←hA];have hsz:¬9223372036854775807<(bs A).size+(bs [x]).size:=by
      rw [bs_size,bs_size,hA,List.length_append];have:=HPL.out;have h8:((be8 (n*8)).take 4).length≤8:=by rw [List.length_take,be8_len];omega
      simp only [List.length_cons,List.length_nil];omega
     have hcat:bs A++bs [x]=bs (A++[x]):=bs_append A [x];clear hx hxm hA hl;go_wp2_with fail
     refine ⟨⟨5,by omega,rfl,?_,HU2.out⟩,by simp [intOf]⟩;rw [HA.out,HX.out];simp [be8]
    ·obtain ⟨x,hx⟩:∃x,x=UInt8.ofNat (n*8 / 65536):=⟨_,rfl⟩;have hl:=HL.out;have hxm:(x.toNat:Int)=((n:Int)*8 / 65536) % 256:=by rw [hx,UInt8.toNat_ofNat'];omega
     have HX:=Lib.hid hx;have HU2:Hid (Upd noBlk w (wr.alloc (.cells #[.int .u8 (((n:Int)*8 / 65536) % 256)] 5))):=HU.out.alloc _;have hcv:=conv_one x wr.heap.size (wr.alloc (.cells #[.int .u8 (((n:Int)*8 / 65536) % 256)] 5)) (by rw [hxm];exact heap_alloc_new wr _);obtain ⟨A,hA⟩:∃A,A=P++(be8 (n*8)).take 5:=⟨_,rfl⟩;have HA:=Lib.hid hA;rw [←hA];have hsz:¬9223372036854775807<(bs A).size+(bs [x]).size:=by
      rw [bs_size,bs_size,hA,List.length_append];have:=HPL.out;have h8:((be8 (n*8)).take 5).length≤8:=by rw [List.length_take,be8_len];omega
      simp only [List.length_cons,List.length_nil];omega
     have hcat:bs A++bs [x]=bs (A++[x]):=bs_append A [x];clear hx hxm hA hl;go_wp2_with fail
     refine ⟨⟨6,by omega,rfl,?_,HU2.out⟩,by simp [intOf]⟩;rw [HA.out,HX.out];simp [be8]
    ·obtain ⟨x,hx⟩:∃x,x=UInt8.ofNat (n*8 / 256):=⟨_,rfl⟩;have hl:=HL.out;have hxm:(x.toNat:Int)=((n:Int)*8 / 256) % 256:=by rw [hx,UInt8.toNat_ofNat'];omega
     have HX:=Lib.hid hx;have HU2:Hid (Upd noBlk w (wr.alloc (.cells #[.int .u8 (((n:Int)*8 / 256) % 256)] 5))):=HU.out.alloc _;have hcv:=conv_one x wr.heap.size (wr.alloc (.cells #[.int .u8 (((n:Int)*8 / 256) % 256)] 5)) (by rw [hxm];exact heap_alloc_new wr _);obtain ⟨A,hA⟩:∃A,A=P++(be8 (n*8)).take 6:=⟨_,rfl⟩;have HA:=Lib.hid hA;rw [←hA];have hsz:¬9223372036854775807<(bs A).size+(bs [x]).size:=by
      rw [bs_size,bs_size,hA,List.length_append];have:=HPL.out;have h8:((be8 (n*8)).take 6).length≤8:=by rw [List.length_take,be8_len];omega
      simp only [List.length_cons,List.length_nil];omega
     have hcat:bs A++bs [x]=bs (A++[x]):=bs_append A [x];clear hx hxm hA hl;go_wp2_with fail
     refine ⟨⟨7,by omega,rfl,?_,HU2.out⟩,by simp [intOf]⟩;rw [HA.out,HX.out];simp [be8]
    ·obtain ⟨x,hx⟩:∃x,x=UInt8.ofNat (n*8):=⟨_,rfl⟩;have hl:=HL.out;have hxm:(x.toNat:Int)=((n:Int)*8) % 256:=by rw [hx,UInt8.toNat_ofNat'];omega
     have HX:=Lib.hid hx;have HU2:Hid (Upd noBlk w (wr.alloc (.cells #[.int .u8 (((n:Int)*8) % 256)] 5))):=HU.out.alloc _;have hcv:=conv_one x wr.heap.size (wr.alloc (.cells #[.int .u8 (((n:Int)*8) % 256)] 5)) (by rw [hxm];exact heap_alloc_new wr _);obtain ⟨A,hA⟩:∃A,A=P++(be8 (n*8)).take 7:=⟨_,rfl⟩;have HA:=Lib.hid hA;rw [←hA];have hsz:¬9223372036854775807<(bs A).size+(bs [x]).size:=by
      rw [bs_size,bs_size,hA,List.length_append];have:=HPL.out;have h8:((be8 (n*8)).take 7).length≤8:=by rw [List.length_take,be8_len];omega
      simp only [List.length_cons,List.length_nil];omega
     have hcat:bs A++bs [x]=bs (A++[x]):=bs_append A [x];clear hx hxm hA hl;go_wp2_with fail
     refine ⟨⟨8,by omega,rfl,?_,HU2.out⟩,by simp [intOf]⟩;rw [HA.out,HX.out];simp [be8]
    ·go_wp2_with fail
     go_ret
     refine ⟨?_,HU.out⟩;rw [HPP.out];rfl
  ·have ht0:¬m % 64=56:=fun h=>hjp ((HT.out j m hm hj).1 h);have ht:¬(m:Int) % 64=56:=by omega
   have HJ:Hid (j<p):=by show _<_;omega
   have hcat2:bs T++⟨#[0]⟩=bs (T++[0]):=bs_append T [0];have hz2:(⟨#[0]⟩:ByteArray).size=1:=rfl;clear hT hm hw hjp hj ht0;go_wp2_with fail
   refine ⟨⟨j+1,T++[0],rfl,by rw [HTT.out,List.replicate_succ'];simp,HJ.out,HW.out⟩,?_⟩;show n+1+p-(bs (T++[0])).size<n+1+p-(bs T).size;rw [hszT,bs_size,List.length_append,←bs_size,hszT];have:=HM.out;have:=HJ.out;simp only [List.length_cons,List.length_nil];omega
end Go.Proofs.YtmgklblglpplcaaGreatDoor
namespace Go.Proofs.YtmgklblglpplcaaGreatDoor
open Go Go.RowKit Pk Dg
set_option maxRecDepth 100000
theorem word_any {w:World} {g off n cap x0 x1 x2 x3:Nat} (h0:x0<256) (h1:x1<256) (h2:x2<256) (h3:x3<256) (hn:4≤n)
  (c0:w.cell? ⟨g,off,none⟩=some (.int .u8 (x0:Int))) (c1:w.cell? ⟨g,off+1,none⟩=some (.int .u8 (x1:Int))) (c2:w.cell? ⟨g,off+2,none⟩=some (.int .u8 (x2:Int))) (c3:w.cell? ⟨g,off+3,none⟩=some (.int .u8 (x3:Int))) :
  Calls Tryz.prog 75 #[.slice (some ⟨g,off,none⟩) n cap] w (wordQ (x0*16777216+x1*65536+x2*256+x3) w):=by
 have HW4:=Lib.hid (word4 h0 h1 h2 h3);have j0:(x0:Int)<256:=by omega
 have j1:(x1:Int)<256:=by omega
 have j2:(x2:Int)<256:=by omega
 have j3:(x3:Int)<256:=by omega
 have hn':4≤(n:Int):=by omega
 have n0:0<(n:Int):=by omega
 have n1:1<(n:Int):=by omega
 have n2:2<(n:Int):=by omega
 have n3:3<(n:Int):=by omega
 have m0:0<n:=by omega
 have m1:1<n:=by omega
 have m2:2<n:=by omega
 have m3:3<n:=by omega
 clear h0 h1 h2 h3 hn;go_enter Tryz.func75,Tryz.ntmps75
 go_wp2_with fail
 go_quiet (fail)
 go_wp2_with fail
 go_ret
 refine ⟨ret_u32 ?_,_,rfl⟩;have h4:=HW4.out;simp only [Int.natCast_mul,Int.cast_ofNat_Int] at h4;exact h4
theorem be4_row {x:Nat} (hx:x<4294967296):byV (be4 x)=[.int .u8 (((x / 16777216:Nat)):Int),.int .u8 (((x / 65536 % 256:Nat)):Int),.int .u8 (((x / 256 % 256:Nat)):Int),.int .u8 (((x % 256:Nat)):Int)]:=by
 simp only [byV,be4,List.map_cons,List.map_nil,UInt8.toNat_ofNat'];rw [show x / 16777216 % 2 ^ 8=x / 16777216 by omega]
theorem bytes_any (x:Nat) (hx:x<4294967296) (w:World):Calls Tryz.prog 32 #[.int .u32 (x:Int)] w fun e w'=>e=.returned (.slice (some ⟨w.heap.size,0,none⟩) 4 4)∧w'=w.alloc (.cells (byV (be4 x)).toArray 5):=by
 rw [be4_row hx];obtain ⟨a,ha⟩:∃a,a=x / 16777216:=⟨_,rfl⟩;obtain ⟨b,hb⟩:∃b,b=x / 65536 % 256:=⟨_,rfl⟩;obtain ⟨c,hc⟩:∃c,c=x / 256 % 256:=⟨_,rfl⟩;obtain ⟨d,hd⟩:∃d,d=x % 256:=⟨_,rfl⟩;rw [←ha,←hb,←hc,←hd];have e1:(x:Int) / 16777216=(a:Int):=by omega
 have e2:(x:Int) / 65536 % 256=(b:Int):=by omega
 have e3:(x:Int) / 256 % 256=(c:Int):=by omega
 have e4:(x:Int) % 256=(d:Int):=by omega
 have hx':(x:Int)≤4294967295:=by omega
 have ha':(a:Int)<256:=by omega
 clear ha hb hc hd hx;go_enter Tryz.func32,Tryz.ntmps32
 go_wp2_with fail
 go_ret
 exact ⟨rfl,rfl⟩
end Go.Proofs.YtmgklblglpplcaaGreatDoor
