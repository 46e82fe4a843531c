/- Parts: Hashes and parts as they lie in memory; strings made of bytes in the middle of a block. No condition. Walks of the packets' program: Root. No condition. Walks of the packets' program: a corner is met. No condition. Walks of the packets' program: digits. No condition. Walks of the packets' program: parts. No condition. -/
import Derived.Test.YtcikldoaidmnhaaGreatDoorQKeep4
import Derived.Test.YtcikldoaidmnhaaGreatDoorQKeep5
import Derived.Test.YtcikldoaidmnhaaGreatDoorQKeep6
import Derived.Test.YtcikldoaidmnhaaGreatDoorQKeep9
import Derived.Laws.BitsAllLaws
import Derived.Laws.BytesArg
import Derived.Deep.CutBlock
import Derived.Deep.WholeRow
namespace Go.Proofs.YtcikldoaidmnhaaGreatDoor
open Go Go.RowKit Pk
set_option maxRecDepth 100000
theorem or128:∀x,x<256→x ||| 128=x % 128+128:=by decide +kernel
theorem digB_small {n:Nat} (h:n<128):digB n=[UInt8.ofNat n]:=by rw [digB,dif_pos h]
theorem digB_big {n:Nat} (h:¬n<128):digB n=UInt8.ofNat (n % 128+128) :: digB (n / 128):=by rw [digB,dif_neg h]
theorem digB_len9:∀(k n:Nat),n<128 ^ k→0<k→(digB n).length≤k
 | 0,_,_,h=>absurd h (by omega)
 | k+1,n,h,_=>by
  by_cases hn:n<128
  ·rw [digB_small hn];simp
  ·rw [digB_big hn,List.length_cons];have hk:0<k:=by
    rcases Nat.eq_zero_or_pos k with rfl | hk
    ·simp at h;omega
    ·exact hk
   have:=digB_len9 k (n / 128) (by rw [Nat.pow_succ] at h;omega) hk;omega
theorem digB_ten {n:Nat} (h:n<9223372036854775808):(digB n).length≤10:=digB_len9 10 n (Nat.lt_of_lt_of_le h (by decide)) (by decide)
theorem u8_or {m:Nat}:bits .or .u8 ((m:Int) % 256) 128=(((UInt8.ofNat (m % 128+128)).toNat:Nat):Int):=by
 have e:(m:Int) % 256=((m % 256:Nat):Int):=by omega
 have e2:(128:Int)=((128:Nat):Int):=rfl;rw [e,e2,u8_or_nat _ _ (by omega) (by omega),or128 _ (by omega),u8_small (by omega)];congr 1
 omega
set_option maxHeartbeats 1000000 in
theorem digits_any (n:Nat) (hn:n<9223372036854775808) (w:World):Calls Tryz.prog 80 #[.int .i64 n] w fun en w'=>strR (digB n) w en w':=by
 have HN:Hid (n<9223372036854775808):=hn;have HT:=Lib.hid (digB_ten hn);have h63:(n:Int)≤9223372036854775807:=by omega
 clear hn;go_enter Tryz.func80,Tryz.ntmps80
 go_wp2_with fail
 go_loopw [0,3] (fun i o wr=>∃(m:Nat) (L:Bytes),i=.int .i64 m∧L++digB m=digB n∧m≤n∧wr.ownsRow w.heap.size 5 1 o L.length (byV L)∧Upd noBlk w wr) (fun i _ _=>(intOf i).toNat)
 case atStart=>exact ⟨n,[],rfl,rfl,Nat.le_refl _,World.ownsRow_nil _ _ _ _,Upd.refl _ _⟩
 case round=>
  obtain ⟨m,L,rfl,h1,h2,h3,h4⟩:=hrel;have HL:=Lib.hid h1;have HM:=Lib.hid h2;have HO:=Lib.hid h3;have HU:=Lib.hid h4;have hm63:(m:Int)≤9223372036854775807:=by omega
  have HLL:Hid (L.length≤10):=by have h5:=congrArg List.length h1;rw [List.length_append] at h5;have:=HT.out;show _≤_;omega
  obtain ⟨A,cap,rfl⟩:=own_form h3;clear h1 h2 h3 h4 h63;by_cases hb:m<128
  ·have hb':(m:Int)<128:=by omega
   have hb'':¬(128:Int)≤(m:Int):=by omega
   have HB:=Lib.hid hb;clear hb;obtain ⟨g,cap3,w3,r3,o3,u3⟩:=append_by HU.out.size HO.out (UInt8.ofNat m) (by have:=HLL.out;omega);rw [u8_small (by have:=HB.out;omega)] at r3;have R3:=Lib.hid r3;have HW3:Hid (Upd noBlk w w3):=HU.out.then u3 (fun i hi e=>absurd (HO.out.lt i e).1 (by omega));have HCV:=Lib.hid (conv_bs rfl o3);have hlen:(L++[UInt8.ofNat m]).length=L.length+1:=by simp
   have HDN:Hid (L++[UInt8.ofNat m]=digB n):=by show _=_;rw [←HL.out,digB_small HB.out]
   have hc3:((convert 41 9 (.slice (some ⟨g,0,none⟩) (L.length+1) cap3)).run Tryz.prog w3=.ok (.string (bs (digB n))) w3):=by rw [←HDN.out];exact HCV.out
   clear r3 o3 u3 hlen HCV;go_wp2_with (first | (at_builtin;refine wpList_append_run rfl _ _ _ rfl rfl rfl R3.out ?_))
   go_ret
   exact ⟨rfl,HW3.out⟩
  ·have hb':(128:Int)≤(m:Int):=by omega
   have HB:=Lib.hid hb;clear hb;have hor:=u8_or (m:=m);obtain ⟨g,cap3,w3,r3,o3,u3⟩:=append_by HU.out.size HO.out (UInt8.ofNat (m % 128+128)) (by have:=HLL.out;omega);obtain ⟨x,hx⟩:∃x,x=(UInt8.ofNat (m % 128+128)).toNat:=⟨_,rfl⟩;rw [←hx] at r3 hor;have R3:=Lib.hid r3;have O3:=Lib.hid o3;have HW3:Hid (Upd noBlk w w3):=HU.out.then u3 (fun i hi e=>absurd (HO.out.lt i e).1 (by omega));clear r3 o3 u3 hx;go_wp2_with (first | (at_builtin;refine wpList_append_run rfl _ _ _ rfl rfl rfl R3.out ?_))
   refine ⟨⟨m / 128,L++[UInt8.ofNat (m % 128+128)],by go_num,?_,by have:=HM.out;omega,?_,HW3.out⟩,?_⟩
   ·rw [←HL.out,digB_big HB.out];simp
   ·have:=O3.out;rw [List.length_append] at this ⊢;exact this
   ·simp only [intOf];have:=HB.out;omega
end Go.Proofs.YtcikldoaidmnhaaGreatDoor
namespace Go.Proofs.YtcikldoaidmnhaaGreatDoor
open Go Go.RowKit Pk
set_option maxRecDepth 100000
abbrev H32:={h:Bytes // h.length=32}
abbrev P32:=H32 × H32
def hashC (h:H32):List Value:=byV h.1
def partC (p:P32):List Value:=byV p.1.1++byV p.2.1
def plainP (p:P32):Part:=(p.1.1,p.2.1)
theorem byV_len (l:Bytes):(byV l).length=l.length:=by simp [byV]
theorem hashC_len (h:H32):(hashC h).length=32:=by unfold hashC;rw [byV_len,h.2]
theorem partC_len (p:P32):(partC p).length=64:=by unfold partC;rw [List.length_append,byV_len,byV_len,p.1.2,p.2.2]
theorem byV_one (l:Bytes):∀v,v∈byV l→v.oneCell'=true:=by
 intro v hv;obtain ⟨c,_,rfl⟩:=List.mem_map.1 hv;rfl
theorem partC_one (p:P32):∀v,v∈partC p→v.oneCell'=true:=by
 intro v hv;rcases List.mem_append.1 hv with h | h
 ·exact byV_one _ v h
 ·exact byV_one _ v h
noncomputable def kHash:Kd Tryz.prog H32:={ T:=81,S:=63,k:=32,bytes:=32,enc:=hashC,len:=hashC_len,one:=fun h=>byV_one h.1,pos:=by decide,small:=by decide,und:=Tryz.underlying63,info:=kinfo_of (by kernel_rfl) }
noncomputable def kPart:Kd Tryz.prog P32:={ T:=83,S:=47,k:=64,bytes:=64,enc:=partC,len:=partC_len,one:=partC_one,pos:=by decide,small:=by decide,und:=Tryz.underlying47,info:=kinfo_of (by kernel_rfl) }
theorem conv_mid {w:World} {b off cap:Nat} {l:Bytes} (h:w.rangeAt b off (byV l)):(convert 41 9 (.slice (some ⟨b,off,none⟩) l.length cap)).run Tryz.prog w=.ok (.string (bs l)) w:=by
 have e:l.length=(l.map UInt8.toNat).length:=by simp
 rw [run_convert_bytes_arg w 41 5 Tryz.underlying41 Tryz.underlying5 b off l.length cap ((l.map UInt8.toNat).map fun (d:Nat)=>(d:Int)) (by simp) (fun i hi=>?_) 9 Tryz.underlying9,strOfNums_cast,str_bs];refine h i _ ?_;simp [byV,hi]
theorem part_ranges {w:World} {b o:Nat} {p:P32} (h:kPart.At w b o p):w.rangeAt b o (byV p.1.1)∧w.rangeAt b (o+32) (byV p.2.1):=by
 have h':w.rangeAt b o (byV p.1.1++byV p.2.1):=h;refine ⟨fun j v hv=>h' j v ?_,fun j v hv=>?_⟩
 ·have hj:=(List.getElem?_eq_some_iff.1 hv).1;rw [List.getElem?_append_left hj];exact hv
 ·rw [Nat.add_assoc];refine h' (32+j) v ?_;rw [List.getElem?_append_right (by rw [byV_len,p.1.2];omega),byV_len,p.1.2,Nat.add_sub_cancel_left];exact hv
end Go.Proofs.YtcikldoaidmnhaaGreatDoor
namespace Go.Proofs.YtcikldoaidmnhaaGreatDoor
open Go Go.RowKit Pk
set_option maxRecDepth 100000
theorem conv32 (h:H32) {w:World} {b off:Nat} (ha:w.rangeAt b off (byV h.1)):(convert 41 9 (.slice (some ⟨b,off,none⟩) 32 32)).run Tryz.prog w=.ok (.string (bs h.1)) w:=by
 have:=conv_mid (cap:=32) ha;rw [h.2] at this;exact this
set_option maxHeartbeats 2000000 in
theorem parts_any (v:Value) (l:List P32) (hl:l.length≤65536) (w:World) (h:kPart.Rd w v l):Calls Tryz.prog 73 #[v] w fun en w'=>strR (partsB (l.map plainP)) w en w':=by
 obtain ⟨A,cap,rfl,hcap,hx⟩:=h;have HX:=Lib.hid hx;have HDG:=fun W=>Lib.hid (digits_any l.length (by omega) W);have hl':(l.length:Int)≤65536:=by omega
 have HPB:Hid (partsB (l.map plainP)=digB l.length++(l.map plainP).flatMap (fun p=>p.1++p.2)):=by show _=_;unfold partsB;rw [List.length_map]
 have HDL:=Lib.hid (digB_ten (n:=l.length) (by omega));clear hx hl;go_enter Tryz.func73,Tryz.ntmps73
 go_wp2_with fail
 refine (HDG _).out.mono ?_;rintro e w1 ⟨rfl,u1⟩;have U1:=Lib.hid u1;clear u1 HDG;go_wp2_with fail
 go_loopw [3,11] (fun s i wr=>∃k:Nat,i=.int .i64 k∧k≤l.length∧s=.string (bs (digB l.length++((l.take k).map plainP).flatMap (fun p=>p.1++p.2)))∧Upd noBlk w wr) (fun _ i _=>l.length-(intOf i).toNat)
 case atStart=>exact ⟨0,rfl,Nat.zero_le _,by simp,U1.out⟩
 case round=>
  obtain ⟨k,rfl,hk,rfl,hu⟩:=hrel;have HU:=Lib.hid hu;clear hu;by_cases hlt:k<l.length
  ·have hlt':(k:Int)<(l.length:Int):=by omega
   obtain ⟨b,off,rfl,f1⟩:=HX.out (by omega);have hat:=(f1 k hlt).keep HU.out;have hk64:kPart.k=64:=rfl;rw [hk64] at hat;have HAT:=Lib.hid hat;have HTK:Hid (((l.take (k+1)).map plainP).flatMap (fun p=>p.1++p.2)=((l.take k).map plainP).flatMap (fun p=>p.1++p.2)++(l[k].1.1++l[k].2.1)):=by
    show _=_;rw [List.take_succ_eq_append_getElem hlt,List.map_append,List.flatMap_append];simp [plainP]
   clear f1 hat hk64;generalize l[k]=pk at *;have HI:Hid ((Tryz.prog.info? 83).map (·.size)=some (partC pk).length):=by show _=_;rw [partC_len];kernel_rfl
   have HST:∀c:Array Value,c.size=64→(storeCells ⟨wr.heap.size,0,none⟩ (partC pk) 0).run Tryz.prog (wr.alloc (.cells c 83))=.ok () (wr.alloc (.cells (partC pk).toArray 83)):=fun c hc=>by
    have:=run_storeCells_new (P:=Tryz.prog) wr 83 c (partC pk).toArray (by simpa using HI.out) (by simp [hc,partC_len]) (all_oneCell_toArray (partC_one pk));simpa using this
   have hlen:=partC_len pk;go_wp2_with (first | (refine wpList_load_mid rfl _ _ rfl b (off+k*64) rfl (partC pk) _ HAT.out Tryz.underlying83 rfl HI.out ?_))
   clear HST;have HR1:Hid (kPart.At (wr.alloc (.cells (partC pk).toArray 83)) wr.heap.size 0 pk):=by
    show World.rangeAt _ _ _ _;intro j v hv;rw [Nat.zero_add,cell_of_row _ _ j (partC pk).toArray 83 (0,0) (heap_alloc_last wr _)];have hv':(partC pk)[j]?=some v:=hv;simpa using hv'
   have HU1:Hid (Upd noBlk w (wr.alloc (.cells (partC pk).toArray 83))):=HU.out.alloc _;have HBS:Hid (wr.heap.size<(wr.alloc (.cells (partC pk).toArray 83)).heap.size):=by show _<(wr.heap.push _).size;rw [Array.size_push];omega
   have HPL:Hid ((digB l.length++((l.take k).map plainP).flatMap (fun p=>p.1++p.2)).length≤10+k*64):=by
    show _≤_;have h1:=HDL.out;have h2:(((l.take k).map plainP).flatMap (fun p=>p.1++p.2)).length=(l.take k).length*64:=by
     generalize l.take k=q;induction q with
     | nil=>rfl
     | cons p q ih=>rw [List.map_cons,List.flatMap_cons,List.length_append,ih];simp [plainP,p.1.2,p.2.2];omega
    rw [List.length_append,h2,List.length_take,Nat.min_eq_left hk];omega
   have HEQ:Hid (digB l.length++((l.take (k+1)).map plainP).flatMap (fun p=>p.1++p.2)=(digB l.length++((l.take k).map plainP).flatMap (fun p=>p.1++p.2))++(pk.1.1++pk.2.1)):=by
    show _=_;rw [HTK.out,List.append_assoc]
   clear HTK HAT HI HX;have hpre:∃pre,pre=digB l.length++((l.take k).map plainP).flatMap (fun p=>p.1++p.2):=⟨_,rfl⟩;obtain ⟨pre,hpre⟩:=hpre;simp only [←List.map_take];rw [←hpre] at HPL HEQ ⊢;clear hpre;generalize hbb:wr.heap.size=bb at *;generalize wr.alloc (.cells (partC pk).toArray 83)=wa at *;clear hbb hlen;have HS1:Hid (¬9223372036854775807<(bs pk.1.1).size+(bs pk.2.1).size):=by show ¬_;rw [bs_size,bs_size,pk.1.2,pk.2.2];omega
   have HS2:Hid (¬9223372036854775807<(bs pre).size+((bs pk.1.1).size+(bs pk.2.1).size)):=by show ¬_;rw [bs_size,bs_size,bs_size,pk.1.2,pk.2.2];have:=HPL.out;omega
   refine wp_region_tree 9 (OT.sures [0,1,2,3,4,5,6,7,8] .nil) (fun w'=>Upd noBlk wa w') (by kernel_rfl) (by kernel_rfl) (fun c a d v w h=>by cases d<;>exact h) ((Upd.refl noBlk wa).drew) ?_
   simp only [OT.sures]
   iterate 9 (apply wpT_sure rfl rfl;focus (intro w' hw';obtain ⟨ra,rb⟩:=part_ranges (HR1.out.keep hw');have c1:=conv32 pk.1 ra;have c2:=conv32 pk.2 rb;have s1:=HS1.out;have s2:=HS2.out;go_simp;rfl))
   refine wpT_nil ?_;go_wp2_with fail
   refine ⟨⟨k+1,by push_cast;rfl,by omega,?_,HU1.out.drew⟩,?_⟩
   ·rw [HEQ.out,bs_append,bs_append]
   ·simp only [intOf];omega
  ·obtain rfl:k=l.length:=by omega
   go_wp2_with fail
   go_ret
   refine ⟨?_,HU.out⟩;rw [HPB.out,List.take_length];rfl
end Go.Proofs.YtcikldoaidmnhaaGreatDoor
namespace Go.Proofs.YtcikldoaidmnhaaGreatDoor
open Go Go.RowKit Pk
set_option maxRecDepth 100000
theorem cells1 {w:World} {b:Nat} {x0:Value} {t:TypeId} {fr:Nat × Nat} (h:w.heap[b]?=some (.cells #[x0] t fr)):w.cell? ⟨b,0,none⟩=some x0:=by simp [World.cell?,h]
theorem conv_one (x:UInt8) (bl:Nat) (W:World) (hb:W.heap[bl]?=some (.cells #[.int .u8 x.toNat] 5 (0,0))):(convert 41 9 (.slice (some ⟨bl,0,none⟩) 1 1)).run Tryz.prog W=.ok (.string (bs [x])) W:=by
 have ho:W.ownsRow 0 5 1 (.slice (some ⟨bl,0,none⟩) 1 1) 1 (byV [x]):=⟨rfl,.inr ⟨bl,1,_,rfl,Nat.zero_le _,hb,Nat.le_refl _,by unfold maxLen;omega,rfl,rfl⟩⟩;exact conv_bs rfl ho
theorem flat_parts_len (q:List P32):((q.map plainP).flatMap (fun p=>p.1++p.2)).length=q.length*64:=by
 induction q with
 | nil=>rfl
 | cons p q ih=>rw [List.map_cons,List.flatMap_cons,List.length_append,ih];simp [plainP,p.1.2,p.2.2];omega
theorem partsB_len (l:List P32) (hl:l.length≤65536):(partsB (l.map plainP)).length≤10+l.length*64:=by
 unfold partsB;rw [List.length_append,flat_parts_len,List.length_map];have:=digB_ten (n:=l.length) (by omega);omega
set_option maxHeartbeats 2000000 in
theorem Root_any (v:Value) (l:List P32) (w:World) (h:kPart.Rd w v l):Calls Tryz.prog 25 #[.agg #[v]] w fun en w'=>strR (if 65536<l.length then [] else rootB (l.map plainP)) w en w':=by
 have HPA:Hid (∀W,l.length≤65536→Upd noBlk w W→Calls Tryz.prog 73 #[v] W fun en w'=>strR (partsB (l.map plainP)) W en w'):=fun W hl hW=>parts_any v l hl W (h.keep hW);obtain ⟨A,cap,rfl,hcap,hx⟩:=h;clear hx;go_enter Tryz.func25,Tryz.ntmps25
 have HU0:Hid (Upd noBlk w (w.alloc (.cells #[.slice A l.length cap] 50))):=(Upd.refl _ w).alloc _;by_cases hl:65536<l.length
 ·have hl':(65536:Int)<(l.length:Int):=by omega
  rw [if_pos hl];clear HPA;go_wp2_with fail
  go_ret
  exact ⟨rfl,HU0.out⟩
 ·have hl':(l.length:Int)≤65536:=by omega
  rw [if_neg hl];go_wp2_with fail
  have HKB:Hid ((w.alloc (.cells #[.slice A l.length cap] 50)).heap[w.heap.size]?=some (.cells #[.slice A l.length cap] 50 (0,0))):=heap_alloc_last w _;have HFN:Hid (∀W,Upd noBlk (w.alloc (.cells #[.slice A l.length cap] 50)) W→Calls Tryz.prog 73 #[.slice A l.length cap] W fun en w'=>strR (partsB (l.map plainP)) W en w'):=fun W hW=>HPA.out W (by omega) (HU0.out.trans hW);have HSZ:Hid (¬9223372036854775807<(bs [3]).size+(bs (partsB (l.map plainP))).size):=by
   show ¬_;have:=partsB_len l (by omega);rw [bs_size,bs_size];simp only [List.length_cons,List.length_nil];omega
  have HSUM:Hid (bs [3]++bs (partsB (l.map plainP))=bs (rootB (l.map plainP))):=by show _=_;rw [bs_append];rfl
  have HCV:=Lib.hid (conv_one 3);clear hl hl' HPA;generalize w.heap.size=bb at *;generalize w.alloc (.cells #[.slice A l.length cap] 50)=wr at *;refine wp_region_tree 6 (OT.sures [2,3] (.fork 0 (.sure 1 (.run 4 (.sure 5 .nil))) 4 (.run 0 (.sure 1 (.sure 5 .nil))))) (fun w'=>Upd noBlk wr w') (by kernel_rfl) (by kernel_rfl) (fun c a d v w h=>by cases d<;>exact h) ((Upd.refl noBlk wr).drew) ?_
  simp only [OT.sures]
  iterate 2 (apply wpT_sure rfl rfl;focus (intro w' hw';have b0:=cells1 (hw'.heap HKB.out id);go_simp;rfl))
  refine wpT_fork (fun w'=>Upd noBlk wr w'∧w'.heap[wr.heap.size]?=some (.cells #[.int .u8 3] 5 (0,0))) (fun w'=>Upd noBlk wr w') (fun _ h=>h.1) (fun _ h=>h) rfl rfl (fun K' hK=>?_) (fun K' hK=>?_)
  ·go_simp
   have hal:Upd noBlk wr (wr.alloc (.cells #[.int .u8 3] 5)).drew:=((Upd.refl noBlk wr).alloc _).drew;have hbl:(wr.alloc (.cells #[.int .u8 3] 5)).drew.heap[wr.heap.size]?=some (.cells #[.int .u8 3] 5 (0,0)):=heap_alloc_new wr _;refine hK _ _ ⟨⟨hal,hbl⟩,?_⟩;clear hK K'
   (apply wpT_sure rfl rfl;focus (intro w' hw';have hc:=HCV.out wr.heap.size w' hw'.2;go_simp;rfl))
   refine wpT_run (fun w'=>Upd noBlk wr w'∧w'.heap[wr.heap.size]?=some (.cells #[.int .u8 3] 5 (0,0))) (fun _ h=>h) rfl (fun K' hK=>?_);go_simp
   refine (HFN.out _ hal).mono ?_;rintro e wz ⟨rfl,uz⟩;have UZ:=Lib.hid (HU0.out.trans (hal.trans uz));refine hK _ _ ⟨⟨hal.trans uz,uz.heap hbl id⟩,?_⟩;clear hK K' hal hbl uz
   (apply wpT_sure rfl rfl;focus (intro w' hw';have hz:=HSZ.out;go_simp;rfl))
   refine wpT_nil ?_;go_wp2_with fail
   go_ret
   exact ⟨by rw [←HSUM.out];rfl,UZ.out⟩
  ·go_simp
   have hdr:Upd noBlk wr wr.drew:=(Upd.refl noBlk wr).drew;refine (HFN.out _ hdr).mono ?_;rintro e wz ⟨rfl,uz⟩;have UZ:=Lib.hid (HU0.out.trans (hdr.trans uz));refine hK _ _ ⟨hdr.trans uz,?_⟩;have UZ2:=Lib.hid (hdr.trans uz);clear hK K' hdr uz;refine wpT_run (fun w'=>Upd noBlk wr w'∧w'.heap[wz.heap.size]?=some (.cells #[.int .u8 3] 5 (0,0))) (fun _ h=>h.1) rfl (fun K' hK=>?_);go_simp
   refine hK _ _ ⟨⟨UZ2.out.alloc _,heap_alloc_new wz _⟩,?_⟩;clear hK K'
   (apply wpT_sure rfl rfl;focus (intro w' hw';have hc:=HCV.out wz.heap.size w' hw'.2;go_simp;rfl))
   (apply wpT_sure rfl rfl;focus (intro w' hw';have hz:=HSZ.out;go_simp;rfl))
   refine wpT_nil ?_;go_wp2_with fail
   go_ret
   exact ⟨by rw [←HSUM.out];rfl,UZ.out.alloc _⟩
end Go.Proofs.YtcikldoaidmnhaaGreatDoor
namespace Go.Proofs.YtcikldoaidmnhaaGreatDoor
open Go Go.RowKit Pk
set_option maxRecDepth 100000
def meetN (known:List Pt) (p:Pt):Nat:=if p∈known then known.length-1-known.idxOf p else 0
set_option maxHeartbeats 2000000 in
theorem meet_any (b:Nat) (S:Wk) (G:Nat→Prop) (p:Pt) (hp:okP p) (hl:S.known.length≤100000) (w:World) (h:SRep w b S G) :
  Calls Tryz.prog 50 #[.pointer (some ⟨b,0,none⟩),ptV p] w fun en w'=>en=.returned (.tuple #[.int .i64 (meetN S.known p),.bool (decide (p∈S.known))])∧SPost G w w' b ⟨meetK S.known p,S.tris,S.gates⟩:=by
 obtain ⟨vK,vG,vT,ba,bu,h,rfl⟩:=h;have HL:=Lib.hid h;have HN:=Lib.hid h.ne;obtain ⟨p0,p1,p2⟩:=p;obtain ⟨A,cap,rfl,hcap⟩:=h.comp.known.form;have hu:=(Upd.refl noBlk w).alloc (.cells #[.int .i64 p0,.int .i64 p1,.int .i64 p2] 43);have HU:=Lib.hid hu;have HB:=Lib.hid (hu.heap h.blk id);have HZ:=Lib.hid (heap_alloc_new w (.cells #[.int .i64 p0,.int .i64 p1,.int .i64 p2] 43));have HA:=Lib.hid (h.comp.at_.keep hu);have HP:=Lib.hid hp;have HPB:Hid (∀k,sFoot b (.slice A S.known.length cap) vG vT ba bu k→k≠w.heap.size):=fun k hk e=>by have:=h.lt k hk;omega
 obtain ⟨tr,htr⟩:∃tr,tr=S.tris:=⟨_,rfl⟩;obtain ⟨K,hK⟩:∃K,K=S.known:=⟨_,rfl⟩;obtain ⟨gs,hgs⟩:∃gs,gs=S.gates:=⟨_,rfl⟩;obtain rfl:S=⟨K,tr,gs⟩:=by rw [htr,hK,hgs]
 simp only at *;clear htr hK hgs;have hl':(K.length:Int)≤100000:=by omega
 have hl0:Hid (K.length≤100000):=hl;have HCAP:=Lib.hid hcap;clear h hu hp hl hcap;unfold ptV;go_enter Tryz.func50,Tryz.ntmps50
 obtain ⟨wx,hwx⟩:∃wx,wx=w.alloc (.cells #[.int .i64 p0,.int .i64 p1,.int .i64 p2] 43):=⟨_,rfl⟩;rw [←hwx] at HU HB HZ HA;go_upto_region 1 with fail
 rw [←hwx];clear hwx;have hlk:=HA.out.lookOkR (a:=(p0,p1,p2)) HP.out;by_cases hm:(p0,p1,p2)∈K
 ·have hv:atF K (p0,p1,p2)=some ((K.idxOf (p0,p1,p2):Nat):Int):=by unfold atF;rw [if_pos hm]
  have hid:=List.idxOf_lt_length_iff.2 hm;have HR:Hid (meetN K (p0,p1,p2)=K.length-1-K.idxOf (p0,p1,p2)):=by show _=_;unfold meetN;rw [if_pos hm]
  have HD:Hid (decide ((p0,p1,p2)∈K)=true):=decide_eq_true hm;have HM:Hid (meetK K (p0,p1,p2)=K):=by show _=_;unfold meetK;rw [if_pos hm]
  obtain ⟨j,hj⟩:∃j,j=K.idxOf (p0,p1,p2):=⟨_,rfl⟩;rw [←hj] at hv hid HR;have hid':(j:Int)<(K.length:Int):=by omega
  have HJ:Hid (j<K.length):=hid;have HK:Hid (∀w',Gr wx w'→(Instr.lookup 99 (.map (some ba)) (.agg #[.int .i64 p0,.int .i64 p1,.int .i64 p2]) true).run Tryz.prog w'=.ok (.tuple #[.int .i64 (j:Int),.bool true]) w'):=fun w' hw'=>by
   have:=(HA.out.keep hw'.up).lookOkR (a:=(p0,p1,p2)) HP.out;rw [hv] at this;exact this
  clear hm hv hid hlk hj;refine wp_region_tree 10 (OT.sures [0,1,2,3,4,5,6,7,8,9] .nil) (fun w'=>Gr wx w') (by kernel_rfl) (by kernel_rfl) (fun c a d v w h=>by cases d<;>exact h) ((Gr.refl wx).drew) ?_
  simp only [OT.sures]
  iterate 10 (apply wpT_sure rfl rfl;focus (intro w' hw';have hk:=HK.out w' hw';obtain ⟨⟨k0,k1,k2,k3,k4⟩,_⟩:=cells5 (hw'.heap HB.out id);obtain ⟨a0,a1,a2⟩:=cells3 (hw'.heap HZ.out id);go_simp;rfl))
  refine wpT_nil ?_;obtain ⟨⟨k0,k1,k2,k3,k4⟩,_⟩:=cells5 HB.out;go_wp2_with fail
  go_ret2
  refine ⟨?_,?_⟩
  ·show Ending.returned (Value.tuple #[.int .i64 ((K.length:Int)-1-(j:Int)),.bool true])=_;rw [HD.out,HR.out];have e:((K.length-1-j:Nat):Int)=(K.length:Int)-1-(j:Int):=by have:=HJ.out;omega
   rw [e]
  ·rw [HM.out];have hU:=HU.out.drew;exact ⟨_,⟨_,_,_,_,_,HL.out.upd hU (fun _ _=>id),rfl⟩,fun k hk=>.inl hk,hU.mono (fun _ _ h=>h.elim)⟩
 ·have hv:atF K (p0,p1,p2)=none:=by unfold atF;rw [if_neg hm]
  have HR:Hid (meetN K (p0,p1,p2)=0):=by show _=_;unfold meetN;rw [if_neg hm]
  have HD:Hid (decide ((p0,p1,p2)∈K)=false):=decide_eq_false hm;have HM:Hid (meetK K (p0,p1,p2)=K++[(p0,p1,p2)]):=by show _=_;unfold meetK;rw [if_neg hm]
  have HNW:=Lib.hid (atF_new hm);have HK:Hid (∀w',Gr wx w'→(Instr.lookup 99 (.map (some ba)) (.agg #[.int .i64 p0,.int .i64 p1,.int .i64 p2]) true).run Tryz.prog w'=.ok (.tuple #[.int .i64 0,.bool false]) w'):=fun w' hw'=>by
   have:=(HA.out.keep hw'.up).lookOkR (a:=(p0,p1,p2)) HP.out;rw [hv] at this;exact this
  clear hm hv hlk;refine wp_region_tree 10 (OT.sures [0,1,2,3,4,5,6,7,8,9] .nil) (fun w'=>Gr wx w') (by kernel_rfl) (by kernel_rfl) (fun c a d v w h=>by cases d<;>exact h) ((Gr.refl wx).drew) ?_
  simp only [OT.sures]
  iterate 10 (apply wpT_sure rfl rfl;focus (intro w' hw';have hk:=HK.out w' hw';obtain ⟨⟨k0,k1,k2,k3,k4⟩,_⟩:=cells5 (hw'.heap HB.out id);obtain ⟨a0,a1,a2⟩:=cells3 (hw'.heap HZ.out id);go_simp;rfl))
  refine wpT_nil ?_;clear HK;obtain ⟨x1,hx1⟩:∃x1,x1=wx.drew:=⟨_,rfl⟩;have hU1:Upd noBlk wx x1:=by rw [hx1];exact (Upd.refl _ wx).drew
  have HU1:=Lib.hid (HU.out.trans hU1);have HB1:=Lib.hid (hU1.heap HB.out id);have HZ1:=Lib.hid (hU1.heap HZ.out id);have HA1:=Lib.hid (HA.out.keep hU1);rw [←hx1];clear hx1 hU1 HU HB HZ HA;go_wp2_with fail
  refine wp_region_tree 10 (OT.sures [0,1,2,3,4,5,6,7,8,9] .nil) (fun w'=>Gr x1 w') (by kernel_rfl) (by kernel_rfl) (fun c a d v w h=>by cases d<;>exact h) ((Gr.refl x1).drew) ?_
  simp only [OT.sures]
  iterate 10 (apply wpT_sure rfl rfl;focus (intro w' hw';obtain ⟨⟨k0,k1,k2,k3,k4⟩,_⟩:=cells5 (hw'.heap HB1.out id);obtain ⟨a0,a1,a2⟩:=cells3 (hw'.heap HZ1.out id);go_simp;rfl))
  refine wpT_nil ?_;obtain ⟨y,hr,hy,hu⟩:=(HA1.out.keep (Upd.refl noBlk x1).drew).put (by have:=hl0.out;unfold maxLen;omega) (a:=(p0,p1,p2)) HP.out (v:=(K.length:Int)) trivial;rw [HNW.out] at hy;have HY:=Lib.hid hy;have hu1:Upd (fun k=>k=ba) x1 y:=(Upd.refl _ x1).drew.trans hu;have HN':=HN.out;have HUY:=Lib.hid (HU1.out.mono (G:=sFoot b (.slice A K.length cap) vG vT ba bu) (fun _ _ h=>h.elim));have HBY:=Lib.hid (hu1.heap HB1.out (fun e=>HN'.nba e.symm));have HZY:=Lib.hid (hu1.heap HZ1.out (fun e=>HPB.out ba (.inr (.inl rfl)) e.symm));have HWY:Hid (Upd (fun k=>k=ba) w y):=(HU1.out.mono (fun _ _ h=>h.elim)).trans hu1;have HRU:(Instr.mapUpdate 99 (.map (some ba)) (.agg #[.int .i64 p0,.int .i64 p1,.int .i64 p2]) (.int .i64 (K.length:Int))).run Tryz.prog x1.drew=.ok () y:=hr;clear hr hy hu hu1 HN';go_wp2_with fail
  clear HRU HB1 HZ1 HA1 HU1;have HN':=HN.out;have hL:=HL.out;have hd1:Upd noBlk y y.drew:=(Upd.refl _ y).drew;have hown:kPt.Own 0 y.drew (.slice A K.length cap) K:=(hL.comp.known.other HWY.out (fun g hg e=>HN'.ka (by rw [hg,e]))).upd hd1;obtain ⟨g,cap3,w3,r3,o3,u3,a3⟩:=hown.app1 (Nat.zero_le _) (p0,p1,p2) (by have:=hl0.out;omega);have HG:Hid ((Value.slice A K.length cap).ownBlock=some g∨y.heap.size<g):=a3;have HU3:=Lib.hid (hd1.mono (G:=fun k=>(Value.slice A K.length cap).ownBlock=some k) (fun _ _ h=>h.elim) |>.trans u3);have HB3:=Lib.hid (HU3.out.heap HBY.out HN'.k);have HC3:Hid (SComp w3 ⟨K++[(p0,p1,p2)],tr,gs⟩ (.slice (some ⟨g,0,none⟩) (K.length+1) cap3) vG vT ba bu):=by
   refine ⟨?_,?_,o3,?_,?_,hL.comp.ab⟩
   ·have:=HY.out.other HU3.out HN'.ka;simpa using this
   ·exact (hL.comp.used.other HWY.out (fun e=>hL.comp.ab e.symm)).other HU3.out HN'.ku
   ·exact (hL.comp.gates.other HWY.out (fun i hi e=>HN'.ga (by rw [hi,e]))).other HU3.out (fun i hi e=>HN'.kg i e hi)
   ·exact (hL.comp.tris.other HWY.out (fun i hi e=>HN'.ta (by rw [hi,e]))).other HU3.out (fun i hi e=>HN'.kt i e hi)
  have HAPP:(Builtin.append_ #[98,98] 98 #[.slice A K.length cap,.slice (some ⟨y.heap.size,0,none⟩) 1 1]).run Tryz.prog (y.drew.alloc (.cells #[.int .i64 p0,.int .i64 p1,.int .i64 p2] 43))=.ok (.slice (some ⟨g,0,none⟩) (K.length+1) cap3) w3:=r3;have HAB:Hid ((y.drew.alloc (.cells #[.int .i64 p0,.int .i64 p1,.int .i64 p2] 43)).heap[b]?=some (.cells #[.slice A K.length cap,.map (some ba),.map (some bu),vG,vT] 103 (0,0))∧(y.drew.alloc (.cells #[.int .i64 p0,.int .i64 p1,.int .i64 p2] 43)).heap[w.heap.size]?=some (.cells #[.int .i64 p0,.int .i64 p1,.int .i64 p2] 43 (0,0))):=⟨(hd1.alloc _).heap HBY.out id,(hd1.alloc _).heap HZY.out id⟩;have HZ3:=Lib.hid (HU3.out.heap HZY.out (fun e=>HPB.out _ (.inr (.inr (.inr (.inl e)))) rfl));clear hown r3 o3 u3 a3 hL HN' hd1;refine wp_region_tree 8 (OT.sures [0,1,5,2,3,4] (.run 6 (.run 7 .nil))) (fun w'=>w'.heap[b]?=some (.cells #[.slice A K.length cap,.map (some ba),.map (some bu),vG,vT] 103 (0,0))∧w'.heap[w.heap.size]?=some (.cells #[.int .i64 p0,.int .i64 p1,.int .i64 p2] 43 (0,0))) (by kernel_rfl) (by kernel_rfl) (fun c a d v w h=>by cases d<;>exact h) ⟨HBY.out,HZY.out⟩ ?_
  simp only [OT.sures]
  iterate 6 (apply wpT_sure rfl rfl;focus (intro w' hw';obtain ⟨⟨k0,k1,k2,k3,k4⟩,_⟩:=cells5 hw'.1;obtain ⟨a0,a1,a2⟩:=cells3 hw'.2;go_simp;rfl))
  refine wpT_run _ (fun _ h=>h) rfl (fun K' hK=>?_);go_simp
  refine hK _ _ ⟨HAB.out,?_⟩;clear hK K';refine wpT_run _ (fun _ h=>h) rfl (fun K' hK=>?_);rw [if_pos (by rfl)];refine wp_append_run _ _ _ rfl rfl rfl HAPP ?_;refine hK _ _ ⟨⟨HB3.out,HZ3.out⟩,?_⟩;clear hK K' HAPP;refine wpT_nil ?_;obtain ⟨⟨k0,k1,k2,k3,k4⟩,⟨f0,f1,f2,f3,f4⟩⟩:=cells5 HB3.out;go_wp2_with fail
  go_ret2
  refine ⟨?_,?_⟩
  ·rw [HD.out,HR.out];rfl
  ·rw [HM.out];have hlive:=SLive.put HB3.out HC3.out 0 (.slice (some ⟨g,0,none⟩) (K.length+1) cap3) rfl;refine ⟨_,⟨_,_,_,_,_,hlive,rfl⟩,fun k hk=>?_,?_⟩
   ·rcases hk with h | h | h | h | h | h
    ·exact .inl (.inl h)
    ·exact .inl (.inr (.inl h))
    ·exact .inl (.inr (.inr (.inl h)))
    ·have e:g=k:=by simpa [Value.ownBlock] using h
     subst e;rcases HG.out with h2 | h2
     ·exact .inl (.inr (.inr (.inr (.inl h2))))
     ·exact .inr (by have:=HWY.out.size;omega)
    ·exact .inl (.inr (.inr (.inr (.inr (.inl h)))))
    ·exact .inl (.inr (.inr (.inr (.inr (.inr h)))))
   ·exact ((HWY.out.mono (G:=sFoot b (.slice A K.length cap) vG vT ba bu) (fun k _ e=>.inr (.inl e))).trans (HU3.out.mono (fun k _ e=>.inr (.inr (.inr (.inl e)))))).setCell (p:=⟨b,0,none⟩) (fun _=>.inl rfl) _
end Go.Proofs.YtcikldoaidmnhaaGreatDoor
