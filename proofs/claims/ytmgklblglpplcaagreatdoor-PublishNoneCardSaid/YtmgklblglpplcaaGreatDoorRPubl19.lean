/- Parts: A run of equal bits has a short code. No condition. Hashes and parts as they lie in memory; strings made of bytes in the middle of a block. No condition. Rows of bytes in the call's own memory: strings and zeros behind them. No condition. Walks of the packets' program: a place is written. No condition. Walks of the packets' program: the state's last corner, new states, expected, zigzag. No conditi -/
import Derived.Test.YtmgklblglpplcaaGreatDoorRPubl1
import Derived.Test.YtmgklblglpplcaaGreatDoorRPubl2
import Derived.Test.YtmgklblglpplcaaGreatDoorRPubl3
import Derived.Test.YtmgklblglpplcaaGreatDoorRPubl4
import Derived.Test.YtmgklblglpplcaaGreatDoorRPubl5
import Derived.Test.YtmgklblglpplcaaGreatDoorRPubl6
import Derived.Test.YtmgklblglpplcaaGreatDoorRPubl8
import Derived.Test.YtmgklblglpplcaaGreatDoorRPubl9
import Derived.Test.YtmgklblglpplcaaGreatDoorRPubl10
import Derived.Test.YtmgklblglpplcaaGreatDoorRPubl11
import Derived.Test.YtmgklblglpplcaaGreatDoorRPubl12
import Derived.Test.YtmgklblglpplcaaGreatDoorRPubl14
import Derived.Test.YtmgklblglpplcaaGreatDoorRPubl15
import Derived.Test.YtmgklblglpplcaaGreatDoorRPubl16
import Derived.WalkKit
import Derived.WalkSpells
import Derived.WalkLawsBesides
import Derived.Lib.Hide
import Derived.BigQuiet
import Derived.Deep.DeepFit
import Derived.Deep.DeepCutAuto
import Derived.Deep.AppendLies
import Derived.Deep.QuietTactic
import Derived.Test.YtmgklblglpplcaaGreatDoorRows
import Derived.Deep.RegionHeld3
import Derived.StillTail
import Derived.Lib.AppendStr
import Derived.Lib.AppendZeros
import Derived.Maps.OwnOps
import Derived.Maps.OwnSet
import Derived.Maps.RangeWalk
import Derived.WideKeyEntry
import Derived.Deep.MidRow
import Derived.Lib.Bits
import Derived.Laws.EntriesVeiled
import Derived.Handy
import Derived.DeepKeys4
import Derived.ArgAppend
import Derived.Deep.Upon
import Derived.Deep.CutBlock
import Derived.Test.YtmgklblglpplcaaGreatDoorShelf2
import Derived.Laws.BitsAllLaws
import Derived.Laws.BytesArg
import Derived.Test.YtmgklblglpplcaaGreatDoorShelf
import Derived.Lib.Zigzag
namespace Go.Proofs.YtmgklblglpplcaaGreatDoor
open Go Go.RowKit Pk
set_option maxRecDepth 100000
theorem strCells_bs (s:Bytes):Lib.strCells (bs s)=byV s:=by
 unfold Lib.strCells byV bs;simp
theorem zero_cells (m:Nat):(Builtin.zeroCells (Value.int IntKind.u8 0).cells m)=((bs (List.replicate m 0)).data.map fun b=>Value.int .u8 (b.toNat:Int)).extract 0 m:=by
 have h1:(Value.int IntKind.u8 0).cells=#[.int .u8 0]:=rfl;apply Array.ext
 ·simp [Builtin.zeroCells,h1,bs]
 ·intro i h2 h3;simp [Builtin.zeroCells,h1,bs,Nat.mod_one]
theorem append_str {w:World} {base:Nat} (hb:base≤w.heap.size) {v:Value} {l:Bytes} (h:w.ownsRow base 5 1 v l.length (byV l)) (s:Bytes) (h47:l.length+s.length≤140737488355328) :
  ∃v' w',(Builtin.append_ #[48,9] 48 #[v,.string (bs s)]).run Tryz.prog w=.ok v' w'∧w'.ownsRow base 5 1 v' (l++s).length (byV (l++s))∧Upd (fun k=>v.ownBlock=some k) w w':=by
 obtain ⟨i0,hi0,hz0,hz1,hz2⟩:=info_parts info_u8;obtain ⟨v',w',r,o,gr,_⟩:=Lib.run_append_own_string (P:=Tryz.prog) w base 48 9 48 5 i0 Tryz.underlying48 Tryz.underlying9 hi0 hz0 hz1 hz2 v l.length (byV l) h (bs s) (by rw [bs_size];unfold maxLen;omega) (by rw [bs_size];exact h47) hb;refine ⟨v',w',r,?_,upd_of_grown gr (fun j hj _=>hj)⟩;rw [strCells_bs,bs_size] at o;have e:byV (l++s)=byV l++byV s:=by simp [byV]
 rw [e,List.length_append];exact o
theorem append_zeros_eq (w:World) (A:Option Addr) (n cap m:Nat) (hm:n+m≤140737488355328) (hc:n≤cap) :
  (Builtin.append_ #[48,3] 48 #[.slice A n cap,.int .i64 (m:Int)]).run Tryz.prog w=(Builtin.append_ #[48,9] 48 #[.slice A n cap,.string (bs (List.replicate m 0))]).run Tryz.prog w:=by
 obtain ⟨i0,hi0,hz0,hz1,hz2⟩:=info_parts info_u8;have hw:IntKind.i64.wrap (m:Int)=m:=by rw [IntKind.wrap_i64];omega
 have hneg:¬((m:Int)<0):=by omega
 have hsz:(bs (List.replicate m 0)).size=m:=by rw [bs_size,List.length_replicate]
 have h48i:¬(281474976710656<(m:Int)):=by omega
 have h63:¬(9223372036854775807<(n:Int)+(m:Int)):=by omega
 have hzc:=zero_cells m;by_cases hm0:m=0
 ·have hr:n+m≤cap:=by omega
  have he:((bs (List.replicate m 0)).data.map fun b=>Value.int .u8 (b.toNat:Int)).extract 0 m=#[]:=by rw [hm0];simp
  simp [Builtin.append_,run_underlying Tryz.underlying48,run_underlying Tryz.underlying3,run_underlying Tryz.underlying9,sizeOf,typeInfo,zeroValue,hi0,hz0,hz1,hz2,asInt,asIntOf,hw,hneg,hsz,h48i,Builtin.lenOf,Builtin.firstCells,hr,he];simp [hm0]
 ·by_cases hroom:n+m≤cap
  ·simp [Builtin.append_,run_underlying Tryz.underlying48,run_underlying Tryz.underlying3,run_underlying Tryz.underlying9,sizeOf,typeInfo,zeroValue,hi0,hz0,hz1,hz2,asInt,asIntOf,hw,hneg,hsz,h48i,Builtin.lenOf,Builtin.firstCells,hroom,hm0,hzc]
  ·have h48:¬(281474976710656<Builtin.nextslicecap (n+m) cap):=by have:=growslice_fits (need:=n+m) (old:=cap) (bytes:=1) (by omega) (by omega);omega
   simp [Builtin.append_,run_underlying Tryz.underlying48,run_underlying Tryz.underlying3,run_underlying Tryz.underlying9,sizeOf,typeInfo,zeroValue,hi0,hz0,hz1,hz2,asInt,asIntOf,hw,hneg,hsz,h48i,h63,Builtin.lenOf,Builtin.firstCells,hroom,hm0,hzc,h48]
end Go.Proofs.YtmgklblglpplcaaGreatDoor
namespace Go.Proofs.YtmgklblglpplcaaGreatDoor
open Go Go.RowKit Pk
set_option maxRecDepth 100000
theorem set3 {w:World} {b:Nat} {x0 x1 x2 y0 y1 y2:Value} {t:TypeId} (h:w.heap[b]?=some (.cells #[x0,x1,x2] t (0,0))):((((w.setCell ⟨b,0,none⟩ y0).setCell ⟨b,1,none⟩ y1).setCell ⟨b,2,none⟩ y2).heap[b]?=some (.cells #[y0,y1,y2] t (0,0))):=
 post3 (Q:=fun wz=>wz.heap[b]?=some (.cells #[y0,y1,y2] t (0,0))) h (fun _ h _=>h)
theorem upd3 {w0 w:World} (h:Upd noBlk w0 w) {b:Nat} (hb:w0.heap.size≤b) (y0 y1 y2:Value):Upd noBlk w0 (((w.setCell ⟨b,0,none⟩ y0).setCell ⟨b,1,none⟩ y1).setCell ⟨b,2,none⟩ y2):=
 ((h.setCell (p:=⟨b,0,none⟩) (fun h=>absurd h (Nat.not_lt.2 hb)) _).setCell (p:=⟨b,1,none⟩) (fun h=>absurd h (Nat.not_lt.2 hb)) _).setCell (p:=⟨b,2,none⟩) (fun h=>absurd h (Nat.not_lt.2 hb)) _
theorem wrapN {n:Int} (h0:-9223372036854775808≤n) (h1:n≤9223372036854775807):IntKind.i64.wrap n=n:=by
 have:=IntKind.wrap_i64 n;omega
set_option maxHeartbeats 1000000 in
theorem last_any (b:Nat) (S:Wk) (G:Nat→Prop) (hl:S.known.length≤1000000) (w:World) (h:SRep w b S G):Calls Tryz.prog 130 #[.pointer (some ⟨b,0,none⟩)] w fun en w'=>en=.returned (ptV (lastK S.known))∧Upd noBlk w w':=by
 obtain ⟨vK,vG,vT,ba,bu,h,rfl⟩:=h;obtain ⟨A,cap,rfl,hcap⟩:=h.comp.known.form;have hl':(S.known.length:Int)≤1000000:=by omega
 have HR:=h.comp.known.rd;obtain ⟨A',cap',e,_,hrd⟩:=HR;cases e;have hu:=(Upd.refl noBlk w).alloc (.cells #[.int .i64 0,.int .i64 0,.int .i64 0] 167);have HU:=Lib.hid hu;have HRD:Hid (0<S.known.length→∃b off,A=some ⟨b,off,none⟩∧∀j (hj:j<S.known.length),kPt.At (w.alloc (.cells #[.int .i64 0,.int .i64 0,.int .i64 0] 167)) b (off+j*kPt.k) S.known[j]):=fun h0=>by
  obtain ⟨b',off,e,k⟩:=hrd h0;exact ⟨b',off,e,fun j hj=>(k j hj).keep hu⟩
 have HB:=Lib.hid (hu.heap h.blk id);have HZ:=Lib.hid (heap_alloc_new w (.cells #[.int .i64 0,.int .i64 0,.int .i64 0] 167));obtain ⟨K,hK⟩:∃K,K=S.known:=⟨_,rfl⟩;rw [←hK] at HRD HB hl' hcap;rw [←hK];clear h hu hrd hl hK;go_enter Tryz.func130,Tryz.ntmps130
 obtain ⟨wx,hwx⟩:∃wx,wx=w.alloc (.cells #[.int .i64 0,.int .i64 0,.int .i64 0] 167):=⟨_,rfl⟩;rw [←hwx] at HU HB HZ HRD;go_upto_region 1 with fail
 rw [←hwx];clear hwx;obtain ⟨⟨k0,k1,k2,k3,k4⟩,_⟩:=cells5 HB.out;obtain ⟨⟨z0,z1,z2⟩,⟨f0,f1,f2⟩⟩:=cellsF3 HZ.out;rcases Nat.eq_zero_or_pos K.length with h0 | h0
 ·have hnil:K=[]:=List.eq_nil_of_length_eq_zero h0;subst hnil;go_wp2_with fail
  have HZ2:=set3 (y0:=.int .i64 0) (y1:=.int .i64 0) (y2:=.int .i64 0) HZ.out;have HU2:=upd3 HU.out (Nat.le_refl _) (.int .i64 0) (.int .i64 0) (.int .i64 0)
  (try simp only [Exit.inBlock,Exit.then])
  refine bodyPost_ret (results_cell_row rfl _ _ w.heap.size 167 _ (0,0) _ rfl HZ2 Tryz.underlying167 rfl (by kernel_rfl)) rfl ?_;exact ⟨rfl,HU2⟩
 ·have h0':(0:Int)<(K.length:Int):=by omega
  have h1':¬(K.length:Int)=0:=by omega
  obtain ⟨b',off,rfl,hrd⟩:=HRD.out h0;have hk3:kPt.k=3:=rfl;have hat:=hrd (K.length-1) (by omega);rw [hk3] at hat;have HAT:=Lib.hid hat;obtain ⟨m,hm⟩:∃m,K.length=m+1:=⟨K.length-1,by omega⟩;have HLK:Hid (lastK K=K[K.length-1]):=by
   show _=_;unfold lastK;rw [List.getLast?_eq_getElem?,List.getElem?_eq_getElem (by omega)];rfl
  generalize K[K.length-1]=p at *;obtain ⟨p0,p1,p2⟩:=p;rw [hm] at HAT HB k0;have hm':(m:Int)≤1000000:=by omega
  have hwm:IntKind.i64.wrap (m:Int)=(m:Int):=wrapN (by omega) (by omega);have hlm:(m:Int)<(m:Int)+1:=by omega
  have HM:=Lib.hid hm;clear hrd hat hk3 HRD h0 hm hcap hl' h0' h1';rw [show m+1-1=m from rfl] at HAT;go_wp2_with fail
  refine wp_region_tree 12 (OT.sures [0,4,1,5,2,3,6,7,8,9,10,11] .nil) (fun w'=>Gr wx w') (by kernel_rfl) (by kernel_rfl) (fun c a d v w h=>by cases d<;>exact h) ((Gr.refl wx).drew) ?_
  simp only [OT.sures]
  iterate 12 (apply wpT_sure rfl rfl;focus (intro w' hw';obtain ⟨⟨k0,k1,k2,k3,k4⟩,_⟩:=cells5 (hw'.heap HB.out id);obtain ⟨a0,a1,a2⟩:=ptAt3 (HAT.out.keep hw'.up);go_simp;rfl))
  refine wpT_nil ?_;go_wp2_with fail
  have HZ2:=set3 (y0:=.int .i64 p0) (y1:=.int .i64 p1) (y2:=.int .i64 p2) HZ.out;have HU2:=upd3 HU.out (Nat.le_refl _) (.int .i64 p0) (.int .i64 p1) (.int .i64 p2)
  (try simp only [Exit.inBlock,Exit.then])
  refine bodyPost_ret (results_cell_row rfl _ _ w.heap.size 167 _ (0,0) _ rfl (by exact HZ2) Tryz.underlying167 rfl (by kernel_rfl)) rfl ?_;exact ⟨by rw [HLK.out];rfl,HU2.drew⟩
end Go.Proofs.YtmgklblglpplcaaGreatDoor
namespace Go.Proofs.YtmgklblglpplcaaGreatDoor
open Go Go.RowKit Pk
set_option maxRecDepth 100000
abbrev H32:={h:Bytes // h.length=32}
abbrev P32:=H32 × H32
def hashC (h:H32):List Value:=byV h.1
def partC (p:P32):List Value:=byV p.1.1++byV p.2.1
def plainP (p:P32):Part:=(p.1.1,p.2.1)
theorem byV_len (l:Bytes):(byV l).length=l.length:=by simp [byV]
theorem hashC_len (h:H32):(hashC h).length=32:=by unfold hashC;rw [byV_len,h.2]
theorem partC_len (p:P32):(partC p).length=64:=by unfold partC;rw [List.length_append,byV_len,byV_len,p.1.2,p.2.2]
theorem byV_one (l:Bytes):∀v,v∈byV l→v.oneCell'=true:=by
 intro v hv;obtain ⟨c,_,rfl⟩:=List.mem_map.1 hv;rfl
theorem partC_one (p:P32):∀v,v∈partC p→v.oneCell'=true:=by
 intro v hv;rcases List.mem_append.1 hv with h | h
 ·exact byV_one _ v h
 ·exact byV_one _ v h
noncomputable def kHash:Kd Tryz.prog H32:={ T:=36,S:=31,k:=32,bytes:=32,enc:=hashC,len:=hashC_len,one:=fun h=>byV_one h.1,pos:=by decide,small:=by decide,und:=Tryz.underlying31,info:=kinfo_of (by kernel_rfl) }
noncomputable def kPart:Kd Tryz.prog P32:={ T:=97,S:=95,k:=64,bytes:=64,enc:=partC,len:=partC_len,one:=partC_one,pos:=by decide,small:=by decide,und:=Tryz.underlying95,info:=kinfo_of (by kernel_rfl) }
theorem byV_inj {a b:Bytes} (h:byV a=byV b):a=b:=by
 induction a generalizing b with
 | nil=>cases b with
  | nil=>rfl
  | cons y b=>simp [byV] at h
 | cons x a ih=>cases b with
  | nil=>simp [byV] at h
  | cons y b=>
   simp only [byV,List.map_cons,List.cons.injEq,Value.int.injEq,true_and] at h;have hx:x=y:=UInt8.toNat_inj.1 (by omega);rw [hx,ih (b:=b) (by simpa [byV] using h.2)]
theorem conv_mid {w:World} {b off cap:Nat} {l:Bytes} (h:w.rangeAt b off (byV l)):(convert 48 9 (.slice (some ⟨b,off,none⟩) l.length cap)).run Tryz.prog w=.ok (.string (bs l)) w:=by
 have e:l.length=(l.map UInt8.toNat).length:=by simp
 rw [run_convert_bytes_arg w 48 5 Tryz.underlying48 Tryz.underlying5 b off l.length cap ((l.map UInt8.toNat).map fun (d:Nat)=>(d:Int)) (by simp) (fun i hi=>?_) 9 Tryz.underlying9,strOfNums_cast,str_bs];refine h i _ ?_;simp [byV,hi]
theorem part_ranges {w:World} {b o:Nat} {p:P32} (h:kPart.At w b o p):w.rangeAt b o (byV p.1.1)∧w.rangeAt b (o+32) (byV p.2.1):=by
 have h':w.rangeAt b o (byV p.1.1++byV p.2.1):=h;refine ⟨fun j v hv=>h' j v ?_,fun j v hv=>?_⟩
 ·have hj:=(List.getElem?_eq_some_iff.1 hv).1;rw [List.getElem?_append_left hj];exact hv
 ·rw [Nat.add_assoc];refine h' (32+j) v ?_;rw [List.getElem?_append_right (by rw [byV_len,p.1.2];omega),byV_len,p.1.2,Nat.add_sub_cancel_left];exact hv
end Go.Proofs.YtmgklblglpplcaaGreatDoor
set_option maxRecDepth 100000
namespace Go.Proofs.YtmgklblglpplcaaGreatDoor
namespace Pc
def newP (p:Nat) (one:Bool):Nat:=if one then p-p / 32 else p+(2048-p) / 32
end Pc
end Go.Proofs.YtmgklblglpplcaaGreatDoor
namespace Go.Proofs.YtmgklblglpplcaaGreatDoor
open Go Go.RowKit Pk Pc
set_option maxRecDepth 100000
theorem encFrom_app (e:E) (a b:List (Int × Bool)):encFrom e (a++b)=encFrom (encFrom e a) b:=by simp [encFrom,List.foldl_append]
def WB (F0:Nat→Prop) (w wr:World) (b:Nat) (l:Pk.Bits) (F:Nat→Prop):Prop:=WG F0 w wr b (encFrom E.init l) F
theorem done_len {l:Pk.Bits} (h:l.length≤900000):(encFrom E.init l).done.length+200≤1000000:=by
 have:=encFrom_done_length E.init l;have h4:E.init.done.length=0:=rfl;omega
theorem WB.bit {F0:Nat→Prop} {w wr:World} {b:Nat} {l:Pk.Bits} {F:Nat→Prop} (h:WB F0 w wr b l F) (c:Int) (one:Bool) (hl:l.length≤900000) :
  Calls Tryz.prog 98 #[.pointer (some ⟨b,0,none⟩),.int .i64 c,.bool one] wr fun en w'=>en=.returned (.tuple #[])∧∃F',WB F0 w w' b (l++[(c,one)]) F':=by
 refine (WG.bit h c one (by have:=done_len hl;omega)).mono ?_;rintro e w' ⟨rfl,F',h'⟩;exact ⟨rfl,F',by unfold WB;rw [encFrom_snoc];exact h'⟩
theorem WB.number {F0:Nat→Prop} {w wr:World} {b:Nat} {l:Pk.Bits} {F:Nat→Prop} (h:WB F0 w wr b l F) (c:Int) (n:Nat) (hn:n<2 ^ 64) (hl:l.length≤900000) :
  Calls Tryz.prog 95 #[.pointer (some ⟨b,0,none⟩),.int .i64 c,.int .u64 n] wr fun en w'=>en=.returned (.tuple #[])∧∃F',WB F0 w w' b (l++numBits c n) F':=by
 refine (WNumber_any h c n hn (done_len hl)).mono ?_;rintro e w' ⟨rfl,F',h'⟩;exact ⟨rfl,F',by unfold WB;rw [encFrom_app];exact h'⟩
theorem WB.upd {F0:Nat→Prop} {w wr w2:World} {b:Nat} {l:Pk.Bits} {F:Nat→Prop} (h:WB F0 w wr b l F) (hu:Upd noBlk wr w2):WB F0 w w2 b l F:=WG.upd h hu
def farC (a b:Int):Prop:=-100000000≤a-b∧a-b≤100000000∧-100000000≤a∧a≤100000000∧-100000000≤b∧b≤100000000
set_option maxHeartbeats 2000000 in
theorem writePlace_any {F0:Nat→Prop} {w w0:World} {b:Nat} {l:Pk.Bits} {F:Nat→Prop} (h:WB F0 w w0 b l F) (c:Int) (hc:0≤c∧c≤1000) (p near:Pt) (h1:farC p.1 near.1) (h2:farC p.2.1 near.2.1) (h3:farC p.2.2 near.2.2) (hl:l.length≤800000) :
  Calls Tryz.prog 100 #[.pointer (some ⟨b,0,none⟩),.int .i64 c,ptV p,ptV near] w0 fun en w'=>en=.returned (.tuple #[])∧∃F',WB F0 w w' b (l++placeB c p near) F':=by
 obtain ⟨p0,p1,p2⟩:=p;obtain ⟨n0,n1,n2⟩:=near;unfold farC at h1 h2 h3;simp only at h1 h2 h3;have hz:=fun n h0 h1 W=>Lib.hid (zigzag_any n h0 h1 W);have z0:=fun W=>hz (p0-n0) (by omega) (by omega) W;have z1:=fun W=>hz (p1-n1) (by omega) (by omega) W;have z2:=fun W=>hz (p2-n2) (by omega) (by omega) W;have d0:IntKind.i64.wrap (p0-n0)=p0-n0:=wrapN (by omega) (by omega);have d1:IntKind.i64.wrap (p1-n1)=p1-n1:=wrapN (by omega) (by omega);have d2:IntKind.i64.wrap (p2-n2)=p2-n2:=wrapN (by omega) (by omega);have c1:IntKind.i64.wrap (c+64)=c+64:=wrapN (by omega) (by omega);have c2:IntKind.i64.wrap (c+128)=c+128:=wrapN (by omega) (by omega);have v0:wrap64 c=c:=by unfold wrap64;omega
 have v1:wrap64 (c+64)=c+64:=by unfold wrap64;omega
 have v2:wrap64 (c+128)=c+128:=by unfold wrap64;omega
 have hs:∀x n:Int,-100000000≤x-n∧x-n≤100000000→zig (x-n)<2 ^ 64:=fun x n k=>by unfold zig;split<;>omega
 have s0:=Lib.hid (hs p0 n0 ⟨by omega,by omega⟩);have s1:=Lib.hid (hs p1 n1 ⟨by omega,by omega⟩);have s2:=Lib.hid (hs p2 n2 ⟨by omega,by omega⟩);have HP:Hid (placeB c (p0,p1,p2) (n0,n1,n2)=numBits c (zig (p0-n0))++numBits (c+64) (zig (p1-n1))++numBits (c+128) (zig (p2-n2))):=by
  show _=_;unfold placeB;rfl
 have HL:Hid (l.length≤800000):=hl;have H0:=Lib.hid (h.upd (((Upd.refl noBlk w0).alloc (.cells #[.int .i64 p0,.int .i64 p1,.int .i64 p2] 167)).alloc (.cells #[.int .i64 n0,.int .i64 n1,.int .i64 n2] 167)));have B0:Hid ((numBits c (zig (p0-n0))).length≤128):=numBits_length c s0.out;have B1:Hid ((numBits (c+64) (zig (p1-n1))).length≤128):=numBits_length _ s1.out;have ix0:∀(x y z:Int) (W:World),(Instr.index 246 (.agg #[.int .i64 x,.int .i64 y,.int .i64 z]) (.int .i64 0)).run Tryz.prog W=.ok (.int .i64 x) W:=fun _ _ _ _=>by kernel_rfl
 have ix1:∀(x y z:Int) (W:World),(Instr.index 246 (.agg #[.int .i64 x,.int .i64 y,.int .i64 z]) (.int .i64 1)).run Tryz.prog W=.ok (.int .i64 y) W:=fun _ _ _ _=>by kernel_rfl
 have ix2:∀(x y z:Int) (W:World),(Instr.index 246 (.agg #[.int .i64 x,.int .i64 y,.int .i64 z]) (.int .i64 2)).run Tryz.prog W=.ok (.int .i64 z) W:=fun _ _ _ _=>by kernel_rfl
 clear hz hs h1 h2 h3 h hl hc;generalize zig (p0-n0)=m0 at *;generalize zig (p1-n1)=m1 at *;generalize zig (p2-n2)=m2 at *;unfold ptV;go_enter Tryz.func100,Tryz.ntmps100
 go_wp2_with fail
 refine wp_loop_rounds 4 ?_;rw [rounds_succ];go_wp2_with fail
 refine (z0 _).out.mono ?_;rintro e w1 ⟨rfl,rfl⟩;have C0:=Lib.hid (WB.number H0.out c m0 s0.out (by have:=HL.out;omega));go_wp2_with fail
 refine C0.out.mono ?_;rintro e w2 ⟨rfl,F1,H1'⟩;have H1:=Lib.hid H1';clear C0 H1';go_wp2_with fail
 rw [rounds_succ];go_wp2_with fail
 refine (z1 _).out.mono ?_;rintro e w1 ⟨rfl,rfl⟩;have C1:=Lib.hid (WB.number H1.out (c+64) m1 s1.out (by have:=HL.out;have:=B0.out;rw [List.length_append];omega));go_wp2_with fail
 refine C1.out.mono ?_;rintro e w3 ⟨rfl,F2,H2'⟩;have H2:=Lib.hid H2';clear C1 H2';go_wp2_with fail
 rw [rounds_succ];go_wp2_with fail
 refine (z2 _).out.mono ?_;rintro e w1 ⟨rfl,rfl⟩;have C2:=Lib.hid (WB.number H2.out (c+128) m2 s2.out (by have:=HL.out;have:=B0.out;have:=B1.out;rw [List.length_append,List.length_append];omega));go_wp2_with fail
 refine C2.out.mono ?_;rintro e w4 ⟨rfl,F3,H3'⟩;have H3:=Lib.hid H3';clear C2 H3';go_wp2_with fail
 rw [rounds_succ];go_wp2_with fail
 go_end0
 refine ⟨rfl,F3,?_⟩;rw [HP.out,←List.append_assoc,←List.append_assoc];exact H3.out
end Go.Proofs.YtmgklblglpplcaaGreatDoor
