/- Parts: The range over the pieces of a row: slices.Chunk. No condition. Walks of the disk: Size, Read, Sync, put. No condition. -/
import Derived.Test.YtmgklblglpplcaaGreatDoorRPubl1
import Derived.Test.YtmgklblglpplcaaGreatDoorRPubl2
import Derived.Test.YtmgklblglpplcaaGreatDoorRPubl3
import Derived.Test.YtmgklblglpplcaaGreatDoorRPubl5
import Derived.Test.YtmgklblglpplcaaGreatDoorRPubl6
import Derived.Test.YtmgklblglpplcaaGreatDoorRPubl9
import Derived.Test.YtmgklblglpplcaaGreatDoorRPubl10
import Derived.Test.YtmgklblglpplcaaGreatDoorRPubl11
import Derived.Test.YtmgklblglpplcaaGreatDoorRPubl12
import Derived.Test.YtmgklblglpplcaaGreatDoorRPubl14
import Derived.Test.YtmgklblglpplcaaGreatDoorRPubl15
import Derived.Test.YtmgklblglpplcaaGreatDoorRPubl16
import Derived.Test.YtmgklblglpplcaaGreatDoorRPubl19
import Derived.Test.YtmgklblglpplcaaGreatDoorRPubl20
import Derived.Test.YtmgklblglpplcaaGreatDoorRPubl21
import Derived.Test.YtmgklblglpplcaaGreatDoorRPubl22
import Derived.Test.YtmgklblglpplcaaGreatDoorRPubl25
import Derived.Test.YtmgklblglpplcaaGreatDoorRPubl26
import Derived.Test.YtmgklblglpplcaaGreatDoorRPubl31
import Derived.WalkKit
import Derived.WalkSpells
import Derived.WalkLawsBesides
import Derived.Lib.Hide
import Derived.BigQuiet
import Derived.Deep.DeepFit
import Derived.Deep.DeepCutAuto
import Derived.Deep.AppendLies
import Derived.Deep.QuietTactic
import Derived.Test.YtmgklblglpplcaaGreatDoorRows
import Derived.Deep.RegionHeld3
import Derived.StillTail
import Derived.Lib.AppendStr
import Derived.Lib.AppendZeros
import Derived.Deep.MidRow
import Derived.ArgAppend
import Derived.Deep.Upon
import Derived.Maps.OwnOps
import Derived.Maps.OwnSet
import Derived.Maps.RangeWalk
import Derived.WideKeyEntry
import Derived.Lib.Bits
import Derived.Laws.EntriesVeiled
import Derived.Handy
import Derived.DeepKeys4
import Derived.Deep.CutBlock
import Derived.Test.YtmgklblglpplcaaGreatDoorShelf2
import Derived.Laws.BitsAllLaws
import Derived.Laws.BytesArg
import Derived.Test.YtmgklblglpplcaaGreatDoorShelf
import Derived.Lib.Zigzag
import Derived.Recover
import Derived.Deep.WholeRow
import Derived.Laws.IdiomStrings
import Derived.Laws.MakeOwn
import Derived.Laws.CopyOwn
import Derived.IntWalk
import Derived.RangeFuncNested
import Derived.RangeFuncBound
import Derived.RangeFuncCalls
import Derived.RangeFuncLeaves
import Derived.RangeFuncFrom
import Derived.LoopIn
import Derived.LoopNIn
import Derived.OwnWalkIn
import Derived.TacticsInMore
namespace Go.Proofs.YtmgklblglpplcaaGreatDoor
open Go Go.RowKit Pk
set_option maxRecDepth 100000
def DiskAt (B D:Nat) (w:World) (l:Bytes) (n:Nat):Prop:=∃nv sv lv ca lf,∃ps:List (Nat × Bytes),w.heap[D]?=some (dskB nv sv lv ca 0 lf)∧OwB B w nv l∧kDp.Own B w lv ps∧0≤ca∧ca≤n∧ps.length≤n∧B≤D
def dQ (B k:Nat) (o:Obj):Prop:=B≤k∧tyQ [5,144,60] o
theorem dQ_dsk {B k:Nat} (h:B≤k) (nv sv lv:Value) (ca p lf:Int):dQ B k (dskB nv sv lv ca p lf):=⟨h,tyQ_cells.2 (by simp)⟩
theorem dQ_u8 {B k:Nat} (h:B≤k) (cs:Array Value):dQ B k (.cells cs 5 (0,0)):=⟨h,tyQ_cells.2 (by simp)⟩
theorem dQ_part {B k:Nat} (h:B≤k) (cs:Array Value):dQ B k (.cells cs 144 (0,0)):=⟨h,tyQ_cells.2 (by simp)⟩
theorem DiskAt.keep {B D n:Nat} {w w':World} {l:Bytes} (h:DiskAt B D w l n) (hu:Upd noBlk w w'):DiskAt B D w' l n:=by
 obtain ⟨nv,sv,lv,ca,lf,ps,h1,h2,h3,h4⟩:=h;exact ⟨nv,sv,lv,ca,lf,ps,hu.heap h1 id,h2.upd hu,h3.upd hu,h4⟩
theorem DiskAt.keepO {Q:Nat→Obj→Prop} {B D n:Nat} {w w':World} {l:Bytes} (h:DiskAt B D w l n) (hu:UpdO Q w w') (hQ:∀k o,dQ B k o→¬Q k o):DiskAt B D w' l n:=by
 obtain ⟨nv,sv,lv,ca,lf,ps,h1,h2,h3,h4⟩:=h;refine ⟨nv,sv,lv,ca,lf,ps,hu.keep h1 (hQ _ _ (dQ_dsk h4.2.2.2 _ _ _ _ _ _)),?_,?_,h4⟩;rotate_left
 ·exact h3.other hu (fun g hg hF=>by
   obtain ⟨hb,cur,hc⟩:=h3.blk hg;obtain ⟨o,ho,hq⟩:=hF;rw [hc] at ho;cases ho;exact hQ _ _ (dQ_part hb _) hq)
 exact h2.other hu (fun g hg hF=>by
  obtain ⟨hb,cur,hc⟩:=h2.blk hg;obtain ⟨o,ho,hq⟩:=hF;rw [hc] at ho;cases ho;exact hQ _ _ (dQ_u8 hb _) hq)
theorem DiskAt.mono {B D n m:Nat} {w:World} {l:Bytes} (h:DiskAt B D w l n) (hm:n≤m):DiskAt B D w l m:=by
 obtain ⟨nv,sv,lv,ca,lf,ps,h1,h2,h3,h4,h5,h6⟩:=h;exact ⟨nv,sv,lv,ca,lf,ps,h1,h2,h3,h4,by omega,by omega,h6.2⟩
theorem dsize_any {B D n:Nat} {l:Bytes} (w:World) (h:DiskAt B D w l n):Calls Tryz.prog 15 #[.pointer (some ⟨D,0,none⟩)] w fun e w'=>e=.returned (.int .i64 (l.length:Int))∧w'=w:=by
 obtain ⟨nv,sv,lv,ca,lf,ps,h1,h2,h3,h4⟩:=h;obtain ⟨c0,_⟩:=dsk_cells h1;obtain ⟨A,cap,rfl,hc⟩:=h2.form;clear h1 h2 h3 h4;go_enter Tryz.func15,Tryz.ntmps15
 go_wp2_with fail
 go_ret
 exact ⟨rfl,rfl⟩
set_option maxHeartbeats 1000000 in
theorem dsync_any {B D n:Nat} {l:Bytes} (hl:l.length≤100000) (hn:n≤100000) (w:World) (h:DiskAt B D w l n):Calls Tryz.prog 16 #[.pointer (some ⟨D,0,none⟩)] w fun e w'=>e=.returned (.int .i64 0)∧DiskAt B D w' l (n+1)∧UpdO (dQ B) w w':=by
 obtain ⟨nv,sv,lv,ca,lf,ps,h1,h2,h3,h4,h5,h6⟩:=h;have HD:=Lib.hid h1;have HO:=Lib.hid h2;have HC:Hid (0≤ca∧ca≤n):=⟨h4,h5⟩;have HL:=Lib.hid hl;have HBD:=Lib.hid h6.2;clear h1 h2 h3 h4 h5 h6 hl;go_enter Tryz.func16,Tryz.ntmps16
 go_wp2_with fail
 refine (dcall_any (by have:=HC.out;omega) _ HD.out).mono ?_;rintro e w1 ⟨rfl,k1,k2⟩;have HK1:=Lib.hid k1;have HK2:=Lib.hid k2;obtain ⟨c0,_⟩:=dsk_cells k1;have HO1:Hid (OwB B w1 nv l):=HO.out.other k2 (fun g hg e=>by
  obtain ⟨_,cur,hc⟩:=HO.out.blk hg;rw [e,HD.out] at hc;cases hc)
 clear k1 k2;go_wp2_with fail
 refine (down_any nv l HL.out _ HO1.out).mono ?_;rintro e w2 ⟨v,rfl,o2,u2⟩;have HO2:=Lib.hid o2;have HU2:=Lib.hid u2;have HD2:=Lib.hid (u2.heap HK1.out id);obtain ⟨c0,c1,c2,c3,c4,c5,f0,f1,f2,f3,f4,f5⟩:=dsk_cells HD2.out;have HO3:=Lib.hid (HO1.out.upd u2);obtain ⟨A,cap,rfl,hc⟩:=o2.form;clear o2 u2;go_wp2_with fail
 go_ret
 have e1:=heap_setCell_eq (i:=1) (.slice A l.length cap) HD2.out;have e2:=heap_setCell_eq (i:=2) (.slice none 0 0) e1;have hdq:∀x:World,∀o i v,x.heap[D]?=some (.cells o 60 (0,0))→UpdO (dQ B) x (x.setCell ⟨D,i,none⟩ v):=fun x o i v hx=>(UpdO.refl (dQ B) x).setCell hx ⟨HBD.out,tyQ_cells.2 (by simp)⟩ v;have hu:=(((UpdO.blk (Q:=dQ B) HK2.out HD.out (dQ_dsk HBD.out _ _ _ _ _ _)).trans (UpdO.same HU2.out)).trans (hdq _ _ 1 (.slice A l.length cap) HD2.out)).trans (hdq _ _ 2 (.slice none 0 0) e1);refine ⟨rfl,⟨nv,_,.slice none 0 0,ca+1,lf,[],e2.trans rfl,?_,Kd.Own.nil _ _ _,by have:=HC.out;omega,by have:=HC.out;omega,by simp,HBD.out⟩,hu⟩;exact HO3.out.other (((Upd.refl (fun k=>k=D) w2).setCell (p:=⟨D,1,none⟩) (fun _=>rfl) _).setCell (p:=⟨D,2,none⟩) (fun _=>rfl) _) (fun g hg e=>by
  obtain ⟨_,cur,hc⟩:=HO3.out.blk hg;rw [e,HD2.out] at hc;cases hc)
def putB (l:Bytes) (off:Nat) (s:Bytes):Bytes:=(l++List.replicate (off+s.length-l.length) 0).take off++s++(l++List.replicate (off+s.length-l.length) 0).drop (off+s.length)
theorem putB_len (l:Bytes) (off:Nat) (s:Bytes):(putB l off s).length=max l.length (off+s.length):=by
 unfold putB;simp only [List.length_append,List.length_take,List.length_drop,List.length_replicate];omega
set_option maxHeartbeats 1000000 in
theorem dput_any (nv:Value) (l:Bytes) (off:Nat) (s:Bytes) (_hl:l.length≤100000) (ho:off+s.length≤100000) (hs:0<s.length) (w:World) {B:Nat} (hB:B≤w.heap.size) (h:OwB B w nv l) :
  Calls Tryz.prog 72 #[nv,.int .i64 (off:Int),.string (bs s)] w fun e w'=>∃v,e=.returned v∧OwB B w' v (putB l off s)∧Upd (fun k=>nv.ownBlock=some k) w w':=by
 obtain ⟨A,cap,rfl,hc⟩:=h.form;obtain ⟨n,hn⟩:∃n,n=off+s.length:=⟨_,rfl⟩;have h63:(off:Int)+(s.length:Int)=(n:Int):=by omega
 have hsz:(bs s).size=s.length:=bs_size s;have hn3:(n:Int)≤9223372036854775807:=by omega
 have hn4:-9223372036854775808≤(n:Int):=by omega
 have hP:putB l off s=(l++List.replicate (n-l.length) 0).take off++s++(l++List.replicate (n-l.length) 0).drop (off+s.length):=by unfold putB;rw [hn]
 have HP:=Lib.hid hP;by_cases hg:l.length<n
 ·have hmk:=make_zeros n (by omega) w;have HCP:=Lib.hid (copy_new h n (by omega) 3);obtain ⟨c,hcc⟩:∃c,c=l++List.replicate (n-l.length) 0:=⟨_,rfl⟩;have hcl:c.length=n:=by rw [hcc,List.length_append,List.length_replicate];omega
  have hW:=OwB.whole (base:=B) hB (heap_alloc_new w (.cells (byV c).toArray 5)) (by omega);rw [←hcc] at HCP HP;obtain ⟨w2,hst,hO,hU⟩:=copy_str hW off s (by omega) 3 (c.length-off);rw [hcl] at hst hO;have HST:=Lib.hid hst;have HO:=Lib.hid hO;have HU:Hid (Upd (fun k=>(Value.slice A l.length cap).ownBlock=some k) w w2):=((Upd.refl _ w).alloc _).then hU (fun i hi e=>by omega);have hgi:(l.length:Int)<(n:Int):=by omega
  have hn1:(off:Int)≤(n:Int):=by omega
  have hn2:¬n=off:=by omega
  generalize List.replicate n (0:UInt8)=z at hmk HCP;clear hg hW hst hO hU hcl hcc hP h hn hc _hl ho;go_enter Tryz.func72,Tryz.ntmps72
  go_upto_region 5 with (refine wpList_copy_run rfl _ _ _ _ rfl rfl rfl HCP.out ?_)
  go_wp2_with (refine wpList_copy_run rfl _ _ _ _ rfl rfl rfl HST.out ?_)
  go_ret
  exact ⟨_,rfl,by rw [HP.out];exact HO.out,HU.out⟩
 ·have hz:n-l.length=0:=by omega
  rw [hz,List.replicate_zero,List.append_nil] at HP;rcases h.2 with ⟨e,e0⟩ | ⟨g,cap',cur,e,q1,q2,q3,q4,q5,q6⟩
  ·omega
  ·cases e;obtain ⟨w2,hst,hO,hU⟩:=copy_str h off s (by omega) 3 (cap-off);have HST:=Lib.hid hst;have HO:=Lib.hid hO;have HU:Hid (Upd (fun k=>(Value.slice (some ⟨g,0,none⟩) l.length cap).ownBlock=some k) w w2):=hU.mono (fun i _ e=>by rw [e];rfl);have hgi:¬(l.length:Int)<(n:Int):=by omega
   have hn1:(off:Int)≤(l.length:Int):=by omega
   have hn2:¬cap=off:=by omega
   clear hg hst hO hU hP h hn _hl ho q1 q2 q3 q4 q5 q6 hz;go_enter Tryz.func72,Tryz.ntmps72
   go_wp2_with (refine wpList_copy_run rfl _ _ _ _ rfl rfl rfl HST.out ?_)
   go_ret
   exact ⟨_,rfl,by rw [HP.out];exact HO.out,HU.out⟩
end Go.Proofs.YtmgklblglpplcaaGreatDoor
namespace Go.Proofs.YtmgklblglpplcaaGreatDoor
open Go Go.RowKit Pk Dg
set_option maxRecDepth 100000
attribute [local go_sem] Oper.semAt_some
theorem Chunk_any (A:Option Addr) (n cap:Nat) (w:World):Calls Tryz.prog 34 #[.slice A n cap,.int .i64 64] w fun e w'=>e=.returned (.func (.func 55) #[] #[.pointer (some ⟨w.heap.size,0,none⟩),.pointer (some ⟨w.heap.size+1,0,none⟩)])∧w'=(w.alloc (.cells #[.slice A n cap] 48)).alloc (.cells #[.int .i64 64] 3):=by
 have hmf:∀(fn:Fn) (first cap:Array Value) (w:World),(Instr.makeFunc fn first cap).run Tryz.prog w=.ok (.func fn first cap) w:=fun _ _ _ _=>rfl;go_enter Tryz.func34,Tryz.ntmps34
 go_wp2
 go_ret
 exact ⟨rfl,rfl⟩
def ArC (g:Nat) (k:Nat) (args:Array Value) (_:World):Prop:=args=#[.slice (some ⟨g,64*k,none⟩) 64 64]
def KpC (Bx:Nat) (W W':World):Prop:=W'.heap[Bx]?=W.heap[Bx]?∧W'.heap[Bx+1]?=W.heap[Bx+1]?
def preC (nb:Nat) (pre:List Nat):Prop:=∃k,k≤nb∧pre=List.range k
set_option maxHeartbeats 2000000 in
theorem chunk1_seq (n g nb cap Bx:Nat) (hcap:64*nb≤cap) (hnb:nb≤18014398509481984) (w:World) (hx:w.heap[Bx]?=some (.cells #[.slice (some ⟨g,0,none⟩) (64*nb) cap] 48 (0,0))) (hy:w.heap[Bx+1]?=some (.cells #[.int .i64 64] 3 (0,0))) :
  SeqP Fence.wide n Tryz.prog 55 #[.pointer (some ⟨Bx,0,none⟩),.pointer (some ⟨Bx+1,0,none⟩)] (ArC g) (KpC Bx) (preC nb) (fun xs=>xs=List.range nb) (preC nb) w:=by
 intro l J Jx Jp W hW hJ hY h0;have HJ:=Lib.hid hJ;have HY:=Lib.hid hY;have HX:Hid (W.heap[Bx]?=some (.cells #[.slice (some ⟨g,0,none⟩) (64*nb) cap] 48 (0,0))):=(hW.block Bx (lt_of_heap hx)).trans hx;have HZ:Hid (W.heap[Bx+1]?=some (.cells #[.int .i64 64] 3 (0,0))):=(hW.block (Bx+1) (lt_of_heap hy)).trans hy;have H0:=Lib.hid h0;have HC:=Lib.hid hcap;have hnb':(nb:Int)≤18014398509481984:=by omega
 have HNB:=Lib.hid hnb;refine callsIn_of_wp Tryz.func55 rfl trivial ?_ rfl;simp only [Tryz.ntmps55,List.size_toArray,List.length_cons,List.length_nil,Nat.reduceAdd,Nat.reduceSub,Array.replicate_succ,Array.replicate_zero,List.push_toArray,List.append_toArray,List.nil_append,List.cons_append];clear hJ hY hx hy hW h0 hcap hnb;gi_wp2_with fail
 gi_loopw [4] (fun i wr=>∃k:Nat,i=.int .i64 (64*(k:Int))∧k≤nb∧J (List.range k) wr∧wr.heap[Bx]?=some (.cells #[.slice (some ⟨g,0,none⟩) (64*nb) cap] 48 (0,0))∧wr.heap[Bx+1]?=some (.cells #[.int .i64 64] 3 (0,0))) (fun i _=>64*nb-(intOf i).toNat)
 case atStart=>exact ⟨0,rfl,Nat.zero_le _,H0.out,HX.out,HZ.out⟩
 case round=>
  obtain ⟨k,rfl,hk,hj,hx,hy⟩:=hrel;have HJK:=Lib.hid hj;have HXK:=Lib.hid hx;have HYK:=Lib.hid hy;have cx:wr.cell? ⟨Bx,0,none⟩=some (.slice (some ⟨g,0,none⟩) (64*nb) cap):=by simp [World.cell?,hx]
  have cy:wr.cell? ⟨Bx+1,0,none⟩=some (.int .i64 64):=by simp [World.cell?,hy]
  clear hj hx hy HX HZ H0;by_cases hlt:k<nb
  ·have hlt':64*(k:Int)<64*(nb:Int):=by omega
   obtain ⟨d,hd⟩:∃d,d=64*nb-64*k:=⟨_,rfl⟩;obtain ⟨c2,hc2⟩:∃c2,c2=cap-64*k:=⟨_,rfl⟩;have hcc:=HC.out;have d1:¬cap=64*k:=by omega
   have d2:(64:Int)≤(d:Int):=by omega
   have d3:0≤64*(k:Int):=by omega
   have d4:64*(k:Int)≤64*(nb:Int):=by omega
   have d5:(64*(k:Int)).toNat=64*k:=by omega
   have d6:64*(nb:Int)≤(cap:Int):=by omega
   have d7:64*(k:Int)≤(cap:Int):=by omega
   have HD:=Lib.hid hd;have HC2:=Lib.hid hc2;clear hd hc2 hcc;gi_wp2_with fail
   refine wpIn_wide.2 ?_;refine wp_region_tree 6 (OT.sures [0,1,2,3,4,5] .nil) (fun w'=>Upd noBlk wr w') (by kernel_rfl) (by kernel_rfl) (fun c a d v w h=>by cases d<;>exact h) ((Upd.refl noBlk wr).drew) ?_
   simp only [OT.sures]
   iterate 3 (apply wpT_sure rfl rfl;focus (intro w' hw';have g0:=hw'.cell cx id;have g1:=hw'.cell cy id;go_simp;rfl))
   refine wpT_sure rfl rfl (.slice (some ⟨g,64*k,none⟩) d c2) (fun w' hw'=>?_) ?_
   focus (have e1:=HD.out;have e2:=HC2.out;go_simp)
   refine wpT_sure rfl rfl (.int .i64 (d:Int)) (fun w' hw'=>?_) ?_
   focus (go_simp)
   refine wpT_sure rfl rfl (.int .i64 64) (fun w' hw'=>?_) ?_
   focus (go_simp;omega)
   refine wpT_nil ?_;have UV:Hid (Upd noBlk wr wr.drew):=(Upd.refl noBlk wr).drew;generalize wr.drew=wv at *;go_wp2_with fail
   have cx2:=UV.out.cell cx id;have HX2:=Lib.hid (UV.out.heap HXK.out id);have HY2:=Lib.hid (UV.out.heap HYK.out id);have HJ2:=Lib.hid (HJ.out _ _ _ HJK.out (grown_of_upd UV.out));have hok:preC nb (List.range k++[k]):=⟨k+1,hlt,List.range_succ.symm⟩;obtain ⟨fn,tmps,assign,body,hyy,hR⟩:=HY.out (List.range k) k #[.slice (some ⟨g,64*k,none⟩) 64 64] wv HJ2.out rfl hok;have HRR:=Lib.hid hR;have HOK:=Lib.hid hok;have f1:64*(k:Int)+64≤(cap:Int):=by omega
   have f2:64*(k:Int)≤64*(k:Int)+64:=by omega
   have f3:(64*(k:Int)+64).toNat=64*k+64:=by omega
   have f4:0≤64*(k:Int)+64:=by omega
   have f5:64*k+64-64*k=64:=by omega
   have HLT:=Lib.hid hlt;clear d2 hR hok cx cy UV HJK HXK HYK HD HC2 hlt;gi_wp2_with fail
   refine ⟨fun h=>(by simp [Fence.wide] at h),HRR.out.mono ?_⟩;rintro e w4 (⟨rfl,hj4,hk4⟩ | ⟨rfl,hj4⟩ | ⟨chain,rfl,hj4⟩)
   ·have HJ4:=Lib.hid hj4;have HX4:Hid (w4.heap[Bx]?=some (.cells #[.slice (some ⟨g,0,none⟩) (64*nb) cap] 48 (0,0))):=hk4.1.trans HX2.out;have HY4:Hid (w4.heap[Bx+1]?=some (.cells #[.int .i64 64] 3 (0,0))):=hk4.2.trans HY2.out;have cy4:w4.cell? ⟨Bx+1,0,none⟩=some (.int .i64 64):=by simp [World.cell?,HY4.out]
    clear hj4 hk4 cx2;gi_wp2_with fail
    refine ⟨⟨k+1,by rw [show 64*(((k+1:Nat)):Int)=64*(k:Int)+64 by omega],HLT.out,by rw [List.range_succ];exact HJ4.out,HX4.out,HY4.out⟩,?_⟩;simp only [intOf];have:=HLT.out;omega
   ·have HJ4:=Lib.hid hj4;clear hj4;gi_wp2_with fail
    refine bodyPost_ret (results_none rfl _ _ _) rfl ?_;exact .inl ⟨_,rfl,.inr ⟨_,HOK.out,HJ4.out⟩⟩
   ·exact ⟨rfl,.inr ⟨chain,rfl,hj4⟩⟩
  ·obtain rfl:k=nb:=by omega
   have hlt':¬64*(k:Int)<64*(k:Int):=by omega
   gi_wp2_with fail
   go_end0
   exact .inl ⟨⟨_,rfl⟩,.inl HJK.out⟩
end Go.Proofs.YtmgklblglpplcaaGreatDoor
