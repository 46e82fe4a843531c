/- Parts: Sorting at most one hash; a map's keys, sorted. No condition. The keys of a map of one hash, collected. No condition. Walks of the versions: Reach on a root without parts. No condition. Walks of the versions: get, root. No condition. -/
import Derived.Test.YtmgklblglpplcaaGreatDoorRPubl1
import Derived.Test.YtmgklblglpplcaaGreatDoorRPubl2
import Derived.Test.YtmgklblglpplcaaGreatDoorRPubl3
import Derived.Test.YtmgklblglpplcaaGreatDoorRPubl4
import Derived.Test.YtmgklblglpplcaaGreatDoorRPubl5
import Derived.Test.YtmgklblglpplcaaGreatDoorRPubl6
import Derived.Test.YtmgklblglpplcaaGreatDoorRPubl9
import Derived.Test.YtmgklblglpplcaaGreatDoorRPubl10
import Derived.Test.YtmgklblglpplcaaGreatDoorRPubl11
import Derived.Test.YtmgklblglpplcaaGreatDoorRPubl12
import Derived.Test.YtmgklblglpplcaaGreatDoorRPubl14
import Derived.Test.YtmgklblglpplcaaGreatDoorRPubl15
import Derived.Test.YtmgklblglpplcaaGreatDoorRPubl16
import Derived.Test.YtmgklblglpplcaaGreatDoorRPubl19
import Derived.Test.YtmgklblglpplcaaGreatDoorRPubl20
import Derived.Test.YtmgklblglpplcaaGreatDoorRPubl21
import Derived.Test.YtmgklblglpplcaaGreatDoorRPubl22
import Derived.Test.YtmgklblglpplcaaGreatDoorRPubl23
import Derived.Test.YtmgklblglpplcaaGreatDoorRPubl25
import Derived.Test.YtmgklblglpplcaaGreatDoorRPubl28
import Derived.Test.YtmgklblglpplcaaGreatDoorRPubl31
import Derived.Test.YtmgklblglpplcaaGreatDoorRPubl33
import Derived.Test.YtmgklblglpplcaaGreatDoorRPubl34
import Derived.Test.YtmgklblglpplcaaGreatDoorRPubl37
import Derived.Test.YtmgklblglpplcaaGreatDoorRPubl38
import Derived.WalkKit
import Derived.WalkSpells
import Derived.WalkLawsBesides
import Derived.Lib.Hide
import Derived.BigQuiet
import Derived.Deep.DeepFit
import Derived.Deep.DeepCutAuto
import Derived.Deep.AppendLies
import Derived.Deep.QuietTactic
import Derived.Test.YtmgklblglpplcaaGreatDoorRows
import Derived.Deep.RegionHeld3
import Derived.StillTail
import Derived.Lib.AppendStr
import Derived.Lib.AppendZeros
import Derived.Deep.MidRow
import Derived.ArgAppend
import Derived.Deep.Upon
import Derived.Maps.OwnOps
import Derived.Maps.OwnSet
import Derived.Maps.RangeWalk
import Derived.WideKeyEntry
import Derived.Lib.Bits
import Derived.Laws.EntriesVeiled
import Derived.Handy
import Derived.DeepKeys4
import Derived.Deep.CutBlock
import Derived.Test.YtmgklblglpplcaaGreatDoorShelf2
import Derived.Laws.BitsAllLaws
import Derived.Laws.BytesArg
import Derived.Test.YtmgklblglpplcaaGreatDoorShelf
import Derived.Lib.Zigzag
import Derived.Recover
import Derived.Deep.WholeRow
import Derived.Laws.IdiomStrings
import Derived.Laws.MakeOwn
import Derived.IntWalk
import Derived.RangeFuncNested
import Derived.RangeFuncBound
import Derived.RangeFuncCalls
import Derived.RangeFuncLeaves
import Derived.RangeFuncFrom
import Derived.LoopIn
import Derived.LoopNIn
import Derived.OwnWalkIn
import Derived.TacticsInMore
import Derived.Stop.BytesEq
import Derived.Defers
import Derived.RegionIn
namespace Go.Proofs.YtmgklblglpplcaaGreatDoor
open Go Go.RowKit Pk
set_option maxRecDepth 100000
theorem eq_hash (a b:H32) (W:World):(Op.equalIn 10000 36 (.agg (hashC a).toArray) (.agg (hashC b).toArray)).run Tryz.prog W=.ok (decide (a=b)) W:=by
 have h:=run_equalIn_bytes (P:=Tryz.prog) W 9998 36 5 32 Tryz.underlying36 Tryz.underlying5 (fun w=>by kernel_rfl) a.1 b.1 a.2 b.2;have e:(a.1 == b.1)=decide (a=b):=by
  rw [Bool.eq_iff_iff,beq_iff_eq,decide_eq_true_eq];exact ⟨fun h=>Subtype.ext h,fun h=>by rw [h]⟩
 rw [e] at h;exact h
set_option maxHeartbeats 1000000 in
theorem get_any {M n:Nat} {f:H32→Option Bytes} (h:H32) (s:Bytes) (hf:f h=some s) (hs:shaH s=h) (hl:s.length≤1000) (w:World) (hat:kitSrc.At w M n f) :
  Calls Tryz.prog 61 #[.map (some M),.agg (hashC h).toArray] w fun e w'=>e=.returned (.string (bs s))∧Upd noBlk w w':=by
 have HR:=Lib.hid (range_row (heap_alloc_new w (.cells (hashC h).toArray 36)));have HI:=Lib.hid (size_h h);have HU:Hid (Upd noBlk w (w.alloc (.cells (hashC h).toArray 36))):=(Upd.refl _ w).alloc _;have hlk:(Instr.lookup 89 (.map (some M)) (.agg (hashC h).toArray) true).run Tryz.prog (w.alloc (.cells (hashC h).toArray 36))=.ok (.tuple #[.string (bs ((f h).getD [])),.bool (f h).isSome]) (w.alloc (.cells (hashC h).toArray 36)):=(hat.keep HU.out).lookOkR (a:=h) trivial;rw [hf] at hlk;simp only [Option.getD_some,Option.isSome_some] at hlk;have HS:=fun W=>Lib.hid (gSum_any s (by omega) (by omega) W);rw [hs] at HS;have hcl:=hashC_len h;have EQ:Hid (∀W,(Op.equalIn 10000 36 (.agg (hashC h).toArray) (.agg (hashC h).toArray)).run Tryz.prog W=.ok true W):=fun W=>by rw [eq_hash];simp
 clear hat hf hl hs;go_enter Tryz.func61,Tryz.ntmps61
 go_upto_region 4 with (first | (refine wpList_load_mid rfl _ _ rfl w.heap.size 0 rfl (hashC h) _ HR.out Tryz.underlying36 rfl HI.out ?_))
 obtain ⟨N,hN⟩:∃N,N=w.heap.size:=⟨_,rfl⟩;rw [←hN] at HR ⊢;clear hN hlk;generalize w.alloc (.cells (hashC h).toArray 36)=w1 at *;have HD:Hid (Upd noBlk w1 w1.drew):=(Upd.refl noBlk w1).drew;refine wp_region_tree 3 (OT.sures [0,2] (.run 1 .nil)) (fun w'=>Upd noBlk w1 w') (by kernel_rfl) (by kernel_rfl) (fun c a d v w h=>by cases d<;>exact h) HD.out ?_
 simp only [OT.sures];apply wpT_sure rfl rfl
 focus (intro w' hw';go_simp;rfl)
 apply wpT_sure rfl rfl
 focus (intro w' hw';exact exec_load_row 36 (.tmp 3) rfl N 0 (by go_simp) (hashC h) _ (rangeAt_upd HR.out hw') Tryz.underlying36 rfl HI.out)
 generalize w1.drew=wd at *;refine wpT_run (fun w'=>Upd noBlk w1 w') (fun _ h=>h) rfl (fun K' hK=>?_);go_simp
 refine (HS wd).out.mono ?_;rintro e wb ⟨rfl,ub⟩;have HUB:=Lib.hid (HD.out.trans ub);refine hK _ _ ⟨HUB.out,?_⟩;clear hK K' ub;refine wpT_nil ?_;have e1:=EQ.out wb;unfold hashV0;go_wp2_with fail
 go_ret
 exact ⟨rfl,HU.out.trans HUB.out⟩
theorem zero_root (W:World):(zeroValue 133).run Tryz.prog W=.ok (.agg #[.slice none 0 0]) W:=by kernel_rfl
theorem openedRoot_any (A:Option Addr) (n cap:Nat) (w:World):Calls Tryz.prog 65 #[.agg #[.slice A n cap],.int .i64 0] w fun e w'=>e=.returned (.agg #[.slice A n cap])∧Upd noBlk w w':=by
 have hz:=zero_root;go_enter Tryz.func65,Tryz.ntmps65
 go_wp2_with fail
 have HB:((w.alloc (.cells #[.slice A n cap] 133)).alloc (.cells #[.slice A n cap] 133)).heap[w.heap.size+1]?=some (.cells #[.slice A n cap] 133 (0,0)):=by
  have h:=heap_alloc_new (w.alloc (.cells #[.slice A n cap] 133)) (.cells #[.slice A n cap] 133);simpa using h
 refine bodyPost_ret (results_cell_row rfl _ _ (w.heap.size+1) 133 _ (0,0) _ rfl HB Tryz.underlying133 rfl (by kernel_rfl)) rfl ?_;exact ⟨rfl,((Upd.refl _ w).alloc _).alloc _⟩
theorem digB0:digB 0=[0]:=by rw [digB,dif_pos (by decide)];rfl
theorem root_pk:rootR [3,0]=some []:=by
 have h:=root_back [] (by decide) (by simp);have e:rootB []=[3,0]:=by simp [rootB,partsB,digB0]
 rw [e] at h;exact h
theorem root_any {M n:Nat} {f:H32→Option Bytes} (h:H32) (hf:f h=some [3,0]) (hs:shaH [3,0]=h) (w:World) (hat:kitSrc.At w M n f) :
  Calls Tryz.prog 43 #[.map (some M),.agg (hashC h).toArray] w fun e w'=>(∃A cap,e=.returned (.slice A 0 cap))∧Upd noBlk w w':=by
 have HR:=Lib.hid (range_row (heap_alloc_new w (.cells (hashC h).toArray 36)));have HI:=Lib.hid (size_h h);have hcl:=hashC_len h;have HU:Hid (Upd noBlk w (w.alloc (.cells (hashC h).toArray 36))):=(Upd.refl _ w).alloc _;have HG:=Lib.hid (get_any h [3,0] hf hs (by decide) _ (hat.keep HU.out));have HO:=fun W=>Lib.hid (OpenRoot_any [3,0] W);clear hat hf hs;go_enter Tryz.func43,Tryz.ntmps43
 go_wp2_with (first | (refine wpList_load_mid rfl _ _ rfl w.heap.size 0 rfl (hashC h) _ HR.out Tryz.underlying36 rfl HI.out ?_))
 refine HG.out.mono ?_;rintro e w1 ⟨rfl,u1⟩;have U1:=Lib.hid (HU.out.trans u1);clear u1;go_wp2_with fail
 refine (HO _).out.mono ?_;rintro e w2 ⟨u2,hv⟩;rw [root_pk] at hv;obtain ⟨v,rfl,ho⟩:=hv;obtain ⟨A,cap,rfl,_⟩:=ho.form;have U2:=Lib.hid (U1.out.trans u2);clear u2 ho;go_wp2_with fail
 refine (openedRoot_any A _ cap _).mono ?_;rintro e w3 ⟨rfl,u3⟩;have hfl:(Instr.field 133 (.agg #[.slice A 0 cap]) 0).run Tryz.prog w3=.ok (.slice A 0 cap) w3:=by kernel_rfl
 go_wp2_with fail
 go_ret
 exact ⟨⟨A,cap,rfl⟩,U2.out.trans u3⟩
end Go.Proofs.YtmgklblglpplcaaGreatDoor
namespace Go.Proofs.YtmgklblglpplcaaGreatDoor
open Go Go.RowKit Pk
set_option maxRecDepth 100000
attribute [local go_sem] Oper.semAt_some
theorem keeps_of {F:Nat→Prop} {W W':World} (h:Upd F W W') (hF:∀k,F k→∃cs T fr,W.heap[k]?=some (.cells cs T fr)):KeepsWalks W W'∧KeepsOthers W W':=
 ⟨⟨h.size,fun k o hk ho=>h.heap hk (fun e=>by obtain ⟨cs,T,fr,hc⟩:=hF k e;rw [hk] at hc;cases hc;cases ho)⟩,
 ⟨h.size,fun k o hk ho=>h.heap hk (fun e=>by obtain ⟨cs,T,fr,hc⟩:=hF k e;rw [hk] at hc;cases hc;cases ho)⟩⟩
theorem keeps_none {W W':World} (h:Upd noBlk W W'):KeepsWalks W W'∧KeepsOthers W W':=keeps_of h (fun _ e=>e.elim)
theorem OwnH.notBox {W:World} {B:Nat} {t:TypeId} {u:Value} {base:Nat} {v:Value} {l:List H32} (h:kHash.Own base W v l) (hb:W.heap[B]?=some (.cells #[u] t (0,0))) (ht:t≠36):v.ownBlock≠some B:=fun e=>by
 obtain ⟨_,cur,hc⟩:=h.blk e;rw [hb] at hc;have h9:(Obj.cells #[u] t (0,0))=.cells cur 36 (0,0):=Option.some.inj hc;injection h9 with _ h10 _
 exact ht h10
theorem exec_append_run {P:Program} {o:Oper} {ev:Operand→Value} {w w':World} (s x:Operand) (t:TypeId) (ho:o.op=.call { callee:=.builtin .append,args:=#[s,x],argTypes:=#[t,t] }) {vs vx v':Value} (hs:ev s=vs) (hx:ev x=vx)
  (hr:(Builtin.append_ #[t,t] o.type #[vs,vx]).run P w=.ok v' w'):(execOp ev o).run P w=.ok (.value v') w':=by
 unfold execOp;simp only [ho,resolve,invoke,builtin,Sem.run_bind,Sem.run_pure,Result.andThen_ok,List.map_toArray,List.map_cons,List.map_nil,hs,hx,hr]
def ApI (w:World) (Bx:Nat) (pre:List H32) (W:World):Prop:=∃v,W.heap[Bx]?=some (.cells #[v] 31 (0,0))∧kHash.Own w.heap.size W v pre∧pre.length≤1∧Upd noBlk w W
theorem ApI.grown {w:World} {Bx:Nat} {B:Nat} (hB:w.heap.size≤B):OwnFrom B (ApI w Bx):=by
 intro s X Y row h hg hr;obtain ⟨v,h1,h2,h3,h4⟩:=h;refine ⟨v,grown_cellsD h1 hg hr,?_,h3,grown_updD h4 hB hg hr⟩;refine h2.other (F:=fun k=>row=some k) ⟨hg.os,hg.tape,hg.output,hg.size,fun k hk hn=>hg.block k hk (fun e=>hn e.symm)⟩ (fun g hg' e=>?_);obtain ⟨_,cur,hc⟩:=h2.blk hg';obtain ⟨_,o,ho,hcc⟩:=hr g e;rw [hc] at ho;cases ho;cases hcc
set_option maxHeartbeats 4000000 in
theorem appendSeq_any (M Nb nn:Nat) (X:H32) (w:World) (hN:w.heap[Nb]?=some (.cells #[.map (some M)] 68 (0,0))) (hM:kitHB.At w M nn (oneF X)) :
  Calls Tryz.prog 83 #[.slice none 0 0,.func (.func 69) #[] #[.pointer (some ⟨Nb,0,none⟩)]] w fun e w'=>∃v l,e=.returned v∧l.length≤1∧kHash.Own w.heap.size w' v l∧Upd noBlk w w':=by
 obtain ⟨Bx,hBx⟩:∃Bx,Bx=w.heap.size:=⟨_,rfl⟩;have hb:=heap_alloc_new w (.cells #[.slice none 0 0] 31);rw [←hBx] at hb;have HB:=Lib.hid hb;have HU:Hid (Upd noBlk w (w.alloc (.cells #[.slice none 0 0] 31))):=(Upd.refl _ w).alloc _;have HN:=Lib.hid (HU.out.heap hN id);have HM:=Lib.hid (hM.keep HU.out);have HS:Hid ((w.alloc (.cells #[.slice none 0 0] 31)).heap.size=Bx+1):=by show _=_;rw [World.size_alloc,hBx]
 clear hN hM hb;refine callsIn_wide.1 (callsIn_of_wp_marks (n:=5) Tryz.func83 rfl trivial ?_ rfl);simp only [Tryz.ntmps83,List.size_toArray,List.length_cons,List.length_nil,Nat.reduceAdd,Nat.reduceSub,Array.replicate_succ,Array.replicate_zero,List.push_toArray,List.append_toArray,List.nil_append,List.cons_append];gi_wp2_with fail
 rw [←hBx];have HBX:=Lib.hid hBx;clear hBx;obtain ⟨w1,hw1⟩:∃w1,w1=w.alloc (.cells #[.slice none 0 0] 31):=⟨_,rfl⟩;rw [←hw1] at HB HU HN HM HS ⊢;clear hw1;refine wpIn_rangeFunc_ownH (α:=H32) (F:=Fence.wide) (n:=5) rfl (by omega) (gf:=69) (lb:=#[.pointer (some ⟨Nb,0,none⟩)]) rfl trivial (enters_of Tryz.func69 (by kernel_rfl) rfl)
  (keys1_seq 4 nn M Nb X w1 HN.out HM.out) KeepsWalks.trans (fun W l o o' _ h _ hw=>KeepsWalks.putObj _ h hw) (Below.refl _ _) (fun _=>rfl)
  (ApI w Bx) (fun _ _ _=>False) (ApI.grown (by have:=HS.out;have:=HBX.out;omega)) (fun _ _ _ _ _ h _ _=>h) ⟨_,HB.out,Kd.Own.nil _ _ _,by simp,HU.out⟩
  (fun x a' W=>∃kb,w.heap.size<kb∧W.heap[kb]?=some (.cells (hashC x).toArray 36 (0,0))∧a'={ tmps:=#[.slice none 0 0,.func (.func 69) #[] #[.pointer (some ⟨Nb,0,none⟩)],.pointer (some ⟨Bx,0,none⟩),undef,.slice none 0 0,.pointer (some ⟨kb,0,none⟩),.func (.func 69) #[] #[.pointer (some ⟨Nb,0,none⟩)],.agg (hashC x).toArray,undef,undef,undef,undef,undef],defers:=[] })
  ?hAx ?hassign ?hbody ?hdone ?hstop
 case hAx=>
  rintro x a' _ X Y row ⟨kb,h1,h2,h3⟩ hg hr;exact ⟨kb,h1,grown_cellsD h2 hg hr,h3⟩
 case hassign=>
  intro l pre x W K hI hK;have hzh:=zero_hash;obtain ⟨Z,hst,hz1,hz2⟩:=store_row (P:=Tryz.prog) (heap_alloc_new W (.cells (hashC zeroH).toArray 36)) (vs:=hashC x) (by rw [List.size_toArray,hashC_len,hashC_len]) (byV_one x.1);have HZU:Hid (Upd noBlk W Z):=((Upd.refl noBlk W).alloc _).then hz2 (fun i hi e=>by omega);have hcl:=hashC_len x;have HKK:=Lib.hid hK;have HII:=Lib.hid hI;have HZ1:=Lib.hid hz1;clear hz1 hz2 hK hI;gi_wp2_with fail
  obtain ⟨v,h1,h2,h3,h4⟩:=HII.out;refine HKK.out _ _ ((keeps_none HZU.out).2.from _) (keeps_none HZU.out).1 ⟨v,HZU.out.heap h1 id,h2.upd HZU.out,h3,h4.trans HZU.out⟩ ⟨W.heap.size,?_,HZ1.out,rfl⟩;have:=lt_of_heap h1;have:=HBX.out;omega
 case hbody=>
  rintro l pre x a' W hl hrec ⟨v,h1,h2,h3,h4⟩ ⟨kb,k1,k2,rfl⟩ hN;have hpre:pre=[]:=List.eq_nil_of_length_eq_zero (by omega);subst hpre;obtain ⟨A,cap,rfl,hc⟩:=h2.form;obtain ⟨g,cap',w3,r3,o3,u3,_⟩:=h2.app1 h4.size x (by simp);have hnb:=OwnH.notBox h2 h1 (by decide);have HX1:=Lib.hid h1;have HX2:=Lib.hid h2;have HX4:=Lib.hid h4;have HR3:Hid ((Builtin.append_ #[31,31] 31 #[.slice A 0 cap,.slice (some ⟨W.heap.size,0,none⟩) 1 1]).run Tryz.prog (W.alloc (.cells (hashC x).toArray 36))=.ok (.slice (some ⟨g,0,none⟩) 1 cap') w3):=r3;have O3:Hid (kHash.Own w.heap.size w3 (.slice (some ⟨g,0,none⟩) 1 cap') [x]):=o3;have U3:=Lib.hid u3;have HRX:=Lib.hid (range_row k2);have HI:=Lib.hid (size_h x);have HNB:=Lib.hid hnb;obtain ⟨c1,f1⟩:W.cell? ⟨Bx,0,none⟩=some (.slice A ([]:List H32).length cap)∧W.frozen? ⟨Bx,0,none⟩=false:=by simp [World.cell?,World.frozen?,h1]
  have HX3:=Lib.hid (u3.heap h1 hnb);obtain ⟨c3,f3⟩:w3.cell? ⟨Bx,0,none⟩=some (.slice A ([]:List H32).length cap)∧w3.frozen? ⟨Bx,0,none⟩=false:=by simp [World.cell?,World.frozen?,HX3.out]
  have HSZ:Hid ((sizeOf 36).run Tryz.prog W=.ok 32 W):=by show _=_;kernel_rfl
  have HZ:Hid ((zeroValue 36).run Tryz.prog W=.ok (.agg (Array.replicate 32 (.int .u8 0))) W):=by show _=_;kernel_rfl
  clear h1 h2 h4 r3 o3 u3 hnb k2 h3;gi_wp2_with (first
   | (refine wpListIn_val (o:=⟨some 9,_,_,_,_,_⟩) (.agg (hashC x).toArray) rfl (fun _ _=>trivial) (by intro c h;cases h) (exec_load_row 36 (.tmp 5) rfl kb 0 (by go_simp) (hashC x) _ HRX.out Tryz.underlying36 rfl HI.out) ?_)
   | (refine wpListIn_val (o:=⟨some 10,_,_,_,_,_⟩) (.slice (some ⟨W.heap.size,0,none⟩) 1 1) rfl (fun _ _=>trivial) (by intro c h;cases h) (exec_build1 W (.tmp 9) (hashC x) Tryz.underlying31 HSZ.out HZ.out (by decide) (by decide) (hashC_len x) rfl (by go_simp)) ?_)
   | (refine wpListIn_val (o:=⟨some 11,_,_,_,_,_⟩) (w':=w3) (.slice (some ⟨g,0,none⟩) 1 cap') rfl (fun _ _=>trivial) (by intro c h;cases h) ?hv ?_;(case hv=>exact exec_append_run (.tmp 8) (.tmp 10) 31 rfl (by go_simp) (by go_simp) HR3.out)))
  have hu1:Upd (fun k=>(Value.slice A ([]:List H32).length cap).ownBlock=some k∨k=Bx) W (w3.setCell ⟨Bx,0,none⟩ (.slice (some ⟨g,0,none⟩) 1 cap')):=
   (U3.out.mono (fun _ _ h=>.inl h)).setCell (p:=⟨Bx,0,none⟩) (fun _=>.inr rfl) _
  obtain ⟨kw,ko⟩:=keeps_of hu1 (fun k h=>by
   rcases h with h | h
   ·obtain ⟨_,cur,hc⟩:=HX2.out.blk h;exact ⟨_,_,_,hc⟩
   ·exact ⟨_,_,_,by rw [h];exact HX1.out⟩)
  refine ⟨ko.from _,kw,.slice (some ⟨g,0,none⟩) 1 cap',heap_setCell_eq _ HX3.out,?_,by simp,?_⟩
  ·refine O3.out.other ((Upd.refl (fun k=>k=Bx) w3).setCell (p:=⟨Bx,0,none⟩) (fun _=>rfl) _) (fun g' hg' e=>?_);exact OwnH.notBox O3.out HX3.out (by decide) (by rw [hg',e])
  ·refine (HX4.out.then U3.out (fun i hi e=>?_)).setCell (p:=⟨Bx,0,none⟩) (fun h=>by have:=HBX.out;simp at h;omega) _;have:=(HX2.out.blk e).1;omega
 case hdone=>
  rintro D xs W hD hS ⟨v,h1,h2,h3,h4⟩ hk;obtain ⟨A,cap,rfl,hc⟩:=h2.form;obtain ⟨c1,f1⟩:W.cell? ⟨Bx,0,none⟩=some (.slice A xs.length cap)∧W.frozen? ⟨Bx,0,none⟩=false:=by simp [World.cell?,World.frozen?,h1]
  have HX2:=Lib.hid h2;have HX4:=Lib.hid h4;have HK:=Lib.hid hk;have HXS:Hid (xs.length≤1):=hS;have HDD:Hid (w.heap.size<D):=by have:=HS.out;have:=HBX.out;show _<_;omega
  clear h1 h2 h4 hk hS h3 hD;gi_wp2_with fail
  (try simp only [Exit.inBlock,Exit.then])
  refine ⟨by simp,.inl ⟨_,_,rfl,run_takeDeferred HK.out,?_⟩⟩;refine ⟨.slice A xs.length cap,by simp [results,Tryz.f83,go_sem],_,xs,rfl,HXS.out,?_,HX4.out.then (upd_putObj0 W D _) (fun i hi e=>by have:=HDD.out;omega)⟩;refine HX2.out.other (upd_putObj0 W D _) (fun g hg e=>?_);obtain ⟨_,cur,hc⟩:=HX2.out.blk hg;rw [e,HK.out] at hc;cases hc
 case hstop=>exact fun _ _ _ _ _ _ h _=>h.elim
end Go.Proofs.YtmgklblglpplcaaGreatDoor
namespace Go.Proofs.YtmgklblglpplcaaGreatDoor
open Go Go.RowKit Pk
set_option maxRecDepth 100000
theorem len_any (x:Nat) (hx:x≤1) (w:World):Calls Tryz.prog 85 #[.int .u64 (x:Int)] w fun e w'=>(∃k:Int,e=.returned (.int .i64 k))∧w'=w:=by
 have H:=Lib.hid (Tryz.bits_Len64 (x:Int) w (by omega) (by omega));go_enter Tryz.func85,Tryz.ntmps85
 go_wp2_with fail
 refine H.out.mono ?_;rintro e w1 ⟨rfl,rfl⟩;go_wp2_with fail
 go_ret
 exact ⟨⟨_,rfl⟩,rfl⟩
theorem insH_any (A:Option Addr) (n cap:Nat) (hn:n≤1) (f:Value) (w:World):Calls Tryz.prog 117 #[.slice A n cap,.int .i64 0,.int .i64 (n:Int),f] w fun e w'=>e=.returned (.tuple #[])∧w'=w:=by
 have hlt:¬(1:Int)<(n:Int):=by omega
 go_enter Tryz.func117,Tryz.ntmps117
 go_wp2_with fail
 go_loopw [8] (fun i wr=>i=.int .i64 1∧wr=w) (fun _ _=>0)
 case atStart=>exact ⟨rfl,rfl⟩
 case round=>
  obtain ⟨rfl,rfl⟩:=hrel;go_wp2_with fail
  go_end0
  exact ⟨rfl,rfl⟩
theorem pdqH_any (A:Option Addr) (n cap:Nat) (hn:n≤1) (k:Int) (f:Value) (w:World):Calls Tryz.prog 84 #[.slice A n cap,.int .i64 0,.int .i64 (n:Int),.int .i64 k,f] w fun e w'=>e=.returned (.tuple #[])∧w'=w:=by
 have H:=Lib.hid (insH_any A n cap hn f w);have h12:(n:Int)≤12:=by omega
 have hn1:(n:Int)≤1:=by omega
 go_enter Tryz.func84,Tryz.ntmps84
 go_wp2_with fail
 go_loopw [1,2] (fun a b wr=>a=.int .i64 0∧b=.int .i64 (n:Int)∧wr=w) (fun _ _ _=>0)
 case atStart=>exact ⟨rfl,rfl,rfl⟩
 case round=>
  obtain ⟨rfl,rfl,rfl⟩:=hrel;go_wp2_with fail
  refine H.out.mono ?_;rintro e w1 ⟨rfl,rfl⟩;go_wp2_with fail
  refine bodyPost_ret (results_none rfl _ _ _) rfl ?_;exact ⟨rfl,rfl⟩
theorem sortH_any (A:Option Addr) (n cap:Nat) (hn:n≤1) (f:Value) (w:World):Calls Tryz.prog 68 #[.slice A n cap,f] w fun e w'=>e=.returned (.tuple #[])∧w'=w:=by
 have HL:=Lib.hid (len_any n hn w);have HP:=fun k=>Lib.hid (pdqH_any A n cap hn k f w);have hn1:(n:Int)≤1:=by omega
 have hw:IntKind.u64.wrap (n:Int)=(n:Int):=by
  rcases (by omega:n=0∨n=1) with rfl | rfl<;>rfl
 go_enter Tryz.func68,Tryz.ntmps68
 go_wp2_with fail
 refine HL.out.mono ?_;rintro e w1 ⟨⟨k,rfl⟩,rfl⟩;go_wp2_with fail
 refine (HP k).out.mono ?_;rintro e w2 ⟨rfl,rfl⟩;go_wp2_with fail
 go_end0
 exact ⟨rfl,rfl⟩
theorem sortedH_any (M Nb nn:Nat) (X:H32) (f:Value) (w:World) (hN:w.heap[Nb]?=some (.cells #[.map (some M)] 68 (0,0))) (hM:kitHB.At w M nn (oneF X)) :
  Calls Tryz.prog 45 #[.func (.func 69) #[] #[.pointer (some ⟨Nb,0,none⟩)],f] w fun e w'=>(∃v,e=.returned v)∧Upd noBlk w w':=by
 have HA:=Lib.hid (appendSeq_any M Nb nn X w hN hM);clear hN hM;have HC:Hid (Calls Tryz.prog 67 #[.func (.func 69) #[] #[.pointer (some ⟨Nb,0,none⟩)]] w fun e w'=>∃A n cap,e=.returned (.slice A n cap)∧n≤1∧Upd noBlk w w'):=by
  show Calls _ _ _ _ _;go_enter Tryz.func67,Tryz.ntmps67
  go_wp2_with fail
  refine HA.out.mono ?_;rintro e w1 ⟨v,l,rfl,hl,ho,hu⟩;obtain ⟨A,cap,rfl,hc⟩:=ho.form;have HL:=Lib.hid hl;have HU:=Lib.hid hu;clear hl hu ho;go_wp2_with fail
  go_ret
  exact ⟨A,_,cap,rfl,HL.out,HU.out⟩
 go_enter Tryz.func45,Tryz.ntmps45
 go_wp2_with fail
 refine HC.out.mono ?_;rintro e w1 ⟨A,n,cap,rfl,hn,hu⟩;have HU:=Lib.hid hu;have HN:=Lib.hid hn;clear hu hn;go_wp2_with fail
 refine (sortH_any A n cap HN.out f _).mono ?_;rintro e w2 ⟨rfl,rfl⟩;go_wp2_with fail
 go_ret
 exact ⟨⟨_,rfl⟩,HU.out⟩
end Go.Proofs.YtmgklblglpplcaaGreatDoor
namespace Go.Proofs.YtmgklblglpplcaaGreatDoor
open Go Go.RowKit Pk
set_option maxRecDepth 100000
theorem reach3_any {b10 b6 b2 M n:Nat} {f:H32→Option Bytes} {p1 p2 p3 p4:Value} (X:H32) (hf:f X=some [3,0]) (hs:shaH [3,0]=X) (w:World)
  (c1:w.cell? ⟨b10,0,none⟩=some (.func (.func 39) #[] #[p1,p2,p3,p4])) (c2:w.cell? ⟨b6,0,none⟩=some (.map (some M))) (c3:w.rangeAt b2 0 (hashC X)) (hM:kitSrc.At w M n f) :
  Calls Tryz.prog 42 #[.pointer (some ⟨b10,0,none⟩),.pointer (some ⟨b6,0,none⟩),.pointer (some ⟨b2,0,none⟩)] w fun e w'=>e=.returned (.tuple #[])∧Upd noBlk w w':=by
 have C1:=Lib.hid c1;have C2:=Lib.hid c2;have C3:=Lib.hid c3;have HI:=Lib.hid (size_h X);have HD:Hid (Upd noBlk w w.drew):=(Upd.refl noBlk w).drew;have HR:=Lib.hid (root_any X hf hs w.drew (hM.keep HD.out));clear c1 c2 c3 hM hf hs;go_enter Tryz.func42,Tryz.ntmps42
 go_wp2_with fail
 refine wp_region_tree 4 (OT.sures [0,1,2] (.run 3 .nil)) (fun w'=>Upd noBlk w w') (by kernel_rfl) (by kernel_rfl) (fun c a d v w h=>by cases d<;>exact h) HD.out ?_
 simp only [OT.sures];apply wpT_sure rfl rfl
 focus (intro w' hw';have g0:=hw'.cell C1.out id;go_simp;rfl)
 apply wpT_sure rfl rfl
 focus (intro w' hw';have g0:=hw'.cell C2.out id;go_simp;rfl)
 apply wpT_sure rfl rfl
 focus (intro w' hw';exact exec_load_row 36 (.tmp 2) rfl b2 0 (by go_simp) (hashC X) _ (rangeAt_upd C3.out hw') Tryz.underlying36 rfl HI.out)
 generalize w.drew=wd at *;refine wpT_run (fun w'=>Upd noBlk w w') (fun _ h=>h) rfl (fun K' hK=>?_);go_simp
 refine HR.out.mono ?_;rintro e wb ⟨⟨A,cap,rfl⟩,ub⟩;have HUB:=Lib.hid (HD.out.trans ub);refine hK _ _ ⟨HUB.out,?_⟩;clear hK K' ub;refine wpT_nil ?_;go_wp2_with fail
 refine (walk2_any A cap p1 p2 p3 p4 _).mono ?_;rintro e w2 ⟨rfl,rfl⟩;go_wp2_with fail
 go_end0
 exact ⟨rfl,HUB.out⟩
set_option maxHeartbeats 4000000 in
theorem reach_any (l:List (H32 × Bytes)) (hl:l.length≤1000) (X:H32) (hf:srcF l X=some [3,0]) (hs:shaH [3,0]=X) (lv:Value) (w:World) (h:kPk.Rd w lv l) :
  Calls Tryz.prog 21 #[.agg (hashC X).toArray,lv] w fun e w'=>(∃v,e=.returned (.tuple #[v,.int .i64 0]))∧Upd noBlk w w':=by
 have hmf:∀(fn:Fn) (first cap:Array Value) (w:World),(Instr.makeFunc fn first cap).run Tryz.prog w=.ok (.func fn first cap) w:=fun _ _ _ _=>rfl;have hmm:=@run_makeMap Tryz.prog;have hcl:=hashC_len X;have HI:=Lib.hid (size_h X);obtain ⟨wa,hwa⟩:∃wa,wa=w.alloc (.cells (hashC X).toArray 36):=⟨_,rfl⟩;obtain ⟨b2,hb2⟩:∃b2,b2=w.heap.size:=⟨_,rfl⟩;have UA:Hid (Upd noBlk w wa):=by show Upd _ _ _;rw [hwa];exact (Upd.refl _ w).alloc _
 have RA:Hid (wa.heap[b2]?=some (.cells (hashC X).toArray 36 (0,0))):=by show _=_;rw [hwa,hb2];exact heap_alloc_new w _
 have HO:=Lib.hid (open_any lv l hl wa (h.keep UA.out));have HF:=Lib.hid hf;have HS:=Lib.hid hs;clear h hf hs;go_enter Tryz.func21,Tryz.ntmps21
 go_wp2_with fail
 rw [←hwa,←hb2];clear hwa hb2;refine HO.out.mono ?_;rintro e wb ⟨M,n,rfl,hat,hn,ub,_⟩;have UB:=Lib.hid (UA.out.trans ub);have RB:=Lib.hid (ub.heap RA.out id);have AB:=Lib.hid hat;clear hat ub hn RA;go_wp2_with fail
 obtain ⟨N,hN⟩:∃N,N=wb.heap.size:=⟨_,rfl⟩;rw [←hN];obtain ⟨F37,hF37⟩:∃F,F=Value.func (.func 37) #[] #[.pointer (some ⟨N+1+1+1,0,none⟩),.pointer (some ⟨N,0,none⟩)]:=⟨_,rfl⟩;obtain ⟨F39,hF39⟩:∃F,F=Value.func (.func 39) #[] #[.pointer (some ⟨N+1+1+1+1+1,0,none⟩),.pointer (some ⟨N+1+1+1+1,0,none⟩),.pointer (some ⟨N,0,none⟩),.pointer (some ⟨N+1+1+1+1+1+1,0,none⟩)]:=⟨_,rfl⟩;rw [←hF37,←hF39];obtain ⟨w1,hw1⟩:∃w1,w1=wb.alloc (.cells #[.map (some M)] 89):=⟨_,rfl⟩;obtain ⟨w2,hw2⟩:∃w2,w2=w1.alloc (.map #[] 0):=⟨_,rfl⟩;obtain ⟨w3,hw3⟩:∃w3,w3=w2.alloc (.map #[] 0):=⟨_,rfl⟩;obtain ⟨w4,hw4⟩:∃w4,w4=w3.alloc (.cells #[.map (some (N+1))] 68):=⟨_,rfl⟩;obtain ⟨w5,hw5⟩:∃w5,w5=w4.alloc (.cells #[.map (some (N+1+1))] 68):=⟨_,rfl⟩;obtain ⟨w6,hw6⟩:∃w6,w6=w5.alloc (.cells #[F37] 93):=⟨_,rfl⟩;obtain ⟨w7,hw7⟩:∃w7,w7=w6.alloc (.cells #[F39] 94):=⟨_,rfl⟩;have s1:w1.heap.size=N+1:=by rw [hw1,World.size_alloc,hN]
 have s2:w2.heap.size=N+1+1:=by rw [hw2,World.size_alloc,s1]
 have s3:w3.heap.size=N+1+1+1:=by rw [hw3,World.size_alloc,s2]
 have s4:w4.heap.size=N+1+1+1+1:=by rw [hw4,World.size_alloc,s3]
 have s5:w5.heap.size=N+1+1+1+1+1:=by rw [hw5,World.size_alloc,s4]
 have s6:w6.heap.size=N+1+1+1+1+1+1:=by rw [hw6,World.size_alloc,s5]
 have u1:Upd noBlk wb w1:=by rw [hw1];exact (Upd.refl _ _).alloc _
 have u2:Upd noBlk w1 w2:=by rw [hw2];exact (Upd.refl _ _).alloc _
 have u3:Upd noBlk w2 w3:=by rw [hw3];exact (Upd.refl _ _).alloc _
 have u4:Upd noBlk w3 w4:=by rw [hw4];exact (Upd.refl _ _).alloc _
 have u5:Upd noBlk w4 w5:=by rw [hw5];exact (Upd.refl _ _).alloc _
 have u6:Upd noBlk w5 w6:=by rw [hw6];exact (Upd.refl _ _).alloc _
 have u7:Upd noBlk w6 w7:=by rw [hw7];exact (Upd.refl _ _).alloc _
 have b1:w7.heap[N]?=some (.cells #[.map (some M)] 89 (0,0)):=by
  have h:w1.heap[N]?=some (.cells #[.map (some M)] 89 (0,0)):=by rw [hw1,hN];exact heap_alloc_new wb _
  exact u7.heap (u6.heap (u5.heap (u4.heap (u3.heap (u2.heap h id) id) id) id) id) id
 have m1:kitHB.At w7 (N+1) 0 (fun _=>none):=by
  have h:=MapKit.At.made kitHB w1;rw [s1,←hw2] at h;exact ((((h.keep u3).keep u4).keep u5).keep u6).keep u7
 have m2:kitHB.At w7 (N+1+1) 0 (fun _=>none):=by
  have h:=MapKit.At.made kitHB w2;rw [s2,←hw3] at h;exact (((h.keep u4).keep u5).keep u6).keep u7
 have b4:w7.heap[N+1+1+1]?=some (.cells #[.map (some (N+1))] 68 (0,0)):=by
  have h:=heap_alloc_new w3 (.cells #[.map (some (N+1))] 68);rw [s3,←hw4] at h;exact u7.heap (u6.heap (u5.heap h id) id) id
 have b5:w7.heap[N+1+1+1+1]?=some (.cells #[.map (some (N+1+1))] 68 (0,0)):=by
  have h:=heap_alloc_new w4 (.cells #[.map (some (N+1+1))] 68);rw [s4,←hw5] at h;exact u7.heap (u6.heap h id) id
 have b7:w7.heap[N+1+1+1+1+1+1]?=some (.cells #[F39] 94 (0,0)):=by
  have h:=heap_alloc_new w6 (.cells #[F39] 94);rw [s6,←hw7] at h;exact h
 have ub7:Upd noBlk wb w7:=(((((u1.trans u2).trans u3).trans u4).trans u5).trans u6).trans u7;rw [←hw1,←hw2,←hw3,←hw4,←hw5,←hw6,←hw7];have U7:=Lib.hid (UB.out.trans ub7);have A7:=Lib.hid (AB.out.keep ub7);have R7:=Lib.hid (ub7.heap RB.out id);have B1:=Lib.hid b1;have B4:=Lib.hid b4;have B5:=Lib.hid b5;have B7:=Lib.hid b7;have M1:=Lib.hid m1;have M2:=Lib.hid m2;have HG:Hid (∀W,Upd noBlk w7 W→Calls Tryz.prog 42 #[.pointer (some ⟨N+1+1+1+1+1+1,0,none⟩),.pointer (some ⟨N,0,none⟩),.pointer (some ⟨b2,0,none⟩)] W (fun e w'=>e=.returned (.tuple #[])∧Upd noBlk W w')):=fun W hW=>by
  have h7:=hW.heap B7.out id;have h1:=hW.heap B1.out id;have h2:=hW.heap R7.out id;refine reach3_any X HF.out HS.out W (p1:=.pointer (some ⟨N+1+1+1+1+1,0,none⟩)) (p2:=.pointer (some ⟨N+1+1+1+1,0,none⟩)) (p3:=.pointer (some ⟨N,0,none⟩)) (p4:=.pointer (some ⟨N+1+1+1+1+1+1,0,none⟩)) ?_ ?_ (range_row h2) (A7.out.keep hW)
  ·rw [←hF39];simp [World.cell?,h7]
  ·simp [World.cell?,h1]
 have HN:Hid (w.heap.size≤N):=by have:=UB.out.size;show _≤_;omega
 clear hw1 hw2 hw3 hw4 hw5 hw6 hw7 s1 s2 s3 s4 s5 s6 u1 u2 u3 u4 u5 u6 u7 ub7 b1 b4 b5 b7 m1 m2 B7 hF39 hF37 UB RB AB hN UA HO HF HS;refine (guard_any _ _ _ w7 HG.out).mono ?_;rintro e w8 ⟨rfl,u8⟩;have U8:=Lib.hid (U7.out.trans u8);have B48:=Lib.hid (u8.heap B4.out id);have B58:=Lib.hid (u8.heap B5.out id);have M18:=Lib.hid (M1.out.keep u8);have M28:=Lib.hid (M2.out.keep u8);have R8:=Lib.hid (u8.heap R7.out id);clear u8 HG B1 B4 B5 M1 M2 R7 A7 U7;have c4:w8.cell? ⟨N+1+1+1,0,none⟩=some (.map (some (N+1))):=by simp [World.cell?,B48.out]
 have c5:w8.cell? ⟨N+1+1+1+1,0,none⟩=some (.map (some (N+1+1))):=by simp [World.cell?,B58.out]
 go_wp2_with fail
 refine (copyM_any w8 M28.out).mono ?_;rintro e w9 ⟨rfl,u9⟩;have U9:=Lib.hid (U8.out.trans u9);have B49:=Lib.hid (u9.heap B48.out id);have R9:=Lib.hid (range_row (u9.heap R8.out id));obtain ⟨Y,hup,hy1,hy2⟩:=(M18.out.keep u9).put (by unfold maxLen;omega) (a:=X) trivial (v:=true) trivial;have hup':(Instr.mapUpdate 68 (.map (some (N+1))) (.agg (hashC X).toArray) (.bool true)).run Tryz.prog w9=.ok () Y:=hup;have HUY:Hid (Upd noBlk w Y):=U9.out.then hy2 (fun i hi e=>by have:=HN.out;omega);have hby:Y.heap[N+1+1+1]?=some (.cells #[.map (some (N+1))] 68 (0,0)):=hy2.heap B49.out (by omega);have HMY:Hid (kitHB.At Y (N+1) 1 (oneF X)):=by
  have e:oneF X=fun c=>if c=X then some true else none:=rfl;rw [e];exact hy1
 have c9:w9.cell? ⟨N+1+1+1,0,none⟩=some (.map (some (N+1))):=by simp [World.cell?,B49.out]
 have cY:Y.cell? ⟨N+1+1+1,0,none⟩=some (.map (some (N+1))):=by simp [World.cell?,hby]
 clear u9 hup hy1 hy2 hby B48 B58 M18 M28 R8 U8 c4 c5 U9;go_wp2_with (first | (refine wpList_load_mid rfl _ _ rfl b2 0 rfl (hashC X) _ R9.out Tryz.underlying36 rfl HI.out ?_))
 refine (keysB_any (N+1) Y).mono ?_;rintro e wk ⟨rfl,hwk⟩;have HUK:Hid (Upd noBlk Y wk):=by show Upd _ _ _;rw [hwk];exact (Upd.refl _ Y).alloc _
 have HS:=Lib.hid (sortedH_any (N+1) Y.heap.size 1 X (.func (.func 47) #[] #[]) wk (by rw [hwk];exact heap_alloc_new Y _) (HMY.out.keep HUK.out));clear hwk;go_wp2_with fail
 refine HS.out.mono ?_;rintro e wz ⟨⟨v,rfl⟩,uz⟩;have HUZ:=Lib.hid (HUY.out.trans (HUK.out.trans uz));clear uz;go_wp2_with fail
 go_ret2
 exact ⟨⟨v,rfl⟩,HUZ.out⟩
end Go.Proofs.YtmgklblglpplcaaGreatDoor
