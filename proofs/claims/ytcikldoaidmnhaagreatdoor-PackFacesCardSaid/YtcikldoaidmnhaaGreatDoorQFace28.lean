/- Parts: Walks of the reference's meshes: a corner is put into an ordered list; the corners of a list. No condition. Walks of the reference's meshes: edges, how often one occurs. No condition. Walks of the reference's meshes: the corners of a list; whether one is pinched. No condition. Walks of the reference: behind. No condition. -/
import Derived.Test.YtcikldoaidmnhaaGreatDoorQFace11
import Derived.Test.YtcikldoaidmnhaaGreatDoorQFace27
namespace Go.Proofs.YtcikldoaidmnhaaGreatDoor
open Go Go.RowKit Pk
set_option maxRecDepth 100000
def prC (e:Pt × Pt):List Value:=[.int .i64 e.1.1,.int .i64 e.1.2.1,.int .i64 e.1.2.2,.int .i64 e.2.1,.int .i64 e.2.2.1,.int .i64 e.2.2.2]
noncomputable def kPair:Kd Tryz.prog (Pt × Pt):={ T:=201,S:=198,k:=6,bytes:=48,enc:=prC,len:=fun _=>rfl,one:=fun x v hv=>by simp [prC] at hv;rcases hv with rfl | rfl | rfl | rfl | rfl | rfl<;>rfl,pos:=by decide,small:=by decide,und:=Tryz.underlying198,info:=kinfo_of (by kernel_rfl) }
theorem prAt6 {w:World} {b o:Nat} {e:Pt × Pt} (h:kPair.At w b o e):w.cell? ⟨b,o,none⟩=some (.int .i64 e.1.1)∧w.cell? ⟨b,o+1,none⟩=some (.int .i64 e.1.2.1)∧w.cell? ⟨b,o+2,none⟩=some (.int .i64 e.1.2.2)∧w.cell? ⟨b,o+3,none⟩=some (.int .i64 e.2.1)∧w.cell? ⟨b,o+4,none⟩=some (.int .i64 e.2.2.1)∧w.cell? ⟨b,o+5,none⟩=some (.int .i64 e.2.2.2):=
 ⟨h 0 _ rfl,h 1 _ rfl,h 2 _ rfl,h 3 _ rfl,h 4 _ rfl,h 5 _ rfl⟩
theorem row_at {α:Type} {K:Kd Tryz.prog α} {w:World} {b:Nat} {l:List α} {fr:Nat × Nat} {T:TypeId} (h:w.heap[b]?=some (.cells (l.flatMap K.enc).toArray T fr)):∀j (hj:j<l.length),K.At w b (0+j*K.k) l[j]:=fun j hj i v hv=>by
 have hi:i<K.k:=by
  have:=(List.getElem?_eq_some_iff.1 hv).1;rw [K.len] at this;exact this
 rw [Nat.zero_add,cell_of_row _ _ _ _ _ _ h,←Array.getElem?_toList,K.flat_get l j hj i hi];exact hv
set_option maxHeartbeats 2000000 in
theorem hEdges_any (v:Value) (l:List Tri) (hn:l.length≤1000000) (w:World) (h:kTri.Rd w v l) :
  Calls Tryz.prog 126 #[v] w fun en w'=>∃v',en=.returned v'∧kPair.Own w.heap.size w' v' (edgesL l)∧Upd noBlk w w':=by
 obtain ⟨A,cap,rfl,hcap,hx⟩:=h;have HX:=Lib.hid hx;have hn':(l.length:Int)≤1000000:=by omega
 have HLE:Hid (l.length≤1000000):=hn;clear hx hn;go_enter Tryz.func126,Tryz.ntmps126
 go_wp2_with fail
 go_loopw [3,4] (fun o i wr=>∃k:Nat,i=.int .i64 k∧k≤l.length∧kPair.Own w.heap.size wr o (edgesL (l.take k))∧Upd noBlk w wr) (fun _ i _=>l.length-(intOf i).toNat)
 case atStart=>exact ⟨0,rfl,Nat.zero_le _,Kd.Own.nil _ _ _,Upd.refl _ _⟩
 case round=>
  obtain ⟨k,rfl,hk,ho,hu⟩:=hrel;have HO:=Lib.hid ho;have HU:=Lib.hid hu;clear ho hu;by_cases hlt:k<l.length
  ·have hlt':(k:Int)<(l.length:Int):=by omega
   obtain ⟨b,off,rfl,f1⟩:=HX.out (by omega);obtain ⟨g0,g1,g2,g3,g4,g5,g6,g7,g8⟩:=triAt9 ((f1 k hlt).keep HU.out);have hk9:kTri.k=9:=rfl;rw [hk9] at g0 g1 g2 g3 g4 g5 g6 g7 g8;have HT:Hid (edgesL (l.take (k+1))=edgesL (l.take k)++edgesT l[k]):=by show _=_;rw [List.take_succ_eq_append_getElem hlt,edgesL_app]
   have HL:Hid ((edgesL (l.take k)).length=3*k):=by show _=_;rw [edgesL_length,List.length_take];omega
   have HK:Hid (k<l.length):=hlt;clear f1 hk9;generalize l[k]=tk at *;obtain ⟨⟨a0,a1,a2⟩,⟨a3,a4,a5⟩,⟨a6,a7,a8⟩⟩:=tk;simp only at g0 g1 g2 g3 g4 g5 g6 g7 g8;obtain ⟨E,hE⟩:∃E,E=edgesL (l.take k):=⟨_,rfl⟩;rw [←hE] at HO HT HL;clear hE;obtain ⟨A3,c3,rfl,_⟩:=HO.out.form;rw [HL.out] at HO;rw [HL.out];obtain ⟨y,hy⟩:∃y,y=wr.alloc (.cells #[.int .i64 a0,.int .i64 a1,.int .i64 a2,.int .i64 a3,.int .i64 a4,.int .i64 a5,.int .i64 a6,.int .i64 a7,.int .i64 a8] 45):=⟨_,rfl⟩;obtain ⟨tb,htb⟩:∃tb,tb=wr.heap.size:=⟨_,rfl⟩;have hu1:Upd noBlk wr y:=by rw [hy];exact (Upd.refl _ wr).alloc _
   have HZ:Hid (y.heap[tb]?=some (.cells #[.int .i64 a0,.int .i64 a1,.int .i64 a2,.int .i64 a3,.int .i64 a4,.int .i64 a5,.int .i64 a6,.int .i64 a7,.int .i64 a8] 45 (0,0))):=by show _=_;rw [hy,htb];exact heap_alloc_new wr _
   have HU1:=Lib.hid (HU.out.trans hu1);have hu2:Upd noBlk y (y.alloc (.cells #[.int .i64 a0,.int .i64 a1,.int .i64 a2,.int .i64 a3,.int .i64 a4,.int .i64 a5,.int .i64 a3,.int .i64 a4,.int .i64 a5,.int .i64 a6,.int .i64 a7,.int .i64 a8,.int .i64 a6,.int .i64 a7,.int .i64 a8,.int .i64 a0,.int .i64 a1,.int .i64 a2] 201)):=(Upd.refl _ y).alloc _;have ho2:=(HO.out.upd hu1).upd hu2;obtain ⟨g,cap2,w3,r3,o3,v3,_⟩:=ho2.appN (Nat.le_trans HU1.out.size hu2.size) (b:=y.heap.size) (off:=0) (c:=3) (edgesT ((a0,a1,a2),(a3,a4,a5),(a6,a7,a8))) (row_at (K:=kPair) (T:=201) (fr:=(0,0)) (heap_alloc_new y (.cells #[.int .i64 a0,.int .i64 a1,.int .i64 a2,.int .i64 a3,.int .i64 a4,.int .i64 a5,.int .i64 a3,.int .i64 a4,.int .i64 a5,.int .i64 a6,.int .i64 a7,.int .i64 a8,.int .i64 a6,.int .i64 a7,.int .i64 a8,.int .i64 a0,.int .i64 a1,.int .i64 a2] 201))) (by rw [HL.out];have:=HK.out;have:=HLE.out;show 3*k+3<_;omega) (by show 0<3;omega);rw [HL.out] at r3 o3;have R3:Hid ((Builtin.append_ #[198,198] 198 #[.slice A3 (3*k) c3,.slice (some ⟨y.heap.size,0,none⟩) 3 3]).run Tryz.prog (y.alloc (.cells #[.int .i64 a0,.int .i64 a1,.int .i64 a2,.int .i64 a3,.int .i64 a4,.int .i64 a5,.int .i64 a3,.int .i64 a4,.int .i64 a5,.int .i64 a6,.int .i64 a7,.int .i64 a8,.int .i64 a6,.int .i64 a7,.int .i64 a8,.int .i64 a0,.int .i64 a1,.int .i64 a2] 201))=.ok (.slice (some ⟨g,0,none⟩) (3*k+3) cap2) w3):=r3;have O3:=Lib.hid o3;have HU3:=Lib.hid ((HU1.out.trans hu2).then v3 (fun i hi e=>absurd hi (by have:=(HO.out.blk e).1;omega)));clear r3 o3 v3 ho2 hu1 hu2;have hkw:IntKind.i64.wrap ((k:Int)+1)=(k:Int)+1:=wrapN (by omega) (by omega);go_upto_region 6 with fail
   rw [←hy,←htb];clear hy htb g0 g1 g2 g3 g4 g5 g6 g7 g8;obtain ⟨g0,g1,g2,g3,g4,g5,g6,g7,g8⟩:=cells9 HZ.out;go_wp2_with (at_builtin;refine wpList_append_run rfl _ _ _ rfl rfl rfl R3.out ?_)
   refine ⟨⟨k+1,by push_cast;rfl,HK.out,?_,HU3.out⟩,by simp only [intOf];have:=HK.out;omega⟩;rw [HT.out];exact O3.out
  ·obtain rfl:k=l.length:=by omega
   have h2:=HO.out;rw [List.take_length] at h2;have HO2:=Lib.hid h2;clear h2 HO;go_wp2_with fail
   go_ret
   exact ⟨_,rfl,HO2.out,HU.out⟩
theorem eq_pair_ne {a0 a1 a2 a3 a4 a5 b0 b1 b2 b3 b4 b5:Int} (W:World):(Op.equalIn 10000 201 (.agg #[.int .i64 a0,.int .i64 a1,.int .i64 a2,.int .i64 a3,.int .i64 a4,.int .i64 a5]) (.agg #[.int .i64 b0,.int .i64 b1,.int .i64 b2,.int .i64 b3,.int .i64 b4,.int .i64 b5])).run Tryz.prog W=.ok (decide ((((a0,a1,a2),(a3,a4,a5)):Pt × Pt)=((b0,b1,b2),(b3,b4,b5)))) W:=by
 obtain ⟨i,hi⟩:∃i,Tryz.prog.info? 43=some i:=by
  cases h:Tryz.prog.info? 43 with
  | none=>
   have:(Tryz.prog.info? 43).isSome=true:=by kernel_rfl
   rw [h] at this;cases this
  | some i=>exact ⟨i,rfl⟩
 rw [run_equalIn_array W 9999 _ _ Tryz.underlying201 hi];have hc:Tryz.prog.cellsOf 43=3:=by kernel_rfl
 have hr:List.range 2=[0,1]:=rfl;have p0:∀x0 x1 x2 x3 x4 x5:Int,(part 43 #[.int .i64 x0,.int .i64 x1,.int .i64 x2,.int .i64 x3,.int .i64 x4,.int .i64 x5] 0).run Tryz.prog W=.ok (.agg #[.int .i64 x0,.int .i64 x1,.int .i64 x2]) W:=fun _ _ _ _ _ _=>by kernel_rfl
 have p1:∀x0 x1 x2 x3 x4 x5:Int,(part 43 #[.int .i64 x0,.int .i64 x1,.int .i64 x2,.int .i64 x3,.int .i64 x4,.int .i64 x5] 3).run Tryz.prog W=.ok (.agg #[.int .i64 x3,.int .i64 x4,.int .i64 x5]) W:=fun _ _ _ _ _ _=>by kernel_rfl
 have q:=fun x0 x1 x2 y0 y1 y2=>eq_pt 9997 x0 x1 x2 y0 y1 y2 W;simp only [Nat.reduceAdd] at q;have h:decide ((((a0,a1,a2),(a3,a4,a5)):Pt × Pt)=((b0,b1,b2),(b3,b4,b5)))=(decide (((a0,a1,a2):Pt)=(b0,b1,b2))&&decide (((a3,a4,a5):Pt)=(b3,b4,b5))):=by
  rw [Bool.eq_iff_iff,decide_eq_true_iff];simp [and_assoc]
 rw [h,hr,hc];rcases d0:decide (((a0,a1,a2):Pt)=(b0,b1,b2)) with _ | _<;>rcases d1:decide (((a3,a4,a5):Pt)=(b3,b4,b5)) with _ | _<;>simp only [Op.eqItems,Nat.reduceMul,Sem.run_bind,p0,p1,q,Result.andThen_ok,d0,d1,Sem.run_ite,Sem.run_pure,Bool.not_true,Bool.not_false,if_true,Bool.false_eq_true,if_false,Bool.and_true,Bool.and_false]
set_option maxHeartbeats 2000000 in
theorem hcount_any (v:Value) (l:List (Pt × Pt)) (e:Pt × Pt) (hn:l.length≤3000000) (w:World) (h:kPair.Rd w v l) :
  Calls Tryz.prog 127 #[v,.agg (prC e).toArray] w fun en w'=>en=.returned (.int .i64 ((l.count e:Nat):Int))∧Upd noBlk w w':=by
 obtain ⟨R,hR⟩:∃R,R=l.count e:=⟨_,rfl⟩;rw [←hR];have HR:=Lib.hid hR;obtain ⟨A,cap,rfl,hcap,hx⟩:=h;have HX:=Lib.hid hx;have hn':(l.length:Int)≤3000000:=by omega
 obtain ⟨⟨e0,e1,e2⟩,⟨e3,e4,e5⟩⟩:=e;clear hx hR hn;unfold prC;obtain ⟨x0,hx0⟩:∃x0,x0=w.alloc (.cells #[.int .i64 e0,.int .i64 e1,.int .i64 e2,.int .i64 e3,.int .i64 e4,.int .i64 e5] 201):=⟨_,rfl⟩;have HU:Hid (Upd noBlk w x0):=by show Upd _ _ _;rw [hx0];exact (Upd.refl _ w).alloc _
 have HZ:Hid (x0.heap[w.heap.size]?=some (.cells #[.int .i64 e0,.int .i64 e1,.int .i64 e2,.int .i64 e3,.int .i64 e4,.int .i64 e5] 201 (0,0))):=by show _=_;rw [hx0];exact heap_alloc_new w _
 simp only at HR ⊢;go_enter Tryz.func127,Tryz.ntmps127
 go_upto_region 1 with fail
 rw [←hx0];clear hx0;generalize w.heap.size=eb at *;go_wp2_with fail
 go_loopw [5,6] (fun c i wr=>∃k m:Nat,i=.int .i64 k∧c=.int .i64 m∧k≤l.length∧m≤k∧(l.take k).count ((e0,e1,e2),(e3,e4,e5))=m∧Upd noBlk x0 wr) (fun _ i _=>l.length-(intOf i).toNat)
 case atStart=>exact ⟨0,0,rfl,rfl,Nat.zero_le _,Nat.le_refl _,rfl,Upd.refl _ _⟩
 case round=>
  obtain ⟨k,m,rfl,rfl,hk,hmk,hm,hu⟩:=hrel;have HM:=Lib.hid hm;have HV:=Lib.hid hu;have HZR:=Lib.hid (hu.heap HZ.out id);clear hm hu;by_cases hlt:k<l.length
  ·have hlt':(k:Int)<(l.length:Int):=by omega
   obtain ⟨b,off,rfl,f1⟩:=HX.out (by omega);have hat:=f1 k hlt;rw [show kPair.k=6 from rfl] at hat;have HAT:=Lib.hid ((hat.keep HU.out).keep HV.out);have HT:Hid ((l.take (k+1)).count ((e0,e1,e2),(e3,e4,e5))=m+if l[k]=((e0,e1,e2),(e3,e4,e5)) then 1 else 0):=by
    show _=_;rw [List.take_succ_eq_append_getElem hlt,List.count_append,HM.out,List.count_singleton];congr 1
    simp only [beq_iff_eq]
   have HK:Hid (k<l.length∧m≤k):=⟨hlt,hmk⟩;have hkw:IntKind.i64.wrap ((k:Int)+1)=(k:Int)+1:=wrapN (by omega) (by omega);have hmw:IntKind.i64.wrap ((m:Int)+1)=(m:Int)+1:=wrapN (by omega) (by omega);clear hat f1 hk hmk;generalize l[k]=d at *;clear hlt;obtain ⟨⟨d0,d1,d2⟩,⟨d3,d4,d5⟩⟩:=d;by_cases he:(((d0,d1,d2),(d3,d4,d5)):Pt × Pt)=((e0,e1,e2),(e3,e4,e5))
   ·have heq:=fun W=>eq_pair_ne (a0:=d0) (a1:=d1) (a2:=d2) (a3:=d3) (a4:=d4) (a5:=d5) (b0:=e0) (b1:=e1) (b2:=e2) (b3:=e3) (b4:=e4) (b5:=e5) W;simp only [decide_eq_true he] at heq;have h2:=HT.out;rw [if_pos he] at h2;have HT2:=Lib.hid h2;clear he h2 HT;go_wp2_with fail
    refine wp_region_tree 5 (OT.sures [0,1,4,2,3] .nil) (fun w'=>Gr wr w') (by kernel_rfl) (by kernel_rfl) (fun c a d v w h=>by cases d<;>exact h) ((Gr.refl wr).drew) ?_
    simp only [OT.sures]
    iterate 5 (apply wpT_sure rfl rfl;focus (intro w' hw';obtain ⟨g0,g1,g2,g3,g4,g5⟩:=prAt6 (HAT.out.keep hw'.up);obtain ⟨z0,z1,z2,z3,z4,z5⟩:=cells6 (hw'.heap HZR.out id);go_simp;rfl))
    refine wpT_nil ?_;go_wp2_with fail
    exact ⟨⟨k+1,m+1,by push_cast;rfl,by push_cast;rfl,HK.out.1,by have:=HK.out;omega,HT2.out,HV.out.drew⟩,by simp only [intOf];have:=HK.out;omega⟩
   ·have heq:=fun W=>eq_pair_ne (a0:=d0) (a1:=d1) (a2:=d2) (a3:=d3) (a4:=d4) (a5:=d5) (b0:=e0) (b1:=e1) (b2:=e2) (b3:=e3) (b4:=e4) (b5:=e5) W;simp only [decide_eq_false he] at heq;have h2:=HT.out;rw [if_neg he] at h2;have HT2:=Lib.hid h2;clear he h2 HT;go_wp2_with fail
    refine wp_region_tree 5 (OT.sures [0,1,4,2,3] .nil) (fun w'=>Gr wr w') (by kernel_rfl) (by kernel_rfl) (fun c a d v w h=>by cases d<;>exact h) ((Gr.refl wr).drew) ?_
    simp only [OT.sures]
    iterate 5 (apply wpT_sure rfl rfl;focus (intro w' hw';obtain ⟨g0,g1,g2,g3,g4,g5⟩:=prAt6 (HAT.out.keep hw'.up);obtain ⟨z0,z1,z2,z3,z4,z5⟩:=cells6 (hw'.heap HZR.out id);go_simp;rfl))
    refine wpT_nil ?_;go_wp2_with fail
    exact ⟨⟨k+1,m,by push_cast;rfl,rfl,HK.out.1,by have:=HK.out;omega,HT2.out,HV.out.drew⟩,by simp only [intOf];have:=HK.out;omega⟩
  ·obtain rfl:k=l.length:=by omega
   have h2:=HM.out;rw [List.take_length,←HR.out] at h2;have HF:=Lib.hid h2;clear h2;go_wp2_with fail
   go_ret
   exact ⟨by rw [HF.out];rfl,HU.out.trans HV.out⟩
end Go.Proofs.YtcikldoaidmnhaaGreatDoor
namespace Go.Proofs.YtcikldoaidmnhaaGreatDoor
open Go Go.RowKit Pk
set_option maxRecDepth 100000
theorem tw_split {α:Type} (f:α→Bool):∀(l:List α) (k:Nat),k≤l.length→(∀j (hj:j<l.length),j<k→f l[j]=true)→(∀hk:k<l.length,f l[k]=false)→l.takeWhile f=l.take k∧l.dropWhile f=l.drop k
 | [],k,h0,_,_=>by
  obtain rfl:k=0:=by simpa using h0
  exact ⟨rfl,rfl⟩
 | a :: r,0,_,_,h2=>by
  have h:f a=false:=h2 (by simp);rw [List.takeWhile_cons_of_neg (by rw [h];decide),List.dropWhile_cons_of_neg (by rw [h];decide)];exact ⟨rfl,rfl⟩
 | a :: r,k+1,h0,h1,h2=>by
  have ha:f a=true:=h1 0 (by simp) (by omega);obtain ⟨i1,i2⟩:=tw_split f r k (by simpa using h0) (fun j hj hk=>h1 (j+1) (by simpa using hj) (by omega)) (fun hk=>h2 (by simpa using hk));rw [List.takeWhile_cons_of_pos ha,List.dropWhile_cons_of_pos ha,i1,i2];exact ⟨rfl,rfl⟩
theorem withP_at {l:List Pt} {p:Pt} {k:Nat} (hk:k≤l.length) (h1:∀j (hj:j<l.length),j<k→ptLt l[j] p=true) (h2:∀hk:k<l.length,ptLt l[k] p=false):withP l p=if l[k]?=some p then l else l.take k++[p]++l.drop k:=by
 obtain ⟨e1,e2⟩:=tw_split (fun q=>ptLt q p) l k hk h1 h2;unfold withP;rw [e1,e2,List.head?_drop,List.append_assoc];rfl
theorem Kd.Own.appR {α:Type} {K:Kd Tryz.prog α} {base:Nat} {w:World} {v:Value} {l:List α} (h:K.Own base w v l) (hb:base≤w.heap.size) {A:Option Addr} {c:Nat} {m:List α} (hm:K.Rd w (.slice A m.length c) m) (hl:l.length+m.length<4294967296) :
  ∃A' cap w',(Builtin.append_ #[K.S,K.S] K.S #[v,.slice A m.length c]).run Tryz.prog w=.ok (.slice A' (l.length+m.length) cap) w'∧K.Own base w' (.slice A' (l.length+m.length) cap) (l++m)∧Upd (fun k=>v.ownBlock=some k) w w':=by
 obtain ⟨A2,c2,e,_,hx⟩:=hm;cases e;rcases Nat.eq_zero_or_pos m.length with h0 | h0
 ·have hm0:m=[]:=List.eq_nil_of_length_eq_zero h0;subst hm0;obtain ⟨Av,cv,rfl,hcv⟩:=h.form;exact ⟨Av,cv,w,h.app0 A _,by rw [List.append_nil];exact h,Upd.refl _ _⟩
 ·obtain ⟨b,off,rfl,hat⟩:=hx h0;obtain ⟨g,cap,w',r,o,u,_⟩:=h.appN hb m hat hl h0;exact ⟨_,_,_,r,o,u⟩
def dropV (A:Option Addr) (n cap k s:Nat):Value:=.slice (if cap=k then A else A.map (fun a=>a.add (k*s))) (n-k) (cap-k)
theorem Kd.Rd.dropV {α:Type} {K:Kd Tryz.prog α} {w:World} {A:Option Addr} {n cap:Nat} {l:List α} (h:K.Rd w (.slice A n cap) l) (k:Nat) (hk:k≤l.length):K.Rd w (dropV A n cap k K.k) (l.drop k):=by
 obtain ⟨A2,c2,e,hc,hx⟩:=h;cases e;refine ⟨_,_,by rw [List.length_drop];rfl,by rw [List.length_drop];omega,fun h0=>?_⟩;rw [List.length_drop] at h0;obtain ⟨b,off,rfl,hat⟩:=hx (by omega);refine ⟨b,off+k*K.k,?_,fun j hj=>?_⟩
 ·rw [if_neg (by omega)];show some (Addr.add _ _)=some _;rw [Addr.add_mid]
 ·rw [List.getElem_drop];have h2:=hat (k+j) (by rw [List.length_drop] at hj;omega);rw [Nat.add_mul,←Nat.add_assoc] at h2;exact h2
theorem Kd.Rd.takeV {α:Type} {K:Kd Tryz.prog α} {w:World} {A:Option Addr} {n cap:Nat} {l:List α} (h:K.Rd w (.slice A n cap) l) (k:Nat) (hk:k≤l.length):K.Rd w (.slice A k cap) (l.take k):=by
 obtain ⟨A2,c2,e,hc,hx⟩:=h;cases e;refine ⟨_,_,by rw [List.length_take,Nat.min_eq_left hk],by rw [List.length_take];omega,fun h0=>?_⟩;rw [List.length_take] at h0;obtain ⟨b,off,rfl,hat⟩:=hx (by omega);refine ⟨b,off,rfl,fun j hj=>?_⟩;rw [List.getElem_take];exact hat j (by rw [List.length_take] at hj;omega)
set_option maxHeartbeats 2000000 in
theorem hWith_any (v:Value) (l:List Pt) (p:Pt) (hn:l.length≤3000000) (w:World) (h:kPt.Rd w v l) :
  Calls Tryz.prog 156 #[v,ptV p] w fun en w'=>∃v',en=.returned v'∧kPt.Rd w' v' (withP l p)∧Upd noBlk w w':=by
 have hl:=fun a b W=>Lib.hid (oLess_any a b W);have HRD:=Lib.hid h;obtain ⟨A,cap,rfl,hcap,hx⟩:=h;have HX:=Lib.hid hx;have HN:Hid (l.length≤3000000):=hn;have hn':(l.length:Int)≤3000000:=by omega
 have hcap':(l.length:Int)≤(cap:Int):=by omega
 obtain ⟨R,hR⟩:∃R,R=withP l p:=⟨_,rfl⟩;rw [←hR];have HW:Hid (∀k,k≤l.length→(∀j (hj:j<l.length),j<k→ptLt l[j] p=true)→(∀h:k<l.length,ptLt l[k] p=false)→R=if l[k]?=some p then l else l.take k++[p]++l.drop k):=fun k h0 h1 h2=>hR.trans (withP_at h0 h1 h2);clear hR hx hn hcap;obtain ⟨p0,p1,p2⟩:=p;unfold ptV;obtain ⟨x0,hx0⟩:∃x0,x0=w.alloc (.cells #[.int .i64 p0,.int .i64 p1,.int .i64 p2] 43):=⟨_,rfl⟩;have HU:Hid (Upd noBlk w x0):=by show Upd _ _ _;rw [hx0];exact (Upd.refl _ w).alloc _
 have HZ:Hid (x0.heap[w.heap.size]?=some (.cells #[.int .i64 p0,.int .i64 p1,.int .i64 p2] 43 (0,0))):=by show _=_;rw [hx0];exact heap_alloc_new w _
 obtain ⟨pb,hpb⟩:∃pb,pb=w.heap.size:=⟨_,rfl⟩;rw [←hpb] at HZ;go_enter Tryz.func156,Tryz.ntmps156
 go_upto_region 1 with fail
 rw [←hx0,←hpb];clear hx0 hpb;go_upto_block 0 with fail
 go_cut [5,6] (fun i _ wc=>∃k:Nat,i=.int .i64 k∧k≤l.length∧R=(if l[k]?=some (p0,p1,p2) then l else l.take k++[(p0,p1,p2)]++l.drop k)∧Upd noBlk x0 wc)
 case first=>
  go_wp2_with fail
  go_loopw [5,6] (fun i _ wr=>∃k:Nat,i=.int .i64 k∧k≤l.length∧(∀j (hj:j<l.length),j<k→ptLt l[j] (p0,p1,p2)=true)∧Upd noBlk x0 wr) (fun i _ _=>l.length-(intOf i).toNat)
  case atStart=>exact ⟨0,rfl,Nat.zero_le _,fun j _ h=>absurd h (Nat.not_lt_zero _),Upd.refl _ _⟩
  case round=>
   obtain ⟨k,rfl,hk,hb,hu⟩:=hrel;have HB:=Lib.hid hb;have HV:=Lib.hid hu;have HZR:=Lib.hid (hu.heap HZ.out id);clear hb hu;by_cases hlt:k<l.length
   ·have hlt':(k:Int)<(l.length:Int):=by omega
    obtain ⟨b,off,rfl,f1⟩:=HX.out (by omega);have hc:=((f1 k hlt).keep HU.out).keep HV.out;rw [show kPt.k=3 from rfl] at hc;have HC:=Lib.hid hc;have HST:Hid (ptLt l[k] (p0,p1,p2)=false→R=(if l[k]?=some (p0,p1,p2) then l else l.take k++[(p0,p1,p2)]++l.drop k)):=fun h=>HW.out k (by omega) HB.out (fun _=>h);have HGO:Hid (ptLt l[k] (p0,p1,p2)=true→∀j (hj:j<l.length),j<k+1→ptLt l[j] (p0,p1,p2)=true):=fun h j hj hjk=>by
     rcases (by omega:j<k∨j=k) with h' | rfl
     ·exact HB.out j hj h'
     ·exact h
    have HK:Hid (k<l.length):=hlt;have hkw:IntKind.i64.wrap ((k:Int)+1)=(k:Int)+1:=wrapN (by omega) (by omega);clear f1 hc hk;generalize l[k]=q at *;clear hlt;obtain ⟨q0,q1,q2⟩:=q;have HLT:=Lib.hid (hl (q0,q1,q2) (p0,p1,p2) wr.drew);go_wp2_with fail
    refine wp_region_tree 5 (OT.sures [0,1,4,2,3] .nil) (fun w'=>Gr wr w') (by kernel_rfl) (by kernel_rfl) (fun c a d v w h=>by cases d<;>exact h) ((Gr.refl wr).drew) ?_
    simp only [OT.sures]
    iterate 5 (apply wpT_sure rfl rfl;focus (intro w' hw';obtain ⟨⟨z0,z1,z2⟩,_⟩:=cellsF3 (hw'.heap HZR.out id);obtain ⟨d0,d1,d2⟩:=ptAt3 (HC.out.keep hw'.up);go_simp;rfl))
    refine wpT_nil ?_;unfold ptV at HLT;go_wp2_with fail
    refine HLT.out.mono ?_;rintro e w2 ⟨rfl,u2⟩;have U2:=Lib.hid (HV.out.trans ((Upd.refl noBlk wr).drew.trans u2));clear u2 HLT HC HV HZR;rcases hlt9:ptLt (q0,q1,q2) (p0,p1,p2) with _ | _
    ·have HF:=Lib.hid (HST.out hlt9);clear hlt9 HST HGO;go_wp2_with fail
     go_meet
     exact ⟨k,rfl,Nat.le_of_lt HK.out,HF.out,U2.out⟩
    ·have HF:=Lib.hid (HGO.out hlt9);clear hlt9 HST HGO;go_wp2_with fail
     go_roundw
     case rel=>exact ⟨k+1,by push_cast;rfl,HK.out,HF.out,U2.out⟩
     case measure=>simp only [intOf];have:=HK.out;omega
   ·obtain rfl:k=l.length:=by omega
    have HF:=Lib.hid (HW.out l.length (Nat.le_refl _) HB.out (fun h=>absurd h (Nat.lt_irrefl _)));clear HW HB;go_wp2_with fail
    go_meet
    exact ⟨_,rfl,Nat.le_refl _,HF.out,HV.out⟩
 case rest=>
  obtain ⟨k,rfl,hk,hr,hu⟩:=hcut;have HR:=Lib.hid hr;have HV:=Lib.hid hu;have HZR:=Lib.hid (hu.heap HZ.out id);have HK:Hid (k≤l.length):=hk;have hkI:(k:Int)≤(l.length:Int):=by omega
  have hkc:(k:Int)≤(cap:Int):=by omega
  clear HW hr hu hl;go_upto_region 6 with fail
  go_cut [33] (fun c wx=>wx=wc.drew∧c=.bool (decide (l[k]?=some (p0,p1,p2))))
  case first=>
   by_cases hlt:k<l.length
   ·have hlt':(k:Int)<(l.length:Int):=by omega
    obtain ⟨b,off,rfl,f1⟩:=HX.out (by omega);have hc:=((f1 k hlt).keep HU.out).keep HV.out;rw [show kPt.k=3 from rfl] at hc;have HC:=Lib.hid hc;have HE:Hid (l[k]?=some l[k]):=List.getElem?_eq_getElem hlt;clear f1 hc hk;generalize l[k]=q at *;clear hlt;obtain ⟨q0,q1,q2⟩:=q;refine wp_region_tree 11 (OT.sures [0,1,2,3,4,5,6,7,8,9,10] .nil) (fun w'=>Gr wc w') (by kernel_rfl) (by kernel_rfl) (fun c a d v w h=>by cases d<;>exact h) ((Gr.refl wc).drew) ?_
    simp only [OT.sures]
    iterate 5 (apply wpT_sure rfl rfl;focus (intro w' hw';go_simp;rfl))
    iterate 5 (refine wpT_sureG rfl (by go_simp) _ (fun w' hw'=>by obtain ⟨⟨z0,z1,z2⟩,_⟩:=cellsF3 (hw'.heap HZR.out id);obtain ⟨d0,d1,d2⟩:=ptAt3 (HC.out.keep hw'.up);go_simp;rfl) ?_)
    by_cases he:((q0,q1,q2):Pt)=(p0,p1,p2)
    ·cases he;refine wpT_sureG rfl (by go_simp) (.bool true) (fun w' hw'=>by go_simp;try rfl) ?_;refine wpT_nil ?_;go_wp2_with fail
     go_meet
     exact ⟨rfl,by rw [decide_eq_true HE.out]⟩
    ·refine wpT_sureG rfl (by go_simp) (.bool false) (fun w' hw'=>by rcases pt_ne he with e0 | ⟨rfl,e1⟩ | ⟨rfl,rfl,e2⟩<;>(go_simp;try rfl)) ?_
     refine wpT_nil ?_;go_wp2_with fail
     go_meet
     exact ⟨rfl,by rw [HE.out,decide_eq_false (fun h=>he (Option.some.inj h))]⟩
   ·obtain rfl:k=l.length:=by omega
    refine wp_region_tree 11 (OT.sures [0,1,2,3,4,5,6,7,8,9,10] .nil) (fun w'=>Gr wc w') (by kernel_rfl) (by kernel_rfl) (fun c a d v w h=>by cases d<;>exact h) ((Gr.refl wc).drew) ?_
    simp only [OT.sures]
    iterate 5 (apply wpT_sure rfl rfl;focus (intro w' hw';go_simp;rfl))
    iterate 6 (refine wpT_skip rfl (by go_simp) ?_)
    refine wpT_nil ?_;go_wp2_with fail
    go_meet
    exact ⟨rfl,by rw [decide_eq_false (by simp)]⟩
  case rest=>
   obtain ⟨hwx,rfl⟩:=hcut;have hvx:Upd noBlk x0 wc:=by rw [hwx];exact HV.out.drew
   have HVX:=Lib.hid hvx;have HZX:=Lib.hid (hvx.heap HZ.out id);have HRX:=Lib.hid ((HRD.out.keep HU.out).keep hvx);have HUX:=Lib.hid (HU.out.trans hvx);clear hwx hvx HV HZR HX;by_cases hh:l[k]?=some (p0,p1,p2)
   ·have HF:Hid (R=l):=by show _=_;rw [HR.out,if_pos hh]
    rw [decide_eq_true hh];clear hh;go_wp2_with fail
    go_ret
    exact ⟨_,rfl,by rw [HF.out];exact HRX.out,HUX.out⟩
   ·have HF:Hid (R=l.take k++[(p0,p1,p2)]++l.drop k):=by show _=_;rw [HR.out,if_neg hh]
    rw [decide_eq_false hh];clear hh HR;have hlt:(l.take k).length=k:=by rw [List.length_take,Nat.min_eq_left HK.out]
    have hr1:kPt.Rd wc (.slice A (l.take k).length cap) (l.take k):=by
     have h:=HRX.out.takeV k HK.out;rw [←congrArg (fun n=>Value.slice A n cap) hlt] at h;exact h
    obtain ⟨A1,c1,w1,r1,o1,v1⟩:=(Kd.Own.nil kPt wc.heap.size wc).appR (Nat.le_refl _) hr1 (by rw [hlt];have:=HN.out;have:=HK.out;simp only [List.length_nil];omega);simp only [List.length_nil,Nat.zero_add,List.nil_append,hlt] at r1 o1;have R1:=Lib.hid r1;have v1':Upd noBlk wc w1:=v1.mono (fun i _ e=>by cases e);have HZ1:=Lib.hid (v1'.heap HZX.out id);have HR1:=Lib.hid (HRX.out.keep v1');have HU1:=Lib.hid (HUX.out.trans v1');obtain ⟨g2,c2,w2,r2,o2,v2,_⟩:=o1.app1 v1'.size (p0,p1,p2) (by rw [hlt];have:=HN.out;have:=HK.out;omega);rw [hlt] at r2 o2;have R2:=Lib.hid r2;have v2':Upd noBlk wc w2:=v1'.then v2 (fun i hi e=>absurd hi (by have:=(o1.blk e).1;omega));have hdr:=HRX.out.keep v2';have hdr2:=hdr.dropV k HK.out;have hld:(l.drop k).length=l.length-k:=List.length_drop;have hk3:kPt.k=3:=rfl;rw [hk3] at hdr2;have HU2:=Lib.hid (HUX.out.trans v2');have e2:dropV A l.length cap k 3=.slice (if cap=k then A else A.map (fun a=>a.add (k*3))) (l.drop k).length (cap-k):=by unfold dropV;rw [hld]
    rw [e2] at hdr2;have hl2:(l.take k++[(p0,p1,p2)]).length=k+1:=by rw [List.length_append,hlt];rfl
    rw [←hl2] at o2;obtain ⟨A3,c3,w3,r3,o3,v3⟩:=o2.appR v2'.size hdr2 (by rw [hl2,hld];have:=HN.out;have:=HK.out;omega);rw [hl2,hld] at r3;have HU3:=Lib.hid (HU2.out.then v3 (fun i hi e=>absurd hi (by have:=(o2.blk e).1;have:=HUX.out.size;omega)));have R3:=Lib.hid r3;have HO3:Hid (kPt.Rd w3 (.slice A3 (k+1+(l.length-k)) c3) R):=by
     show Kd.Rd _ _ _ _;have h:=o3.rd;rw [hl2,hld] at h;rw [HF.out];exact h
    clear r1 o1 v1 r2 o2 v2 r3 o3 v3 hdr hdr2 hr1 hld hlt hl2 e2 hk3 v1' v2' HF HRX;obtain ⟨z0,z1,z2⟩:=cells3 HZ1.out;go_upto_region 10 with (at_builtin;refine wpList_append_run rfl _ _ _ rfl rfl rfl R1.out ?_)
    go_upto_region 11 with (at_builtin;refine wpList_append_run rfl _ _ _ rfl rfl rfl R2.out ?_)
    have hk0:(0:Int)≤(k:Int):=by omega
    clear z0 z1 z2 R1 R2 HZ1 HZX HZ HR1 HU1 HRD HU HUX;by_cases hc:cap=k
    ·subst hc;simp only [if_true] at R3;cases A with
     | none=>
      go_wp2_with (at_builtin;refine wpList_append_run rfl _ _ _ rfl rfl rfl R3.out ?_)
      go_ret
      exact ⟨_,rfl,HO3.out,HU3.out⟩
     | some a=>
      go_wp2_with (at_builtin;refine wpList_append_run rfl _ _ _ rfl rfl rfl R3.out ?_)
      go_ret
      exact ⟨_,rfl,HO3.out,HU3.out⟩
    ·simp only [if_neg hc] at R3;cases A with
     | none=>
      simp only [Option.map_none] at R3;go_wp2_with (at_builtin;refine wpList_append_run rfl _ _ _ rfl rfl rfl R3.out ?_)
      go_ret
      exact ⟨_,rfl,HO3.out,HU3.out⟩
     | some a=>
      simp only [Option.map_some] at R3;go_wp2_with (at_builtin;refine wpList_append_run rfl _ _ _ rfl rfl rfl R3.out ?_)
      go_ret
      exact ⟨_,rfl,HO3.out,HU3.out⟩
end Go.Proofs.YtcikldoaidmnhaaGreatDoor
namespace Go.Proofs.YtcikldoaidmnhaaGreatDoor
open Go Go.RowKit Pk
set_option maxRecDepth 100000
set_option maxHeartbeats 4000000 in
theorem hbehind_any (v:Value) (l:List Tri) (p q:Pt) (hn:l.length≤1000000) (w:World) (h:kTri.Rd w v l):Calls Tryz.prog 157 #[v,ptV p,ptV q] w fun en w'=>en=.returned (.tuple #[ptV ((third l p q).getD p),.bool (third l p q).isSome])∧Upd noBlk w w':=by
 obtain ⟨A,cap,rfl,hcap,hx⟩:=h;obtain ⟨R,hR⟩:∃R,R=third l p q:=⟨_,rfl⟩;rw [←hR];have HR:=Lib.hid hR;have HX:=Lib.hid hx;have hn':(l.length:Int)≤1000000:=by omega
 obtain ⟨p0,p1,p2⟩:=p;obtain ⟨q0,q1,q2⟩:=q;clear hx hR hn;obtain ⟨w1,hw1⟩:∃w1,w1=((w.alloc (.cells #[.int .i64 p0,.int .i64 p1,.int .i64 p2] 43)).alloc (.cells #[.int .i64 q0,.int .i64 q1,.int .i64 q2] 43)).alloc (.cells #[.int .i64 0,.int .i64 0,.int .i64 0] 43):=⟨_,rfl⟩;have HU:Hid (Upd noBlk w w1):=by show Upd _ _ _;rw [hw1];exact (((Upd.refl _ w).alloc _).alloc _).alloc _
 have HP:Hid (w1.heap[w.heap.size]?=some (.cells #[.int .i64 p0,.int .i64 p1,.int .i64 p2] 43 (0,0))):=by show _=_;rw [hw1];exact (((Upd.refl noBlk _).alloc _).alloc _).heap (heap_alloc_new w _) id
 have HQ:Hid (w1.heap[w.heap.size+1]?=some (.cells #[.int .i64 q0,.int .i64 q1,.int .i64 q2] 43 (0,0))):=by
  show _=_;rw [hw1,←World.size_alloc w (.cells #[.int .i64 p0,.int .i64 p1,.int .i64 p2] 43)];exact ((Upd.refl noBlk _).alloc _).heap (heap_alloc_new _ _) id
 have HZ:Hid (w1.heap[w.heap.size+1+1]?=some (.cells #[.int .i64 0,.int .i64 0,.int .i64 0] 43 (0,0))):=by
  show _=_;rw [hw1,←World.size_alloc w (.cells #[.int .i64 p0,.int .i64 p1,.int .i64 p2] 43),←World.size_alloc _ (.cells #[.int .i64 q0,.int .i64 q1,.int .i64 q2] 43)];exact heap_alloc_new _ _
 obtain ⟨qb,hqb⟩:∃qb,qb=w.heap.size+1:=⟨_,rfl⟩;obtain ⟨rb,hrb⟩:∃rb,rb=w.heap.size+1+1:=⟨_,rfl⟩;have HRB:Hid (w.heap.size≤rb):=by show _≤_;omega
 obtain ⟨pb,hpb⟩:∃pb,pb=w.heap.size:=⟨_,rfl⟩;rw [←hrb] at HZ;rw [←hqb] at HQ;rw [←hpb] at HP;unfold ptV;go_enter Tryz.func157,Tryz.ntmps157
 go_upto_region 1 with fail
 rw [←hw1,←hrb,←hqb,←hpb];clear hw1 hrb hqb hpb;go_wp2_with fail
 go_loopw [8] (fun i wr=>∃k:Nat,i=.int .i64 k∧k≤l.length∧third (l.take k) (p0,p1,p2) (q0,q1,q2)=none∧Upd noBlk w1 wr) (fun i _=>l.length-(intOf i).toNat)
 case atStart=>exact ⟨0,rfl,Nat.zero_le _,rfl,Upd.refl _ _⟩
 case round=>
  obtain ⟨k,rfl,hk,ht,hu⟩:=hrel;have HT:=Lib.hid ht;have HV:=Lib.hid hu;clear ht hu;by_cases hlt:k<l.length
  ·have hlt':(k:Int)<(l.length:Int):=by omega
   obtain ⟨b,off,rfl,f1⟩:=HX.out (by omega);have hat:=f1 k hlt;rw [show kTri.k=9 from rfl] at hat;have HAT:=Lib.hid (hat.keep HU.out);have HHIT:Hid (∀j,j<3→(∀i,i<j→¬edgeAt l[k] (p0,p1,p2) (q0,q1,q2) i)→edgeAt l[k] (p0,p1,p2) (q0,q1,q2) j→R=some (cornAt l[k] ((j+2) % 3))):=fun j hj h1 h2=>HR.out.trans (third_hit hlt hj HT.out h1 h2);have HSKP:Hid ((∀i,i<3→¬edgeAt l[k] (p0,p1,p2) (q0,q1,q2) i)→third (l.take (k+1)) (p0,p1,p2) (q0,q1,q2)=none):=fun h1=>third_skip hlt HT.out h1;have HK:Hid (k<l.length):=hlt;clear hat f1 hk;generalize l[k]=t at *;clear hlt;have hkw:IntKind.i64.wrap ((k:Int)+1)=(k:Int)+1:=wrapN (by omega) (by omega);go_wp2_with fail
   go_loopw [9] (fun i wz=>∃j:Nat,i=.int .i64 j∧j≤3∧(∀i,i<j→¬edgeAt t (p0,p1,p2) (q0,q1,q2) i)∧Upd noBlk w1 wz) (fun i _=>3-(intOf i).toNat)
   case atStart=>exact ⟨0,rfl,Nat.zero_le _,fun i hi=>absurd hi (Nat.not_lt_zero _),HV.out⟩
   case round=>
    obtain ⟨j,rfl,hj,hne,hu⟩:=hrel;have HNE:=Lib.hid hne;have HV:=Lib.hid hu;have HPZ:=Lib.hid (hu.heap HP.out id);have HQZ:=Lib.hid (hu.heap HQ.out id);have HZZ:=Lib.hid (hu.heap HZ.out id);have HA:=Lib.hid (HAT.out.keep hu);clear hne hu;by_cases hj3:j<3
    ·have hj3':(j:Int)<3:=by omega
     obtain ⟨j1,hj1⟩:∃j1,j1=(j+1) % 3:=⟨_,rfl⟩;obtain ⟨j2,hj2⟩:∃j2,j2=(j+2) % 3:=⟨_,rfl⟩;have hw1':IntKind.i64.wrap ((j:Int)+1)=(j:Int)+1:=wrapN (by omega) (by omega);have hw2':IntKind.i64.wrap ((j:Int)+2)=(j:Int)+2:=wrapN (by omega) (by omega);have ht1:((j:Int)+1).tmod 3=(j1:Int):=by rw [Int.tmod_eq_emod_of_nonneg (by omega)];omega
     have ht2:((j:Int)+2).tmod 3=(j2:Int):=by rw [Int.tmod_eq_emod_of_nonneg (by omega)];omega
     have he1:((j:Int)+1) % 3=(j1:Int):=by omega
     have he2:((j:Int)+2) % 3=(j2:Int):=by omega
     have hjl1:(j1:Int)<3:=by omega
     have hjl2:(j2:Int)<3:=by omega
     have HJ:Hid (j<3):=hj3;have HC0:=Lib.hid (tri_corner HA.out hj3);have HC1:=Lib.hid (tri_corner (c:=j1) HA.out (by omega));have HC2:=Lib.hid (tri_corner (c:=j2) HA.out (by omega));have HH:Hid (cornAt t j=(p0,p1,p2)→cornAt t j1=(q0,q1,q2)→R=some (cornAt t j2)):=fun h1 h2=>by rw [hj2];exact HHIT.out j hj3 HNE.out ⟨h1,by rw [←hj1];exact h2⟩
     have HN:Hid (¬(cornAt t j=(p0,p1,p2)∧cornAt t j1=(q0,q1,q2))→∀i,i<j+1→¬edgeAt t (p0,p1,p2) (q0,q1,q2) i):=fun h1 i hi=>by
      by_cases e:i=j
      ·subst e;intro h2;exact h1 ⟨h2.1,by rw [hj1];exact h2.2⟩
      ·exact HNE.out i (by omega)
     clear hj1 hj2 hj hj3;generalize cornAt t j=c at *;generalize cornAt t j1=d at *;generalize cornAt t j2=e at *;obtain ⟨c0,c1,c2⟩:=c;obtain ⟨d0,d1,d2⟩:=d;obtain ⟨e0,e1,e2⟩:=e;simp only at HC0 HC1 HC2;have hmem:∀w',Gr wr w'→(w'.cell? ⟨b,off+k*9+j*3,none⟩=some (.int .i64 c0)∧w'.cell? ⟨b,off+k*9+j*3+1,none⟩=some (.int .i64 c1)∧w'.cell? ⟨b,off+k*9+j*3+2,none⟩=some (.int .i64 c2))∧(w'.cell? ⟨b,off+k*9+j1*3,none⟩=some (.int .i64 d0)∧w'.cell? ⟨b,off+k*9+j1*3+1,none⟩=some (.int .i64 d1)∧w'.cell? ⟨b,off+k*9+j1*3+2,none⟩=some (.int .i64 d2)):=fun w' hw'=>
      ⟨⟨hw'.cell HC0.out.1 id,hw'.cell HC0.out.2.1 id,hw'.cell HC0.out.2.2 id⟩,⟨hw'.cell HC1.out.1 id,hw'.cell HC1.out.2.1 id,hw'.cell HC1.out.2.2 id⟩⟩
     have HM:=Lib.hid hmem;clear hmem;go_wp2_with fail
     refine wp_region_tree 19 (OT.sures [0,1,2,6,3,4,5,7,8,9,10,11,12,13,14,15,16,17,18] .nil) (fun w'=>Gr wr w') (by kernel_rfl) (by kernel_rfl) (fun c a d v w h=>by cases d<;>exact h) ((Gr.refl wr).drew) ?_
     simp only [OT.sures]
     iterate 7 (apply wpT_sure rfl rfl;focus (intro w' hw';obtain ⟨⟨m0,m1,m2⟩,⟨n0,n1,n2⟩⟩:=HM.out w' hw';obtain ⟨⟨x0,x1,x2⟩,_⟩:=cellsF3 (hw'.heap HPZ.out id);obtain ⟨⟨y0,y1,y2⟩,_⟩:=cellsF3 (hw'.heap HQZ.out id);go_simp;rfl))
     by_cases hc:((c0,c1,c2):Pt)=(p0,p1,p2)
     ·have HD:Hid (((d0,d1,d2):Pt)=(q0,q1,q2)→R=some (e0,e1,e2)):=fun hd=>HH.out hc hd;have HDN:Hid (¬((d0,d1,d2):Pt)=(q0,q1,q2)→∀i,i<j+1→¬edgeAt t (p0,p1,p2) (q0,q1,q2) i):=fun hd=>HN.out (fun h=>hd h.2);clear HH HN;cases hc;refine wpT_sure rfl rfl (.bool true) (fun w' hw'=>by go_simp;try rfl) ?_;apply wpT_sure rfl rfl;focus (intro w' hw';go_simp;rfl)
      iterate 9 (refine wpT_sureG rfl (by go_simp) _ (fun w' hw'=>by obtain ⟨⟨m0,m1,m2⟩,⟨n0,n1,n2⟩⟩:=HM.out w' hw';obtain ⟨⟨x0,x1,x2⟩,_⟩:=cellsF3 (hw'.heap HPZ.out id);obtain ⟨⟨y0,y1,y2⟩,_⟩:=cellsF3 (hw'.heap HQZ.out id);go_simp;rfl) ?_)
      by_cases hd:((d0,d1,d2):Pt)=(q0,q1,q2)
      ·have HF:=Lib.hid (HD.out hd);clear HD HDN;cases hd;refine wpT_sureG rfl (by go_simp) (.bool true) (fun w' hw'=>by go_simp;try rfl) ?_;refine wpT_nil ?_;obtain ⟨r0,r1,r2⟩:=HC2.out;obtain ⟨_,⟨f0,f1,f2⟩⟩:=cellsF3 HZZ.out;obtain ⟨⟨z0,z1,z2⟩,_⟩:=cellsF3 HZZ.out;go_wp2_with fail
       have HS:=set3 (y0:=.int .i64 e0) (y1:=.int .i64 e1) (y2:=.int .i64 e2) HZZ.out;have HUS:=upd3 (HU.out.trans HV.out) HRB.out (.int .i64 e0) (.int .i64 e1) (.int .i64 e2)
       (try simp only [Exit.inBlock,Exit.then])
       refine bodyPost_ret (results_ct rfl _ rfl (load_pt (by exact HS))) rfl ?_;exact ⟨by rw [HF.out];rfl,HUS.drew⟩
      ·have HNX:=Lib.hid (HDN.out hd);clear HD HDN HC2;refine wpT_sureG rfl (by go_simp) (.bool false) (fun w' hw'=>by rcases pt_ne hd with e0 | ⟨rfl,e1⟩ | ⟨rfl,rfl,e2⟩<;>(go_simp;try rfl)) ?_
       clear hd;refine wpT_nil ?_;go_wp2_with fail
       exact ⟨⟨j+1,by push_cast;rfl,HJ.out,HNX.out,HV.out.drew⟩,by simp only [intOf];have:=HJ.out;omega⟩
     ·have HNX:=Lib.hid (HN.out (fun h=>hc h.1));clear HH HN HC2;refine wpT_sure rfl rfl (.bool false) (fun w' hw'=>by rcases pt_ne hc with e0 | ⟨rfl,e1⟩ | ⟨rfl,rfl,e2⟩<;>(go_simp;try rfl)) ?_
      clear hc;apply wpT_sure rfl rfl;focus (intro w' hw';go_simp;rfl)
      iterate 10 (refine wpT_skip rfl (by go_simp) ?_)
      refine wpT_nil ?_;go_wp2_with fail
      exact ⟨⟨j+1,by push_cast;rfl,HJ.out,HNX.out,HV.out.drew⟩,by simp only [intOf];have:=HJ.out;omega⟩
    ·obtain rfl:j=3:=by omega
     have HNX:=Lib.hid (HSKP.out HNE.out);go_wp2_with fail
     exact ⟨⟨k+1,by push_cast;rfl,HK.out,HNX.out,HV.out⟩,by simp only [intOf];have:=HK.out;omega⟩
  ·obtain rfl:k=l.length:=by omega
   have HF:Hid (R=none):=by
    show _=_;have:=HT.out;rw [List.take_length] at this;rw [HR.out];exact this
   have HPZ:=Lib.hid (HV.out.heap HP.out id);have HZZ:=Lib.hid (HV.out.heap HZ.out id);obtain ⟨⟨x0,x1,x2⟩,_⟩:=cellsF3 HPZ.out;obtain ⟨_,⟨f0,f1,f2⟩⟩:=cellsF3 HZZ.out;obtain ⟨⟨z0,z1,z2⟩,_⟩:=cellsF3 HZZ.out;go_wp2_with fail
   have HS:=set3 (y0:=.int .i64 p0) (y1:=.int .i64 p1) (y2:=.int .i64 p2) HZZ.out;have HUS:=upd3 (HU.out.trans HV.out) HRB.out (.int .i64 p0) (.int .i64 p1) (.int .i64 p2)
   (try simp only [Exit.inBlock,Exit.then])
   refine bodyPost_ret (results_ct rfl _ rfl (load_pt (by exact HS))) rfl ?_;exact ⟨by rw [HF.out];rfl,HUS⟩
end Go.Proofs.YtcikldoaidmnhaaGreatDoor
namespace Go.Proofs.YtcikldoaidmnhaaGreatDoor
open Go Go.RowKit Pk
set_option maxRecDepth 100000
theorem cornersL_len (l:List Tri):(cornersL l).length≤3*l.length:=by
 have h:=foldl_with_len (l.flatMap cornT) [];have h2:(l.flatMap cornT).length=3*l.length:=by
  induction l with
  | nil=>rfl
  | cons t r ih=>rw [List.flatMap_cons,List.length_append,ih (foldl_with_len _ _)];simp [cornT];omega
 unfold cornersL;simp only [List.length_nil] at h;omega
def cornJ (t:Tri) (c:List Pt) (j:Nat):List Pt:=((cornT t).take j).foldl withP c
theorem cornJ_succ (t:Tri) (c:List Pt) {j:Nat} (hj:j<3):cornJ t c (j+1)=withP (cornJ t c j) (cornAt t j):=by
 rcases (by omega:j=0∨j=1∨j=2) with rfl | rfl | rfl<;>rfl
theorem cornJ_len (t:Tri) (c:List Pt) (j:Nat):(cornJ t c j).length≤c.length+3:=by
 have h:=foldl_with_len ((cornT t).take j) c;have h2:((cornT t).take j).length≤3:=by rw [List.length_take];exact Nat.min_le_right _ _
 unfold cornJ;omega
theorem cornersL_succ {l:List Tri} {k:Nat} (hk:k<l.length):cornersL (l.take (k+1))=cornJ l[k] (cornersL (l.take k)) 3:=by
 rw [List.take_succ_eq_append_getElem hk];unfold cornersL;rw [List.flatMap_append,List.foldl_append];rfl
set_option maxHeartbeats 2000000 in
theorem hCorners_any (v:Value) (l:List Tri) (hn:l.length≤900000) (w:World) (h:kTri.Rd w v l) :
  Calls Tryz.prog 129 #[v] w fun en w'=>∃v',en=.returned v'∧kPt.Rd w' v' (cornersL l)∧Upd noBlk w w':=by
 obtain ⟨A,cap,rfl,hcap,hx⟩:=h;have HX:=Lib.hid hx;have hn':(l.length:Int)≤900000:=by omega
 have HLE:Hid (l.length≤900000):=hn;have HWI:=fun v l p h W r=>Lib.hid (hWith_any v l p h W r);clear hx hn;go_enter Tryz.func129,Tryz.ntmps129
 go_wp2_with fail
 go_loopw [3,4] (fun o i wr=>∃k:Nat,i=.int .i64 k∧k≤l.length∧kPt.Rd wr o (cornersL (l.take k))∧Upd noBlk w wr) (fun _ i _=>l.length-(intOf i).toNat)
 case atStart=>exact ⟨0,rfl,Nat.zero_le _,Kd.Rd.nil _ _,Upd.refl _ _⟩
 case round=>
  obtain ⟨k,rfl,hk,ho,hu⟩:=hrel;have HO:=Lib.hid ho;have HU:=Lib.hid hu;clear ho hu;by_cases hlt:k<l.length
  ·have hlt':(k:Int)<(l.length:Int):=by omega
   obtain ⟨b,off,rfl,f1⟩:=HX.out (by omega);have hat:=f1 k hlt;rw [show kTri.k=9 from rfl] at hat;have HAT:=Lib.hid hat;have HT:=Lib.hid (cornersL_succ hlt);have HCL:Hid ((cornersL (l.take k)).length≤2700000):=by
    have h1:=cornersL_len (l.take k);rw [List.length_take] at h1;have h2:=HLE.out;show _≤_;omega
   have HK:Hid (k<l.length):=hlt;clear hat f1 hk;generalize l[k]=t at *;clear hlt;generalize cornersL (l.take k)=c at *;have hkw:IntKind.i64.wrap ((k:Int)+1)=(k:Int)+1:=wrapN (by omega) (by omega);go_wp2_with fail
   go_loopw [3,5] (fun o i wz=>∃j:Nat,i=.int .i64 j∧j≤3∧kPt.Rd wz o (cornJ t c j)∧Upd noBlk w wz) (fun _ i _=>3-(intOf i).toNat)
   case atStart=>exact ⟨0,rfl,Nat.zero_le _,HO.out,HU.out⟩
   case round=>
    obtain ⟨j,rfl,hj,ho,hu⟩:=hrel;have HO:=Lib.hid ho;have HU:=Lib.hid hu;have HA:=Lib.hid (HAT.out.keep hu);clear ho hu;by_cases hj3:j<3
    ·have hj3':(j:Int)<3:=by omega
     have hjw:IntKind.i64.wrap ((j:Int)+1)=(j:Int)+1:=wrapN (by omega) (by omega);have HC:=Lib.hid (tri_corner HA.out hj3);have HS:=Lib.hid (cornJ_succ t c hj3);have HJ:Hid (j<3):=hj3;have HWW:=Lib.hid (HWI u3 (cornJ t c j) (cornAt t j) (by have:=cornJ_len t c j;have:=HCL.out;omega) wr HO.out).out;clear hj hj3;generalize cornAt t j=q at *;obtain ⟨q0,q1,q2⟩:=q;unfold ptV at HWW;obtain ⟨c0,c1,c2⟩:=HC.out;go_wp2_with fail
     refine HWW.out.mono ?_;rintro e w2 ⟨v2,rfl,r2,u2⟩;have R2:=Lib.hid r2;have U2:=Lib.hid (HU.out.trans u2);clear r2 u2 HWW c0 c1 c2;go_wp2_with fail
     refine ⟨⟨j+1,by push_cast;rfl,HJ.out,?_,U2.out⟩,by simp only [intOf];have:=HJ.out;omega⟩;rw [HS.out];exact R2.out
    ·obtain rfl:j=3:=by omega
     go_wp2_with fail
     refine ⟨⟨k+1,by push_cast;rfl,HK.out,?_,HU.out⟩,by simp only [intOf];have:=HK.out;omega⟩;rw [HT.out];exact HO.out
  ·obtain rfl:k=l.length:=by omega
   have h2:=HO.out;rw [List.take_length] at h2;have HF:=Lib.hid h2;clear h2 HO;go_wp2_with fail
   go_ret
   exact ⟨_,rfl,HF.out,HU.out⟩
end Go.Proofs.YtcikldoaidmnhaaGreatDoor
