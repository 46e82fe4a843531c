/- Parts: The reference's walk and a writer, a reader, side by side: what each step leaves. No condition. Walks of the reference of packets: find, third. No condition. Walks of the reference of packets: zigzag, last, expected, find. No condition. Walks of the reference: third. No condition. -/
import Derived.Test.YtcikldoaidmnhaaGreatDoorQOpen4
import Derived.Test.YtcikldoaidmnhaaGreatDoorQOpen10
import Derived.Test.YtcikldoaidmnhaaGreatDoorQOpen14
import Derived.Test.YtcikldoaidmnhaaGreatDoorQOpen26
import Derived.Test.YtcikldoaidmnhaaGreatDoorQOpen27
namespace Go.Proofs.YtcikldoaidmnhaaGreatDoor
open Go Go.RowKit Pk Pc
set_option maxRecDepth 100000
structure JW (D:Nat→Prop) (w0 wr:World) (b:Nat) (S:Wk) (bw:Nat) (l:Pk.Bits):Prop where
 ex:∃G F,JRep wr b S G∧RWRep wr bw (encFrom E.init l) F∧(∀k,G k→¬F k)∧(∀k,G k∨F k→D k∨w0.heap.size≤k)
 up:Upd D w0 wr
theorem JW.upd {D:Nat→Prop} {w0 wr w2:World} {b:Nat} {S:Wk} {bw:Nat} {l:Pk.Bits} (h:JW D w0 wr b S bw l) (hu:Upd noBlk wr w2):JW D w0 w2 b S bw l:=by
 obtain ⟨⟨G,F,h1,h2,h3,h4⟩,h5⟩:=h;exact ⟨⟨G,F,h1.upd hu (fun _ _=>id),h2.upd hu (fun _ _=>id),h3,h4⟩,h5.trans (hu.mono (fun _ _ h=>h.elim))⟩
theorem JW.drew {D:Nat→Prop} {w0 wr:World} {b:Nat} {S:Wk} {bw:Nat} {l:Pk.Bits} (h:JW D w0 wr b S bw l):JW D w0 wr.drew b S bw l:=h.upd (Upd.refl _ wr).drew
theorem JW.stepW {D:Nat→Prop} {w0 wr w':World} {b:Nat} {S:Wk} {bw:Nat} {e':E} {l':Pk.Bits} {G F F':Nat→Prop} (he:e'=encFrom E.init l') (h1:JRep wr b S G) (h3:∀k,G k→¬F k) (h4:∀k,G k∨F k→D k∨w0.heap.size≤k) (h5:Upd D w0 wr) (h:RWG F wr w' bw e' F'):JW D w0 w' b S bw l':=by
 subst he;obtain ⟨r,n,u⟩:=h;refine ⟨⟨G,F',h1.upd u (fun k hk=>h3 k hk),r,fun k hk hf=>?_,fun k hk=>?_⟩,h5.then u (fun i hi hf=>(h4 i (.inr hf)).resolve_right (by omega))⟩
 ·rcases n k hf with h | h
  ·exact h3 k hk h
  ·have:=h1.lt k hk;omega
 ·rcases hk with h | h
  ·exact h4 k (.inl h)
  ·rcases n k h with h | h
   ·exact h4 k (.inr h)
   ·exact .inr (by have:=h5.size;omega)
theorem JW.stepS {D:Nat→Prop} {w0 wr w':World} {b:Nat} {S':Wk} {bw:Nat} {l:Pk.Bits} {G F:Nat→Prop} (h2:RWRep wr bw (encFrom E.init l) F) (h3:∀k,G k→¬F k) (h4:∀k,G k∨F k→D k∨w0.heap.size≤k) (h5:Upd D w0 wr) (h:JPost G wr w' b S'):JW D w0 w' b S' bw l:=by
 obtain ⟨G',r,n,u⟩:=h;refine ⟨⟨G',F,r,h2.upd u (fun k hf hk=>h3 k hk hf),fun k hk hf=>?_,fun k hk=>?_⟩,h5.then u (fun i hi hg=>(h4 i (.inl hg)).resolve_right (by omega))⟩
 ·rcases n k hk with h | h
  ·exact h3 k h hf
  ·have:=h2.lt k hf;omega
 ·rcases hk with h | h
  ·rcases n k h with h | h
   ·exact h4 k (.inl h)
   ·exact .inr (by have:=h5.size;omega)
  ·exact h4 k (.inr h)
theorem JW.bit {D:Nat→Prop} {w0 wr:World} {b:Nat} {S:Wk} {bw:Nat} {l:Pk.Bits} (h:JW D w0 wr b S bw l) (c:Int) (one:Bool) (hl:l.length≤900000) :
  Calls Tryz.prog 59 #[.pointer (some ⟨bw,0,none⟩),.int .i64 c,.bool one] wr fun en w'=>en=.returned (.tuple #[])∧JW D w0 w' b S bw (l++[(c,one)]):=by
 obtain ⟨⟨G,F,h1,h2,h3,h4⟩,h5⟩:=h;refine ((RWG.self h2).bit c one (by have:=done_len hl;omega)).mono ?_;rintro e w' ⟨rfl,F',h'⟩;exact ⟨rfl,JW.stepW (by rw [encFrom_snoc]) h1 h3 h4 h5 h'⟩
theorem JW.number {D:Nat→Prop} {w0 wr:World} {b:Nat} {S:Wk} {bw:Nat} {l:Pk.Bits} (h:JW D w0 wr b S bw l) (c:Int) (n:Nat) (hn:n<2 ^ 64) (hl:l.length≤900000) :
  Calls Tryz.prog 56 #[.pointer (some ⟨bw,0,none⟩),.int .i64 c,.int .u64 n] wr fun en w'=>en=.returned (.tuple #[])∧JW D w0 w' b S bw (l++numBits c n):=by
 obtain ⟨⟨G,F,h1,h2,h3,h4⟩,h5⟩:=h;refine (rWNumber_any (RWG.self h2) c n hn (done_len hl)).mono ?_;rintro e w' ⟨rfl,F',h'⟩;exact ⟨rfl,JW.stepW (by rw [encFrom_app]) h1 h3 h4 h5 h'⟩
theorem JW.finish {D:Nat→Prop} {w0 wr:World} {b:Nat} {S:Wk} {bw:Nat} {l:Pk.Bits} (h:JW D w0 wr b S bw l) (hl:l.length≤900000) :
  Calls Tryz.prog 64 #[.pointer (some ⟨bw,0,none⟩)] wr fun en w'=>en=.returned (.string (str (encode l)))∧Upd noBlk wr w':=by
 obtain ⟨⟨G,F,h1,h2,h3,h4⟩,h5⟩:=h;exact rWFinish_any bw _ F wr h2 (by have:=done_len hl;omega)
theorem JW.enter {D:Nat→Prop} {w0 wr:World} {b:Nat} {S:Wk} {bw:Nat} {l:Pk.Bits} (h:JW D w0 wr b S bw l):∃D1:Nat→Prop,(∀k,D1 k→k<wr.heap.size)∧(∀w1,Upd noBlk wr w1→JW D1 w1 w1 b S bw l)∧(∀w1 w' S' l',Upd noBlk wr w1→JW D1 w1 w' b S' bw l'→JW D w0 w' b S' bw l')∧(∀k,D1 k→D k∨w0.heap.size≤k):=by
 obtain ⟨⟨G,F,h1,h2,h3,h4⟩,h5⟩:=h;refine ⟨fun k=>G k∨F k,fun k hk=>?_,fun w1 hu=>?_,fun w1 w' S' l' hu h'=>?_,h4⟩
 ·rcases hk with h | h
  ·exact h1.lt k h
  ·exact h2.lt k h
 ·exact ⟨⟨G,F,h1.upd hu (fun _ _=>id),h2.upd hu (fun _ _=>id),h3,fun k hk=>.inl hk⟩,Upd.refl _ _⟩
 ·obtain ⟨⟨G',F',k1,k2,k3,k4⟩,k5⟩:=h';have hs:=hu.size;have hs5:=h5.size;refine ⟨⟨G',F',k1,k2,k3,fun k hk=>?_⟩,?_⟩
  ·rcases k4 k hk with h | h
   ·exact h4 k h
   ·exact .inr (by omega)
  ·exact (h5.trans (hu.mono (fun _ _ h=>h.elim))).then k5 (fun i hi hd=>(h4 i hd).resolve_right (by omega))
theorem JW.keepObj {D:Nat→Prop} {w0 wr:World} {b:Nat} {S:Wk} {bw:Nat} {l:Pk.Bits} (h:JW D w0 wr b S bw l) {k:Nat} {o:Obj} (ho:w0.heap[k]?=some o) (hk:¬D k):wr.heap[k]?=some o:=h.up.heap ho hk
structure JR (Z:Nat→Prop) (w0 wr:World) (b:Nat) (S:Wk) (br:Nat) (d:D) (n:Nat):Prop where
 ex:∃G,JRep wr b S G∧RR wr br d n∧¬G br∧(∀k,G k∨k=br→Z k∨w0.heap.size≤k)
 up:Upd Z w0 wr
theorem JR.upd {Z:Nat→Prop} {w0 wr w2:World} {b:Nat} {S:Wk} {br:Nat} {d:D} {n:Nat} (h:JR Z w0 wr b S br d n) (hu:Upd noBlk wr w2):JR Z w0 w2 b S br d n:=by
 obtain ⟨⟨G,h1,h2,h3,h4⟩,h5⟩:=h;exact ⟨⟨G,h1.upd hu (fun _ _=>id),h2.upd hu id,h3,h4⟩,h5.trans (hu.mono (fun _ _ h=>h.elim))⟩
theorem JR.drew {Z:Nat→Prop} {w0 wr:World} {b:Nat} {S:Wk} {br:Nat} {d:D} {n:Nat} (h:JR Z w0 wr b S br d n):JR Z w0 wr.drew b S br d n:=h.upd (Upd.refl _ wr).drew
theorem JR.stepR {Z:Nat→Prop} {w0 wr w':World} {b:Nat} {S:Wk} {br:Nat} {d':D} {n':Nat} {G:Nat→Prop} (h1:JRep wr b S G) (h3:¬G br) (h4:∀k,G k∨k=br→Z k∨w0.heap.size≤k) (h5:Upd Z w0 wr) (r:RR w' br d' n') (u:Upd (·=br) wr w'):JR Z w0 w' b S br d' n':=
 ⟨⟨G,h1.upd u (fun k hk e=>by have e':k=br:=e;subst e';exact h3 hk),r,h3,h4⟩,h5.then u (fun i hi hf=>(h4 i (.inr hf)).resolve_right (by omega))⟩
theorem JR.stepS {Z:Nat→Prop} {w0 wr w':World} {b:Nat} {S':Wk} {br:Nat} {d:D} {n:Nat} {G:Nat→Prop} (h2:RR wr br d n) (h3:¬G br) (h4:∀k,G k∨k=br→Z k∨w0.heap.size≤k) (h5:Upd Z w0 wr) (h:JPost G wr w' b S'):JR Z w0 w' b S' br d n:=by
 obtain ⟨G',r,m,u⟩:=h;refine ⟨⟨G',r,h2.upd u h3,fun hk=>?_,fun k hk=>?_⟩,h5.then u (fun i hi hg=>(h4 i (.inl hg)).resolve_right (by omega))⟩
 ·rcases m br hk with h | h
  ·exact h3 h
  ·have:=h2.lt;omega
 ·rcases hk with h | h
  ·rcases m k h with h | h
   ·exact h4 k (.inl h)
   ·exact .inr (by have:=h5.size;omega)
  ·exact h4 k (.inr h)
theorem JR.bit {Z:Nat→Prop} {w0 wr:World} {b:Nat} {S:Wk} {br:Nat} {d:D} {n:Nat} (h:JR Z w0 wr b S br d n) (hn:n≤999999) (c:Int) :
  Calls Tryz.prog 121 #[.pointer (some ⟨br,0,none⟩),.int .i64 c] wr fun en w'=>en=.returned (.bool (d.one c))∧JR Z w0 w' b S br (d.bit c) (n+1):=by
 obtain ⟨⟨G,h1,h2,h3,h4⟩,h5⟩:=h;refine (rRBit_any br n c d hn wr h2).mono ?_;rintro e w' ⟨rfl,r,u⟩;exact ⟨rfl,JR.stepR h1 h3 h4 h5 r u⟩
theorem RR.more {w:World} {b n m:Nat} {d:D} (h:RR w b d n) (hm:n≤m):RR w b d m:=by
 obtain ⟨arr,code,at_,h⟩:=h;exact ⟨arr,code,at_,h.wf,h.blk,h.mod,h.s,h.a,h.o,h.left,Nat.le_trans h.le hm,h.bytes⟩
theorem JR.number {Z:Nat→Prop} {w0 wr:World} {b:Nat} {S:Wk} {br:Nat} {d:D} {n:Nat} (h:JR Z w0 wr b S br d n) (hn:n+200≤999999) (c:Int) :
  Calls Tryz.prog 120 #[.pointer (some ⟨br,0,none⟩),.int .i64 c] wr fun en w'=>en=.returned (numV (d.number c))∧JR Z w0 w' b S br (d.number c).d (n+130):=by
 obtain ⟨⟨G,h1,h2,h3,h4⟩,h5⟩:=h;refine (rRNumber_any h2 hn c).mono ?_;rintro e w' ⟨rfl,n',hn',r,u⟩;exact ⟨rfl,JR.stepR h1 h3 h4 h5 (r.more hn') u⟩
theorem JR.more {Z:Nat→Prop} {w0 wr:World} {b:Nat} {S:Wk} {br:Nat} {d:D} {n m:Nat} (h:JR Z w0 wr b S br d n) (hm:n≤m):JR Z w0 wr b S br d m:=by
 obtain ⟨⟨G,h1,h2,h3,h4⟩,h5⟩:=h;exact ⟨⟨G,h1,h2.more hm,h3,h4⟩,h5⟩
theorem JR.enter {Z:Nat→Prop} {w0 wr:World} {b:Nat} {S:Wk} {br:Nat} {d:D} {n:Nat} (h:JR Z w0 wr b S br d n):∃Z1:Nat→Prop,(∀k,Z1 k→k<wr.heap.size)∧(∀w1,Upd noBlk wr w1→JR Z1 w1 w1 b S br d n)∧(∀w1 w' S' d' n',Upd noBlk wr w1→JR Z1 w1 w' b S' br d' n'→JR Z w0 w' b S' br d' n')∧(∀k,Z1 k→Z k∨w0.heap.size≤k):=by
 obtain ⟨⟨G,h1,h2,h3,h4⟩,h5⟩:=h;refine ⟨fun k=>G k∨k=br,fun k hk=>?_,fun w1 hu=>?_,fun w1 w' S' d' n' hu h'=>?_,h4⟩
 ·rcases hk with h | h
  ·exact h1.lt k h
  ·subst h;exact h2.lt
 ·exact ⟨⟨G,h1.upd hu (fun _ _=>id),h2.upd hu id,h3,fun k hk=>.inl hk⟩,Upd.refl _ _⟩
 ·obtain ⟨⟨G',k1,k2,k3,k4⟩,k5⟩:=h';have hs:=hu.size;have hs5:=h5.size;refine ⟨⟨G',k1,k2,k3,fun k hk=>?_⟩,?_⟩
  ·rcases k4 k hk with h | h
   ·exact h4 k h
   ·exact .inr (by omega)
  ·exact (h5.trans (hu.mono (fun _ _ h=>h.elim))).then k5 (fun i hi hd=>(h4 i hd).resolve_right (by omega))
theorem JR.keepObj {Z:Nat→Prop} {w0 wr:World} {b:Nat} {S:Wk} {br:Nat} {d:D} {n:Nat} (h:JR Z w0 wr b S br d n) {k:Nat} {o:Obj} (ho:w0.heap[k]?=some o) (hk:¬Z k):wr.heap[k]?=some o:=h.up.heap ho hk
end Go.Proofs.YtcikldoaidmnhaaGreatDoor
namespace Go.Proofs.YtcikldoaidmnhaaGreatDoor
open Go Go.RowKit Pk
set_option maxRecDepth 100000
theorem jzigzag_any (n:Int) (h0:-1000000000≤n) (h1:n≤1000000000) (w:World):Calls Tryz.prog 112 #[.int .i64 n] w fun en w'=>en=.returned (.int .u64 ((zig n:Nat):Int))∧w=w':=by
 have w1:=IntKind.wrap_u64 (-2*n-1);have w2:=IntKind.wrap_u64 (2*n);have v1:IntKind.i64.wrap (-2*n)=-2*n:=wrapN (by omega) (by omega);have v2:IntKind.i64.wrap (-2*n-1)=-2*n-1:=wrapN (by omega) (by omega);have v3:IntKind.i64.wrap (2*n)=2*n:=wrapN (by omega) (by omega);by_cases hn:n<0
 ·have HZ:Hid (((zig n:Nat):Int)=IntKind.u64.wrap (-2*n-1)):=by show _=_;unfold zig;rw [if_pos hn];omega
  clear w1 w2 h0 h1;go_enter Tryz.func112,Tryz.ntmps112
  go_wp2_with fail
  go_ret
  exact ⟨by rw [HZ.out];rfl,rfl⟩
 ·have HZ:Hid (((zig n:Nat):Int)=IntKind.u64.wrap (2*n)):=by show _=_;unfold zig;rw [if_neg hn];omega
  clear w1 w2 h0 h1;go_enter Tryz.func112,Tryz.ntmps112
  go_wp2_with fail
  go_ret
  exact ⟨by rw [HZ.out];rfl,rfl⟩
set_option maxHeartbeats 1000000 in
theorem jlast_any (b:Nat) (S:Wk) (G:Nat→Prop) (hl:S.known.length≤1000000) (w:World) (h:JRep w b S G):Calls Tryz.prog 63 #[.pointer (some ⟨b,0,none⟩)] w fun en w'=>en=.returned (ptV (lastK S.known))∧Upd noBlk w w':=by
 obtain ⟨vK,vT,vG,h,rfl⟩:=h;obtain ⟨A,cap,rfl,hcap⟩:=h.comp.known.form;have hl':(S.known.length:Int)≤1000000:=by omega
 have HR:=h.comp.known.rd;obtain ⟨A',cap',e,_,hrd⟩:=HR;cases e;have hu:=(Upd.refl noBlk w).alloc (.cells #[.int .i64 0,.int .i64 0,.int .i64 0] 43);have HU:=Lib.hid hu;have HRD:Hid (0<S.known.length→∃b off,A=some ⟨b,off,none⟩∧∀j (hj:j<S.known.length),kPt.At (w.alloc (.cells #[.int .i64 0,.int .i64 0,.int .i64 0] 43)) b (off+j*kPt.k) S.known[j]):=fun h0=>by
  obtain ⟨b',off,e,k⟩:=hrd h0;exact ⟨b',off,e,fun j hj=>(k j hj).keep hu⟩
 have HB:=Lib.hid (hu.heap h.blk id);have HZ:=Lib.hid (heap_alloc_new w (.cells #[.int .i64 0,.int .i64 0,.int .i64 0] 43));obtain ⟨K,hK⟩:∃K,K=S.known:=⟨_,rfl⟩;rw [←hK] at HRD HB hl' hcap;rw [←hK];clear h hu hrd hl hK;go_enter Tryz.func63,Tryz.ntmps63
 obtain ⟨wx,hwx⟩:∃wx,wx=w.alloc (.cells #[.int .i64 0,.int .i64 0,.int .i64 0] 43):=⟨_,rfl⟩;rw [←hwx] at HU HB HZ HRD;go_upto_region 1 with fail
 rw [←hwx];clear hwx;obtain ⟨⟨k0,k1,k2⟩,_⟩:=cellsF3 HB.out;obtain ⟨⟨z0,z1,z2⟩,⟨f0,f1,f2⟩⟩:=cellsF3 HZ.out;rcases Nat.eq_zero_or_pos K.length with h0 | h0
 ·have hnil:K=[]:=List.eq_nil_of_length_eq_zero h0;subst hnil;go_wp2_with fail
  have HZ2:=set3 (y0:=.int .i64 0) (y1:=.int .i64 0) (y2:=.int .i64 0) HZ.out;have HU2:=upd3 HU.out (Nat.le_refl _) (.int .i64 0) (.int .i64 0) (.int .i64 0)
  (try simp only [Exit.inBlock,Exit.then])
  refine bodyPost_ret (results_cell_row rfl _ _ w.heap.size 43 _ (0,0) _ rfl HZ2 Tryz.underlying43 rfl (by kernel_rfl)) rfl ?_;exact ⟨rfl,HU2⟩
 ·have h0':(0:Int)<(K.length:Int):=by omega
  have h1':¬(K.length:Int)=0:=by omega
  obtain ⟨b',off,rfl,hrd⟩:=HRD.out h0;have hk3:kPt.k=3:=rfl;have hat:=hrd (K.length-1) (by omega);rw [hk3] at hat;have HAT:=Lib.hid hat;obtain ⟨m,hm⟩:∃m,K.length=m+1:=⟨K.length-1,by omega⟩;have HLK:Hid (lastK K=K[K.length-1]):=by
   show _=_;unfold lastK;rw [List.getLast?_eq_getElem?,List.getElem?_eq_getElem (by omega)];rfl
  generalize K[K.length-1]=p at *;obtain ⟨p0,p1,p2⟩:=p;rw [hm] at HAT HB k0;have hm':(m:Int)≤1000000:=by omega
  have hwm:IntKind.i64.wrap (m:Int)=(m:Int):=wrapN (by omega) (by omega);have hlm:(m:Int)<(m:Int)+1:=by omega
  have HM:=Lib.hid hm;clear hrd hat hk3 HRD h0 hm hcap hl' h0' h1';rw [show m+1-1=m from rfl] at HAT;go_wp2_with fail
  refine wp_region_tree 12 (OT.sures [0,4,1,5,2,3,6,7,8,9,10,11] .nil) (fun w'=>Gr wx w') (by kernel_rfl) (by kernel_rfl) (fun c a d v w h=>by cases d<;>exact h) ((Gr.refl wx).drew) ?_
  simp only [OT.sures]
  iterate 12 (apply wpT_sure rfl rfl;focus (intro w' hw';obtain ⟨⟨k0,k1,k2⟩,_⟩:=cellsF3 (hw'.heap HB.out id);obtain ⟨a0,a1,a2⟩:=ptAt3 (HAT.out.keep hw'.up);go_simp;rfl))
  refine wpT_nil ?_;go_wp2_with fail
  have HZ2:=set3 (y0:=.int .i64 p0) (y1:=.int .i64 p1) (y2:=.int .i64 p2) HZ.out;have HU2:=upd3 HU.out (Nat.le_refl _) (.int .i64 p0) (.int .i64 p1) (.int .i64 p2)
  (try simp only [Exit.inBlock,Exit.then])
  refine bodyPost_ret (results_cell_row rfl _ _ w.heap.size 43 _ (0,0) _ rfl (by exact HZ2) Tryz.underlying43 rfl (by kernel_rfl)) rfl ?_;exact ⟨by rw [HLK.out];rfl,HU2.drew⟩
set_option maxHeartbeats 1000000 in
theorem jexpected_any (g:Gate) (hg:inG g) (w:World):Calls Tryz.prog 61 #[gateV g] w fun en w'=>en=.returned (ptV (expG g))∧Upd noBlk w w':=by
 obtain ⟨⟨a0,a1,a2⟩,⟨a3,a4,a5⟩,⟨a6,a7,a8⟩⟩:=g;obtain ⟨⟨h0,h1,h2,h3,h4,h5⟩,⟨h6,h7,h8,h9,h10,h11⟩,⟨h12,h13,h14,h15,h16,h17⟩⟩:=hg;simp only at h0 h1 h2 h3 h4 h5 h6 h7 h8 h9 h10 h11 h12 h13 h14 h15 h16 h17;obtain ⟨x1,x2⟩:=wrapC ⟨h0,h1⟩ ⟨h6,h7⟩ ⟨h12,h13⟩;obtain ⟨x3,x4⟩:=wrapC ⟨h2,h3⟩ ⟨h8,h9⟩ ⟨h14,h15⟩;obtain ⟨x5,x6⟩:=wrapC ⟨h4,h5⟩ ⟨h10,h11⟩ ⟨h16,h17⟩;clear h0 h1 h2 h3 h4 h5 h6 h7 h8 h9 h10 h11 h12 h13 h14 h15 h16 h17;obtain ⟨w1,hw1⟩:∃w1,w1=(w.alloc (.cells #[.int .i64 a0,.int .i64 a1,.int .i64 a2,.int .i64 a3,.int .i64 a4,.int .i64 a5,.int .i64 a6,.int .i64 a7,.int .i64 a8] 44)).alloc (.cells #[.int .i64 0,.int .i64 0,.int .i64 0] 43):=⟨_,rfl⟩;have HU:Hid (Upd noBlk w w1):=by show Upd _ _ _;rw [hw1];exact ((Upd.refl _ w).alloc _).alloc _
 have HA:Hid (w1.heap[w.heap.size]?=some (.cells #[.int .i64 a0,.int .i64 a1,.int .i64 a2,.int .i64 a3,.int .i64 a4,.int .i64 a5,.int .i64 a6,.int .i64 a7,.int .i64 a8] 44 (0,0))):=by show _=_;rw [hw1];exact ((Upd.refl noBlk _).alloc _).heap (heap_alloc_new w _) id
 have HB:Hid (w1.heap[w.heap.size+1]?=some (.cells #[.int .i64 0,.int .i64 0,.int .i64 0] 43 (0,0))):=by
  show _=_;rw [hw1];have:=heap_alloc_new (w.alloc (.cells #[.int .i64 a0,.int .i64 a1,.int .i64 a2,.int .i64 a3,.int .i64 a4,.int .i64 a5,.int .i64 a6,.int .i64 a7,.int .i64 a8] 44)) (.cells #[.int .i64 0,.int .i64 0,.int .i64 0] 43);rwa [World.size_alloc] at this
 obtain ⟨rb,hrb⟩:∃rb,rb=w.heap.size+1:=⟨_,rfl⟩;have HRB:Hid (w.heap.size≤rb):=by show _≤_;omega
 rw [←hrb] at HB;unfold gateV triC;go_enter Tryz.func61,Tryz.ntmps61
 go_upto_region 1 with fail
 rw [←hw1,←hrb];clear hw1 hrb;obtain ⟨g0,g1,g2,g3,g4,g5,g6,g7,g8⟩:=cells9 HA.out;obtain ⟨⟨z0,z1,z2⟩,⟨f0,f1,f2⟩⟩:=cellsF3 HB.out;go_wp2_with fail
 have HZ2:=set3 (y0:=.int .i64 (a0+a3-a6)) (y1:=.int .i64 (a1+a4-a7)) (y2:=.int .i64 (a2+a5-a8)) HB.out;have HU2:=upd3 HU.out HRB.out (.int .i64 (a0+a3-a6)) (.int .i64 (a1+a4-a7)) (.int .i64 (a2+a5-a8))
 (try simp only [Exit.inBlock,Exit.then])
 refine bodyPost_ret (results_cell_row rfl _ _ rb 43 _ (0,0) _ rfl (by exact HZ2) Tryz.underlying43 rfl (by kernel_rfl)) rfl ?_;exact ⟨rfl,HU2⟩
end Go.Proofs.YtcikldoaidmnhaaGreatDoor
namespace Go.Proofs.YtcikldoaidmnhaaGreatDoor
open Go Go.RowKit Pk
set_option maxRecDepth 100000
def findI (known:List Pt) (p:Pt):Int:=if p∈known then ((known.idxOf p:Nat):Int) else -1
theorem take_notmem {known:List Pt} {p:Pt} {k:Nat} (hk:k<known.length) (h:p∉known.take k) (he:known[k]≠p):p∉known.take (k+1):=by
 rw [List.take_succ_eq_append_getElem hk,List.mem_append,List.mem_singleton];exact fun h2=>h2.elim h (fun e=>he e.symm)
theorem findI_at {known:List Pt} {p:Pt} {k:Nat} (hk:k<known.length) (h:p∉known.take k) (he:known[k]=p):findI known p=(k:Int):=by
 unfold findI;have hm:p∈known:=by rw [←he];exact List.getElem_mem hk
 rw [if_pos hm];have e:known=known.take k++p :: known.drop (k+1):=by
  conv=>lhs;rw [←List.take_append_drop k known,List.drop_eq_getElem_cons hk,he]
 have:known.idxOf p=k:=by
  conv=>lhs;rw [e]
  rw [List.idxOf_append,if_neg h,List.idxOf_cons_self,List.length_take];omega
 rw [this]
set_option maxHeartbeats 1000000 in
theorem jfind_any (b:Nat) (S:Wk) (G:Nat→Prop) (p:Pt) (hl:S.known.length≤1000000) (w:World) (h:JRep w b S G):Calls Tryz.prog 111 #[.pointer (some ⟨b,0,none⟩),ptV p] w fun en w'=>en=.returned (.int .i64 (findI S.known p))∧Upd noBlk w w':=by
 obtain ⟨vK,vT,vG,h,rfl⟩:=h;obtain ⟨A,cap,rfl,hcap⟩:=h.comp.known.form;have hl':(S.known.length:Int)≤1000000:=by omega
 obtain ⟨A',cap',e,_,hrd⟩:=h.comp.known.rd;cases e;obtain ⟨K,hK⟩:∃K,K=S.known:=⟨_,rfl⟩;have hu:=(Upd.refl noBlk w).alloc (.cells #[.int .i64 p.1,.int .i64 p.2.1,.int .i64 p.2.2] 43);have HU:=Lib.hid hu;have HB:=Lib.hid (hu.heap h.blk id);have HRD:=Lib.hid hrd;have HZ:=Lib.hid (heap_alloc_new w (.cells #[.int .i64 p.1,.int .i64 p.2.1,.int .i64 p.2.2] 43));rw [←hK] at HB HRD hl' hcap;rw [←hK];clear h hu hl hrd hK;obtain ⟨p0,p1,p2⟩:=p;unfold ptV;obtain ⟨wx,hwx⟩:∃wx,wx=w.alloc (.cells #[.int .i64 p0,.int .i64 p1,.int .i64 p2] 43):=⟨_,rfl⟩;simp only at HU HB HZ;rw [←hwx] at HU HB HZ;go_enter Tryz.func111,Tryz.ntmps111
 go_upto_region 1 with fail
 rw [←hwx];clear hwx;generalize w.heap.size=pb at *;go_wp2_with fail
 go_loopw [5] (fun i wr=>∃k:Nat,i=.int .i64 k∧k≤K.length∧(p0,p1,p2)∉K.take k∧Upd noBlk wx wr) (fun i _=>K.length-(intOf i).toNat)
 case atStart=>exact ⟨0,rfl,Nat.zero_le _,by simp,Upd.refl _ _⟩
 case round=>
  obtain ⟨k,rfl,hk,hnm,hu⟩:=hrel;have HNM:=Lib.hid hnm;have HU2:=Lib.hid (HU.out.trans hu);have HUR:=Lib.hid hu;have HBR:=Lib.hid (hu.heap HB.out id);have HZR:=Lib.hid (hu.heap HZ.out id);clear hnm hu;obtain ⟨⟨c0,c1,c2⟩,_⟩:=cellsF3 HBR.out;by_cases hlt:k<K.length
  ·have hlt':(k:Int)<(K.length:Int):=by omega
   obtain ⟨b',off,rfl,hat⟩:=HRD.out (by omega);have hc:=((hat k hlt).keep HU.out).keep HUR.out;rw [show kPt.k=3 from rfl] at hc;have HC:=Lib.hid hc;have HIN:Hid (K[k]=(p0,p1,p2)→findI K (p0,p1,p2)=(k:Int)):=fun he=>findI_at hlt HNM.out he;have HOUT:Hid (K[k]≠(p0,p1,p2)→(p0,p1,p2)∉K.take (k+1)):=fun he=>take_notmem hlt HNM.out he;have HK:Hid (k<K.length):=hlt;clear hat hc;generalize K[k]=q at *;obtain ⟨q0,q1,q2⟩:=q;clear hlt hk;go_wp2_with fail
   refine wp_region_tree 8 (OT.sures [0,4,7,1,2,3,5,6] .nil) (fun w'=>Gr wr w') (by kernel_rfl) (by kernel_rfl) (fun c a d v w h=>by cases d<;>exact h) ((Gr.refl wr).drew) ?_
   simp only [OT.sures]
   iterate 8 (apply wpT_sure rfl rfl;focus (intro w' hw';obtain ⟨⟨c0,c1,c2⟩,_⟩:=cellsF3 (hw'.heap HBR.out id);obtain ⟨⟨z0,z1,z2⟩,_⟩:=cellsF3 (hw'.heap HZR.out id);obtain ⟨d0,d1,d2⟩:=ptAt3 (HC.out.keep hw'.up);go_simp;rfl))
   refine wpT_nil ?_;by_cases he:((q0,q1,q2):Pt)=(p0,p1,p2)
   ·have HF:=Lib.hid (HIN.out he);cases he;clear HIN HOUT HC HRD HNM;go_wp2_with fail
    go_ret
    exact ⟨by rw [HF.out];rfl,HU2.out.drew⟩
   ·have HN:=Lib.hid (HOUT.out he);clear HIN HOUT HC HNM;have hkw:IntKind.i64.wrap ((k:Int)+1)=(k:Int)+1:=wrapN (by omega) (by have:=HK.out;omega);have key:q0≠p0∨(q0=p0∧q1≠p1)∨(q0=p0∧q1=p1∧q2≠p2):=by
     by_cases e0:q0=p0
     ·by_cases e1:q1=p1
      ·exact .inr (.inr ⟨e0,e1,fun e2=>he (by rw [e0,e1,e2])⟩)
      ·exact .inr (.inl ⟨e0,e1⟩)
     ·exact .inl e0
    clear he;rcases key with e0 | ⟨rfl,e1⟩ | ⟨rfl,rfl,e2⟩
    all_goals go_wp2_with fail
    all_goals exact ⟨⟨k+1,by push_cast;rfl,HK.out,HN.out,HUR.out.drew⟩,by simp only [intOf];have:=HK.out;omega⟩
  ·obtain rfl:k=K.length:=by omega
   have HF:Hid (findI K (p0,p1,p2)=-1):=by
    show _=_;have:=HNM.out;rw [List.take_length] at this;unfold findI;rw [if_neg this]
   clear HNM HRD;go_wp2_with fail
   go_ret
   exact ⟨by rw [HF.out];rfl,HU2.out⟩
end Go.Proofs.YtcikldoaidmnhaaGreatDoor
namespace Go.Proofs.YtcikldoaidmnhaaGreatDoor
open Go Go.RowKit Pk
set_option maxRecDepth 100000
theorem results_ct {fn:Func} {t p:Tmp} {ty2:TypeId} (h:fn.results=#[.cell t ty2,.tmp p]) (tmps:Array Value) {P:Program} {w:World} {a2:Addr} {x2:Value} (ht:tmps.getD t undef=.pointer (some a2)) (hl2:(loadVar ty2 a2).run P w=.ok x2 w) :
  (results fn tmps).run P w=.ok (.tuple #[x2,tmps.getD p undef]) w:=by
 have ht':tmps[t]?.getD undef=.pointer (some a2):=by simpa using ht
 simp only [results,h];simp [Result.andThen,asAddr,ht',hl2]
theorem load_pt {w:World} {xb:Nat} {a b c:Value} (h:w.heap[xb]?=some (.cells #[a,b,c] 43 (0,0))):(loadVar 43 ⟨xb,0,none⟩).run Tryz.prog w=.ok (.agg #[a,b,c]) w:=
 run_loadVar_row w xb 43 43 #[a,b,c] (0,0) _ h Tryz.underlying43 rfl (by kernel_rfl)
theorem third_app {a b:List Tri} {p q:Pt} (h:third a p q=none):third (a++b) p q=third b p q:=by
 induction a with
 | nil=>rfl
 | cons t r ih=>
  rw [third] at h;rw [List.cons_append,third];split at h
  ·cases h
  ·rename_i h1
   rw [if_neg h1];split at h
   ·cases h
   ·rename_i h2
    rw [if_neg h2];split at h
    ·cases h
    ·rename_i h3
     rw [if_neg h3];exact ih h
def edgeAt (t:Tri) (p q:Pt) (j:Nat):Prop:=cornAt t j=p∧cornAt t ((j+1) % 3)=q
instance (t:Tri) (p q:Pt) (j:Nat):Decidable (edgeAt t p q j):=by unfold edgeAt;infer_instance
theorem third_hit {l:List Tri} {p q:Pt} {k j:Nat} (hk:k<l.length) (hj:j<3) (h:third (l.take k) p q=none) (hn:∀i,i<j→¬edgeAt l[k] p q i) (he:edgeAt l[k] p q j):third l p q=some (cornAt l[k] ((j+2) % 3)):=by
 have e:l=l.take k++l[k] :: l.drop (k+1):=by
  conv=>lhs;rw [←List.take_append_drop k l,List.drop_eq_getElem_cons hk]
 generalize l[k]=t at *;rw [e,third_app h,third];unfold edgeAt at hn he;rcases (by omega:j=0∨j=1∨j=2) with rfl | rfl | rfl
 ·have a0:t.1=p∧t.2.1=q:=he;rw [if_pos a0];rfl
 ·have n0:¬(t.1=p∧t.2.1=q):=hn 0 (by omega);have a1:t.2.1=p∧t.2.2=q:=he;rw [if_neg n0,if_pos a1];rfl
 ·have n0:¬(t.1=p∧t.2.1=q):=hn 0 (by omega);have n1:¬(t.2.1=p∧t.2.2=q):=hn 1 (by omega);have a2:t.2.2=p∧t.1=q:=he;rw [if_neg n0,if_neg n1,if_pos a2];rfl
theorem third_skip {l:List Tri} {p q:Pt} {k:Nat} (hk:k<l.length) (h:third (l.take k) p q=none) (hn:∀i,i<3→¬edgeAt l[k] p q i):third (l.take (k+1)) p q=none:=by
 rw [List.take_succ_eq_append_getElem hk,third_app h,third];unfold edgeAt at hn;have n0:¬(l[k].1=p∧l[k].2.1=q):=hn 0 (by omega);have n1:¬(l[k].2.1=p∧l[k].2.2=q):=hn 1 (by omega);have n2:¬(l[k].2.2=p∧l[k].1=q):=hn 2 (by omega);rw [if_neg n0,if_neg n1,if_neg n2];rfl
theorem tri_corner {w:World} {b o:Nat} {t:Tri} (h:kTri.At w b o t) {c:Nat} (hc:c<3):w.cell? ⟨b,o+c*3,none⟩=some (.int .i64 (cornAt t c).1)∧w.cell? ⟨b,o+c*3+1,none⟩=some (.int .i64 (cornAt t c).2.1)∧w.cell? ⟨b,o+c*3+2,none⟩=some (.int .i64 (cornAt t c).2.2):=by
 obtain ⟨g0,g1,g2,g3,g4,g5,g6,g7,g8⟩:=triAt9 h;rcases (by omega:c=0∨c=1∨c=2) with rfl | rfl | rfl
 ·exact ⟨g0,g1,g2⟩
 ·exact ⟨g3,g4,g5⟩
 ·exact ⟨g6,g7,g8⟩
theorem wpT_skip {P:Program} {ops:Array Oper} {C:World→Prop} {Q:Exit→Act→World→Prop} {L:Act→World→Prop} {r:OT} {a:Act} {w:World} {i:Nat} {o:Oper}
  (ho:ops[i]?=some o) (hg:Region.wanted o (yielded ops a.tmps)=false) (h:wpT P ops Q L r C (a.put o.dst undef) w):wpT P ops Q L (.sure i r) C a w:=⟨o,undef,ho,.inr ⟨hg,rfl⟩,h⟩
theorem pt_ne {q0 q1 q2 p0 p1 p2:Int} (he:¬((q0,q1,q2):Pt)=(p0,p1,p2)):q0≠p0∨(q0=p0∧q1≠p1)∨(q0=p0∧q1=p1∧q2≠p2):=by
 by_cases e0:q0=p0
 ·by_cases e1:q1=p1
  ·exact .inr (.inr ⟨e0,e1,fun e2=>he (by rw [e0,e1,e2])⟩)
  ·exact .inr (.inl ⟨e0,e1⟩)
 ·exact .inl e0
set_option maxHeartbeats 4000000 in
theorem jthird_any (v:Value) (l:List Tri) (p q:Pt) (hn:l.length≤1000000) (w:World) (h:kTri.Rd w v l):Calls Tryz.prog 58 #[v,ptV p,ptV q] w fun en w'=>en=.returned (.tuple #[ptV ((third l p q).getD p),.bool (third l p q).isSome])∧Upd noBlk w w':=by
 obtain ⟨A,cap,rfl,hcap,hx⟩:=h;obtain ⟨R,hR⟩:∃R,R=third l p q:=⟨_,rfl⟩;rw [←hR];have HR:=Lib.hid hR;have HX:=Lib.hid hx;have hn':(l.length:Int)≤1000000:=by omega
 obtain ⟨p0,p1,p2⟩:=p;obtain ⟨q0,q1,q2⟩:=q;clear hx hR hn;obtain ⟨w1,hw1⟩:∃w1,w1=((w.alloc (.cells #[.int .i64 p0,.int .i64 p1,.int .i64 p2] 43)).alloc (.cells #[.int .i64 q0,.int .i64 q1,.int .i64 q2] 43)).alloc (.cells #[.int .i64 0,.int .i64 0,.int .i64 0] 43):=⟨_,rfl⟩;have HU:Hid (Upd noBlk w w1):=by show Upd _ _ _;rw [hw1];exact (((Upd.refl _ w).alloc _).alloc _).alloc _
 have HP:Hid (w1.heap[w.heap.size]?=some (.cells #[.int .i64 p0,.int .i64 p1,.int .i64 p2] 43 (0,0))):=by show _=_;rw [hw1];exact (((Upd.refl noBlk _).alloc _).alloc _).heap (heap_alloc_new w _) id
 have HQ:Hid (w1.heap[w.heap.size+1]?=some (.cells #[.int .i64 q0,.int .i64 q1,.int .i64 q2] 43 (0,0))):=by
  show _=_;rw [hw1,←World.size_alloc w (.cells #[.int .i64 p0,.int .i64 p1,.int .i64 p2] 43)];exact ((Upd.refl noBlk _).alloc _).heap (heap_alloc_new _ _) id
 have HZ:Hid (w1.heap[w.heap.size+1+1]?=some (.cells #[.int .i64 0,.int .i64 0,.int .i64 0] 43 (0,0))):=by
  show _=_;rw [hw1,←World.size_alloc w (.cells #[.int .i64 p0,.int .i64 p1,.int .i64 p2] 43),←World.size_alloc _ (.cells #[.int .i64 q0,.int .i64 q1,.int .i64 q2] 43)];exact heap_alloc_new _ _
 obtain ⟨qb,hqb⟩:∃qb,qb=w.heap.size+1:=⟨_,rfl⟩;obtain ⟨rb,hrb⟩:∃rb,rb=w.heap.size+1+1:=⟨_,rfl⟩;have HRB:Hid (w.heap.size≤rb):=by show _≤_;omega
 obtain ⟨pb,hpb⟩:∃pb,pb=w.heap.size:=⟨_,rfl⟩;rw [←hrb] at HZ;rw [←hqb] at HQ;rw [←hpb] at HP;unfold ptV;go_enter Tryz.func58,Tryz.ntmps58
 go_upto_region 1 with fail
 rw [←hw1,←hrb,←hqb,←hpb];clear hw1 hrb hqb hpb;go_wp2_with fail
 go_loopw [8] (fun i wr=>∃k:Nat,i=.int .i64 k∧k≤l.length∧third (l.take k) (p0,p1,p2) (q0,q1,q2)=none∧Upd noBlk w1 wr) (fun i _=>l.length-(intOf i).toNat)
 case atStart=>exact ⟨0,rfl,Nat.zero_le _,rfl,Upd.refl _ _⟩
 case round=>
  obtain ⟨k,rfl,hk,ht,hu⟩:=hrel;have HT:=Lib.hid ht;have HV:=Lib.hid hu;clear ht hu;by_cases hlt:k<l.length
  ·have hlt':(k:Int)<(l.length:Int):=by omega
   obtain ⟨b,off,rfl,f1⟩:=HX.out (by omega);have hat:=f1 k hlt;rw [show kTri.k=9 from rfl] at hat;have HAT:=Lib.hid (hat.keep HU.out);have HHIT:Hid (∀j,j<3→(∀i,i<j→¬edgeAt l[k] (p0,p1,p2) (q0,q1,q2) i)→edgeAt l[k] (p0,p1,p2) (q0,q1,q2) j→R=some (cornAt l[k] ((j+2) % 3))):=fun j hj h1 h2=>HR.out.trans (third_hit hlt hj HT.out h1 h2);have HSKP:Hid ((∀i,i<3→¬edgeAt l[k] (p0,p1,p2) (q0,q1,q2) i)→third (l.take (k+1)) (p0,p1,p2) (q0,q1,q2)=none):=fun h1=>third_skip hlt HT.out h1;have HK:Hid (k<l.length):=hlt;clear hat f1 hk;generalize l[k]=t at *;clear hlt;have hkw:IntKind.i64.wrap ((k:Int)+1)=(k:Int)+1:=wrapN (by omega) (by omega);go_wp2_with fail
   go_loopw [9] (fun i wz=>∃j:Nat,i=.int .i64 j∧j≤3∧(∀i,i<j→¬edgeAt t (p0,p1,p2) (q0,q1,q2) i)∧Upd noBlk w1 wz) (fun i _=>3-(intOf i).toNat)
   case atStart=>exact ⟨0,rfl,Nat.zero_le _,fun i hi=>absurd hi (Nat.not_lt_zero _),HV.out⟩
   case round=>
    obtain ⟨j,rfl,hj,hne,hu⟩:=hrel;have HNE:=Lib.hid hne;have HV:=Lib.hid hu;have HPZ:=Lib.hid (hu.heap HP.out id);have HQZ:=Lib.hid (hu.heap HQ.out id);have HZZ:=Lib.hid (hu.heap HZ.out id);have HA:=Lib.hid (HAT.out.keep hu);clear hne hu;by_cases hj3:j<3
    ·have hj3':(j:Int)<3:=by omega
     obtain ⟨j1,hj1⟩:∃j1,j1=(j+1) % 3:=⟨_,rfl⟩;obtain ⟨j2,hj2⟩:∃j2,j2=(j+2) % 3:=⟨_,rfl⟩;have hw1':IntKind.i64.wrap ((j:Int)+1)=(j:Int)+1:=wrapN (by omega) (by omega);have hw2':IntKind.i64.wrap ((j:Int)+2)=(j:Int)+2:=wrapN (by omega) (by omega);have ht1:((j:Int)+1).tmod 3=(j1:Int):=by rw [Int.tmod_eq_emod_of_nonneg (by omega)];omega
     have ht2:((j:Int)+2).tmod 3=(j2:Int):=by rw [Int.tmod_eq_emod_of_nonneg (by omega)];omega
     have he1:((j:Int)+1) % 3=(j1:Int):=by omega
     have he2:((j:Int)+2) % 3=(j2:Int):=by omega
     have hjl1:(j1:Int)<3:=by omega
     have hjl2:(j2:Int)<3:=by omega
     have HJ:Hid (j<3):=hj3;have HC0:=Lib.hid (tri_corner HA.out hj3);have HC1:=Lib.hid (tri_corner (c:=j1) HA.out (by omega));have HC2:=Lib.hid (tri_corner (c:=j2) HA.out (by omega));have HH:Hid (cornAt t j=(p0,p1,p2)→cornAt t j1=(q0,q1,q2)→R=some (cornAt t j2)):=fun h1 h2=>by rw [hj2];exact HHIT.out j hj3 HNE.out ⟨h1,by rw [←hj1];exact h2⟩
     have HN:Hid (¬(cornAt t j=(p0,p1,p2)∧cornAt t j1=(q0,q1,q2))→∀i,i<j+1→¬edgeAt t (p0,p1,p2) (q0,q1,q2) i):=fun h1 i hi=>by
      by_cases e:i=j
      ·subst e;intro h2;exact h1 ⟨h2.1,by rw [hj1];exact h2.2⟩
      ·exact HNE.out i (by omega)
     clear hj1 hj2 hj hj3;generalize cornAt t j=c at *;generalize cornAt t j1=d at *;generalize cornAt t j2=e at *;obtain ⟨c0,c1,c2⟩:=c;obtain ⟨d0,d1,d2⟩:=d;obtain ⟨e0,e1,e2⟩:=e;simp only at HC0 HC1 HC2;have hmem:∀w',Gr wr w'→(w'.cell? ⟨b,off+k*9+j*3,none⟩=some (.int .i64 c0)∧w'.cell? ⟨b,off+k*9+j*3+1,none⟩=some (.int .i64 c1)∧w'.cell? ⟨b,off+k*9+j*3+2,none⟩=some (.int .i64 c2))∧(w'.cell? ⟨b,off+k*9+j1*3,none⟩=some (.int .i64 d0)∧w'.cell? ⟨b,off+k*9+j1*3+1,none⟩=some (.int .i64 d1)∧w'.cell? ⟨b,off+k*9+j1*3+2,none⟩=some (.int .i64 d2)):=fun w' hw'=>
      ⟨⟨hw'.cell HC0.out.1 id,hw'.cell HC0.out.2.1 id,hw'.cell HC0.out.2.2 id⟩,⟨hw'.cell HC1.out.1 id,hw'.cell HC1.out.2.1 id,hw'.cell HC1.out.2.2 id⟩⟩
     have HM:=Lib.hid hmem;clear hmem;go_wp2_with fail
     refine wp_region_tree 19 (OT.sures [0,1,2,6,3,4,5,7,8,9,10,11,12,13,14,15,16,17,18] .nil) (fun w'=>Gr wr w') (by kernel_rfl) (by kernel_rfl) (fun c a d v w h=>by cases d<;>exact h) ((Gr.refl wr).drew) ?_
     simp only [OT.sures]
     iterate 7 (apply wpT_sure rfl rfl;focus (intro w' hw';obtain ⟨⟨m0,m1,m2⟩,⟨n0,n1,n2⟩⟩:=HM.out w' hw';obtain ⟨⟨x0,x1,x2⟩,_⟩:=cellsF3 (hw'.heap HPZ.out id);obtain ⟨⟨y0,y1,y2⟩,_⟩:=cellsF3 (hw'.heap HQZ.out id);go_simp;rfl))
     by_cases hc:((c0,c1,c2):Pt)=(p0,p1,p2)
     ·have HD:Hid (((d0,d1,d2):Pt)=(q0,q1,q2)→R=some (e0,e1,e2)):=fun hd=>HH.out hc hd;have HDN:Hid (¬((d0,d1,d2):Pt)=(q0,q1,q2)→∀i,i<j+1→¬edgeAt t (p0,p1,p2) (q0,q1,q2) i):=fun hd=>HN.out (fun h=>hd h.2);clear HH HN;cases hc;refine wpT_sure rfl rfl (.bool true) (fun w' hw'=>by go_simp;try rfl) ?_;apply wpT_sure rfl rfl;focus (intro w' hw';go_simp;rfl)
      iterate 9 (refine wpT_sureG rfl (by go_simp) _ (fun w' hw'=>by obtain ⟨⟨m0,m1,m2⟩,⟨n0,n1,n2⟩⟩:=HM.out w' hw';obtain ⟨⟨x0,x1,x2⟩,_⟩:=cellsF3 (hw'.heap HPZ.out id);obtain ⟨⟨y0,y1,y2⟩,_⟩:=cellsF3 (hw'.heap HQZ.out id);go_simp;rfl) ?_)
      by_cases hd:((d0,d1,d2):Pt)=(q0,q1,q2)
      ·have HF:=Lib.hid (HD.out hd);clear HD HDN;cases hd;refine wpT_sureG rfl (by go_simp) (.bool true) (fun w' hw'=>by go_simp;try rfl) ?_;refine wpT_nil ?_;obtain ⟨r0,r1,r2⟩:=HC2.out;obtain ⟨_,⟨f0,f1,f2⟩⟩:=cellsF3 HZZ.out;obtain ⟨⟨z0,z1,z2⟩,_⟩:=cellsF3 HZZ.out;go_wp2_with fail
       have HS:=set3 (y0:=.int .i64 e0) (y1:=.int .i64 e1) (y2:=.int .i64 e2) HZZ.out;have HUS:=upd3 (HU.out.trans HV.out) HRB.out (.int .i64 e0) (.int .i64 e1) (.int .i64 e2)
       (try simp only [Exit.inBlock,Exit.then])
       refine bodyPost_ret (results_ct rfl _ rfl (load_pt (by exact HS))) rfl ?_;exact ⟨by rw [HF.out];rfl,HUS.drew⟩
      ·have HNX:=Lib.hid (HDN.out hd);clear HD HDN HC2;refine wpT_sureG rfl (by go_simp) (.bool false) (fun w' hw'=>by rcases pt_ne hd with e0 | ⟨rfl,e1⟩ | ⟨rfl,rfl,e2⟩<;>(go_simp;try rfl)) ?_
       clear hd;refine wpT_nil ?_;go_wp2_with fail
       exact ⟨⟨j+1,by push_cast;rfl,HJ.out,HNX.out,HV.out.drew⟩,by simp only [intOf];have:=HJ.out;omega⟩
     ·have HNX:=Lib.hid (HN.out (fun h=>hc h.1));clear HH HN HC2;refine wpT_sure rfl rfl (.bool false) (fun w' hw'=>by rcases pt_ne hc with e0 | ⟨rfl,e1⟩ | ⟨rfl,rfl,e2⟩<;>(go_simp;try rfl)) ?_
      clear hc;apply wpT_sure rfl rfl;focus (intro w' hw';go_simp;rfl)
      iterate 10 (refine wpT_skip rfl (by go_simp) ?_)
      refine wpT_nil ?_;go_wp2_with fail
      exact ⟨⟨j+1,by push_cast;rfl,HJ.out,HNX.out,HV.out.drew⟩,by simp only [intOf];have:=HJ.out;omega⟩
    ·obtain rfl:j=3:=by omega
     have HNX:=Lib.hid (HSKP.out HNE.out);go_wp2_with fail
     exact ⟨⟨k+1,by push_cast;rfl,HK.out,HNX.out,HV.out⟩,by simp only [intOf];have:=HK.out;omega⟩
  ·obtain rfl:k=l.length:=by omega
   have HF:Hid (R=none):=by
    show _=_;have:=HT.out;rw [List.take_length] at this;rw [HR.out];exact this
   have HPZ:=Lib.hid (HV.out.heap HP.out id);have HZZ:=Lib.hid (HV.out.heap HZ.out id);obtain ⟨⟨x0,x1,x2⟩,_⟩:=cellsF3 HPZ.out;obtain ⟨_,⟨f0,f1,f2⟩⟩:=cellsF3 HZZ.out;obtain ⟨⟨z0,z1,z2⟩,_⟩:=cellsF3 HZZ.out;go_wp2_with fail
   have HS:=set3 (y0:=.int .i64 p0) (y1:=.int .i64 p1) (y2:=.int .i64 p2) HZZ.out;have HUS:=upd3 (HU.out.trans HV.out) HRB.out (.int .i64 p0) (.int .i64 p1) (.int .i64 p2)
   (try simp only [Exit.inBlock,Exit.then])
   refine bodyPost_ret (results_ct rfl _ rfl (load_pt (by exact HS))) rfl ?_;exact ⟨by rw [HF.out];rfl,HUS⟩
end Go.Proofs.YtcikldoaidmnhaaGreatDoor
