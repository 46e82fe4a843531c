/- Parts: The state of the reference's walk in memory: what is known, its triangles and gates. No condition. The triangles of a shape are small. No condition. Walks of the reference's coder: Mod, split, take. Walks of the reference's coder: carried. Walks of the reference's coder: the reader's Bit. -/
import Derived.Test.YtcikldoaidmnhaaGreatDoorQOpen9
import Derived.Test.YtcikldoaidmnhaaGreatDoorQOpen13
import Derived.Test.YtcikldoaidmnhaaGreatDoorQOpen25
namespace Go.Proofs.YtcikldoaidmnhaaGreatDoor
open Go Go.RowKit Pk
def smP (p:Pt):Prop:=(0≤p.1∧p.1≤10000000)∧(0≤p.2.1∧p.2.1≤10000000)∧(0≤p.2.2∧p.2.2≤10000000)
def smT (t:Tri):Prop:=smP t.1∧smP t.2.1∧smP t.2.2
theorem smP_z:smP (0,0,0):=⟨⟨by decide,by decide⟩,⟨by decide,by decide⟩,⟨by decide,by decide⟩⟩
theorem smT_z:smT z3:=⟨smP_z,smP_z,smP_z⟩
theorem smT_ok {t:Tri} (h:smT t):okT t:=by
 obtain ⟨⟨a,b,c⟩,⟨d,e,f⟩,⟨g,i,j⟩⟩:=h;refine ⟨⟨?_,?_,?_⟩,⟨?_,?_,?_⟩,⟨?_,?_,?_⟩⟩<;>(first | omega | (constructor<;>omega))
theorem getD_sm {l:List Tri} (h:∀t,t∈l→smT t) (i:Nat):smT (l.getD i z3):=by
 rw [List.getD_eq_getElem?_getD];cases hg:l[i]? with
 | none=>exact smT_z
 | some t=>exact h t (List.mem_of_getElem? hg)
theorem quad_sm {a b c d:Pt} (ha:smP a) (hb:smP b) (hc:smP c) (hd:smP d):∀t,t∈quadT a b c d→smT t:=by
 intro t ht;simp only [quadT,List.mem_cons,List.not_mem_nil,or_false] at ht;rcases ht with rfl | rfl
 ·exact ⟨ha,hb,hc⟩
 ·exact ⟨ha,hc,hd⟩
theorem app_sm {a b:List Tri} (ha:∀t,t∈a→smT t) (hb:∀t,t∈b→smT t):∀t,t∈a++b→smT t:=fun t ht=>(List.mem_append.1 ht).elim (ha t) (hb t)
theorem small_mul {a b s:Int} (ha:0≤a) (hab:a≤b) (hs:0≤s) (hm:s≤1000000) (hb:b≤8):0≤a*s∧a*s≤8000000:=
 ⟨Int.mul_nonneg ha hs,Int.le_trans (Int.mul_le_mul (by omega:a≤8) hm hs (by decide)) (by decide)⟩
theorem cubeP_sm {p:Pt} {s:Int} (hp:(0≤p.1∧p.1≤1900000)∧(0≤p.2.1∧p.2.1≤1900000)∧(0≤p.2.2∧p.2.2≤1900000)) (h0:0≤s) (h1:s≤1000000) (n:Nat) (hn:n<8):smP (cubeP p s n):=by
 obtain ⟨⟨a,b⟩,⟨c,d⟩,⟨e,f⟩⟩:=hp;have k1:=small_mul (a:=((n % 2:Nat):Int)) (b:=8) (by omega) (by omega) h0 h1 (by decide);have k2:=small_mul (a:=((n / 2 % 2:Nat):Int)) (b:=8) (by omega) (by omega) h0 h1 (by decide);have k3:=small_mul (a:=((n / 4:Nat):Int)) (b:=8) (by omega) (by omega) h0 h1 (by decide);unfold cubeP smP;simp only;generalize ((n % 2:Nat):Int)*s=x at *;generalize ((n / 2 % 2:Nat):Int)*s=y at *;generalize ((n / 4:Nat):Int)*s=z at *;omega
theorem cube_sm {p:Pt} {s:Int} (hp:(0≤p.1∧p.1≤1900000)∧(0≤p.2.1∧p.2.1≤1900000)∧(0≤p.2.2∧p.2.2≤1900000)) (h0:0≤s) (h1:s≤1000000):∀t,t∈cubeT p s→smT t:=by
 have h:=fun n hn=>cubeP_sm hp h0 h1 n hn;unfold cubeT;exact app_sm (app_sm (app_sm (app_sm (app_sm (quad_sm (h 0 (by decide)) (h 2 (by decide)) (h 3 (by decide)) (h 1 (by decide))) (quad_sm (h 4 (by decide)) (h 5 (by decide)) (h 7 (by decide)) (h 6 (by decide)))) (quad_sm (h 0 (by decide)) (h 1 (by decide)) (h 5 (by decide)) (h 4 (by decide)))) (quad_sm (h 2 (by decide)) (h 6 (by decide)) (h 7 (by decide)) (h 3 (by decide)))) (quad_sm (h 0 (by decide)) (h 4 (by decide)) (h 6 (by decide)) (h 2 (by decide)))) (quad_sm (h 1 (by decide)) (h 3 (by decide)) (h 7 (by decide)) (h 5 (by decide)))
theorem voxels_sm {b s:Int} (h0:0≤s) (h1:s≤600000):∀t,t∈voxelsT b s (7,5,0)→smT t:=by
 intro t ht;obtain ⟨n,hn,ht⟩:=List.mem_flatMap.1 ht;have hn:=List.mem_range.1 hn;unfold cubeV at ht;split at ht
 ·obtain ⟨f,_,ht⟩:=List.mem_flatMap.1 ht;have k1:0≤((n % 3:Nat):Int)*s∧((n % 3:Nat):Int)*s≤1200000:=⟨Int.mul_nonneg (by omega) h0,Int.le_trans (Int.mul_le_mul (by omega:((n % 3:Nat):Int)≤2) h1 h0 (by decide)) (by decide)⟩;have k2:0≤((n / 3 % 3:Nat):Int)*s∧((n / 3 % 3:Nat):Int)*s≤1200000:=⟨Int.mul_nonneg (by omega) h0,Int.le_trans (Int.mul_le_mul (by omega:((n / 3 % 3:Nat):Int)≤2) h1 h0 (by decide)) (by decide)⟩;have k3:0≤((n / 9:Nat):Int)*s∧((n / 9:Nat):Int)*s≤1200000:=⟨Int.mul_nonneg (by omega) h0,Int.le_trans (Int.mul_le_mul (by omega:((n / 9:Nat):Int)≤2) h1 h0 (by decide)) (by decide)⟩;have hc:=cube_sm (p:=pointV s (7,5,0) n) (s:=s) (by
   unfold pointV;simp only;generalize ((n % 3:Nat):Int)*s=x at *;generalize ((n / 3 % 3:Nat):Int)*s=y at *;generalize ((n / 9:Nat):Int)*s=z at *;omega) h0 (by omega)
  unfold sideV at ht;split at ht
  ·cases ht
  ·simp only [List.mem_cons,List.not_mem_nil,or_false] at ht;rcases ht with rfl | rfl
   ·exact getD_sm hc _
   ·exact getD_sm hc _
 ·cases ht
theorem hillP_sm {s:Int} (hs:List Int) (h0:0≤s) (h1:s≤1000) (x y:Nat) (hx:x≤8) (hy:y≤8):smP (hillP x y s hs):=by
 have k1:=small_mul (a:=(x:Int)) (b:=8) (by omega) (by omega) h0 (by omega) (by decide);have k2:=small_mul (a:=(y:Int)) (b:=8) (by omega) (by omega) h0 (by omega) (by decide);have k3:=modI_range (n:=hs.getD ((y*7+x) % hs.length) 0) (m:=64) (by decide);unfold hillP smP;simp only;generalize (x:Int)*s=a at *;generalize (y:Int)*s=b at *;split<;>omega
theorem hills_sm {n s:Int} (hs:List Int) (h0:0≤s) (h1:s≤1000):∀t,t∈hillsT n s hs→smT t:=by
 intro t ht;have h6:=hillsN_le n;obtain ⟨y,hy,ht⟩:=List.mem_flatMap.1 ht;obtain ⟨x,hx,ht⟩:=List.mem_flatMap.1 ht;have hy:=List.mem_range.1 hy;have hx:=List.mem_range.1 hx;exact quad_sm (hillP_sm hs h0 h1 x y (by omega) (by omega)) (hillP_sm hs h0 h1 (x+1) y (by omega) (by omega)) (hillP_sm hs h0 h1 (x+1) (y+1) (by omega) (by omega)) (hillP_sm hs h0 h1 x (y+1) (by omega) (by omega)) t ht
theorem set_sm {l:List Tri} (h:∀t,t∈l→smT t) (k:Nat) {x:Tri} (hx:smT x):∀t,t∈l.set k x→smT t:=fun t ht=>(List.mem_or_eq_of_mem_set ht).elim (h t) (fun e=>e ▸ hx)
theorem one_sm {x:Tri} (hx:smT x):∀t,t∈[x]→smT t:=fun t ht=>by rw [List.mem_singleton.1 ht];exact hx
theorem spoil_sm {l:List Tri} (h:∀t,t∈l→smT t) (q0 q1 q2:Int):∀t,t∈spoilT l q0 q1 q2→smT t:=by
 by_cases hl:l=[]
 ·subst hl;intro t ht;cases ht
 ·rw [spoilT_eq _ _ _ _ hl];generalize (modI q0 12).toNat=m;generalize (modI q1 l.length).toNat=k;generalize (modI q2 l.length).toNat=j;have hk:=getD_sm h k;have hj:=getD_sm h j;unfold spoilM;simp only;generalize l.getD k z3=u at *;generalize l.getD j z3=v at *;obtain ⟨a,b,c⟩:=hk;obtain ⟨d,e,f⟩:=hj;split
  ·exact app_sm (fun t ht=>h t (List.mem_of_mem_take ht)) (fun t ht=>h t (List.mem_of_mem_drop ht))
  ·exact set_sm h k ⟨a,c,b⟩
  ·exact app_sm h (one_sm ⟨d,e,f⟩)
  ·exact set_sm h k ⟨e,b,c⟩
  ·exact set_sm h k ⟨a,a,c⟩
  ·exact app_sm h (one_sm ⟨a,c,b⟩)
  ·intro t ht;obtain ⟨s,hs,rfl⟩:=List.mem_map.1 ht;obtain ⟨x,y,z⟩:=h s hs;refine ⟨?_,?_,?_⟩
   ·show smP (if s.1=v.2.2 then u.1 else s.1);split;exact a;exact x
   ·show smP (if s.2.1=v.2.2 then u.1 else s.2.1);split;exact a;exact y
   ·show smP (if s.2.2=v.2.2 then u.1 else s.2.2);split;exact a;exact z
  ·exact fun t ht=>h t (List.mem_of_mem_take ht)
  ·exact set_sm h k ⟨c,a,b⟩
  ·exact h
theorem SV.small (x:SV):∀t,t∈x.tris→smT t:=by
 have hb:∀t,t∈x.base→smT t:=by
  unfold SV.base;split
  ·exact hills_sm _ (by omega) (by omega)
  ·exact voxels_sm (by omega) (by omega)
 unfold SV.tris;split
 ·intro t ht;cases ht
 ·exact spoil_sm (fun t ht=>hb t (List.mem_of_mem_drop (List.mem_of_mem_take ht))) _ _ _
theorem SV.okT (x:SV):∀t,t∈x.tris→okT t:=fun t ht=>smT_ok (x.small t ht)
end Go.Proofs.YtcikldoaidmnhaaGreatDoor
namespace Go.Proofs.YtcikldoaidmnhaaGreatDoor
open Go Go.RowKit Pk
set_option maxRecDepth 100000
noncomputable def kGate3:Kd Tryz.prog Gate:={ T:=44,S:=118,k:=9,bytes:=72,enc:=triC,len:=fun _=>rfl,one:=kTri.one,pos:=by decide,small:=by decide,und:=Tryz.underlying118,info:=kinfo_of (by kernel_rfl) }
structure JComp (w:World) (S:Wk) (vK vT vG:Value):Prop where
 known:kPt.Own 0 w vK S.known
 tris:kTri.Own 0 w vT S.tris
 gates:kGate3.Que 0 w vG S.gates
structure JLive (w:World) (b:Nat) (S:Wk) (vK vT vG:Value):Prop where
 blk:w.heap[b]?=some (.cells #[vK,vT,vG] 120 (0,0))
 comp:JComp w S vK vT vG
def jFoot (b:Nat) (vK vT vG:Value):Nat→Prop:=fun k=>k=b∨vK.ownBlock=some k∨vT.ownBlock=some k∨vG.ownBlock=some k
def JRep (w:World) (b:Nat) (S:Wk) (G:Nat→Prop):Prop:=∃vK vT vG,JLive w b S vK vT vG∧G=jFoot b vK vT vG
theorem JComp.keepB {w w':World} {S:Wk} {vK vT vG:Value} (h:JComp w S vK vT vG) (hk:∀k,vK.ownBlock=some k∨vT.ownBlock=some k∨vG.ownBlock=some k→w'.heap[k]?=w.heap[k]?):JComp w' S vK vT vG:=
 ⟨own_keepB h.known (fun g hg=>hk g (.inl hg)),own_keepB h.tris (fun g hg=>hk g (.inr (.inl hg))),h.gates.keepB (fun g hg=>hk g (.inr (.inr hg)))⟩
theorem JLive.keepB {w w':World} {b:Nat} {S:Wk} {vK vT vG:Value} (h:JLive w b S vK vT vG) (hk:∀k,jFoot b vK vT vG k→w'.heap[k]?=w.heap[k]?):JLive w' b S vK vT vG:=
 ⟨(hk b (.inl rfl)).trans h.blk,h.comp.keepB (fun k hk'=>hk k (.inr hk'))⟩
theorem JRep.keepB {w w':World} {b:Nat} {S:Wk} {G:Nat→Prop} (h:JRep w b S G) (hk:∀k,G k→w'.heap[k]?=w.heap[k]?):JRep w' b S G:=by
 obtain ⟨vK,vT,vG,h1,rfl⟩:=h;exact ⟨vK,vT,vG,h1.keepB hk,rfl⟩
theorem JLive.lt {w:World} {b:Nat} {S:Wk} {vK vT vG:Value} (h:JLive w b S vK vT vG):∀k,jFoot b vK vT vG k→k<w.heap.size:=by
 rintro k (rfl | hk | hk | hk)
 ·exact lt_of_heap h.blk
 ·exact own_lt h.comp.known hk
 ·exact own_lt h.comp.tris hk
 ·exact que_lt h.comp.gates hk
theorem JRep.lt {w:World} {b:Nat} {S:Wk} {G:Nat→Prop} (h:JRep w b S G):∀k,G k→k<w.heap.size:=by
 obtain ⟨vK,vT,vG,h1,rfl⟩:=h;exact h1.lt
theorem JRep.upd {w w':World} {b:Nat} {S:Wk} {G F:Nat→Prop} (h:JRep w b S G) (hu:Upd F w w') (hd:∀k,G k→¬F k):JRep w' b S G:=h.keepB (fun k hk=>hu.block k (h.lt k hk) (hd k hk))
theorem JLive.upd {w w':World} {b:Nat} {S:Wk} {vK vT vG:Value} {F:Nat→Prop} (h:JLive w b S vK vT vG) (hu:Upd F w w') (hd:∀k,jFoot b vK vT vG k→¬F k):JLive w' b S vK vT vG:=h.keepB (fun k hk=>hu.block k (h.lt k hk) (hd k hk))
structure JNe (b:Nat) (vK vT vG:Value):Prop where
 k:vK.ownBlock≠some b
 t:vT.ownBlock≠some b
 g:vG.ownBlock≠some b
 kt:∀i,vK.ownBlock=some i→vT.ownBlock≠some i
 kg:∀i,vK.ownBlock=some i→vG.ownBlock≠some i
 gt:∀i,vG.ownBlock=some i→vT.ownBlock≠some i
theorem JComp.ne {w:World} {b:Nat} {S:Wk} {vK vT vG:Value} (h:JComp w S vK vT vG) {cs:Array Value} (hb:w.heap[b]?=some (.cells cs 120 (0,0))):JNe b vK vT vG:=by
 have tk:kPt.T=43:=rfl;have tg:kGate3.T=44:=rfl;have tt:kTri.T=45:=rfl;refine ⟨fun e=>?_,fun e=>?_,fun e=>?_,fun i e e'=>?_,fun i e e'=>?_,fun i e e'=>?_⟩
 ·obtain ⟨_,cur,hc⟩:=h.known.blk e;exact ne_obj hc hb (by rw [tk];simp) rfl
 ·obtain ⟨_,cur,hc⟩:=h.tris.blk e;exact ne_obj hc hb (by rw [tt];simp) rfl
 ·obtain ⟨_,cur,hc⟩:=h.gates.blk e;exact ne_obj hc hb (by rw [tg];simp) rfl
 ·obtain ⟨_,cur,hc⟩:=h.known.blk e;obtain ⟨_,cur',hc'⟩:=h.tris.blk e';exact ne_obj hc hc' (by rw [tk,tt];simp) rfl
 ·obtain ⟨_,cur,hc⟩:=h.known.blk e;obtain ⟨_,cur',hc'⟩:=h.gates.blk e';exact ne_obj hc hc' (by rw [tk,tg];simp) rfl
 ·obtain ⟨_,cur,hc⟩:=h.gates.blk e;obtain ⟨_,cur',hc'⟩:=h.tris.blk e';exact ne_obj hc hc' (by rw [tg,tt];simp) rfl
theorem JLive.ne {w:World} {b:Nat} {S:Wk} {vK vT vG:Value} (h:JLive w b S vK vT vG):JNe b vK vT vG:=h.comp.ne h.blk
theorem JLive.put {w:World} {b:Nat} {S:Wk} {vK vT vG:Value} {cs:Array Value} (hb:w.heap[b]?=some (.cells cs 120 (0,0))) (hc:JComp w S vK vT vG) (i:Nat) (v:Value) (hcs:cs.setIfInBounds i v=#[vK,vT,vG]) :
  JLive (w.setCell ⟨b,i,none⟩ v) b S vK vT vG:=by
 have hn:=hc.ne hb;refine ⟨by rw [heap_setCell_eq (i:=i) v hb,hcs],hc.keepB (fun k hk=>?_)⟩;refine heap_setCell_other w ⟨b,i,none⟩ k v (fun e=>?_);have e':k=b:=e;subst e';rcases hk with h | h | h
 ·exact hn.k h
 ·exact hn.t h
 ·exact hn.g h
def JPost (G:Nat→Prop) (w w':World) (b:Nat) (S:Wk):Prop:=∃G',JRep w' b S G'∧(∀k,G' k→G k∨w.heap.size≤k)∧Upd G w w'
end Go.Proofs.YtcikldoaidmnhaaGreatDoor
namespace Go.Proofs.YtcikldoaidmnhaaGreatDoor
open Go Go.RowKit Pc
set_option maxRecDepth 100000
theorem tmod_cases (c m:Int) (hm:0<m):c.tmod m=c % m∨c.tmod m=c % m-m:=by
 rw [Int.tmod_eq_emod];split
 ·left;omega
 ·right;omega
theorem mod_eq (c m:Int) (hm:0<m):(c.tmod m+m).tmod m=c % m:=by
 have h1:=Int.emod_nonneg c (show m≠0 by omega);have h2:=Int.emod_lt_of_pos c hm;rcases tmod_cases c m hm with h | h
 ·rw [h,Int.tmod_eq_emod_of_nonneg (by omega),Int.add_emod_right,Int.emod_emod_of_dvd _ (Int.dvd_refl m)]
 ·rw [h,Int.tmod_eq_emod_of_nonneg (by omega),Int.sub_add_cancel,Int.emod_emod_of_dvd _ (Int.dvd_refl m)]
theorem mod_wrap (c m:Int) (hm:0<m) (hb:m≤1000000):wrap64 (c.tmod m+m)=c.tmod m+m:=by
 have h1:=Int.emod_nonneg c (show m≠0 by omega);have h2:=Int.emod_lt_of_pos c hm;exact IntWalk.wrap64_in _ (by rcases tmod_cases c m hm with h | h<;>rw [h]<;>omega)
set_option maxHeartbeats 400000 in
theorem Mod_any (c m:Int) (hm:0<m) (hb:m≤1000000) (w:World):Calls Tryz.prog 148 #[.int .i64 c,.int .i64 m] w fun e w'=>e=.returned (.int .i64 (c % m))∧w=w':=by
 have e1:=mod_wrap c m hm hb;have e2:=mod_eq c m hm;have e3:(m == 0)=false:=by rw [beq_eq_false_iff_ne];omega
 have e4:¬m=-1:=by omega
 have h1:-9223372036854775808≤c.tmod m∧c.tmod m≤9223372036854775807:=by
  have h1:=Int.emod_nonneg c (show m≠0 by omega);have h2:=Int.emod_lt_of_pos c hm;rcases tmod_cases c m hm with h | h<;>rw [h]<;>omega
 go_enter Tryz.func148,Tryz.ntmps148
 go_wp2
 go_ret
 exact ⟨rfl,rfl⟩
structure MArr (arr:Array Value) (m:M):Prop where
 ws:∀i,i<4096→arr[i]?=some (.int .i64 (((m.p i:Nat):Int)-1024))
 sh:arr[4096]?=some (.int .i64 (4294967295-(m.size:Int)))
theorem MArr.size {arr:Array Value} {m:M} (h:MArr arr m):4096<arr.size:=(Array.getElem?_eq_some_iff.1 h.sh).1
theorem MArr.step {arr:Array Value} {m:M} (h:MArr arr m) (i:Nat) (hi:i<4096) (one:Bool) :
  MArr ((arr.setIfInBounds i (.int .i64 (((m.newp i one:Nat):Int)-1024))).setIfInBounds 4096 (.int .i64 (4294967295-(((m.step i one).size:Nat):Int)))) (m.step i one):=by
 have hs:=h.size;refine ⟨fun j hj=>?_,?_⟩
 ·rw [Array.getElem?_setIfInBounds_ne (by omega)];show _=some (Value.int .i64 (((upd m.p i (m.newp i one) j:Nat):Int)-1024));rw [Array.getElem?_setIfInBounds];unfold upd;by_cases e:i=j
  ·subst e;rw [if_pos rfl,if_pos rfl];simp;omega
  ·rw [if_neg e,if_neg (fun h=>e h.symm)];exact h.ws j hj
 ·rw [Array.getElem?_setIfInBounds_self_of_lt (by simpa using hs)]
theorem MArr.setFar {arr:Array Value} {m:M} (h:MArr arr m) {j:Nat} (hj:4096<j) (v:Value):MArr (arr.setIfInBounds j v) m:=
 ⟨fun i hi=>by rw [Array.getElem?_setIfInBounds_ne (by omega)];exact h.ws i hi,by rw [Array.getElem?_setIfInBounds_ne (by omega)];exact h.sh⟩
set_option maxHeartbeats 1000000 in
theorem rsplit_any (c:Int) (b:Nat) (m:M) (hm:m.Wf) (w:World) (arr:Array Value) (T:TypeId) (hb:w.heap[b]?=some (.cells arr T (0,0))) (h:MArr arr m) :
  Calls Tryz.prog 108 #[.pointer (some ⟨b,0,none⟩),.int .i64 c] w fun e w'=>e=.returned (.int .i64 ((m.split (ctx c):Nat):Int))∧∃n,w'=w.drewN n:=by
 have hc0:w.cell? ⟨b,ctx c,none⟩=some (.int .i64 (((m.p (ctx c):Nat):Int)-1024)):=by rw [cell_of_row w b _ _ _ _ hb];exact h.ws _ (ctx_lt c)
 have hc1:w.cell? ⟨b,4096,none⟩=some (.int .i64 (4294967295-(m.size:Int))):=by rw [cell_of_row w b _ _ _ _ hb];exact h.sh
 have hcx:=ctx_lt c;have hct:c % 4096=((ctx c:Nat):Int):=(ctx_cast c).symm;have s1:=hm.lo;have s2:=hm.hi;have s3:=hm.pl _ hcx;have s4:=hm.ph _ hcx;have sb:=M.split_bd hm hcx;have a1:4294967295-(4294967295-(m.size:Int))=(m.size:Int):=by omega
 have a2:1024+(((m.p (ctx c):Nat):Int)-1024)=((m.p (ctx c):Nat):Int):=by omega
 have a3:(m.size:Int) / 2048*((m.p (ctx c):Nat):Int)=((m.split (ctx c):Nat):Int):=by
  unfold M.split;rw [Int.natCast_mul];rfl
 have b1:(m.size:Int)≤4294967295:=by omega
 have b2:((m.p (ctx c):Nat):Int)≤2017:=by omega
 have b3:((m.split (ctx c):Nat):Int)≤4294967295:=by omega
 clear s1 s2 s3 s4 sb hb h hm;go_enter Tryz.func108,Tryz.ntmps108
 go_wp2_with (go_at_call 148;refine (Mod_any _ _ (by omega) (by omega) _).mono ?_;rintro e w' ⟨rfl,rfl⟩)
 go_quiet (fail)
 go_wp2
 go_ret
 exact ⟨rfl,_,rfl⟩
def smallV (v:Value):Nat:=if intOf v<16777216 then 1 else 0
theorem smallV_lt {k k':IntKind} {a b:Int} (h1:¬a<16777216) (h2:b<16777216):smallV (.int k a)<smallV (.int k' b):=by
 unfold smallV;show (if a<16777216 then 1 else 0)<(if b<16777216 then 1 else 0);rw [if_neg h1,if_pos h2];omega
def shiftN (b:Bool):Int:=if b then 1 else 0
set_option maxHeartbeats 1000000 in
theorem rtake_any (c:Int) (one:Bool) (b:Nat) (m:M) (hm:m.Wf) (w:World) (arr:Array Value) (T:TypeId) (hb:w.heap[b]?=some (.cells arr T (0,0))) (h:MArr arr m) :
  Calls Tryz.prog 110 #[.pointer (some ⟨b,0,none⟩),.int .i64 c,.bool one] w fun e w'=>e=.returned (.int .i64 (shiftN (m.shifts (ctx c) one))) ∧
   w'.heap[b]?=some (.cells ((arr.setIfInBounds (ctx c) (.int .i64 (((m.newp (ctx c) one:Nat):Int)-1024))).setIfInBounds 4096 (.int .i64 (4294967295-(((m.step (ctx c) one).size:Nat):Int)))) T (0,0))∧Upd (·=b) w w':=by
 have hc0:w.cell? ⟨b,ctx c,none⟩=some (.int .i64 (((m.p (ctx c):Nat):Int)-1024)):=by rw [cell_of_row w b _ _ _ _ hb];exact h.ws _ (ctx_lt c)
 have hc1:w.cell? ⟨b,4096,none⟩=some (.int .i64 (4294967295-(m.size:Int))):=by rw [cell_of_row w b _ _ _ _ hb];exact h.sh
 have hf0:=frozen_of_row w b (ctx c) _ _ hb;have hf1:=frozen_of_row w b 4096 _ _ hb;have hcx:=ctx_lt c;have hct:c % 4096=((ctx c:Nat):Int):=(ctx_cast c).symm;have rb:=M.raw_bd hm hcx one;have nb:=norm_bd rb.1 rb.2;have pb:=M.newp_bd hm hcx one;have sb:=M.split_bd hm hcx;have s2:=hm.hi;have s3:=hm.pl _ hcx;have s4:=hm.ph _ hcx;have a1:4294967295-(4294967295-(m.size:Int))=(m.size:Int):=by omega
 have a2:1024+(((m.p (ctx c):Nat):Int)-1024)=((m.p (ctx c):Nat):Int):=by omega
 have b1:(m.size:Int)≤4294967295:=by omega
 have b2:((m.p (ctx c):Nat):Int)≤2017:=by omega
 have b3:((m.split (ctx c):Nat):Int)≤(m.size:Int):=by omega
 have b4:((m.newp (ctx c) one:Nat):Int)≤2017:=by omega
 have b5:((m.raw (ctx c) one:Nat):Int)≤4294967295:=by omega
 have hfin:Hid (∀n W,W=(w.drewN n).setCell ⟨b,ctx c,none⟩ (.int .i64 (((m.newp (ctx c) one:Nat):Int)-1024)) →
   (W.setCell ⟨b,4096,none⟩ (.int .i64 (4294967295-(((m.step (ctx c) one).size:Nat):Int)))).heap[b]?=some (.cells ((arr.setIfInBounds (ctx c) (.int .i64 (((m.newp (ctx c) one:Nat):Int)-1024))).setIfInBounds 4096 (.int .i64 (4294967295-(((m.step (ctx c) one).size:Nat):Int)))) T (0,0)) ∧
   Upd (·=b) w (W.setCell ⟨b,4096,none⟩ (.int .i64 (4294967295-(((m.step (ctx c) one).size:Nat):Int))))):=by
  intro n W hW;subst hW;exact ⟨heap_setCell_eq (w:=(w.drewN n).setCell ⟨b,ctx c,none⟩ _) _ (heap_setCell_eq (w:=w.drewN n) _ hb),((Upd.ofDrewN (F:=(·=b)) w n).setCell (fun _=>rfl) _).setCell (fun _=>rfl) _⟩
 have hstep:Hid ((m.step (ctx c) one).size=norm (m.raw (ctx c) one)):=rfl;have hsh:Hid (m.shifts (ctx c) one=decide (m.raw (ctx c) one<16777216)):=rfl;have HB:=Lib.hid hb;have HH:=Lib.hid h;have RB:=Lib.hid rb;have NB:=Lib.hid nb;have hm':=Lib.hid hm;cases one
 ·have v1:((m.p (ctx c):Nat):Int)+(2048-((m.p (ctx c):Nat):Int)) / 32=((m.newp (ctx c) false:Nat):Int):=by unfold M.newp;simp only [Bool.false_eq_true,if_false];omega
  have v2:=raw_val0 m (ctx c);clear s2 s3 s4 sb hb h rb nb pb hm;go_enter Tryz.func110,Tryz.ntmps110
  go_wp2_with (first | (go_at_call 148;refine (Mod_any _ _ (by omega) (by omega) _).mono ?_;rintro e w' ⟨rfl,rfl⟩) | (go_at_call 108;refine (rsplit_any _ _ _ hm'.out _ _ _ HB.out HH.out).mono ?_;rintro e w' ⟨rfl,n,rfl⟩))
  have hfn:=Lib.hid (hfin.out n _ rfl);have hcc:w.cell? ⟨b,ctx c,none⟩=some (.int .i64 (((m.p (ctx c):Nat):Int)-1024)):=hc0;clear v1 v2 hc0 a2;go_loop [9,11] (fun s k=>(s=.int .i64 ((m.raw (ctx c) false:Nat):Int)∧k=.int .i64 0)∨(m.raw (ctx c) false<16777216∧s=.int .i64 ((m.raw (ctx c) false:Nat)*256:Int)∧k=.int .i64 1))
   (fun s _=>smallV s)
  case atStart=>exact .inl ⟨rfl,rfl⟩
  case round=>
   rcases hrel with ⟨rfl,rfl⟩ | ⟨hlt,rfl,rfl⟩
   ·by_cases hs:((m.raw (ctx c) false:Nat):Int)<16777216
    ·go_wp2
     go_round
     case rel=>exact .inr ⟨by omega,rfl,rfl⟩
     case measure=>
      have:=RB.out;exact smallV_lt (by omega) hs
    ·have e1:((m.raw (ctx c) false:Nat):Int)=(((m.step (ctx c) false).size:Nat):Int):=by rw [hstep.out];unfold norm;rw [if_neg (by omega)]
     have e2:Hid (m.shifts (ctx c) false=false):=by show _=_;rw [hsh.out];simp;omega
     have e3:((((m.step (ctx c) false).size:Nat):Int))≤4294967295:=by rw [←e1];exact b5
     rw [e1] at hs ⊢;clear e1 b5;go_wp2
     go_ret
     refine ⟨by rw [e2.out];rfl,?_⟩;exact hfn.out
   ·have hs:¬((m.raw (ctx c) false:Nat):Int)*256<16777216:=by have:=RB.out;omega
    have e1:((m.raw (ctx c) false:Nat):Int)*256=(((m.step (ctx c) false).size:Nat):Int):=by rw [hstep.out];unfold norm;rw [if_pos hlt];omega
    have e2:Hid (m.shifts (ctx c) false=true):=by show _=_;rw [hsh.out];simpa using hlt
    have e3:((((m.step (ctx c) false).size:Nat):Int))≤4294967295:=by rw [←e1];omega
    rw [e1] at hs ⊢;clear hlt e1;go_wp2
    go_ret
    refine ⟨by rw [e2.out];rfl,?_⟩;exact hfn.out
 ·have v1:((m.p (ctx c):Nat):Int)-((m.p (ctx c):Nat):Int) / 32=((m.newp (ctx c) true:Nat):Int):=by unfold M.newp;simp only [if_true];omega
  have v2:(m.size:Int)-((m.split (ctx c):Nat):Int)=((m.raw (ctx c) true:Nat):Int):=by unfold M.raw;simp only [if_true];omega
  clear s2 s3 s4 sb hb h rb nb pb hm;go_enter Tryz.func110,Tryz.ntmps110
  go_wp2_with (first | (go_at_call 148;refine (Mod_any _ _ (by omega) (by omega) _).mono ?_;rintro e w' ⟨rfl,rfl⟩) | (go_at_call 108;refine (rsplit_any _ _ _ hm'.out _ _ _ HB.out HH.out).mono ?_;rintro e w' ⟨rfl,n,rfl⟩))
  have hfn:=Lib.hid (hfin.out n _ rfl);have hcc:w.cell? ⟨b,ctx c,none⟩=some (.int .i64 (((m.p (ctx c):Nat):Int)-1024)):=hc0;clear v1 v2 hc0 a2;go_loop [9,11] (fun s k=>(s=.int .i64 ((m.raw (ctx c) true:Nat):Int)∧k=.int .i64 0)∨(m.raw (ctx c) true<16777216∧s=.int .i64 ((m.raw (ctx c) true:Nat)*256:Int)∧k=.int .i64 1))
   (fun s _=>smallV s)
  case atStart=>exact .inl ⟨rfl,rfl⟩
  case round=>
   rcases hrel with ⟨rfl,rfl⟩ | ⟨hlt,rfl,rfl⟩
   ·by_cases hs:((m.raw (ctx c) true:Nat):Int)<16777216
    ·go_wp2
     go_round
     case rel=>exact .inr ⟨by omega,rfl,rfl⟩
     case measure=>
      have:=RB.out;exact smallV_lt (by omega) hs
    ·have e1:((m.raw (ctx c) true:Nat):Int)=(((m.step (ctx c) true).size:Nat):Int):=by rw [hstep.out];unfold norm;rw [if_neg (by omega)]
     have e2:Hid (m.shifts (ctx c) true=false):=by show _=_;rw [hsh.out];simp;omega
     have e3:((((m.step (ctx c) true).size:Nat):Int))≤4294967295:=by rw [←e1];exact b5
     rw [e1] at hs ⊢;clear e1 b5;go_wp2
     go_ret
     refine ⟨by rw [e2.out];rfl,?_⟩;exact hfn.out
   ·have hs:¬((m.raw (ctx c) true:Nat):Int)*256<16777216:=by have:=RB.out;omega
    have e1:((m.raw (ctx c) true:Nat):Int)*256=(((m.step (ctx c) true).size:Nat):Int):=by rw [hstep.out];unfold norm;rw [if_pos hlt];omega
    have e2:Hid (m.shifts (ctx c) true=true):=by show _=_;rw [hsh.out];simpa using hlt
    have e3:((((m.step (ctx c) true).size:Nat):Int))≤4294967295:=by rw [←e1];omega
    rw [e1] at hs ⊢;clear hlt e1;go_wp2
    go_ret
    refine ⟨by rw [e2.out];rfl,?_⟩;exact hfn.out
end Go.Proofs.YtcikldoaidmnhaaGreatDoor
namespace Go.Proofs.YtcikldoaidmnhaaGreatDoor
open Go Go.RowKit Pc
set_option maxRecDepth 100000
structure RRW (w:World) (b:Nat) (d:D) (n:Nat) (arr:Array Value) (code:List Nat) (at_:Nat):Prop where
 wf:d.Wf
 blk:w.heap[b]?=some (.cells arr 231 (0,0))
 mod:MArr arr d.m
 s:arr[4097]?=some (.string (str code))
 a:arr[4098]?=some (.int .i64 at_)
 o:arr[4099]?=some (.int .i64 d.off)
 left:d.left=code.drop at_
 le:at_≤n
 bytes:∀x,x∈code→x<256
def RR (w:World) (b:Nat) (d:D) (n:Nat):Prop:=∃arr code at_,RRW w b d n arr code at_
theorem RR.keep {w w':World} {b n:Nat} {d:D} (h:RR w b d n) (hk:w'.heap[b]?=w.heap[b]?):RR w' b d n:=by
 obtain ⟨arr,code,at_,h⟩:=h;exact ⟨arr,code,at_,h.wf,hk.trans h.blk,h.mod,h.s,h.a,h.o,h.left,h.le,h.bytes⟩
theorem RR.lt {w:World} {b n:Nat} {d:D} (h:RR w b d n):b<w.heap.size:=by
 obtain ⟨arr,code,at_,h⟩:=h;exact lt_of_heap h.blk
theorem RR.upd {w w':World} {b n:Nat} {d:D} {G:Nat→Prop} (h:RR w b d n) (hu:Upd G w w') (hd:¬G b):RR w' b d n:=h.keep (hu.block b h.lt hd)
theorem RR.wf {w:World} {b n:Nat} {d:D} (h:RR w b d n):d.Wf:=by
 obtain ⟨arr,code,at_,h⟩:=h;exact h.wf
set_option maxHeartbeats 1000000 in
theorem rnext_any (b n:Nat) (d:D) (hn:n≤1000000) (w:World) (h:RR w b d n) :
  Calls Tryz.prog 153 #[.pointer (some ⟨b,0,none⟩)] w fun e w'=>e=.returned (.tuple #[])∧RR w' b d.next (n+1)∧Upd (·=b) w w':=by
 obtain ⟨arr,code,at_,h⟩:=h;have h1:w.cell? ⟨b,4097,none⟩=some (.string (str code)):=by rw [cell_of_row w b _ _ _ _ h.blk];exact h.s
 have h2:w.cell? ⟨b,4098,none⟩=some (.int .i64 at_):=by rw [cell_of_row w b _ _ _ _ h.blk];exact h.a
 have h3:w.cell? ⟨b,4099,none⟩=some (.int .i64 d.off):=by rw [cell_of_row w b _ _ _ _ h.blk];exact h.o
 have f2:=frozen_of_row w b 4098 _ _ h.blk;have f3:=frozen_of_row w b 4099 _ _ h.blk;have b1:(at_:Int)≤1000000:=by have:=h.le;omega
 have b2:(d.off:Int)<4294967296:=by have:=h.wf.off;omega
 have hsz:=str_size code;have s3:4099<arr.size:=(Array.getElem?_eq_some_iff.1 h.o).1;have hwf:=D.next_wf h.wf;have HH:=Lib.hid h;have fin:Hid (∀nq:Nat,∀off':Nat,d.next=⟨d.m,code.drop (at_+1),off'⟩ →
   RR (((w.drewN nq).setCell ⟨b,4098,none⟩ (.int .i64 (((at_+1:Nat)):Int))).setCell ⟨b,4099,none⟩ (.int .i64 off')) b d.next (n+1) ∧
   Upd (·=b) w (((w.drewN nq).setCell ⟨b,4098,none⟩ (.int .i64 (((at_+1:Nat)):Int))).setCell ⟨b,4099,none⟩ (.int .i64 off'))):=by
  intro nq off' e;refine ⟨⟨_,code,at_+1,hwf,heap_setCell_eq (w:=(w.drewN nq).setCell ⟨b,4098,none⟩ _) _ (heap_setCell_eq (w:=w.drewN nq) _ HH.out.blk),?_,?_,?_,?_,?_,?_,HH.out.bytes⟩,((Upd.ofDrewN (F:=(·=b)) w nq).setCell (fun _=>rfl) _).setCell (fun _=>rfl) _⟩
  ·rw [e];exact (HH.out.mod.setFar (by omega) _).setFar (by omega) _
  ·rw [Array.getElem?_setIfInBounds_ne (by omega),Array.getElem?_setIfInBounds_ne (by omega)];exact HH.out.s
  ·rw [Array.getElem?_setIfInBounds_ne (by omega),Array.getElem?_setIfInBounds_self_of_lt (by omega)]
  ·rw [Array.getElem?_setIfInBounds_self_of_lt (by simpa using s3),e]
  ·rw [e]
  ·have:=HH.out.le;omega
 clear hwf s3 h;by_cases hlt:at_<code.length
 ·have hx:((code[at_]:Nat):Int)<256:=by have:=HH.out.bytes _ (List.getElem_mem hlt);omega
  have hi:∀(h:at_<(str code).size),((str code)[at_]'h).toNat=code[at_]:=fun h=>str_get hlt HH.out.bytes h;have hnx:Hid (d.next=⟨d.m,code.drop (at_+1),(d.off*256+code[at_]) % 4294967296⟩):=by
   show _=_;unfold D.next;have e:d.left=code[at_] :: code.drop (at_+1):=by rw [HH.out.left,List.drop_eq_getElem_cons hlt]
   rw [e]
  go_enter Tryz.func153,Tryz.ntmps153
  go_wp2_with fail
  go_quiet (fail)
  go_wp2_with fail
  go_quiet (fail)
  go_wp2
  go_end0
  have hf:=fun nq=>fin.out nq _ hnx.out;have e1:(((d.off*256+code[at_]) % 4294967296:Nat):Int)=((d.off:Int)*256+((code[at_]:Nat):Int)) % 4294967296:=by omega
  have e2:(((at_+1:Nat)):Int)=(at_:Int)+1:=by omega
  simp only [e1,e2] at hf;exact ⟨rfl,hf _⟩
 ·have hnx:Hid (d.next=⟨d.m,code.drop (at_+1),d.off*256 % 4294967296⟩):=by
   show _=_;unfold D.next;have e:d.left=[]:=by rw [HH.out.left];exact List.drop_eq_nil_of_le (by omega)
   rw [e,List.drop_eq_nil_of_le (by omega)]
  go_enter Tryz.func153,Tryz.ntmps153
  go_wp2_with fail
  go_quiet (fail)
  go_wp2
  go_end0
  have hf:=fun nq=>fin.out nq _ hnx.out;have e1:((d.off*256 % 4294967296:Nat):Int)=((d.off:Int)*256) % 4294967296:=by omega
  have e2:(((at_+1:Nat)):Int)=(at_:Int)+1:=by omega
  simp only [e1,e2] at hf;exact ⟨rfl,hf _⟩
theorem zeroR:Tryz.zeroCells231=Array.replicate 4097 (.int .i64 0)++#[.string ⟨#[]⟩,.int .i64 0,.int .i64 0]:=by kernel_rfl
theorem zeroR_mod:MArr Tryz.zeroCells231 M.init:=by
 rw [zeroR];refine ⟨fun i hi=>?_,?_⟩
 ·rw [Array.getElem?_append_left (by simp;omega),Array.getElem?_replicate,if_pos (by omega)];rfl
 ·rw [Array.getElem?_append_left (by simp),Array.getElem?_replicate,if_pos (by omega)];rfl
theorem zeroR_size:Tryz.zeroCells231.size=4100:=by rw [zeroR];simp
theorem zeroR_4098:Tryz.zeroCells231[4098]?=some (.int .i64 0):=by
 rw [zeroR,Array.getElem?_append_right (by simp)];simp
theorem zeroR_4099:Tryz.zeroCells231[4099]?=some (.int .i64 0):=by
 rw [zeroR,Array.getElem?_append_right (by simp)];simp
theorem RR_zero {code:List Nat} (hcode:∀x,x∈code→x<256) (w:World) :
  RR (w.alloc (.cells (Tryz.zeroCells231.setIfInBounds 4097 (.string (str code))) 231)) w.heap.size ⟨M.init,code,0⟩ 0:=by
 have hs:=zeroR_size;refine ⟨_,code,0,⟨M.init_wf,by show 0<4294967296;omega,hcode⟩,heap_alloc_new w _,zeroR_mod.setFar (by omega) _,?_,?_,?_,rfl,Nat.le_refl _,hcode⟩
 ·rw [Array.getElem?_setIfInBounds_self_of_lt (by omega)]
 ·rw [Array.getElem?_setIfInBounds_ne (by omega)];exact zeroR_4098
 ·rw [Array.getElem?_setIfInBounds_ne (by omega)];exact zeroR_4099
set_option maxHeartbeats 1000000 in
theorem rNewReader_any (code:List Nat) (hcode:∀x,x∈code→x<256) (w:World):Calls Tryz.prog 119 #[.string (str code)] w fun e w'=>e=.returned (.pointer (some ⟨w.heap.size,0,none⟩)) ∧
  RR w' w.heap.size (D.ofCode code) 4∧Upd noBlk w w':=by
 have h0:=Lib.hid (RR_zero hcode w);go_enter Tryz.func119,Tryz.ntmps119
 go_wp2_with fail
 go_loopw [4] (fun i wr=>∃k:Nat,i=.int .i64 k∧k≤4∧RR wr w.heap.size (nextN k ⟨M.init,code,0⟩) k∧Upd noBlk w wr) (fun i _=>4-(intOf i).toNat)
 case atStart=>exact ⟨0,rfl,by omega,h0.out,(Upd.refl _ _).alloc _⟩
 case round=>
  obtain ⟨k,rfl,hk,h1,h2⟩:=hrel;have H1:=Lib.hid h1;have H2:=Lib.hid h2;clear h1 h2;by_cases hlt:k<4
  ·go_wp2_with (go_at_call 153;refine (rnext_any _ k _ (by omega) _ H1.out).mono ?_;rintro e w2 ⟨rfl,q1,q2⟩)
   go_roundw
   case rel=>exact ⟨k+1,by go_num,hlt,q1,upd_new H2.out q2 (fun j hj=>by rw [hj];exact Nat.le_refl _)⟩
   case measure=>simp [intOf];omega
  ·obtain rfl:k=4:=by omega
   go_wp2
   go_ret
   exact ⟨rfl,H1.out,H2.out⟩
set_option maxHeartbeats 1000000 in
theorem rRBit_any (b n:Nat) (c:Int) (d:D) (hn:n≤999999) (w:World) (h:RR w b d n) :
  Calls Tryz.prog 121 #[.pointer (some ⟨b,0,none⟩),.int .i64 c] w fun e w'=>e=.returned (.bool (d.one c))∧RR w' b (d.bit c) (n+1)∧Upd (·=b) w w':=by
 obtain ⟨arr,code,at_,h⟩:=h;have h3:w.cell? ⟨b,4099,none⟩=some (.int .i64 d.off):=by rw [cell_of_row w b _ _ _ _ h.blk];exact h.o
 have f3:=frozen_of_row w b 4099 _ _ h.blk;have hwf:=h.wf;have b1:(d.off:Int)<4294967296:=by have:=hwf.off;omega
 have b2:((d.m.split (ctx c):Nat):Int)≤4294967295:=by have:=M.split_bd hwf.m (ctx_lt c);have:=hwf.m.hi;omega
 have s3:4099<arr.size:=(Array.getElem?_eq_some_iff.1 h.o).1;have HH:=Lib.hid h;have HN:=Lib.hid hn;have fin:Hid (∀(W:World) (arr1:Array Value),W.heap[b]?=some (.cells arr1 231 (0,0))→MArr arr1 d.m→arr1[4097]?=some (.string (str code))→arr1[4098]?=some (.int .i64 at_)→arr1[4099]?=some (.int .i64 (d.off1 c:Nat))→∀W',
   W'.heap[b]?=some (.cells ((arr1.setIfInBounds (ctx c) (.int .i64 (((d.m.newp (ctx c) (d.one c):Nat):Int)-1024))).setIfInBounds 4096 (.int .i64 (4294967295-(((d.m.step (ctx c) (d.one c)).size:Nat):Int)))) 231 (0,0)) →
   RR W' b ⟨d.m.step (ctx c) (d.one c),d.left,d.off1 c⟩ n):=by
  intro W arr1 g1 g2 g3 g4 g5 W' g6;have hcx:=ctx_lt c;refine ⟨_,code,at_,⟨M.step_wf hwf.m hcx _,D.off1_lt hwf c,hwf.left⟩,g6,g2.step _ hcx _,?_,?_,?_,HH.out.left,HH.out.le,HH.out.bytes⟩
  ·rw [Array.getElem?_setIfInBounds_ne (by omega),Array.getElem?_setIfInBounds_ne (by omega)];exact g3
  ·rw [Array.getElem?_setIfInBounds_ne (by omega),Array.getElem?_setIfInBounds_ne (by omega)];exact g4
  ·rw [Array.getElem?_setIfInBounds_ne (by omega),Array.getElem?_setIfInBounds_ne (by omega)];exact g5
 by_cases ho:d.m.split (ctx c)≤d.off
 ·have e1:d.one c=true:=by unfold D.one;simpa using ho
  have e2:d.off1 c=d.off-d.m.split (ctx c):=by unfold D.off1;rw [e1];simp
  have t1:((d.m.split (ctx c):Nat):Int)≤(d.off:Int):=by omega
  have t2:(d.off:Int)-((d.m.split (ctx c):Nat):Int)=((d.off1 c:Nat):Int):=by rw [e2];omega
  have E1:=Lib.hid e1;have hblk:Hid (∀nq:Nat,((w.drewN nq).setCell ⟨b,4099,none⟩ (.int .i64 (d.off1 c:Nat))).heap[b]?=some (.cells (arr.setIfInBounds 4099 (.int .i64 (d.off1 c:Nat))) 231 (0,0))):=fun nq=>heap_setCell_eq (w:=w.drewN nq) _ HH.out.blk;have hma:Hid (MArr (arr.setIfInBounds 4099 (.int .i64 (d.off1 c:Nat))) d.m):=HH.out.mod.setFar (by omega) _;clear e1 e2 ho h hn;go_enter Tryz.func121,Tryz.ntmps121
  go_wp2_with (go_at_call 108;refine (rsplit_any _ _ _ hwf.m _ _ _ HH.out.blk HH.out.mod).mono ?_;rintro e w' ⟨rfl,nq,rfl⟩)
  refine (rtake_any c true b d.m hwf.m _ _ _ (hblk.out _) hma.out).mono ?_;rintro e w2 ⟨rfl,q1,q2⟩;have Q:Hid (RR w2 b ⟨d.m.step (ctx c) true,d.left,d.off1 c⟩ n):=by
   have:=fin.out _ _ (hblk.out nq) hma.out (by rw [Array.getElem?_setIfInBounds_ne (by omega)];exact HH.out.s) (by rw [Array.getElem?_setIfInBounds_ne (by omega)];exact HH.out.a) (by rw [Array.getElem?_setIfInBounds_self_of_lt (by omega)]) w2 (by rw [E1.out];exact q1);rw [E1.out] at this;exact this
  have U:Hid (Upd (·=b) w w2):=((Upd.ofDrewN (F:=(·=b)) w nq).setCell (fun _=>rfl) _).trans q2;clear q1 q2;have bo:=bit_of E1.out;cases hs:d.m.shifts (ctx c) true
  ·have Q':Hid (RR w2 b (d.bit c) (n+1)):=by
    rw [hs] at bo;have:=Q.out;obtain ⟨a1,c1,t1,h⟩:=this;refine ⟨a1,c1,t1,?_⟩;rw [←bo];exact ⟨h.wf,h.blk,h.mod,h.s,h.a,h.o,h.left,Nat.le_succ_of_le h.le,h.bytes⟩
   have sn:shiftN false=0:=rfl;have sn:shiftN false=0:=rfl;clear bo hs;go_wp2_with fail
   refine wp_loop_once ?_;go_wp2
   go_ret
   exact ⟨by rw [E1.out];rfl,Q'.out,U.out⟩
  ·have Bo:Hid ((⟨d.m.step (ctx c) true,d.left,d.off1 c⟩:D).next=d.bit c):=by rw [hs] at bo;exact bo
   have sn:shiftN true=1:=rfl;have sn:shiftN true=1:=rfl;clear bo hs;go_wp2_with fail
   go_loopw [8] (fun i wr=>(i=.int .i64 0∧RR wr b ⟨d.m.step (ctx c) true,d.left,d.off1 c⟩ n∧Upd (·=b) w wr)∨(i=.int .i64 1∧RR wr b (d.bit c) (n+1)∧Upd (·=b) w wr)) (fun i _=>1-(intOf i).toNat)
   case atStart=>exact .inl ⟨rfl,Q.out,U.out⟩
   case round=>
    rcases hrel with ⟨rfl,g1,g2⟩ | ⟨rfl,g1,g2⟩
    ·have H1:=Lib.hid g1;have H2:=Lib.hid g2;clear g1 g2;go_wp2_with (go_at_call 153;refine (rnext_any _ n _ (by have:=HN.out;omega) _ H1.out).mono ?_;rintro e w3 ⟨rfl,q1,q2⟩)
     go_roundw
     case rel=>exact .inr ⟨rfl,by rw [←Bo.out];exact q1,H2.out.trans q2⟩
     case measure=>simp [intOf]
    ·go_wp2
     go_ret
     exact ⟨by rw [E1.out];rfl,g1,g2⟩
 ·have e1:d.one c=false:=by unfold D.one;simpa using ho
  have e2:d.off1 c=d.off:=by unfold D.off1;rw [e1];simp
  have t1:decide (d.m.split (ctx c)≤d.off)=false:=by simpa using ho
  have E1:=Lib.hid e1;have E2:=Lib.hid e2;clear e1 e2 ho h hn;go_enter Tryz.func121,Tryz.ntmps121
  go_wp2_with (go_at_call 108;refine (rsplit_any _ _ _ hwf.m _ _ _ HH.out.blk HH.out.mod).mono ?_;rintro e w' ⟨rfl,nq,rfl⟩)
  refine (rtake_any c false b d.m hwf.m (w.drewN nq) _ _ HH.out.blk HH.out.mod).mono ?_;rintro e w2 ⟨rfl,q1,q2⟩;have Q:Hid (RR w2 b ⟨d.m.step (ctx c) false,d.left,d.off1 c⟩ n):=by
   have:=fin.out _ _ HH.out.blk HH.out.mod HH.out.s HH.out.a (by rw [E2.out];exact HH.out.o) w2 (by rw [E1.out];exact q1);rw [E1.out] at this;exact this
  have U:Hid (Upd (·=b) w w2):=(Upd.ofDrewN (F:=(·=b)) w nq).trans q2;clear q1 q2;have bo:=bit_of E1.out;cases hs:d.m.shifts (ctx c) false
  ·have Q':Hid (RR w2 b (d.bit c) (n+1)):=by
    rw [hs] at bo;have:=Q.out;obtain ⟨a1,c1,t1,h⟩:=this;refine ⟨a1,c1,t1,?_⟩;rw [←bo];exact ⟨h.wf,h.blk,h.mod,h.s,h.a,h.o,h.left,Nat.le_succ_of_le h.le,h.bytes⟩
   have sn:shiftN false=0:=rfl;have sn:shiftN false=0:=rfl;clear bo hs;go_wp2_with fail
   refine wp_loop_once ?_;go_wp2
   go_ret
   exact ⟨by rw [E1.out];rfl,Q'.out,U.out⟩
  ·have Bo:Hid ((⟨d.m.step (ctx c) false,d.left,d.off1 c⟩:D).next=d.bit c):=by rw [hs] at bo;exact bo
   have sn:shiftN true=1:=rfl;have sn:shiftN true=1:=rfl;clear bo hs;go_wp2_with fail
   go_loopw [8] (fun i wr=>(i=.int .i64 0∧RR wr b ⟨d.m.step (ctx c) false,d.left,d.off1 c⟩ n∧Upd (·=b) w wr)∨(i=.int .i64 1∧RR wr b (d.bit c) (n+1)∧Upd (·=b) w wr)) (fun i _=>1-(intOf i).toNat)
   case atStart=>exact .inl ⟨rfl,Q.out,U.out⟩
   case round=>
    rcases hrel with ⟨rfl,g1,g2⟩ | ⟨rfl,g1,g2⟩
    ·have H1:=Lib.hid g1;have H2:=Lib.hid g2;clear g1 g2;go_wp2_with (go_at_call 153;refine (rnext_any _ n _ (by have:=HN.out;omega) _ H1.out).mono ?_;rintro e w3 ⟨rfl,q1,q2⟩)
     go_roundw
     case rel=>exact .inr ⟨rfl,by rw [←Bo.out];exact q1,H2.out.trans q2⟩
     case measure=>simp [intOf]
    ·go_wp2
     go_ret
     exact ⟨by rw [E1.out];rfl,g1,g2⟩
end Go.Proofs.YtcikldoaidmnhaaGreatDoor
namespace Go.Proofs.YtcikldoaidmnhaaGreatDoor
open Go Go.RowKit Pc
set_option maxRecDepth 100000
def intV (d:Nat):Value:=.int .i64 d
theorem intV_one (l:List Nat):∀u∈l.map intV,u.oneCell'=true:=by
 intro u hu;obtain ⟨d,_,rfl⟩:=List.mem_map.1 hu;rfl
theorem info_int:(Tryz.prog.info? 3).map (fun i=>(i.zero,i.size,i.bytes))=some (some (.int .i64 0),1,8):=by kernel_rfl
structure CarI (ds:List Nat) (base g cap:Nat) (w wr:World) (k:Nat):Prop where
 le:k≤ds.length
 own:wr.ownsRow base 3 1 (.slice (some ⟨g,0,none⟩) ds.length cap) ds.length ((carried ds k).map intV)
 fr:w.grownBy wr (some g)
 spec:carry ds=carry (ds.take k)++List.replicate (ds.length-k) 0
theorem carried_setI {ds:List Nat} {j:Nat} (hj:j<ds.length) (v:Nat) :
  (((carried ds (j+1)).map intV).set j (intV v))=(ds.take j++v :: List.replicate (ds.length-(j+1)) 0).map intV:=by
 unfold carried;rw [take_snoc hj,←List.map_set];congr 1
 have hl:(ds.take j).length=j:=by simp;omega
 rw [List.append_assoc,List.set_append_right _ _ (by omega),hl];simp
theorem CarI.cell {ds:List Nat} {base g cap:Nat} {w wr:World} {j:Nat} (h:CarI ds base g cap w wr (j+1)) :
  ∃hj:j<ds.length,wr.cell? ⟨g,j,none⟩=some (.int .i64 ds[j]):=by
 have hj:=h.le;refine ⟨hj,?_⟩;rw [h.own.cellAt j (by omega)];unfold carried;have hj':j<ds.length:=hj;rw [take_snoc hj',List.append_assoc,List.map_append,List.getElem?_append_right (by simp;omega)];simp [intV,Nat.min_eq_left (Nat.le_of_lt hj')]
theorem CarI.go {ds:List Nat} {base g cap:Nat} {w wr:World} {j:Nat} (h:CarI ds base g cap w wr (j+1)) (hj:j<ds.length) (he:ds[j]=255) :
  CarI ds base g cap w (wr.setCell ⟨g,j,none⟩ (.int .i64 0)) j:=by
 have hs:=h.own.stored j (intV 0);rw [carried_setI hj] at hs;refine ⟨by omega,?_,grownBy_trans h.fr hs.2,?_⟩
 ·have e:ds.take j++0 :: List.replicate (ds.length-(j+1)) 0=carried ds j:=by
   unfold carried;rw [show ds.length-j=(ds.length-(j+1))+1 from by omega,List.replicate_succ]
  rw [←e];exact hs.1
 ·rw [h.spec,take_snoc hj,he,carry_snoc_255,List.append_assoc,show ds.length-j=(ds.length-(j+1))+1 from by omega,List.replicate_succ];rfl
theorem CarI.stop {ds:List Nat} {base g cap:Nat} {w wr:World} {j:Nat} (h:CarI ds base g cap w wr (j+1)) (hj:j<ds.length) (he:ds[j]≠255) :
  (wr.setCell ⟨g,j,none⟩ (.int .i64 (((ds[j]:Nat):Int)+1))).ownsRow base 3 1 (.slice (some ⟨g,0,none⟩) ds.length cap) ds.length ((carry ds).map intV) ∧
   w.grownBy (wr.setCell ⟨g,j,none⟩ (.int .i64 (((ds[j]:Nat):Int)+1))) (some g):=by
 have hs:=h.own.stored j (intV (ds[j]+1));rw [carried_setI hj] at hs;refine ⟨?_,grownBy_trans h.fr hs.2⟩;rw [h.spec,take_snoc hj,carry_snoc_ne _ he,List.append_assoc];exact hs.1
theorem CarI.start {ds:List Nat} {base g cap:Nat} {w:World}
  (hown:w.ownsRow base 3 1 (.slice (some ⟨g,0,none⟩) ds.length cap) ds.length (ds.map intV)):CarI ds base g cap w w ds.length:=
 ⟨Nat.le_refl _,by simpa [carried] using hown,⟨rfl,rfl,rfl,Nat.le_refl _,fun _ _ _=>rfl⟩,by simp⟩
set_option maxHeartbeats 1000000 in
theorem carried_any (base:Nat) (v:Value) (ds:List Nat) (hds:∀d,d∈ds→d<256) (hlen:ds.length≤1000000) (w:World) (hown:w.ownsRow base 3 1 v ds.length (ds.map intV)) :
  Calls Tryz.prog 109 #[v] w fun e w'=>∃v',e=.returned v'∧w'.ownsRow w.heap.size 3 1 v' ds.length ((carry ds).map intV)∧Upd noBlk w w':=by
 obtain ⟨i0,hi0,hz0,hz1,hz2⟩:=info_parts info_int;have m1:Hid (0+ds.length≤maxLen):=by show _≤_;unfold maxLen;omega
 have b1:Hid ((0+ds.length)*8≤140737488355328):=by show _≤_;omega
 have o0:(w.alloc (.cells #[] 3)).ownsRow w.heap.size 3 1 (.slice (some ⟨w.heap.size,0,none⟩) 0 0) 0 []:=World.ownsRow_lit w #[] 0 (Nat.le_refl _) (by unfold maxLen;omega) (by simp);obtain ⟨v1,w1,r1,o1,g1,hb1⟩:=append_src (w.alloc (.cells #[] 3)) 23 23 3 i0 _ 1 8 Tryz.underlying23 hi0 hz0 hz1 hz2 rfl (by omega) o0 (by simp) (hown.alloc _) (intV_one _) m1.out b1.out;rw [Nat.zero_add,List.nil_append] at o1;have U1:Hid (Upd noBlk w w1):=by
  refine (((Upd.refl noBlk w).alloc _).then (upd_of_grown g1 (F:=fun k=>some k=some w.heap.size) (fun k hk _=>?_)) (fun i hi h=>?_))
  ·simp only [Value.ownBlock,Option.some.injEq] at hk;rw [hk]
  ·simp only [Option.some.injEq] at h;omega
 have R1:=Lib.hid r1;clear r1 m1 b1 o0 g1 hb1 hown;have hlb:(ds.length:Int)≤1000000:=by omega
 rcases o1.2 with ⟨rfl,h0⟩ | ⟨g,cap,cur,rfl,hg,hh,_⟩
 ·have hd:ds=[]:=List.eq_nil_of_length_eq_zero h0;subst hd;have O1:=Lib.hid o1;clear o1 hlb;go_enter Tryz.func109,Tryz.ntmps109
  go_wp2_with (at_builtin;refine wpList_append_run rfl _ _ _ rfl rfl rfl R1.out ?_)
  refine wp_loop_once ?_;go_wp2
  go_ret
  exact ⟨_,rfl,O1.out,U1.out⟩
 ·have hst:=CarI.start o1;have hgn:Hid (w.heap.size≤g):=hg;clear o1 hh hg;have fin:Hid (∀wr,w1.grownBy wr (some g)→Upd noBlk w wr):=fun wr hr=>U1.out.then (upd_of_grown hr (F:=fun k=>k=g) (fun k hk _=>by simpa using hk.symm)) (fun i hi h=>by have:=hgn.out;omega);go_enter Tryz.func109,Tryz.ntmps109
  go_wp2_with (at_builtin;refine wpList_append_run rfl _ _ _ rfl rfl rfl R1.out ?_)
  go_loopw [4] (fun i wr=>∃k:Nat,i=.int .i64 ((k:Int)-1)∧CarI ds w.heap.size g cap w1 wr k) (fun i _=>(intOf i+1).toNat)
  case atStart=>exact ⟨_,rfl,hst⟩
  case round=>
   obtain ⟨k,rfl,hk⟩:=hrel;rcases k with _ | j
   ·have h1:decide (((0:Nat):Int)-1 ≥ 0)=false:=by decide
    have h2:=hk.own;have h3:=Lib.hid (fin.out _ hk.fr);have h4:carry ds=carried ds 0:=by rw [hk.spec];rfl
    rw [←h4] at h2;have H2:=Lib.hid h2;clear hk h4 h2;go_wp2
    go_ret
    exact ⟨_,rfl,H2.out,h3.out⟩
   ·obtain ⟨hj,hc⟩:=hk.cell;have hf:=hk.own.frozenAt j;have e1:(((j+1:Nat):Int)-1)=(j:Int):=by omega
    rw [e1];have hd:((ds[j]:Nat):Int)<256:=by have:=hds ds[j] (List.getElem_mem hj);omega
    by_cases he:ds[j]=255
    ·have e2:(((ds[j]:Nat):Int) == 255)=true:=by rw [beq_iff_eq];omega
     have hgo:=Lib.hid (hk.go hj he);clear he hk hst e1;go_wp2
     go_roundw
     case rel=>exact ⟨j,rfl,hgo.out⟩
     case measure=>simp [intOf]<;>omega
    ·have e2:(((ds[j]:Nat):Int) == 255)=false:=by rw [beq_eq_false_iff_ne];omega
     have hgo:=Lib.hid (hk.stop hj he);clear he hk hst e1;go_wp2
     go_ret
     exact ⟨_,rfl,hgo.out.1,fin.out _ hgo.out.2⟩
end Go.Proofs.YtcikldoaidmnhaaGreatDoor
