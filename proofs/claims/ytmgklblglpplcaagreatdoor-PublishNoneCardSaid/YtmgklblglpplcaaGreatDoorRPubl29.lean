/- Parts: Walks of SHA-256: rotations, words, constants. No condition. -/
import Derived.Test.YtmgklblglpplcaaGreatDoorRPubl2
import Derived.Test.YtmgklblglpplcaaGreatDoorRPubl3
import Derived.Test.YtmgklblglpplcaaGreatDoorRPubl6
import Derived.Test.YtmgklblglpplcaaGreatDoorRPubl12
import Derived.Test.YtmgklblglpplcaaGreatDoorRPubl14
import Derived.Test.YtmgklblglpplcaaGreatDoorRPubl23
import Derived.Test.YtmgklblglpplcaaGreatDoorRPubl25
import Derived.Test.YtmgklblglpplcaaGreatDoorRPubl26
import Derived.Test.YtmgklblglpplcaaGreatDoorRPubl27
import Derived.WalkKit
import Derived.WalkSpells
import Derived.WalkLawsBesides
import Derived.Lib.Hide
import Derived.BigQuiet
import Derived.Deep.DeepFit
import Derived.Deep.DeepCutAuto
import Derived.Deep.AppendLies
import Derived.Deep.QuietTactic
import Derived.Test.YtmgklblglpplcaaGreatDoorRows
import Derived.Deep.RegionHeld3
import Derived.StillTail
import Derived.Maps.OwnOps
import Derived.Maps.OwnSet
import Derived.Maps.RangeWalk
import Derived.WideKeyEntry
import Derived.Deep.MidRow
import Derived.Lib.Bits
import Derived.Laws.EntriesVeiled
import Derived.Handy
import Derived.DeepKeys4
import Derived.ArgAppend
import Derived.Deep.Upon
import Derived.Deep.CutBlock
import Derived.Test.YtmgklblglpplcaaGreatDoorShelf2
import Derived.Test.YtmgklblglpplcaaGreatDoorShelf
import Derived.Laws.BitsAllLaws
import Derived.Lib.Zigzag
import Derived.Recover
import Derived.Laws.BytesArg
import Derived.Deep.WholeRow
import Derived.Laws.IdiomStrings
namespace Go.Proofs.YtmgklblglpplcaaGreatDoor
open Go Go.RowKit Pk Dg
set_option maxRecDepth 100000
def w32 (n:Nat):Value:=.int .u32 (n:Int)
def wordQ (n:Nat) (w:World) (en:Ending) (w':World):Prop:=en=.returned (w32 n)∧∃k,w'=w.drewN k
theorem ret_u32 {a b:Int} (h:a=b):Ending.returned (.int .u32 a)=.returned (.int .u32 b):=by rw [h]
theorem jrot_2 (x:Nat) (hx:x<4294967296) (w:World):Calls Tryz.prog 74 #[.int .u32 (x:Int),.int .i64 2] w (wordQ (rotR x 2) w):=by
 obtain ⟨p,hp⟩:∃p,p=x / 4:=⟨_,rfl⟩;obtain ⟨q,hq⟩:∃q,q=x*1073741824 % 4294967296:=⟨_,rfl⟩;have HR:Hid (bits .or .u32 (p:Int) (q:Int)=((rotR x 2:Nat):Int)):=by show _=_;rw [hp,hq];exact rot_ref x 2 hx
 have h0:(x:Int)≤4294967295:=by omega
 have e1:(x:Int) / 4=(p:Int):=by omega
 have e2:(x:Int)*1073741824 % 4294967296=(q:Int):=by omega
 clear hx hp hq;go_enter Tryz.func74,Tryz.ntmps74
 go_wp2_with fail
 go_quiet (fail)
 go_wp2_with fail
 go_ret
 exact ⟨ret_u32 HR.out,_,rfl⟩
theorem jrot_6 (x:Nat) (hx:x<4294967296) (w:World):Calls Tryz.prog 74 #[.int .u32 (x:Int),.int .i64 6] w (wordQ (rotR x 6) w):=by
 obtain ⟨p,hp⟩:∃p,p=x / 64:=⟨_,rfl⟩;obtain ⟨q,hq⟩:∃q,q=x*67108864 % 4294967296:=⟨_,rfl⟩;have HR:Hid (bits .or .u32 (p:Int) (q:Int)=((rotR x 6:Nat):Int)):=by show _=_;rw [hp,hq];exact rot_ref x 6 hx
 have h0:(x:Int)≤4294967295:=by omega
 have e1:(x:Int) / 64=(p:Int):=by omega
 have e2:(x:Int)*67108864 % 4294967296=(q:Int):=by omega
 clear hx hp hq;go_enter Tryz.func74,Tryz.ntmps74
 go_wp2_with fail
 go_quiet (fail)
 go_wp2_with fail
 go_ret
 exact ⟨ret_u32 HR.out,_,rfl⟩
theorem jrot_7 (x:Nat) (hx:x<4294967296) (w:World):Calls Tryz.prog 74 #[.int .u32 (x:Int),.int .i64 7] w (wordQ (rotR x 7) w):=by
 obtain ⟨p,hp⟩:∃p,p=x / 128:=⟨_,rfl⟩;obtain ⟨q,hq⟩:∃q,q=x*33554432 % 4294967296:=⟨_,rfl⟩;have HR:Hid (bits .or .u32 (p:Int) (q:Int)=((rotR x 7:Nat):Int)):=by show _=_;rw [hp,hq];exact rot_ref x 7 hx
 have h0:(x:Int)≤4294967295:=by omega
 have e1:(x:Int) / 128=(p:Int):=by omega
 have e2:(x:Int)*33554432 % 4294967296=(q:Int):=by omega
 clear hx hp hq;go_enter Tryz.func74,Tryz.ntmps74
 go_wp2_with fail
 go_quiet (fail)
 go_wp2_with fail
 go_ret
 exact ⟨ret_u32 HR.out,_,rfl⟩
theorem jrot_11 (x:Nat) (hx:x<4294967296) (w:World):Calls Tryz.prog 74 #[.int .u32 (x:Int),.int .i64 11] w (wordQ (rotR x 11) w):=by
 obtain ⟨p,hp⟩:∃p,p=x / 2048:=⟨_,rfl⟩;obtain ⟨q,hq⟩:∃q,q=x*2097152 % 4294967296:=⟨_,rfl⟩;have HR:Hid (bits .or .u32 (p:Int) (q:Int)=((rotR x 11:Nat):Int)):=by show _=_;rw [hp,hq];exact rot_ref x 11 hx
 have h0:(x:Int)≤4294967295:=by omega
 have e1:(x:Int) / 2048=(p:Int):=by omega
 have e2:(x:Int)*2097152 % 4294967296=(q:Int):=by omega
 clear hx hp hq;go_enter Tryz.func74,Tryz.ntmps74
 go_wp2_with fail
 go_quiet (fail)
 go_wp2_with fail
 go_ret
 exact ⟨ret_u32 HR.out,_,rfl⟩
theorem jrot_13 (x:Nat) (hx:x<4294967296) (w:World):Calls Tryz.prog 74 #[.int .u32 (x:Int),.int .i64 13] w (wordQ (rotR x 13) w):=by
 obtain ⟨p,hp⟩:∃p,p=x / 8192:=⟨_,rfl⟩;obtain ⟨q,hq⟩:∃q,q=x*524288 % 4294967296:=⟨_,rfl⟩;have HR:Hid (bits .or .u32 (p:Int) (q:Int)=((rotR x 13:Nat):Int)):=by show _=_;rw [hp,hq];exact rot_ref x 13 hx
 have h0:(x:Int)≤4294967295:=by omega
 have e1:(x:Int) / 8192=(p:Int):=by omega
 have e2:(x:Int)*524288 % 4294967296=(q:Int):=by omega
 clear hx hp hq;go_enter Tryz.func74,Tryz.ntmps74
 go_wp2_with fail
 go_quiet (fail)
 go_wp2_with fail
 go_ret
 exact ⟨ret_u32 HR.out,_,rfl⟩
theorem jrot_17 (x:Nat) (hx:x<4294967296) (w:World):Calls Tryz.prog 74 #[.int .u32 (x:Int),.int .i64 17] w (wordQ (rotR x 17) w):=by
 obtain ⟨p,hp⟩:∃p,p=x / 131072:=⟨_,rfl⟩;obtain ⟨q,hq⟩:∃q,q=x*32768 % 4294967296:=⟨_,rfl⟩;have HR:Hid (bits .or .u32 (p:Int) (q:Int)=((rotR x 17:Nat):Int)):=by show _=_;rw [hp,hq];exact rot_ref x 17 hx
 have h0:(x:Int)≤4294967295:=by omega
 have e1:(x:Int) / 131072=(p:Int):=by omega
 have e2:(x:Int)*32768 % 4294967296=(q:Int):=by omega
 clear hx hp hq;go_enter Tryz.func74,Tryz.ntmps74
 go_wp2_with fail
 go_quiet (fail)
 go_wp2_with fail
 go_ret
 exact ⟨ret_u32 HR.out,_,rfl⟩
theorem jrot_18 (x:Nat) (hx:x<4294967296) (w:World):Calls Tryz.prog 74 #[.int .u32 (x:Int),.int .i64 18] w (wordQ (rotR x 18) w):=by
 obtain ⟨p,hp⟩:∃p,p=x / 262144:=⟨_,rfl⟩;obtain ⟨q,hq⟩:∃q,q=x*16384 % 4294967296:=⟨_,rfl⟩;have HR:Hid (bits .or .u32 (p:Int) (q:Int)=((rotR x 18:Nat):Int)):=by show _=_;rw [hp,hq];exact rot_ref x 18 hx
 have h0:(x:Int)≤4294967295:=by omega
 have e1:(x:Int) / 262144=(p:Int):=by omega
 have e2:(x:Int)*16384 % 4294967296=(q:Int):=by omega
 clear hx hp hq;go_enter Tryz.func74,Tryz.ntmps74
 go_wp2_with fail
 go_quiet (fail)
 go_wp2_with fail
 go_ret
 exact ⟨ret_u32 HR.out,_,rfl⟩
theorem jrot_19 (x:Nat) (hx:x<4294967296) (w:World):Calls Tryz.prog 74 #[.int .u32 (x:Int),.int .i64 19] w (wordQ (rotR x 19) w):=by
 obtain ⟨p,hp⟩:∃p,p=x / 524288:=⟨_,rfl⟩;obtain ⟨q,hq⟩:∃q,q=x*8192 % 4294967296:=⟨_,rfl⟩;have HR:Hid (bits .or .u32 (p:Int) (q:Int)=((rotR x 19:Nat):Int)):=by show _=_;rw [hp,hq];exact rot_ref x 19 hx
 have h0:(x:Int)≤4294967295:=by omega
 have e1:(x:Int) / 524288=(p:Int):=by omega
 have e2:(x:Int)*8192 % 4294967296=(q:Int):=by omega
 clear hx hp hq;go_enter Tryz.func74,Tryz.ntmps74
 go_wp2_with fail
 go_quiet (fail)
 go_wp2_with fail
 go_ret
 exact ⟨ret_u32 HR.out,_,rfl⟩
theorem jrot_22 (x:Nat) (hx:x<4294967296) (w:World):Calls Tryz.prog 74 #[.int .u32 (x:Int),.int .i64 22] w (wordQ (rotR x 22) w):=by
 obtain ⟨p,hp⟩:∃p,p=x / 4194304:=⟨_,rfl⟩;obtain ⟨q,hq⟩:∃q,q=x*1024 % 4294967296:=⟨_,rfl⟩;have HR:Hid (bits .or .u32 (p:Int) (q:Int)=((rotR x 22:Nat):Int)):=by show _=_;rw [hp,hq];exact rot_ref x 22 hx
 have h0:(x:Int)≤4294967295:=by omega
 have e1:(x:Int) / 4194304=(p:Int):=by omega
 have e2:(x:Int)*1024 % 4294967296=(q:Int):=by omega
 clear hx hp hq;go_enter Tryz.func74,Tryz.ntmps74
 go_wp2_with fail
 go_quiet (fail)
 go_wp2_with fail
 go_ret
 exact ⟨ret_u32 HR.out,_,rfl⟩
theorem jrot_25 (x:Nat) (hx:x<4294967296) (w:World):Calls Tryz.prog 74 #[.int .u32 (x:Int),.int .i64 25] w (wordQ (rotR x 25) w):=by
 obtain ⟨p,hp⟩:∃p,p=x / 33554432:=⟨_,rfl⟩;obtain ⟨q,hq⟩:∃q,q=x*128 % 4294967296:=⟨_,rfl⟩;have HR:Hid (bits .or .u32 (p:Int) (q:Int)=((rotR x 25:Nat):Int)):=by show _=_;rw [hp,hq];exact rot_ref x 25 hx
 have h0:(x:Int)≤4294967295:=by omega
 have e1:(x:Int) / 33554432=(p:Int):=by omega
 have e2:(x:Int)*128 % 4294967296=(q:Int):=by omega
 clear hx hp hq;go_enter Tryz.func74,Tryz.ntmps74
 go_wp2_with fail
 go_quiet (fail)
 go_wp2_with fail
 go_ret
 exact ⟨ret_u32 HR.out,_,rfl⟩
theorem brot_2 (x:Nat) (hx:x<4294967296) (w:World):Calls Tryz.prog 76 #[.int .u32 (x:Int),.int .i64 (-2)] w fun e w'=>e=.returned (w32 (rotR x 2))∧w=w':=by
 obtain ⟨p,hp⟩:∃p,p=x / 4:=⟨_,rfl⟩;obtain ⟨q,hq⟩:∃q,q=x*1073741824 % 4294967296:=⟨_,rfl⟩;have HR:Hid (bits .or .u32 (q:Int) (p:Int)=((rotR x 2:Nat):Int)):=by show _=_;rw [hp,hq];exact rot_prog x 2 hx
 have h0:(x:Int)≤4294967295:=by omega
 have e1:(x:Int) / 4=(p:Int):=by omega
 have e2:(x:Int)*1073741824 % 4294967296=(q:Int):=by omega
 have ha:bits .and .u64 (IntKind.u64.wrap (-2)) 31=30:=by kernel_rfl
 clear hx hp hq;go_enter Tryz.func76,Tryz.ntmps76
 go_wp2_with fail
 go_ret
 exact ⟨ret_u32 HR.out,rfl⟩
theorem brot_6 (x:Nat) (hx:x<4294967296) (w:World):Calls Tryz.prog 76 #[.int .u32 (x:Int),.int .i64 (-6)] w fun e w'=>e=.returned (w32 (rotR x 6))∧w=w':=by
 obtain ⟨p,hp⟩:∃p,p=x / 64:=⟨_,rfl⟩;obtain ⟨q,hq⟩:∃q,q=x*67108864 % 4294967296:=⟨_,rfl⟩;have HR:Hid (bits .or .u32 (q:Int) (p:Int)=((rotR x 6:Nat):Int)):=by show _=_;rw [hp,hq];exact rot_prog x 6 hx
 have h0:(x:Int)≤4294967295:=by omega
 have e1:(x:Int) / 64=(p:Int):=by omega
 have e2:(x:Int)*67108864 % 4294967296=(q:Int):=by omega
 have ha:bits .and .u64 (IntKind.u64.wrap (-6)) 31=26:=by kernel_rfl
 clear hx hp hq;go_enter Tryz.func76,Tryz.ntmps76
 go_wp2_with fail
 go_ret
 exact ⟨ret_u32 HR.out,rfl⟩
theorem brot_7 (x:Nat) (hx:x<4294967296) (w:World):Calls Tryz.prog 76 #[.int .u32 (x:Int),.int .i64 (-7)] w fun e w'=>e=.returned (w32 (rotR x 7))∧w=w':=by
 obtain ⟨p,hp⟩:∃p,p=x / 128:=⟨_,rfl⟩;obtain ⟨q,hq⟩:∃q,q=x*33554432 % 4294967296:=⟨_,rfl⟩;have HR:Hid (bits .or .u32 (q:Int) (p:Int)=((rotR x 7:Nat):Int)):=by show _=_;rw [hp,hq];exact rot_prog x 7 hx
 have h0:(x:Int)≤4294967295:=by omega
 have e1:(x:Int) / 128=(p:Int):=by omega
 have e2:(x:Int)*33554432 % 4294967296=(q:Int):=by omega
 have ha:bits .and .u64 (IntKind.u64.wrap (-7)) 31=25:=by kernel_rfl
 clear hx hp hq;go_enter Tryz.func76,Tryz.ntmps76
 go_wp2_with fail
 go_ret
 exact ⟨ret_u32 HR.out,rfl⟩
theorem brot_11 (x:Nat) (hx:x<4294967296) (w:World):Calls Tryz.prog 76 #[.int .u32 (x:Int),.int .i64 (-11)] w fun e w'=>e=.returned (w32 (rotR x 11))∧w=w':=by
 obtain ⟨p,hp⟩:∃p,p=x / 2048:=⟨_,rfl⟩;obtain ⟨q,hq⟩:∃q,q=x*2097152 % 4294967296:=⟨_,rfl⟩;have HR:Hid (bits .or .u32 (q:Int) (p:Int)=((rotR x 11:Nat):Int)):=by show _=_;rw [hp,hq];exact rot_prog x 11 hx
 have h0:(x:Int)≤4294967295:=by omega
 have e1:(x:Int) / 2048=(p:Int):=by omega
 have e2:(x:Int)*2097152 % 4294967296=(q:Int):=by omega
 have ha:bits .and .u64 (IntKind.u64.wrap (-11)) 31=21:=by kernel_rfl
 clear hx hp hq;go_enter Tryz.func76,Tryz.ntmps76
 go_wp2_with fail
 go_ret
 exact ⟨ret_u32 HR.out,rfl⟩
theorem brot_13 (x:Nat) (hx:x<4294967296) (w:World):Calls Tryz.prog 76 #[.int .u32 (x:Int),.int .i64 (-13)] w fun e w'=>e=.returned (w32 (rotR x 13))∧w=w':=by
 obtain ⟨p,hp⟩:∃p,p=x / 8192:=⟨_,rfl⟩;obtain ⟨q,hq⟩:∃q,q=x*524288 % 4294967296:=⟨_,rfl⟩;have HR:Hid (bits .or .u32 (q:Int) (p:Int)=((rotR x 13:Nat):Int)):=by show _=_;rw [hp,hq];exact rot_prog x 13 hx
 have h0:(x:Int)≤4294967295:=by omega
 have e1:(x:Int) / 8192=(p:Int):=by omega
 have e2:(x:Int)*524288 % 4294967296=(q:Int):=by omega
 have ha:bits .and .u64 (IntKind.u64.wrap (-13)) 31=19:=by kernel_rfl
 clear hx hp hq;go_enter Tryz.func76,Tryz.ntmps76
 go_wp2_with fail
 go_ret
 exact ⟨ret_u32 HR.out,rfl⟩
theorem brot_17 (x:Nat) (hx:x<4294967296) (w:World):Calls Tryz.prog 76 #[.int .u32 (x:Int),.int .i64 (-17)] w fun e w'=>e=.returned (w32 (rotR x 17))∧w=w':=by
 obtain ⟨p,hp⟩:∃p,p=x / 131072:=⟨_,rfl⟩;obtain ⟨q,hq⟩:∃q,q=x*32768 % 4294967296:=⟨_,rfl⟩;have HR:Hid (bits .or .u32 (q:Int) (p:Int)=((rotR x 17:Nat):Int)):=by show _=_;rw [hp,hq];exact rot_prog x 17 hx
 have h0:(x:Int)≤4294967295:=by omega
 have e1:(x:Int) / 131072=(p:Int):=by omega
 have e2:(x:Int)*32768 % 4294967296=(q:Int):=by omega
 have ha:bits .and .u64 (IntKind.u64.wrap (-17)) 31=15:=by kernel_rfl
 clear hx hp hq;go_enter Tryz.func76,Tryz.ntmps76
 go_wp2_with fail
 go_ret
 exact ⟨ret_u32 HR.out,rfl⟩
theorem brot_18 (x:Nat) (hx:x<4294967296) (w:World):Calls Tryz.prog 76 #[.int .u32 (x:Int),.int .i64 (-18)] w fun e w'=>e=.returned (w32 (rotR x 18))∧w=w':=by
 obtain ⟨p,hp⟩:∃p,p=x / 262144:=⟨_,rfl⟩;obtain ⟨q,hq⟩:∃q,q=x*16384 % 4294967296:=⟨_,rfl⟩;have HR:Hid (bits .or .u32 (q:Int) (p:Int)=((rotR x 18:Nat):Int)):=by show _=_;rw [hp,hq];exact rot_prog x 18 hx
 have h0:(x:Int)≤4294967295:=by omega
 have e1:(x:Int) / 262144=(p:Int):=by omega
 have e2:(x:Int)*16384 % 4294967296=(q:Int):=by omega
 have ha:bits .and .u64 (IntKind.u64.wrap (-18)) 31=14:=by kernel_rfl
 clear hx hp hq;go_enter Tryz.func76,Tryz.ntmps76
 go_wp2_with fail
 go_ret
 exact ⟨ret_u32 HR.out,rfl⟩
theorem brot_19 (x:Nat) (hx:x<4294967296) (w:World):Calls Tryz.prog 76 #[.int .u32 (x:Int),.int .i64 (-19)] w fun e w'=>e=.returned (w32 (rotR x 19))∧w=w':=by
 obtain ⟨p,hp⟩:∃p,p=x / 524288:=⟨_,rfl⟩;obtain ⟨q,hq⟩:∃q,q=x*8192 % 4294967296:=⟨_,rfl⟩;have HR:Hid (bits .or .u32 (q:Int) (p:Int)=((rotR x 19:Nat):Int)):=by show _=_;rw [hp,hq];exact rot_prog x 19 hx
 have h0:(x:Int)≤4294967295:=by omega
 have e1:(x:Int) / 524288=(p:Int):=by omega
 have e2:(x:Int)*8192 % 4294967296=(q:Int):=by omega
 have ha:bits .and .u64 (IntKind.u64.wrap (-19)) 31=13:=by kernel_rfl
 clear hx hp hq;go_enter Tryz.func76,Tryz.ntmps76
 go_wp2_with fail
 go_ret
 exact ⟨ret_u32 HR.out,rfl⟩
theorem brot_22 (x:Nat) (hx:x<4294967296) (w:World):Calls Tryz.prog 76 #[.int .u32 (x:Int),.int .i64 (-22)] w fun e w'=>e=.returned (w32 (rotR x 22))∧w=w':=by
 obtain ⟨p,hp⟩:∃p,p=x / 4194304:=⟨_,rfl⟩;obtain ⟨q,hq⟩:∃q,q=x*1024 % 4294967296:=⟨_,rfl⟩;have HR:Hid (bits .or .u32 (q:Int) (p:Int)=((rotR x 22:Nat):Int)):=by show _=_;rw [hp,hq];exact rot_prog x 22 hx
 have h0:(x:Int)≤4294967295:=by omega
 have e1:(x:Int) / 4194304=(p:Int):=by omega
 have e2:(x:Int)*1024 % 4294967296=(q:Int):=by omega
 have ha:bits .and .u64 (IntKind.u64.wrap (-22)) 31=10:=by kernel_rfl
 clear hx hp hq;go_enter Tryz.func76,Tryz.ntmps76
 go_wp2_with fail
 go_ret
 exact ⟨ret_u32 HR.out,rfl⟩
theorem brot_25 (x:Nat) (hx:x<4294967296) (w:World):Calls Tryz.prog 76 #[.int .u32 (x:Int),.int .i64 (-25)] w fun e w'=>e=.returned (w32 (rotR x 25))∧w=w':=by
 obtain ⟨p,hp⟩:∃p,p=x / 33554432:=⟨_,rfl⟩;obtain ⟨q,hq⟩:∃q,q=x*128 % 4294967296:=⟨_,rfl⟩;have HR:Hid (bits .or .u32 (q:Int) (p:Int)=((rotR x 25:Nat):Int)):=by show _=_;rw [hp,hq];exact rot_prog x 25 hx
 have h0:(x:Int)≤4294967295:=by omega
 have e1:(x:Int) / 33554432=(p:Int):=by omega
 have e2:(x:Int)*128 % 4294967296=(q:Int):=by omega
 have ha:bits .and .u64 (IntKind.u64.wrap (-25)) 31=7:=by kernel_rfl
 clear hx hp hq;go_enter Tryz.func76,Tryz.ntmps76
 go_wp2_with fail
 go_ret
 exact ⟨ret_u32 HR.out,rfl⟩
theorem mixed_bg1 (x:Nat) (hx:x<4294967296) (w:World):Calls Tryz.prog 58 #[.int .u32 (x:Int),.int .i64 6,.int .i64 11,.int .i64 25] w fun e w'=>e=.returned (w32 (bg1 x))∧w=w':=by
 have H1:=Lib.hid (fun W=>brot_6 x hx W);have H2:=Lib.hid (fun W=>brot_11 x hx W);have H3:=Lib.hid (fun W=>brot_25 x hx W);have HX:Hid (bits .xor .u32 (bits .xor .u32 ((rotR x 6:Nat):Int) ((rotR x 11:Nat):Int)) ((rotR x 25:Nat):Int)=((bg1 x:Nat):Int)):=by
  show _=_;rw [Dg.u32_xor (rotR_lt hx) (rotR_lt hx),Dg.u32_xor (xor_lt (rotR_lt hx) (rotR_lt hx)) (rotR_lt hx)];rfl
 clear hx;go_enter Tryz.func58,Tryz.ntmps58
 go_wp2_with fail
 refine (H1.out _).mono ?_;rintro e w' ⟨rfl,rfl⟩;unfold w32;go_wp2_with fail
 refine (H2.out _).mono ?_;rintro e w' ⟨rfl,rfl⟩;unfold w32;go_wp2_with fail
 refine (H3.out _).mono ?_;rintro e w' ⟨rfl,rfl⟩;unfold w32;go_wp2_with fail
 go_ret
 exact ⟨ret_u32 HX.out,rfl⟩
theorem mixed_bg0 (x:Nat) (hx:x<4294967296) (w:World):Calls Tryz.prog 58 #[.int .u32 (x:Int),.int .i64 2,.int .i64 13,.int .i64 22] w fun e w'=>e=.returned (w32 (bg0 x))∧w=w':=by
 have H1:=Lib.hid (fun W=>brot_2 x hx W);have H2:=Lib.hid (fun W=>brot_13 x hx W);have H3:=Lib.hid (fun W=>brot_22 x hx W);have HX:Hid (bits .xor .u32 (bits .xor .u32 ((rotR x 2:Nat):Int) ((rotR x 13:Nat):Int)) ((rotR x 22:Nat):Int)=((bg0 x:Nat):Int)):=by
  show _=_;rw [Dg.u32_xor (rotR_lt hx) (rotR_lt hx),Dg.u32_xor (xor_lt (rotR_lt hx) (rotR_lt hx)) (rotR_lt hx)];rfl
 clear hx;go_enter Tryz.func58,Tryz.ntmps58
 go_wp2_with fail
 refine (H1.out _).mono ?_;rintro e w' ⟨rfl,rfl⟩;unfold w32;go_wp2_with fail
 refine (H2.out _).mono ?_;rintro e w' ⟨rfl,rfl⟩;unfold w32;go_wp2_with fail
 refine (H3.out _).mono ?_;rintro e w' ⟨rfl,rfl⟩;unfold w32;go_wp2_with fail
 go_ret
 exact ⟨ret_u32 HX.out,rfl⟩
theorem start_any (w:World):Calls Tryz.prog 33 #[] w fun e w'=>e=.returned (.agg #[w32 0x6a09e667,w32 0xbb67ae85,w32 0x3c6ef372,w32 0xa54ff53a,w32 0x510e527f,w32 0x9b05688c,w32 0x1f83d9ab,w32 0x5be0cd19])∧Upd noBlk w w':=by
 go_enter Tryz.func33,Tryz.ntmps33
 go_wp2_with fail
 go_returns
 exact ⟨rfl,(Upd.refl _ _).alloc _⟩
theorem row_one (l:List Nat) (n:Nat):∀v∈(rowW l n).toList,v.oneCell'=true:=by
 intro v hv;simp [rowW] at hv;obtain ⟨j,_,rfl⟩:=hv;rfl
theorem rounds_any (w:World):Calls Tryz.prog 57 #[] w fun e w'=>e=.returned (.agg (rowW kW 64))∧Upd noBlk w w':=by
 have hz:(zeroValue 121).run Tryz.prog w=.ok (.agg (rowW [] 64)) w:=by kernel_rfl
 have HB:Hid ((w.alloc (.cells (rowW [] 64) 121)).heap[w.heap.size]?=some (.cells (rowW [] 64) 121 (0,0))):=heap_alloc_new w _;obtain ⟨X,hst,hx1,hx2⟩:=store_row (P:=Tryz.prog) HB.out (vs:=(rowW kW 64).toList) (by simp [rowW_size]) (row_one kW 64);have HX1:=Lib.hid hx1;have HX2:=Lib.hid (((Upd.refl noBlk w).alloc _).then hx2 (fun i hi e=>by omega));clear hx1 hx2;go_enter Tryz.func57,Tryz.ntmps57
 go_upto_region 1 with (fail)
 go_wp2_with (refine wpList_value (o:=⟨some 1,_,_,_,_,_⟩) (.agg (rowW kW 64)) rfl ?hv ?_;(case hv=>kernel_rfl))
 refine bodyPost_ret (results_cell_row rfl _ _ w.heap.size 121 _ (0,0) _ rfl HX1.out Tryz.underlying121 rfl (by kernel_rfl)) rfl ?_;exact ⟨rfl,HX2.out⟩
theorem jrounds_any (w:World):Calls Tryz.prog 73 #[] w fun e w'=>e=.returned (.agg (rowW kW 64))∧Upd noBlk w w':=by
 have hz:(zeroValue 121).run Tryz.prog w=.ok (.agg (rowW [] 64)) w:=by kernel_rfl
 have HB:Hid ((w.alloc (.cells (rowW [] 64) 121)).heap[w.heap.size]?=some (.cells (rowW [] 64) 121 (0,0))):=heap_alloc_new w _;obtain ⟨X,hst,hx1,hx2⟩:=store_row (P:=Tryz.prog) HB.out (vs:=(rowW kW 64).toList) (by simp [rowW_size]) (row_one kW 64);have HX1:=Lib.hid hx1;have HX2:=Lib.hid (((Upd.refl noBlk w).alloc _).then hx2 (fun i hi e=>by omega));clear hx1 hx2;go_enter Tryz.func73,Tryz.ntmps73
 go_upto_region 1 with (fail)
 go_wp2_with (refine wpList_value (o:=⟨some 1,_,_,_,_,_⟩) (.agg (rowW kW 64)) rfl ?hv ?_;(case hv=>kernel_rfl))
 refine bodyPost_ret (results_cell_row rfl _ _ w.heap.size 121 _ (0,0) _ rfl HX1.out Tryz.underlying121 rfl (by kernel_rfl)) rfl ?_;exact ⟨rfl,HX2.out⟩
end Go.Proofs.YtmgklblglpplcaaGreatDoor
