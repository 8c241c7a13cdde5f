/- Layer 10: whether a RISC-V instruction may be: the program and the reference. -/
import Derived.Test.YtgjefdaaihgliaaGreatDoorMn07

namespace Go.Proofs.YtgjefdaaihgliaaGreatDoor
open Go.RowKit
section
theorem Zdm (w:World)(o:Obj)(t:TypeId)(cs:Array Value):Blk ((w.alloc o).alloc (.cells cs t (0,0))) (w.heap.size+1) t cs:=by
 have h:=Blk.new (w.alloc o) t cs
 rwa [show (w.alloc o).heap.size=w.heap.size+1 by simp] at h
theorem Zdu {fn:Func}(hfn:fn.results=#[.cell 2 92,.tmp 3]){a:Act}{W:World}{R:Ending->World->Prop}{b:Nat}{op d a' b' imm fence:Int}{loc label:ByteArray}{ok:Bool}
  (hB:Blk W b 92 #[.int .i64 op,.int .i64 d,.int .i64 a',.int .i64 b',.int .i64 imm,.string loc,.string label,.int .i64 fence]) (h2:a.tmps[2]?=some (.pointer (some ⟨b,0,none⟩))) (h3:a.tmps[3]?=some (.bool ok)) (hd:a.defers=[])
  (hR:R (.returned (.tuple #[Zcl op d a' b' imm loc label fence,.bool ok])) W):bodyPost Tryz.prog fn R .ret a W:=by
 have a0:=hB.k0;have a1:=hB.k1;have a2:=hB.k2;have a3:=hB.k3;have a4:=hB.k4;have a5:=hB.k5;have a6:=hB.k6;have a7:=hB.k7;exact bodyPost_ret (by simp [results,hfn,h2,h3,go_sem,a0,a1,a2,a3,a4,a5,a6,a7]) hd hR
section
variable (d a b imm:Int) (loc label:ByteArray) (fence:Int) (w:World)
set_option maxHeartbeats 800000
theorem Zuq:Calls Tryz.prog 173 #[Zcl 6 d a b imm loc label fence] w (RB w (.tuple #[Zcl 6 d a 0 0 ⟨#[]⟩ ⟨#[]⟩ 0,.bool true])):=by
 go_enter Tryz.func173,Tryz.ntmps173
 go_wp2_with fail
 go_region
 go_wp2_with fail
 refine Zdu rfl (b:=w.heap.size+1) (by first | exact (Zdm w _ _ _).alloc _ | exact ((Zdm w _ _ _).alloc _).drew) rfl rfl rfl ?_;exact⟨rfl,by first | exact (Zaa (Zaa (Zad w _) _) _) | exact (Zaa (Zaa (Zad w _) _) _).drew | exact (Zaa (Zaa (Zad w _) _) _).drew.drew | exact (Zaa (Zaa (Zad w _) _) _).drew.drew.drew⟩
theorem Zur:Calls Tryz.prog 173 #[Zcl 7 d a b imm loc label fence] w (RB w (.tuple #[Zcl 7 0 a b 0 ⟨#[]⟩ ⟨#[]⟩ 0,.bool true])):=by
 go_enter Tryz.func173,Tryz.ntmps173
 go_wp2_with fail
 go_region
 go_wp2_with fail
 refine Zdu rfl (b:=w.heap.size+1) (by first | exact (Zdm w _ _ _).alloc _ | exact ((Zdm w _ _ _).alloc _).drew) rfl rfl rfl ?_;exact⟨rfl,by first | exact (Zaa (Zaa (Zad w _) _) _) | exact (Zaa (Zaa (Zad w _) _) _).drew | exact (Zaa (Zaa (Zad w _) _) _).drew.drew | exact (Zaa (Zaa (Zad w _) _) _).drew.drew.drew⟩
theorem Zus:Calls Tryz.prog 173 #[Zcl 8 d a b imm loc label fence] w (RB w (.tuple #[Zcl 8 d a 0 imm ⟨#[]⟩ ⟨#[]⟩ 0,.bool (decide (-2048<=imm)&&decide (imm<=2047))])):=by
 by_cases g1:(-2048:Int)<=imm
 ·have f1:decide ((-2048:Int)<=imm)=true:=decide_eq_true g1;by_cases g2:imm<=(2047:Int)
  ·have f2:decide (imm<=(2047:Int))=true:=decide_eq_true g2;exact m_17
  ·have f2:decide (imm<=(2047:Int))=false:=decide_eq_false g2;exact m_17
 ·have f1:decide ((-2048:Int)<=imm)=false:=decide_eq_false g1;rw [f1,Bool.false_and];go_enter Tryz.func173,Tryz.ntmps173
  go_wp2_with fail
  go_region
  exact m_31
theorem Zut:Calls Tryz.prog 173 #[Zcl 9 d a b imm loc label fence] w (RB w (.tuple #[Zcl 9 d a b 0 ⟨#[]⟩ ⟨#[]⟩ 0,.bool true])):=by
 go_enter Tryz.func173,Tryz.ntmps173
 go_wp2_with fail
 go_region
 go_wp2_with fail
 refine Zdu rfl (b:=w.heap.size+1) (by first | exact (Zdm w _ _ _).alloc _ | exact ((Zdm w _ _ _).alloc _).drew) rfl rfl rfl ?_;exact⟨rfl,by first | exact (Zaa (Zaa (Zad w _) _) _) | exact (Zaa (Zaa (Zad w _) _) _).drew | exact (Zaa (Zaa (Zad w _) _) _).drew.drew | exact (Zaa (Zaa (Zad w _) _) _).drew.drew.drew⟩
theorem Zsj:Calls Tryz.prog 173 #[Zcl 10 d a b imm loc label fence] w (RB w (.tuple #[Zcl 10 d a b 0 ⟨#[]⟩ ⟨#[]⟩ 0,.bool true])):=by
 go_enter Tryz.func173,Tryz.ntmps173
 go_wp2_with fail
 go_region
 go_wp2_with fail
 refine Zdu rfl (b:=w.heap.size+1) (by first | exact (Zdm w _ _ _).alloc _ | exact ((Zdm w _ _ _).alloc _).drew) rfl rfl rfl ?_;exact⟨rfl,by first | exact (Zaa (Zaa (Zad w _) _) _) | exact (Zaa (Zaa (Zad w _) _) _).drew | exact (Zaa (Zaa (Zad w _) _) _).drew.drew | exact (Zaa (Zaa (Zad w _) _) _).drew.drew.drew⟩
theorem Zsk (nb:Bool)(hnb:Zbl label.data.toList=nb)(hs:label.size<=9223372036854775807):Calls Tryz.prog 173 #[Zcl 11 d a b imm loc label fence] w (RB w (.tuple #[Zcl 11 0 a b 0 ⟨#[]⟩ label 0,.bool nb])):=by
 have HNB:=Zh hnb;go_enter Tryz.func173,Tryz.ntmps173
 go_wp2_with fail
 go_region
 go_wp2_with fail
 go_region_with (go_at_call 202;refine (Z5s _ _ hs).mono ?_;rw [HNB.o];rintro e w' ⟨rfl,rfl⟩)
 all_goals
  go_wp2_with fail
  refine Zdu rfl (b:=w.heap.size+1) (by first | exact (Zdm w _ _ _).alloc _ | exact ((Zdm w _ _ _).alloc _).drew) rfl rfl rfl ?_;exact⟨rfl,by first | exact (Zaa (Zaa (Zad w _) _) _) | exact (Zaa (Zaa (Zad w _) _) _).drew | exact (Zaa (Zaa (Zad w _) _) _).drew.drew | exact (Zaa (Zaa (Zad w _) _) _).drew.drew.drew⟩
theorem Zsl (nb:Bool)(hnb:Zbl label.data.toList=nb)(hs:label.size<=9223372036854775807):Calls Tryz.prog 173 #[Zcl 12 d a b imm loc label fence] w (RB w (.tuple #[Zcl 12 0 0 0 0 ⟨#[]⟩ label 0,.bool nb])):=by
 have HNB:=Zh hnb;go_enter Tryz.func173,Tryz.ntmps173
 go_wp2_with fail
 go_region_with (go_at_call 202;refine (Z5s _ _ hs).mono ?_;rw [HNB.o];rintro e w' ⟨rfl,rfl⟩)
 all_goals
  go_wp2_with fail
  refine Zdu rfl (b:=w.heap.size+1) (by first | exact (Zdm w _ _ _).alloc _ | exact ((Zdm w _ _ _).alloc _).drew) rfl rfl rfl ?_;exact⟨rfl,by first | exact (Zaa (Zaa (Zad w _) _) _) | exact (Zaa (Zaa (Zad w _) _) _).drew | exact (Zaa (Zaa (Zad w _) _) _).drew.drew | exact (Zaa (Zaa (Zad w _) _) _).drew.drew.drew⟩
theorem Zsm:Calls Tryz.prog 173 #[Zcl 13 d a b imm loc label fence] w (RB w (.tuple #[Zcl 13 0 0 0 0 ⟨#[]⟩ ⟨#[]⟩ fence,.bool (decide (2<=fence)&&decide (fence<=11))])):=by
 by_cases g1:(2:Int)<=fence
 ·have f1:decide ((2:Int)<=fence)=true:=decide_eq_true g1;by_cases g2:fence<=(11:Int)
  ·have f2:decide (fence<=(11:Int))=true:=decide_eq_true g2;exact m_19
  ·have f2:decide (fence<=(11:Int))=false:=decide_eq_false g2;exact m_19
 ·have f1:decide ((2:Int)<=fence)=false:=decide_eq_false g1;rw [f1,Bool.false_and];go_enter Tryz.func173,Tryz.ntmps173;exact m_31
theorem Zsn (op:Int)(h6:(op == 6)=false)(h7:(op == 7)=false)(h8:(op == 8)=false)(h9:(op == 9)=false)(h10:(op == 10)=false)(h11:(op == 11)=false)(h12:(op == 12)=false)(h13:(op == 13)=false):Calls Tryz.prog 173 #[Zcl op d a b imm loc label fence] w (RB w (.tuple #[Zcl op 0 0 0 0 ⟨#[]⟩ ⟨#[]⟩ 0,.bool false])):=by
 go_enter Tryz.func173,Tryz.ntmps173
 go_wp2_with fail
 refine Zdu rfl (b:=w.heap.size+1) (by first | exact (Zdm w _ _ _).alloc _ | exact ((Zdm w _ _ _).alloc _).drew) rfl rfl rfl ?_;exact⟨rfl,by first | exact (Zaa (Zaa (Zad w _) _) _) | exact (Zaa (Zaa (Zad w _) _) _).drew | exact (Zaa (Zaa (Zad w _) _) _).drew.drew | exact (Zaa (Zaa (Zad w _) _) _).drew.drew.drew⟩
end
end
end Go.Proofs.YtgjefdaaihgliaaGreatDoor
