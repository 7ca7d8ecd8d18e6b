/- A part of a program logic over the kit's walk rules, and contracts of functions in it. Conditions: as each theorem says. -/
import Derived.Test.YtoihlmdcgagegaaGreatDoorR5
set_option linter.all false
namespace Go.XL
open Go.Proofs
set_option maxRecDepth 1000000
def saysTrue :Option (XI.V×XI.Hp)→Bool
 | some (.bool true,_)=>true
 | _=>false
theorem saysTrue_some {o:Option (XI.V×XI.Hp)} (h:saysTrue o=true): ∃H',o=some (.bool true,H'):=by
 unfold saysTrue at h
 split at h
 ·exact⟨_,rfl⟩
 ·cases h
theorem awakeH_run :saysTrue (XI.callV Tryz.prog (XI.runC Tryz.prog (orcT tabA) 100000) 8 [] ⟨.nil,0⟩)=true:=by kernel_rfl
theorem awakeH_pc :PC Tryz.prog 8 [] (Bo true):=by
 obtain⟨H',e⟩:=saysTrue_some awakeH_run
 exact PC.closed (orcT_sound tabA_ok) mixed 100000 e (fun _=>rfl) (fun _=>V.Rl_v) rfl
end Go.XL
