/- A part of a program logic over the kit's walk rules, and contracts of functions in it. Conditions: as each theorem says. -/
import Derived.Test.YtkbmckmbkklnbaaGreatDoorW9
set_option linter.all false
namespace Go.XL
open Go.Proofs Go.Proofs.Tryz
set_option maxRecDepth 1000000
def zwo:Option (XI.V×XI.Hp)->Bool
 |some (.bool true,_)=>true
 |_=>false
def zwn{o:Option (XI.V×XI.Hp)}(h:zwo o=true):∃H',o=some (.bool true,H'):=by
 unfold zwo at h
 split at h
 ·exact⟨_,rfl⟩
 ·cases h
def yhb:zwo (XI.callV prog (XI.runC prog (orcT tabA) 100000) 5 [] ⟨.nil,0⟩)=true:=by kernel_rfl
def ykx:PC prog 5 [] (Bo true):=by
 obtain⟨H',e⟩:=zwn yhb
 exact PC.closed (zux yqt) mixed 100000 e (λ_=>rfl) (λ_=>V.Rl_v) rfl
end Go.XL
