/- A part of a program logic over the kit's walk rules, and contracts of functions in it. Conditions: as each theorem says. -/
import Derived.Test.YtbbhoipphnbdiaaGreatDoorU9
set_option linter.all false
namespace Go.XL
open Go.Proofs Go.Proofs.YtbbhoipphnbdiaaGreatDoor Go.ChangeShapes Go.WideShapes Go.ChangeAt Go.RowKit
set_option maxRecDepth 100000
def laidL :List (String×DataW Unit):= [("math/bits.deBruijn64tab",Rows.laid_math_bits_deBruijn64tab),("unicode/utf8.acceptRanges",Rows.laid_unicode_utf8_acceptRanges),("sparrow/score.modes",Rows.laid_sparrow_score_modes),("unicode/utf8.first",Rows.laid_unicode_utf8_first)]
def dataL :List (String×DataW Unit):= [("math/bits.deBruijn64tab",Rows.laid_math_bits_deBruijn64tab),("unicode/utf8.acceptRanges",Rows.laid_unicode_utf8_acceptRanges),("unicode/utf8.first",Rows.laid_unicode_utf8_first)]
noncomputable def wit (os:Os):World:=(World.doorLaid Tryz.prog 600 os).layVars Tryz.prog dataL
theorem yos (os:Os):(wit os).os=os:=World.layVars_os _ _ _
theorem yaw :(laidL.filter fun x=>x.2.handleName?.isNone)=dataL:=rfl
theorem yhf (os:Os):(World.doorLaid Tryz.prog 600 os).layFits Tryz.prog dataL []=true:=by kernel_rfl
theorem yml (os:Os) (args:Array Value):laidMetH Tryz.prog laidL ((wit os).forCall (fun _ _=>0) ⟨#[],args,[]⟩).memory :=
 laidMetH_of_parts3 (fuel:=8) (by
  rw[yaw]
  have e1:(dataL.filter fun x=>(dataL.map (·.1)).contains x.1)=dataL:=List.filter_eq_self.2 fun x hx=>List.contains_iff_mem.2 (List.mem_map.2 ⟨x,hx,rfl⟩)
  have e2:(dataL.filter fun x=> !(dataL.map (·.1)).contains x.1)= []:=List.filter_eq_nil_iff.2 fun x hx=>by rw[List.contains_iff_mem.2 (List.mem_map.2 ⟨x,hx,rfl⟩)];simp
  have h:laidMet Tryz.prog dataL (wit os):=laidMet_layVars (w0:=World.doorLaid Tryz.prog 600 os) (dataL.map (·.1)) [] (by rw[e1];rfl) (by rw[e1];exact yhf os) (by rw[e1];kernel_rfl) (by rw[e2];exact LaidIn.none)
  exact h.of_heap (by simp[World.memory,World.forCall,Input.heap])) yKR yKR
end Go.XL
