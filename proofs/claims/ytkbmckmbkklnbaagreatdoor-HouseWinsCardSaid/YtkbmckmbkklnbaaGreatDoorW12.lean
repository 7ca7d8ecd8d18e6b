/- A part of a program logic over the kit's walk rules, and contracts of functions in it. Conditions: as each theorem says. -/
import Derived.Test.YtkbmckmbkklnbaaGreatDoorW11
import Derived.LaidMore
import Derived.Lay
import Derived.SevenTiedAt
import Derived.Stop.Joined
import Derived.LaidSub
set_option linter.all false
namespace Go.XL
open Go.Proofs Go.Proofs.YtkbmckmbkklnbaaGreatDoor Go.ChangeShapes Go.WideShapes Go.ChangeAt Go.RowKit
set_option maxRecDepth 100000
def laidL :List (String×DataW Unit):= [("unicode/utf8.acceptRanges",Rows.laid_unicode_utf8_acceptRanges),("unicode/utf8.first",Rows.laid_unicode_utf8_first)]
noncomputable def wit (os:Os):World:=(World.doorLaid Tryz.prog 600 os).layVars Tryz.prog laidL
theorem ytq (os:Os):(wit os).os=os:=World.layVars_os _ _ _
theorem ygk :(laidL.filter fun x=>x.2.handleName?.isNone)=laidL:=rfl
theorem yma (os:Os):(World.doorLaid Tryz.prog 600 os).layFits Tryz.prog laidL []=true:=by kernel_rfl
theorem yqi (os:Os) (args:Array Value):laidMetH Tryz.prog laidL ((wit os).forCall (fun _ _=>0) ⟨#[],args,[]⟩).memory :=
 laidMetH_of_parts3 (fuel:=8) (by
  rw[ygk]
  have e1:(laidL.filter fun x=>(laidL.map (·.1)).contains x.1)=laidL:=List.filter_eq_self.2 fun x hx=>Zcc.2 (Zbp.2 ⟨x,hx,rfl⟩)
  have e2:(laidL.filter fun x=> !(laidL.map (·.1)).contains x.1)= []:=List.filter_eq_nil_iff.2 fun x hx=>by rw[Zcc.2 (Zbp.2 ⟨x,hx,rfl⟩)];simp
  have h:laidMet Tryz.prog laidL (wit os):=laidMet_layVars (w0:=World.doorLaid Tryz.prog 600 os) (laidL.map (·.1)) [] (by rw[e1];rfl) (by rw[e1];exact yma os) (by rw[e1];kernel_rfl) (by rw[e2];exact LaidIn.none)
  exact h.of_heap (by simp[World.memory,World.forCall,Input.heap])) yKR yKR
end Go.XL
