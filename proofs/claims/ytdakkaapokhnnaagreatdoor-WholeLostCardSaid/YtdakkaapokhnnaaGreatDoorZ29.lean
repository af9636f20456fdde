/- Contracts of functions. No condition. -/
import Derived.Test.YtdakkaapokhnnaaGreatDoorZ27
namespace Go.Proofs.YtdakkaapokhnnaaGreatDoor
open Go.RowKit Go.Proofs.Tryz
set_option maxRecDepth 100000
set_option maxHeartbeats 6400000
set_option linter.all false
section
open A (QE jJ bu)
section
variable (w0:World)(X:CX)(Y:CY)(C:CS)(z:List Int)(hz:z.length=11)(hI:Inv (bg X Y C).own w0 w0 [bg X Y C])
include hz hI
theorem ae_(h:¬(0<=gi z 1∧gi z 1<5)):Calls prog 19 #[.pointer (some ⟨X.cb,0,none⟩),ia z] w0 λe w'=>e=.returned (.int .i64 5)∧Inv (bg X Y C).own w0 w' [bg X Y C]:=by
 have hz1:Hid (gi z 1<0∨5<=gi z 1):=HD OM;clear h;go_enter func19,ntmps19;go_wp2_with(first|go_at_call 38;refine KR (Sn _ _ _ hz1.out) ?_|refine YL ?_|refine YX ?_;intro bx w hI);go_ret;exact⟨rfl,hI.tl⟩
variable (i:Nat)(hi:i<5)(h1:gi z 1=(i:Int))
include hi h1
theorem OL(h0:gi z 0=0)(hg:pM C i=true->dU (C.S i).view∧(C.S i).aV.length<=1000000000∧Go.Proofs.YtdakkaapokhnnaaGreatDoor.C.vG (C.S i).own∧Go.Proofs.YtdakkaapokhnnaaGreatDoor.C.Bk (C.S i).book):
  Calls prog 19 #[.pointer (some ⟨X.cb,0,none⟩),ia z] w0 λe w'=>∃Y',e=.returned (.int .i64 (oD C z).2)∧Inv (bg X Y C).own w0 w' [bg X Y' (oD C z).1]:=by
 exact W1
theorem OO(h0:gi z 0=1)(hg:pM C i=true->dU (C.S i).view∧(C.S i).aV.length<=1000000000∧Go.Proofs.YtdakkaapokhnnaaGreatDoor.C.vG (C.S i).own∧Go.Proofs.YtdakkaapokhnnaaGreatDoor.C.Bk (C.S i).book):
  Calls prog 19 #[.pointer (some ⟨X.cb,0,none⟩),ia z] w0 λe w'=>∃Y',e=.returned (.int .i64 (oD C z).2)∧Inv (bg X Y C).own w0 w' [bg X Y' (oD C z).1]:=by
 exact W1
theorem OP(h0:gi z 0=2)(hg:pM C i=true->dU (C.S i).view∧(C.S i).aV.length<=1000000000∧Go.Proofs.YtdakkaapokhnnaaGreatDoor.C.vG (C.S i).own∧Go.Proofs.YtdakkaapokhnnaaGreatDoor.C.Bk (C.S i).book):
  Calls prog 19 #[.pointer (some ⟨X.cb,0,none⟩),ia z] w0 λe w'=>∃Y',e=.returned (.int .i64 (oD C z).2)∧Inv (bg X Y C).own w0 w' [bg X Y' (oD C z).1]:=by
 exact W1
theorem OQ(h0:gi z 0=3)(hg:pM C i=true->dU (C.S i).view∧(C.S i).aV.length<=1000000000∧Go.Proofs.YtdakkaapokhnnaaGreatDoor.C.vG (C.S i).own∧Go.Proofs.YtdakkaapokhnnaaGreatDoor.C.Bk (C.S i).book):
  Calls prog 19 #[.pointer (some ⟨X.cb,0,none⟩),ia z] w0 λe w'=>∃Y',e=.returned (.int .i64 (oD C z).2)∧Inv (bg X Y C).own w0 w' [bg X Y' (oD C z).1]:=by
 exact W1
theorem OT(h0:gi z 0=4)(hg:pM C i=true->dU (C.S i).view∧(C.S i).aV.length<=1000000000∧Go.Proofs.YtdakkaapokhnnaaGreatDoor.C.vG (C.S i).own∧Go.Proofs.YtdakkaapokhnnaaGreatDoor.C.Bk (C.S i).book):
  Calls prog 19 #[.pointer (some ⟨X.cb,0,none⟩),ia z] w0 λe w'=>∃Y',e=.returned (.int .i64 (oD C z).2)∧Inv (bg X Y C).own w0 w' [bg X Y' (oD C z).1]:=by
 exact W1
end
end
