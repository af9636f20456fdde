/- Contracts of functions. No condition. -/
import Derived.Test.YtdakkaapokhnnaaGreatDoorZ31
namespace Go.Proofs.YtdakkaapokhnnaaGreatDoor
open Go.RowKit Go.Proofs.Tryz
set_option maxRecDepth 100000
set_option maxHeartbeats 6400000
set_option linter.all false
section
open A (QE kE bU)
section
variable (w0:World)(X:CX)(Y:CY)(C:CS)(z:List Int)(hz:z.length=11)(hI:Inv (bF X Y C).own w0 w0 [bF X Y C])
include hz hI
theorem aib(h:¬(0<=gi z 1∧gi z 1<5)):Calls prog 19 #[.pointer (some ⟨X.cb,0,none⟩),ia z] w0 λe w'=>e=.returned (.int .i64 5)∧Inv (bF X Y C).own w0 w' [bF X Y C]:=by
 have hz1:Hid (gi z 1<0∨5<=gi z 1):=HD OM;clear h;go_enter func19,ntmps19;go_wp2_with(first|go_at_call 38;refine KR (Wj _ _ _ hz1.out) ?_|refine YL ?_|refine YX ?_;intro bx w hI);go_ret;exact⟨rfl,hI.tl⟩
variable (i:Nat)(hi:i<5)(h1:gi z 1=(i:Int))
include hi h1
theorem Rk(h0:gi z 0=0)(hg:nM C i=true->eG (C.S i).view∧(C.S i).aX.length<=1000000000∧Go.Proofs.YtdakkaapokhnnaaGreatDoor.C.wW (C.S i).own∧Go.Proofs.YtdakkaapokhnnaaGreatDoor.C.Bk (C.S i).book):
  Calls prog 19 #[.pointer (some ⟨X.cb,0,none⟩),ia z] w0 λe w'=>∃Y',e=.returned (.int .i64 (nA C z).2)∧Inv (bF X Y C).own w0 w' [bF X Y' (nA C z).1]:=by
 exact W1
theorem Rl(h0:gi z 0=1)(hg:nM C i=true->eG (C.S i).view∧(C.S i).aX.length<=1000000000∧Go.Proofs.YtdakkaapokhnnaaGreatDoor.C.wW (C.S i).own∧Go.Proofs.YtdakkaapokhnnaaGreatDoor.C.Bk (C.S i).book):
  Calls prog 19 #[.pointer (some ⟨X.cb,0,none⟩),ia z] w0 λe w'=>∃Y',e=.returned (.int .i64 (nA C z).2)∧Inv (bF X Y C).own w0 w' [bF X Y' (nA C z).1]:=by
 exact W1
theorem Rm(h0:gi z 0=2)(hg:nM C i=true->eG (C.S i).view∧(C.S i).aX.length<=1000000000∧Go.Proofs.YtdakkaapokhnnaaGreatDoor.C.wW (C.S i).own∧Go.Proofs.YtdakkaapokhnnaaGreatDoor.C.Bk (C.S i).book):
  Calls prog 19 #[.pointer (some ⟨X.cb,0,none⟩),ia z] w0 λe w'=>∃Y',e=.returned (.int .i64 (nA C z).2)∧Inv (bF X Y C).own w0 w' [bF X Y' (nA C z).1]:=by
 exact W1
theorem Rn(h0:gi z 0=3)(hg:nM C i=true->eG (C.S i).view∧(C.S i).aX.length<=1000000000∧Go.Proofs.YtdakkaapokhnnaaGreatDoor.C.wW (C.S i).own∧Go.Proofs.YtdakkaapokhnnaaGreatDoor.C.Bk (C.S i).book):
  Calls prog 19 #[.pointer (some ⟨X.cb,0,none⟩),ia z] w0 λe w'=>∃Y',e=.returned (.int .i64 (nA C z).2)∧Inv (bF X Y C).own w0 w' [bF X Y' (nA C z).1]:=by
 exact W1
theorem Ro(h0:gi z 0=4)(hg:nM C i=true->eG (C.S i).view∧(C.S i).aX.length<=1000000000∧Go.Proofs.YtdakkaapokhnnaaGreatDoor.C.wW (C.S i).own∧Go.Proofs.YtdakkaapokhnnaaGreatDoor.C.Bk (C.S i).book):
  Calls prog 19 #[.pointer (some ⟨X.cb,0,none⟩),ia z] w0 λe w'=>∃Y',e=.returned (.int .i64 (nA C z).2)∧Inv (bF X Y C).own w0 w' [bF X Y' (nA C z).1]:=by
 exact W1
end
end
