/- Contracts of functions. No condition. -/
import Derived.Test.YtdakkaapokhnnaaGreatDoorZ31
namespace Go.Proofs.YtdakkaapokhnnaaGreatDoor
open Go.RowKit Go.Proofs.Tryz
set_option maxRecDepth 100000
set_option maxHeartbeats 6400000
set_option linter.all false
section
open A (QE kE bU)
section
variable (w0:World)(X:CX)(Y:CY)(C:CS)(z:List Int)(hz:z.length=11)(hI:Inv (bF X Y C).own w0 w0 [bF X Y C])
include hz hI
variable (i:Nat)(hi:i<5)(h1:gi z 1=(i:Int))
include hi h1
theorem aew(h0:gi z 0=8)(hg:nM C i=true->eG (C.S i).view):
  Calls prog 19 #[.pointer (some ⟨X.cb,0,none⟩),ia z] w0 λe w'=>∃Y',e=.returned (.int .i64 (nA C z).2)∧Inv (bF X Y C).own w0 w' [bF X Y' (nA C z).1]:=by
 obtain⟨ub,lX⟩:=EQ (nM C i);obtain⟨W,hW⟩:=EH (nA C z);rw[hW.out];have hW2:W=if ub=true then(nC C i (sV i (rs C i)),0)else(C,4):=by
  rw[<-hW.out,nA,if_neg OM];dsimp only;rw[if_neg OM,if_neg OM,if_pos h0,show(gi z 1).toNat=i by omega,lX]
 have hub:=HD lX;clear hW;cases ub
 ·rw[if_neg SI]at hW2
  replace hW2:=HD hW2;clear hg lX;go_enter func19,ntmps19;go_wp2_with(first|refine YL ?_|refine YX ?_;intro bx w hI|go_at_call 38;refine KR (jC _ _ i hi) ?_|go_at_call 33;refine KR (zT hi hI aM _ hub) ?_);go_ret;rw[hW2.out];exact⟨Y,rfl,hI.tl⟩
 ·have hvw:=HD (hg lX)
  have hu:C.up i=true:=by rw[nM,Bool.and_eq_true]at lX;exact lX.1
  have hvl:=((Ga hi hI aC).2 hu).2.view;rw[if_pos rfl]at hW2;replace hW2:=HD hW2;have hcm:(bC X Y C)[6+i]? =some (.pointer (some ⟨(Y.m i).b,0,none⟩)):=by rw[<-rC (Y:=Y) hu];exact tF _ _ _ _ hi
  clear hg lX;go_enter func19,ntmps19;go_upto_region 20 with(first|refine YL ?_|refine YX ?_;intro bx w hI|go_at_call 38;refine KR (jC _ _ i hi) ?_|go_at_call 33;refine KR (zT hi hI aM _ hub) ?_)
  (obtain⟨bz,hbx⟩:=EZ bx;subst hbx)
  (refine ZR [11,12] [0,1,2,3,4,5,6] [11] [0,1,2,3,4,5,6,7,8,9,10,11,12] (λw=>Inv (bF X Y C).own w0 w [ib bz 50 z,bF X Y C]) hI ?_;intro wd hI)
  (repeat(first| (refine ZA ?_;go_wp2_with(go_at_call 41;refine KG hI (aeo _ X _ _ i hi hu (hI.at_ aM) hvw hvl) ?_;intro Y2 w1 hI);refine gz ?_) | (refine ZB ?_;go_wp2_with(fail);(refine iU (hI.sub SB) ?_)) | (refine ZC ?_;go_wp2_with(refine YL ?_);refine fZ ?_) | ((refine iA RF RF RF RF (hI.sub SB) (by intro w (hI:Inv _ _ w _);first| (with_reducible exact wF (congrArg (Value.int .i64) h1) (LW hI)) | (with_reducible exact D7 (cb:=X.cb) RF RF hi) | (with_reducible exact fw hI RF aM aQ.out hcm) | (unfold gu;go_simp;with_reducible rfl)) ?_);(simp only[QN]))));refine dN ?_
  go_wp2_with(fail);go_ret;rw[hW2.out];exact⟨Y2,rfl,hI.tl⟩
theorem aic(h0:gi z 0=9)(hn4:Hid (-9223372036854775808<=gi z 4∧gi z 4<=9223372036854775807)):
  Calls prog 19 #[.pointer (some ⟨X.cb,0,none⟩),ia z] w0 λe w'=>∃Y',e=.returned (.int .i64 (nA C z).2)∧Inv (bF X Y C).own w0 w' [bF X Y' (nA C z).1]:=by
 obtain⟨W,hW⟩:=EH (nA C z);rw[hW.out];have hW2:Hid (W=(nJ C i {(C.S i).D with armed:=true,left:=max (gi z 4) 0},0)):=HD (by
  rw[<-hW.out,nA,if_neg OM];dsimp only;rw[if_neg OM,if_neg OM,if_neg OM,if_pos h0,show(gi z 1).toNat=i by omega])
 have hok:=(Ga hi hI aC).1;have hln:0<=max (gi z 4) 0∧max (gi z 4) 0<9223372036854775808:=by have:=hn4.out;omega
 have hdn:Hd {(C.S i).D with armed:=true,left:=max (gi z 4) 0}:=⟨⟨hok.ok.Yg,hok.ok.Yh,hln⟩,hok.rest,hok.w⟩;have hlk:Cm (C.S i).D (C.S i).cnt (C.S i).used->Cm {(C.S i).D with armed:=true,left:=max (gi z 4) 0} (C.S i).cnt (C.S i).used:=λh=>⟨⟨h.ok.Yg,h.ok.Yh,hln⟩,h.cu,h.u,h.w60,h.rest⟩
 have hcd:(bC X Y C)[1+i]? =some (.pointer (some ⟨X.d i,0,none⟩)):=zt _ _ _ _ hi;clear hW hln hok;go_enter func19,ntmps19;go_upto_region 22 with(first|refine YL ?_|refine YX ?_;intro bx w hI|go_at_call 38;refine KR (jC _ _ i hi) ?_)
 refine ZT [9] 10 hI ?_;intro wd hI
 (repeat(refine ZQ ?_;go_wp2_with(first|go_at_call 42;(with_reducible refine(Yi _ (X.d i) (X.mr i) _ _ (T9 hi hI aM) (gi z 4) hn4.out).mono ?_);rintro e w1 ⟨rfl,hJ⟩;replace hI:=T_ hi hI jo hJ hdn hlk;clear hJ|refine YL ?_|with_reducible refine av (fw hI RF aM aQ.out hcd) ?_);refine ZP ?_))
 go_wp2_with(fail);go_ret;rw[hW2.out];exact⟨_,rfl,hI.tl⟩
theorem aa9(h0:gi z 0=11)(hend:Hid (C.up i=false->Ae (dU (C.S i).D))):
  Calls prog 19 #[.pointer (some ⟨X.cb,0,none⟩),ia z] w0 λe w'=>∃Y',e=.returned (.int .i64 (nA C z).2)∧Inv (bF X Y C).own w0 w' [bF X Y' (nA C z).1]:=by
 obtain⟨W,hW⟩:=EH (nA C z);rw[hW.out];have hW2:Hid (W=jK C i):=HD (by
  rw[<-hW.out,nA,if_neg OM];dsimp only;rw[if_neg OM,if_neg OM,if_neg OM,if_neg OM,if_neg OM,if_pos h0,show(gi z 1).toNat=i by omega])
 clear hW;go_enter func19,ntmps19;go_wp2_with(first|refine YL ?_|refine YX ?_;intro bx w hI|go_at_call 38;refine KR (jC _ _ i hi) ?_|go_at_call 45;refine KG hI (aa8 _ X _ _ i hi (hI.at_ aM) hend.out) ?_;intro Y2 w1 hI);go_ret;rw[hW2.out];exact⟨Y2,rfl,hI.tl⟩
end
end
