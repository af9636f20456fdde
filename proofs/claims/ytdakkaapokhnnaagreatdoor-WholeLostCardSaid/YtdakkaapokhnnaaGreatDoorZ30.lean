/- Contracts of functions. No condition. -/
import Derived.Test.YtdakkaapokhnnaaGreatDoorZ27
namespace Go.Proofs.YtdakkaapokhnnaaGreatDoor
open Go.RowKit Go.Proofs.Tryz
set_option maxRecDepth 100000
set_option maxHeartbeats 6400000
set_option linter.all false
section
open A (QE jJ bu)
section
variable (w0:World)(X:CX)(Y:CY)(C:CS)(z:List Int)(hz:z.length=11)(hI:Inv (bg X Y C).own w0 w0 [bg X Y C])
include hz hI
variable (i:Nat)(hi:i<5)(h1:gi z 1=(i:Int))
include hi h1
theorem abx(h0:gi z 0=8)(hg:pM C i=true->dU (C.S i).view):
  Calls prog 19 #[.pointer (some ⟨X.cb,0,none⟩),ia z] w0 λe w'=>∃Y',e=.returned (.int .i64 (oD C z).2)∧Inv (bg X Y C).own w0 w' [bg X Y' (oD C z).1]:=by
 obtain⟨ub,kV⟩:=EQ (pM C i);obtain⟨W,hW⟩:=EH (oD C z);rw[hW.out];have hW2:W=if ub=true then(rM C i (rC i (rs C i)),0)else(C,4):=by
  rw[<-hW.out,oD,if_neg OM];dsimp only;rw[if_neg OM,if_neg OM,if_pos h0,show(gi z 1).toNat=i by omega,kV]
 have hub:=HD kV;clear hW;cases ub
 ·rw[if_neg SI]at hW2
  replace hW2:=HD hW2;clear hg kV;go_enter func19,ntmps19;go_wp2_with(first|refine YL ?_|refine YX ?_;intro bx w hI|go_at_call 38;refine KR (i_ _ _ i hi) ?_|go_at_call 33;refine KR (yF hi hI aM _ hub) ?_);go_ret;rw[hW2.out];exact⟨Y,rfl,hI.tl⟩
 ·have hvw:=HD (hg kV)
  have hu:C.up i=true:=by rw[pM,Bool.and_eq_true]at kV;exact kV.1
  have hvl:=((Ea hi hI aA).2 hu).2.view;rw[if_pos rfl]at hW2;replace hW2:=HD hW2;have hcm:(a_ X Y C)[6+i]? =some (.pointer (some ⟨(Y.m i).b,0,none⟩)):=by rw[<-qi (Y:=Y) hu];exact rO _ _ _ _ hi
  clear hg kV;go_enter func19,ntmps19;go_upto_region 20 with(first|refine YL ?_|refine YX ?_;intro bx w hI|go_at_call 38;refine KR (i_ _ _ i hi) ?_|go_at_call 33;refine KR (yF hi hI aM _ hub) ?_)
  (obtain⟨bz,hbx⟩:=EZ bx;subst hbx)
  (refine ZR [11,12] [0,1,2,3,4,5,6] [11] [0,1,2,3,4,5,6,7,8,9,10,11,12] (λw=>Inv (bg X Y C).own w0 w [ib bz 50 z,bg X Y C]) hI ?_;intro wd hI)
  (repeat(first| (refine ZA ?_;go_wp2_with(go_at_call 41;refine KG hI (abr _ X _ _ i hi hu (hI.at_ aM) hvw hvl) ?_;intro Y2 w1 hI);refine ji ?_) | (refine ZB ?_;go_wp2_with(fail);(refine jN (hI.sub SB) ?_)) | (refine ZC ?_;go_wp2_with(refine YL ?_);refine h_ ?_) | ((refine jB RF RF RF RF (hI.sub SB) (by intro w (hI:Inv _ _ w _);first| (with_reducible exact uZ (congrArg (Value.int .i64) h1) (Mt hI)) | (with_reducible exact Cn (cb:=X.cb) RF RF hi) | (with_reducible exact dV hI RF aM aO.out hcm) | (unfold fP;go_simp;with_reducible rfl)) ?_);(simp only[QN]))));refine fC ?_
  go_wp2_with(fail);go_ret;rw[hW2.out];exact⟨Y2,rfl,hI.tl⟩
theorem afa(h0:gi z 0=9)(hn4:Hid (-9223372036854775808<=gi z 4∧gi z 4<=9223372036854775807)):
  Calls prog 19 #[.pointer (some ⟨X.cb,0,none⟩),ia z] w0 λe w'=>∃Y',e=.returned (.int .i64 (oD C z).2)∧Inv (bg X Y C).own w0 w' [bg X Y' (oD C z).1]:=by
 obtain⟨W,hW⟩:=EH (oD C z);rw[hW.out];have hW2:Hid (W=(pV C i {(C.S i).D with armed:=true,left:=max (gi z 4) 0},0)):=HD (by
  rw[<-hW.out,oD,if_neg OM];dsimp only;rw[if_neg OM,if_neg OM,if_neg OM,if_pos h0,show(gi z 1).toNat=i by omega])
 have hok:=(Ea hi hI aA).1;have hln:0<=max (gi z 4) 0∧max (gi z 4) 0<9223372036854775808:=by have:=hn4.out;omega
 have hdn:EU {(C.S i).D with armed:=true,left:=max (gi z 4) 0}:=⟨⟨hok.ok.UW,hok.ok.UX,hln⟩,hok.rest,hok.w⟩;have hlk:AP (C.S i).D (C.S i).cnt (C.S i).used->AP {(C.S i).D with armed:=true,left:=max (gi z 4) 0} (C.S i).cnt (C.S i).used:=λh=>⟨⟨h.ok.UW,h.ok.UX,hln⟩,h.cu,h.u,h.w60,h.rest⟩
 have hcd:(a_ X Y C)[1+i]? =some (.pointer (some ⟨X.d i,0,none⟩)):=x_ _ _ _ _ hi;clear hW hln hok;go_enter func19,ntmps19;go_upto_region 22 with(first|refine YL ?_|refine YX ?_;intro bx w hI|go_at_call 38;refine KR (i_ _ _ i hi) ?_)
 refine ZT [9] 10 hI ?_;intro wd hI
 (repeat(refine ZQ ?_;go_wp2_with(first|go_at_call 42;(with_reducible refine(UY _ (X.d i) (X.mr i) _ _ (Qt hi hI aM) (gi z 4) hn4.out).mono ?_);rintro e w1 ⟨rfl,hJ⟩;replace hI:=Qu hi hI iR hJ hdn hlk;clear hJ|refine YL ?_|with_reducible refine au (dV hI RF aM aO.out hcd) ?_);refine ZP ?_))
 go_wp2_with(fail);go_ret;rw[hW2.out];exact⟨_,rfl,hI.tl⟩
theorem XZ(h0:gi z 0=11)(hend:Hid (C.up i=false->yQ (eP (C.S i).D))):
  Calls prog 19 #[.pointer (some ⟨X.cb,0,none⟩),ia z] w0 λe w'=>∃Y',e=.returned (.int .i64 (oD C z).2)∧Inv (bg X Y C).own w0 w' [bg X Y' (oD C z).1]:=by
 obtain⟨W,hW⟩:=EH (oD C z);rw[hW.out];have hW2:Hid (W=k_ C i):=HD (by
  rw[<-hW.out,oD,if_neg OM];dsimp only;rw[if_neg OM,if_neg OM,if_neg OM,if_neg OM,if_neg OM,if_pos h0,show(gi z 1).toNat=i by omega])
 clear hW;go_enter func19,ntmps19;go_wp2_with(first|refine YL ?_|refine YX ?_;intro bx w hI|go_at_call 38;refine KR (i_ _ _ i hi) ?_|go_at_call 45;refine KG hI (WE _ X _ _ i hi (hI.at_ aM) hend.out) ?_;intro Y2 w1 hI);go_ret;rw[hW2.out];exact⟨Y2,rfl,hI.tl⟩
end
end
section
open A (QE jJ bu)
theorem X6(X:CX)(Y:CY)(C:CS){i:Nat}(hi:i<5):(a_ X Y C)[1+i]? =some (.pointer (some ⟨X.d i,0,none⟩)):=x_ _ _ _ _ hi
theorem LJ{D:DS}(h:wQ D)(mask iQ cut:Int):wQ (rQ D mask iQ cut):=
 ⟨λp hp=>(by cases hp),λk=>MG h.UW h.UX mask iQ _ _ k,⟨Int.le_refl 0,by show(0:Int) <9223372036854775808;omega⟩⟩
theorem X7{D:DS}(h:wQ D)(mask iQ cut:Int):EU (rQ D mask iQ cut):=⟨LJ h mask iQ cut,.inr rfl,by simp[rQ]⟩
theorem X8{D:DS}{cnt used:Nat}(h:wQ D)(mask iQ cut:Int)(hl:AP D cnt used):AP (rQ D mask iQ cut) cnt used:=⟨LJ h mask iQ cut,hl.cu,hl.u,by simp[rQ],.inr rfl⟩
section
variable (w0:World)(X:CX)(Y:CY)(C:CS)(z:List Int)(hz:z.length=11)(hI:Inv (bg X Y C).own w0 w0 [bg X Y C])
include hz hI
variable (i:Nat)(hi:i<5)(h1:gi z 1=(i:Int))
include hi h1
theorem X9(h0:gi z 0=10)(hn1:(C.past i).length<=1000000000)(hn2:(C.S i).aV.length<=1000000000):
  Calls prog 19 #[.pointer (some ⟨X.cb,0,none⟩),ia z] w0 λe w'=>∃Y',e=.returned (.int .i64 (oD C z).2)∧Inv (bg X Y C).own w0 w' [bg X Y' (oD C z).1]:=by
 obtain⟨W,hW⟩:=EH (oD C z);rw[hW.out];have hW2:Hid (W=(uy C i (gi z 8) (gi z 9) (gi z 10),0)):=HD (by
  rw[<-hW.out,oD,if_neg OM];dsimp only;rw[if_neg OM,if_neg OM,if_neg OM,if_neg OM,if_pos h0,show(gi z 1).toNat=i by omega])
 have hok:=(Ea hi hI aA).1;have hw2:(C.S i).D.waits.length<=200000:=by have:=hok.w;omega
 have h3:Hid (∀r∈iO C i,r.length=3):=HD (by
  intro r hr;unfold iO at hr;rcases List.mem_append.1 hr with hr|hr
  ·exact wJ hi hI aA r hr
  ·split at hr
   ·rename_i hu;exact(uu hi hu hI aA).2.2.1 r hr
   ·cases hr)
 clear hW;go_enter func19,ntmps19;go_upto_region 24 with(first|refine YL ?_|refine YX ?_;intro bx w hI|go_at_call 38;refine KR (i_ _ _ i hi) ?_)
 (obtain⟨bz,hbx⟩:=EZ bx;subst hbx)
 (refine ZR [6,9,10] [0,1,2,7,8] [6] [0,1,2,3,4,5,7,8,6,9,10] (λw=>Inv (bg X Y C).own w0 w [ib bz 50 z,bg X Y C]) hI ?_;intro wd hI)
 (repeat(first| (refine ZA ?_;go_wp2_with((with_reducible refine X4 (l:=iO C i) hi hI h3.out RF RF ?_);intro w hI);refine ji ?_) | (refine ZB ?_;go_wp2_with(go_at_call 43;refine KK hI (GH _ X _ _ i hi (hI.at_ aM) hn1 hn2) ?_;intro pa pc w1 hI);(refine jN (hI.sub SB) ?_)) | (refine ZC ?_;go_wp2_with(refine YL ?_);refine h_ ?_) | ((refine jB RF RF RF RF (hI.sub SB) (by intro w (hI:Inv _ _ w _);first| (with_reducible exact uZ (congrArg (Value.int .i64) h1) (Mt hI)) | (unfold fP;go_simp;with_reducible rfl)) ?_);(simp only[QN]))));refine fC ?_
 go_upto_region 25 with(fail)
 refine ZT [5,6] 7 hI ?_;intro wd hI
 (repeat(refine ZQ ?_;go_wp2_with(first|(with_reducible refine X5 hi hI RF RF ?_);intro w hI|refine YL ?_);refine ZP ?_))
 go_upto_region 26 with(fail)
 refine ZT [13] 14 hI ?_;intro wd hI
 (repeat(refine ZQ ?_;go_wp2_with(first|go_at_call 44;(with_reducible refine(M4 _ (X.d i) (X.mr i) _ _ (Qt hi hI aM) (by with_unfolding_all exact hok.ok) (by with_unfolding_all exact hw2) _ _ _).mono ?_);rintro e w1 ⟨Gj,rfl,hJ⟩;replace hI:=Qu hi hI iR hJ (X7 (by with_unfolding_all exact hok.ok) _ _ _) (X8 (by with_unfolding_all exact hok.ok) _ _ _);clear hJ|refine YL ?_|with_reducible refine au (dV hI RF aM aO.out (X6 _ _ _ hi)) ?_);refine ZP ?_))
 go_wp2_with(fail);go_ret;rw[hW2.out];exact⟨_,rfl,hI.tl⟩
end
end
