/- Contracts of functions. No condition. -/
import Derived.Test.YtdakkaapokhnnaaGreatDoorZ31
namespace Go.Proofs.YtdakkaapokhnnaaGreatDoor
open Go.RowKit Go.Proofs.Tryz
set_option maxRecDepth 100000
set_option maxHeartbeats 6400000
set_option linter.all false
section
open A (QE kE bU)
theorem abe(X Y C){i}(hi:i<5):(bC X Y C)[1+i]? =some (.pointer (some ⟨X.d i,0,none⟩)):=zt _ _ _ _ hi
theorem Oq{D}(h:xJ D)(mask eQ cut):xJ (nD D mask eQ cut):=
 ⟨λp hp=>(by cases hp),λk=>Pn h.Yg h.Yh mask eQ _ _ k,⟨Int.le_refl 0,by show(0:Int) <9223372036854775808;omega⟩⟩
theorem abf{D}(h:xJ D)(mask eQ cut):Hd (nD D mask eQ cut):=⟨Oq h mask eQ cut,.inr rfl,by simp[nD]⟩
theorem abg{D cnt used}(h:xJ D)(mask eQ cut)(hl:Cm D cnt used):Cm (nD D mask eQ cut) cnt used:=⟨Oq h mask eQ cut,hl.cu,hl.u,by simp[nD],.inr rfl⟩
section
variable (w0:World)(X:CX)(Y:CY)(C:CS)(z:List Int)(hz:z.length=11)(hI:Inv (bF X Y C).own w0 w0 [bF X Y C])
include hz hI
variable (i:Nat)(hi:i<5)(h1:gi z 1=(i:Int))
include hi h1
theorem abh(h0:gi z 0=10)(hn1:(C.past i).length<=1000000000)(hn2:(C.S i).aX.length<=1000000000):
  Calls prog 19 #[.pointer (some ⟨X.cb,0,none⟩),ia z] w0 λe w'=>∃Y',e=.returned (.int .i64 (nA C z).2)∧Inv (bF X Y C).own w0 w' [bF X Y' (nA C z).1]:=by
 obtain⟨W,hW⟩:=EH (nA C z);rw[hW.out];have hW2:Hid (W=(kY C i (gi z 8) (gi z 9) (gi z 10),0)):=HD (by
  rw[<-hW.out,nA,if_neg OM];dsimp only;rw[if_neg OM,if_neg OM,if_neg OM,if_neg OM,if_pos h0,show(gi z 1).toNat=i by omega])
 have hok:=(Ga hi hI aC).1;have hw2:(C.S i).D.waits.length<=200000:=by have:=hok.w;omega
 have h3:Hid (∀r∈ji C i,r.length=3):=HD (by
  intro r hr;unfold ji at hr;rcases List.mem_append.1 hr with hr|hr
  ·exact xZ hi hI aC r hr
  ·split at hr
   ·rename_i hu;exact(vL hi hu hI aC).2.2.1 r hr
   ·cases hr)
 clear hW;go_enter func19,ntmps19;go_upto_region 24 with(first|refine YL ?_|refine YX ?_;intro bx w hI|go_at_call 38;refine KR (jC _ _ i hi) ?_)
 (obtain⟨bz,hbx⟩:=EZ bx;subst hbx)
 (refine ZR [6,9,10] [0,1,2,7,8] [6] [0,1,2,3,4,5,7,8,6,9,10] (λw=>Inv (bF X Y C).own w0 w [ib bz 50 z,bF X Y C]) hI ?_;intro wd hI)
 (repeat(first| (refine ZA ?_;go_wp2_with((with_reducible refine abb (l:=ji C i) hi hI h3.out RF RF ?_);intro w hI);refine gz ?_) | (refine ZB ?_;go_wp2_with(go_at_call 43;refine KK hI (Ji _ X _ _ i hi (hI.at_ aM) hn1 hn2) ?_;intro pa pc w1 hI);(refine iU (hI.sub SB) ?_)) | (refine ZC ?_;go_wp2_with(refine YL ?_);refine fZ ?_) | ((refine iA RF RF RF RF (hI.sub SB) (by intro w (hI:Inv _ _ w _);first| (with_reducible exact wF (congrArg (Value.int .i64) h1) (LW hI)) | (unfold gu;go_simp;with_reducible rfl)) ?_);(simp only[QN]))));refine dN ?_
 go_upto_region 25 with(fail)
 refine ZT [5,6] 7 hI ?_;intro wd hI
 (repeat(refine ZQ ?_;go_wp2_with(first|(with_reducible refine abd hi hI RF RF ?_);intro w hI|refine YL ?_);refine ZP ?_))
 go_upto_region 26 with(fail)
 refine ZT [13] 14 hI ?_;intro wd hI
 (repeat(refine ZQ ?_;go_wp2_with(first|go_at_call 44;(with_reducible refine(PK _ (X.d i) (X.mr i) _ _ (T9 hi hI aM) (by with_unfolding_all exact hok.ok) (by with_unfolding_all exact hw2) _ _ _).mono ?_);rintro e w1 ⟨Je,rfl,hJ⟩;replace hI:=T_ hi hI jo hJ (abf (by with_unfolding_all exact hok.ok) _ _ _) (abg (by with_unfolding_all exact hok.ok) _ _ _);clear hJ|refine YL ?_|with_reducible refine av (fw hI RF aM aQ.out (abe _ _ _ hi)) ?_);refine ZP ?_))
 go_wp2_with(fail);go_ret;rw[hW2.out];exact⟨_,rfl,hI.tl⟩
end
end
