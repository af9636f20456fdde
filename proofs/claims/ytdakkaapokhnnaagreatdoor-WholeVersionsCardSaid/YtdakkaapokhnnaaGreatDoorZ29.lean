/- Contracts of functions. No condition. -/
import Derived.Test.YtdakkaapokhnnaaGreatDoorZ25
import Derived.Test.YtdakkaapokhnnaaGreatDoorZ28
namespace Go.Proofs.YtdakkaapokhnnaaGreatDoor
open Go.RowKit Go.Proofs.Tryz
set_option maxRecDepth 100000
set_option maxHeartbeats 6400000
set_option linter.all false
section
open B (aI bK kF)
theorem aaU(f S t M):(dS f S t M).aX=S.aX:=by grind[dS]
theorem K5(f S):(jf f S).aX=S.aX:=by
 exact iK RS.aX _ (λT w=>by grind[aaU]) _ S
theorem Ww(f S x op):(iQ f S x op).1.aX=S.aX:=by
 unfold iQ;split
 ·rw[K5];rfl
 ·rfl
theorem aaV(f S k dst key n)(ho:S.own.length=174):(rR f S k dst key n).1.length=174:=by
 grind[ag,rR,C.uG,C.xO]
section
variable (w0:World)(X:RX)(Y:RY)(S:RS)
theorem K6(hI:Inv (aj X Y S).own w0 w0 [aj X Y S])(z)(hz:z.length=11)(hok:Hid (C.wW S.own))(hbk:Hid (C.Bk S.book))(g v er)(hp:Hid (rR X.f S (gi z 0) (gi z 2) (gi z 3) (gi z 4)=(g,v,er))):
  Calls prog 68 #[.pointer (some ⟨X.b,0,none⟩),ia z] w0 λe w'=>e=.returned (.tuple #[ia g,.int .i64 v,.int .i64 er])∧Inv (aj X Y S).own w0 w' [aj X Y S]:=by
 have h:=ah2 w0 X Y S hI z hz _ _ _ _ rfl rfl rfl rfl hok hbk;rw[hp.out]at h;exact h
variable (hX:Bd X)
include hX
theorem aaW(hI:Inv (aj X Y S).own w0 w0 [aj X Y S])(op c)(hcl:c.length=3)(hvw:Hid (eG S.view))(hrl:S.aX.length<=1000000000)(S1 e1)(hc:Hid (jV X.f S op c=(S1,e1))):
  Calls prog 67 #[.pointer (some ⟨X.b,0,none⟩),oV X,.int .i64 op,ia c] w0 λe' w'=>∃Y',e'=.returned (.int .i64 e1)∧Inv (aj X Y S).own w0 w' [aj X Y' S1]:=by
 have h:=aaS w0 X Y S hX op c hcl hvw hrl hI;rw[hc.out]at h;exact h
theorem aaX(hI:Inv (aj X Y S).own w0 w0 [aj X Y S])(x op)(hx:x.length=174)(S1 e1)(hg:Hid (iQ X.f S x op=(S1,e1))):
  Calls prog 70 #[.pointer (some ⟨X.b,0,none⟩),oV X,ia x,.int .i64 op] w0 λe' w'=>∃Y',e'=.returned (.int .i64 e1)∧Inv (aj X Y S).own w0 w' [aj X Y' S1]:=by
 have h:=Z5 w0 X Y S hX x op hx hI;rw[hg.out]at h;exact h
theorem Q_(z)(hz:z.length=11)(hvw:Hid (eG S.view))(hrl:S.aX.length<=1000000000)(qy:aI S.view (X.f:Int)=true)(hk:(gi z 0==4)=true)(hI:Inv (aj X Y S).own w0 w0 [aj X Y S]):
  Calls prog 39 #[.pointer (some ⟨X.b,0,none⟩),oV X,ia z] w0 λe' w'=>∃Y',e'=.returned (.int .i64 (gG X.f S (gi z 0) (gi z 2) (gi z 3) (gi z 4) (sub z 5 3)).2)∧Inv (aj X Y S).own w0 w' [aj X Y' (gG X.f S (gi z 0) (gi z 2) (gi z 3) (gi z 4) (sub z 5 3)).1]:=by
 have hvl:=(aS hI aC).view;have hcl:(sub z 5 3).length=3:=by rw[az];omega
 have hmb:=HD qy;obtain⟨⟨S1,e1⟩,ah3⟩:=EQ (jV X.f {S with ops:=wrap64 (S.ops+1)} (wrap64 (S.ops+1)) (sub z 5 3));have hch:=HD ah3;have hF:Hid (gG X.f S (gi z 0) (gi z 2) (gi z 3) (gi z 4) (sub z 5 3)=(S1,e1)):=HD (by rw[gG];dsimp only;rw[if_pos ⟨qy,by simpa using hk⟩,ah3]);clear qy ah3;go_enter func39,ntmps39;go_upto_region 3 with(first|refine YX ?_;intro bx w hI|refine YL ?_|refine YS ?_;intro w hI)
 refine ZT [8,9,10,11,12,13] 14 hI ?_;intro wd hI
 (repeat(refine ZQ ?_;go_wp2_with(first|refine YL ?_|go_at_call 14;refine KD hI (b_ _ _ X.f hvl _ hmb) ?_;intro w1 hI);refine ZP ?_))
 go_wp2_with(first|refine YL ?_|go_at_call 67;refine KG hI (aaW _ X _ _ hX (hI.at_ aM) _ _ hcl (by with_unfolding_all exact hvw) (by with_unfolding_all exact hrl) _ _ hch) ?_;intro Y1 w1 hI);go_ret;rw[hF.out];exact⟨Y1,rfl,hI.tl⟩
theorem Wx(z)(hz:z.length=11)(hrl:S.aX.length<=1000000000)(hok:Hid (C.wW S.own))(hbk:Hid (C.Bk S.book))(hnc:(aI S.view (X.f:Int)&&(gi z 0==4))=false)(hI:Inv (aj X Y S).own w0 w0 [aj X Y S]):
  Calls prog 39 #[.pointer (some ⟨X.b,0,none⟩),oV X,ia z] w0 λe' w'=>∃Y',e'=.returned (.int .i64 (gG X.f S (gi z 0) (gi z 2) (gi z 3) (gi z 4) (sub z 5 3)).2)∧Inv (aj X Y S).own w0 w' [aj X Y' (gG X.f S (gi z 0) (gi z 2) (gi z 3) (gi z 4) (sub z 5 3)).1]:=by
 have hvl:=(aS hI aC).view;have hown:=(aS hI aC).own;obtain⟨⟨g,v,er⟩,aeh⟩:=EQ (rR X.f {S with ops:=wrap64 (S.ops+1)} (gi z 0) (gi z 2) (gi z 3) (gi z 4));have hgl:g.length=174:=by have:=aaV X.f {S with ops:=wrap64 (S.ops+1)} (gi z 0) (gi z 2) (gi z 3) (gi z 4) hown;rw[aeh]at this;exact this
 have hpl:=HD aeh;obtain⟨⟨S1,e1⟩,aei⟩:=EQ (iQ X.f {S with ops:=wrap64 (S.ops+1)} g (wrap64 (S.ops+1)));have hgr:=HD aei;have aaT:S1.aX.length<=1000000000:=by have:=Ww X.f {S with ops:=wrap64 (S.ops+1)} g (wrap64 (S.ops+1));rw[aei]at this;rw[this];exact hrl
 have hF:Hid (gG X.f S (gi z 0) (gi z 2) (gi z 3) (gi z 4) (sub z 5 3)=if er≠0∨gi z 0=3 then(di {S with ops:=wrap64 (S.ops+1)} (wrap64 (S.ops+1)) er v,er)else if e1=0 then(S1,e1)else(di S1 (wrap64 (S.ops+1)) e1 0,e1)):=HD (by
  rw[gG];dsimp only;rw[if_neg (by intro h;simp[h.1,h.2]at hnc),aeh];dsimp only;rw[aei])
 clear aeh aei;go_enter func39,ntmps39;go_upto_region 3 with(first|refine YX ?_;intro bx w hI|refine YL ?_|refine YS ?_;intro w hI)
 (obtain⟨bz,hbx⟩:=EZ bx;subst hbx)
 go_cut [35] (λu wx=>u=.bool false∧Inv (aj X Y S).own w0 wx [ib bz 50 z,aj X Y {S with ops:=wrap64 (S.ops+1)}])
 case first=>
  clear hF hpl hgr aaT hgl;cases hm0:aI S.view (X.f:Int)
  ·have hmb:=HD hm0
   clear hm0 hnc
   refine ZT [8,9,10,11,12,13] 14 hI ?_;intro wd hI
   (repeat(first|refine ZS ?_|refine ZQ ?_;go_wp2_with(first|go_at_call 14;refine KD hI (b_ _ _ X.f hvl _ hmb) ?_;intro w1 hI|refine YL ?_);refine ZP ?_))
   go_wp2_with(fail)
   go_meet
   case rel=>exact⟨rfl,hI⟩
  ·have hmb:=HD hm0
   have hk4:(gi z 0==4)=false:=by simpa[hm0]using hnc
   clear hm0 hnc
   refine ZT [8,9,10,11,12,13] 14 hI ?_;intro wd hI
   (repeat(refine ZQ ?_;go_wp2_with(first|refine YL ?_|go_at_call 14;refine KD hI (b_ _ _ X.f hvl _ hmb) ?_;intro w1 hI);refine ZP ?_))
   go_wp2_with(fail)
   go_meet
   case rel=>exact⟨rfl,hI⟩
 case rest=>
  clear hI hnc;obtain⟨rfl,hI⟩:=hcut;by_cases Dp:er=0
  ·subst Dp
   by_cases hk3:gi z 0=3
   ·have hF2:Hid (gG X.f S (gi z 0) (gi z 2) (gi z 3) (gi z 4) (sub z 5 3)=(di {S with ops:=wrap64 (S.ops+1)} (wrap64 (S.ops+1)) 0 v,0)):=HD (by rw[hF.out,if_pos (.inr hk3)])
    have alL:(gi z 0==3)=true:=by simpa using hk3
    clear hF hgr hk3;go_wp2_with(first|refine YL ?_|refine YS ?_;intro w hI|refine YX ?_;intro bx w hI|go_at_call 68;refine KC jo hI (K6 _ X _ _ (hI.at_ aM) _ hz (by with_unfolding_all exact hok) (by with_unfolding_all exact hbk) _ _ _ hpl) ?_;intro w1 hI|go_at_call 69;refine KG hI (qA _ X _ _ (hI.at_ a_) _ _ _ (by with_unfolding_all exact hrl)) ?_;intro Y2 w1 hI;dsimp only[di]at hI);go_ret;rw[hF2.out];exact⟨Y2,rfl,hI.sub (.cons _ (.cons _ (.refl _)))⟩
   ·have hF2:Hid (gG X.f S (gi z 0) (gi z 2) (gi z 3) (gi z 4) (sub z 5 3)=if e1=0 then(S1,e1)else(di S1 (wrap64 (S.ops+1)) e1 0,e1)):=HD (by rw[hF.out,if_neg (λh=>h.elim (λh=>h rfl) hk3)])
    have alL:(gi z 0==3)=false:=by simpa using hk3
    clear hF hk3;by_cases he1:e1=0
    ·subst he1
     have tY:Hid (gG X.f S (gi z 0) (gi z 2) (gi z 3) (gi z 4) (sub z 5 3)=(S1,0)):=HD (by rw[hF2.out,if_pos rfl]);clear hF2;go_wp2_with(first|refine YL ?_|refine YS ?_;intro w hI|refine YX ?_;intro bx w hI|go_at_call 68;refine KC jo hI (K6 _ X _ _ (hI.at_ aM) _ hz (by with_unfolding_all exact hok) (by with_unfolding_all exact hbk) _ _ _ hpl) ?_;intro w1 hI|go_at_call 70;refine KG hI (aaX _ X _ _ hX (hI.at_ a_) _ _ hgl _ _ hgr) ?_;intro Y3 w1 hI);go_ret;rw[tY.out];exact⟨Y3,rfl,hI.sub (.cons _ (.cons _ (.refl _)))⟩
    ·have tY:Hid (gG X.f S (gi z 0) (gi z 2) (gi z 3) (gi z 4) (sub z 5 3)=(di S1 (wrap64 (S.ops+1)) e1 0,e1)):=HD (by rw[hF2.out,if_neg he1])
     have hq:(e1 != 0)=true:=by simpa using he1
     clear hF2;go_wp2_with(first|refine YL ?_|refine YS ?_;intro w hI|refine YX ?_;intro bx w hI|go_at_call 68;refine KC jo hI (K6 _ X _ _ (hI.at_ aM) _ hz (by with_unfolding_all exact hok) (by with_unfolding_all exact hbk) _ _ _ hpl) ?_;intro w1 hI|go_at_call 69;refine KG hI (qA _ X _ _ (hI.at_ a_) _ _ _ (by with_unfolding_all exact aaT)) ?_;intro Y2 w1 hI;dsimp only[di]at hI|go_at_call 70;refine KG hI (aaX _ X _ _ hX (hI.at_ a_) _ _ hgl _ _ hgr) ?_;intro Y3 w1 hI);go_ret;rw[tY.out];exact⟨Y2,rfl,hI.sub (.cons _ (.cons _ (.refl _)))⟩
  ·have hF2:Hid (gG X.f S (gi z 0) (gi z 2) (gi z 3) (gi z 4) (sub z 5 3)=(di {S with ops:=wrap64 (S.ops+1)} (wrap64 (S.ops+1)) er v,er)):=HD (by rw[hF.out,if_pos (.inl Dp)])
   have hq:(er != 0)=true:=by simpa using Dp
   clear hF hgr;go_wp2_with(first|refine YL ?_|refine YS ?_;intro w hI|refine YX ?_;intro bx w hI|go_at_call 68;refine KC jo hI (K6 _ X _ _ (hI.at_ aM) _ hz (by with_unfolding_all exact hok) (by with_unfolding_all exact hbk) _ _ _ hpl) ?_;intro w1 hI|go_at_call 69;refine KG hI (qA _ X _ _ (hI.at_ a_) _ _ _ (by with_unfolding_all exact hrl)) ?_;intro Y2 w1 hI;dsimp only[di]at hI);go_ret;rw[hF2.out];exact⟨Y2,rfl,hI.sub (.cons _ (.cons _ (.refl _)))⟩
theorem aaY(z)(hz:z.length=11)(hvw:Hid (eG S.view))(hrl:S.aX.length<=1000000000)(hok:Hid (C.wW S.own))(hbk:Hid (C.Bk S.book))(hI:Inv (aj X Y S).own w0 w0 [aj X Y S]):
  Calls prog 39 #[.pointer (some ⟨X.b,0,none⟩),oV X,ia z] w0 λe' w'=>∃Y',e'=.returned (.int .i64 (gG X.f S (gi z 0) (gi z 2) (gi z 3) (gi z 4) (sub z 5 3)).2)∧Inv (aj X Y S).own w0 w' [aj X Y' (gG X.f S (gi z 0) (gi z 2) (gi z 3) (gi z 4) (sub z 5 3)).1]:=by
 cases h:(aI S.view (X.f:Int)&&(gi z 0==4))
 ·grind[Wx]
 ·grind[Q_]
end
end
