/- Contracts of functions. No condition. -/
import Derived.Test.YtdakkaapokhnnaaGreatDoorZ16
namespace Go.Proofs.YtdakkaapokhnnaaGreatDoor
open Go.RowKit Go.Proofs.Tryz
set_option maxRecDepth 100000
set_option maxHeartbeats 6400000
set_option linter.all false
section
open B (aI)
section
variable (w0:World)(X:RX)(Y:RY)(S:RS)
variable (z:List Int)(hz:z.length=11)(hI:Inv (ah X Y S).own w0 w0 [ah X Y S])
include hz hI
theorem EC(key:Int)(h3:gi z 3=key)(hm0:aI S.view (X.f:Int)=true)(hk1:decide (key<0)=false)(hk2:decide (4<=key)=false)(h0:gi z 0=2)(h2:gi z 2=(X.f:Int))(hb:S.busy=false):jf w0 X Y S z (aj 174,0,5):=by
 have hvl:=(aQ hI aA).view;have hn:=aa 174;have hmb:Hid (aI S.view (X.f:Int)=true):=HD hm0;clear hm0;unfold jf;go_enter func68,ntmps68;go_upto_region 1 with(refine YX ?_;intro bx w hI)
 refine ZT [8,9] 10 hI ?_;intro wd hI
 (repeat(refine ZQ ?_;go_wp2_with(first|go_at_call 14;refine KD hI (bP _ _ X.f hvl _ hmb) ?_;intro w1 hI|refine YL ?_);refine ZP ?_))
 go_upto_region 17 with(first|refine YL ?_|refine YX ?_;intro bx w hI)
 refine ZT [6] 7 hI ?_;intro wd hI
 (repeat(refine ZQ ?_;go_wp2_with(refine YL ?_);refine ZP ?_))
 exact W18
theorem IM(key:Int)(h3:gi z 3=key)(hm0:aI S.view (X.f:Int)=true)(hk1:decide (key<0)=false)(hk2:decide (4<=key)=false)(n:Int)(h4:gi z 4=n)(h0:gi z 0=2)(dst:Int)(h2:gi z 2=dst)(hdf:(dst != (X.f:Int))=true)(hb:S.busy=false)(hok:Hid (C.vG S.own))(g:List Int)(ge:Int)(hg:Hid (C.kD S.own key n dst=(g,ge)))(hge:ge≠0):jf w0 X Y S z (aj 174,0,ge):=by
 have hvl:=(aQ hI aA).view;have hn:=aa 174;have hmb:Hid (aI S.view (X.f:Int)=true):=HD hm0;clear hm0;unfold jf;have hown:=(aQ hI aA).own;have hgl:g.length=174:=(by have:=C.wz S.own key n dst hown;rw[hg.out]at this;exact this);have hq:(ge != 0)=true:=by simpa using hge
 go_enter func68,ntmps68;go_upto_region 1 with(refine YX ?_;intro bx w hI)
 refine ZT [8,9] 10 hI ?_;intro wd hI
 (repeat(refine ZQ ?_;go_wp2_with(first|go_at_call 14;refine KD hI (bP _ _ X.f hvl _ hmb) ?_;intro w1 hI|refine YL ?_);refine ZP ?_))
 go_upto_region 17 with(first|refine YL ?_|refine YX ?_;intro bx w hI)
 refine ZT [6] 7 hI ?_;intro wd hI
 (repeat(refine ZQ ?_;go_wp2_with(refine YL ?_);refine ZP ?_))
 go_upto_region 18 with(fail)
 obtain⟨b1,b2,b3,e1,e2,e3⟩:=Lp hI;subst e1 e2 e3
 (refine ZR [10,11,14,15] [13] [14] [0,1,2,3,4,5,6,7,8,9,10,11,12,13,14,15] (λw=>Inv (ah X Y S).own w0 w [ib b2 41 (aj 174),ib b3 50 z,ah X Y S]) hI ?_;intro wd hI)
 (repeat(first|refine ZS ?_|refine ZQ ?_;go_wp2_with(first|go_at_call 106;refine KD hI (Ex _ _ _ _ _ hown hok _ _ hg) ?_;intro w1 hI|refine YS ?_;intro w hI|refine YL ?_);refine ZP ?_))
 exact W18
theorem Bq(key:Int)(h3:gi z 3=key)(hm0:aI S.view (X.f:Int)=true)(hk1:decide (key<0)=false)(hk2:decide (4<=key)=false)(n:Int)(h4:gi z 4=n)(h0:gi z 0=2)(dst:Int)(h2:gi z 2=dst)(hdf:(dst != (X.f:Int))=true)(hb:S.busy=false)(hok:Hid (C.vG S.own))(g:List Int)(hg:Hid (C.kD S.own key n dst=(g,0)))(hbk:Hid (C.Bk S.book))(rg:Int)(Uk:Hid (C.kE S.book (X.f:Int) key=rg))(hrn:decide (rg<n)=true):jf w0 X Y S z (aj 174,0,7):=by
 have hvl:=(aQ hI aA).view;have hn:=aa 174;have hmb:Hid (aI S.view (X.f:Int)=true):=HD hm0;clear hm0;unfold jf;have hown:=(aQ hI aA).own;have hgl:g.length=174:=(by have:=C.wz S.own key n dst hown;rw[hg.out]at this;exact this);go_enter func68,ntmps68;go_upto_region 1 with(refine YX ?_;intro bx w hI)
 refine ZT [8,9] 10 hI ?_;intro wd hI
 (repeat(refine ZQ ?_;go_wp2_with(first|go_at_call 14;refine KD hI (bP _ _ X.f hvl _ hmb) ?_;intro w1 hI|refine YL ?_);refine ZP ?_))
 go_upto_region 17 with(first|refine YL ?_|refine YX ?_;intro bx w hI)
 refine ZT [6] 7 hI ?_;intro wd hI
 (repeat(refine ZQ ?_;go_wp2_with(refine YL ?_);refine ZP ?_))
 go_upto_region 18 with(fail)
 obtain⟨b1,b2,b3,e1,e2,e3⟩:=Lp hI;subst e1 e2 e3
 (refine ZR [10,11,14,15] [13] [14] [0,1,2,3,4,5,6,7,8,9,10,11,12,13,14,15] (λw=>Inv (ah X Y S).own w0 w [ib b2 41 (aj 174),ib b3 50 z,ah X Y S]) hI ?_;intro wd hI)
 (repeat(first|refine ZS ?_|refine ZQ ?_;go_wp2_with(first|go_at_call 106;refine KD hI (Ex _ _ _ _ _ hown hok _ _ hg) ?_;intro w1 hI|refine YS ?_;intro w hI|refine YL ?_);refine ZP ?_))
 exact W37
theorem E_(key:Int)(h3:gi z 3=key)(hm0:aI S.view (X.f:Int)=true)(hk1:decide (key<0)=false)(hk2:decide (4<=key)=false)(n:Int)(h4:gi z 4=n)(h0:gi z 0=2)(dst:Int)(h2:gi z 2=dst)(hdf:(dst != (X.f:Int))=true)(hb:S.busy=false)(hok:Hid (C.vG S.own))(g:List Int)(hg:Hid (C.kD S.own key n dst=(g,0)))(hbk:Hid (C.Bk S.book))(rg:Int)(Uk:Hid (C.kE S.book (X.f:Int) key=rg))(hrn:decide (rg<n)=false):jf w0 X Y S z (g,0,0):=by
 have hvl:=(aQ hI aA).view;have hn:=aa 174;have hmb:Hid (aI S.view (X.f:Int)=true):=HD hm0;clear hm0;unfold jf;have hown:=(aQ hI aA).own;have hgl:g.length=174:=(by have:=C.wz S.own key n dst hown;rw[hg.out]at this;exact this);go_enter func68,ntmps68;go_upto_region 1 with(refine YX ?_;intro bx w hI)
 refine ZT [8,9] 10 hI ?_;intro wd hI
 (repeat(refine ZQ ?_;go_wp2_with(first|go_at_call 14;refine KD hI (bP _ _ X.f hvl _ hmb) ?_;intro w1 hI|refine YL ?_);refine ZP ?_))
 go_upto_region 17 with(first|refine YL ?_|refine YX ?_;intro bx w hI)
 refine ZT [6] 7 hI ?_;intro wd hI
 (repeat(refine ZQ ?_;go_wp2_with(refine YL ?_);refine ZP ?_))
 go_upto_region 18 with(fail)
 obtain⟨b1,b2,b3,e1,e2,e3⟩:=Lp hI;subst e1 e2 e3
 (refine ZR [10,11,14,15] [13] [14] [0,1,2,3,4,5,6,7,8,9,10,11,12,13,14,15] (λw=>Inv (ah X Y S).own w0 w [ib b2 41 (aj 174),ib b3 50 z,ah X Y S]) hI ?_;intro wd hI)
 (repeat(first|refine ZS ?_|refine ZQ ?_;go_wp2_with(first|go_at_call 106;refine KD hI (Ex _ _ _ _ _ hown hok _ _ hg) ?_;intro w1 hI|refine YS ?_;intro w hI|refine YL ?_);refine ZP ?_))
 exact W31
end
end
