/- Contracts of functions. No condition. -/
import Derived.Test.YtdakkaapokhnnaaGreatDoorZ23
namespace Go.Proofs.YtdakkaapokhnnaaGreatDoor
open Go.RowKit Go.Proofs.Tryz
set_option maxRecDepth 100000
set_option maxHeartbeats 6400000
set_option linter.all false
section
open B (aI)
section
variable (w0:World)(X:RX)(Y:RY)(S:RS)
variable (z:List Int)(hz:z.length=11)(hI:Inv (aj X Y S).own w0 w0 [aj X Y S])
include hz hI
theorem Gi(key)(h3:gi z 3=key)(hm0:aI S.view (X.f:Int)=true)(hk1:decide (key<0)=false)(hk2:decide (4<=key)=false)(h0:gi z 0=2)(h2:gi z 2=(X.f:Int))(hb:S.busy=false):jJ w0 X Y S z (au 174,0,5):=by
 have hvl:=(aS hI aC).view;have hn:=ag 174;have hmb:Hid (aI S.view (X.f:Int)=true):=HD hm0;clear hm0;unfold jJ;go_enter func68,ntmps68;go_upto_region 1 with(refine YX ?_;intro bx w hI)
 refine ZT [8,9] 10 hI ?_;intro wd hI
 (repeat(refine ZQ ?_;go_wp2_with(first|go_at_call 14;refine KD hI (b_ _ _ X.f hvl _ hmb) ?_;intro w1 hI|refine YL ?_);refine ZP ?_))
 go_upto_region 17 with(first|refine YL ?_|refine YX ?_;intro bx w hI)
 refine ZT [6] 7 hI ?_;intro wd hI
 (repeat(refine ZQ ?_;go_wp2_with(refine YL ?_);refine ZP ?_))
 exact W18
theorem K4(key)(h3:gi z 3=key)(hm0:aI S.view (X.f:Int)=true)(hk1:decide (key<0)=false)(hk2:decide (4<=key)=false)(n)(h4:gi z 4=n)(h0:gi z 0=2)(dst)(h2:gi z 2=dst)(hdf:(dst != (X.f:Int))=true)(hb:S.busy=false)(hok:Hid (C.wW S.own))(g ge)(hg:Hid (C.mI S.own key n dst=(g,ge)))(hge:ge≠0):jJ w0 X Y S z (au 174,0,ge):=by
 have hvl:=(aS hI aC).view;have hn:=ag 174;have hmb:Hid (aI S.view (X.f:Int)=true):=HD hm0;clear hm0;unfold jJ;have hown:=(aS hI aC).own;have hgl:g.length=174:=(by have:=C.xO S.own key n dst hown;rw[hg.out]at this;exact this);have hq:(ge != 0)=true:=by simpa using hge
 go_enter func68,ntmps68;go_upto_region 1 with(refine YX ?_;intro bx w hI)
 refine ZT [8,9] 10 hI ?_;intro wd hI
 (repeat(refine ZQ ?_;go_wp2_with(first|go_at_call 14;refine KD hI (b_ _ _ X.f hvl _ hmb) ?_;intro w1 hI|refine YL ?_);refine ZP ?_))
 go_upto_region 17 with(first|refine YL ?_|refine YX ?_;intro bx w hI)
 refine ZT [6] 7 hI ?_;intro wd hI
 (repeat(refine ZQ ?_;go_wp2_with(refine YL ?_);refine ZP ?_))
 go_upto_region 18 with(fail)
 obtain⟨b1,b2,b3,e1,e2,e3⟩:=NZ hI;subst e1 e2 e3
 (refine ZR [10,11,14,15] [13] [14] [0,1,2,3,4,5,6,7,8,9,10,11,12,13,14,15] (λw=>Inv (aj X Y S).own w0 w [ib b2 41 (au 174),ib b3 50 z,aj X Y S]) hI ?_;intro wd hI)
 (repeat(first|refine ZS ?_|refine ZQ ?_;go_wp2_with(first|go_at_call 106;refine KD hI (Gb _ _ _ _ _ hown hok _ _ hg) ?_;intro w1 hI|refine YS ?_;intro w hI|refine YL ?_);refine ZP ?_))
 exact W18
theorem C9(key)(h3:gi z 3=key)(hm0:aI S.view (X.f:Int)=true)(hk1:decide (key<0)=false)(hk2:decide (4<=key)=false)(n)(h4:gi z 4=n)(h0:gi z 0=2)(dst)(h2:gi z 2=dst)(hdf:(dst != (X.f:Int))=true)(hb:S.busy=false)(hok:Hid (C.wW S.own))(g)(hg:Hid (C.mI S.own key n dst=(g,0)))(hbk:Hid (C.Bk S.book))(rg)(XH:Hid (C.lh S.book (X.f:Int) key=rg))(hrn:decide (rg<n)=true):jJ w0 X Y S z (au 174,0,7):=by
 have hvl:=(aS hI aC).view;have hn:=ag 174;have hmb:Hid (aI S.view (X.f:Int)=true):=HD hm0;clear hm0;unfold jJ;have hown:=(aS hI aC).own;have hgl:g.length=174:=(by have:=C.xO S.own key n dst hown;rw[hg.out]at this;exact this);go_enter func68,ntmps68;go_upto_region 1 with(refine YX ?_;intro bx w hI)
 refine ZT [8,9] 10 hI ?_;intro wd hI
 (repeat(refine ZQ ?_;go_wp2_with(first|go_at_call 14;refine KD hI (b_ _ _ X.f hvl _ hmb) ?_;intro w1 hI|refine YL ?_);refine ZP ?_))
 go_upto_region 17 with(first|refine YL ?_|refine YX ?_;intro bx w hI)
 refine ZT [6] 7 hI ?_;intro wd hI
 (repeat(refine ZQ ?_;go_wp2_with(refine YL ?_);refine ZP ?_))
 go_upto_region 18 with(fail)
 obtain⟨b1,b2,b3,e1,e2,e3⟩:=NZ hI;subst e1 e2 e3
 (refine ZR [10,11,14,15] [13] [14] [0,1,2,3,4,5,6,7,8,9,10,11,12,13,14,15] (λw=>Inv (aj X Y S).own w0 w [ib b2 41 (au 174),ib b3 50 z,aj X Y S]) hI ?_;intro wd hI)
 (repeat(first|refine ZS ?_|refine ZQ ?_;go_wp2_with(first|go_at_call 106;refine KD hI (Gb _ _ _ _ _ hown hok _ _ hg) ?_;intro w1 hI|refine YS ?_;intro w hI|refine YL ?_);refine ZP ?_))
 exact W37
theorem Hf(key)(h3:gi z 3=key)(hm0:aI S.view (X.f:Int)=true)(hk1:decide (key<0)=false)(hk2:decide (4<=key)=false)(n)(h4:gi z 4=n)(h0:gi z 0=2)(dst)(h2:gi z 2=dst)(hdf:(dst != (X.f:Int))=true)(hb:S.busy=false)(hok:Hid (C.wW S.own))(g)(hg:Hid (C.mI S.own key n dst=(g,0)))(hbk:Hid (C.Bk S.book))(rg)(XH:Hid (C.lh S.book (X.f:Int) key=rg))(hrn:decide (rg<n)=false):jJ w0 X Y S z (g,0,0):=by
 have hvl:=(aS hI aC).view;have hn:=ag 174;have hmb:Hid (aI S.view (X.f:Int)=true):=HD hm0;clear hm0;unfold jJ;have hown:=(aS hI aC).own;have hgl:g.length=174:=(by have:=C.xO S.own key n dst hown;rw[hg.out]at this;exact this);go_enter func68,ntmps68;go_upto_region 1 with(refine YX ?_;intro bx w hI)
 refine ZT [8,9] 10 hI ?_;intro wd hI
 (repeat(refine ZQ ?_;go_wp2_with(first|go_at_call 14;refine KD hI (b_ _ _ X.f hvl _ hmb) ?_;intro w1 hI|refine YL ?_);refine ZP ?_))
 go_upto_region 17 with(first|refine YL ?_|refine YX ?_;intro bx w hI)
 refine ZT [6] 7 hI ?_;intro wd hI
 (repeat(refine ZQ ?_;go_wp2_with(refine YL ?_);refine ZP ?_))
 go_upto_region 18 with(fail)
 obtain⟨b1,b2,b3,e1,e2,e3⟩:=NZ hI;subst e1 e2 e3
 (refine ZR [10,11,14,15] [13] [14] [0,1,2,3,4,5,6,7,8,9,10,11,12,13,14,15] (λw=>Inv (aj X Y S).own w0 w [ib b2 41 (au 174),ib b3 50 z,aj X Y S]) hI ?_;intro wd hI)
 (repeat(first|refine ZS ?_|refine ZQ ?_;go_wp2_with(first|go_at_call 106;refine KD hI (Gb _ _ _ _ _ hown hok _ _ hg) ?_;intro w1 hI|refine YS ?_;intro w hI|refine YL ?_);refine ZP ?_))
 exact W30
end
end
section
open B (aI)
section
variable (w0:World)(X:RX)(Y:RY)(S:RS)
theorem ah2(hI:Inv (aj X Y S).own w0 w0 [aj X Y S])(z)(hz:z.length=11)(k dst key n)(h0:gi z 0=k)(h2:gi z 2=dst)(h3:gi z 3=key)(h4:gi z 4=n)(hok:Hid (C.wW S.own))(hbk:Hid (C.Bk S.book)):
  jJ w0 X Y S z (rR X.f S k dst key n):=by
 unfold rR;by_cases hm:aI S.view (X.f:Int)=false
 ·simp_all[aaJ]
 rw[if_neg hm];have hm1:aI S.view (X.f:Int)=true:=by grind
 by_cases hk:key<0∨4<=key
 ·simp_all[aaK]
 rw[if_neg hk];have hk1:decide (key<0)=false:=by grind
 have hk2:decide (4<=key)=false:=by grind
 by_cases k3:k=3
 ·simp_all[Wl]
 rw[if_neg k3];have h03:(gi z 0==3)=false:=by grind
 by_cases hb:S.busy=true
 ·simp_all[Wm]
 rw[if_neg hb];have hb1:S.busy=false:=by grind
 dsimp only;by_cases k0:k=0
 ·rw[if_pos k0]
  obtain⟨⟨g,ge⟩,hg⟩:=EQ (C.lq S.own (1+key.toNat*7) key n);rw[hg];dsimp only;by_cases he:ge=0
  ·simp_all[KZ,Go.Lib.hid]
  ·grind[Ob,Go.Lib.hid]
 rw[if_neg k0];by_cases k1:k=1
 ·rw[if_pos k1]
  obtain⟨⟨g,ge⟩,hg⟩:=EQ (C.lq S.own (1+key.toNat*7+1) key n);rw[hg];by_cases he:ge=0
  ·subst he
   rw[if_pos rfl];by_cases hr:C.lh S.book (X.f:Int) key<n
   ·grind[Gg,Go.Lib.hid]
   ·rw[if_neg (λh=>hr h.2)]
    exact K3 w0 X Y S z hz hI key h3 hm1 hk1 hk2 n h4 (h0.trans k1) hb1 hok g (HD hg) hbk _ (HD rfl) (by grind)
  ·grind[Oc,Go.Lib.hid]
 rw[if_neg k1];by_cases k2:k=2
 ·rw[if_pos k2]
  by_cases hd:dst≠(X.f:Int)
  ·rw[if_pos hd]
   have hdf:(dst != (X.f:Int))=true:=by grind
   obtain⟨⟨g,ge⟩,hg⟩:=EQ (C.mI S.own key n dst);rw[hg];by_cases he:ge=0
   ·subst he
    rw[if_pos rfl];by_cases hr:C.lh S.book (X.f:Int) key<n
    ·grind[C9,Go.Lib.hid]
    ·rw[if_neg (λh=>hr h.2)]
     exact Hf w0 X Y S z hz hI key h3 hm1 hk1 hk2 n h4 (h0.trans k2) dst h2 hdf hb1 hok g (HD hg) hbk _ (HD rfl) (by grind)
   ·grind[K4,Go.Lib.hid]
  simp_all[Gi]
 simp_all[Wn]
end
end
