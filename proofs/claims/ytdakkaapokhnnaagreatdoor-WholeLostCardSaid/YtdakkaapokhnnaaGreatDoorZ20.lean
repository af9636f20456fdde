/- Contracts of functions. No condition. -/
import Derived.Test.YtdakkaapokhnnaaGreatDoorZ18
namespace Go.Proofs.YtdakkaapokhnnaaGreatDoor
open Go.RowKit Go.Proofs.Tryz
set_option maxRecDepth 100000
set_option maxHeartbeats 6400000
set_option linter.all false
section
open B (aI)
section
variable (w0:World)(X:RX)(Y:RY)(S:RS)
variable (z:List Int)(hz:z.length=11)(hI:Inv (ah X Y S).own w0 w0 [ah X Y S])
include hz hI
theorem Lx(key:Int)(h3:gi z 3=key)(hm0:aI S.view (X.f:Int)=true)(hk1:decide (key<0)=false)(hk2:decide (4<=key)=false)(n:Int)(h4:gi z 4=n)(h0:gi z 0=1)(hb:S.busy=false)(hok:Hid (C.vG S.own))(g:List Int)(ge:Int)(hg:Hid (C.jK S.own (1+key.toNat*7+1) key n=(g,ge)))(hge:ge≠0):jf w0 X Y S z (aj 174,0,ge):=by
 have hvl:=(aQ hI aA).view;have hn:=aa 174;have hmb:Hid (aI S.view (X.f:Int)=true):=HD hm0;clear hm0;unfold jf;have hown:=(aQ hI aA).own;have hgl:g.length=174:=(by have:=C.sV S.own (1+key.toNat*7+1) key n hown;rw[hg.out]at this;exact this);have hq:(ge != 0)=true:=by simpa using hge
 go_enter func68,ntmps68;go_upto_region 1 with(refine YX ?_;intro bx w hI)
 refine ZT [8,9] 10 hI ?_;intro wd hI
 (repeat(refine ZQ ?_;go_wp2_with(first|go_at_call 14;refine KD hI (bP _ _ X.f hvl _ hmb) ?_;intro w1 hI|refine YL ?_);refine ZP ?_))
 go_upto_region 15 with(first|refine YL ?_|refine YX ?_;intro bx w hI)
 obtain⟨b1,b2,b3,e1,e2,e3⟩:=Lp hI;subst e1 e2 e3
 (refine ZR [8,9,12,13] [11] [12] [0,1,2,3,4,5,6,7,8,9,10,11,12,13] (λw=>Inv (ah X Y S).own w0 w [ib b2 41 (aj 174),ib b3 50 z,ah X Y S]) hI ?_;intro wd hI)
 (repeat(first|refine ZS ?_|refine ZQ ?_;go_wp2_with(first|go_at_call 105;refine KD hI (IB _ _ _ _ hown hok _ _ hg) ?_;intro w1 hI|refine YS ?_;intro w hI|refine YL ?_);refine ZP ?_))
 exact W18
theorem EB(key:Int)(h3:gi z 3=key)(hm0:aI S.view (X.f:Int)=true)(hk1:decide (key<0)=false)(hk2:decide (4<=key)=false)(n:Int)(h4:gi z 4=n)(h0:gi z 0=1)(hb:S.busy=false)(hok:Hid (C.vG S.own))(g:List Int)(hg:Hid (C.jK S.own (1+key.toNat*7+1) key n=(g,0)))(hbk:Hid (C.Bk S.book))(rg:Int)(Uk:Hid (C.kE S.book (X.f:Int) key=rg))(hrn:decide (rg<n)=true):jf w0 X Y S z (aj 174,0,7):=by
 have hvl:=(aQ hI aA).view;have hn:=aa 174;have hmb:Hid (aI S.view (X.f:Int)=true):=HD hm0;clear hm0;unfold jf;have hown:=(aQ hI aA).own;have hgl:g.length=174:=(by have:=C.sV S.own (1+key.toNat*7+1) key n hown;rw[hg.out]at this;exact this);go_enter func68,ntmps68;go_upto_region 1 with(refine YX ?_;intro bx w hI)
 refine ZT [8,9] 10 hI ?_;intro wd hI
 (repeat(refine ZQ ?_;go_wp2_with(first|go_at_call 14;refine KD hI (bP _ _ X.f hvl _ hmb) ?_;intro w1 hI|refine YL ?_);refine ZP ?_))
 go_upto_region 15 with(first|refine YL ?_|refine YX ?_;intro bx w hI)
 obtain⟨b1,b2,b3,e1,e2,e3⟩:=Lp hI;subst e1 e2 e3
 (refine ZR [8,9,12,13] [11] [12] [0,1,2,3,4,5,6,7,8,9,10,11,12,13] (λw=>Inv (ah X Y S).own w0 w [ib b2 41 (aj 174),ib b3 50 z,ah X Y S]) hI ?_;intro wd hI)
 (repeat(first|refine ZS ?_|refine ZQ ?_;go_wp2_with(first|go_at_call 105;refine KD hI (IB _ _ _ _ hown hok _ _ hg) ?_;intro w1 hI|refine YS ?_;intro w hI|refine YL ?_);refine ZP ?_))
 exact W37
theorem IL(key:Int)(h3:gi z 3=key)(hm0:aI S.view (X.f:Int)=true)(hk1:decide (key<0)=false)(hk2:decide (4<=key)=false)(n:Int)(h4:gi z 4=n)(h0:gi z 0=1)(hb:S.busy=false)(hok:Hid (C.vG S.own))(g:List Int)(hg:Hid (C.jK S.own (1+key.toNat*7+1) key n=(g,0)))(hbk:Hid (C.Bk S.book))(rg:Int)(Uk:Hid (C.kE S.book (X.f:Int) key=rg))(hrn:decide (rg<n)=false):jf w0 X Y S z (g,0,0):=by
 have hvl:=(aQ hI aA).view;have hn:=aa 174;have hmb:Hid (aI S.view (X.f:Int)=true):=HD hm0;clear hm0;unfold jf;have hown:=(aQ hI aA).own;have hgl:g.length=174:=(by have:=C.sV S.own (1+key.toNat*7+1) key n hown;rw[hg.out]at this;exact this);go_enter func68,ntmps68;go_upto_region 1 with(refine YX ?_;intro bx w hI)
 refine ZT [8,9] 10 hI ?_;intro wd hI
 (repeat(refine ZQ ?_;go_wp2_with(first|go_at_call 14;refine KD hI (bP _ _ X.f hvl _ hmb) ?_;intro w1 hI|refine YL ?_);refine ZP ?_))
 go_upto_region 15 with(first|refine YL ?_|refine YX ?_;intro bx w hI)
 obtain⟨b1,b2,b3,e1,e2,e3⟩:=Lp hI;subst e1 e2 e3
 (refine ZR [8,9,12,13] [11] [12] [0,1,2,3,4,5,6,7,8,9,10,11,12,13] (λw=>Inv (ah X Y S).own w0 w [ib b2 41 (aj 174),ib b3 50 z,ah X Y S]) hI ?_;intro wd hI)
 (repeat(first|refine ZS ?_|refine ZQ ?_;go_wp2_with(first|go_at_call 105;refine KD hI (IB _ _ _ _ hown hok _ _ hg) ?_;intro w1 hI|refine YS ?_;intro w hI|refine YL ?_);refine ZP ?_))
 exact W31
end
end
section
open B (aI)
section
variable (w0:World)(X:RX)(Y:RY)(S:RS)
theorem ae2(hI:Inv (ah X Y S).own w0 w0 [ah X Y S])(z:List Int)(hz:z.length=11)(k dst key n:Int)(h0:gi z 0=k)(h2:gi z 2=dst)(h3:gi z 3=key)(h4:gi z 4=n)(hok:Hid (C.vG S.own))(hbk:Hid (C.Bk S.book)):
  jf w0 X Y S z (qB X.f S k dst key n):=by
 unfold qB;by_cases hm:aI S.view (X.f:Int)=false
 ·rw[if_pos hm];exact XA w0 X Y S z hz hI hm
 rw[if_neg hm];have hm1:aI S.view (X.f:Int)=true:=by simpa using hm
 by_cases hk:key<0∨4<=key
 ·rw[if_pos hk];exact XB w0 X Y S z hz hI key h3 hm1 hk
 rw[if_neg hk];have hk1:decide (key<0)=false:=by simp;omega
 have hk2:decide (4<=key)=false:=by simp;omega
 by_cases k3:k=3
 ·rw[if_pos k3];exact Ta w0 X Y S z hz hI key h3 hm1 hk1 hk2 (h0.trans k3) hbk
 rw[if_neg k3];have h03:(gi z 0==3)=false:=by simpa[h0]using k3
 by_cases hb:S.busy=true
 ·rw[if_pos hb];exact Tc w0 X Y S z hz hI key h3 hm1 hk1 hk2 h03 hb
 rw[if_neg hb];have hb1:S.busy=false:=by simpa using hb
 dsimp only;by_cases k0:k=0
 ·rw[if_pos k0]
  obtain⟨⟨g,ge⟩,hg⟩:=EQ (C.jK S.own (1+key.toNat*7) key n);rw[hg];dsimp only;by_cases he:ge=0
  ·subst he
   rw[if_pos rfl,if_neg (by simp[k0])];exact IK w0 X Y S z hz hI key h3 hm1 hk1 hk2 n h4 (h0.trans k0) hb1 hok g (HD hg)
  ·rw[if_neg he]
   exact Lv w0 X Y S z hz hI key h3 hm1 hk1 hk2 n h4 (h0.trans k0) hb1 hok g ge (HD hg) he
 rw[if_neg k0];have h00:(gi z 0==0)=false:=by simpa[h0]using k0
 by_cases k1:k=1
 ·rw[if_pos k1]
  obtain⟨⟨g,ge⟩,hg⟩:=EQ (C.jK S.own (1+key.toNat*7+1) key n);rw[hg];dsimp only;by_cases he:ge=0
  ·subst he
   rw[if_pos rfl];by_cases hr:C.kE S.book (X.f:Int) key<n
   ·rw[if_pos ⟨k0,hr⟩]
    exact EB w0 X Y S z hz hI key h3 hm1 hk1 hk2 n h4 (h0.trans k1) hb1 hok g (HD hg) hbk _ (HD rfl) (by simpa using hr)
   ·rw[if_neg (λh=>hr h.2)]
    exact IL w0 X Y S z hz hI key h3 hm1 hk1 hk2 n h4 (h0.trans k1) hb1 hok g (HD hg) hbk _ (HD rfl) (by simpa using hr)
  ·rw[if_neg he]
   exact Lx w0 X Y S z hz hI key h3 hm1 hk1 hk2 n h4 (h0.trans k1) hb1 hok g ge (HD hg) he
 rw[if_neg k1];have h01:(gi z 0==1)=false:=by simpa[h0]using k1
 by_cases k2:k=2
 ·rw[if_pos k2]
  by_cases hd:dst≠(X.f:Int)
  ·rw[if_pos hd]
   have hdf:(dst != (X.f:Int))=true:=by simpa using hd
   obtain⟨⟨g,ge⟩,hg⟩:=EQ (C.kD S.own key n dst);rw[hg];dsimp only;by_cases he:ge=0
   ·subst he
    rw[if_pos rfl];by_cases hr:C.kE S.book (X.f:Int) key<n
    ·rw[if_pos ⟨k0,hr⟩]
     exact Bq w0 X Y S z hz hI key h3 hm1 hk1 hk2 n h4 (h0.trans k2) dst h2 hdf hb1 hok g (HD hg) hbk _ (HD rfl) (by simpa using hr)
    ·rw[if_neg (λh=>hr h.2)]
     exact E_ w0 X Y S z hz hI key h3 hm1 hk1 hk2 n h4 (h0.trans k2) dst h2 hdf hb1 hok g (HD hg) hbk _ (HD rfl) (by simpa using hr)
   ·rw[if_neg he]
    exact IM w0 X Y S z hz hI key h3 hm1 hk1 hk2 n h4 (h0.trans k2) dst h2 hdf hb1 hok g ge (HD hg) he
  ·rw[if_neg hd];dsimp only
   rw[if_neg OM];exact EC w0 X Y S z hz hI key h3 hm1 hk1 hk2 (h0.trans k2) (h2.trans (by simpa using hd)) hb1
 rw[if_neg k2];dsimp only;rw[if_neg OM];have h02:(gi z 0==2)=false:=by simpa[h0]using k2
 exact Td w0 X Y S z hz hI key h3 hm1 hk1 hk2 h03 h00 h01 h02 hb1
end
end
