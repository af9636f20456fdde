/- Contracts of functions. No condition. -/
import Derived.Test.YtdakkaapokhnnaaGreatDoorZ20
import Derived.Test.YtdakkaapokhnnaaGreatDoorZ23
import Derived.Test.YtdakkaapokhnnaaGreatDoorZ24
namespace Go.Proofs.YtdakkaapokhnnaaGreatDoor
open Go.RowKit Go.Proofs.Tryz
set_option maxRecDepth 100000
set_option maxHeartbeats 6400000
set_option linter.all false
section
open B (aI bQ nX)
theorem Ez(f:Nat)(S:RS)(c:List Int):(bT f S c).1.view=S.view:=by
 unfold bT eT;dsimp only
 split
 ·split<;>rfl
 ·rfl
theorem OH(f:Nat)(S:RS)(c:List Int):(bT f S c).1.aV=S.aV:=by
 unfold bT eT;dsimp only
 split
 ·split<;>rfl
 ·rfl
theorem EA(f:Nat)(S:RS)(c:List Int)(h:(bT f S c).2=0):∃zs,(bT f S c).1.aK=some (zs,false):=by
 unfold bT at h|-;dsimp only at h|-
 split at h
 ·rename_i h1
  rw[if_pos h1]
  split at h
  ·rename_i h2;rw[if_pos h2];exact⟨_,rfl⟩
  ·rename_i h2;exact absurd h h2
 ·simp at h
section
variable (w0:World)(X:RX)(Y:RY)(S:RS)
theorem BJ(hI:Inv (ah X Y S).own w0 w0 [ah X Y S])(c:List Int)(hcl:c.length=3)(S1:RS)(e1:Int)(hb:Hid (bT X.f S c=(S1,e1))):
  Calls prog 85 #[.pointer (some ⟨X.b,0,none⟩),ia c] w0 λe' w'=>∃Y',e'=.returned (.int .i64 e1)∧Inv (ah X Y S).own w0 w' [ah X Y' S1]:=by
 have h:=abd w0 X Y S c hcl hI;rw[hb.out]at h;exact h
variable (hX:zG X)
include hX
theorem XJ(op:Int)(c:List Int)(hcl:c.length=3)(hvw:Hid (dU S.view))(hrl:S.aV.length<=1000000000)(hI:Inv (ah X Y S).own w0 w0 [ah X Y S]):
  Calls prog 67 #[.pointer (some ⟨X.b,0,none⟩),oV X,.int .i64 op,ia c] w0 λe' w'=>∃Y',e'=.returned (.int .i64 (jD X.f S op c).2)∧Inv (ah X Y S).own w0 w' [ah X Y' (jD X.f S op c).1]:=by
 have hvl:=(aQ hI aA).view;obtain⟨⟨nv,ne⟩,oO⟩:=EQ (bQ S.view c);have hnl:nv.length=7:=by have:=zh S.view c hvl;rw[oO]at this;exact this
 have hnx:=HD oO;obtain⟨⟨S1,e1⟩,uS⟩:=EQ (bT X.f S c);have hbe:=HD uS;have IG:Hid (dU S1.view):=HD (by have:=Ez X.f S c;rw[uS]at this;rw[this];exact hvw.out);have XK:S1.aV.length<=1000000000:=by have:=OH X.f S c;rw[uS]at this;rw[this];exact hrl
 have Tg:e1=0->∃zs,S1.aK=some (zs,false):=λh=>by have:=EA X.f S c (by rw[uS];exact h);rw[uS]at this;exact this
 by_cases hne:ne=0
 ·subst hne
  obtain⟨vo,hV⟩:=EQ S.aK;cases vo with
  |some V0=>
   have hF:Hid (jD X.f S op c=(bW S op 8 0,8)):=HD (by rw[jD,oO];dsimp only;rw[if_pos rfl,if_neg (by simp[hV])]);clear oO uS Tg;go_enter func67,ntmps67;go_upto_region 1 with(refine YX ?_;intro bx w hI)
   (refine aD [10,11] [8] [10,11] [8] [0,1,2,3,4,5,6,7,8] 9 [10,11] eO KF RF hI ?_;clear hI)
   (repeat(first| ((with_reducible refine' bC RF RF RF ?_ ?_ ?_);rotate_left;(focus(intro ex w (hI:Inv _ _ w _);go_wp2_with(first|refine YL ?_|go_at_call 84;refine KD hI (iL _ _ _ hvl hcl hvw _ _ hnx) ?_;intro w1 hI);(try simp only[QN]);exact bB rfl hI));(focus(exact⟨_,rfl⟩))) | refine ZL ?_));refine bH ?_;intro bx w hI;(simp only[QN]);(repeat(refine ZQ ?_;go_wp2_with(refine YS ?_;intro w hI);refine ZP ?_))
   go_wp2_with(first|refine YL ?_|go_at_call 69;refine KG hI (oU _ X _ _ (hI.at_ aX) _ _ _ (by with_unfolding_all exact hrl)) ?_;intro Y2 w1 hI;dsimp only[bW]at hI);go_ret;rw[hF.out];exact⟨Y2,rfl,hI.sub (.cons _ (.cons _ (.refl _)))⟩
  |none=>
   by_cases BI:e1=0
   ·subst BI
    obtain⟨zs,hV1⟩:=Tg rfl;obtain⟨V,hVe⟩:=EQ ((zs,false):List Int×Bool);have hVp:V.2=false:=by rw[<-hVe]
    rw[hVe]at hV1;have hF:Hid (jD X.f S op c=(oq X.f (bW S1 op 0 0) V,0)):=HD (by
     rw[jD,oO];dsimp only;rw[if_pos rfl,if_pos hV,uS];dsimp only;rw[if_pos rfl,AO,hV1];rfl)
    clear oO uS Tg hVe;go_enter func67,ntmps67;go_upto_region 1 with(refine YX ?_;intro bx w hI)
    (refine aD [10,11] [8] [10,11] [8] [0,1,2,3,4,5,6,7,8] 9 [10,11] eO KF RF hI ?_;clear hI)
    (repeat(first| ((with_reducible refine' bC RF RF RF ?_ ?_ ?_);rotate_left;(focus(intro ex w (hI:Inv _ _ w _);go_wp2_with(first|refine YL ?_|go_at_call 84;refine KD hI (iL _ _ _ hvl hcl hvw _ _ hnx) ?_;intro w1 hI);(try simp only[QN]);exact bB rfl hI));(focus(exact⟨_,rfl⟩))) | refine ZL ?_));refine bH ?_;intro bx w hI;(simp only[QN]);(repeat(refine ZQ ?_;go_wp2_with(refine YS ?_;intro w hI);refine ZP ?_))
    go_wp2_with(first|refine YL ?_|go_at_call 85;refine KG hI (BJ _ X _ _ (hI.at_ aX) _ hcl _ _ hbe) ?_;intro Y1 w1 hI|go_at_call 69;refine KG hI (oU _ X _ _ (hI.at_ aX) _ _ _ (by with_unfolding_all exact XK)) ?_;intro Y2 w1 hI;dsimp only[bW]at hI|go_at_call 86;refine KJ hI (Ey _ X _ _ hX (hI.at_ aX) V (by with_unfolding_all exact hV1) hVp _ IG RF) ?_;intro Y3 S3 w1 Yx hI);go_ret;rw[hF.out];have e1:=Yx.out;dsimp only[bW]at e1|-;rw[e1];exact⟨Y3,rfl,hI.sub (.cons _ (.cons _ (.refl _)))⟩
   ·have hF:Hid (jD X.f S op c=(bW S1 op e1 0,e1)):=HD (by
     rw[jD,oO];dsimp only;rw[if_pos rfl,if_pos hV,uS];dsimp only;rw[if_neg BI])
    have hq:(e1==0)=false:=by simpa using BI
    clear oO uS Tg;go_enter func67,ntmps67;go_upto_region 1 with(refine YX ?_;intro bx w hI)
    (refine aD [10,11] [8] [10,11] [8] [0,1,2,3,4,5,6,7,8] 9 [10,11] eO KF RF hI ?_;clear hI)
    (repeat(first| ((with_reducible refine' bC RF RF RF ?_ ?_ ?_);rotate_left;(focus(intro ex w (hI:Inv _ _ w _);go_wp2_with(first|refine YL ?_|go_at_call 84;refine KD hI (iL _ _ _ hvl hcl hvw _ _ hnx) ?_;intro w1 hI);(try simp only[QN]);exact bB rfl hI));(focus(exact⟨_,rfl⟩))) | refine ZL ?_));refine bH ?_;intro bx w hI;(simp only[QN]);(repeat(refine ZQ ?_;go_wp2_with(refine YS ?_;intro w hI);refine ZP ?_))
    go_wp2_with(first|refine YL ?_|go_at_call 85;refine KG hI (BJ _ X _ _ (hI.at_ aX) _ hcl _ _ hbe) ?_;intro Y1 w1 hI|go_at_call 69;refine KG hI (oU _ X _ _ (hI.at_ aX) _ _ _ (by with_unfolding_all exact XK)) ?_;intro Y2 w1 hI;dsimp only[bW]at hI);go_ret;rw[hF.out];exact⟨Y2,rfl,hI.sub (.cons _ (.cons _ (.refl _)))⟩
 ·have hF:Hid (jD X.f S op c=(bW S op ne 0,ne)):=HD (by rw[jD,oO];dsimp only;rw[if_neg hne])
  have hq:(ne==0)=false:=by simpa using hne
  clear oO uS Tg;go_enter func67,ntmps67;go_upto_region 1 with(refine YX ?_;intro bx w hI)
  (refine aD [10,11] [8] [10,11] [8] [0,1,2,3,4,5,6,7,8] 9 [10,11] eO KF RF hI ?_;clear hI)
  (repeat(first| ((with_reducible refine' bC RF RF RF ?_ ?_ ?_);rotate_left;(focus(intro ex w (hI:Inv _ _ w _);go_wp2_with(first|refine YL ?_|go_at_call 84;refine KD hI (iL _ _ _ hvl hcl hvw _ _ hnx) ?_;intro w1 hI);(try simp only[QN]);exact bB rfl hI));(focus(exact⟨_,rfl⟩))) | refine ZL ?_));refine bH ?_;intro bx w hI;(simp only[QN]);(repeat(refine ZQ ?_;go_wp2_with(refine YS ?_;intro w hI);refine ZP ?_))
  go_wp2_with(go_at_call 69;refine KG hI (oU _ X _ _ (hI.at_ aX) _ _ _ (by with_unfolding_all exact hrl)) ?_;intro Y2 w1 hI;dsimp only[bW]at hI);go_ret;rw[hF.out];exact⟨Y2,rfl,hI.sub (.cons _ (.cons _ (.refl _)))⟩
end
end
section
open B (aI bQ nX)
theorem XL(f:Nat)(S:RS)(t:Nat)(M:gZ):(dM f S t M).aV=S.aV:=by unfold dM;split<;>rfl
theorem IP(f:Nat)(S:RS):(gz f S).aV=S.aV:=by
 unfold gz;exact gW RS.aV _ (λT w=>by split;rfl;exact XL f T w _) _ S
theorem Tm(f:Nat)(S:RS)(x:List Int)(op:Int):(gY f S x op).1.aV=S.aV:=by
 unfold gY;split
 ·dsimp only;rw[IP];rfl
 ·rfl
theorem XM(f:Nat)(S:RS)(k dst key n:Int)(ho:S.own.length=174):(qB f S k dst key n).1.length=174:=by
 have h0:=aa 174;unfold qB
 repeat' (first|exact h0|split)
 all_goals (dsimp only;repeat' (first|exact h0|split))
 all_goals first|exact C.sV _ _ _ _ ho|exact C.wz _ _ _ _ ho
section
variable (w0:World)(X:RX)(Y:RY)(S:RS)
theorem IQ(hI:Inv (ah X Y S).own w0 w0 [ah X Y S])(z:List Int)(hz:z.length=11)(hok:Hid (C.vG S.own))(hbk:Hid (C.Bk S.book))(g:List Int)(v er:Int)(hp:Hid (qB X.f S (gi z 0) (gi z 2) (gi z 3) (gi z 4)=(g,v,er))):
  Calls prog 68 #[.pointer (some ⟨X.b,0,none⟩),ia z] w0 λe w'=>e=.returned (.tuple #[ia g,.int .i64 v,.int .i64 er])∧Inv (ah X Y S).own w0 w' [ah X Y S]:=by
 have h:=ae2 w0 X Y S hI z hz _ _ _ _ rfl rfl rfl rfl hok hbk;rw[hp.out]at h;exact h
variable (hX:zG X)
include hX
theorem XN(hI:Inv (ah X Y S).own w0 w0 [ah X Y S])(op:Int)(c:List Int)(hcl:c.length=3)(hvw:Hid (dU S.view))(hrl:S.aV.length<=1000000000)(S1:RS)(e1:Int)(hc:Hid (jD X.f S op c=(S1,e1))):
  Calls prog 67 #[.pointer (some ⟨X.b,0,none⟩),oV X,.int .i64 op,ia c] w0 λe' w'=>∃Y',e'=.returned (.int .i64 e1)∧Inv (ah X Y S).own w0 w' [ah X Y' S1]:=by
 have h:=XJ w0 X Y S hX op c hcl hvw hrl hI;rw[hc.out]at h;exact h
theorem XO(hI:Inv (ah X Y S).own w0 w0 [ah X Y S])(x:List Int)(op:Int)(hx:x.length=174)(S1:RS)(e1:Int)(hg:Hid (gY X.f S x op=(S1,e1))):
  Calls prog 70 #[.pointer (some ⟨X.b,0,none⟩),oV X,ia x,.int .i64 op] w0 λe' w'=>∃Y',e'=.returned (.int .i64 e1)∧Inv (ah X Y S).own w0 w' [ah X Y' S1]:=by
 have h:=We w0 X Y S hX x op hx hI;rw[hg.out]at h;exact h
theorem OI(z:List Int)(hz:z.length=11)(hvw:Hid (dU S.view))(hrl:S.aV.length<=1000000000)(oP:aI S.view (X.f:Int)=true)(hk:(gi z 0==4)=true)(hI:Inv (ah X Y S).own w0 w0 [ah X Y S]):
  Calls prog 39 #[.pointer (some ⟨X.b,0,none⟩),oV X,ia z] w0 λe' w'=>∃Y',e'=.returned (.int .i64 (fG X.f S (gi z 0) (gi z 2) (gi z 3) (gi z 4) (sub z 5 3)).2)∧Inv (ah X Y S).own w0 w' [ah X Y' (fG X.f S (gi z 0) (gi z 2) (gi z 3) (gi z 4) (sub z 5 3)).1]:=by
 have hvl:=(aQ hI aA).view;have hcl:(sub z 5 3).length=3:=by rw[ay];omega
 have hmb:=HD oP;obtain⟨⟨S1,e1⟩,ae3⟩:=EQ (jD X.f {S with ops:=wrap64 (S.ops+1)} (wrap64 (S.ops+1)) (sub z 5 3));have hch:=HD ae3;have hF:Hid (fG X.f S (gi z 0) (gi z 2) (gi z 3) (gi z 4) (sub z 5 3)=(S1,e1)):=HD (by rw[fG];dsimp only;rw[if_pos ⟨oP,by simpa using hk⟩,ae3]);clear oP ae3;go_enter func39,ntmps39;go_upto_region 3 with(first|refine YX ?_;intro bx w hI|refine YL ?_|refine YS ?_;intro w hI)
 refine ZT [8,9,10,11,12,13] 14 hI ?_;intro wd hI
 (repeat(refine ZQ ?_;go_wp2_with(first|refine YL ?_|go_at_call 14;refine KD hI (bP _ _ X.f hvl _ hmb) ?_;intro w1 hI);refine ZP ?_))
 go_wp2_with(first|refine YL ?_|go_at_call 67;refine KG hI (XN _ X _ _ hX (hI.at_ aM) _ _ hcl (by with_unfolding_all exact hvw) (by with_unfolding_all exact hrl) _ _ hch) ?_;intro Y1 w1 hI);go_ret;rw[hF.out];exact⟨Y1,rfl,hI.tl⟩
theorem Tn(z:List Int)(hz:z.length=11)(hrl:S.aV.length<=1000000000)(hok:Hid (C.vG S.own))(hbk:Hid (C.Bk S.book))(hnc:(aI S.view (X.f:Int)&&(gi z 0==4))=false)(hI:Inv (ah X Y S).own w0 w0 [ah X Y S]):
  Calls prog 39 #[.pointer (some ⟨X.b,0,none⟩),oV X,ia z] w0 λe' w'=>∃Y',e'=.returned (.int .i64 (fG X.f S (gi z 0) (gi z 2) (gi z 3) (gi z 4) (sub z 5 3)).2)∧Inv (ah X Y S).own w0 w' [ah X Y' (fG X.f S (gi z 0) (gi z 2) (gi z 3) (gi z 4) (sub z 5 3)).1]:=by
 have hvl:=(aQ hI aA).view;have hown:=(aQ hI aA).own;obtain⟨⟨g,v,er⟩,abk⟩:=EQ (qB X.f {S with ops:=wrap64 (S.ops+1)} (gi z 0) (gi z 2) (gi z 3) (gi z 4));have hgl:g.length=174:=by have:=XM X.f {S with ops:=wrap64 (S.ops+1)} (gi z 0) (gi z 2) (gi z 3) (gi z 4) hown;rw[abk]at this;exact this
 have hpl:=HD abk;obtain⟨⟨S1,e1⟩,abl⟩:=EQ (gY X.f {S with ops:=wrap64 (S.ops+1)} g (wrap64 (S.ops+1)));have hgr:=HD abl;have XK:S1.aV.length<=1000000000:=by have:=Tm X.f {S with ops:=wrap64 (S.ops+1)} g (wrap64 (S.ops+1));rw[abl]at this;rw[this];exact hrl
 have hF:Hid (fG X.f S (gi z 0) (gi z 2) (gi z 3) (gi z 4) (sub z 5 3)=if er≠0∨gi z 0=3 then(bW {S with ops:=wrap64 (S.ops+1)} (wrap64 (S.ops+1)) er v,er)else if e1=0 then(S1,e1)else(bW S1 (wrap64 (S.ops+1)) e1 0,e1)):=HD (by
  rw[fG];dsimp only;rw[if_neg (by intro h;simp[h.1,h.2]at hnc),abk];dsimp only;rw[abl])
 clear abk abl;go_enter func39,ntmps39;go_upto_region 3 with(first|refine YX ?_;intro bx w hI|refine YL ?_|refine YS ?_;intro w hI)
 (obtain⟨bz,hbx⟩:=EZ bx;subst hbx)
 go_cut [35] (λu wx=>u=.bool false∧Inv (ah X Y S).own w0 wx [ib bz 50 z,ah X Y {S with ops:=wrap64 (S.ops+1)}])
 case first=>
  clear hF hpl hgr XK hgl;cases hm0:aI S.view (X.f:Int)
  ·have hmb:=HD hm0
   clear hm0 hnc
   refine ZT [8,9,10,11,12,13] 14 hI ?_;intro wd hI
   (repeat(first|refine ZS ?_|refine ZQ ?_;go_wp2_with(first|go_at_call 14;refine KD hI (bP _ _ X.f hvl _ hmb) ?_;intro w1 hI|refine YL ?_);refine ZP ?_))
   go_wp2_with(fail)
   go_meet
   case rel=>exact⟨rfl,hI⟩
  ·have hmb:=HD hm0
   have hk4:(gi z 0==4)=false:=by simpa[hm0]using hnc
   clear hm0 hnc
   refine ZT [8,9,10,11,12,13] 14 hI ?_;intro wd hI
   (repeat(refine ZQ ?_;go_wp2_with(first|refine YL ?_|go_at_call 14;refine KD hI (bP _ _ X.f hvl _ hmb) ?_;intro w1 hI);refine ZP ?_))
   go_wp2_with(fail)
   go_meet
   case rel=>exact⟨rfl,hI⟩
 case rest=>
  clear hI hnc;obtain⟨rfl,hI⟩:=hcut;by_cases BI:er=0
  ·subst BI
   by_cases hk3:gi z 0=3
   ·have hF2:Hid (fG X.f S (gi z 0) (gi z 2) (gi z 3) (gi z 4) (sub z 5 3)=(bW {S with ops:=wrap64 (S.ops+1)} (wrap64 (S.ops+1)) 0 v,0)):=HD (by rw[hF.out,if_pos (.inr hk3)])
    have aiJ:(gi z 0==3)=true:=by simpa using hk3
    clear hF hgr hk3;go_wp2_with(first|refine YL ?_|refine YS ?_;intro w hI|refine YX ?_;intro bx w hI|go_at_call 68;refine KC iR hI (IQ _ X _ _ (hI.at_ aM) _ hz (by with_unfolding_all exact hok) (by with_unfolding_all exact hbk) _ _ _ hpl) ?_;intro w1 hI|go_at_call 69;refine KG hI (oU _ X _ _ (hI.at_ aX) _ _ _ (by with_unfolding_all exact hrl)) ?_;intro Y2 w1 hI;dsimp only[bW]at hI);go_ret;rw[hF2.out];exact⟨Y2,rfl,hI.sub (.cons _ (.cons _ (.refl _)))⟩
   ·have hF2:Hid (fG X.f S (gi z 0) (gi z 2) (gi z 3) (gi z 4) (sub z 5 3)=if e1=0 then(S1,e1)else(bW S1 (wrap64 (S.ops+1)) e1 0,e1)):=HD (by rw[hF.out,if_neg (λh=>h.elim (λh=>h rfl) hk3)])
    have aiJ:(gi z 0==3)=false:=by simpa using hk3
    clear hF hk3;by_cases he1:e1=0
    ·subst he1
     have r_:Hid (fG X.f S (gi z 0) (gi z 2) (gi z 3) (gi z 4) (sub z 5 3)=(S1,0)):=HD (by rw[hF2.out,if_pos rfl]);clear hF2;go_wp2_with(first|refine YL ?_|refine YS ?_;intro w hI|refine YX ?_;intro bx w hI|go_at_call 68;refine KC iR hI (IQ _ X _ _ (hI.at_ aM) _ hz (by with_unfolding_all exact hok) (by with_unfolding_all exact hbk) _ _ _ hpl) ?_;intro w1 hI|go_at_call 70;refine KG hI (XO _ X _ _ hX (hI.at_ aX) _ _ hgl _ _ hgr) ?_;intro Y3 w1 hI);go_ret;rw[r_.out];exact⟨Y3,rfl,hI.sub (.cons _ (.cons _ (.refl _)))⟩
    ·have r_:Hid (fG X.f S (gi z 0) (gi z 2) (gi z 3) (gi z 4) (sub z 5 3)=(bW S1 (wrap64 (S.ops+1)) e1 0,e1)):=HD (by rw[hF2.out,if_neg he1])
     have hq:(e1 != 0)=true:=by simpa using he1
     clear hF2;go_wp2_with(first|refine YL ?_|refine YS ?_;intro w hI|refine YX ?_;intro bx w hI|go_at_call 68;refine KC iR hI (IQ _ X _ _ (hI.at_ aM) _ hz (by with_unfolding_all exact hok) (by with_unfolding_all exact hbk) _ _ _ hpl) ?_;intro w1 hI|go_at_call 69;refine KG hI (oU _ X _ _ (hI.at_ aX) _ _ _ (by with_unfolding_all exact XK)) ?_;intro Y2 w1 hI;dsimp only[bW]at hI|go_at_call 70;refine KG hI (XO _ X _ _ hX (hI.at_ aX) _ _ hgl _ _ hgr) ?_;intro Y3 w1 hI);go_ret;rw[r_.out];exact⟨Y2,rfl,hI.sub (.cons _ (.cons _ (.refl _)))⟩
  ·have hF2:Hid (fG X.f S (gi z 0) (gi z 2) (gi z 3) (gi z 4) (sub z 5 3)=(bW {S with ops:=wrap64 (S.ops+1)} (wrap64 (S.ops+1)) er v,er)):=HD (by rw[hF.out,if_pos (.inl BI)])
   have hq:(er != 0)=true:=by simpa using BI
   clear hF hgr;go_wp2_with(first|refine YL ?_|refine YS ?_;intro w hI|refine YX ?_;intro bx w hI|go_at_call 68;refine KC iR hI (IQ _ X _ _ (hI.at_ aM) _ hz (by with_unfolding_all exact hok) (by with_unfolding_all exact hbk) _ _ _ hpl) ?_;intro w1 hI|go_at_call 69;refine KG hI (oU _ X _ _ (hI.at_ aX) _ _ _ (by with_unfolding_all exact hrl)) ?_;intro Y2 w1 hI;dsimp only[bW]at hI);go_ret;rw[hF2.out];exact⟨Y2,rfl,hI.sub (.cons _ (.cons _ (.refl _)))⟩
theorem XP(z:List Int)(hz:z.length=11)(hvw:Hid (dU S.view))(hrl:S.aV.length<=1000000000)(hok:Hid (C.vG S.own))(hbk:Hid (C.Bk S.book))(hI:Inv (ah X Y S).own w0 w0 [ah X Y S]):
  Calls prog 39 #[.pointer (some ⟨X.b,0,none⟩),oV X,ia z] w0 λe' w'=>∃Y',e'=.returned (.int .i64 (fG X.f S (gi z 0) (gi z 2) (gi z 3) (gi z 4) (sub z 5 3)).2)∧Inv (ah X Y S).own w0 w' [ah X Y' (fG X.f S (gi z 0) (gi z 2) (gi z 3) (gi z 4) (sub z 5 3)).1]:=by
 cases h:(aI S.view (X.f:Int)&&(gi z 0==4))
 ·exact Tn w0 X Y S hX z hz hrl hok hbk h hI
 ·rw[Bool.and_eq_true]at h
  exact OI w0 X Y S hX z hz hvw hrl h.1 h.2 hI
end
end
