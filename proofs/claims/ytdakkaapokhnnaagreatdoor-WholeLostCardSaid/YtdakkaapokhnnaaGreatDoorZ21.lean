/- Contracts of functions. No condition. -/
import Derived.Test.YtdakkaapokhnnaaGreatDoorZ19
namespace Go.Proofs.YtdakkaapokhnnaaGreatDoor
open Go.RowKit Go.Proofs.Tryz
set_option maxRecDepth 100000
set_option maxHeartbeats 6400000
set_option linter.all false
section
open B (aI bQ)
theorem tJ{z r:List Int}{o n:Nat}(h:sub z o n=r)(hn:0<n):gi z o=gi r 0:=by
 rw[<-h,nQ _ _ _ _ hn];rfl
section
variable (w0:World)(X:RX)(Y:RY)(S:RS)(hX:zG X)
include hX
theorem Qk(k:Nat)(z b:List Int)(e:Int)(hz:z.length=192)(h0:gi z 0=6)(he:gi z 177=e)(hzb:sub z 178 2=b)(hb2:b.length=2)(hvw:Hid (dU S.view))(hI:Inv (ah X Y S).own w0 w0 [ah X Y S]):
  Calls prog 120 #[.pointer (some ⟨X.b,0,none⟩),oV X,.int .i64 (k:Int),ia z] w0 λe' w'=>∃Y',e'=.returned (.tuple #[])∧Inv (ah X Y S).own w0 w' [ah X Y' (qO X.f S e b S (λT=>nH X.f T k b))]:=by
 unfold qO;by_cases h1:e<gi S.view 0
 ·rw[if_pos h1]
  exact afM
 ·rw[if_neg h1]
  by_cases h2:gi S.view 0<e∨aI S.view (X.f:Int)=false
  ·exact W74
  ·rw[if_neg h2]
   have h3:gi S.view 0=e:=by have:=λh=>h2 (.inl h);omega
   have h4:aI S.view (X.f:Int)=true:=by
    cases hm:aI S.view (X.f:Int)
    ·exact absurd (.inr hm) h2
    ·rfl
   exact Oy w0 X Y S hX k z b hz h0 (by rw[he,h3]) hzb (tJ hzb OM) hb2 h4 hvw hI
omit hX in
theorem oQ(k:Nat)(z:List Int)(hz:z.length=192)(h0:gi z 0=3∨gi z 0=4∨gi z 0=5∨gi z 0=6)(S1:RS)
  (hT:∀w1,Inv (ah X Y S).own w1 w1 [ah X Y S]->Calls prog 120 #[.pointer (some ⟨X.b,0,none⟩),oV X,.int .i64 (k:Int),ia z] w1 λe w'=>∃Y',e=.returned (.tuple #[])∧Inv (ah X Y S).own w1 w' [ah X Y' S1])
  (hI:Inv (ah X Y S).own w0 w0 [ah X Y S]):
  Calls prog 77 #[.pointer (some ⟨X.b,0,none⟩),oV X,.int .i64 (k:Int),ia z] w0 λe w'=>∃Y',e=.returned (.tuple #[])∧Inv (ah X Y S).own w0 w' [ah X Y' S1]:=by
 rcases h0 with h0|h0|h0|h0
 ·go_enter func77,ntmps77
  go_wp2_with(first|refine YL ?_|refine YX ?_;intro bx w hI|go_at_call 120;refine KG hI (hT _ (hI.at_ aM)) ?_;intro Y2 w1 hI);exact⟨rfl,_,gD KF _ _,Y2,rfl,hI.tl⟩
 ·go_enter func77,ntmps77
  go_wp2_with(first|refine YL ?_|refine YX ?_;intro bx w hI|go_at_call 120;refine KG hI (hT _ (hI.at_ aM)) ?_;intro Y2 w1 hI);exact⟨rfl,_,gD KF _ _,Y2,rfl,hI.tl⟩
 ·go_enter func77,ntmps77
  go_wp2_with(first|refine YL ?_|refine YX ?_;intro bx w hI|go_at_call 120;refine KG hI (hT _ (hI.at_ aM)) ?_;intro Y2 w1 hI);exact⟨rfl,_,gD KF _ _,Y2,rfl,hI.tl⟩
 ·go_enter func77,ntmps77
  go_wp2_with(first|refine YL ?_|refine YX ?_;intro bx w hI|go_at_call 120;refine KG hI (hT _ (hI.at_ aM)) ?_;intro Y2 w1 hI);exact⟨rfl,_,gD KF _ _,Y2,rfl,hI.tl⟩
theorem zy(hI:Inv (ah X Y S).own w0 w0 [ah X Y S])(d:Nat)(hd:d<5)(e:Int)(b z:List Int)(hz:z=aB 6 0 (aj 174) 0 e b (aj 2) (aj 3) (aj 7))(hb2:b.length=2)(V:List Int)(hvw:Hid (dU V))(hV:S.view=V):
  Calls prog 122 #[.pointer (some ⟨X.b,0,none⟩),oV X,.int .i64 (d:Int),ia z] w0 λe' w'=>∃Y' S',e'=.returned (.tuple #[])∧Hid (gQ X.f S d e b=S')∧Inv (ah X Y S).own w0 w' [ah X Y' S']:=by
 subst hV;have n1:=aa 174;refine(zx w0 X Y S hX (.taken e b) hb2 z hz d hd (qO X.f S e b S (λT=>nH X.f T X.f b)) (λh w1 hI1=>?_) hI).mono ?_
 ·exact oQ w1 X Y S X.f _ (gZ.len (M:=.taken e b) hb2) (.inr (.inr (.inr aC))) _ (λw2 hI2=>Qk w2 X Y S hX X.f _ b e (gZ.len (M:=.taken e b) hb2) aC (iW n1) (bE n1 hb2) hb2 hvw hI2) hI1
 ·rintro e' w' ⟨Y',rfl,hJ⟩
  exact⟨Y',_,rfl,HD rfl,hJ⟩
theorem aeY(k:Nat)(hk5:k<5)(z b c:List Int)(e:Int)(hz:z.length=192)(he:gi z 177=e)(hzb:sub z 178 2=b)(hzc:sub z 182 3=c)(hb2:b.length=2)(hcl:c.length=3)(hvw:Hid (dU S.view))(hI:Inv (ah X Y S).own w0 w0 [ah X Y S]):
  Calls prog 156 #[.pointer (some ⟨X.b,0,none⟩),oV X,.int .i64 (k:Int),ia z] w0 λe' w'=>∃Y',e'=.returned (.tuple #[])∧Inv (ah X Y S).own w0 w' [ah X Y' (sZ X.f S k e b c)]:=by
 have hvl:=(aQ hI aA).view;have hal:=(aQ hI aA).acc;obtain⟨⟨nv,ne⟩,oO⟩:=EQ (bQ S.view c);have hnl:nv.length=7:=by have:=zh S.view c hvl;rw[oO]at this;exact this
 have hnx:=HD oO;obtain⟨⟨a',ok⟩,abf⟩:=EQ (DK S.acc e b c);have XF:a'.length=8:=by have:=WW (e:=e) hal hb2 hcl;rw[abf]at this;exact this
 have hpa:=HD abf;obtain⟨x0,kZ⟩:=EZ (Rec.take e b c);have hx0:x0.Len:=by rw[kZ];exact⟨hb2,hcl⟩
 have L6:Hid (av (aj 189) [(0,[4]),(176,[e]),(177,b),(179,c)]=x0.mP):=HD (by rw[kZ];exact ad2 hb2 hcl);obtain⟨D',c',u',e',hP⟩:=tH S x0;have hF:Hid (sZ X.f S k e b c=if ne=0 then(if ok=true then(if a'=S.acc then gQ X.f S k e b else if e'=0 then gQ X.f {S with D:=D',cnt:=c',used:=u',acc:=a'} k e b else {S with D:=D',cnt:=c',used:=u'})else S)else S):=HD (by
  rw[sZ,oO];dsimp only;rw[abf];dsimp only;rw[<-kZ,hP.out])
 clear oO abf kZ;by_cases hne:ne=0
 ·have hF2:Hid (sZ X.f S k e b c=if ok=true then(if a'=S.acc then gQ X.f S k e b else if e'=0 then gQ X.f {S with D:=D',cnt:=c',used:=u',acc:=a'} k e b else {S with D:=D',cnt:=c',used:=u'})else S):=HD (by rw[hF.out,if_pos hne])
  subst hne;clear hF;cases ok
  ·have r_:Hid (sZ X.f S k e b c=S):=HD (by rw[hF2.out,if_neg SI])
   clear hF2;go_enter func156,ntmps156;go_upto_region 1 with(refine YX ?_;intro bx w hI)
   (refine aD [11,12] [9] [11,12] [9] [0,1,2,3,4,5,6,7,8,9] 10 [11,12] eO KF RF hI ?_;clear hI)
   (repeat(first| ((with_reducible refine' bC RF RF RF ?_ ?_ ?_);rotate_left;(focus(intro ex w (hI:Inv _ _ w _);go_wp2_with(first|refine YL ?_|go_at_call 84;refine KD hI (iL _ _ _ hvl hcl hvw _ _ hnx) ?_;intro w1 hI);(try simp only[QN,he,hzb,hzc]);exact bB rfl hI));(focus(exact⟨_,rfl⟩))) | refine ZL ?_));refine bH ?_;intro bx w hI;(simp only[QN]);(repeat(refine ZQ ?_;go_wp2_with(refine YS ?_;intro w hI);refine ZP ?_))
   go_upto_region 3 with(fail)
   (refine aD [15,16] [13] [15,16] [13] [0,1,2,3,4,5,6,7,8,9,10,11,12,13] 14 [15,16] eO KF RF hI ?_;clear hI)
   (repeat(first| ((with_reducible refine' bC RF RF RF ?_ ?_ ?_);rotate_left;(focus(intro ex w (hI:Inv _ _ w _);go_wp2_with(first|refine YL ?_|go_at_call 179;refine KD hI (zi _ _ _ _ _ hal hb2 hcl _ _ hpa) ?_;intro w1 hI);(try simp only[QN,he,hzb,hzc]);exact bB rfl hI));(focus(exact⟨_,rfl⟩))) | refine ZL ?_));refine bH ?_;intro bx w hI;(simp only[QN]);(repeat(refine ZQ ?_;go_wp2_with(refine YS ?_;intro w hI);refine ZP ?_))
   go_wp2_with(fail);rw[r_.out];exact⟨rfl,_,gD KF _ _,Y,rfl,hI.sub (.cons _ (.cons _ (.cons _ (.refl _))))⟩
  ·have r_:Hid (sZ X.f S k e b c=if a'=S.acc then gQ X.f S k e b else if e'=0 then gQ X.f {S with D:=D',cnt:=c',used:=u',acc:=a'} k e b else {S with D:=D',cnt:=c',used:=u'}):=HD (by rw[hF2.out,if_pos rfl])
   clear hF2;cases hq0:decide (a'=S.acc)
   ·have hqa:=HD hq0
    have Tz:Hid (sZ X.f S k e b c=if e'=0 then gQ X.f {S with D:=D',cnt:=c',used:=u',acc:=a'} k e b else {S with D:=D',cnt:=c',used:=u'}):=HD (by rw[r_.out,if_neg (by simpa using hq0)]);clear r_ hq0;by_cases BI:e'=0
    ·subst BI
     have hF5:Hid (sZ X.f S k e b c=gQ X.f {S with D:=D',cnt:=c',used:=u',acc:=a'} k e b):=HD (by rw[Tz.out,if_pos rfl]);clear Tz;go_enter func156,ntmps156;go_upto_region 1 with(refine YX ?_;intro bx w hI)
     (refine aD [11,12] [9] [11,12] [9] [0,1,2,3,4,5,6,7,8,9] 10 [11,12] eO KF RF hI ?_;clear hI)
     (repeat(first| ((with_reducible refine' bC RF RF RF ?_ ?_ ?_);rotate_left;(focus(intro ex w (hI:Inv _ _ w _);go_wp2_with(first|refine YL ?_|go_at_call 84;refine KD hI (iL _ _ _ hvl hcl hvw _ _ hnx) ?_;intro w1 hI);(try simp only[QN,he,hzb,hzc]);exact bB rfl hI));(focus(exact⟨_,rfl⟩))) | refine ZL ?_));refine bH ?_;intro bx w hI;(simp only[QN]);(repeat(refine ZQ ?_;go_wp2_with(refine YS ?_;intro w hI);refine ZP ?_))
     go_upto_region 3 with(fail)
     (refine aD [15,16] [13] [15,16] [13] [0,1,2,3,4,5,6,7,8,9,10,11,12,13] 14 [15,16] eO KF RF hI ?_;clear hI)
     (repeat(first| ((with_reducible refine' bC RF RF RF ?_ ?_ ?_);rotate_left;(focus(intro ex w (hI:Inv _ _ w _);go_wp2_with(first|refine YL ?_|go_at_call 179;refine KD hI (zi _ _ _ _ _ hal hb2 hcl _ _ hpa) ?_;intro w1 hI);(try simp only[QN,he,hzb,hzc]);exact bB rfl hI));(focus(exact⟨_,rfl⟩))) | refine ZL ?_));refine bH ?_;intro bx w hI;(simp only[QN]);(repeat(refine ZQ ?_;go_wp2_with(refine YS ?_;intro w hI);refine ZP ?_))
     go_upto_region 5 with(fail)
     refine ZT [5] 6 hI ?_;intro wd hI
     (repeat(refine ZQ ?_;go_wp2_with(first|with_reducible refine S9 RF RF XF hal hqa.out ?_|refine YL ?_);refine ZP ?_))
     go_wp2_with(first|refine YL ?_|refine YS ?_;intro w hI|go_at_call 108;refine KG hI (ni _ X _ _ x0 hx0 _ L6.out _ _ _ _ hP (hI.at_ mU)) ?_;intro Yp w1 hI|go_at_call 122;refine KJ hI (zy _ X _ _ hX (hI.at_ mU) k hk5 _ b _ (Kk 6 hb2) hb2 _ hvw RF) ?_;intro Y2 S2 w1 hS2 hI);rw[hF5.out,hS2.out];exact afI
    ·have hF5:Hid (sZ X.f S k e b c={S with D:=D',cnt:=c',used:=u'}):=HD (by rw[Tz.out,if_neg BI])
     have hq:(e' != 0)=true:=by simpa using BI
     clear Tz;go_enter func156,ntmps156;go_upto_region 1 with(refine YX ?_;intro bx w hI)
     (refine aD [11,12] [9] [11,12] [9] [0,1,2,3,4,5,6,7,8,9] 10 [11,12] eO KF RF hI ?_;clear hI)
     (repeat(first| ((with_reducible refine' bC RF RF RF ?_ ?_ ?_);rotate_left;(focus(intro ex w (hI:Inv _ _ w _);go_wp2_with(first|refine YL ?_|go_at_call 84;refine KD hI (iL _ _ _ hvl hcl hvw _ _ hnx) ?_;intro w1 hI);(try simp only[QN,he,hzb,hzc]);exact bB rfl hI));(focus(exact⟨_,rfl⟩))) | refine ZL ?_));refine bH ?_;intro bx w hI;(simp only[QN]);(repeat(refine ZQ ?_;go_wp2_with(refine YS ?_;intro w hI);refine ZP ?_))
     go_upto_region 3 with(fail)
     (refine aD [15,16] [13] [15,16] [13] [0,1,2,3,4,5,6,7,8,9,10,11,12,13] 14 [15,16] eO KF RF hI ?_;clear hI)
     (repeat(first| ((with_reducible refine' bC RF RF RF ?_ ?_ ?_);rotate_left;(focus(intro ex w (hI:Inv _ _ w _);go_wp2_with(first|refine YL ?_|go_at_call 179;refine KD hI (zi _ _ _ _ _ hal hb2 hcl _ _ hpa) ?_;intro w1 hI);(try simp only[QN,he,hzb,hzc]);exact bB rfl hI));(focus(exact⟨_,rfl⟩))) | refine ZL ?_));refine bH ?_;intro bx w hI;(simp only[QN]);(repeat(refine ZQ ?_;go_wp2_with(refine YS ?_;intro w hI);refine ZP ?_))
     go_upto_region 5 with(fail)
     refine ZT [5] 6 hI ?_;intro wd hI
     (repeat(refine ZQ ?_;go_wp2_with(first|with_reducible refine S9 RF RF XF hal hqa.out ?_|refine YL ?_);refine ZP ?_))
     go_wp2_with(first|refine YL ?_|go_at_call 108;refine KG hI (ni _ X _ _ x0 hx0 _ L6.out _ _ _ _ hP (hI.at_ mU)) ?_;intro Yp w1 hI);rw[hF5.out];exact⟨rfl,_,gD KF _ _,_,rfl,hI.sub (.cons _ (.cons _ (.cons _ (.refl _))))⟩
   ·have hqa:=HD hq0
    have Tz:Hid (sZ X.f S k e b c=gQ X.f S k e b):=HD (by rw[r_.out,if_pos (by simpa using hq0)]);clear r_ hq0;go_enter func156,ntmps156;go_upto_region 1 with(refine YX ?_;intro bx w hI)
    (refine aD [11,12] [9] [11,12] [9] [0,1,2,3,4,5,6,7,8,9] 10 [11,12] eO KF RF hI ?_;clear hI)
    (repeat(first| ((with_reducible refine' bC RF RF RF ?_ ?_ ?_);rotate_left;(focus(intro ex w (hI:Inv _ _ w _);go_wp2_with(first|refine YL ?_|go_at_call 84;refine KD hI (iL _ _ _ hvl hcl hvw _ _ hnx) ?_;intro w1 hI);(try simp only[QN,he,hzb,hzc]);exact bB rfl hI));(focus(exact⟨_,rfl⟩))) | refine ZL ?_));refine bH ?_;intro bx w hI;(simp only[QN]);(repeat(refine ZQ ?_;go_wp2_with(refine YS ?_;intro w hI);refine ZP ?_))
    go_upto_region 3 with(fail)
    (refine aD [15,16] [13] [15,16] [13] [0,1,2,3,4,5,6,7,8,9,10,11,12,13] 14 [15,16] eO KF RF hI ?_;clear hI)
    (repeat(first| ((with_reducible refine' bC RF RF RF ?_ ?_ ?_);rotate_left;(focus(intro ex w (hI:Inv _ _ w _);go_wp2_with(first|refine YL ?_|go_at_call 179;refine KD hI (zi _ _ _ _ _ hal hb2 hcl _ _ hpa) ?_;intro w1 hI);(try simp only[QN,he,hzb,hzc]);exact bB rfl hI));(focus(exact⟨_,rfl⟩))) | refine ZL ?_));refine bH ?_;intro bx w hI;(simp only[QN]);(repeat(refine ZQ ?_;go_wp2_with(refine YS ?_;intro w hI);refine ZP ?_))
    go_upto_region 5 with(fail)
    refine ZT [5] 6 hI ?_;intro wd hI
    (repeat(refine ZQ ?_;go_wp2_with(first|with_reducible refine S9 RF RF XF hal hqa.out ?_|refine YL ?_);refine ZP ?_))
    go_wp2_with(first|refine YL ?_|go_at_call 122;refine KJ hI (zy _ X _ _ hX (hI.at_ mU) k hk5 _ b _ (Kk 6 hb2) hb2 _ hvw RF) ?_;intro Y2 S2 w1 hS2 hI);rw[Tz.out,hS2.out];exact afI
 ·have hF2:Hid (sZ X.f S k e b c=S):=HD (by rw[hF.out,if_neg hne])
  have hq:(ne != 0)=true:=by simpa using hne
  clear hF;go_enter func156,ntmps156;go_upto_region 1 with(refine YX ?_;intro bx w hI)
  (refine aD [11,12] [9] [11,12] [9] [0,1,2,3,4,5,6,7,8,9] 10 [11,12] eO KF RF hI ?_;clear hI)
  (repeat(first| ((with_reducible refine' bC RF RF RF ?_ ?_ ?_);rotate_left;(focus(intro ex w (hI:Inv _ _ w _);go_wp2_with(first|refine YL ?_|go_at_call 84;refine KD hI (iL _ _ _ hvl hcl hvw _ _ hnx) ?_;intro w1 hI);(try simp only[QN,he,hzb,hzc]);exact bB rfl hI));(focus(exact⟨_,rfl⟩))) | refine ZL ?_));exact W63
end
end
section
open B (aI bQ)
section
variable (w0:World)(X:RX)(Y:RY)(S:RS)(hX:zG X)
include hX
theorem abg(hI:Inv (ah X Y S).own w0 w0 [ah X Y S])(k:Nat)(hk5:k<5)(z b c:List Int)(e:Int)(hz:z.length=192)(he:gi z 177=e)(hzb:sub z 178 2=b)(hzc:sub z 182 3=c)(hb2:b.length=2)(hcl:c.length=3)(V:List Int)(hvw:Hid (dU V))(hV:S.view=V):
  Calls prog 156 #[.pointer (some ⟨X.b,0,none⟩),oV X,.int .i64 (k:Int),ia z] w0 λe' w'=>∃Y' S',e'=.returned (.tuple #[])∧Hid (sZ X.f S k e b c=S')∧Inv (ah X Y S).own w0 w' [ah X Y' S']:=by
 subst hV;refine(aeY w0 X Y S hX k hk5 z b c e hz he hzb hzc hb2 hcl hvw hI).mono ?_;rintro e' w' ⟨Y',rfl,hJ⟩;exact⟨Y',_,rfl,HD rfl,hJ⟩
theorem OA(k:Nat)(hk5:k<5)(z b c:List Int)(e:Int)(hz:z.length=192)(h0:gi z 0=5)(he:gi z 177=e)(hse:gi S.view 0=e)(hzb:sub z 178 2=b)(Oz:gi z 178=gi b 0)(hzc:sub z 182 3=c)(hb2:b.length=2)(hcl:c.length=3)(hm:aI S.view (X.f:Int)=true)(hvw:Hid (dU S.view))(hI:Inv (ah X Y S).own w0 w0 [ah X Y S]):
  Calls prog 120 #[.pointer (some ⟨X.b,0,none⟩),oV X,.int .i64 (k:Int),ia z] w0 λe' w'=>∃Y',e'=.returned (.tuple #[])∧Inv (ah X Y S).own w0 w' [ah X Y' (sZ X.f {S with round:=max S.round (gi b 0)} k e b c)]:=by
 have hvl:=(aQ hI aA).view;obtain⟨mb,oP⟩:=EQ (aI S.view (X.f:Int));obtain rfl:mb=true:=by rw[<-oP,hm]
 have hmb:=HD oP;obtain⟨rn,qL⟩:=EQ (max S.round (gi b 0));have hmx:Hid (max S.round (gi z 178)=rn):=HD (by rw[Oz];exact qL);rw[qL];clear oP hm qL;go_enter func120,ntmps120;go_upto_region 1 with(refine YX ?_;intro bx w hI)
 refine ZT [7] 8 hI ?_;intro wd hI
 (repeat(refine ZQ ?_;go_wp2_with(refine YL ?_);refine ZP ?_))
 go_upto_region 4 with(fail)
 refine ZT [7,8,17,18,19] 20 hI ?_;intro wd hI
 (repeat(refine ZQ ?_;go_wp2_with(first|go_at_call 14;refine KD hI (bP _ _ X.f hvl _ hmb) ?_;intro w1 hI|refine YL ?_);refine ZP ?_))
 go_upto_region 5 with(fail)
 refine ZT [9,10,11] 12 hI ?_;intro wd hI
 (repeat(first| (refine ZC ?_;(with_reducible refine Lg RF RF hmx.out ?_);(refine h_ ?_);(simp only[QN])) | (refine ZA ?_;go_wp2_with(refine YS ?_;intro w hI);refine ji ?_) | (refine ZC ?_;go_wp2_with(refine YL ?_);refine h_ ?_)));refine fC ?_
 go_wp2_with(first|refine YL ?_|go_at_call 156;refine KJ hI (abg _ X _ _ hX (hI.at_ aM) k hk5 z b c e hz he hzb hzc hb2 hcl _ hvw RF) ?_;intro Y2 S2 w1 hS2 hI);rw[hS2.out];exact LZ
theorem Ql(k:Nat)(hk5:k<5)(z b c:List Int)(e:Int)(hz:z.length=192)(h0:gi z 0=5)(he:gi z 177=e)(hzb:sub z 178 2=b)(hzc:sub z 182 3=c)(hb2:b.length=2)(hcl:c.length=3)(ans:RS)(QX:e<gi S.view 0->X.f≠k∧ans=dM X.f S k (.view S.view))(hvw:Hid (dU S.view))(hI:Inv (ah X Y S).own w0 w0 [ah X Y S]):
  Calls prog 120 #[.pointer (some ⟨X.b,0,none⟩),oV X,.int .i64 (k:Int),ia z] w0 λe' w'=>∃Y',e'=.returned (.tuple #[])∧Inv (ah X Y S).own w0 w' [ah X Y' (qO X.f S e b ans (λT=>sZ X.f T k e b c))]:=by
 unfold qO;by_cases h1:e<gi S.view 0
 ·exact W98
 ·rw[if_neg h1]
  by_cases h2:gi S.view 0<e∨aI S.view (X.f:Int)=false
  ·exact W74
  ·rw[if_neg h2]
   have h3:gi S.view 0=e:=by have:=λh=>h2 (.inl h);omega
   have h4:aI S.view (X.f:Int)=true:=by
    cases hm:aI S.view (X.f:Int)
    ·exact absurd (.inr hm) h2
    ·rfl
   exact OA w0 X Y S hX k hk5 z b c e hz h0 he h3 hzb (tJ hzb OM) hzc hb2 hcl h4 hvw hI
end
end
section
open B (aI bQ nX)
section
variable (w0:World)(X:RX)(Y:RY)(S:RS)(hX:zG X)
include hX
theorem Qm(V:List Int×Bool)(hV:Hid (S.aK=some V))(M:gZ)(hM:M.Len)(hzM:Hid ((if V.2=true then dF ((av (aj 192) [(0,[3]),(177,[gi S.view 0]),(178,sub V.1 7 2)]).set 0 5) 182 (sub V.1 9 3)else av (aj 192) [(0,[3]),(177,[gi S.view 0]),(178,sub V.1 7 2)])=M.mP))
  (G:RS->RS) (hT:∀Y1 B1 w1,Inv (ah X Y1 {S with B:=B1}).own w1 w1 [ah X Y1 {S with B:=B1}]->Calls prog 77 #[.pointer (some ⟨X.b,0,none⟩),oV X,.int .i64 (X.f:Int),ia M.mP] w1 λe w'=>∃Y',e=.returned (.tuple #[])∧Inv (ah X Y1 {S with B:=B1}).own w1 w' [ah X Y' (G {S with B:=B1})])
  (P0:Nat->Bool) (G0:RS->Nat->RS) (hP0:Hid (P0=λi=>decide (i≠X.f)&&aI S.view (i:Int))) (hG0:Hid (G0=λS i=>dM X.f S i M)) (hI:Inv (ah X Y S).own w0 w0 [ah X Y S]):
  Calls prog 86 #[.pointer (some ⟨X.b,0,none⟩),oV X] w0 λe w'=>∃Y',e=.returned (.tuple #[])∧Inv (ah X Y S).own w0 w' [ah X Y' (if aI S.view (X.f:Int)=true then G (lL P0 G0 S 5)else lL P0 G0 S 5)]:=by
 obtain⟨R,hR0⟩:=EQ (if aI S.view (X.f:Int)=true then G (lL P0 G0 S 5)else lL P0 G0 S 5);rw[hR0];have hR:=HD hR0;clear hR0;have hvl:=(aQ hI aA).view;have rP:=hX.f5;have hf0:(X.f:Int) <5:=by omega
 have hbl:(sub V.1 7 2).length=2:=by have:=(aQ hI aA).aK V hV.out;rw[ay];omega
 have hcl:(sub V.1 9 3).length=3:=by have:=(aQ hI aA).aK V hV.out;rw[ay];omega
 have zF:=gZ.len hM;obtain⟨mb,oP⟩:=EQ (aI S.view (X.f:Int));have hmb:=HD oP;clear oP;obtain⟨zA,abh⟩:=EQ (av (aj 192) [(0,[3]),(177,[gi S.view 0]),(178,sub V.1 7 2)]);have hzA:=HD abh;have hzl:zA.length=192:=by
  rw[<-abh,Kk 3 hbl];exact fo (aa 174) hbl (aa 2) (aa 3) (aa 7)
 rw[abh]at hzM;clear abh;cases hV2:V.2
 ·have hz9:Hid (zA=M.mP):=HD (by have:=hzM.out;rw[hV2]at this;simpa using this)
  clear hzM;go_enter func86,ntmps86;go_upto_region 0 with(fail)
  (refine aD [12] [] [12] [] [0,1,2,3,4,5,6,7,8,9,10] 11 [12] eO KF RF hI ?_;clear hI)
  (repeat((with_reducible refine' bC RF RF RF ?_ ?_ ?_);rotate_left;(focus(intro ex w (hI:Inv _ _ w _);go_wp2_with(first|refine YL ?_|go_at_call 128;refine KE (WY hI aM (by with_unfolding_all exact hV)) ?_;intro w1 hI);(try simp only[QN]);exact bB rfl hI));(focus(exact⟨_,rfl⟩))));refine bH ?_;intro bx w hI;(simp only[QN]);(repeat(refine ZQ ?_;go_wp2_with(refine YS ?_;intro w hI);refine ZP ?_))
  rw[hzA.out]at hI
  (obtain⟨bm,hbx⟩:=EZ bx;subst hbx)
  go_upto_region 3 with(first|refine YL ?_|go_at_call 129;refine KE (WX hI aM (by with_unfolding_all exact hV)) ?_;intro w1 hI;(rw[hV2]))
  exact W3
 ·have hz9:Hid (dF (zA.set 0 5) 182 (sub V.1 9 3)=M.mP):=HD (by have:=hzM.out;rw[hV2]at this;simpa using this)
  clear hzM;go_enter func86,ntmps86;go_upto_region 0 with(fail)
  (refine aD [12] [] [12] [] [0,1,2,3,4,5,6,7,8,9,10] 11 [12] eO KF RF hI ?_;clear hI)
  (repeat((with_reducible refine' bC RF RF RF ?_ ?_ ?_);rotate_left;(focus(intro ex w (hI:Inv _ _ w _);go_wp2_with(first|refine YL ?_|go_at_call 128;refine KE (WY hI aM (by with_unfolding_all exact hV)) ?_;intro w1 hI);(try simp only[QN]);exact bB rfl hI));(focus(exact⟨_,rfl⟩))));refine bH ?_;intro bx w hI;(simp only[QN]);(repeat(refine ZQ ?_;go_wp2_with(refine YS ?_;intro w hI);refine ZP ?_))
  rw[hzA.out]at hI
  (obtain⟨bm,hbx⟩:=EZ bx;subst hbx)
  go_upto_region 3 with(first|refine YS ?_;intro w hI|refine YL ?_|go_at_call 129;refine KE (WX hI aM (by with_unfolding_all exact hV)) ?_;intro w1 hI;(rw[hV2])|go_at_call 83;refine KE (yj hI aM (by with_unfolding_all exact hV)) ?_;intro w1 hI)
  exact W3
end
end
