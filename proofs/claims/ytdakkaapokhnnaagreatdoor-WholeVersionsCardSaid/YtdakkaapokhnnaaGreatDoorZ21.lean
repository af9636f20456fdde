/- Contracts of functions. No condition. -/
import Derived.Test.YtdakkaapokhnnaaGreatDoorZ18
namespace Go.Proofs.YtdakkaapokhnnaaGreatDoor
open Go.RowKit Go.Proofs.Tryz
set_option maxRecDepth 100000
set_option maxHeartbeats 6400000
set_option linter.all false
section
open B (aI bK)
section
variable (w0:World)(X:RX)(Y:RY)(S:RS)(hX:Bd X)
include hX
theorem UG(k:Nat)(z)(hz:z.length=192)(e)(he:gi z 177=e)(h3:(gi z 0==3)=false)(h5:(gi z 0==5)=false)(hlt:e<gi S.view 0)(hI:Inv (aj X Y S).own w0 w0 [aj X Y S]):
  Calls prog 120 #[.pointer (some ⟨X.b,0,none⟩),oV X,.int .i64 (k:Int),ia z] w0 λe w'=>∃Y',e=.returned (.tuple #[])∧Inv (aj X Y S).own w0 w' [aj X Y' S]:=by
 have hd:decide (e<gi S.view 0)=true:=by simpa using hlt
 clear hlt;go_enter func120,ntmps120;go_upto_region 1 with(refine YX ?_;intro bx w hI)
 refine ZT [7] 8 hI ?_;intro wd hI
 (repeat(refine ZQ ?_;go_wp2_with(refine YL ?_);refine ZP ?_))
 go_wp2_with(refine YL ?_);exact W40
theorem Jd(k)(hk5:k<5)(XK:X.f≠k)(z)(hz:z.length=192)(e)(he:gi z 177=e)(h35:gi z 0=3∨gi z 0=5)(hlt:e<gi S.view 0)(hI:Inv (aj X Y S).own w0 w0 [aj X Y S]):
  Calls prog 120 #[.pointer (some ⟨X.b,0,none⟩),oV X,.int .i64 (k:Int),ia z] w0 λe w'=>∃Y',e=.returned (.tuple #[])∧Inv (aj X Y S).own w0 w' [aj X Y' (dS X.f S k (.view S.view))]:=by
 have hd:decide (e<gi S.view 0)=true:=by simpa using hlt
 have hvl:=(aS hI aC).view;have hMv:(gQ.view S.view).Len:=hvl;clear hlt;rcases h35 with h0|h0
 ·exact W41
 ·exact W41
theorem xY(k:Nat)(z)(hz:z.length=192)(e)(he:gi z 177=e)(hge:¬e<gi S.view 0)(hs:gi S.view 0<e∨aI S.view (X.f:Int)=false)(hI:Inv (aj X Y S).own w0 w0 [aj X Y S]):
  Calls prog 120 #[.pointer (some ⟨X.b,0,none⟩),oV X,.int .i64 (k:Int),ia z] w0 λe w'=>∃Y',e=.returned (.tuple #[])∧Inv (aj X Y S).own w0 w' [aj X Y' S]:=by
 have hd:decide (e<gi S.view 0)=false:=by simpa using hge
 have hvl:=(aS hI aC).view;clear hge;cases hd2:decide (gi S.view 0<e)
 ·obtain⟨mb,qy⟩:=EQ (aI S.view (X.f:Int))
  obtain rfl:mb=false:=by
   rcases hs with hs|hs
   ·simp at hd2;omega
   ·rw[<-qy,hs]
  have hmb:=HD qy;clear hs qy;go_enter func120,ntmps120;go_upto_region 1 with(refine YX ?_;intro bx w hI)
  refine ZT [7] 8 hI ?_;intro wd hI
  (repeat(refine ZQ ?_;go_wp2_with(refine YL ?_);refine ZP ?_))
  go_upto_region 4 with(fail)
  refine ZT [7,8,17,18,19] 20 hI ?_;intro wd hI
  (repeat(refine ZQ ?_;go_wp2_with(first|go_at_call 14;refine KD hI (b_ _ _ X.f hvl _ hmb) ?_;intro w1 hI|refine YL ?_);refine ZP ?_))
  go_wp2_with(fail);exact W40
 ·clear hs
  go_enter func120,ntmps120;go_upto_region 1 with(refine YX ?_;intro bx w hI)
  refine ZT [7] 8 hI ?_;intro wd hI
  (repeat(refine ZQ ?_;go_wp2_with(refine YL ?_);refine ZP ?_))
  go_upto_region 4 with(fail)
  (refine ZR [7,8,17,18,19] [] [] [0,1,2,3,4,5,6,7,8,9,10,11,12,13,14,15,16,17,18,19] (λw=>Inv (aj X Y S).own w0 w [ib bx 158 z,aj X Y S]) hI ?_;intro wd hI)
  (repeat(first|refine ZS ?_|refine ZQ ?_;go_wp2_with(refine YL ?_);refine ZP ?_))
  go_wp2_with(fail);exact W40
theorem QZ(k:Nat)(z b)(hz:z.length=192)(h0:gi z 0=6)(he:gi z 177=gi S.view 0)(hzb:sub z 178 2=b)(Q0:gi z 178=gi b 0)(hb2:b.length=2)(hm:aI S.view (X.f:Int)=true)(hvw:Hid (eG S.view))(hI:Inv (aj X Y S).own w0 w0 [aj X Y S]):
  Calls prog 120 #[.pointer (some ⟨X.b,0,none⟩),oV X,.int .i64 (k:Int),ia z] w0 λe w'=>∃Y',e=.returned (.tuple #[])∧Inv (aj X Y S).own w0 w' [aj X Y' (oN X.f {S with round:=max S.round (gi b 0)} k b)]:=by
 have hvl:=(aS hI aC).view;obtain⟨mb,qy⟩:=EQ (aI S.view (X.f:Int));obtain rfl:mb=true:=by rw[<-qy,hm]
 have hmb:=HD qy;obtain⟨rn,rY⟩:=EQ (max S.round (gi b 0));have hmx:Hid (max S.round (gi z 178)=rn):=HD (by rw[Q0];exact rY);rw[rY];clear qy hm rY;obtain⟨vt,He⟩:=EQ S.aB;rcases vt with _|V
 ·have hF:Hid (oN X.f {S with round:=rn} k b={S with round:=rn}):=HD (by rw[oN];dsimp only;rw[He])
  have hV:=HD He;clear He;go_enter func120,ntmps120;go_upto_region 1 with(refine YX ?_;intro bx w hI)
  refine ZT [7] 8 hI ?_;intro wd hI
  (repeat(refine ZQ ?_;go_wp2_with(refine YL ?_);refine ZP ?_))
  go_upto_region 4 with(fail)
  refine ZT [7,8,17,18,19] 20 hI ?_;intro wd hI
  (repeat(refine ZQ ?_;go_wp2_with(first|go_at_call 14;refine KD hI (b_ _ _ X.f hvl _ hmb) ?_;intro w1 hI|refine YL ?_);refine ZP ?_))
  go_upto_region 5 with(fail)
  refine ZT [9,10,11] 12 hI ?_;intro wd hI
  (repeat(first| (refine ZC ?_;(with_reducible refine Oa RF RF hmx.out ?_);(refine fZ ?_);(simp only[QN])) | (refine ZA ?_;go_wp2_with(refine YS ?_;intro w hI);refine gz ?_) | (refine ZC ?_;go_wp2_with(refine YL ?_);refine fZ ?_)));refine dN ?_
  go_upto_region 15 with(refine YL ?_)
  (refine ZR [0,1,2,3,4,5,13,14] [] [] [0,1,2,3,4,5,6,7,8,9,10,11,12,13,14] (λw=>Inv (aj X Y S).own w0 w [ib bx 158 z,aj X Y {S with round:=rn}]) hI ?_;intro wd hI)
  exact W62
 ·obtain⟨⟨V',ok⟩,ahX⟩:=EQ (iy V k b)
  have Ws:=HD ahX;have hF:Hid (oN X.f {S with round:=rn} k b=if ok=true then l_ X.f {S with round:=rn,aB:=some V'} V' else {S with round:=rn,aB:=some V'}):=HD (by rw[oN];dsimp only;rw[He];dsimp only;rw[ahX]);have hV:=HD He;clear He ahX;cases ok
  ·have hF2:Hid (oN X.f {S with round:=rn} k b={S with round:=rn,aB:=some V'}):=HD (by rw[hF.out,if_neg SI])
   clear hF;go_enter func120,ntmps120;go_upto_region 1 with(refine YX ?_;intro bx w hI)
   refine ZT [7] 8 hI ?_;intro wd hI
   (repeat(refine ZQ ?_;go_wp2_with(refine YL ?_);refine ZP ?_))
   go_upto_region 4 with(fail)
   refine ZT [7,8,17,18,19] 20 hI ?_;intro wd hI
   (repeat(refine ZQ ?_;go_wp2_with(first|go_at_call 14;refine KD hI (b_ _ _ X.f hvl _ hmb) ?_;intro w1 hI|refine YL ?_);refine ZP ?_))
   go_upto_region 5 with(fail)
   refine ZT [9,10,11] 12 hI ?_;intro wd hI
   (repeat(first| (refine ZC ?_;(with_reducible refine Oa RF RF hmx.out ?_);(refine fZ ?_);(simp only[QN])) | (refine ZA ?_;go_wp2_with(refine YS ?_;intro w hI);refine gz ?_) | (refine ZC ?_;go_wp2_with(refine YL ?_);refine fZ ?_)));refine dN ?_
   go_upto_region 15 with(refine YL ?_)
   refine ZT [0,1,2,3,4,5,13,14] 15 hI ?_;intro wd hI
   (repeat(refine ZQ ?_;go_wp2_with(first|refine YL ?_|go_at_call 158;refine KE (ND hI jo (by with_unfolding_all exact hV) k b hb2 _ Ws) ?_;intro w1 hI);refine ZP ?_))
   exact af6
  ·have hF2:Hid (oN X.f {S with round:=rn} k b=l_ X.f {S with round:=rn,aB:=some V'} V'):=HD (by rw[hF.out,if_pos rfl])
   clear hF;go_enter func120,ntmps120;go_upto_region 1 with(refine YX ?_;intro bx w hI)
   refine ZT [7] 8 hI ?_;intro wd hI
   (repeat(refine ZQ ?_;go_wp2_with(refine YL ?_);refine ZP ?_))
   go_upto_region 4 with(fail)
   refine ZT [7,8,17,18,19] 20 hI ?_;intro wd hI
   (repeat(refine ZQ ?_;go_wp2_with(first|go_at_call 14;refine KD hI (b_ _ _ X.f hvl _ hmb) ?_;intro w1 hI|refine YL ?_);refine ZP ?_))
   go_upto_region 5 with(fail)
   refine ZT [9,10,11] 12 hI ?_;intro wd hI
   (repeat(first| (refine ZC ?_;(with_reducible refine Oa RF RF hmx.out ?_);(refine fZ ?_);(simp only[QN])) | (refine ZA ?_;go_wp2_with(refine YS ?_;intro w hI);refine gz ?_) | (refine ZC ?_;go_wp2_with(refine YL ?_);refine fZ ?_)));refine dN ?_
   go_upto_region 15 with(refine YL ?_)
   refine ZT [0,1,2,3,4,5,13,14] 15 hI ?_;intro wd hI
   (repeat(refine ZQ ?_;go_wp2_with(first|refine YL ?_|go_at_call 158;refine KE (ND hI jo (by with_unfolding_all exact hV) k b hb2 _ Ws) ?_;intro w1 hI);refine ZP ?_))
   go_wp2_with(go_at_call 159;refine KJ hI (Wp _ X _ _ hX (hI.at_ aM) V' RF _ hvw RF) ?_;intro Y2 S2 w1 hS2 hI);rw[hF2.out,hS2.out];exact OV
end
end
section
open B (aI bK)
theorem uM{z r o n}(h:sub z o n=r)(hn:0<n):gi z o=gi r 0:=by
 grind[gy]
section
variable (w0:World)(X:RX)(Y:RY)(S:RS)(hX:Bd X)
include hX
theorem TR(k:Nat)(z b e)(hz:z.length=192)(h0:gi z 0=6)(he:gi z 177=e)(hzb:sub z 178 2=b)(hb2:b.length=2)(hvw:Hid (eG S.view))(hI:Inv (aj X Y S).own w0 w0 [aj X Y S]):
  Calls prog 120 #[.pointer (some ⟨X.b,0,none⟩),oV X,.int .i64 (k:Int),ia z] w0 λe' w'=>∃Y',e'=.returned (.tuple #[])∧Inv (aj X Y S).own w0 w' [aj X Y' (sD X.f S e b S (λT=>oN X.f T k b))]:=by
 unfold sD;by_cases h1:e<gi S.view 0
 ·rw[if_pos h1]
  exact ajc
 ·rw[if_neg h1]
  by_cases h2:gi S.view 0<e∨aI S.view (X.f:Int)=false
  ·rw[if_pos h2]
   grind[xY]
  ·rw[if_neg h2]
   have h4:aI S.view (X.f:Int)=true:=by
    grind
   exact QZ w0 X Y S hX k z b hz h0 OM hzb (uM hzb OM) hb2 h4 hvw hI
omit hX in
theorem qz(k:Nat)(z)(hz:z.length=192)(h0:gi z 0=3∨gi z 0=4∨gi z 0=5∨gi z 0=6)(S1)(hT:∀w1,Inv (aj X Y S).own w1 w1 [aj X Y S]->Calls prog 120 #[.pointer (some ⟨X.b,0,none⟩),oV X,.int .i64 (k:Int),ia z] w1 λe w'=>∃Y',e=.returned (.tuple #[])∧Inv (aj X Y S).own w1 w' [aj X Y' S1])(hI:Inv (aj X Y S).own w0 w0 [aj X Y S]):
  Calls prog 77 #[.pointer (some ⟨X.b,0,none⟩),oV X,.int .i64 (k:Int),ia z] w0 λe w'=>∃Y',e=.returned (.tuple #[])∧Inv (aj X Y S).own w0 w' [aj X Y' S1]:=by
 rcases h0 with h0|h0|h0|h0
 ·go_enter func77,ntmps77
  go_wp2_with(first|refine YL ?_|refine YX ?_;intro bx w hI|go_at_call 120;refine KG hI (hT _ (hI.at_ aM)) ?_;intro Y2 w1 hI);exact⟨rfl,_,h_ KF _ _,Y2,rfl,hI.tl⟩
 ·go_enter func77,ntmps77
  go_wp2_with(first|refine YL ?_|refine YX ?_;intro bx w hI|go_at_call 120;refine KG hI (hT _ (hI.at_ aM)) ?_;intro Y2 w1 hI);exact⟨rfl,_,h_ KF _ _,Y2,rfl,hI.tl⟩
 ·go_enter func77,ntmps77
  go_wp2_with(first|refine YL ?_|refine YX ?_;intro bx w hI|go_at_call 120;refine KG hI (hT _ (hI.at_ aM)) ?_;intro Y2 w1 hI);exact⟨rfl,_,h_ KF _ _,Y2,rfl,hI.tl⟩
 ·go_enter func77,ntmps77
  go_wp2_with(first|refine YL ?_|refine YX ?_;intro bx w hI|go_at_call 120;refine KG hI (hT _ (hI.at_ aM)) ?_;intro Y2 w1 hI);exact⟨rfl,_,h_ KF _ _,Y2,rfl,hI.tl⟩
theorem AV(hI:Inv (aj X Y S).own w0 w0 [aj X Y S])(d:Nat)(hd:d<5)(e b z)(hz:z=aF 6 0 (au 174) 0 e b (au 2) (au 3) (au 7))(hb2:b.length=2)(V)(hvw:Hid (eG V))(hV:S.view=V):
  Calls prog 122 #[.pointer (some ⟨X.b,0,none⟩),oV X,.int .i64 (d:Int),ia z] w0 λe' w'=>∃Y' S',e'=.returned (.tuple #[])∧Hid (iE X.f S d e b=S')∧Inv (aj X Y S).own w0 w' [aj X Y' S']:=by
 subst hV;have n1:=ag 174;refine(AU w0 X Y S hX (.taken e b) hb2 z hz d hd (sD X.f S e b S (λT=>oN X.f T X.f b)) (λh w1 hI1=>?_) hI).mono ?_
 ·exact qz w1 X Y S X.f _ (gQ.len (M:=.taken e b) hb2) (.inr (.inr (.inr aD))) _ (λw2 hI2=>TR w2 X Y S hX X.f _ b e (gQ.len (M:=.taken e b) hb2) aD (jw n1) (bO n1 hb2) hb2 hvw hI2) hI1
 ·rintro e' w' ⟨Y',rfl,hJ⟩
  exact⟨Y',_,rfl,HD rfl,hJ⟩
theorem ahY(k:Nat)(hk5:k<5)(z b c e)(hz:z.length=192)(he:gi z 177=e)(hzb:sub z 178 2=b)(hzc:sub z 182 3=c)(hb2:b.length=2)(hcl:c.length=3)(hvw:Hid (eG S.view))(hI:Inv (aj X Y S).own w0 w0 [aj X Y S]):
  Calls prog 156 #[.pointer (some ⟨X.b,0,none⟩),oV X,.int .i64 (k:Int),ia z] w0 λe' w'=>∃Y',e'=.returned (.tuple #[])∧Inv (aj X Y S).own w0 w' [aj X Y' (uI X.f S k e b c)]:=by
 have hvl:=(aS hI aC).view;have hal:=(aS hI aC).acc;obtain⟨⟨nv,ne⟩,qx⟩:=EQ (bK S.view c);have hnl:nv.length=7:=by have:=Ay S.view c hvl;rw[qx]at this;exact this
 have hnx:=HD qx;obtain⟨⟨a',ok⟩,aed⟩:=EQ (Fw S.acc e b c);have KX:a'.length=8:=by have:=aao (e:=e) hal hb2 hcl;rw[aed]at this;exact this
 have hpa:=HD aed;obtain⟨x0,ma⟩:=EZ (Rec.take e b c);have hx0:x0.Len:=by rw[ma];exact⟨hb2,hcl⟩
 have OW:Hid (ay (au 189) [(0,[4]),(176,[e]),(177,b),(179,c)]=x0.nX):=HD (by rw[ma];exact ahf hb2 hcl);obtain⟨D',c',u',e',hP⟩:=uL S x0;have hF:Hid (uI X.f S k e b c=if ne=0 then(if ok=true then(if a'=S.acc then iE X.f S k e b else if e'=0 then iE X.f {S with D:=D',cnt:=c',used:=u',acc:=a'} k e b else {S with D:=D',cnt:=c',used:=u'})else S)else S):=HD (by
  rw[uI,qx];dsimp only;rw[aed];dsimp only;rw[<-ma,hP.out])
 clear qx aed ma;by_cases hne:ne=0
 ·have hF2:Hid (uI X.f S k e b c=if ok=true then(if a'=S.acc then iE X.f S k e b else if e'=0 then iE X.f {S with D:=D',cnt:=c',used:=u',acc:=a'} k e b else {S with D:=D',cnt:=c',used:=u'})else S):=HD (by rw[hF.out,if_pos hne])
  subst hne;clear hF;cases ok
  ·have tY:Hid (uI X.f S k e b c=S):=HD (by rw[hF2.out,if_neg SI])
   clear hF2;go_enter func156,ntmps156;go_upto_region 1 with(refine YX ?_;intro bx w hI)
   (refine aG [11,12] [9] [11,12] [9] [0,1,2,3,4,5,6,7,8,9] 10 [11,12] fE KF RF hI ?_;clear hI)
   (repeat(first| ((with_reducible refine' bN RF RF RF ?_ ?_ ?_);rotate_left;(focus(intro ex w (hI:Inv _ _ w _);go_wp2_with(first|refine YL ?_|go_at_call 84;refine KD hI (jg _ _ _ hvl hcl hvw _ _ hnx) ?_;intro w1 hI);(try simp only[QN,he,hzb,hzc]);exact bM rfl hI));(focus(exact⟨_,rfl⟩))) | refine ZL ?_));refine bQ ?_;intro bx w hI;(simp only[QN]);(repeat(refine ZQ ?_;go_wp2_with(refine YS ?_;intro w hI);refine ZP ?_))
   go_upto_region 3 with(fail)
   (refine aG [15,16] [13] [15,16] [13] [0,1,2,3,4,5,6,7,8,9,10,11,12,13] 14 [15,16] fE KF RF hI ?_;clear hI)
   (repeat(first| ((with_reducible refine' bN RF RF RF ?_ ?_ ?_);rotate_left;(focus(intro ex w (hI:Inv _ _ w _);go_wp2_with(first|refine YL ?_|go_at_call 179;refine KD hI (Az _ _ _ _ _ hal hb2 hcl _ _ hpa) ?_;intro w1 hI);(try simp only[QN,he,hzb,hzc]);exact bM rfl hI));(focus(exact⟨_,rfl⟩))) | refine ZL ?_));refine bQ ?_;intro bx w hI;(simp only[QN]);(repeat(refine ZQ ?_;go_wp2_with(refine YS ?_;intro w hI);refine ZP ?_))
   go_wp2_with(fail);rw[tY.out];exact⟨rfl,_,h_ KF _ _,Y,rfl,hI.sub (.cons _ (.cons _ (.cons _ (.refl _))))⟩
  ·have tY:Hid (uI X.f S k e b c=if a'=S.acc then iE X.f S k e b else if e'=0 then iE X.f {S with D:=D',cnt:=c',used:=u',acc:=a'} k e b else {S with D:=D',cnt:=c',used:=u'}):=HD (by rw[hF2.out,if_pos rfl])
   clear hF2;cases hq0:decide (a'=S.acc)
   ·have hqa:=HD hq0
    have WV:Hid (uI X.f S k e b c=if e'=0 then iE X.f {S with D:=D',cnt:=c',used:=u',acc:=a'} k e b else {S with D:=D',cnt:=c',used:=u'}):=HD (by rw[tY.out,if_neg (by simpa using hq0)]);clear tY hq0;by_cases Dp:e'=0
    ·subst Dp
     have hF5:Hid (uI X.f S k e b c=iE X.f {S with D:=D',cnt:=c',used:=u',acc:=a'} k e b):=HD (by rw[WV.out,if_pos rfl]);clear WV;go_enter func156,ntmps156;go_upto_region 1 with(refine YX ?_;intro bx w hI)
     (refine aG [11,12] [9] [11,12] [9] [0,1,2,3,4,5,6,7,8,9] 10 [11,12] fE KF RF hI ?_;clear hI)
     (repeat(first| ((with_reducible refine' bN RF RF RF ?_ ?_ ?_);rotate_left;(focus(intro ex w (hI:Inv _ _ w _);go_wp2_with(first|refine YL ?_|go_at_call 84;refine KD hI (jg _ _ _ hvl hcl hvw _ _ hnx) ?_;intro w1 hI);(try simp only[QN,he,hzb,hzc]);exact bM rfl hI));(focus(exact⟨_,rfl⟩))) | refine ZL ?_));refine bQ ?_;intro bx w hI;(simp only[QN]);(repeat(refine ZQ ?_;go_wp2_with(refine YS ?_;intro w hI);refine ZP ?_))
     go_upto_region 3 with(fail)
     (refine aG [15,16] [13] [15,16] [13] [0,1,2,3,4,5,6,7,8,9,10,11,12,13] 14 [15,16] fE KF RF hI ?_;clear hI)
     (repeat(first| ((with_reducible refine' bN RF RF RF ?_ ?_ ?_);rotate_left;(focus(intro ex w (hI:Inv _ _ w _);go_wp2_with(first|refine YL ?_|go_at_call 179;refine KD hI (Az _ _ _ _ _ hal hb2 hcl _ _ hpa) ?_;intro w1 hI);(try simp only[QN,he,hzb,hzc]);exact bM rfl hI));(focus(exact⟨_,rfl⟩))) | refine ZL ?_));refine bQ ?_;intro bx w hI;(simp only[QN]);(repeat(refine ZQ ?_;go_wp2_with(refine YS ?_;intro w hI);refine ZP ?_))
     go_upto_region 5 with(fail)
     refine ZT [5] 6 hI ?_;intro wd hI
     (repeat(refine ZQ ?_;go_wp2_with(first|with_reducible refine Wq RF RF KX hal hqa.out ?_|refine YL ?_);refine ZP ?_))
     go_wp2_with(first|refine YL ?_|refine YS ?_;intro w hI|go_at_call 108;refine KG hI (ou _ X _ _ x0 hx0 _ OW.out _ _ _ _ hP (hI.at_ nz)) ?_;intro Yp w1 hI|go_at_call 122;refine KJ hI (AV _ X _ _ hX (hI.at_ nz) k hk5 _ b _ (Nc 6 hb2) hb2 _ hvw RF) ?_;intro Y2 S2 w1 hS2 hI);rw[hF5.out,hS2.out];exact ai6
    ·have hF5:Hid (uI X.f S k e b c={S with D:=D',cnt:=c',used:=u'}):=HD (by rw[WV.out,if_neg Dp])
     have hq:(e' != 0)=true:=by simpa using Dp
     clear WV;go_enter func156,ntmps156;go_upto_region 1 with(refine YX ?_;intro bx w hI)
     (refine aG [11,12] [9] [11,12] [9] [0,1,2,3,4,5,6,7,8,9] 10 [11,12] fE KF RF hI ?_;clear hI)
     (repeat(first| ((with_reducible refine' bN RF RF RF ?_ ?_ ?_);rotate_left;(focus(intro ex w (hI:Inv _ _ w _);go_wp2_with(first|refine YL ?_|go_at_call 84;refine KD hI (jg _ _ _ hvl hcl hvw _ _ hnx) ?_;intro w1 hI);(try simp only[QN,he,hzb,hzc]);exact bM rfl hI));(focus(exact⟨_,rfl⟩))) | refine ZL ?_));refine bQ ?_;intro bx w hI;(simp only[QN]);(repeat(refine ZQ ?_;go_wp2_with(refine YS ?_;intro w hI);refine ZP ?_))
     go_upto_region 3 with(fail)
     (refine aG [15,16] [13] [15,16] [13] [0,1,2,3,4,5,6,7,8,9,10,11,12,13] 14 [15,16] fE KF RF hI ?_;clear hI)
     (repeat(first| ((with_reducible refine' bN RF RF RF ?_ ?_ ?_);rotate_left;(focus(intro ex w (hI:Inv _ _ w _);go_wp2_with(first|refine YL ?_|go_at_call 179;refine KD hI (Az _ _ _ _ _ hal hb2 hcl _ _ hpa) ?_;intro w1 hI);(try simp only[QN,he,hzb,hzc]);exact bM rfl hI));(focus(exact⟨_,rfl⟩))) | refine ZL ?_));refine bQ ?_;intro bx w hI;(simp only[QN]);(repeat(refine ZQ ?_;go_wp2_with(refine YS ?_;intro w hI);refine ZP ?_))
     go_upto_region 5 with(fail)
     refine ZT [5] 6 hI ?_;intro wd hI
     (repeat(refine ZQ ?_;go_wp2_with(first|with_reducible refine Wq RF RF KX hal hqa.out ?_|refine YL ?_);refine ZP ?_))
     go_wp2_with(first|refine YL ?_|go_at_call 108;refine KG hI (ou _ X _ _ x0 hx0 _ OW.out _ _ _ _ hP (hI.at_ nz)) ?_;intro Yp w1 hI);rw[hF5.out];exact⟨rfl,_,h_ KF _ _,_,rfl,hI.sub (.cons _ (.cons _ (.cons _ (.refl _))))⟩
   ·have hqa:=HD hq0
    have WV:Hid (uI X.f S k e b c=iE X.f S k e b):=HD (by rw[tY.out,if_pos (by simpa using hq0)]);clear tY hq0;go_enter func156,ntmps156;go_upto_region 1 with(refine YX ?_;intro bx w hI)
    (refine aG [11,12] [9] [11,12] [9] [0,1,2,3,4,5,6,7,8,9] 10 [11,12] fE KF RF hI ?_;clear hI)
    (repeat(first| ((with_reducible refine' bN RF RF RF ?_ ?_ ?_);rotate_left;(focus(intro ex w (hI:Inv _ _ w _);go_wp2_with(first|refine YL ?_|go_at_call 84;refine KD hI (jg _ _ _ hvl hcl hvw _ _ hnx) ?_;intro w1 hI);(try simp only[QN,he,hzb,hzc]);exact bM rfl hI));(focus(exact⟨_,rfl⟩))) | refine ZL ?_));refine bQ ?_;intro bx w hI;(simp only[QN]);(repeat(refine ZQ ?_;go_wp2_with(refine YS ?_;intro w hI);refine ZP ?_))
    go_upto_region 3 with(fail)
    (refine aG [15,16] [13] [15,16] [13] [0,1,2,3,4,5,6,7,8,9,10,11,12,13] 14 [15,16] fE KF RF hI ?_;clear hI)
    (repeat(first| ((with_reducible refine' bN RF RF RF ?_ ?_ ?_);rotate_left;(focus(intro ex w (hI:Inv _ _ w _);go_wp2_with(first|refine YL ?_|go_at_call 179;refine KD hI (Az _ _ _ _ _ hal hb2 hcl _ _ hpa) ?_;intro w1 hI);(try simp only[QN,he,hzb,hzc]);exact bM rfl hI));(focus(exact⟨_,rfl⟩))) | refine ZL ?_));refine bQ ?_;intro bx w hI;(simp only[QN]);(repeat(refine ZQ ?_;go_wp2_with(refine YS ?_;intro w hI);refine ZP ?_))
    go_upto_region 5 with(fail)
    refine ZT [5] 6 hI ?_;intro wd hI
    (repeat(refine ZQ ?_;go_wp2_with(first|with_reducible refine Wq RF RF KX hal hqa.out ?_|refine YL ?_);refine ZP ?_))
    go_wp2_with(first|refine YL ?_|go_at_call 122;refine KJ hI (AV _ X _ _ hX (hI.at_ nz) k hk5 _ b _ (Nc 6 hb2) hb2 _ hvw RF) ?_;intro Y2 S2 w1 hS2 hI);rw[WV.out,hS2.out];exact ai6
 ·have hF2:Hid (uI X.f S k e b c=S):=HD (by rw[hF.out,if_neg hne])
  have hq:(ne != 0)=true:=by simpa using hne
  clear hF;go_enter func156,ntmps156;go_upto_region 1 with(refine YX ?_;intro bx w hI)
  (refine aG [11,12] [9] [11,12] [9] [0,1,2,3,4,5,6,7,8,9] 10 [11,12] fE KF RF hI ?_;clear hI)
  (repeat(first| ((with_reducible refine' bN RF RF RF ?_ ?_ ?_);rotate_left;(focus(intro ex w (hI:Inv _ _ w _);go_wp2_with(first|refine YL ?_|go_at_call 84;refine KD hI (jg _ _ _ hvl hcl hvw _ _ hnx) ?_;intro w1 hI);(try simp only[QN,he,hzb,hzc]);exact bM rfl hI));(focus(exact⟨_,rfl⟩))) | refine ZL ?_));exact W63
end
end
