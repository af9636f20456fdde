/- Contracts of functions. No condition. -/
import Derived.Test.YtdakkaapokhnnaaGreatDoorZ21
namespace Go.Proofs.YtdakkaapokhnnaaGreatDoor
open Go.RowKit Go.Proofs.Tryz
set_option maxRecDepth 100000
set_option maxHeartbeats 6400000
set_option linter.all false
section
open B (aI bQ)
theorem OB{V V':List Int×Bool}{who:Nat}{b h c:List Int}(hv:ig V who b h c=(V',true)):V'.2=true:=by
 unfold ig at hv
 split at hv
 ·simp only[Prod.mk.injEq]at hv
  obtain⟨h1,h2⟩:=hv;rw[<-h1];exact h2
 ·cases hv
theorem MN(f:Nat)(v:List Int)(g:RS->Nat->RS)(S:RS):lL (λi=>decide (i≠f)&&aI v (i:Int)) g S 5=(Kg f v).foldl g S:=rfl
section
variable (w0:World)(X:RX)(Y:RY)(S:RS)(hX:zG X)
include hX
theorem Ti(V:List Int×Bool)(hV:Hid (S.aK=some V))(hp:V.2=true)(hvw:Hid (dU S.view))(hI:Inv (ah X Y S).own w0 w0 [ah X Y S]):
  Calls prog 86 #[.pointer (some ⟨X.b,0,none⟩),oV X] w0 λe w'=>∃Y',e=.returned (.tuple #[])∧Inv (ah X Y S).own w0 w' [ah X Y' (ui X.f S V)]:=by
 have hl:=(aQ hI aA).aK V hV.out;have hbl:(sub V.1 7 2).length=2:=by rw[ay];omega
 have hcl:(sub V.1 9 3).length=3:=by rw[ay];omega
 have n1:=aa 174;have n2:=aa 2;have n3:=aa 3;have hM:(gZ.put (gi S.view 0) (sub V.1 7 2) (sub V.1 9 3)).Len:=⟨hbl,hcl⟩;refine(Qm w0 X Y S hX V hV (.put (gi S.view 0) (sub V.1 7 2) (sub V.1 9 3)) hM (HD ?_)
  (λT=>qO X.f T (gi S.view 0) (sub V.1 7 2) T (λT=>sZ X.f T X.f (gi S.view 0) (sub V.1 7 2) (sub V.1 9 3))) (λY1 B1 w1 hI1=>?_) _ _ (HD rfl) (HD rfl) hI).mono ?_
 ·rw[if_pos hp,Kk 3 hbl,Mm,eu n1 hbl n2 n3 hcl];rfl
 ·refine oQ w1 X Y1 _ X.f _ (gZ.len hM) (.inr (.inr (.inl aC))) _ (λw2 hI2=>?_) hI1
  exact Ql w2 X Y1 {S with B:=B1} hX X.f hX.f5 _ (sub V.1 7 2) (sub V.1 9 3) (gi S.view 0) (gZ.len hM) aC (iW n1) (bE n1 hbl) (dh n1 hbl n2 hcl) hbl hcl _ (λh=>absurd h (Int.lt_irrefl _)) hvw hI2
 ·exact afL
theorem OC(hI:Inv (ah X Y S).own w0 w0 [ah X Y S])(V:List Int×Bool)(hV:S.aK=some V)(hp:V.2=true)(V0:List Int)(hvw:Hid (dU V0))(hVv:S.view=V0):
  Calls prog 86 #[.pointer (some ⟨X.b,0,none⟩),oV X] w0 λe w'=>∃Y' S',e=.returned (.tuple #[])∧Hid (ui X.f S V=S')∧Inv (ah X Y S).own w0 w' [ah X Y' S']:=by
 subst hVv;refine(Ti w0 X Y S hX V (HD hV) hp hvw hI).mono ?_;exact W46
theorem OD(k:Nat)(hk5:k<5)(z b h c:List Int)(e:Int)(hz:z.length=192)(h0:gi z 0=4)(he:gi z 177=e)(hse:gi S.view 0=e)(hzb:sub z 178 2=b)(Oz:gi z 178=gi b 0)(hzh:sub z 180 2=h)(hzc:sub z 182 3=c)(hb2:b.length=2)(Yw:h.length=2)(hcl:c.length=3)(hm:aI S.view (X.f:Int)=true)(hvw:Hid (dU S.view))(hI:Inv (ah X Y S).own w0 w0 [ah X Y S]):
  Calls prog 120 #[.pointer (some ⟨X.b,0,none⟩),oV X,.int .i64 (k:Int),ia z] w0 λe' w'=>∃Y',e'=.returned (.tuple #[])∧Inv (ah X Y S).own w0 w' [ah X Y' (je X.f {S with round:=max S.round (gi b 0)} k b h c)]:=by
 have hvl:=(aQ hI aA).view;obtain⟨mb,oP⟩:=EQ (aI S.view (X.f:Int));obtain rfl:mb=true:=by rw[<-oP,hm]
 have hmb:=HD oP;obtain⟨rn,qL⟩:=EQ (max S.round (gi b 0));have hmx:Hid (max S.round (gi z 178)=rn):=HD (by rw[Oz];exact qL);rw[qL];clear oP hm qL;obtain⟨vo,E9⟩:=EQ S.aK;rcases vo with _|V
 ·have hF:Hid (je X.f {S with round:=rn} k b h c={S with round:=rn}):=HD (by rw[je];dsimp only;rw[E9])
  have hV:=HD E9;clear E9;go_enter func120,ntmps120;go_upto_region 1 with(refine YX ?_;intro bx w hI)
  refine ZT [7] 8 hI ?_;intro wd hI
  (repeat(refine ZQ ?_;go_wp2_with(refine YL ?_);refine ZP ?_))
  go_upto_region 4 with(fail)
  refine ZT [7,8,17,18,19] 20 hI ?_;intro wd hI
  (repeat(refine ZQ ?_;go_wp2_with(first|go_at_call 14;refine KD hI (bP _ _ X.f hvl _ hmb) ?_;intro w1 hI|refine YL ?_);refine ZP ?_))
  go_upto_region 5 with(fail)
  refine ZT [9,10,11] 12 hI ?_;intro wd hI
  (repeat(first| (refine ZC ?_;(with_reducible refine Lg RF RF hmx.out ?_);(refine h_ ?_);(simp only[QN])) | (refine ZA ?_;go_wp2_with(refine YS ?_;intro w hI);refine ji ?_) | (refine ZC ?_;go_wp2_with(refine YL ?_);refine h_ ?_)));refine fC ?_
  go_upto_region 12 with(refine YL ?_)
  (refine ZR [0,1,2,3,4,5,17,18] [] [] [0,1,2,3,4,5,6,7,8,9,10,11,12,13,14,15,16,17,18] (λw=>Inv (ah X Y S).own w0 w [ib bx 158 z,ah X Y {S with round:=rn}]) hI ?_;intro wd hI)
  exact W62
 ·obtain⟨⟨V',ok⟩,XI⟩:=EQ (ig V k b h c)
  have hvv:=HD XI;have hF:Hid (je X.f {S with round:=rn} k b h c=if ok=true then ui X.f {S with round:=rn,aK:=some V'} V' else {S with round:=rn,aK:=some V'}):=HD (by rw[je];dsimp only;rw[E9];dsimp only;rw[XI]);have hV:=HD E9;clear E9;cases ok
  ·have hF2:Hid (je X.f {S with round:=rn} k b h c={S with round:=rn,aK:=some V'}):=HD (by rw[hF.out,if_neg SI])
   clear hF XI;go_enter func120,ntmps120;go_upto_region 1 with(refine YX ?_;intro bx w hI)
   refine ZT [7] 8 hI ?_;intro wd hI
   (repeat(refine ZQ ?_;go_wp2_with(refine YL ?_);refine ZP ?_))
   go_upto_region 4 with(fail)
   refine ZT [7,8,17,18,19] 20 hI ?_;intro wd hI
   (repeat(refine ZQ ?_;go_wp2_with(first|go_at_call 14;refine KD hI (bP _ _ X.f hvl _ hmb) ?_;intro w1 hI|refine YL ?_);refine ZP ?_))
   go_upto_region 5 with(fail)
   refine ZT [9,10,11] 12 hI ?_;intro wd hI
   (repeat(first| (refine ZC ?_;(with_reducible refine Lg RF RF hmx.out ?_);(refine h_ ?_);(simp only[QN])) | (refine ZA ?_;go_wp2_with(refine YS ?_;intro w hI);refine ji ?_) | (refine ZC ?_;go_wp2_with(refine YL ?_);refine h_ ?_)));refine fC ?_
   go_upto_region 12 with(refine YL ?_)
   refine ZT [0,1,2,3,4,5,17,18] 19 hI ?_;intro wd hI
   (repeat(refine ZQ ?_;go_wp2_with(first|refine YL ?_|go_at_call 157;refine KE (K_ hI iR (by with_unfolding_all exact hV) k b h c hb2 Yw hcl _ hvv) ?_;intro w1 hI);refine ZP ?_))
   exact acS
  ·have hF2:Hid (je X.f {S with round:=rn} k b h c=ui X.f {S with round:=rn,aK:=some V'} V'):=HD (by rw[hF.out,if_pos rfl])
   have hp2:=OB XI;clear hF XI;go_enter func120,ntmps120;go_upto_region 1 with(refine YX ?_;intro bx w hI)
   refine ZT [7] 8 hI ?_;intro wd hI
   (repeat(refine ZQ ?_;go_wp2_with(refine YL ?_);refine ZP ?_))
   go_upto_region 4 with(fail)
   refine ZT [7,8,17,18,19] 20 hI ?_;intro wd hI
   (repeat(refine ZQ ?_;go_wp2_with(first|go_at_call 14;refine KD hI (bP _ _ X.f hvl _ hmb) ?_;intro w1 hI|refine YL ?_);refine ZP ?_))
   go_upto_region 5 with(fail)
   refine ZT [9,10,11] 12 hI ?_;intro wd hI
   (repeat(first| (refine ZC ?_;(with_reducible refine Lg RF RF hmx.out ?_);(refine h_ ?_);(simp only[QN])) | (refine ZA ?_;go_wp2_with(refine YS ?_;intro w hI);refine ji ?_) | (refine ZC ?_;go_wp2_with(refine YL ?_);refine h_ ?_)));refine fC ?_
   go_upto_region 12 with(refine YL ?_)
   refine ZT [0,1,2,3,4,5,17,18] 19 hI ?_;intro wd hI
   (repeat(refine ZQ ?_;go_wp2_with(first|refine YL ?_|go_at_call 157;refine KE (K_ hI iR (by with_unfolding_all exact hV) k b h c hb2 Yw hcl _ hvv) ?_;intro w1 hI);refine ZP ?_))
   go_wp2_with(go_at_call 86;refine KJ hI (OC _ X _ _ hX (hI.at_ aM) V' RF hp2 _ hvw RF) ?_;intro Y2 S2 w1 hS2 hI);rw[hF2.out,hS2.out];exact LZ
theorem Qn(k:Nat)(hk5:k<5)(z b h c:List Int)(e:Int)(hz:z.length=192)(h0:gi z 0=4)(he:gi z 177=e)(hzb:sub z 178 2=b)(hzh:sub z 180 2=h)(hzc:sub z 182 3=c)(hb2:b.length=2)(Yw:h.length=2)(hcl:c.length=3)(ans:RS)(QX:e<gi S.view 0->ans=S)(hvw:Hid (dU S.view))(hI:Inv (ah X Y S).own w0 w0 [ah X Y S]):
  Calls prog 120 #[.pointer (some ⟨X.b,0,none⟩),oV X,.int .i64 (k:Int),ia z] w0 λe' w'=>∃Y',e'=.returned (.tuple #[])∧Inv (ah X Y S).own w0 w' [ah X Y' (qO X.f S e b ans (λT=>je X.f T k b h c))]:=by
 unfold qO;by_cases h1:e<gi S.view 0
 ·rw[if_pos h1]
  rw[QX h1];exact afM
 ·rw[if_neg h1]
  by_cases h2:gi S.view 0<e∨aI S.view (X.f:Int)=false
  ·exact W74
  ·rw[if_neg h2]
   have h3:gi S.view 0=e:=by have:=λh=>h2 (.inl h);omega
   have h4:aI S.view (X.f:Int)=true:=by
    cases hm:aI S.view (X.f:Int)
    ·exact absurd (.inr hm) h2
    ·rfl
   exact OD w0 X Y S hX k hk5 z b h c e hz h0 he h3 hzb (tJ hzb OM) hzh hzc hb2 Yw hcl h4 hvw hI
end
end
section
open B (aI bQ)
section
variable (w0:World)(X:RX)(Y:RY)(S:RS)(hX:zG X)
include hX
theorem vQ(hI:Inv (ah X Y S).own w0 w0 [ah X Y S])(d:Nat)(hd:d<5)(e:Int)(b h c z:List Int)(hz:z=(gZ.promise e b h c).mP)(hb2:b.length=2)(Yw:h.length=2)(hcl:c.length=3)(V:List Int)(hvw:Hid (dU V))(hV:S.view=V):
  Calls prog 122 #[.pointer (some ⟨X.b,0,none⟩),oV X,.int .i64 (d:Int),ia z] w0 λe' w'=>∃Y' S',e'=.returned (.tuple #[])∧Hid (fZ X.f S d e b h c=S')∧Inv (ah X Y S).own w0 w' [ah X Y' S']:=by
 subst hV;have n1:=aa 174;have n2:=aa 2;have hM:(gZ.promise e b h c).Len:=⟨hb2,Yw,hcl⟩;refine(zx w0 X Y S hX (.promise e b h c) hM z hz d hd (qO X.f S e b S (λT=>je X.f T X.f b h c)) (λ_ w1 hI1=>?_) hI).mono ?_
 ·exact oQ w1 X Y S X.f _ (gZ.len hM) (.inr (.inl aC)) _ (λw2 hI2=>Qn w2 X Y S hX X.f hX.f5 _ b h c e (gZ.len hM) aC (iW n1) (bE n1 hb2) (dP n1 hb2 Yw) (dh n1 hb2 Yw hcl) hb2 Yw hcl S (λ_=>rfl) hvw hI2) hI1
 ·rintro e' w' ⟨Y',rfl,hJ⟩
  exact⟨Y',_,rfl,HD rfl,hJ⟩
theorem aeZ(k:Nat)(hk5:k<5)(z b:List Int)(e:Int)(hz:z.length=192)(he:gi z 177=e)(hzb:sub z 178 2=b)(hb2:b.length=2)(hvw:Hid (dU S.view))(hI:Inv (ah X Y S).own w0 w0 [ah X Y S]):
  Calls prog 155 #[.pointer (some ⟨X.b,0,none⟩),oV X,.int .i64 (k:Int),ia z] w0 λe' w'=>∃Y',e'=.returned (.tuple #[])∧Inv (ah X Y S).own w0 w' [ah X Y' (uQ X.f S k e b)]:=by
 have hal:=(aQ hI aA).acc;obtain⟨⟨a',ok⟩,II⟩:=EQ (rW S.acc e b);have XF:a'.length=8:=by have:=K8 (e:=e) hal hb2;rw[II]at this;exact this
 have hl1:(sub a' 1 2).length=2:=by rw[ay];omega
 have hl2:(sub S.acc 1 2).length=2:=by rw[ay];omega
 have hl3:(sub a' 3 2).length=2:=by rw[ay];omega
 have hl4:(sub a' 5 3).length=3:=by rw[ay];omega
 have hak:=HD II;obtain⟨x0,kZ⟩:=EZ (Rec.tL e b);have hx0:x0.Len:=by rw[kZ];exact hb2
 have L6:Hid (av (aj 189) [(0,[3]),(176,[e]),(177,b)]=x0.mP):=HD (by rw[kZ];exact acj hb2);obtain⟨D',c',u',e',hP⟩:=tH S x0;have hF:Hid (uQ X.f S k e b=if ok=true then(if sub a' 1 2=sub S.acc 1 2 then fZ X.f S k e b (sub a' 3 2) (sub a' 5 3)else if e'=0 then fZ X.f {S with D:=D',cnt:=c',used:=u',acc:=a'} k e b (sub a' 3 2) (sub a' 5 3)else {S with D:=D',cnt:=c',used:=u'})else S):=HD (by
  rw[uQ,II];dsimp only;rw[<-kZ,hP.out])
 clear II kZ;cases ok
 ·have hF2:Hid (uQ X.f S k e b=S):=HD (by rw[hF.out,if_neg SI])
  clear hF;go_enter func155,ntmps155;go_upto_region 1 with(refine YX ?_;intro bx w hI)
  (refine aD [13,14] [11] [13,14] [11] [0,1,2,3,4,5,6,7,8,9,10,11] 12 [13,14] eO KF RF hI ?_;clear hI)
  (repeat(first| ((with_reducible refine' bC RF RF RF ?_ ?_ ?_);rotate_left;(focus(intro ex w (hI:Inv _ _ w _);go_wp2_with(first|refine YL ?_|go_at_call 126;refine KD hI (uo _ _ _ _ hal hb2 _ _ hak) ?_;intro w1 hI);(try simp only[QN,he,hzb]);exact bB rfl hI));(focus(exact⟨_,rfl⟩))) | refine ZL ?_));exact W63
 ·have hF2:Hid (uQ X.f S k e b=if sub a' 1 2=sub S.acc 1 2 then fZ X.f S k e b (sub a' 3 2) (sub a' 5 3)else if e'=0 then fZ X.f {S with D:=D',cnt:=c',used:=u',acc:=a'} k e b (sub a' 3 2) (sub a' 5 3)else {S with D:=D',cnt:=c',used:=u'}):=HD (by rw[hF.out,if_pos rfl])
  clear hF;cases hq0:decide (sub a' 1 2=sub S.acc 1 2)
  ·have hqa:=HD hq0
   have r_:Hid (uQ X.f S k e b=if e'=0 then fZ X.f {S with D:=D',cnt:=c',used:=u',acc:=a'} k e b (sub a' 3 2) (sub a' 5 3)else {S with D:=D',cnt:=c',used:=u'}):=HD (by rw[hF2.out,if_neg (by simpa using hq0)]);clear hF2 hq0;by_cases BI:e'=0
   ·subst BI
    have Tz:Hid (uQ X.f S k e b=fZ X.f {S with D:=D',cnt:=c',used:=u',acc:=a'} k e b (sub a' 3 2) (sub a' 5 3)):=HD (by rw[r_.out,if_pos rfl]);clear r_;go_enter func155,ntmps155;go_upto_region 1 with(refine YX ?_;intro bx w hI)
    (refine aD [13,14] [11] [13,14] [11] [0,1,2,3,4,5,6,7,8,9,10,11] 12 [13,14] eO KF RF hI ?_;clear hI)
    (repeat(first| ((with_reducible refine' bC RF RF RF ?_ ?_ ?_);rotate_left;(focus(intro ex w (hI:Inv _ _ w _);go_wp2_with(first|refine YL ?_|go_at_call 126;refine KD hI (uo _ _ _ _ hal hb2 _ _ hak) ?_;intro w1 hI);(try simp only[QN,he,hzb]);exact bB rfl hI));(focus(exact⟨_,rfl⟩))) | refine ZL ?_));refine bH ?_;intro bx w hI;(simp only[QN]);(repeat(refine ZQ ?_;go_wp2_with(refine YS ?_;intro w hI);refine ZP ?_))
    go_upto_region 3 with(fail)
    refine ZT [7] 8 hI ?_;intro wd hI
    (repeat(refine ZQ ?_;go_wp2_with(first|with_reducible refine S9 RF RF hl1 hl2 hqa.out ?_|refine YL ?_);refine ZP ?_))
    go_wp2_with(first|refine YL ?_|refine YS ?_;intro w hI|go_at_call 108;refine KG hI (ni _ X _ _ x0 hx0 _ L6.out _ _ _ _ hP (hI.at_ aX)) ?_;intro Yp w1 hI|go_at_call 122;refine KJ hI (vQ _ X _ _ hX (hI.at_ aX) k hk5 _ b _ _ _ (F9 hb2 hl3 hl4) hb2 hl3 hl4 _ hvw RF) ?_;intro Y2 S2 w1 hS2 hI);rw[Tz.out,hS2.out];exact W83
   ·have Tz:Hid (uQ X.f S k e b={S with D:=D',cnt:=c',used:=u'}):=HD (by rw[r_.out,if_neg BI])
    have hq:(e' != 0)=true:=by simpa using BI
    clear r_;go_enter func155,ntmps155;go_upto_region 1 with(refine YX ?_;intro bx w hI)
    (refine aD [13,14] [11] [13,14] [11] [0,1,2,3,4,5,6,7,8,9,10,11] 12 [13,14] eO KF RF hI ?_;clear hI)
    (repeat(first| ((with_reducible refine' bC RF RF RF ?_ ?_ ?_);rotate_left;(focus(intro ex w (hI:Inv _ _ w _);go_wp2_with(first|refine YL ?_|go_at_call 126;refine KD hI (uo _ _ _ _ hal hb2 _ _ hak) ?_;intro w1 hI);(try simp only[QN,he,hzb]);exact bB rfl hI));(focus(exact⟨_,rfl⟩))) | refine ZL ?_));refine bH ?_;intro bx w hI;(simp only[QN]);(repeat(refine ZQ ?_;go_wp2_with(refine YS ?_;intro w hI);refine ZP ?_))
    go_upto_region 3 with(fail)
    refine ZT [7] 8 hI ?_;intro wd hI
    (repeat(refine ZQ ?_;go_wp2_with(first|with_reducible refine S9 RF RF hl1 hl2 hqa.out ?_|refine YL ?_);refine ZP ?_))
    go_wp2_with(first|refine YL ?_|go_at_call 108;refine KG hI (ni _ X _ _ x0 hx0 _ L6.out _ _ _ _ hP (hI.at_ aX)) ?_;intro Yp w1 hI);rw[Tz.out];exact⟨rfl,_,gD KF _ _,_,rfl,hI.sub (.cons _ (.cons _ (.refl _)))⟩
  ·have hqa:=HD hq0
   have r_:Hid (uQ X.f S k e b=fZ X.f S k e b (sub a' 3 2) (sub a' 5 3)):=HD (by rw[hF2.out,if_pos (by simpa using hq0)]);clear hF2 hq0;go_enter func155,ntmps155;go_upto_region 1 with(refine YX ?_;intro bx w hI)
   (refine aD [13,14] [11] [13,14] [11] [0,1,2,3,4,5,6,7,8,9,10,11] 12 [13,14] eO KF RF hI ?_;clear hI)
   (repeat(first| ((with_reducible refine' bC RF RF RF ?_ ?_ ?_);rotate_left;(focus(intro ex w (hI:Inv _ _ w _);go_wp2_with(first|refine YL ?_|go_at_call 126;refine KD hI (uo _ _ _ _ hal hb2 _ _ hak) ?_;intro w1 hI);(try simp only[QN,he,hzb]);exact bB rfl hI));(focus(exact⟨_,rfl⟩))) | refine ZL ?_));refine bH ?_;intro bx w hI;(simp only[QN]);(repeat(refine ZQ ?_;go_wp2_with(refine YS ?_;intro w hI);refine ZP ?_))
   go_upto_region 3 with(fail)
   refine ZT [7] 8 hI ?_;intro wd hI
   (repeat(refine ZQ ?_;go_wp2_with(first|with_reducible refine S9 RF RF hl1 hl2 hqa.out ?_|refine YL ?_);refine ZP ?_))
   go_wp2_with(first|refine YL ?_|go_at_call 122;refine KJ hI (vQ _ X _ _ hX (hI.at_ aX) k hk5 _ b _ _ _ (F9 hb2 hl3 hl4) hb2 hl3 hl4 _ hvw RF) ?_;intro Y2 S2 w1 hS2 hI);rw[r_.out,hS2.out];exact W83
theorem abj(hI:Inv (ah X Y S).own w0 w0 [ah X Y S])(k:Nat)(hk5:k<5)(z b:List Int)(e:Int)(hz:z.length=192)(he:gi z 177=e)(hzb:sub z 178 2=b)(hb2:b.length=2)(V:List Int)(hvw:Hid (dU V))(hV:S.view=V):
  Calls prog 155 #[.pointer (some ⟨X.b,0,none⟩),oV X,.int .i64 (k:Int),ia z] w0 λe' w'=>∃Y' S',e'=.returned (.tuple #[])∧Hid (uQ X.f S k e b=S')∧Inv (ah X Y S).own w0 w' [ah X Y' S']:=by
 subst hV;refine(aeZ w0 X Y S hX k hk5 z b e hz he hzb hb2 hvw hI).mono ?_;rintro e' w' ⟨Y',rfl,hJ⟩;exact⟨Y',_,rfl,HD rfl,hJ⟩
end
end
section
open B (aI bQ)
section
variable (w0:World)(X:RX)(Y:RY)(S:RS)(hX:zG X)
include hX
theorem OE(k:Nat)(hk5:k<5)(z b:List Int)(e:Int)(hz:z.length=192)(h0:gi z 0=3)(he:gi z 177=e)(hse:gi S.view 0=e)(hzb:sub z 178 2=b)(Oz:gi z 178=gi b 0)(hb2:b.length=2)(hm:aI S.view (X.f:Int)=true)(hvw:Hid (dU S.view))(hI:Inv (ah X Y S).own w0 w0 [ah X Y S]):
  Calls prog 120 #[.pointer (some ⟨X.b,0,none⟩),oV X,.int .i64 (k:Int),ia z] w0 λe' w'=>∃Y',e'=.returned (.tuple #[])∧Inv (ah X Y S).own w0 w' [ah X Y' (uQ X.f {S with round:=max S.round (gi b 0)} k e b)]:=by
 have hvl:=(aQ hI aA).view;obtain⟨mb,oP⟩:=EQ (aI S.view (X.f:Int));obtain rfl:mb=true:=by rw[<-oP,hm]
 have hmb:=HD oP;obtain⟨rn,qL⟩:=EQ (max S.round (gi b 0));have hmx:Hid (max S.round (gi z 178)=rn):=HD (by rw[Oz];exact qL);rw[qL];clear oP hm qL;go_enter func120,ntmps120;go_upto_region 1 with(refine YX ?_;intro bx w hI)
 refine ZT [7] 8 hI ?_;intro wd hI
 (repeat(refine ZQ ?_;go_wp2_with(refine YL ?_);refine ZP ?_))
 go_upto_region 4 with(fail)
 refine ZT [7,8,17,18,19] 20 hI ?_;intro wd hI
 (repeat(refine ZQ ?_;go_wp2_with(first|go_at_call 14;refine KD hI (bP _ _ X.f hvl _ hmb) ?_;intro w1 hI|refine YL ?_);refine ZP ?_))
 go_upto_region 5 with(fail)
 refine ZT [9,10,11] 12 hI ?_;intro wd hI
 (repeat(first| (refine ZC ?_;(with_reducible refine Lg RF RF hmx.out ?_);(refine h_ ?_);(simp only[QN])) | (refine ZA ?_;go_wp2_with(refine YS ?_;intro w hI);refine ji ?_) | (refine ZC ?_;go_wp2_with(refine YL ?_);refine h_ ?_)));refine fC ?_
 go_wp2_with(first|refine YL ?_|go_at_call 155;refine KJ hI (abj _ X _ _ hX (hI.at_ aM) k hk5 z b e hz he hzb hb2 _ hvw RF) ?_;intro Y2 S2 w1 hS2 hI);rw[hS2.out];exact LZ
theorem Qo(k:Nat)(hk5:k<5)(z b:List Int)(e:Int)(hz:z.length=192)(h0:gi z 0=3)(he:gi z 177=e)(hzb:sub z 178 2=b)(hb2:b.length=2)(ans:RS)(QX:e<gi S.view 0->X.f≠k∧ans=dM X.f S k (.view S.view))(hvw:Hid (dU S.view))(hI:Inv (ah X Y S).own w0 w0 [ah X Y S]):
  Calls prog 120 #[.pointer (some ⟨X.b,0,none⟩),oV X,.int .i64 (k:Int),ia z] w0 λe' w'=>∃Y',e'=.returned (.tuple #[])∧Inv (ah X Y S).own w0 w' [ah X Y' (qO X.f S e b ans (λT=>uQ X.f T k e b))]:=by
 unfold qO;by_cases h1:e<gi S.view 0
 ·exact W98
 ·rw[if_neg h1]
  by_cases h2:gi S.view 0<e∨aI S.view (X.f:Int)=false
  ·exact W74
  ·rw[if_neg h2]
   have h3:gi S.view 0=e:=by have:=λh=>h2 (.inl h);omega
   have h4:aI S.view (X.f:Int)=true:=by
    cases hm:aI S.view (X.f:Int)
    ·exact absurd (.inr hm) h2
    ·rfl
   exact OE w0 X Y S hX k hk5 z b e hz h0 he h3 hzb (tJ hzb OM) hb2 h4 hvw hI
theorem Tj(V:List Int×Bool)(hV:Hid (S.aK=some V))(hp:V.2=false)(hvw:Hid (dU S.view))(hI:Inv (ah X Y S).own w0 w0 [ah X Y S]):
  Calls prog 86 #[.pointer (some ⟨X.b,0,none⟩),oV X] w0 λe w'=>∃Y',e=.returned (.tuple #[])∧Inv (ah X Y S).own w0 w' [ah X Y' (oq X.f S V)]:=by
 have hl:=(aQ hI aA).aK V hV.out;have hbl:(sub V.1 7 2).length=2:=by rw[ay];omega
 have n1:=aa 174;have hM:(gZ.ask (gi S.view 0) (sub V.1 7 2)).Len:=hbl;refine(Qm w0 X Y S hX V hV (.ask (gi S.view 0) (sub V.1 7 2)) hM (HD ?_)
  (λT=>qO X.f T (gi S.view 0) (sub V.1 7 2) T (λT=>uQ X.f T X.f (gi S.view 0) (sub V.1 7 2))) (λY1 B1 w1 hI1=>?_) _ _ (HD rfl) (HD rfl) hI).mono ?_
 ·rw[if_neg (by rw[hp];simp),Kk 3 hbl];rfl
 ·refine oQ w1 X Y1 _ X.f _ (gZ.len hM) (.inl aC) _ (λw2 hI2=>?_) hI1
  exact Qo w2 X Y1 {S with B:=B1} hX X.f hX.f5 _ (sub V.1 7 2) (gi S.view 0) (gZ.len hM) aC (iW n1) (bE n1 hbl) hbl _ (λh=>absurd h (Int.lt_irrefl _)) hvw hI2
 ·exact afL
theorem Ey(hI:Inv (ah X Y S).own w0 w0 [ah X Y S])(V:List Int×Bool)(hV:S.aK=some V)(hp:V.2=false)(V0:List Int)(hvw:Hid (dU V0))(hVv:S.view=V0):
  Calls prog 86 #[.pointer (some ⟨X.b,0,none⟩),oV X] w0 λe w'=>∃Y' S',e=.returned (.tuple #[])∧Hid (oq X.f S V=S')∧Inv (ah X Y S).own w0 w' [ah X Y' S']:=by
 subst hVv;refine(Tj w0 X Y S hX V (HD hV) hp hvw hI).mono ?_;exact W46
end
end
