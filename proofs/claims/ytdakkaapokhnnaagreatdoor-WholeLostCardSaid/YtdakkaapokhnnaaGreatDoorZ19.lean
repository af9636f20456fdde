/- Contracts of functions. No condition. -/
import Derived.Test.YtdakkaapokhnnaaGreatDoorZ17
namespace Go.Proofs.YtdakkaapokhnnaaGreatDoor
open Go.RowKit Go.Proofs.Tryz
set_option maxRecDepth 100000
set_option maxHeartbeats 6400000
set_option linter.all false
section
open B (aI bQ)
section
variable (w0:World)(X:RX)(Y:RY)(S:RS)(hX:zG X)
include hX
theorem QZ(k:Nat)(z:List Int)(hz:z.length=192)(e:Int)(he:gi z 177=e)(h3:(gi z 0==3)=false)(h5:(gi z 0==5)=false)(hlt:e<gi S.view 0)(hI:Inv (ah X Y S).own w0 w0 [ah X Y S]):
  Calls prog 120 #[.pointer (some ⟨X.b,0,none⟩),oV X,.int .i64 (k:Int),ia z] w0 λe w'=>∃Y',e=.returned (.tuple #[])∧Inv (ah X Y S).own w0 w' [ah X Y' S]:=by
 have hd:decide (e<gi S.view 0)=true:=by simpa using hlt
 clear hlt;go_enter func120,ntmps120;go_upto_region 1 with(refine YX ?_;intro bx w hI)
 refine ZT [7] 8 hI ?_;intro wd hI
 (repeat(refine ZQ ?_;go_wp2_with(refine YL ?_);refine ZP ?_))
 go_wp2_with(refine YL ?_);exact W39
theorem QY(k:Nat)(hk5:k<5)(Um:X.f≠k)(z:List Int)(hz:z.length=192)(e:Int)(he:gi z 177=e)(h35:gi z 0=3∨gi z 0=5)(hlt:e<gi S.view 0)(hI:Inv (ah X Y S).own w0 w0 [ah X Y S]):
  Calls prog 120 #[.pointer (some ⟨X.b,0,none⟩),oV X,.int .i64 (k:Int),ia z] w0 λe w'=>∃Y',e=.returned (.tuple #[])∧Inv (ah X Y S).own w0 w' [ah X Y' (dM X.f S k (.view S.view))]:=by
 have hd:decide (e<gi S.view 0)=true:=by simpa using hlt
 have hvl:=(aQ hI aA).view;have hMv:(gZ.view S.view).Len:=hvl;clear hlt;rcases h35 with h0|h0
 ·exact W40
 ·exact W40
theorem QV(k:Nat)(z:List Int)(hz:z.length=192)(e:Int)(he:gi z 177=e)(hge:¬e<gi S.view 0)(hs:gi S.view 0<e∨aI S.view (X.f:Int)=false)(hI:Inv (ah X Y S).own w0 w0 [ah X Y S]):
  Calls prog 120 #[.pointer (some ⟨X.b,0,none⟩),oV X,.int .i64 (k:Int),ia z] w0 λe w'=>∃Y',e=.returned (.tuple #[])∧Inv (ah X Y S).own w0 w' [ah X Y' S]:=by
 have hd:decide (e<gi S.view 0)=false:=by simpa using hge
 have hvl:=(aQ hI aA).view;clear hge;cases hd2:decide (gi S.view 0<e)
 ·obtain⟨mb,oP⟩:=EQ (aI S.view (X.f:Int))
  obtain rfl:mb=false:=by
   rcases hs with hs|hs
   ·simp at hd2;omega
   ·rw[<-oP,hs]
  have hmb:=HD oP;clear hs oP;go_enter func120,ntmps120;go_upto_region 1 with(refine YX ?_;intro bx w hI)
  refine ZT [7] 8 hI ?_;intro wd hI
  (repeat(refine ZQ ?_;go_wp2_with(refine YL ?_);refine ZP ?_))
  go_upto_region 4 with(fail)
  refine ZT [7,8,17,18,19] 20 hI ?_;intro wd hI
  (repeat(refine ZQ ?_;go_wp2_with(first|go_at_call 14;refine KD hI (bP _ _ X.f hvl _ hmb) ?_;intro w1 hI|refine YL ?_);refine ZP ?_))
  go_wp2_with(fail);exact W39
 ·clear hs
  go_enter func120,ntmps120;go_upto_region 1 with(refine YX ?_;intro bx w hI)
  refine ZT [7] 8 hI ?_;intro wd hI
  (repeat(refine ZQ ?_;go_wp2_with(refine YL ?_);refine ZP ?_))
  go_upto_region 4 with(fail)
  (refine ZR [7,8,17,18,19] [] [] [0,1,2,3,4,5,6,7,8,9,10,11,12,13,14,15,16,17,18,19] (λw=>Inv (ah X Y S).own w0 w [ib bx 158 z,ah X Y S]) hI ?_;intro wd hI)
  (repeat(first|refine ZS ?_|refine ZQ ?_;go_wp2_with(refine YL ?_);refine ZP ?_))
  go_wp2_with(fail);exact W39
theorem Oy(k:Nat)(z b:List Int)(hz:z.length=192)(h0:gi z 0=6)(he:gi z 177=gi S.view 0)(hzb:sub z 178 2=b)(Oz:gi z 178=gi b 0)(hb2:b.length=2)(hm:aI S.view (X.f:Int)=true)(hvw:Hid (dU S.view))(hI:Inv (ah X Y S).own w0 w0 [ah X Y S]):
  Calls prog 120 #[.pointer (some ⟨X.b,0,none⟩),oV X,.int .i64 (k:Int),ia z] w0 λe w'=>∃Y',e=.returned (.tuple #[])∧Inv (ah X Y S).own w0 w' [ah X Y' (nH X.f {S with round:=max S.round (gi b 0)} k b)]:=by
 have hvl:=(aQ hI aA).view;obtain⟨mb,oP⟩:=EQ (aI S.view (X.f:Int));obtain rfl:mb=true:=by rw[<-oP,hm]
 have hmb:=HD oP;obtain⟨rn,qL⟩:=EQ (max S.round (gi b 0));have hmx:Hid (max S.round (gi z 178)=rn):=HD (by rw[Oz];exact qL);rw[qL];clear oP hm qL;obtain⟨vt,E9⟩:=EQ S.aK;rcases vt with _|V
 ·have hF:Hid (nH X.f {S with round:=rn} k b={S with round:=rn}):=HD (by rw[nH];dsimp only;rw[E9])
  have hV:=HD E9;clear E9;go_enter func120,ntmps120;go_upto_region 1 with(refine YX ?_;intro bx w hI)
  refine ZT [7] 8 hI ?_;intro wd hI
  (repeat(refine ZQ ?_;go_wp2_with(refine YL ?_);refine ZP ?_))
  go_upto_region 4 with(fail)
  refine ZT [7,8,17,18,19] 20 hI ?_;intro wd hI
  (repeat(refine ZQ ?_;go_wp2_with(first|go_at_call 14;refine KD hI (bP _ _ X.f hvl _ hmb) ?_;intro w1 hI|refine YL ?_);refine ZP ?_))
  go_upto_region 5 with(fail)
  refine ZT [9,10,11] 12 hI ?_;intro wd hI
  (repeat(first| (refine ZC ?_;(with_reducible refine Lg RF RF hmx.out ?_);(refine h_ ?_);(simp only[QN])) | (refine ZA ?_;go_wp2_with(refine YS ?_;intro w hI);refine ji ?_) | (refine ZC ?_;go_wp2_with(refine YL ?_);refine h_ ?_)));refine fC ?_
  go_upto_region 15 with(refine YL ?_)
  (refine ZR [0,1,2,3,4,5,13,14] [] [] [0,1,2,3,4,5,6,7,8,9,10,11,12,13,14] (λw=>Inv (ah X Y S).own w0 w [ib bx 158 z,ah X Y {S with round:=rn}]) hI ?_;intro wd hI)
  exact W62
 ·obtain⟨⟨V',ok⟩,aeX⟩:=EQ (iV V k b)
  have Tg:=HD aeX;have hF:Hid (nH X.f {S with round:=rn} k b=if ok=true then kY X.f {S with round:=rn,aK:=some V'} V' else {S with round:=rn,aK:=some V'}):=HD (by rw[nH];dsimp only;rw[E9];dsimp only;rw[aeX]);have hV:=HD E9;clear E9 aeX;cases ok
  ·have hF2:Hid (nH X.f {S with round:=rn} k b={S with round:=rn,aK:=some V'}):=HD (by rw[hF.out,if_neg SI])
   clear hF;go_enter func120,ntmps120;go_upto_region 1 with(refine YX ?_;intro bx w hI)
   refine ZT [7] 8 hI ?_;intro wd hI
   (repeat(refine ZQ ?_;go_wp2_with(refine YL ?_);refine ZP ?_))
   go_upto_region 4 with(fail)
   refine ZT [7,8,17,18,19] 20 hI ?_;intro wd hI
   (repeat(refine ZQ ?_;go_wp2_with(first|go_at_call 14;refine KD hI (bP _ _ X.f hvl _ hmb) ?_;intro w1 hI|refine YL ?_);refine ZP ?_))
   go_upto_region 5 with(fail)
   refine ZT [9,10,11] 12 hI ?_;intro wd hI
   (repeat(first| (refine ZC ?_;(with_reducible refine Lg RF RF hmx.out ?_);(refine h_ ?_);(simp only[QN])) | (refine ZA ?_;go_wp2_with(refine YS ?_;intro w hI);refine ji ?_) | (refine ZC ?_;go_wp2_with(refine YL ?_);refine h_ ?_)));refine fC ?_
   go_upto_region 15 with(refine YL ?_)
   refine ZT [0,1,2,3,4,5,13,14] 15 hI ?_;intro wd hI
   (repeat(refine ZQ ?_;go_wp2_with(first|refine YL ?_|go_at_call 158;refine KE (K9 hI iR (by with_unfolding_all exact hV) k b hb2 _ Tg) ?_;intro w1 hI);refine ZP ?_))
   exact acS
  ·have hF2:Hid (nH X.f {S with round:=rn} k b=kY X.f {S with round:=rn,aK:=some V'} V'):=HD (by rw[hF.out,if_pos rfl])
   clear hF;go_enter func120,ntmps120;go_upto_region 1 with(refine YX ?_;intro bx w hI)
   refine ZT [7] 8 hI ?_;intro wd hI
   (repeat(refine ZQ ?_;go_wp2_with(refine YL ?_);refine ZP ?_))
   go_upto_region 4 with(fail)
   refine ZT [7,8,17,18,19] 20 hI ?_;intro wd hI
   (repeat(refine ZQ ?_;go_wp2_with(first|go_at_call 14;refine KD hI (bP _ _ X.f hvl _ hmb) ?_;intro w1 hI|refine YL ?_);refine ZP ?_))
   go_upto_region 5 with(fail)
   refine ZT [9,10,11] 12 hI ?_;intro wd hI
   (repeat(first| (refine ZC ?_;(with_reducible refine Lg RF RF hmx.out ?_);(refine h_ ?_);(simp only[QN])) | (refine ZA ?_;go_wp2_with(refine YS ?_;intro w hI);refine ji ?_) | (refine ZC ?_;go_wp2_with(refine YL ?_);refine h_ ?_)));refine fC ?_
   go_upto_region 15 with(refine YL ?_)
   refine ZT [0,1,2,3,4,5,13,14] 15 hI ?_;intro wd hI
   (repeat(refine ZQ ?_;go_wp2_with(first|refine YL ?_|go_at_call 158;refine KE (K9 hI iR (by with_unfolding_all exact hV) k b hb2 _ Tg) ?_;intro w1 hI);refine ZP ?_))
   go_wp2_with(go_at_call 159;refine KJ hI (Tf _ X _ _ hX (hI.at_ aM) V' RF _ hvw RF) ?_;intro Y2 S2 w1 hS2 hI);rw[hF2.out,hS2.out];exact LZ
end
end
