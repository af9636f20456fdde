/- Contracts of functions. No condition. -/
import Derived.Test.YtdakkaapokhnnaaGreatDoorZ21
namespace Go.Proofs.YtdakkaapokhnnaaGreatDoor
open Go.RowKit Go.Proofs.Tryz
set_option maxRecDepth 100000
set_option maxHeartbeats 6400000
set_option linter.all false
section
open B (aI bK)
section
variable (w0:World)(X:RX)(Y:RY)(S:RS)(hX:Bd X)
include hX
theorem aee(hI:Inv (aj X Y S).own w0 w0 [aj X Y S])(k:Nat)(hk5:k<5)(z b c e)(hz:z.length=192)(he:gi z 177=e)(hzb:sub z 178 2=b)(hzc:sub z 182 3=c)(hb2:b.length=2)(hcl:c.length=3)(V)(hvw:Hid (eG V))(hV:S.view=V):
  Calls prog 156 #[.pointer (some ⟨X.b,0,none⟩),oV X,.int .i64 (k:Int),ia z] w0 λe' w'=>∃Y' S',e'=.returned (.tuple #[])∧Hid (uI X.f S k e b c=S')∧Inv (aj X Y S).own w0 w' [aj X Y' S']:=by
 subst hV;refine(ahY w0 X Y S hX k hk5 z b c e hz he hzb hzc hb2 hcl hvw hI).mono ?_
 grind[Go.Lib.hid]
theorem Q3(k:Nat)(hk5:k<5)(z b c e)(hz:z.length=192)(h0:gi z 0=5)(he:gi z 177=e)(hse:gi S.view 0=e)(hzb:sub z 178 2=b)(Q0:gi z 178=gi b 0)(hzc:sub z 182 3=c)(hb2:b.length=2)(hcl:c.length=3)(hm:aI S.view (X.f:Int)=true)(hvw:Hid (eG S.view))(hI:Inv (aj X Y S).own w0 w0 [aj X Y S]):
  Calls prog 120 #[.pointer (some ⟨X.b,0,none⟩),oV X,.int .i64 (k:Int),ia z] w0 λe' w'=>∃Y',e'=.returned (.tuple #[])∧Inv (aj X Y S).own w0 w' [aj X Y' (uI X.f {S with round:=max S.round (gi b 0)} k e b c)]:=by
 have hvl:=(aS hI aC).view;obtain⟨mb,qy⟩:=EQ (aI S.view (X.f:Int));obtain rfl:mb=true:=by rw[<-qy,hm]
 have hmb:=HD qy;obtain⟨rn,rY⟩:=EQ (max S.round (gi b 0));have hmx:Hid (max S.round (gi z 178)=rn):=HD (by rw[Q0];exact rY);rw[rY];clear qy hm rY;go_enter func120,ntmps120;go_upto_region 1 with(refine YX ?_;intro bx w hI)
 refine ZT [7] 8 hI ?_;intro wd hI
 (repeat(refine ZQ ?_;go_wp2_with(refine YL ?_);refine ZP ?_))
 go_upto_region 4 with(fail)
 refine ZT [7,8,17,18,19] 20 hI ?_;intro wd hI
 (repeat(refine ZQ ?_;go_wp2_with(first|go_at_call 14;refine KD hI (b_ _ _ X.f hvl _ hmb) ?_;intro w1 hI|refine YL ?_);refine ZP ?_))
 go_upto_region 5 with(fail)
 refine ZT [9,10,11] 12 hI ?_;intro wd hI
 (repeat(first| (refine ZC ?_;(with_reducible refine Oa RF RF hmx.out ?_);(refine fZ ?_);(simp only[QN])) | (refine ZA ?_;go_wp2_with(refine YS ?_;intro w hI);refine gz ?_) | (refine ZC ?_;go_wp2_with(refine YL ?_);refine fZ ?_)));refine dN ?_
 go_wp2_with(first|refine YL ?_|go_at_call 156;refine KJ hI (aee _ X _ _ hX (hI.at_ aM) k hk5 z b c e hz he hzb hzc hb2 hcl _ hvw RF) ?_;intro Y2 S2 w1 hS2 hI);rw[hS2.out];exact OV
theorem TS(k)(hk5:k<5)(z b c e)(hz:z.length=192)(h0:gi z 0=5)(he:gi z 177=e)(hzb:sub z 178 2=b)(hzc:sub z 182 3=c)(hb2:b.length=2)(hcl:c.length=3)(ans)(VW:e<gi S.view 0->X.f≠k∧ans=dS X.f S k (.view S.view))(hvw:Hid (eG S.view))(hI:Inv (aj X Y S).own w0 w0 [aj X Y S]):
  Calls prog 120 #[.pointer (some ⟨X.b,0,none⟩),oV X,.int .i64 (k:Int),ia z] w0 λe' w'=>∃Y',e'=.returned (.tuple #[])∧Inv (aj X Y S).own w0 w' [aj X Y' (sD X.f S e b ans (λT=>uI X.f T k e b c))]:=by
 unfold sD;by_cases h1:e<gi S.view 0
 ·rw[if_pos h1]
  obtain⟨XK,rfl⟩:=VW h1
  grind[Jd]
 ·rw[if_neg h1]
  by_cases h2:gi S.view 0<e∨aI S.view (X.f:Int)=false
  ·rw[if_pos h2]
   grind[xY]
  ·rw[if_neg h2]
   have h3:gi S.view 0=e:=by omega
   have h4:aI S.view (X.f:Int)=true:=by
    grind
   exact Q3 w0 X Y S hX k hk5 z b c e hz h0 he h3 hzb (uM hzb OM) hzc hb2 hcl h4 hvw hI
end
end
section
open B (aI bK kF)
section
variable (w0:World)(X:RX)(Y:RY)(S:RS)(hX:Bd X)
include hX
theorem TT(V)(hV:Hid (S.aB=some V))(M)(hM:M.Len)(hzM:Hid ((if V.2=true then dK ((ay (au 192) [(0,[3]),(177,[gi S.view 0]),(178,sub V.1 7 2)]).set 0 5) 182 (sub V.1 9 3)else ay (au 192) [(0,[3]),(177,[gi S.view 0]),(178,sub V.1 7 2)])=M.nX))(G:RS->RS)(hT:∀Y1 B1 w1,Inv (aj X Y1 {S with B:=B1}).own w1 w1 [aj X Y1 {S with B:=B1}]->Calls prog 77 #[.pointer (some ⟨X.b,0,none⟩),oV X,.int .i64 (X.f:Int),ia M.nX] w1 λe w'=>∃Y',e=.returned (.tuple #[])∧Inv (aj X Y1 {S with B:=B1}).own w1 w' [aj X Y' (G {S with B:=B1})])
  (P0) (G0) (hP0:Hid (P0=λi=>decide (i≠X.f)&&aI S.view (i:Int))) (hG0:Hid (G0=λS i=>dS X.f S i M)) (hI:Inv (aj X Y S).own w0 w0 [aj X Y S]):
  Calls prog 86 #[.pointer (some ⟨X.b,0,none⟩),oV X] w0 λe w'=>∃Y',e=.returned (.tuple #[])∧Inv (aj X Y S).own w0 w' [aj X Y' (if aI S.view (X.f:Int)=true then G (nN P0 G0 S 5)else nN P0 G0 S 5)]:=by
 obtain⟨R,hR0⟩:=EQ (if aI S.view (X.f:Int)=true then G (nN P0 G0 S 5)else nN P0 G0 S 5);rw[hR0];have hR:=HD hR0;clear hR0;have hvl:=(aS hI aC).view;have uR:=hX.f5;have hf0:(X.f:Int) <5:=by omega
 have hbl:(sub V.1 7 2).length=2:=by have:=(aS hI aC).aB V hV.out;rw[az];omega
 have hcl:(sub V.1 9 3).length=3:=by have:=(aS hI aC).aB V hV.out;rw[az];omega
 have Dj:=gQ.len hM;obtain⟨mb,qy⟩:=EQ (aI S.view (X.f:Int));have hmb:=HD qy;clear qy;obtain⟨zA,aef⟩:=EQ (ay (au 192) [(0,[3]),(177,[gi S.view 0]),(178,sub V.1 7 2)]);have hzA:=HD aef;have hzl:zA.length=192:=by
  rw[<-aef,Nc 3 hbl];exact eY (ag 174) hbl (ag 2) (ag 3) (ag 7)
 rw[aef]at hzM;clear aef;cases hV2:V.2
 ·have hz9:Hid (zA=M.nX):=HD (by have:=hzM.out;rw[hV2]at this;simpa using this)
  clear hzM;go_enter func86,ntmps86;go_upto_region 0 with(fail)
  (refine aG [12] [] [12] [] [0,1,2,3,4,5,6,7,8,9,10] 11 [12] fE KF RF hI ?_;clear hI)
  (repeat((with_reducible refine' bN RF RF RF ?_ ?_ ?_);rotate_left;(focus(intro ex w (hI:Inv _ _ w _);go_wp2_with(first|refine YL ?_|go_at_call 128;refine KE (aaq hI aM (by with_unfolding_all exact hV)) ?_;intro w1 hI);(try simp only[QN]);exact bM rfl hI));(focus(exact⟨_,rfl⟩))));refine bQ ?_;intro bx w hI;(simp only[QN]);(repeat(refine ZQ ?_;go_wp2_with(refine YS ?_;intro w hI);refine ZP ?_))
  rw[hzA.out]at hI
  (obtain⟨bm,hbx⟩:=EZ bx;subst hbx)
  go_upto_region 3 with(first|refine YL ?_|go_at_call 129;refine KE (aap hI aM (by with_unfolding_all exact hV)) ?_;intro w1 hI;(rw[hV2]))
  exact W3
 ·have hz9:Hid (dK (zA.set 0 5) 182 (sub V.1 9 3)=M.nX):=HD (by have:=hzM.out;rw[hV2]at this;simpa using this)
  clear hzM;go_enter func86,ntmps86;go_upto_region 0 with(fail)
  (refine aG [12] [] [12] [] [0,1,2,3,4,5,6,7,8,9,10] 11 [12] fE KF RF hI ?_;clear hI)
  (repeat((with_reducible refine' bN RF RF RF ?_ ?_ ?_);rotate_left;(focus(intro ex w (hI:Inv _ _ w _);go_wp2_with(first|refine YL ?_|go_at_call 128;refine KE (aaq hI aM (by with_unfolding_all exact hV)) ?_;intro w1 hI);(try simp only[QN]);exact bM rfl hI));(focus(exact⟨_,rfl⟩))));refine bQ ?_;intro bx w hI;(simp only[QN]);(repeat(refine ZQ ?_;go_wp2_with(refine YS ?_;intro w hI);refine ZP ?_))
  rw[hzA.out]at hI
  (obtain⟨bm,hbx⟩:=EZ bx;subst hbx)
  go_upto_region 3 with(first|refine YS ?_;intro w hI|refine YL ?_|go_at_call 129;refine KE (aap hI aM (by with_unfolding_all exact hV)) ?_;intro w1 hI;(rw[hV2])|go_at_call 83;refine KE (zo hI aM (by with_unfolding_all exact hV)) ?_;intro w1 hI)
  exact W3
end
end
section
open B (aI bK)
theorem Q4{V V' who b h c}(hv:iJ V who b h c=(V',true)):V'.2=true:=by
 grind[iJ]
section
variable (w0:World)(X:RX)(Y:RY)(S:RS)(hX:Bd X)
include hX
theorem Wt(V)(hV:Hid (S.aB=some V))(hp:V.2=true)(hvw:Hid (eG S.view))(hI:Inv (aj X Y S).own w0 w0 [aj X Y S]):
  Calls prog 86 #[.pointer (some ⟨X.b,0,none⟩),oV X] w0 λe w'=>∃Y',e=.returned (.tuple #[])∧Inv (aj X Y S).own w0 w' [aj X Y' (vD X.f S V)]:=by
 have hl:=(aS hI aC).aB V hV.out;have hbl:(sub V.1 7 2).length=2:=by grind[az]
 have hcl:(sub V.1 9 3).length=3:=by grind[az]
 have n1:=ag 174;have n2:=ag 2;have n3:=ag 3;have hM:(gQ.put (gi S.view 0) (sub V.1 7 2) (sub V.1 9 3)).Len:=⟨hbl,hcl⟩;refine(TT w0 X Y S hX V hV (.put (gi S.view 0) (sub V.1 7 2) (sub V.1 9 3)) hM (HD ?_)
  (λT=>sD X.f T (gi S.view 0) (sub V.1 7 2) T (λT=>uI X.f T X.f (gi S.view 0) (sub V.1 7 2) (sub V.1 9 3))) (λY1 B1 w1 hI1=>?_) _ _ (HD rfl) (HD rfl) hI).mono ?_
 ·rw[if_pos hp,Nc 3 hbl,O9,fq n1 hbl n2 n3 hcl];rfl
 ·refine qz w1 X Y1 _ X.f _ (gQ.len hM) (.inr (.inr (.inl aD))) _ (λw2 hI2=>?_) hI1
  exact TS w2 X Y1 {S with B:=B1} hX X.f hX.f5 _ (sub V.1 7 2) (sub V.1 9 3) (gi S.view 0) (gQ.len hM) aD (jw n1) (bO n1 hbl) (dH n1 hbl n2 hcl) hbl hcl _ (λh=>absurd h (Int.lt_irrefl _)) hvw hI2
 ·rintro e w' ⟨Y',rfl,hJ⟩
  refine⟨Y',rfl,?_⟩;exact hJ
theorem Q5(hI:Inv (aj X Y S).own w0 w0 [aj X Y S])(V)(hV:S.aB=some V)(hp:V.2=true)(V0)(hvw:Hid (eG V0))(hVv:S.view=V0):
  Calls prog 86 #[.pointer (some ⟨X.b,0,none⟩),oV X] w0 λe w'=>∃Y' S',e=.returned (.tuple #[])∧Hid (vD X.f S V=S')∧Inv (aj X Y S).own w0 w' [aj X Y' S']:=by
 grind[Wt,Go.Lib.hid,Go.Calls.mono]
theorem Q6(k:Nat)(hk5:k<5)(z b h c e)(hz:z.length=192)(h0:gi z 0=4)(he:gi z 177=e)(hse:gi S.view 0=e)(hzb:sub z 178 2=b)(Q0:gi z 178=gi b 0)(hzh:sub z 180 2=h)(hzc:sub z 182 3=c)(hb2:b.length=2)(hh2:h.length=2)(hcl:c.length=3)(hm:aI S.view (X.f:Int)=true)(hvw:Hid (eG S.view))(hI:Inv (aj X Y S).own w0 w0 [aj X Y S]):
  Calls prog 120 #[.pointer (some ⟨X.b,0,none⟩),oV X,.int .i64 (k:Int),ia z] w0 λe' w'=>∃Y',e'=.returned (.tuple #[])∧Inv (aj X Y S).own w0 w' [aj X Y' (jI X.f {S with round:=max S.round (gi b 0)} k b h c)]:=by
 have hvl:=(aS hI aC).view;obtain⟨mb,qy⟩:=EQ (aI S.view (X.f:Int));obtain rfl:mb=true:=by rw[<-qy,hm]
 have hmb:=HD qy;obtain⟨rn,rY⟩:=EQ (max S.round (gi b 0));have hmx:Hid (max S.round (gi z 178)=rn):=HD (by rw[Q0];exact rY);rw[rY];clear qy hm rY;obtain⟨vo,He⟩:=EQ S.aB;rcases vo with _|V
 ·have hF:Hid (jI X.f {S with round:=rn} k b h c={S with round:=rn}):=HD (by rw[jI];dsimp only;rw[He])
  have hV:=HD He;clear He;go_enter func120,ntmps120;go_upto_region 1 with(refine YX ?_;intro bx w hI)
  refine ZT [7] 8 hI ?_;intro wd hI
  (repeat(refine ZQ ?_;go_wp2_with(refine YL ?_);refine ZP ?_))
  go_upto_region 4 with(fail)
  refine ZT [7,8,17,18,19] 20 hI ?_;intro wd hI
  (repeat(refine ZQ ?_;go_wp2_with(first|go_at_call 14;refine KD hI (b_ _ _ X.f hvl _ hmb) ?_;intro w1 hI|refine YL ?_);refine ZP ?_))
  go_upto_region 5 with(fail)
  refine ZT [9,10,11] 12 hI ?_;intro wd hI
  (repeat(first| (refine ZC ?_;(with_reducible refine Oa RF RF hmx.out ?_);(refine fZ ?_);(simp only[QN])) | (refine ZA ?_;go_wp2_with(refine YS ?_;intro w hI);refine gz ?_) | (refine ZC ?_;go_wp2_with(refine YL ?_);refine fZ ?_)));refine dN ?_
  go_upto_region 12 with(refine YL ?_)
  (refine ZR [0,1,2,3,4,5,17,18] [] [] [0,1,2,3,4,5,6,7,8,9,10,11,12,13,14,15,16,17,18] (λw=>Inv (aj X Y S).own w0 w [ib bx 158 z,aj X Y {S with round:=rn}]) hI ?_;intro wd hI)
  exact W62
 ·obtain⟨⟨V',ok⟩,aaR⟩:=EQ (iJ V k b h c)
  have hvv:=HD aaR;have hF:Hid (jI X.f {S with round:=rn} k b h c=if ok=true then vD X.f {S with round:=rn,aB:=some V'} V' else {S with round:=rn,aB:=some V'}):=HD (by rw[jI];dsimp only;rw[He];dsimp only;rw[aaR]);have hV:=HD He;clear He;cases ok
  ·have hF2:Hid (jI X.f {S with round:=rn} k b h c={S with round:=rn,aB:=some V'}):=HD (by rw[hF.out,if_neg SI])
   clear hF aaR;go_enter func120,ntmps120;go_upto_region 1 with(refine YX ?_;intro bx w hI)
   refine ZT [7] 8 hI ?_;intro wd hI
   (repeat(refine ZQ ?_;go_wp2_with(refine YL ?_);refine ZP ?_))
   go_upto_region 4 with(fail)
   refine ZT [7,8,17,18,19] 20 hI ?_;intro wd hI
   (repeat(refine ZQ ?_;go_wp2_with(first|go_at_call 14;refine KD hI (b_ _ _ X.f hvl _ hmb) ?_;intro w1 hI|refine YL ?_);refine ZP ?_))
   go_upto_region 5 with(fail)
   refine ZT [9,10,11] 12 hI ?_;intro wd hI
   (repeat(first| (refine ZC ?_;(with_reducible refine Oa RF RF hmx.out ?_);(refine fZ ?_);(simp only[QN])) | (refine ZA ?_;go_wp2_with(refine YS ?_;intro w hI);refine gz ?_) | (refine ZC ?_;go_wp2_with(refine YL ?_);refine fZ ?_)));refine dN ?_
   go_upto_region 12 with(refine YL ?_)
   refine ZT [0,1,2,3,4,5,17,18] 19 hI ?_;intro wd hI
   (repeat(refine ZQ ?_;go_wp2_with(first|refine YL ?_|go_at_call 157;refine KE (NF hI jo (by with_unfolding_all exact hV) k b h c hb2 hh2 hcl _ hvv) ?_;intro w1 hI);refine ZP ?_))
   exact af6
  ·have hF2:Hid (jI X.f {S with round:=rn} k b h c=vD X.f {S with round:=rn,aB:=some V'} V'):=HD (by rw[hF.out,if_pos rfl])
   have hp2:=Q4 aaR;clear hF aaR;go_enter func120,ntmps120;go_upto_region 1 with(refine YX ?_;intro bx w hI)
   refine ZT [7] 8 hI ?_;intro wd hI
   (repeat(refine ZQ ?_;go_wp2_with(refine YL ?_);refine ZP ?_))
   go_upto_region 4 with(fail)
   refine ZT [7,8,17,18,19] 20 hI ?_;intro wd hI
   (repeat(refine ZQ ?_;go_wp2_with(first|go_at_call 14;refine KD hI (b_ _ _ X.f hvl _ hmb) ?_;intro w1 hI|refine YL ?_);refine ZP ?_))
   go_upto_region 5 with(fail)
   refine ZT [9,10,11] 12 hI ?_;intro wd hI
   (repeat(first| (refine ZC ?_;(with_reducible refine Oa RF RF hmx.out ?_);(refine fZ ?_);(simp only[QN])) | (refine ZA ?_;go_wp2_with(refine YS ?_;intro w hI);refine gz ?_) | (refine ZC ?_;go_wp2_with(refine YL ?_);refine fZ ?_)));refine dN ?_
   go_upto_region 12 with(refine YL ?_)
   refine ZT [0,1,2,3,4,5,17,18] 19 hI ?_;intro wd hI
   (repeat(refine ZQ ?_;go_wp2_with(first|refine YL ?_|go_at_call 157;refine KE (NF hI jo (by with_unfolding_all exact hV) k b h c hb2 hh2 hcl _ hvv) ?_;intro w1 hI);refine ZP ?_))
   go_wp2_with(go_at_call 86;refine KJ hI (Q5 _ X _ _ hX (hI.at_ aM) V' RF hp2 _ hvw RF) ?_;intro Y2 S2 w1 hS2 hI);rw[hF2.out,hS2.out];exact OV
theorem TU(k:Nat)(hk5:k<5)(z b h c e)(hz:z.length=192)(h0:gi z 0=4)(he:gi z 177=e)(hzb:sub z 178 2=b)(hzh:sub z 180 2=h)(hzc:sub z 182 3=c)(hb2:b.length=2)(hh2:h.length=2)(hcl:c.length=3)(ans)(VW:e<gi S.view 0->ans=S)(hvw:Hid (eG S.view))(hI:Inv (aj X Y S).own w0 w0 [aj X Y S]):
  Calls prog 120 #[.pointer (some ⟨X.b,0,none⟩),oV X,.int .i64 (k:Int),ia z] w0 λe' w'=>∃Y',e'=.returned (.tuple #[])∧Inv (aj X Y S).own w0 w' [aj X Y' (sD X.f S e b ans (λT=>jI X.f T k b h c))]:=by
 unfold sD;by_cases h1:e<gi S.view 0
 ·rw[if_pos h1]
  rw[VW h1];exact ajc
 ·rw[if_neg h1]
  by_cases h2:gi S.view 0<e∨aI S.view (X.f:Int)=false
  ·rw[if_pos h2]
   grind[xY]
  ·rw[if_neg h2]
   have h3:gi S.view 0=e:=by omega
   have h4:aI S.view (X.f:Int)=true:=by
    grind
   exact Q6 w0 X Y S hX k hk5 z b h c e hz h0 he h3 hzb (uM hzb OM) hzh hzc hb2 hh2 hcl h4 hvw hI
end
end
