/- Contracts of functions. No condition. -/
import Derived.Test.YtdakkaapokhnnaaGreatDoorZ22
import Derived.Test.YtdakkaapokhnnaaGreatDoorZ24
namespace Go.Proofs.YtdakkaapokhnnaaGreatDoor
open Go.RowKit Go.Proofs.Tryz
set_option maxRecDepth 100000
set_option maxHeartbeats 6400000
set_option linter.all false
section
open B (aI bK)
section
variable (w0:World)(X:RX)(Y:RY)(S:RS)(hX:Bd X)
include hX
theorem xh(hI:Inv (aj X Y S).own w0 w0 [aj X Y S])(d:Nat)(hd:d<5)(e b h c z)(hz:z=(gQ.promise e b h c).nX)(hb2:b.length=2)(hh2:h.length=2)(hcl:c.length=3)(V)(hvw:Hid (eG V))(hV:S.view=V):
  Calls prog 122 #[.pointer (some ⟨X.b,0,none⟩),oV X,.int .i64 (d:Int),ia z] w0 λe' w'=>∃Y' S',e'=.returned (.tuple #[])∧Hid (gP X.f S d e b h c=S')∧Inv (aj X Y S).own w0 w' [aj X Y' S']:=by
 subst hV;have n1:=ag 174;have hM:(gQ.promise e b h c).Len:=⟨hb2,hh2,hcl⟩;refine(AU w0 X Y S hX (.promise e b h c) hM z hz d hd (sD X.f S e b S (λT=>jI X.f T X.f b h c)) (λ_ w1 hI1=>?_) hI).mono ?_
 ·exact qz w1 X Y S X.f _ (gQ.len hM) (.inr (.inl aD)) _ (λw2 hI2=>TU w2 X Y S hX X.f hX.f5 _ b h c e (gQ.len hM) aD (jw n1) (bO n1 hb2) (eP n1 hb2 hh2) (dH n1 hb2 hh2 hcl) hb2 hh2 hcl S (λ_=>rfl) hvw hI2) hI1
 ·rintro e' w' ⟨Y',rfl,hJ⟩
  exact⟨Y',_,rfl,HD rfl,hJ⟩
theorem ahZ(k:Nat)(hk5:k<5)(z b e)(hz:z.length=192)(he:gi z 177=e)(hzb:sub z 178 2=b)(hb2:b.length=2)(hvw:Hid (eG S.view))(hI:Inv (aj X Y S).own w0 w0 [aj X Y S]):
  Calls prog 155 #[.pointer (some ⟨X.b,0,none⟩),oV X,.int .i64 (k:Int),ia z] w0 λe' w'=>∃Y',e'=.returned (.tuple #[])∧Inv (aj X Y S).own w0 w' [aj X Y' (wm X.f S k e b)]:=by
 have hal:=(aS hI aC).acc;obtain⟨⟨a',ok⟩,KW⟩:=EQ (tK S.acc e b);have KX:a'.length=8:=by have:=NC (e:=e) hal hb2;rw[KW]at this;exact this
 have hl1:(sub a' 1 2).length=2:=by rw[az];omega
 have hl2:(sub S.acc 1 2).length=2:=by rw[az];omega
 have hl3:(sub a' 3 2).length=2:=by rw[az];omega
 have hl4:(sub a' 5 3).length=3:=by rw[az];omega
 have hak:=HD KW;obtain⟨x0,ma⟩:=EZ (Rec.qH e b);have hx0:x0.Len:=by rw[ma];exact hb2
 have OW:Hid (ay (au 189) [(0,[3]),(176,[e]),(177,b)]=x0.nX):=HD (by rw[ma];exact afB hb2);obtain⟨D',c',u',e',hP⟩:=uL S x0;have hF:Hid (wm X.f S k e b=if ok=true then(if sub a' 1 2=sub S.acc 1 2 then gP X.f S k e b (sub a' 3 2) (sub a' 5 3)else if e'=0 then gP X.f {S with D:=D',cnt:=c',used:=u',acc:=a'} k e b (sub a' 3 2) (sub a' 5 3)else {S with D:=D',cnt:=c',used:=u'})else S):=HD (by
  rw[wm,KW];dsimp only;rw[<-ma,hP.out])
 clear KW ma;cases ok
 ·have hF2:Hid (wm X.f S k e b=S):=HD (by rw[hF.out,if_neg SI])
  clear hF;go_enter func155,ntmps155;go_upto_region 1 with(refine YX ?_;intro bx w hI)
  (refine aG [13,14] [11] [13,14] [11] [0,1,2,3,4,5,6,7,8,9,10,11] 12 [13,14] fE KF RF hI ?_;clear hI)
  (repeat(first| ((with_reducible refine' bN RF RF RF ?_ ?_ ?_);rotate_left;(focus(intro ex w (hI:Inv _ _ w _);go_wp2_with(first|refine YL ?_|go_at_call 126;refine KD hI (vG _ _ _ _ hal hb2 _ _ hak) ?_;intro w1 hI);(try simp only[QN,he,hzb]);exact bM rfl hI));(focus(exact⟨_,rfl⟩))) | refine ZL ?_));exact W63
 ·have hF2:Hid (wm X.f S k e b=if sub a' 1 2=sub S.acc 1 2 then gP X.f S k e b (sub a' 3 2) (sub a' 5 3)else if e'=0 then gP X.f {S with D:=D',cnt:=c',used:=u',acc:=a'} k e b (sub a' 3 2) (sub a' 5 3)else {S with D:=D',cnt:=c',used:=u'}):=HD (by rw[hF.out,if_pos rfl])
  clear hF;cases hq0:decide (sub a' 1 2=sub S.acc 1 2)
  ·have hqa:=HD hq0
   have tY:Hid (wm X.f S k e b=if e'=0 then gP X.f {S with D:=D',cnt:=c',used:=u',acc:=a'} k e b (sub a' 3 2) (sub a' 5 3)else {S with D:=D',cnt:=c',used:=u'}):=HD (by rw[hF2.out,if_neg (by simpa using hq0)]);clear hF2 hq0;by_cases Dp:e'=0
   ·subst Dp
    have WV:Hid (wm X.f S k e b=gP X.f {S with D:=D',cnt:=c',used:=u',acc:=a'} k e b (sub a' 3 2) (sub a' 5 3)):=HD (by rw[tY.out,if_pos rfl]);clear tY;go_enter func155,ntmps155;go_upto_region 1 with(refine YX ?_;intro bx w hI)
    (refine aG [13,14] [11] [13,14] [11] [0,1,2,3,4,5,6,7,8,9,10,11] 12 [13,14] fE KF RF hI ?_;clear hI)
    (repeat(first| ((with_reducible refine' bN RF RF RF ?_ ?_ ?_);rotate_left;(focus(intro ex w (hI:Inv _ _ w _);go_wp2_with(first|refine YL ?_|go_at_call 126;refine KD hI (vG _ _ _ _ hal hb2 _ _ hak) ?_;intro w1 hI);(try simp only[QN,he,hzb]);exact bM rfl hI));(focus(exact⟨_,rfl⟩))) | refine ZL ?_));refine bQ ?_;intro bx w hI;(simp only[QN]);(repeat(refine ZQ ?_;go_wp2_with(refine YS ?_;intro w hI);refine ZP ?_))
    go_upto_region 3 with(fail)
    refine ZT [7] 8 hI ?_;intro wd hI
    (repeat(refine ZQ ?_;go_wp2_with(first|with_reducible refine Wq RF RF hl1 hl2 hqa.out ?_|refine YL ?_);refine ZP ?_))
    go_wp2_with(first|refine YL ?_|refine YS ?_;intro w hI|go_at_call 108;refine KG hI (ou _ X _ _ x0 hx0 _ OW.out _ _ _ _ hP (hI.at_ a_)) ?_;intro Yp w1 hI|go_at_call 122;refine KJ hI (xh _ X _ _ hX (hI.at_ a_) k hk5 _ b _ _ _ (II hb2 hl3 hl4) hb2 hl3 hl4 _ hvw RF) ?_;intro Y2 S2 w1 hS2 hI);rw[WV.out,hS2.out];exact W80
   ·have WV:Hid (wm X.f S k e b={S with D:=D',cnt:=c',used:=u'}):=HD (by rw[tY.out,if_neg Dp])
    have hq:(e' != 0)=true:=by simpa using Dp
    clear tY;go_enter func155,ntmps155;go_upto_region 1 with(refine YX ?_;intro bx w hI)
    (refine aG [13,14] [11] [13,14] [11] [0,1,2,3,4,5,6,7,8,9,10,11] 12 [13,14] fE KF RF hI ?_;clear hI)
    (repeat(first| ((with_reducible refine' bN RF RF RF ?_ ?_ ?_);rotate_left;(focus(intro ex w (hI:Inv _ _ w _);go_wp2_with(first|refine YL ?_|go_at_call 126;refine KD hI (vG _ _ _ _ hal hb2 _ _ hak) ?_;intro w1 hI);(try simp only[QN,he,hzb]);exact bM rfl hI));(focus(exact⟨_,rfl⟩))) | refine ZL ?_));refine bQ ?_;intro bx w hI;(simp only[QN]);(repeat(refine ZQ ?_;go_wp2_with(refine YS ?_;intro w hI);refine ZP ?_))
    go_upto_region 3 with(fail)
    refine ZT [7] 8 hI ?_;intro wd hI
    (repeat(refine ZQ ?_;go_wp2_with(first|with_reducible refine Wq RF RF hl1 hl2 hqa.out ?_|refine YL ?_);refine ZP ?_))
    go_wp2_with(first|refine YL ?_|go_at_call 108;refine KG hI (ou _ X _ _ x0 hx0 _ OW.out _ _ _ _ hP (hI.at_ a_)) ?_;intro Yp w1 hI);rw[WV.out];exact⟨rfl,_,h_ KF _ _,_,rfl,hI.sub (.cons _ (.cons _ (.refl _)))⟩
  ·have hqa:=HD hq0
   have tY:Hid (wm X.f S k e b=gP X.f S k e b (sub a' 3 2) (sub a' 5 3)):=HD (by rw[hF2.out,if_pos (by simpa using hq0)]);clear hF2 hq0;go_enter func155,ntmps155;go_upto_region 1 with(refine YX ?_;intro bx w hI)
   (refine aG [13,14] [11] [13,14] [11] [0,1,2,3,4,5,6,7,8,9,10,11] 12 [13,14] fE KF RF hI ?_;clear hI)
   (repeat(first| ((with_reducible refine' bN RF RF RF ?_ ?_ ?_);rotate_left;(focus(intro ex w (hI:Inv _ _ w _);go_wp2_with(first|refine YL ?_|go_at_call 126;refine KD hI (vG _ _ _ _ hal hb2 _ _ hak) ?_;intro w1 hI);(try simp only[QN,he,hzb]);exact bM rfl hI));(focus(exact⟨_,rfl⟩))) | refine ZL ?_));refine bQ ?_;intro bx w hI;(simp only[QN]);(repeat(refine ZQ ?_;go_wp2_with(refine YS ?_;intro w hI);refine ZP ?_))
   go_upto_region 3 with(fail)
   refine ZT [7] 8 hI ?_;intro wd hI
   (repeat(refine ZQ ?_;go_wp2_with(first|with_reducible refine Wq RF RF hl1 hl2 hqa.out ?_|refine YL ?_);refine ZP ?_))
   go_wp2_with(first|refine YL ?_|go_at_call 122;refine KJ hI (xh _ X _ _ hX (hI.at_ a_) k hk5 _ b _ _ _ (II hb2 hl3 hl4) hb2 hl3 hl4 _ hvw RF) ?_;intro Y2 S2 w1 hS2 hI);rw[tY.out,hS2.out];exact W80
theorem aeg(hI:Inv (aj X Y S).own w0 w0 [aj X Y S])(k:Nat)(hk5:k<5)(z b e)(hz:z.length=192)(he:gi z 177=e)(hzb:sub z 178 2=b)(hb2:b.length=2)(V)(hvw:Hid (eG V))(hV:S.view=V):
  Calls prog 155 #[.pointer (some ⟨X.b,0,none⟩),oV X,.int .i64 (k:Int),ia z] w0 λe' w'=>∃Y' S',e'=.returned (.tuple #[])∧Hid (wm X.f S k e b=S')∧Inv (aj X Y S).own w0 w' [aj X Y' S']:=by
 subst hV;refine(ahZ w0 X Y S hX k hk5 z b e hz he hzb hb2 hvw hI).mono ?_
 grind[Go.Lib.hid]
end
end
section
open B (aI bK)
section
variable (w0:World)(X:RX)(Y:RY)(S:RS)(hX:Bd X)
include hX
theorem Q7(k:Nat)(hk5:k<5)(z b e)(hz:z.length=192)(h0:gi z 0=3)(he:gi z 177=e)(hse:gi S.view 0=e)(hzb:sub z 178 2=b)(Q0:gi z 178=gi b 0)(hb2:b.length=2)(hm:aI S.view (X.f:Int)=true)(hvw:Hid (eG S.view))(hI:Inv (aj X Y S).own w0 w0 [aj X Y S]):
  Calls prog 120 #[.pointer (some ⟨X.b,0,none⟩),oV X,.int .i64 (k:Int),ia z] w0 λe' w'=>∃Y',e'=.returned (.tuple #[])∧Inv (aj X Y S).own w0 w' [aj X Y' (wm X.f {S with round:=max S.round (gi b 0)} k e b)]:=by
 have hvl:=(aS hI aC).view;obtain⟨mb,qy⟩:=EQ (aI S.view (X.f:Int));obtain rfl:mb=true:=by rw[<-qy,hm]
 have hmb:=HD qy;obtain⟨rn,rY⟩:=EQ (max S.round (gi b 0));have hmx:Hid (max S.round (gi z 178)=rn):=HD (by rw[Q0];exact rY);rw[rY];clear qy hm rY;go_enter func120,ntmps120;go_upto_region 1 with(refine YX ?_;intro bx w hI)
 refine ZT [7] 8 hI ?_;intro wd hI
 (repeat(refine ZQ ?_;go_wp2_with(refine YL ?_);refine ZP ?_))
 go_upto_region 4 with(fail)
 refine ZT [7,8,17,18,19] 20 hI ?_;intro wd hI
 (repeat(refine ZQ ?_;go_wp2_with(first|go_at_call 14;refine KD hI (b_ _ _ X.f hvl _ hmb) ?_;intro w1 hI|refine YL ?_);refine ZP ?_))
 go_upto_region 5 with(fail)
 refine ZT [9,10,11] 12 hI ?_;intro wd hI
 (repeat(first| (refine ZC ?_;(with_reducible refine Oa RF RF hmx.out ?_);(refine fZ ?_);(simp only[QN])) | (refine ZA ?_;go_wp2_with(refine YS ?_;intro w hI);refine gz ?_) | (refine ZC ?_;go_wp2_with(refine YL ?_);refine fZ ?_)));refine dN ?_
 go_wp2_with(first|refine YL ?_|go_at_call 155;refine KJ hI (aeg _ X _ _ hX (hI.at_ aM) k hk5 z b e hz he hzb hb2 _ hvw RF) ?_;intro Y2 S2 w1 hS2 hI);rw[hS2.out];exact OV
theorem TV(k)(hk5:k<5)(z b e)(hz:z.length=192)(h0:gi z 0=3)(he:gi z 177=e)(hzb:sub z 178 2=b)(hb2:b.length=2)(ans)(VW:e<gi S.view 0->X.f≠k∧ans=dS X.f S k (.view S.view))(hvw:Hid (eG S.view))(hI:Inv (aj X Y S).own w0 w0 [aj X Y S]):
  Calls prog 120 #[.pointer (some ⟨X.b,0,none⟩),oV X,.int .i64 (k:Int),ia z] w0 λe' w'=>∃Y',e'=.returned (.tuple #[])∧Inv (aj X Y S).own w0 w' [aj X Y' (sD X.f S e b ans (λT=>wm X.f T k e b))]:=by
 unfold sD;by_cases h1:e<gi S.view 0
 ·rw[if_pos h1]
  obtain⟨XK,rfl⟩:=VW h1
  grind[Jd]
 ·rw[if_neg h1]
  by_cases h2:gi S.view 0<e∨aI S.view (X.f:Int)=false
  ·rw[if_pos h2]
   grind[xY]
  ·rw[if_neg h2]
   have h3:gi S.view 0=e:=by omega
   have h4:aI S.view (X.f:Int)=true:=by
    grind
   exact Q7 w0 X Y S hX k hk5 z b e hz h0 he h3 hzb (uM hzb OM) hb2 h4 hvw hI
theorem Wu(V)(hV:Hid (S.aB=some V))(hp:V.2=false)(hvw:Hid (eG S.view))(hI:Inv (aj X Y S).own w0 w0 [aj X Y S]):
  Calls prog 86 #[.pointer (some ⟨X.b,0,none⟩),oV X] w0 λe w'=>∃Y',e=.returned (.tuple #[])∧Inv (aj X Y S).own w0 w' [aj X Y' (p_ X.f S V)]:=by
 have hl:=(aS hI aC).aB V hV.out;have hbl:(sub V.1 7 2).length=2:=by grind[az]
 have n1:=ag 174;have hM:(gQ.ask (gi S.view 0) (sub V.1 7 2)).Len:=hbl;refine(TT w0 X Y S hX V hV (.ask (gi S.view 0) (sub V.1 7 2)) hM (HD ?_)
  (λT=>sD X.f T (gi S.view 0) (sub V.1 7 2) T (λT=>wm X.f T X.f (gi S.view 0) (sub V.1 7 2))) (λY1 B1 w1 hI1=>?_) _ _ (HD rfl) (HD rfl) hI).mono ?_
 ·rw[if_neg (by grind),Nc 3 hbl];rfl
 ·refine qz w1 X Y1 _ X.f _ (gQ.len hM) (.inl aD) _ (λw2 hI2=>?_) hI1
  exact TV w2 X Y1 {S with B:=B1} hX X.f hX.f5 _ (sub V.1 7 2) (gi S.view 0) (gQ.len hM) aD (jw n1) (bO n1 hbl) hbl _ (λh=>absurd h (Int.lt_irrefl _)) hvw hI2
 ·rintro e w' ⟨Y',rfl,hJ⟩
  refine⟨Y',rfl,?_⟩;exact hJ
theorem Gc(hI:Inv (aj X Y S).own w0 w0 [aj X Y S])(V)(hV:S.aB=some V)(hp:V.2=false)(V0)(hvw:Hid (eG V0))(hVv:S.view=V0):
  Calls prog 86 #[.pointer (some ⟨X.b,0,none⟩),oV X] w0 λe w'=>∃Y' S',e=.returned (.tuple #[])∧Hid (p_ X.f S V=S')∧Inv (aj X Y S).own w0 w' [aj X Y' S']:=by
 grind[Wu,Go.Lib.hid,Go.Calls.mono]
end
end
section
open B (aI bK kF)
def gQ.V64:gQ->Prop
 | .view v=>eG v
 | .aZ _ v=>eG v
 |_=>True
section
variable (w0:World)(X:RX)(Y:RY)(S:RS)(hX:Bd X)
include hX
theorem aem(k:Nat)(z v)(hz:z.length=192)(h0:gi z 0=7)(hzv:sub z 185 7=v)(hv:v.length=7)(hv64:Hid (eG v))(hI:Inv (aj X Y S).own w0 w0 [aj X Y S]):
  Calls prog 77 #[.pointer (some ⟨X.b,0,none⟩),oV X,.int .i64 (k:Int),ia z] w0 λe w'=>∃Y',e=.returned (.tuple #[])∧Inv (aj X Y S).own w0 w' [aj X Y' (fQ X.f S v).1]:=by
 subst hzv;go_enter func77,ntmps77;go_wp2_with(first|refine YL ?_|refine YX ?_;intro bx w hI|go_at_call 117;refine KG hI (KY _ X _ _ hX _ hv (by exact hv64) (hI.at_ aM)) ?_;intro Y2 w1 hI);exact OV
theorem ah7(k)(hk5:k<5)(XK:X.f≠k)(M)(hM:M.Len)(h64:M.V64)(hvw:Hid (eG S.view))(hrl:S.aX.length<=1000000000)(hI:Inv (aj X Y S).own w0 w0 [aj X Y S]):
  Calls prog 77 #[.pointer (some ⟨X.b,0,none⟩),oV X,.int .i64 (k:Int),ia M.nX] w0 λe w'=>∃Y',e=.returned (.tuple #[])∧Inv (aj X Y S).own w0 w' [aj X Y' (kr X.f S k M)]:=by
 have n1:=ag 174;have n2:=ag 2;have n3:=ag 3;have hz:=gQ.len hM;have hvl:=(aS hI aC).view;have Dj:=(aS hI aC).aT;cases M with
 |row i r=>exact aa0 w0 X Y S hX k _ hz aD _ (λw1 hI1=>ah6 w1 X Y S hX k hk5 XK i hM.1 _ r hz kQ (bZ hM.2) hM.2 hI1) hI
 |kept n=>exact aa1 w0 X Y S hX k _ hz aD _ (λw1 hI1=>ah0 w1 X Y S hX k hk5 _ n hz (Hw n1) hvw hrl hI1) hI
 |news i r=>exact ael w0 X Y S hX k i _ r hz aD kQ (bZ hM.2) hM.2 hI
 |ask e b=>
  exact qz w0 X Y S k _ hz (.inl aD) _ (λw1 hI1=>TV w1 X Y S hX k hk5 _ b e hz aD (jw n1) (bO n1 hM) hM _ (λ_=>⟨XK,rfl⟩) hvw hI1) hI
 |promise e b h c=>
  exact qz w0 X Y S k _ hz (.inr (.inl aD)) _ (λw1 hI1=>TU w1 X Y S hX k hk5 _ b h c e hz aD (jw n1) (bO n1 hM.1) (eP n1 hM.1 hM.2.1) (dH n1 hM.1 hM.2.1 hM.2.2) hM.1 hM.2.1 hM.2.2 _ (λ_=>rfl) hvw hI1) hI
 |put e b c=>
  exact qz w0 X Y S k _ hz (.inr (.inr (.inl aD))) _ (λw1 hI1=>TS w1 X Y S hX k hk5 _ b c e hz aD (jw n1) (bO n1 hM.1) (dH n1 hM.1 n2 hM.2) hM.1 hM.2 _ (λ_=>⟨XK,rfl⟩) hvw hI1) hI
 |taken e b=>
  exact qz w0 X Y S k _ hz (.inr (.inr (.inr aD))) _ (λw1 hI1=>TR w1 X Y S hX k _ b e hz aD (jw n1) (bO n1 hM) hM hvw hI1) hI
 |view v=>exact aem w0 X Y S hX k _ v hz aD (dO n1 n2 n2 n3 hM) hM (HD h64) hI
 |aZ i v=>
  refine N8 w0 X Y S hX k _ hz aD _ (λw1 hI1=>?_) hI;refine TP w1 X Y S hX k hk5 i hM.1 _ v hz kQ (dO n1 n2 n2 n3 hM.2) _ (λw2 hI2=>?_) (VM X.f hvl hM.2) (by grind[Qu]) (HD (VL X.f hvw.out h64)) hI1;exact(KY w2 X Y S hX v hM.2 (HD h64) hI2).mono λe w' ⟨Y',he,hJ⟩=>⟨Y',_,he,hJ⟩
 |d_ i r=>exact TN w0 X Y S hX k hk5 i hM.1 _ r hz aD kQ (by rw[<-uM (bZ (k:=9) (w:=(i:Int)) (n:=0) (e:=0) (b:=au 2) (h:=au 2) (c:=au 3) (v:=au 7) hM.2) OM];rfl) (bZ hM.2) hM.2 hvw hI
end
end
