/- Contracts of functions. No condition. -/
import Derived.Test.YtdakkaapokhnnaaGreatDoorZ25
namespace Go.Proofs.YtdakkaapokhnnaaGreatDoor
open Go.RowKit Go.Proofs.Tryz
set_option maxRecDepth 100000
set_option maxHeartbeats 6400000
set_option linter.all false
section
open B (aI bQ nX)
def Qp(f:Nat)(S4:RS):RS:=match S4.aK with
  |none=>S4
  |some V=>if(bQ S4.view (sub V.1 9 3)).2=0 then
    (if(bT f S4 (sub V.1 9 3)).2=0 then oq f (bT f S4 (sub V.1 9 3)).1 (AO (bT f S4 (sub V.1 9 3)).1)else(bT f S4 (sub V.1 9 3)).1)else S4
theorem LC(f:Nat)(S S1 S2 S3 S4 S5:RS)(h1:(if S.busy=true then gz f S else S)=S1)(h2:jH f S1=S2)(h3:kr f S2=S3)(h4:(if 1<gi S3.view 0 then gG f S3 S3.view else S3)=S4)
  (h5:(if 0<gi (C.rowOf S4.book (f:Int)) 0 then fu f S4 (C.rowOf S4.book (f:Int))else S4)=S5):rC f S=if aI S4.view (f:Int)=true then Qp f S5 else S4:=by
 subst h1 h2 h3 h4 h5;rfl
section
variable (w0:World)(X:RX)(Y:RY)(S:RS)(hX:zG X)
include hX
theorem ae4(hvw:Hid (dU S.view))(ae5:S.view.length=7)(hI:Inv (ah X Y S).own w0 w0 [ah X Y S]):
  Calls prog 41 #[.pointer (some ⟨X.b,0,none⟩),oV X] w0 λe w'=>∃Y',e=.returned (.tuple #[])∧Inv (ah X Y S).own w0 w' [ah X Y' (rC X.f S)]:=by
 go_enter func41,ntmps41;go_upto_if 11 with(refine YL ?_)
 (try simp only[QN])
 go_cut [] (λwx=>∃Y1 S1,Hid ((if S.busy=true then gz X.f S else S)=S1)∧Hid (S1.view=S.view)∧Inv (ah X Y S).own w0 wx [ah X Y1 S1])
 case first=>
  obtain⟨bz,hb⟩:=EQ S.busy;rw[hb];cases bz
  ·go_wp2_with(fail)
   go_meet
   case rel=>exact⟨Y,S,HD (by rw[hb];simp),HD rfl,hI⟩
  ·go_wp2_with(go_at_call 78;refine KJ hI (F_ _ X _ _ hX (hI.at_ aA)) ?_;intro Y1 B1 w1 hB1 hI)
   go_meet
   case rel=>exact⟨Y1,{S with B:=B1},HD ((if_pos hb).trans hB1.out),HD rfl,hI⟩
 case rest=>
  clear hI;obtain⟨Y1,S1,hS1,hv1,hI⟩:=hcut;go_upto_if 26 with(first|refine YL ?_|go_at_call 79;refine KJ hI (yG _ X _ _ hX (hI.at_ aA) S.view hvw hv1.out) ?_;intro Y2 S2 w1 hS2 hI;have hv2:Hid (S2.view=S.view):=HD (by rw[<-hS2.out,Ga];exact hv1.out)|go_at_call 80;refine KJ hI (Lu _ X _ _ hX (hI.at_ aA) S.view hvw hv2.out) ?_;intro Y3 S3 w1 Yx hI;have hv3:Hid (S3.view=S.view):=HD (by rw[<-Yx.out,xX];exact hv2.out))
  (try simp only[QN])
  have aha:S3.view.length=7:=by rw[hv3.out];exact ae5
  go_cut [] (λwx=>∃Y4 S4,Hid ((if 1<gi S3.view 0 then gG X.f S3 S3.view else S3)=S4)∧Hid (S4.view=S.view)∧Inv (ah X Y S).own w0 wx [ah X Y4 S4])
  case first=>
   cases hd:decide (1<gi S3.view 0)
   ·go_wp2_with(fail)
    go_meet
    case rel=>exact⟨_,S3,HD (by rw[if_neg (by simpa using hd)]),hv3,hI⟩
   ·go_wp2_with(first|refine YL ?_|go_at_call 81;refine KJ hI (AY _ X _ _ hX (hI.at_ aA) _ aha) ?_;intro Y4 S4 w1 hS4 hI)
    go_meet
    case rel=>exact⟨_,S4,HD (by rw[if_pos (by simpa using hd)];exact hS4.out),HD (by rw[<-hS4.out,E5];exact hv3.out),hI⟩
  case rest=>
   clear hI;obtain⟨Y4,S4,hS4,hv4,hI⟩:=hcut;have ahb:S4.view.length=7:=by rw[hv4.out];exact ae5
   cases hm0:aI S4.view (X.f:Int)
   ·have hF:Hid (rC X.f S=S4):=HD (by rw[LC X.f S S1 S2 S3 S4 _ hS1.out hS2.out Yx.out hS4.out rfl,if_neg (by simp[hm0])])
    have hmb:=HD hm0;clear hm0;go_upto_region 6 with(fail)
    refine ZT [8,9] 10 hI ?_;intro wd hI
    (repeat(refine ZQ ?_;go_wp2_with(first|go_at_call 14;refine KD hI (bP _ _ X.f ahb _ hmb) ?_;intro w1 hI|refine YL ?_);refine ZP ?_))
    go_wp2_with(fail);rw[hF.out];exact⟨rfl,_,gD KF _ _,Y4,rfl,hI⟩
   ·have hF:∀S5,Hid ((if 0<gi (C.rowOf S4.book (X.f:Int)) 0 then fu X.f S4 (C.rowOf S4.book (X.f:Int))else S4)=S5)->Hid (rC X.f S=Qp X.f S5):=λS5 h=>HD (by rw[LC X.f S S1 S2 S3 S4 S5 hS1.out hS2.out Yx.out hS4.out h.out,if_pos hm0])
    have hmb:=HD hm0;clear hm0 hS1 hS2 Yx hS4 hv1 hv2 hv3 aha;have hbl:=(aQ hI aA).book;obtain⟨rw_,XQ⟩:=EQ (C.rowOf S4.book (X.f:Int));have hrw:rw_.length=174:=by rw[<-XQ];exact C.j_ _ _ hbl
    go_upto_region 6 with(fail)
    refine ZT [8,9] 10 hI ?_;intro wd hI
    (repeat(refine ZQ ?_;go_wp2_with(first|go_at_call 14;refine KD hI (bP _ _ X.f ahb _ hmb) ?_;intro w1 hI|refine YL ?_);refine ZP ?_))
    go_upto_region 7 with(fail)
    (refine aD [9] [] [9] [] [0,1,2,3,4,5,6,7] 8 [9] eO KF RF hI ?_;clear hI)
    (repeat((with_reducible refine' bC RF RF RF ?_ ?_ ?_);rotate_left;(focus(intro ex w (hI:Inv _ _ w _);go_wp2_with(first|refine YL ?_|go_at_call 23;refine KE (adS hI aM _) ?_;intro w1 hI);(try simp only[QN]);exact bB rfl hI));(focus(exact⟨_,rfl⟩))));refine bH ?_;intro bx w hI;(simp only[QN]);(repeat(refine ZQ ?_;go_wp2_with(refine YS ?_;intro w hI);refine ZP ?_))
    (try rw[XQ]at hI)
    (obtain⟨b4,hbx⟩:=EZ bx;subst hbx)
    go_upto_if 54 with(refine YL ?_)
    (try simp only[QN])
    go_cut [] (λwx=>∃Y5 S5,Hid ((if 0<gi (C.rowOf S4.book (X.f:Int)) 0 then fu X.f S4 (C.rowOf S4.book (X.f:Int))else S4)=S5)∧Hid (S5.view=S.view)∧Inv (ah X Y S).own w0 wx [ah X Y5 S5])
    case first=>
     cases hd:decide (0<gi rw_ 0)
     ·go_wp2_with(fail)
      go_meet
      case rel=>exact⟨_,S4,HD (by rw[XQ,if_neg (by simpa using hd)]),hv4,hI.tl⟩
     ·go_wp2_with(first|refine YL ?_|go_at_call 82;refine KJ hI (vR _ X _ _ hX (hI.at_ aM) _ hrw) ?_;intro Y5 B5 w1 hB5 hI)
      go_meet
      case rel=>exact⟨_,{S4 with B:=B5},HD (by rw[XQ,if_pos (by simpa using hd)];exact hB5.out),hv4,hI.tl⟩
    case rest=>
     clear hI;obtain⟨Y5,S5,hS5,hv5,hI⟩:=hcut;replace hF:=hF S5 hS5;have abm:S5.view.length=7:=by rw[hv5.out];exact ae5
     have abn:Hid (dU S5.view):=HD (by rw[hv5.out];exact hvw.out);clear hS5 hmb XQ;obtain⟨vo,E9⟩:=EQ S5.aK;cases vo with
     |none=>
      have hF2:Hid (rC X.f S=S5):=HD (by rw[hF.out,Qp,E9]);have hV:=HD E9;clear hF E9;go_wp2_with(refine YL ?_);rw[hF2.out];exact⟨rfl,_,gD KF _ _,Y5,rfl,hI⟩
     |some V=>
      obtain⟨c,hc0⟩:=EQ (sub V.1 9 3);have hVl:=(aQ hI aA).aK V E9;have hcl:c.length=3:=by rw[<-hc0,ay];omega
      obtain⟨⟨nv,ne⟩,oO⟩:=EQ (bQ S5.view c);have hnl:nv.length=7:=by have:=zh S5.view c abm;rw[oO]at this;exact this
      obtain⟨⟨S6,e1⟩,uS⟩:=EQ (bT X.f S5 c);have hF2:Hid (rC X.f S=if ne=0 then(if e1=0 then oq X.f S6 (AO S6)else S6)else S5):=HD (by rw[hF.out,Qp,E9];dsimp only;rw[hc0,oO,uS]);have hV:=HD E9;have hnx:=HD oO;have hbe:=HD uS;have aiK:Hid (dU S6.view):=HD (by have:=Ez X.f S5 c;rw[uS]at this;rw[this];exact abn.out);have Tg:e1=0->∃zs,S6.aK=some (zs,false):=λh=>by have:=EA X.f S5 c (by rw[uS];exact h);rw[uS]at this;exact this
      clear hF E9 oO uS;by_cases hne:ne=0
      ·subst hne
       by_cases BI:e1=0
       ·subst BI
        obtain⟨zs,hV1⟩:=Tg rfl;obtain⟨V1,hVe⟩:=EQ ((zs,false):List Int×Bool);have hVp:V1.2=false:=by rw[<-hVe]
        rw[hVe]at hV1;have r_:Hid (rC X.f S=oq X.f S6 V1):=HD (by rw[hF2.out,if_pos rfl,if_pos rfl,AO,hV1];rfl);clear hF2 hVe Tg;go_upto_region 12 with(first|refine YS ?_;intro w hI|refine YX ?_;intro bx w hI|refine YL ?_|go_at_call 83;refine KE (yj hI aA (by with_unfolding_all exact hV)) ?_;intro w1 hI)
        (refine aD [10,11] [8] [10,11] [8] [0,1,2,3,4,5,6,7,8] 9 [10,11] eO KF RF hI ?_;clear hI)
        (repeat(first| ((with_reducible refine' bC RF RF RF ?_ ?_ ?_);rotate_left;(focus(intro ex w (hI:Inv _ _ w _);go_wp2_with(first|refine YL ?_|go_at_call 84;refine KD hI (iL _ _ _ abm hcl abn _ _ hnx) ?_;intro w1 hI);(try simp only[QN]);exact bB rfl hI));(focus(exact⟨_,rfl⟩))) | refine ZL ?_));refine bH ?_;intro bx w hI;(simp only[QN]);(repeat(refine ZQ ?_;go_wp2_with(refine YS ?_;intro w hI);refine ZP ?_))
        go_wp2_with(first|refine YL ?_|go_at_call 85;refine KG hI (BJ _ X _ _ (hI.at_ aX) _ hcl _ _ hbe) ?_;intro Y6 w1 hI|go_at_call 86;refine KJ hI (Ey _ X _ _ hX (hI.at_ aX) V1 (by with_unfolding_all exact hV1) hVp _ aiK RF) ?_;intro Y7 S7 w1 hS7 hI);rw[r_.out,hS7.out];exact⟨rfl,_,gD KF _ _,Y7,rfl,hI.sub (.cons _ (.cons _ (.refl _)))⟩
       ·have r_:Hid (rC X.f S=S6):=HD (by rw[hF2.out,if_pos rfl,if_neg BI])
        have hq:(e1==0)=false:=by simpa using BI
        clear hF2 Tg;go_upto_region 12 with(first|refine YS ?_;intro w hI|refine YX ?_;intro bx w hI|refine YL ?_|go_at_call 83;refine KE (yj hI aA (by with_unfolding_all exact hV)) ?_;intro w1 hI)
        (refine aD [10,11] [8] [10,11] [8] [0,1,2,3,4,5,6,7,8] 9 [10,11] eO KF RF hI ?_;clear hI)
        (repeat(first| ((with_reducible refine' bC RF RF RF ?_ ?_ ?_);rotate_left;(focus(intro ex w (hI:Inv _ _ w _);go_wp2_with(first|refine YL ?_|go_at_call 84;refine KD hI (iL _ _ _ abm hcl abn _ _ hnx) ?_;intro w1 hI);(try simp only[QN]);exact bB rfl hI));(focus(exact⟨_,rfl⟩))) | refine ZL ?_));refine bH ?_;intro bx w hI;(simp only[QN]);(repeat(refine ZQ ?_;go_wp2_with(refine YS ?_;intro w hI);refine ZP ?_))
        go_wp2_with(first|refine YL ?_|go_at_call 85;refine KG hI (BJ _ X _ _ (hI.at_ aX) _ hcl _ _ hbe) ?_;intro Y6 w1 hI);rw[r_.out];exact⟨rfl,_,gD KF _ _,Y6,rfl,hI.sub (.cons _ (.cons _ (.refl _)))⟩
      ·have r_:Hid (rC X.f S=S5):=HD (by rw[hF2.out,if_neg hne])
       have hq:(ne==0)=false:=by simpa using hne
       clear hF2 Tg;go_upto_region 12 with(first|refine YS ?_;intro w hI|refine YX ?_;intro bx w hI|refine YL ?_|go_at_call 83;refine KE (yj hI aA (by with_unfolding_all exact hV)) ?_;intro w1 hI)
       (refine aD [10,11] [8] [10,11] [8] [0,1,2,3,4,5,6,7,8] 9 [10,11] eO KF RF hI ?_;clear hI)
       (repeat(first| ((with_reducible refine' bC RF RF RF ?_ ?_ ?_);rotate_left;(focus(intro ex w (hI:Inv _ _ w _);go_wp2_with(first|refine YL ?_|go_at_call 84;refine KD hI (iL _ _ _ abm hcl abn _ _ hnx) ?_;intro w1 hI);(try simp only[QN]);exact bB rfl hI));(focus(exact⟨_,rfl⟩))) | refine ZL ?_));refine bH ?_;intro bx w hI;(simp only[QN]);(repeat(refine ZQ ?_;go_wp2_with(refine YS ?_;intro w hI);refine ZP ?_))
       go_wp2_with(fail);rw[r_.out];exact⟨rfl,_,gD KF _ _,Y5,rfl,hI.sub (.cons _ (.cons _ (.refl _)))⟩
end
end
