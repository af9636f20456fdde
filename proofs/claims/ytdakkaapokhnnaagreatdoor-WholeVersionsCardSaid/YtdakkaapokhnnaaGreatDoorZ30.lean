/- Contracts of functions. No condition. -/
import Derived.Test.YtdakkaapokhnnaaGreatDoorZ28
namespace Go.Proofs.YtdakkaapokhnnaaGreatDoor
open Go.RowKit Go.Proofs.Tryz
set_option maxRecDepth 100000
set_option maxHeartbeats 6400000
set_option linter.all false
section
open B (aI bK kF)
def TW(f:Nat)(S4:RS):RS:=match S4.aB with
  |none=>S4
  |some V=>if(bK S4.view (sub V.1 9 3)).2=0 then
    (if(cO f S4 (sub V.1 9 3)).2=0 then p_ f (cO f S4 (sub V.1 9 3)).1 (Ck (cO f S4 (sub V.1 9 3)).1)else(cO f S4 (sub V.1 9 3)).1)else S4
theorem Od(f S S1 S2 S3 S4 S5)(h1:(if S.busy=true then jf f S else S)=S1)(h2:j6 f S1=S2)(h3:mM f S2=S3)(h4:(if 1<gi S3.view 0 then ig f S3 S3.view else S3)=S4)(h5:(if 0<gi (C.rowOf S4.book (f:Int)) 0 then fV f S4 (C.rowOf S4.book (f:Int))else S4)=S5):sV f S=if aI S4.view (f:Int)=true then TW f S5 else S4:=by
 subst h1 h2 h3 h4 h5;rfl
section
variable (w0:World)(X:RX)(Y:RY)(S:RS)(hX:Bd X)
include hX
theorem ah4(hvw:Hid (eG S.view))(ah5:S.view.length=7)(hI:Inv (aj X Y S).own w0 w0 [aj X Y S]):
  Calls prog 41 #[.pointer (some ⟨X.b,0,none⟩),oV X] w0 λe w'=>∃Y',e=.returned (.tuple #[])∧Inv (aj X Y S).own w0 w' [aj X Y' (sV X.f S)]:=by
 go_enter func41,ntmps41;go_upto_if 11 with(refine YL ?_)
 (try simp only[QN])
 go_cut [] (λwx=>∃Y1 S1,Hid ((if S.busy=true then jf X.f S else S)=S1)∧Hid (S1.view=S.view)∧Inv (aj X Y S).own w0 wx [aj X Y1 S1])
 case first=>
  obtain⟨bz,hb⟩:=EQ S.busy;rw[hb];cases bz
  ·go_wp2_with(fail)
   go_meet
   case rel=>exact⟨Y,S,HD (by rw[hb];simp),HD rfl,hI⟩
  ·go_wp2_with(go_at_call 78;refine KJ hI (IJ _ X _ _ hX (hI.at_ aC)) ?_;intro Y1 B1 w1 hB1 hI)
   go_meet
   case rel=>exact⟨Y1,{S with B:=B1},HD ((if_pos hb).trans hB1.out),HD rfl,hI⟩
 case rest=>
  clear hI;obtain⟨Y1,S1,hS1,hv1,hI⟩:=hcut;go_upto_if 26 with(first|refine YL ?_|go_at_call 79;refine KJ hI (zU _ X _ _ hX (hI.at_ aC) S.view hvw hv1.out) ?_;intro Y2 S2 w1 hS2 hI;have hv2:Hid (S2.view=S.view):=HD (by rw[<-hS2.out,IK];exact hv1.out)|go_at_call 80;refine KJ hI (N_ _ X _ _ hX (hI.at_ aC) S.view hvw hv2.out) ?_;intro Y3 S3 w1 hS3 hI;have hv3:Hid (S3.view=S.view):=HD (by rw[<-hS3.out,zi];exact hv2.out))
  (try simp only[QN])
  have akd:S3.view.length=7:=by rw[hv3.out];exact ah5
  go_cut [] (λwx=>∃Y4 S4,Hid ((if 1<gi S3.view 0 then ig X.f S3 S3.view else S3)=S4)∧Hid (S4.view=S.view)∧Inv (aj X Y S).own w0 wx [aj X Y4 S4])
  case first=>
   cases hd:decide (1<gi S3.view 0)
   ·go_wp2_with(fail)
    go_meet
    case rel=>exact⟨_,S3,HD (by rw[if_neg (by simpa using hd)]),hv3,hI⟩
   ·go_wp2_with(first|refine YL ?_|go_at_call 81;refine KJ hI (Cv _ X _ _ hX (hI.at_ aC) _ akd) ?_;intro Y4 S4 w1 hS4 hI)
    go_meet
    case rel=>exact⟨_,S4,HD (by rw[if_pos (by simpa using hd)];exact hS4.out),HD (by rw[<-hS4.out,G_];exact hv3.out),hI⟩
  case rest=>
   clear hI;obtain⟨Y4,S4,hS4,hv4,hI⟩:=hcut;have ake:S4.view.length=7:=by rw[hv4.out];exact ah5
   cases hm0:aI S4.view (X.f:Int)
   ·have hF:Hid (sV X.f S=S4):=HD (by rw[Od X.f S S1 S2 S3 S4 _ hS1.out hS2.out hS3.out hS4.out rfl,if_neg (by simp[hm0])])
    have hmb:=HD hm0;clear hm0;go_upto_region 6 with(fail)
    refine ZT [8,9] 10 hI ?_;intro wd hI
    (repeat(refine ZQ ?_;go_wp2_with(first|go_at_call 14;refine KD hI (b_ _ _ X.f ake _ hmb) ?_;intro w1 hI|refine YL ?_);refine ZP ?_))
    go_wp2_with(fail);rw[hF.out];exact⟨rfl,_,h_ KF _ _,Y4,rfl,hI⟩
   ·have hF:∀S5,Hid ((if 0<gi (C.rowOf S4.book (X.f:Int)) 0 then fV X.f S4 (C.rowOf S4.book (X.f:Int))else S4)=S5)->Hid (sV X.f S=TW X.f S5):=λS5 h=>HD (by rw[Od X.f S S1 S2 S3 S4 S5 hS1.out hS2.out hS3.out hS4.out h.out,if_pos hm0])
    have hmb:=HD hm0;clear hm0 hS1 hS2 hS3 hS4 hv1 hv2 hv3 akd;have hbl:=(aS hI aC).book;obtain⟨rw_,aaZ⟩:=EQ (C.rowOf S4.book (X.f:Int));have hrw:rw_.length=174:=by rw[<-aaZ];exact C.l8 _ _ hbl
    go_upto_region 6 with(fail)
    refine ZT [8,9] 10 hI ?_;intro wd hI
    (repeat(refine ZQ ?_;go_wp2_with(first|go_at_call 14;refine KD hI (b_ _ _ X.f ake _ hmb) ?_;intro w1 hI|refine YL ?_);refine ZP ?_))
    go_upto_region 7 with(fail)
    (refine aG [9] [] [9] [] [0,1,2,3,4,5,6,7] 8 [9] fE KF RF hI ?_;clear hI)
    (repeat((with_reducible refine' bN RF RF RF ?_ ?_ ?_);rotate_left;(focus(intro ex w (hI:Inv _ _ w _);go_wp2_with(first|refine YL ?_|go_at_call 23;refine KE (ag7 hI aM _) ?_;intro w1 hI);(try simp only[QN]);exact bM rfl hI));(focus(exact⟨_,rfl⟩))));refine bQ ?_;intro bx w hI;(simp only[QN]);(repeat(refine ZQ ?_;go_wp2_with(refine YS ?_;intro w hI);refine ZP ?_))
    (try rw[aaZ]at hI)
    (obtain⟨b4,hbx⟩:=EZ bx;subst hbx)
    go_upto_if 54 with(refine YL ?_)
    (try simp only[QN])
    go_cut [] (λwx=>∃Y5 S5,Hid ((if 0<gi (C.rowOf S4.book (X.f:Int)) 0 then fV X.f S4 (C.rowOf S4.book (X.f:Int))else S4)=S5)∧Hid (S5.view=S.view)∧Inv (aj X Y S).own w0 wx [aj X Y5 S5])
    case first=>
     cases hd:decide (0<gi rw_ 0)
     ·go_wp2_with(fail)
      go_meet
      case rel=>exact⟨_,S4,HD (by rw[aaZ,if_neg (by simpa using hd)]),hv4,hI.tl⟩
     ·go_wp2_with(first|refine YL ?_|go_at_call 82;refine KJ hI (xk _ X _ _ hX (hI.at_ aM) _ hrw) ?_;intro Y5 B5 w1 hB5 hI)
      go_meet
      case rel=>exact⟨_,{S4 with B:=B5},HD (by rw[aaZ,if_pos (by simpa using hd)];exact hB5.out),hv4,hI.tl⟩
    case rest=>
     clear hI;obtain⟨Y5,S5,hS5,hv5,hI⟩:=hcut;replace hF:=hF S5 hS5;have aej:S5.view.length=7:=by rw[hv5.out];exact ah5
     have aek:Hid (eG S5.view):=HD (by rw[hv5.out];exact hvw.out);clear hS5 hmb aaZ;obtain⟨vo,He⟩:=EQ S5.aB;cases vo with
     |none=>
      have hF2:Hid (sV X.f S=S5):=HD (by rw[hF.out,TW,He]);have hV:=HD He;clear hF He;go_wp2_with(refine YL ?_);rw[hF2.out];exact⟨rfl,_,h_ KF _ _,Y5,rfl,hI⟩
     |some V=>
      obtain⟨c,hc0⟩:=EQ (sub V.1 9 3);have hVl:=(aS hI aC).aB V He;have hcl:c.length=3:=by rw[<-hc0,az];omega
      obtain⟨⟨nv,ne⟩,qx⟩:=EQ (bK S5.view c);have hnl:nv.length=7:=by have:=Ay S5.view c aej;rw[qx]at this;exact this
      obtain⟨⟨S6,e1⟩,wo⟩:=EQ (cO X.f S5 c);have hF2:Hid (sV X.f S=if ne=0 then(if e1=0 then p_ X.f S6 (Ck S6)else S6)else S5):=HD (by rw[hF.out,TW,He];dsimp only;rw[hc0,qx,wo]);have hV:=HD He;have hnx:=HD qx;have hbe:=HD wo;have alM:Hid (eG S6.view):=HD (by have:=Gd X.f S5 c;rw[wo]at this;rw[this];exact aek.out);have Ws:e1=0->∃zs,S6.aB=some (zs,false):=λh=>by have:=Gf X.f S5 c (by rw[wo];exact h);rw[wo]at this;exact this
      clear hF He qx wo;by_cases hne:ne=0
      ·subst hne
       by_cases Dp:e1=0
       ·subst Dp
        obtain⟨zs,hV1⟩:=Ws rfl;obtain⟨V1,hVe⟩:=EQ ((zs,false):List Int×Bool);have hVp:V1.2=false:=by rw[<-hVe]
        rw[hVe]at hV1;have tY:Hid (sV X.f S=p_ X.f S6 V1):=HD (by rw[hF2.out,if_pos rfl,if_pos rfl,Ck,hV1];rfl);clear hF2 hVe Ws;go_upto_region 12 with(first|refine YS ?_;intro w hI|refine YX ?_;intro bx w hI|refine YL ?_|go_at_call 83;refine KE (zo hI aC (by with_unfolding_all exact hV)) ?_;intro w1 hI)
        (refine aG [10,11] [8] [10,11] [8] [0,1,2,3,4,5,6,7,8] 9 [10,11] fE KF RF hI ?_;clear hI)
        (repeat(first| ((with_reducible refine' bN RF RF RF ?_ ?_ ?_);rotate_left;(focus(intro ex w (hI:Inv _ _ w _);go_wp2_with(first|refine YL ?_|go_at_call 84;refine KD hI (jg _ _ _ aej hcl aek _ _ hnx) ?_;intro w1 hI);(try simp only[QN]);exact bM rfl hI));(focus(exact⟨_,rfl⟩))) | refine ZL ?_));refine bQ ?_;intro bx w hI;(simp only[QN]);(repeat(refine ZQ ?_;go_wp2_with(refine YS ?_;intro w hI);refine ZP ?_))
        go_wp2_with(first|refine YL ?_|go_at_call 85;refine KG hI (Dq _ X _ _ (hI.at_ a_) _ hcl _ _ hbe) ?_;intro Y6 w1 hI|go_at_call 86;refine KJ hI (Gc _ X _ _ hX (hI.at_ a_) V1 (by with_unfolding_all exact hV1) hVp _ alM RF) ?_;intro Y7 S7 w1 hS7 hI);rw[tY.out,hS7.out];exact⟨rfl,_,h_ KF _ _,Y7,rfl,hI.sub (.cons _ (.cons _ (.refl _)))⟩
       ·have tY:Hid (sV X.f S=S6):=HD (by rw[hF2.out,if_pos rfl,if_neg Dp])
        have hq:(e1==0)=false:=by simpa using Dp
        clear hF2 Ws;go_upto_region 12 with(first|refine YS ?_;intro w hI|refine YX ?_;intro bx w hI|refine YL ?_|go_at_call 83;refine KE (zo hI aC (by with_unfolding_all exact hV)) ?_;intro w1 hI)
        (refine aG [10,11] [8] [10,11] [8] [0,1,2,3,4,5,6,7,8] 9 [10,11] fE KF RF hI ?_;clear hI)
        (repeat(first| ((with_reducible refine' bN RF RF RF ?_ ?_ ?_);rotate_left;(focus(intro ex w (hI:Inv _ _ w _);go_wp2_with(first|refine YL ?_|go_at_call 84;refine KD hI (jg _ _ _ aej hcl aek _ _ hnx) ?_;intro w1 hI);(try simp only[QN]);exact bM rfl hI));(focus(exact⟨_,rfl⟩))) | refine ZL ?_));refine bQ ?_;intro bx w hI;(simp only[QN]);(repeat(refine ZQ ?_;go_wp2_with(refine YS ?_;intro w hI);refine ZP ?_))
        go_wp2_with(first|refine YL ?_|go_at_call 85;refine KG hI (Dq _ X _ _ (hI.at_ a_) _ hcl _ _ hbe) ?_;intro Y6 w1 hI);rw[tY.out];exact⟨rfl,_,h_ KF _ _,Y6,rfl,hI.sub (.cons _ (.cons _ (.refl _)))⟩
      ·have tY:Hid (sV X.f S=S5):=HD (by rw[hF2.out,if_neg hne])
       have hq:(ne==0)=false:=by simpa using hne
       clear hF2 Ws;go_upto_region 12 with(first|refine YS ?_;intro w hI|refine YX ?_;intro bx w hI|refine YL ?_|go_at_call 83;refine KE (zo hI aC (by with_unfolding_all exact hV)) ?_;intro w1 hI)
       (refine aG [10,11] [8] [10,11] [8] [0,1,2,3,4,5,6,7,8] 9 [10,11] fE KF RF hI ?_;clear hI)
       (repeat(first| ((with_reducible refine' bN RF RF RF ?_ ?_ ?_);rotate_left;(focus(intro ex w (hI:Inv _ _ w _);go_wp2_with(first|refine YL ?_|go_at_call 84;refine KD hI (jg _ _ _ aej hcl aek _ _ hnx) ?_;intro w1 hI);(try simp only[QN]);exact bM rfl hI));(focus(exact⟨_,rfl⟩))) | refine ZL ?_));refine bQ ?_;intro bx w hI;(simp only[QN]);(repeat(refine ZQ ?_;go_wp2_with(refine YS ?_;intro w hI);refine ZP ?_))
       go_wp2_with(fail);rw[tY.out];exact⟨rfl,_,h_ KF _ _,Y5,rfl,hI.sub (.cons _ (.cons _ (.refl _)))⟩
end
end
