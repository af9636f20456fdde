/- Contracts of functions. No condition. -/
import Derived.Test.YtdakkaapokhnnaaGreatDoorZ23
import Derived.Test.YtdakkaapokhnnaaGreatDoorZ27
namespace Go.Proofs.YtdakkaapokhnnaaGreatDoor
open Go.RowKit Go.Proofs.Tryz
set_option maxRecDepth 100000
set_option maxHeartbeats 6400000
set_option linter.all false
section
open B (aI bK kF)
theorem Gd(f S c):(cO f S c).1.view=S.view:=by
 grind[cO,cK]
theorem Q9(f S c):(cO f S c).1.aX=S.aX:=by
 grind[cO,cK]
theorem Gf(f S c)(h:(cO f S c).2=0):∃zs,(cO f S c).1.aB=some (zs,false):=by
 unfold cO at h|-;grind
section
variable (w0:World)(X:RX)(Y:RY)(S:RS)
theorem Dq(hI:Inv (aj X Y S).own w0 w0 [aj X Y S])(c)(hcl:c.length=3)(S1 e1)(hb:Hid (cO X.f S c=(S1,e1))):
  Calls prog 85 #[.pointer (some ⟨X.b,0,none⟩),ia c] w0 λe' w'=>∃Y',e'=.returned (.int .i64 e1)∧Inv (aj X Y S).own w0 w' [aj X Y' S1]:=by
 have h:=aeb w0 X Y S c hcl hI;rw[hb.out]at h;exact h
variable (hX:Bd X)
include hX
theorem aaS(op c)(hcl:c.length=3)(hvw:Hid (eG S.view))(hrl:S.aX.length<=1000000000)(hI:Inv (aj X Y S).own w0 w0 [aj X Y S]):
  Calls prog 67 #[.pointer (some ⟨X.b,0,none⟩),oV X,.int .i64 op,ia c] w0 λe' w'=>∃Y',e'=.returned (.int .i64 (jV X.f S op c).2)∧Inv (aj X Y S).own w0 w' [aj X Y' (jV X.f S op c).1]:=by
 have hvl:=(aS hI aC).view;obtain⟨⟨nv,ne⟩,qx⟩:=EQ (bK S.view c);have hnl:nv.length=7:=by have:=Ay S.view c hvl;rw[qx]at this;exact this
 have hnx:=HD qx;obtain⟨⟨S1,e1⟩,wo⟩:=EQ (cO X.f S c);have hbe:=HD wo;have KV:Hid (eG S1.view):=HD (by have:=Gd X.f S c;rw[wo]at this;rw[this];exact hvw.out);have aaT:S1.aX.length<=1000000000:=by have:=Q9 X.f S c;rw[wo]at this;rw[this];exact hrl
 have Ws:e1=0->∃zs,S1.aB=some (zs,false):=λh=>by have:=Gf X.f S c (by rw[wo];exact h);rw[wo]at this;exact this
 by_cases hne:ne=0
 ·subst hne
  obtain⟨vo,hV⟩:=EQ S.aB;cases vo with
  |some V0=>
   have hF:Hid (jV X.f S op c=(di S op 8 0,8)):=HD (by rw[jV,qx];dsimp only;rw[if_pos rfl,if_neg (by simp[hV])]);clear qx wo Ws;go_enter func67,ntmps67;go_upto_region 1 with(refine YX ?_;intro bx w hI)
   (refine aG [10,11] [8] [10,11] [8] [0,1,2,3,4,5,6,7,8] 9 [10,11] fE KF RF hI ?_;clear hI)
   (repeat(first| ((with_reducible refine' bN RF RF RF ?_ ?_ ?_);rotate_left;(focus(intro ex w (hI:Inv _ _ w _);go_wp2_with(first|refine YL ?_|go_at_call 84;refine KD hI (jg _ _ _ hvl hcl hvw _ _ hnx) ?_;intro w1 hI);(try simp only[QN]);exact bM rfl hI));(focus(exact⟨_,rfl⟩))) | refine ZL ?_));refine bQ ?_;intro bx w hI;(simp only[QN]);(repeat(refine ZQ ?_;go_wp2_with(refine YS ?_;intro w hI);refine ZP ?_))
   go_wp2_with(first|refine YL ?_|go_at_call 69;refine KG hI (qA _ X _ _ (hI.at_ a_) _ _ _ (by with_unfolding_all exact hrl)) ?_;intro Y2 w1 hI;dsimp only[di]at hI);go_ret;rw[hF.out];exact⟨Y2,rfl,hI.sub (.cons _ (.cons _ (.refl _)))⟩
  |none=>
   by_cases Dp:e1=0
   ·subst Dp
    obtain⟨zs,hV1⟩:=Ws rfl;obtain⟨V,hVe⟩:=EQ ((zs,false):List Int×Bool);have hVp:V.2=false:=by rw[<-hVe]
    rw[hVe]at hV1;have hF:Hid (jV X.f S op c=(p_ X.f (di S1 op 0 0) V,0)):=HD (by
     rw[jV,qx];dsimp only;rw[if_pos rfl,if_pos hV,wo];dsimp only;rw[if_pos rfl,Ck,hV1];rfl)
    clear qx wo Ws hVe;go_enter func67,ntmps67;go_upto_region 1 with(refine YX ?_;intro bx w hI)
    (refine aG [10,11] [8] [10,11] [8] [0,1,2,3,4,5,6,7,8] 9 [10,11] fE KF RF hI ?_;clear hI)
    (repeat(first| ((with_reducible refine' bN RF RF RF ?_ ?_ ?_);rotate_left;(focus(intro ex w (hI:Inv _ _ w _);go_wp2_with(first|refine YL ?_|go_at_call 84;refine KD hI (jg _ _ _ hvl hcl hvw _ _ hnx) ?_;intro w1 hI);(try simp only[QN]);exact bM rfl hI));(focus(exact⟨_,rfl⟩))) | refine ZL ?_));refine bQ ?_;intro bx w hI;(simp only[QN]);(repeat(refine ZQ ?_;go_wp2_with(refine YS ?_;intro w hI);refine ZP ?_))
    go_wp2_with(first|refine YL ?_|go_at_call 85;refine KG hI (Dq _ X _ _ (hI.at_ a_) _ hcl _ _ hbe) ?_;intro Y1 w1 hI|go_at_call 69;refine KG hI (qA _ X _ _ (hI.at_ a_) _ _ _ (by with_unfolding_all exact aaT)) ?_;intro Y2 w1 hI;dsimp only[di]at hI|go_at_call 86;refine KJ hI (Gc _ X _ _ hX (hI.at_ a_) V (by with_unfolding_all exact hV1) hVp _ KV RF) ?_;intro Y3 S3 w1 hS3 hI);go_ret;rw[hF.out];have e1:=hS3.out;dsimp only[di]at e1|-;rw[e1];exact⟨Y3,rfl,hI.sub (.cons _ (.cons _ (.refl _)))⟩
   ·have hF:Hid (jV X.f S op c=(di S1 op e1 0,e1)):=HD (by
     rw[jV,qx];dsimp only;rw[if_pos rfl,if_pos hV,wo];dsimp only;rw[if_neg Dp])
    have hq:(e1==0)=false:=by simpa using Dp
    clear qx wo Ws;go_enter func67,ntmps67;go_upto_region 1 with(refine YX ?_;intro bx w hI)
    (refine aG [10,11] [8] [10,11] [8] [0,1,2,3,4,5,6,7,8] 9 [10,11] fE KF RF hI ?_;clear hI)
    (repeat(first| ((with_reducible refine' bN RF RF RF ?_ ?_ ?_);rotate_left;(focus(intro ex w (hI:Inv _ _ w _);go_wp2_with(first|refine YL ?_|go_at_call 84;refine KD hI (jg _ _ _ hvl hcl hvw _ _ hnx) ?_;intro w1 hI);(try simp only[QN]);exact bM rfl hI));(focus(exact⟨_,rfl⟩))) | refine ZL ?_));refine bQ ?_;intro bx w hI;(simp only[QN]);(repeat(refine ZQ ?_;go_wp2_with(refine YS ?_;intro w hI);refine ZP ?_))
    go_wp2_with(first|refine YL ?_|go_at_call 85;refine KG hI (Dq _ X _ _ (hI.at_ a_) _ hcl _ _ hbe) ?_;intro Y1 w1 hI|go_at_call 69;refine KG hI (qA _ X _ _ (hI.at_ a_) _ _ _ (by with_unfolding_all exact aaT)) ?_;intro Y2 w1 hI;dsimp only[di]at hI);go_ret;rw[hF.out];exact⟨Y2,rfl,hI.sub (.cons _ (.cons _ (.refl _)))⟩
 ·have hF:Hid (jV X.f S op c=(di S op ne 0,ne)):=HD (by rw[jV,qx];dsimp only;rw[if_neg hne])
  have hq:(ne==0)=false:=by simpa using hne
  clear qx wo Ws;go_enter func67,ntmps67;go_upto_region 1 with(refine YX ?_;intro bx w hI)
  (refine aG [10,11] [8] [10,11] [8] [0,1,2,3,4,5,6,7,8] 9 [10,11] fE KF RF hI ?_;clear hI)
  (repeat(first| ((with_reducible refine' bN RF RF RF ?_ ?_ ?_);rotate_left;(focus(intro ex w (hI:Inv _ _ w _);go_wp2_with(first|refine YL ?_|go_at_call 84;refine KD hI (jg _ _ _ hvl hcl hvw _ _ hnx) ?_;intro w1 hI);(try simp only[QN]);exact bM rfl hI));(focus(exact⟨_,rfl⟩))) | refine ZL ?_));refine bQ ?_;intro bx w hI;(simp only[QN]);(repeat(refine ZQ ?_;go_wp2_with(refine YS ?_;intro w hI);refine ZP ?_))
  go_wp2_with(go_at_call 69;refine KG hI (qA _ X _ _ (hI.at_ a_) _ _ _ (by with_unfolding_all exact hrl)) ?_;intro Y2 w1 hI;dsimp only[di]at hI);go_ret;rw[hF.out];exact⟨Y2,rfl,hI.sub (.cons _ (.cons _ (.refl _)))⟩
end
end
