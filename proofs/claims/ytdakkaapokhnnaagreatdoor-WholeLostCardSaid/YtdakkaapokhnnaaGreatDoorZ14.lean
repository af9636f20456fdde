/- Contracts of functions. No condition. -/
import Derived.Test.YtdakkaapokhnnaaGreatDoorZ10
namespace Go.Proofs.YtdakkaapokhnnaaGreatDoor
open Go.RowKit Go.Proofs.Tryz
set_option maxRecDepth 100000
set_option maxHeartbeats 6400000
set_option linter.all false
def mY(bs:List UInt8):Option ((List Int×Bool)×List UInt8):=
 (jV 10 bs).bind λp=>match p.1 with
 |0=>(jV 5 p.2).bind λ(x1,c1)=>(jw c1).bind λ(x2,c2)=>some (((aB 0 ((x1:Nat):Int) (nn x2) 0 0 (aj 2) (aj 2) (aj 3) (aj 7)),(C.mi (nn x2))),c2)
 |1=>(fT p.2).bind λ(x1,c1)=>some (((aB 1 0 (aj 174) ((x1:Nat):Int) 0 (aj 2) (aj 2) (aj 3) (aj 7)),true),c1)
 |2=>(jV 5 p.2).bind λ(x1,c1)=>(jw c1).bind λ(x2,c2)=>some (((aB 2 ((x1:Nat):Int) (nn x2) 0 0 (aj 2) (aj 2) (aj 3) (aj 7)),(C.mi (nn x2))),c2)
 |3=>(fT p.2).bind λ(x1,c1)=>(bF dD c1).bind λ(x2,c2)=>some (((aB 3 0 (aj 174) 0 ((x1:Nat):Int) (nn x2) (aj 2) (aj 3) (aj 7)),true),c2)
 |4=>(fT p.2).bind λ(x1,c1)=>(bF dD c1).bind λ(x2,c2)=>(bF dD c2).bind λ(x3,c3)=>(bF jQ c3).bind λ(x4,c4)=>some (((aB 4 0 (aj 174) 0 ((x1:Nat):Int) (nn x2) (nn x3) (nn x4) (aj 7)),true),c4)
 |5=>(fT p.2).bind λ(x1,c1)=>(bF dD c1).bind λ(x2,c2)=>(bF jQ c2).bind λ(x3,c3)=>some (((aB 5 0 (aj 174) 0 ((x1:Nat):Int) (nn x2) (aj 2) (nn x3) (aj 7)),true),c3)
 |6=>(fT p.2).bind λ(x1,c1)=>(bF dD c1).bind λ(x2,c2)=>some (((aB 6 0 (aj 174) 0 ((x1:Nat):Int) (nn x2) (aj 2) (aj 3) (aj 7)),true),c2)
 |7=>(bF kz p.2).bind λ(x1,c1)=>some (((aB 7 0 (aj 174) 0 0 (aj 2) (aj 2) (aj 3) (nn x1)),(lG (nn x1))),c1)
 |8=>(jV 5 p.2).bind λ(x1,c1)=>(bF kz c1).bind λ(x2,c2)=>some (((aB 8 ((x1:Nat):Int) (aj 174) 0 0 (aj 2) (aj 2) (aj 3) (nn x2)),(lG (nn x2))),c2)
 |9=>(jV 5 p.2).bind λ(x1,c1)=>(jw c1).bind λ(x2,c2)=>some (((aB 9 ((x1:Nat):Int) (nn x2) 0 0 (aj 2) (aj 2) (aj 3) (aj 7)),(C.mi (nn x2))),c2)
 |_=>none
def Bo(w0:World)(pr:Nat)(ab:Option Nat)(bs:List UInt8)(e:Ending)(w':World):Prop:=
 (∃z b cs,mY bs=some ((z,b),cs)∧z.length=192∧e=.returned (.tuple #[ia z,.bool b])∧Inv (d_ pr ab bs).own w0 w' [d_ pr ab cs])∨(mY bs=none∧e=.panicked Jp∧∃cs,Inv (d_ pr ab bs).own w0 w' [d_ pr ab cs])
section
variable (w0:World)(pr:Nat)(ab:Option Nat)(bs:List UInt8)(hI:Inv (d_ pr ab bs).own w0 w0 [d_ pr ab bs])
include hI
theorem Wl(h0:Hid (jV 10 bs=none)):Calls prog 114 #[.pointer (some ⟨pr,0,none⟩)] w0 (Bo w0 pr ab bs):=by
 go_enter func114,ntmps114;go_wp2_with(first|go_at_call 136;refine KN hI (j5 _ pr ab _ _ _ (hI.sat _ aM) (hI.nd aM) (by exact h0.out) OM) ?_;intro Cq w1 hI|refine YX ?_;intro bx w hI);exact⟨rfl,.inr ⟨by simp only[mY,h0.out,Option.bind_none],rfl,_,hI.sub SB⟩⟩
theorem aeb(c0:List UInt8)(h0:Hid (jV 10 bs=some (0,c0))):Calls prog 114 #[.pointer (some ⟨pr,0,none⟩)] w0 (Bo w0 pr ab bs):=by
 have p8:Hid (((0:Nat):Int)=0):=HD rfl;have hbd:Hid (dF (aj 192) 0 (av (aj 192) [(0,[0])])=(aB 0 0 (aj 174) 0 0 (aj 2) (aj 2) (aj 3) (aj 7))):=HD (by rw[iZ _ _ (by simp[av,aY,aa]),av,av,eG,bD]);have hbw:Hid (av (aj 192) [(0,[0])]=(aB 0 0 (aj 174) 0 0 (aj 2) (aj 2) (aj 3) (aj 7))):=HD (by rw[av,av,eG,bD]);have jU:Hid (gi (aB 0 0 (aj 174) 0 0 (aj 2) (aj 2) (aj 3) (aj 7)) 0=0):=HD aC;rcases h1:jV 5 c0 with _| ⟨x1,c1⟩
 ·exact W6
 ·replace h1:=HD h1
  rcases h2:jw c1 with _| ⟨x2,c2⟩
  ·exact W8
  ·have hl2:(nn x2).length=174:=by rw[cB];exact mZ h2
   replace h2:=HD h2;have hl1:=aa 0;have hl3:=aa 0;have hl4:=aa 0;go_enter func114,ntmps114;go_upto_region 2 with(first|go_at_call 136;refine KC iR hI (cK _ pr ab _ _ _ _ (hI.sat _ aM) (hI.nd aM) h0.out OM p8.out) ?_;intro w1 hI|refine YS ?_;intro w hI|refine YX ?_;intro bx w hI|refine YL ?_)
   rw[hbw.out]at hI;go_upto_region 3 with(refine YL ?_)
   rw[jU.out];go_upto_region 8 with(first|go_at_call 136;refine KC pg hI (dK _ pr ab _ _ _ (hI.sat _ aX) (hI.nd aX) (by exact h1.out) OM) ?_;intro w1 hI|go_at_call 137;refine KI hI (qZ.yes (u6 _ pr ab _ (hI.sat _ aX) (hI.nd aX)) (vI (by exact h2.out))) ?_;intro w1 hI|refine YS ?_;intro w hI)
   simp only[aa,fD,fE,fF,eX,ek,eY,eu,eB,bO,bE,dP,dh,dx,hl1,hl2,hl3,hl4]at hI
   (obtain⟨bz,hbz⟩:=EZ bx)
   (refine ZR [3,4,5] [0] [3] [0,1,2,3,4,5] (λw=>Inv (d_ pr ab bs).own w0 w [ib bx 158 (aB 0 ((x1:Nat):Int) (nn x2) 0 0 (aj 2) (aj 2) (aj 3) (aj 7))]) hI ?_;intro wd hI)
   exact W9
theorem aec(c0:List UInt8)(h0:Hid (jV 10 bs=some (1,c0))):Calls prog 114 #[.pointer (some ⟨pr,0,none⟩)] w0 (Bo w0 pr ab bs):=by
 have p8:Hid (((1:Nat):Int)=1):=HD rfl;have hbd:Hid (dF (aj 192) 0 (av (aj 192) [(0,[1])])=(aB 1 0 (aj 174) 0 0 (aj 2) (aj 2) (aj 3) (aj 7))):=HD (by rw[iZ _ _ (by simp[av,aY,aa]),av,av,eG,bD]);have hbw:Hid (av (aj 192) [(0,[1])]=(aB 1 0 (aj 174) 0 0 (aj 2) (aj 2) (aj 3) (aj 7))):=HD (by rw[av,av,eG,bD]);have jU:Hid (gi (aB 1 0 (aj 174) 0 0 (aj 2) (aj 2) (aj 3) (aj 7)) 0=1):=HD aC;rcases h1:fT c0 with _| ⟨x1,c1⟩
 ·exact W10
 ·replace h1:=HD h1
  have hl1:=aa 0;have hl2:=aa 0;have hl3:=aa 0;have hl4:=aa 0;go_enter func114,ntmps114;go_upto_region 2 with(first|go_at_call 136;refine KC iR hI (cK _ pr ab _ _ _ _ (hI.sat _ aM) (hI.nd aM) h0.out OM p8.out) ?_;intro w1 hI|refine YS ?_;intro w hI|refine YX ?_;intro bx w hI|refine YL ?_)
  rw[hbw.out]at hI;go_upto_region 3 with(refine YL ?_)
  rw[jU.out];go_wp2_with(first|go_at_call 138;refine KC pg hI (gK _ pr ab _ (by exact h1.out) (hI.sat _ aX) (hI.nd aX)) ?_;intro w1 hI|refine YL ?_|refine YS ?_;intro w hI);simp only[aa,fD,fE,fF,eX,ek,eY,eu,eB,bO,bE,dP,dh,dx,hl1,hl2,hl3,hl4]at hI;exact W56
theorem aed(c0:List UInt8)(h0:Hid (jV 10 bs=some (2,c0))):Calls prog 114 #[.pointer (some ⟨pr,0,none⟩)] w0 (Bo w0 pr ab bs):=by
 have p8:Hid (((2:Nat):Int)=2):=HD rfl;have hbd:Hid (dF (aj 192) 0 (av (aj 192) [(0,[2])])=(aB 2 0 (aj 174) 0 0 (aj 2) (aj 2) (aj 3) (aj 7))):=HD (by rw[iZ _ _ (by simp[av,aY,aa]),av,av,eG,bD]);have hbw:Hid (av (aj 192) [(0,[2])]=(aB 2 0 (aj 174) 0 0 (aj 2) (aj 2) (aj 3) (aj 7))):=HD (by rw[av,av,eG,bD]);have jU:Hid (gi (aB 2 0 (aj 174) 0 0 (aj 2) (aj 2) (aj 3) (aj 7)) 0=2):=HD aC;rcases h1:jV 5 c0 with _| ⟨x1,c1⟩
 ·exact W6
 ·replace h1:=HD h1
  rcases h2:jw c1 with _| ⟨x2,c2⟩
  ·exact W8
  ·have hl2:(nn x2).length=174:=by rw[cB];exact mZ h2
   replace h2:=HD h2;have hl1:=aa 0;have hl3:=aa 0;have hl4:=aa 0;go_enter func114,ntmps114;go_upto_region 2 with(first|go_at_call 136;refine KC iR hI (cK _ pr ab _ _ _ _ (hI.sat _ aM) (hI.nd aM) h0.out OM p8.out) ?_;intro w1 hI|refine YS ?_;intro w hI|refine YX ?_;intro bx w hI|refine YL ?_)
   rw[hbw.out]at hI;go_upto_region 3 with(refine YL ?_)
   rw[jU.out];go_upto_region 8 with(first|go_at_call 136;refine KC pg hI (dK _ pr ab _ _ _ (hI.sat _ aX) (hI.nd aX) (by exact h1.out) OM) ?_;intro w1 hI|go_at_call 137;refine KI hI (qZ.yes (u6 _ pr ab _ (hI.sat _ aX) (hI.nd aX)) (vI (by exact h2.out))) ?_;intro w1 hI|refine YS ?_;intro w hI)
   simp only[aa,fD,fE,fF,eX,ek,eY,eu,eB,bO,bE,dP,dh,dx,hl1,hl2,hl3,hl4]at hI
   (obtain⟨bz,hbz⟩:=EZ bx)
   (refine ZR [3,4,5] [0] [3] [0,1,2,3,4,5] (λw=>Inv (d_ pr ab bs).own w0 w [ib bx 158 (aB 2 ((x1:Nat):Int) (nn x2) 0 0 (aj 2) (aj 2) (aj 3) (aj 7))]) hI ?_;intro wd hI)
   exact W9
theorem aee(c0:List UInt8)(h0:Hid (jV 10 bs=some (3,c0))):Calls prog 114 #[.pointer (some ⟨pr,0,none⟩)] w0 (Bo w0 pr ab bs):=by
 have p8:Hid (((3:Nat):Int)=3):=HD rfl;have hbd:Hid (dF (aj 192) 0 (av (aj 192) [(0,[3])])=(aB 3 0 (aj 174) 0 0 (aj 2) (aj 2) (aj 3) (aj 7))):=HD (by rw[iZ _ _ (by simp[av,aY,aa]),av,av,eG,bD]);have hbw:Hid (av (aj 192) [(0,[3])]=(aB 3 0 (aj 174) 0 0 (aj 2) (aj 2) (aj 3) (aj 7))):=HD (by rw[av,av,eG,bD]);have jU:Hid (gi (aB 3 0 (aj 174) 0 0 (aj 2) (aj 2) (aj 3) (aj 7)) 0=3):=HD aC;exact W4
theorem aef(c0:List UInt8)(h0:Hid (jV 10 bs=some (4,c0))):Calls prog 114 #[.pointer (some ⟨pr,0,none⟩)] w0 (Bo w0 pr ab bs):=by
 have p8:Hid (((4:Nat):Int)=4):=HD rfl;have hbd:Hid (dF (aj 192) 0 (av (aj 192) [(0,[4])])=(aB 4 0 (aj 174) 0 0 (aj 2) (aj 2) (aj 3) (aj 7))):=HD (by rw[iZ _ _ (by simp[av,aY,aa]),av,av,eG,bD]);have hbw:Hid (av (aj 192) [(0,[4])]=(aB 4 0 (aj 174) 0 0 (aj 2) (aj 2) (aj 3) (aj 7))):=HD (by rw[av,av,eG,bD]);have jU:Hid (gi (aB 4 0 (aj 174) 0 0 (aj 2) (aj 2) (aj 3) (aj 7)) 0=4):=HD aC;rcases h1:fT c0 with _| ⟨x1,c1⟩
 ·exact W10
 ·replace h1:=HD h1
  rcases h2:bF dD c1 with _| ⟨x2,c2⟩
  ·exact W16
  ·have hl2:(nn x2).length=2:=by rw[cB];exact dN h2
   replace h2:=HD h2;rcases h3:bF dD c2 with _| ⟨x3,c3⟩
   ·replace h3:=HD h3
    have hl1:=aa 0;have hl3:=aa 0;have hl4:=aa 0;go_enter func114,ntmps114;go_upto_region 2 with(first|go_at_call 136;refine KC iR hI (cK _ pr ab _ _ _ _ (hI.sat _ aM) (hI.nd aM) h0.out OM p8.out) ?_;intro w1 hI|refine YS ?_;intro w hI|refine YX ?_;intro bx w hI|refine YL ?_)
    rw[hbw.out]at hI;go_upto_region 3 with(refine YL ?_)
    rw[jU.out];go_wp2_with(first|go_at_call 139;refine KN hI (qZ.no (iq _ pr ab _ (hI.sat _ aX) (hI.nd aX)) (lM (by exact h3.out))) ?_;intro Cq w1 hI|go_at_call 138;refine KC pg hI (gK _ pr ab _ (by exact h1.out) (hI.sat _ aX) (hI.nd aX)) ?_;intro w1 hI|go_at_call 139;refine KI hI (qZ.yes (iq _ pr ab _ (hI.sat _ aX) (hI.nd aX)) (iF (by exact h2.out))) ?_;intro w1 hI|refine YS ?_;intro w hI);exact W86
   ·have hl3:(nn x3).length=2:=by rw[cB];exact dN h3
    replace h3:=HD h3;rcases h4:bF jQ c3 with _| ⟨x4,c4⟩
    ·replace h4:=HD h4
     have hl1:=aa 0;have hl4:=aa 0;go_enter func114,ntmps114;go_upto_region 2 with(first|go_at_call 136;refine KC iR hI (cK _ pr ab _ _ _ _ (hI.sat _ aM) (hI.nd aM) h0.out OM p8.out) ?_;intro w1 hI|refine YS ?_;intro w hI|refine YX ?_;intro bx w hI|refine YL ?_)
     rw[hbw.out]at hI;go_upto_region 3 with(refine YL ?_)
     rw[jU.out];go_wp2_with(first|go_at_call 140;refine KN hI (qZ.no (p9 _ pr ab _ (hI.sat _ aX) (hI.nd aX)) (lM (by exact h4.out))) ?_;intro Cq w1 hI|go_at_call 138;refine KC pg hI (gK _ pr ab _ (by exact h1.out) (hI.sat _ aX) (hI.nd aX)) ?_;intro w1 hI|go_at_call 139;refine KI hI (qZ.yes (iq _ pr ab _ (hI.sat _ aX) (hI.nd aX)) (iF (by first|exact h2.out|exact h3.out))) ?_;intro w1 hI|refine YS ?_;intro w hI);exact⟨rfl,.inr ⟨by simp only[mY,h0.out,h1.out,h2.out,h3.out,h4.out,Option.bind_some,Option.bind_none],rfl,_,hI.sub SB⟩⟩
    ·have hl4:(nn x4).length=3:=by rw[cB];exact dN h4
     replace h4:=HD h4;have hl1:=aa 0;go_enter func114,ntmps114;go_upto_region 2 with(first|go_at_call 136;refine KC iR hI (cK _ pr ab _ _ _ _ (hI.sat _ aM) (hI.nd aM) h0.out OM p8.out) ?_;intro w1 hI|refine YS ?_;intro w hI|refine YX ?_;intro bx w hI|refine YL ?_)
     rw[hbw.out]at hI;go_upto_region 3 with(refine YL ?_)
     rw[jU.out];go_wp2_with(first|go_at_call 138;refine KC pg hI (gK _ pr ab _ (by exact h1.out) (hI.sat _ aX) (hI.nd aX)) ?_;intro w1 hI|go_at_call 139;refine KI hI (qZ.yes (iq _ pr ab _ (hI.sat _ aX) (hI.nd aX)) (iF (by first|exact h2.out|exact h3.out))) ?_;intro w1 hI|go_at_call 140;refine KI hI (qZ.yes (p9 _ pr ab _ (hI.sat _ aX) (hI.nd aX)) (iF (by exact h4.out))) ?_;intro w1 hI|refine YL ?_|refine YS ?_;intro w hI);simp only[aa,fD,fE,fF,eX,ek,eY,eu,eB,bO,bE,dP,dh,dx,hl1,hl2,hl3,hl4]at hI;exact bodyPost_ret (aF hI rfl rfl aM (bG.out (t:=158)) (by simp only[fo,aa,hl1,hl2,hl3,hl4])) rfl (.inl ⟨_,_,_,(by simp only[mY,h0.out,h1.out,h2.out,h3.out,h4.out,Option.bind_some];rfl),(by simp only[fo,aa,hl1,hl2,hl3,hl4]),rfl,hI.sub SB⟩)
theorem aeg(c0:List UInt8)(h0:Hid (jV 10 bs=some (5,c0))):Calls prog 114 #[.pointer (some ⟨pr,0,none⟩)] w0 (Bo w0 pr ab bs):=by
 have p8:Hid (((5:Nat):Int)=5):=HD rfl;have hbd:Hid (dF (aj 192) 0 (av (aj 192) [(0,[5])])=(aB 5 0 (aj 174) 0 0 (aj 2) (aj 2) (aj 3) (aj 7))):=HD (by rw[iZ _ _ (by simp[av,aY,aa]),av,av,eG,bD]);have hbw:Hid (av (aj 192) [(0,[5])]=(aB 5 0 (aj 174) 0 0 (aj 2) (aj 2) (aj 3) (aj 7))):=HD (by rw[av,av,eG,bD]);have jU:Hid (gi (aB 5 0 (aj 174) 0 0 (aj 2) (aj 2) (aj 3) (aj 7)) 0=5):=HD aC;rcases h1:fT c0 with _| ⟨x1,c1⟩
 ·exact W10
 ·replace h1:=HD h1
  rcases h2:bF dD c1 with _| ⟨x2,c2⟩
  ·exact W16
  ·have hl2:(nn x2).length=2:=by rw[cB];exact dN h2
   replace h2:=HD h2;rcases h3:bF jQ c2 with _| ⟨x3,c3⟩
   ·replace h3:=HD h3
    have hl1:=aa 0;have hl3:=aa 0;have hl4:=aa 0;go_enter func114,ntmps114;go_upto_region 2 with(first|go_at_call 136;refine KC iR hI (cK _ pr ab _ _ _ _ (hI.sat _ aM) (hI.nd aM) h0.out OM p8.out) ?_;intro w1 hI|refine YS ?_;intro w hI|refine YX ?_;intro bx w hI|refine YL ?_)
    rw[hbw.out]at hI;go_upto_region 3 with(refine YL ?_)
    rw[jU.out];go_wp2_with(first|go_at_call 140;refine KN hI (qZ.no (p9 _ pr ab _ (hI.sat _ aX) (hI.nd aX)) (lM (by exact h3.out))) ?_;intro Cq w1 hI|go_at_call 138;refine KC pg hI (gK _ pr ab _ (by exact h1.out) (hI.sat _ aX) (hI.nd aX)) ?_;intro w1 hI|go_at_call 139;refine KI hI (qZ.yes (iq _ pr ab _ (hI.sat _ aX) (hI.nd aX)) (iF (by exact h2.out))) ?_;intro w1 hI|refine YS ?_;intro w hI);exact W86
   ·have hl3:(nn x3).length=3:=by rw[cB];exact dN h3
    replace h3:=HD h3;have hl1:=aa 0;have hl4:=aa 0;go_enter func114,ntmps114;go_upto_region 2 with(first|go_at_call 136;refine KC iR hI (cK _ pr ab _ _ _ _ (hI.sat _ aM) (hI.nd aM) h0.out OM p8.out) ?_;intro w1 hI|refine YS ?_;intro w hI|refine YX ?_;intro bx w hI|refine YL ?_)
    rw[hbw.out]at hI;go_upto_region 3 with(refine YL ?_)
    rw[jU.out];go_wp2_with(first|go_at_call 138;refine KC pg hI (gK _ pr ab _ (by exact h1.out) (hI.sat _ aX) (hI.nd aX)) ?_;intro w1 hI|go_at_call 139;refine KI hI (qZ.yes (iq _ pr ab _ (hI.sat _ aX) (hI.nd aX)) (iF (by exact h2.out))) ?_;intro w1 hI|go_at_call 140;refine KI hI (qZ.yes (p9 _ pr ab _ (hI.sat _ aX) (hI.nd aX)) (iF (by exact h3.out))) ?_;intro w1 hI|refine YL ?_|refine YS ?_;intro w hI);simp only[aa,fD,fE,fF,eX,ek,eY,eu,eB,bO,bE,dP,dh,dx,hl1,hl2,hl3,hl4]at hI;exact bodyPost_ret (aF hI rfl rfl aM (bG.out (t:=158)) (by simp only[fo,aa,hl1,hl2,hl3,hl4])) rfl (.inl ⟨_,_,_,(by simp only[mY,h0.out,h1.out,h2.out,h3.out,Option.bind_some];rfl),(by simp only[fo,aa,hl1,hl2,hl3,hl4]),rfl,hI.sub SB⟩)
theorem aeh(c0:List UInt8)(h0:Hid (jV 10 bs=some (6,c0))):Calls prog 114 #[.pointer (some ⟨pr,0,none⟩)] w0 (Bo w0 pr ab bs):=by
 have p8:Hid (((6:Nat):Int)=6):=HD rfl;have hbd:Hid (dF (aj 192) 0 (av (aj 192) [(0,[6])])=(aB 6 0 (aj 174) 0 0 (aj 2) (aj 2) (aj 3) (aj 7))):=HD (by rw[iZ _ _ (by simp[av,aY,aa]),av,av,eG,bD]);have hbw:Hid (av (aj 192) [(0,[6])]=(aB 6 0 (aj 174) 0 0 (aj 2) (aj 2) (aj 3) (aj 7))):=HD (by rw[av,av,eG,bD]);have jU:Hid (gi (aB 6 0 (aj 174) 0 0 (aj 2) (aj 2) (aj 3) (aj 7)) 0=6):=HD aC;exact W4
theorem aei(c0:List UInt8)(h0:Hid (jV 10 bs=some (7,c0))):Calls prog 114 #[.pointer (some ⟨pr,0,none⟩)] w0 (Bo w0 pr ab bs):=by
 have p8:Hid (((7:Nat):Int)=7):=HD rfl;have hbd:Hid (dF (aj 192) 0 (av (aj 192) [(0,[7])])=(aB 7 0 (aj 174) 0 0 (aj 2) (aj 2) (aj 3) (aj 7))):=HD (by rw[iZ _ _ (by simp[av,aY,aa]),av,av,eG,bD]);have hbw:Hid (av (aj 192) [(0,[7])]=(aB 7 0 (aj 174) 0 0 (aj 2) (aj 2) (aj 3) (aj 7))):=HD (by rw[av,av,eG,bD]);have jU:Hid (gi (aB 7 0 (aj 174) 0 0 (aj 2) (aj 2) (aj 3) (aj 7)) 0=7):=HD aC;rcases h1:bF kz c0 with _| ⟨x1,c1⟩
 ·replace h1:=HD h1
  have hl1:=aa 0;have hl2:=aa 0;have hl3:=aa 0;have hl4:=aa 0;go_enter func114,ntmps114;go_upto_region 2 with(first|go_at_call 136;refine KC iR hI (cK _ pr ab _ _ _ _ (hI.sat _ aM) (hI.nd aM) h0.out OM p8.out) ?_;intro w1 hI|refine YS ?_;intro w hI|refine YX ?_;intro bx w hI|refine YL ?_)
  rw[hbw.out]at hI;go_upto_region 3 with(refine YL ?_)
  rw[jU.out];go_wp2_with(go_at_call 141;refine KN hI (qZ.no (vZ _ pr ab _ (hI.sat _ aX) (hI.nd aX)) (lM (by exact h1.out))) ?_;intro Cq w1 hI);exact⟨rfl,.inr ⟨by simp only[mY,h0.out,h1.out,Option.bind_some,Option.bind_none],rfl,_,hI.sub SB⟩⟩
 ·have hl1:(nn x1).length=7:=by rw[cB];exact dN h1
  have hvb:Hid (∀i,-9223372036854775808<gi (nn x1) i∧gi (nn x1) i<=9223372036854775807):=HD (NF (y_ DC h1));replace h1:=HD h1;have hl2:=aa 0;have hl3:=aa 0;have hl4:=aa 0;go_enter func114,ntmps114;go_upto_region 2 with(first|go_at_call 136;refine KC iR hI (cK _ pr ab _ _ _ _ (hI.sat _ aM) (hI.nd aM) h0.out OM p8.out) ?_;intro w1 hI|refine YS ?_;intro w hI|refine YX ?_;intro bx w hI|refine YL ?_)
  rw[hbw.out]at hI;go_upto_region 3 with(refine YL ?_)
  rw[jU.out];go_upto_region 26 with(first|go_at_call 141;refine KI hI (qZ.yes (vZ _ pr ab _ (hI.sat _ aX) (hI.nd aX)) (iF (by exact h1.out))) ?_;intro w1 hI|refine YS ?_;intro w hI)
  simp only[aa,fD,fE,fF,eX,ek,eY,eu,eB,bO,bE,dP,dh,dx,hl1,hl2,hl3,hl4]at hI
  (obtain⟨bz,hbz⟩:=EZ bx)
  (refine ZR [3,4,5] [0] [3] [0,1,2,3,4,5] (λw=>Inv (d_ pr ab bs).own w0 w [ib bx 158 (aB 7 0 (aj 174) 0 0 (aj 2) (aj 2) (aj 3) (nn x1))]) hI ?_;intro wd hI)
  (repeat(first|refine ZS ?_|refine ZQ ?_;go_wp2_with(first|refine YS ?_;intro w hI|go_at_call 142;refine KD hI (DL _ _ _ (by simp only[aa,fD,fE,fF,eX,ek,eY,eu,eB,bO,bE,dP,dh,dx,hl1,hl2,hl3,hl4]) (by exact hl1) hvb.out) ?_;intro w1 hI|refine YL ?_);refine ZP ?_))
  simp only[aa,fD,fE,fF,eX,ek,eY,eu,eB,bO,bE,dP,dh,dx,hl1,hl2,hl3,hl4]at hI|-;go_wp2_with(fail);exact W56
theorem aej(c0:List UInt8)(h0:Hid (jV 10 bs=some (8,c0))):Calls prog 114 #[.pointer (some ⟨pr,0,none⟩)] w0 (Bo w0 pr ab bs):=by
 have p8:Hid (((8:Nat):Int)=8):=HD rfl;have hbd:Hid (dF (aj 192) 0 (av (aj 192) [(0,[8])])=(aB 8 0 (aj 174) 0 0 (aj 2) (aj 2) (aj 3) (aj 7))):=HD (by rw[iZ _ _ (by simp[av,aY,aa]),av,av,eG,bD]);have hbw:Hid (av (aj 192) [(0,[8])]=(aB 8 0 (aj 174) 0 0 (aj 2) (aj 2) (aj 3) (aj 7))):=HD (by rw[av,av,eG,bD]);have jU:Hid (gi (aB 8 0 (aj 174) 0 0 (aj 2) (aj 2) (aj 3) (aj 7)) 0=8):=HD aC;rcases h1:jV 5 c0 with _| ⟨x1,c1⟩
 ·exact W6
 ·replace h1:=HD h1
  rcases h2:bF kz c1 with _| ⟨x2,c2⟩
  ·replace h2:=HD h2
   have hl1:=aa 0;have hl2:=aa 0;have hl3:=aa 0;have hl4:=aa 0;go_enter func114,ntmps114;go_upto_region 2 with(first|go_at_call 136;refine KC iR hI (cK _ pr ab _ _ _ _ (hI.sat _ aM) (hI.nd aM) h0.out OM p8.out) ?_;intro w1 hI|refine YS ?_;intro w hI|refine YX ?_;intro bx w hI|refine YL ?_)
   rw[hbw.out]at hI;go_upto_region 3 with(refine YL ?_)
   rw[jU.out];go_wp2_with(first|go_at_call 141;refine KN hI (qZ.no (vZ _ pr ab _ (hI.sat _ aX) (hI.nd aX)) (lM (by exact h2.out))) ?_;intro Cq w1 hI|go_at_call 136;refine KC pg hI (dK _ pr ab _ _ _ (hI.sat _ aX) (hI.nd aX) (by exact h1.out) OM) ?_;intro w1 hI|refine YS ?_;intro w hI);exact⟨rfl,.inr ⟨by simp only[mY,h0.out,h1.out,h2.out,Option.bind_some,Option.bind_none],rfl,_,hI.sub SB⟩⟩
  ·have hl2:(nn x2).length=7:=by rw[cB];exact dN h2
   have hvb:Hid (∀i,-9223372036854775808<gi (nn x2) i∧gi (nn x2) i<=9223372036854775807):=HD (NF (y_ DC h2));replace h2:=HD h2;have hl1:=aa 0;have hl3:=aa 0;have hl4:=aa 0;go_enter func114,ntmps114;go_upto_region 2 with(first|go_at_call 136;refine KC iR hI (cK _ pr ab _ _ _ _ (hI.sat _ aM) (hI.nd aM) h0.out OM p8.out) ?_;intro w1 hI|refine YS ?_;intro w hI|refine YX ?_;intro bx w hI|refine YL ?_)
   rw[hbw.out]at hI;go_upto_region 3 with(refine YL ?_)
   rw[jU.out];go_upto_region 30 with(first|go_at_call 136;refine KC pg hI (dK _ pr ab _ _ _ (hI.sat _ aX) (hI.nd aX) (by exact h1.out) OM) ?_;intro w1 hI|go_at_call 141;refine KI hI (qZ.yes (vZ _ pr ab _ (hI.sat _ aX) (hI.nd aX)) (iF (by exact h2.out))) ?_;intro w1 hI|refine YS ?_;intro w hI)
   simp only[aa,fD,fE,fF,eX,ek,eY,eu,eB,bO,bE,dP,dh,dx,hl1,hl2,hl3,hl4]at hI
   (obtain⟨bz,hbz⟩:=EZ bx)
   (refine ZR [3,4,5] [0] [3] [0,1,2,3,4,5] (λw=>Inv (d_ pr ab bs).own w0 w [ib bx 158 (aB 8 ((x1:Nat):Int) (aj 174) 0 0 (aj 2) (aj 2) (aj 3) (nn x2))]) hI ?_;intro wd hI)
   (repeat(first|refine ZS ?_|refine ZQ ?_;go_wp2_with(first|refine YS ?_;intro w hI|go_at_call 142;refine KD hI (DL _ _ _ (by simp only[aa,fD,fE,fF,eX,ek,eY,eu,eB,bO,bE,dP,dh,dx,hl1,hl2,hl3,hl4]) (by exact hl2) hvb.out) ?_;intro w1 hI|refine YL ?_);refine ZP ?_))
   simp only[aa,fD,fE,fF,eX,ek,eY,eu,eB,bO,bE,dP,dh,dx,hl1,hl2,hl3,hl4]at hI|-;go_wp2_with(fail);exact bodyPost_ret (aF hI rfl rfl aM (bG.out (t:=158)) (by simp only[fo,aa,hl1,hl2,hl3,hl4])) rfl (.inl ⟨_,_,_,(by simp only[mY,h0.out,h1.out,h2.out,Option.bind_some];rfl),(by simp only[fo,aa,hl1,hl2,hl3,hl4]),rfl,hI.sub SB⟩)
theorem aek(c0:List UInt8)(h0:Hid (jV 10 bs=some (9,c0))):Calls prog 114 #[.pointer (some ⟨pr,0,none⟩)] w0 (Bo w0 pr ab bs):=by
 have p8:Hid (((9:Nat):Int)=9):=HD rfl;have hbd:Hid (dF (aj 192) 0 (av (aj 192) [(0,[9])])=(aB 9 0 (aj 174) 0 0 (aj 2) (aj 2) (aj 3) (aj 7))):=HD (by rw[iZ _ _ (by simp[av,aY,aa]),av,av,eG,bD]);have hbw:Hid (av (aj 192) [(0,[9])]=(aB 9 0 (aj 174) 0 0 (aj 2) (aj 2) (aj 3) (aj 7))):=HD (by rw[av,av,eG,bD]);have jU:Hid (gi (aB 9 0 (aj 174) 0 0 (aj 2) (aj 2) (aj 3) (aj 7)) 0=9):=HD aC;rcases h1:jV 5 c0 with _| ⟨x1,c1⟩
 ·exact W6
 ·replace h1:=HD h1
  rcases h2:jw c1 with _| ⟨x2,c2⟩
  ·exact W8
  ·have hl2:(nn x2).length=174:=by rw[cB];exact mZ h2
   replace h2:=HD h2;have hl1:=aa 0;have hl3:=aa 0;have hl4:=aa 0;go_enter func114,ntmps114;go_upto_region 2 with(first|go_at_call 136;refine KC iR hI (cK _ pr ab _ _ _ _ (hI.sat _ aM) (hI.nd aM) h0.out OM p8.out) ?_;intro w1 hI|refine YS ?_;intro w hI|refine YX ?_;intro bx w hI|refine YL ?_)
   rw[hbw.out]at hI;go_upto_region 3 with(refine YL ?_)
   rw[jU.out];go_upto_region 8 with(first|go_at_call 136;refine KC pg hI (dK _ pr ab _ _ _ (hI.sat _ aX) (hI.nd aX) (by exact h1.out) OM) ?_;intro w1 hI|go_at_call 137;refine KI hI (qZ.yes (u6 _ pr ab _ (hI.sat _ aX) (hI.nd aX)) (vI (by exact h2.out))) ?_;intro w1 hI|refine YS ?_;intro w hI)
   simp only[aa,fD,fE,fF,eX,ek,eY,eu,eB,bO,bE,dP,dh,dx,hl1,hl2,hl3,hl4]at hI
   (obtain⟨bz,hbz⟩:=EZ bx)
   (refine ZR [3,4,5] [0] [3] [0,1,2,3,4,5] (λw=>Inv (d_ pr ab bs).own w0 w [ib bx 158 (aB 9 ((x1:Nat):Int) (nn x2) 0 0 (aj 2) (aj 2) (aj 3) (aj 7))]) hI ?_;intro wd hI)
   exact W9
theorem Wm:Calls prog 114 #[.pointer (some ⟨pr,0,none⟩)] w0 (Bo w0 pr ab bs):=by
 rcases h0:jV 10 bs with _| ⟨k,c0⟩
 ·exact Wl w0 pr ab bs hI (HD h0)
 ·have hlt:=rX h0
  obtain rfl|rfl|rfl|rfl|rfl|rfl|rfl|rfl|rfl|rfl:k=0∨k=1∨k=2∨k=3∨k=4∨k=5∨k=6∨k=7∨k=8∨k=9:=by omega
  ·exact aeb w0 pr ab bs hI c0 (HD h0)
  ·exact aec w0 pr ab bs hI c0 (HD h0)
  ·exact aed w0 pr ab bs hI c0 (HD h0)
  ·exact aee w0 pr ab bs hI c0 (HD h0)
  ·exact aef w0 pr ab bs hI c0 (HD h0)
  ·exact aeg w0 pr ab bs hI c0 (HD h0)
  ·exact aeh w0 pr ab bs hI c0 (HD h0)
  ·exact aei w0 pr ab bs hI c0 (HD h0)
  ·exact aej w0 pr ab bs hI c0 (HD h0)
  ·exact aek w0 pr ab bs hI c0 (HD h0)
theorem aaD{z:List Int}{b:Bool}{cs:List UInt8}(hr:mY bs=some ((z,b),cs)):Calls prog 114 #[.pointer (some ⟨pr,0,none⟩)] w0 λe w'=>z.length=192∧e=.returned (.tuple #[ia z,.bool b])∧Inv (d_ pr ab bs).own w0 w' [d_ pr ab cs]:=by
 refine(Wm w0 pr ab bs hI).mono ?_;exact W68
theorem ael(hr:mY bs=none):Calls prog 114 #[.pointer (some ⟨pr,0,none⟩)] w0 λe w'=>e=.panicked Jp∧∃cs,Inv (d_ pr ab bs).own w0 w' [d_ pr ab cs]:=by
 refine(Wm w0 pr ab bs hI).mono ?_;exact W97
end
