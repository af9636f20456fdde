/- Contracts of functions. No condition. -/
import Derived.Test.YtdakkaapokhnnaaGreatDoorZ13
import Derived.Test.YtdakkaapokhnnaaGreatDoorZ14
namespace Go.Proofs.YtdakkaapokhnnaaGreatDoor
open Go.RowKit Go.Proofs.Tryz
set_option maxRecDepth 100000
set_option maxHeartbeats 6400000
set_option linter.all false
def si(bs:List UInt8):Option ((List Int×Bool)×List UInt8):=
 (iI 6 bs).bind λp=>match p.1 with
 |0=>(jl p.2).bind λ(x1,c1)=>some (((bf 0 0 (nn x1) 0 (au 2) (au 3) (au 7)),(C.jm (nn x1))),c1)
 |1=>(iI 5 p.2).bind λ(x1,c1)=>(jl c1).bind λ(x2,c2)=>some (((bf 1 ((x1:Nat):Int) (nn x2) 0 (au 2) (au 3) (au 7)),(C.jm (nn x2))),c2)
 |2=>(iI 5 p.2).bind λ(x1,c1)=>some (((bf 2 ((x1:Nat):Int) (au 174) 0 (au 2) (au 3) (au 7)),true),c1)
 |3=>(f_ p.2).bind λ(x1,c1)=>(bJ dI c1).bind λ(x2,c2)=>some (((bf 3 0 (au 174) ((x1:Nat):Int) (nn x2) (au 3) (au 7)),true),c2)
 |4=>(f_ p.2).bind λ(x1,c1)=>(bJ dI c1).bind λ(x2,c2)=>(bJ jF c2).bind λ(x3,c3)=>some (((bf 4 0 (au 174) ((x1:Nat):Int) (nn x2) (nn x3) (au 7)),true),c3)
 |5=>(bJ ko p.2).bind λ(x1,c1)=>some (((bf 5 0 (au 174) 0 (au 2) (au 3) (nn x1)),(ll (nn x1))),c1)
 |_=>none
def Ni(w0:World)(pr:Nat)(ab:Option Nat)(bs:List UInt8)(e:Ending)(w':World):Prop:=
 (∃z b cs,si bs=some ((z,b),cs)∧z.length=189∧e=.returned (.tuple #[ia z,.bool b])∧Inv (eZ pr ab bs).own w0 w' [eZ pr ab cs])∨(si bs=none∧e=.panicked Ma∧∃cs,Inv (eZ pr ab bs).own w0 w' [eZ pr ab cs])
section
variable (w0:World)(pr:Nat)(ab:Option Nat)(bs:List UInt8)(hI:Inv (eZ pr ab bs).own w0 w0 [eZ pr ab bs])
include hI
theorem Z6(h0:Hid (iI 6 bs=none)):Calls prog 101 #[.pointer (some ⟨pr,0,none⟩)] w0 (Ni w0 pr ab bs):=by
 go_enter func101,ntmps101;go_wp2_with(first|go_at_call 136;refine KN hI (kR _ pr ab _ _ _ (hI.sat _ aM) (hI.nd aM) (by exact h0.out) OM) ?_;intro D9 w1 hI|refine YX ?_;intro bx w hI);exact⟨rfl,.inr ⟨by simp only[si,h0.out,Option.bind_none],rfl,_,hI.sub SB⟩⟩
theorem ahi(c0)(h0:Hid (iI 6 bs=some (0,c0))):Calls prog 101 #[.pointer (some ⟨pr,0,none⟩)] w0 (Ni w0 pr ab bs):=by
 have qX:Hid (((0:Nat):Int)=0):=HD rfl;have hbd:Hid (dK (au 189) 0 (ay (au 189) [(0,[0])])=(bf 0 0 (au 174) 0 (au 2) (au 3) (au 7))):=HD (by rw[jB _ _ (by simp[ay,aY,ag]),ay,ay,jX,eO]);have hbw:Hid (ay (au 189) [(0,[0])]=(bf 0 0 (au 174) 0 (au 2) (au 3) (au 7))):=HD (by rw[ay,ay,jX,eO]);have kI:Hid (gi (bf 0 0 (au 174) 0 (au 2) (au 3) (au 7)) 0=0):=HD dx;rcases h1:jl c0 with _| ⟨x1,c1⟩
 ·replace h1:=HD h1
  have hl1:=ag 0;have hl2:=ag 0;have hl3:=ag 0;have hl4:=ag 0;go_enter func101,ntmps101;go_upto_region 2 with(first|go_at_call 136;refine KC jo hI (dF _ pr ab _ _ _ _ (hI.sat _ aM) (hI.nd aM) h0.out OM qX.out) ?_;intro w1 hI|refine YS ?_;intro w hI|refine YX ?_;intro bx w hI|refine YL ?_)
  rw[hbw.out]at hI;go_upto_region 3 with(refine YL ?_)
  rw[kI.out];go_wp2_with(go_at_call 137;refine KN hI (sI.no (wG _ pr ab _ (hI.sat _ a_) (hI.nd a_)) (Eb (by exact h1.out))) ?_;intro D9 w1 hI);exact W89
 ·have hl1:(nn x1).length=174:=by rw[dE];exact lM h1
  replace h1:=HD h1;have hl2:=ag 0;have hl3:=ag 0;have hl4:=ag 0;go_enter func101,ntmps101;go_upto_region 2 with(first|go_at_call 136;refine KC jo hI (dF _ pr ab _ _ _ _ (hI.sat _ aM) (hI.nd aM) h0.out OM qX.out) ?_;intro w1 hI|refine YS ?_;intro w hI|refine YX ?_;intro bx w hI|refine YL ?_)
  rw[hbw.out]at hI;go_upto_region 3 with(refine YL ?_)
  rw[kI.out];go_upto_region 5 with(first|go_at_call 137;refine KI hI (sI.yes (wG _ pr ab _ (hI.sat _ a_) (hI.nd a_)) (wZ (by exact h1.out))) ?_;intro w1 hI|refine YS ?_;intro w hI)
  simp only[ag,kz,kC,i_,ja,jM,jN,g_,fJ,jb,jc,hl1,hl2,hl3,hl4]at hI
  (obtain⟨bz,hbz⟩:=EZ bx)
  (refine ZR [3,4,5] [0] [3] [0,1,2,3,4,5] (λw=>Inv (eZ pr ab bs).own w0 w [ib bx 143 (bf 0 0 (nn x1) 0 (au 2) (au 3) (au 7))]) hI ?_;intro wd hI)
  (repeat(first|refine ZS ?_|refine ZQ ?_;go_wp2_with(first|refine YS ?_;intro w hI|go_at_call 90;refine KD hI (C.jE _ _ (by(simp only[List.length_set,ag,az,aY,bf,List.length_append,List.length_cons,List.length_nil]<;>omega))) ?_;intro w1 hI|refine YL ?_);refine ZP ?_))
  exact W67
theorem ahj(c0)(h0:Hid (iI 6 bs=some (1,c0))):Calls prog 101 #[.pointer (some ⟨pr,0,none⟩)] w0 (Ni w0 pr ab bs):=by
 have qX:Hid (((1:Nat):Int)=1):=HD rfl;have hbd:Hid (dK (au 189) 0 (ay (au 189) [(0,[1])])=(bf 1 0 (au 174) 0 (au 2) (au 3) (au 7))):=HD (by rw[jB _ _ (by simp[ay,aY,ag]),ay,ay,jX,eO]);have hbw:Hid (ay (au 189) [(0,[1])]=(bf 1 0 (au 174) 0 (au 2) (au 3) (au 7))):=HD (by rw[ay,ay,jX,eO]);have kI:Hid (gi (bf 1 0 (au 174) 0 (au 2) (au 3) (au 7)) 0=1):=HD dx;rcases h1:iI 5 c0 with _| ⟨x1,c1⟩
 ·exact W21
 ·replace h1:=HD h1
  rcases h2:jl c1 with _| ⟨x2,c2⟩
  ·replace h2:=HD h2
   have hl1:=ag 0;have hl2:=ag 0;have hl3:=ag 0;have hl4:=ag 0;go_enter func101,ntmps101;go_upto_region 2 with(first|go_at_call 136;refine KC jo hI (dF _ pr ab _ _ _ _ (hI.sat _ aM) (hI.nd aM) h0.out OM qX.out) ?_;intro w1 hI|refine YS ?_;intro w hI|refine YX ?_;intro bx w hI|refine YL ?_)
   rw[hbw.out]at hI;go_upto_region 3 with(refine YL ?_)
   rw[kI.out];go_wp2_with(first|go_at_call 137;refine KN hI (sI.no (wG _ pr ab _ (hI.sat _ a_) (hI.nd a_)) (Eb (by exact h2.out))) ?_;intro D9 w1 hI|go_at_call 136;refine KC qN hI (dZ _ pr ab _ _ _ (hI.sat _ a_) (hI.nd a_) (by exact h1.out) OM) ?_;intro w1 hI|refine YS ?_;intro w hI);exact⟨rfl,.inr ⟨by simp only[si,h0.out,h1.out,h2.out,Option.bind_some,Option.bind_none],rfl,_,hI.sub SB⟩⟩
  ·have hl2:(nn x2).length=174:=by rw[dE];exact lM h2
   replace h2:=HD h2;have hl1:=ag 0;have hl3:=ag 0;have hl4:=ag 0;go_enter func101,ntmps101;go_upto_region 2 with(first|go_at_call 136;refine KC jo hI (dF _ pr ab _ _ _ _ (hI.sat _ aM) (hI.nd aM) h0.out OM qX.out) ?_;intro w1 hI|refine YS ?_;intro w hI|refine YX ?_;intro bx w hI|refine YL ?_)
   rw[hbw.out]at hI;go_upto_region 3 with(refine YL ?_)
   rw[kI.out];go_upto_region 9 with(first|go_at_call 136;refine KC qN hI (dZ _ pr ab _ _ _ (hI.sat _ a_) (hI.nd a_) (by exact h1.out) OM) ?_;intro w1 hI|go_at_call 137;refine KI hI (sI.yes (wG _ pr ab _ (hI.sat _ a_) (hI.nd a_)) (wZ (by exact h2.out))) ?_;intro w1 hI|refine YS ?_;intro w hI)
   simp only[ag,kz,kC,i_,ja,jM,jN,g_,fJ,jb,jc,hl1,hl2,hl3,hl4]at hI
   (obtain⟨bz,hbz⟩:=EZ bx)
   (refine ZR [3,4,5] [0] [3] [0,1,2,3,4,5] (λw=>Inv (eZ pr ab bs).own w0 w [ib bx 143 (bf 1 ((x1:Nat):Int) (nn x2) 0 (au 2) (au 3) (au 7))]) hI ?_;intro wd hI)
   (repeat(first|refine ZS ?_|refine ZQ ?_;go_wp2_with(first|refine YS ?_;intro w hI|go_at_call 90;refine KD hI (C.jE _ _ (by(simp only[List.length_set,ag,az,aY,bf,List.length_append,List.length_cons,List.length_nil]<;>omega))) ?_;intro w1 hI|refine YL ?_);refine ZP ?_))
   simp only[ag,kz,kC,i_,ja,jM,jN,g_,fJ,jb,jc,hl1,hl2,hl3,hl4]at hI|-;go_wp2_with(fail);exact W53
theorem ahk(c0)(h0:Hid (iI 6 bs=some (2,c0))):Calls prog 101 #[.pointer (some ⟨pr,0,none⟩)] w0 (Ni w0 pr ab bs):=by
 have qX:Hid (((2:Nat):Int)=2):=HD rfl;have hbd:Hid (dK (au 189) 0 (ay (au 189) [(0,[2])])=(bf 2 0 (au 174) 0 (au 2) (au 3) (au 7))):=HD (by rw[jB _ _ (by simp[ay,aY,ag]),ay,ay,jX,eO]);have hbw:Hid (ay (au 189) [(0,[2])]=(bf 2 0 (au 174) 0 (au 2) (au 3) (au 7))):=HD (by rw[ay,ay,jX,eO]);have kI:Hid (gi (bf 2 0 (au 174) 0 (au 2) (au 3) (au 7)) 0=2):=HD dx;rcases h1:iI 5 c0 with _| ⟨x1,c1⟩
 ·exact W21
 ·replace h1:=HD h1
  have hl1:=ag 0;have hl2:=ag 0;have hl3:=ag 0;have hl4:=ag 0;go_enter func101,ntmps101;go_upto_region 2 with(first|go_at_call 136;refine KC jo hI (dF _ pr ab _ _ _ _ (hI.sat _ aM) (hI.nd aM) h0.out OM qX.out) ?_;intro w1 hI|refine YS ?_;intro w hI|refine YX ?_;intro bx w hI|refine YL ?_)
  rw[hbw.out]at hI;go_upto_region 3 with(refine YL ?_)
  rw[kI.out];go_wp2_with(first|go_at_call 136;refine KC qN hI (dZ _ pr ab _ _ _ (hI.sat _ a_) (hI.nd a_) (by exact h1.out) OM) ?_;intro w1 hI|refine YL ?_|refine YS ?_;intro w hI);simp only[ag,kz,kC,i_,ja,jM,jN,g_,fJ,jb,jc,hl1,hl2,hl3,hl4]at hI;exact W31
theorem ahl(c0)(h0:Hid (iI 6 bs=some (3,c0))):Calls prog 101 #[.pointer (some ⟨pr,0,none⟩)] w0 (Ni w0 pr ab bs):=by
 have qX:Hid (((3:Nat):Int)=3):=HD rfl;have hbd:Hid (dK (au 189) 0 (ay (au 189) [(0,[3])])=(bf 3 0 (au 174) 0 (au 2) (au 3) (au 7))):=HD (by rw[jB _ _ (by simp[ay,aY,ag]),ay,ay,jX,eO]);have hbw:Hid (ay (au 189) [(0,[3])]=(bf 3 0 (au 174) 0 (au 2) (au 3) (au 7))):=HD (by rw[ay,ay,jX,eO]);have kI:Hid (gi (bf 3 0 (au 174) 0 (au 2) (au 3) (au 7)) 0=3):=HD dx;rcases h1:f_ c0 with _| ⟨x1,c1⟩
 ·exact W24
 ·replace h1:=HD h1
  rcases h2:bJ dI c1 with _| ⟨x2,c2⟩
  ·exact W15
  ·have hl2:(nn x2).length=2:=by rw[dE];exact eF h2
   replace h2:=HD h2;have hl1:=ag 0;have hl3:=ag 0;have hl4:=ag 0;go_enter func101,ntmps101;go_upto_region 2 with(first|go_at_call 136;refine KC jo hI (dF _ pr ab _ _ _ _ (hI.sat _ aM) (hI.nd aM) h0.out OM qX.out) ?_;intro w1 hI|refine YS ?_;intro w hI|refine YX ?_;intro bx w hI|refine YL ?_)
   rw[hbw.out]at hI;go_upto_region 3 with(refine YL ?_)
   rw[kI.out];go_wp2_with(first|go_at_call 138;refine KC qN hI (iq _ pr ab _ (by exact h1.out) (hI.sat _ a_) (hI.nd a_)) ?_;intro w1 hI|go_at_call 139;refine KI hI (sI.yes (iX _ pr ab _ (hI.sat _ a_) (hI.nd a_)) (jd (by exact h2.out))) ?_;intro w1 hI|refine YL ?_|refine YS ?_;intro w hI);simp only[ag,kz,kC,i_,ja,jM,jN,g_,fJ,jb,jc,hl1,hl2,hl3,hl4]at hI;exact W53
theorem ahm(c0)(h0:Hid (iI 6 bs=some (4,c0))):Calls prog 101 #[.pointer (some ⟨pr,0,none⟩)] w0 (Ni w0 pr ab bs):=by
 have qX:Hid (((4:Nat):Int)=4):=HD rfl;have hbd:Hid (dK (au 189) 0 (ay (au 189) [(0,[4])])=(bf 4 0 (au 174) 0 (au 2) (au 3) (au 7))):=HD (by rw[jB _ _ (by simp[ay,aY,ag]),ay,ay,jX,eO]);have hbw:Hid (ay (au 189) [(0,[4])]=(bf 4 0 (au 174) 0 (au 2) (au 3) (au 7))):=HD (by rw[ay,ay,jX,eO]);have kI:Hid (gi (bf 4 0 (au 174) 0 (au 2) (au 3) (au 7)) 0=4):=HD dx;rcases h1:f_ c0 with _| ⟨x1,c1⟩
 ·exact W24
 ·replace h1:=HD h1
  rcases h2:bJ dI c1 with _| ⟨x2,c2⟩
  ·exact W15
  ·have hl2:(nn x2).length=2:=by rw[dE];exact eF h2
   replace h2:=HD h2;rcases h3:bJ jF c2 with _| ⟨x3,c3⟩
   ·replace h3:=HD h3
    have hl1:=ag 0;have hl3:=ag 0;have hl4:=ag 0;go_enter func101,ntmps101;go_upto_region 2 with(first|go_at_call 136;refine KC jo hI (dF _ pr ab _ _ _ _ (hI.sat _ aM) (hI.nd aM) h0.out OM qX.out) ?_;intro w1 hI|refine YS ?_;intro w hI|refine YX ?_;intro bx w hI|refine YL ?_)
    rw[hbw.out]at hI;go_upto_region 3 with(refine YL ?_)
    rw[kI.out];go_wp2_with(first|go_at_call 140;refine KN hI (sI.no (qY _ pr ab _ (hI.sat _ a_) (hI.nd a_)) (mQ (by exact h3.out))) ?_;intro D9 w1 hI|go_at_call 138;refine KC qN hI (iq _ pr ab _ (by exact h1.out) (hI.sat _ a_) (hI.nd a_)) ?_;intro w1 hI|go_at_call 139;refine KI hI (sI.yes (iX _ pr ab _ (hI.sat _ a_) (hI.nd a_)) (jd (by exact h2.out))) ?_;intro w1 hI|refine YS ?_;intro w hI);exact⟨rfl,.inr ⟨by simp only[si,h0.out,h1.out,h2.out,h3.out,Option.bind_some,Option.bind_none],rfl,_,hI.sub SB⟩⟩
   ·have hl3:(nn x3).length=3:=by rw[dE];exact eF h3
    replace h3:=HD h3;have hl1:=ag 0;have hl4:=ag 0;go_enter func101,ntmps101;go_upto_region 2 with(first|go_at_call 136;refine KC jo hI (dF _ pr ab _ _ _ _ (hI.sat _ aM) (hI.nd aM) h0.out OM qX.out) ?_;intro w1 hI|refine YS ?_;intro w hI|refine YX ?_;intro bx w hI|refine YL ?_)
    rw[hbw.out]at hI;go_upto_region 3 with(refine YL ?_)
    rw[kI.out];go_wp2_with(first|go_at_call 138;refine KC qN hI (iq _ pr ab _ (by exact h1.out) (hI.sat _ a_) (hI.nd a_)) ?_;intro w1 hI|go_at_call 139;refine KI hI (sI.yes (iX _ pr ab _ (hI.sat _ a_) (hI.nd a_)) (jd (by exact h2.out))) ?_;intro w1 hI|go_at_call 140;refine KI hI (sI.yes (qY _ pr ab _ (hI.sat _ a_) (hI.nd a_)) (jd (by exact h3.out))) ?_;intro w1 hI|refine YL ?_|refine YS ?_;intro w hI);simp only[ag,kz,kC,i_,ja,jM,jN,g_,fJ,jb,jc,hl1,hl2,hl3,hl4]at hI;exact bodyPost_ret (aH hI rfl rfl aM (bP.out (t:=143)) (by simp only[ed,ag,hl1,hl2,hl3,hl4])) rfl (.inl ⟨_,_,_,(by simp only[si,h0.out,h1.out,h2.out,h3.out,Option.bind_some];rfl),(by simp only[ed,ag,hl1,hl2,hl3,hl4]),rfl,hI.sub SB⟩)
theorem ahn(c0)(h0:Hid (iI 6 bs=some (5,c0))):Calls prog 101 #[.pointer (some ⟨pr,0,none⟩)] w0 (Ni w0 pr ab bs):=by
 have qX:Hid (((5:Nat):Int)=5):=HD rfl;have hbd:Hid (dK (au 189) 0 (ay (au 189) [(0,[5])])=(bf 5 0 (au 174) 0 (au 2) (au 3) (au 7))):=HD (by rw[jB _ _ (by simp[ay,aY,ag]),ay,ay,jX,eO]);have hbw:Hid (ay (au 189) [(0,[5])]=(bf 5 0 (au 174) 0 (au 2) (au 3) (au 7))):=HD (by rw[ay,ay,jX,eO]);have kI:Hid (gi (bf 5 0 (au 174) 0 (au 2) (au 3) (au 7)) 0=5):=HD dx;rcases h1:bJ ko c0 with _| ⟨x1,c1⟩
 ·replace h1:=HD h1
  have hl1:=ag 0;have hl2:=ag 0;have hl3:=ag 0;have hl4:=ag 0;go_enter func101,ntmps101;go_upto_region 2 with(first|go_at_call 136;refine KC jo hI (dF _ pr ab _ _ _ _ (hI.sat _ aM) (hI.nd aM) h0.out OM qX.out) ?_;intro w1 hI|refine YS ?_;intro w hI|refine YX ?_;intro bx w hI|refine YL ?_)
  rw[hbw.out]at hI;go_upto_region 3 with(refine YL ?_)
  rw[kI.out];go_wp2_with(go_at_call 141;refine KN hI (sI.no (xG _ pr ab _ (hI.sat _ a_) (hI.nd a_)) (mQ (by exact h1.out))) ?_;intro D9 w1 hI);exact W89
 ·have hl1:(nn x1).length=7:=by rw[dE];exact eF h1
  have hvb:Hid (∀i,-9223372036854775808<gi (nn x1) i∧gi (nn x1) i<=9223372036854775807):=HD (Qv (Ap DC h1));replace h1:=HD h1;have hl2:=ag 0;have hl3:=ag 0;have hl4:=ag 0;go_enter func101,ntmps101;go_upto_region 2 with(first|go_at_call 136;refine KC jo hI (dF _ pr ab _ _ _ _ (hI.sat _ aM) (hI.nd aM) h0.out OM qX.out) ?_;intro w1 hI|refine YS ?_;intro w hI|refine YX ?_;intro bx w hI|refine YL ?_)
  rw[hbw.out]at hI;go_upto_region 3 with(refine YL ?_)
  rw[kI.out];go_upto_region 21 with(first|go_at_call 141;refine KI hI (sI.yes (xG _ pr ab _ (hI.sat _ a_) (hI.nd a_)) (jd (by exact h1.out))) ?_;intro w1 hI|refine YS ?_;intro w hI)
  simp only[ag,kz,kC,i_,ja,jM,jN,g_,fJ,jb,jc,hl1,hl2,hl3,hl4]at hI
  (obtain⟨bz,hbz⟩:=EZ bx)
  (refine ZR [3,4,5] [0] [3] [0,1,2,3,4,5] (λw=>Inv (eZ pr ab bs).own w0 w [ib bx 143 (bf 5 0 (au 174) 0 (au 2) (au 3) (nn x1))]) hI ?_;intro wd hI)
  (repeat(first|refine ZS ?_|refine ZQ ?_;go_wp2_with(first|refine YS ?_;intro w hI|go_at_call 142;refine KD hI (Fy _ _ _ (by simp only[ag,kz,kC,i_,ja,jM,jN,g_,fJ,jb,jc,hl1,hl2,hl3,hl4]) (by exact hl1) hvb.out) ?_;intro w1 hI|refine YL ?_);refine ZP ?_))
  exact W67
theorem Z7:Calls prog 101 #[.pointer (some ⟨pr,0,none⟩)] w0 (Ni w0 pr ab bs):=by
 rcases h0:iI 6 bs with _| ⟨k,c0⟩
 ·grind[Z6,Go.Lib.hid]
 ·have hlt:=tL h0
  obtain rfl|rfl|rfl|rfl|rfl|rfl:k=0∨k=1∨k=2∨k=3∨k=4∨k=5:=by omega
  all_goals grind[ahi,Go.Lib.hid,ahj,ahk,ahl,ahm,ahn]
theorem adL{z b cs}(hr:si bs=some ((z,b),cs)):Calls prog 101 #[.pointer (some ⟨pr,0,none⟩)] w0 λe w'=>z.length=189∧e=.returned (.tuple #[ia z,.bool b])∧Inv (eZ pr ab bs).own w0 w' [eZ pr ab cs]:=by
 refine(Z7 w0 pr ab bs hI).mono ?_;exact ai_
theorem aho(hr:si bs=none):Calls prog 101 #[.pointer (some ⟨pr,0,none⟩)] w0 λe w'=>e=.panicked Ma∧∃cs,Inv (eZ pr ab bs).own w0 w' [eZ pr ab cs]:=by
 refine(Z7 w0 pr ab bs hI).mono ?_;exact ai9
end
theorem call100(args w):(callFunc 100 args).run prog w=.ok (.enter 100 args) w:=by simp_all
theorem zk{T w0 w pr bx br ab bs cs z b u x m}(hr:Hid (si bs=some ((z,b),cs)))(hI:Inv T w0 w (eZ pr ab bs::x::blk br 4 [.bool u]::ib bx 143 (au 189)::m)):
  Calls prog 100 #[.pointer (some ⟨pr,0,none⟩),.pointer (some ⟨bx,0,none⟩),.pointer (some ⟨br,0,none⟩)] w λe w'=>e=.returned (.tuple #[])∧Inv T w0 w' (eZ pr ab cs::x::blk br 4 [.bool b]::ib bx 143 z::m):=by
 go_enter func100,ntmps100;go_wp2_with(first|go_at_call 101;(with_reducible refine(adL _ pr ab bs (hI.at_ aC) hr.out).mono ?_);rintro e w1 ⟨hzl,rfl,hJ⟩;replace hI:=hI.on hJ aU.here;clear hJ|refine YS ?_;intro w hI|refine YT ?_;intro w hI;(try simp only[QS]at hI));exact⟨rfl,_,h_ KF _ _,rfl,hI⟩
theorem VQ{T w0 w pr bx br ab bs u x m}(hr:Hid (si bs=none))(hI:Inv T w0 w (eZ pr ab bs::x::blk br 4 [.bool u]::ib bx 143 (au 189)::m)):
  Calls prog 100 #[.pointer (some ⟨pr,0,none⟩),.pointer (some ⟨bx,0,none⟩),.pointer (some ⟨br,0,none⟩)] w λe w'=>e=.panicked Ma∧∃cs,Inv T w0 w' (eZ pr ab cs::x::blk br 4 [.bool u]::ib bx 143 (au 189)::m):=by
 go_enter func100,ntmps100;go_wp2_with(go_at_call 101;refine KN hI (aho _ pr ab bs (hI.at_ aC) hr.out) ?_;intro D9 w1 hI);exact⟨rfl,rfl,_,hI⟩
theorem Z8{bs cs z b}(h:si bs=some ((z,b),cs)):z.length=189:=by
 obtain⟨p,h0,h⟩:=Option.bind_eq_some_iff.1 h
 split at h
 ·grind[Option.bind_eq_some_iff,ed,dE,lM,ag]
 ·grind[Option.bind_eq_some_iff,ed,dE,lM,ag]
 ·grind[Option.bind_eq_some_iff,ed,ag]
 ·obtain⟨⟨x1,c1⟩,h1,h⟩:=Option.bind_eq_some_iff.1 h
  obtain⟨⟨x2,c2⟩,h2,h⟩:=Option.bind_eq_some_iff.1 h;obtain⟨⟨rfl,_⟩,_⟩:=h;exact ed (ag _) (by rw[dE];exact eF h2) (ag _) (ag _)
 ·obtain⟨⟨x1,c1⟩,h1,h⟩:=Option.bind_eq_some_iff.1 h
  obtain⟨⟨x2,c2⟩,h2,h⟩:=Option.bind_eq_some_iff.1 h;obtain⟨⟨x3,c3⟩,h3,h⟩:=Option.bind_eq_some_iff.1 h;obtain⟨⟨rfl,_⟩,_⟩:=h;exact ed (ag _) (by rw[dE];exact eF h2) (by rw[dE];exact eF h3) (ag _)
 ·obtain⟨⟨x1,c1⟩,h1,h⟩:=Option.bind_eq_some_iff.1 h
  obtain⟨⟨rfl,_⟩,_⟩:=h;exact ed (ag _) (ag _) (ag _) (by rw[dE];exact eF h1)
 grind
def Aq(bs:List UInt8):List Int×Int:=match si bs with
 |some ((z,true),[])=>(z,0)
 |_=>(au 189,1)
section
variable {T:List Nat}{w0 w:World}{a:Option Addr}{ab:Option Nat}{c:Nat}{bs:List UInt8}{m:List bT}(hc:bs.length<=c)(hm:c<=maxLen)(hI:Inv T w0 w (nY ab a bs::m))
include hc hm hI
theorem Nj:Calls prog 65 #[.slice a bs.length c] w λe w'=>e=.returned (.tuple #[ia (Aq bs).1,.int .i64 (Aq bs).2])∧Inv T w0 w' m:=by
 have hmf:∀(fn:Fn) (first cap:Array Value) (w:World),(Instr.makeFunc fn first cap).run prog w=.ok (.func fn first cap) w:=λ_ _ _ _=>rfl
 have hn0:=ag 189;rcases h:si bs with _| ⟨⟨z,b⟩,cs⟩
 ·have hD:Hid (Aq bs=(au 189,1)):=HD (by rw[Aq,h])
  have hr:=HD h;clear h;go_enter func65,ntmps65;go_wp2_with(first|(with_reducible refine aN (z:=.bool false) (cs:=[.bool false]) hI zY RF ?_;intro br w hI)|go_at_call 99;(with_reducible refine(Ew hc hm call100 (Inv.Mg hI) (λw' pr x hI=>VQ hr hI)).mono ?_);rintro e w1 ⟨rfl,pr,D9,hJ⟩;replace hI:=hJ;clear hJ|refine YS ?_;intro w hI|refine YT ?_;intro w hI;(try simp only[QS]at hI)|refine YX ?_;intro bx w hI|refine YL ?_);exact W48
 ·by_cases hcs:cs=[]
  ·subst hcs
   have hr:=HD h;cases b
   ·have hD:Hid (Aq bs=(au 189,1)):=HD (by rw[Aq,h])
    clear h;go_enter func65,ntmps65;go_wp2_with(first|(with_reducible refine aN (z:=.bool false) (cs:=[.bool false]) hI zY RF ?_;intro br w hI)|go_at_call 99;(with_reducible refine(nS hc hm call100 (Inv.Mg hI) (λw' pr x hI=>zk hr hI)).mono ?_);rintro e w1 ⟨rfl,pr,hJ⟩;replace hI:=hJ;clear hJ|refine YL ?_|refine YS ?_;intro w hI|refine YT ?_;intro w hI;(try simp only[QS]at hI)|refine YX ?_;intro bx w hI);exact W48
   ·have hD:Hid (Aq bs=(z,0)):=HD (by rw[Aq,h])
    have hzl:=Z8 h;clear h;go_enter func65,ntmps65;go_wp2_with(first|(with_reducible refine aN (z:=.bool false) (cs:=[.bool false]) hI zY RF ?_;intro br w hI)|go_at_call 99;(with_reducible refine(nS hc hm call100 (Inv.Mg hI) (λw' pr x hI=>zk hr hI)).mono ?_);rintro e w1 ⟨rfl,pr,hJ⟩;replace hI:=hJ;clear hJ|refine YL ?_|refine YS ?_;intro w hI|refine YT ?_;intro w hI;(try simp only[QS]at hI)|refine YX ?_;intro bx w hI);exact bodyPost_ret (aH hI rfl rfl nz (bP.out (t:=143)) hzl) rfl ⟨by rw[hD.out];rfl,hI.sub (.cons _ (.cons _ (.cons _ (.cons _ (.refl _)))))⟩
  ·have hD:Hid (Aq bs=(au 189,1)):=HD (by
    rw[Aq,h];cases cs with
    |nil=>exact absurd rfl hcs
    |cons x xs=>cases b<;>rfl)
   have hd:decide (cs=[])=false:=by simpa using hcs
   have hr:=HD h;clear h hcs;go_enter func65,ntmps65;go_wp2_with(first|(with_reducible refine aN (z:=.bool false) (cs:=[.bool false]) hI zY RF ?_;intro br w hI)|go_at_call 99;(with_reducible refine(nS hc hm call100 (Inv.Mg hI) (λw' pr x hI=>zk hr hI)).mono ?_);rintro e w1 ⟨rfl,pr,hJ⟩;replace hI:=hJ;clear hJ|refine YS ?_;intro w hI|refine YT ?_;intro w hI;(try simp only[QS]at hI)|refine YX ?_;intro bx w hI|refine YL ?_);exact W48
end
