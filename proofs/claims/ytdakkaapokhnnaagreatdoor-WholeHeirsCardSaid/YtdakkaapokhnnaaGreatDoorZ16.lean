/- Contracts of functions. No condition. -/
import Derived.Test.YtdakkaapokhnnaaGreatDoorZ13
import Derived.Test.YtdakkaapokhnnaaGreatDoorZ14
namespace Go.Proofs.YtdakkaapokhnnaaGreatDoor
open Go.RowKit Go.Proofs.Tryz
set_option maxRecDepth 100000
set_option maxHeartbeats 6400000
set_option linter.all false
def om(bs:List UInt8):Option ((List Int×Bool)×List UInt8):=
 (iI 10 bs).bind λp=>match p.1 with
 |0=>(iI 5 p.2).bind λ(x1,c1)=>(jl c1).bind λ(x2,c2)=>some (((aF 0 ((x1:Nat):Int) (nn x2) 0 0 (au 2) (au 2) (au 3) (au 7)),(C.jm (nn x2))),c2)
 |1=>(f_ p.2).bind λ(x1,c1)=>some (((aF 1 0 (au 174) ((x1:Nat):Int) 0 (au 2) (au 2) (au 3) (au 7)),true),c1)
 |2=>(iI 5 p.2).bind λ(x1,c1)=>(jl c1).bind λ(x2,c2)=>some (((aF 2 ((x1:Nat):Int) (nn x2) 0 0 (au 2) (au 2) (au 3) (au 7)),(C.jm (nn x2))),c2)
 |3=>(f_ p.2).bind λ(x1,c1)=>(bJ dI c1).bind λ(x2,c2)=>some (((aF 3 0 (au 174) 0 ((x1:Nat):Int) (nn x2) (au 2) (au 3) (au 7)),true),c2)
 |4=>(f_ p.2).bind λ(x1,c1)=>(bJ dI c1).bind λ(x2,c2)=>(bJ dI c2).bind λ(x3,c3)=>(bJ jF c3).bind λ(x4,c4)=>some (((aF 4 0 (au 174) 0 ((x1:Nat):Int) (nn x2) (nn x3) (nn x4) (au 7)),true),c4)
 |5=>(f_ p.2).bind λ(x1,c1)=>(bJ dI c1).bind λ(x2,c2)=>(bJ jF c2).bind λ(x3,c3)=>some (((aF 5 0 (au 174) 0 ((x1:Nat):Int) (nn x2) (au 2) (nn x3) (au 7)),true),c3)
 |6=>(f_ p.2).bind λ(x1,c1)=>(bJ dI c1).bind λ(x2,c2)=>some (((aF 6 0 (au 174) 0 ((x1:Nat):Int) (nn x2) (au 2) (au 3) (au 7)),true),c2)
 |7=>(bJ ko p.2).bind λ(x1,c1)=>some (((aF 7 0 (au 174) 0 0 (au 2) (au 2) (au 3) (nn x1)),(ll (nn x1))),c1)
 |8=>(iI 5 p.2).bind λ(x1,c1)=>(bJ ko c1).bind λ(x2,c2)=>some (((aF 8 ((x1:Nat):Int) (au 174) 0 0 (au 2) (au 2) (au 3) (nn x2)),(ll (nn x2))),c2)
 |9=>(iI 5 p.2).bind λ(x1,c1)=>(jl c1).bind λ(x2,c2)=>some (((aF 9 ((x1:Nat):Int) (nn x2) 0 0 (au 2) (au 2) (au 3) (au 7)),(C.jm (nn x2))),c2)
 |_=>none
def C8(w0:World)(pr:Nat)(ab:Option Nat)(bs:List UInt8)(e:Ending)(w':World):Prop:=
 (∃z b cs,om bs=some ((z,b),cs)∧z.length=192∧e=.returned (.tuple #[ia z,.bool b])∧Inv (eZ pr ab bs).own w0 w' [eZ pr ab cs])∨(om bs=none∧e=.panicked Ma∧∃cs,Inv (eZ pr ab bs).own w0 w' [eZ pr ab cs])
section
variable (w0:World)(pr:Nat)(ab:Option Nat)(bs:List UInt8)(hI:Inv (eZ pr ab bs).own w0 w0 [eZ pr ab bs])
include hI
theorem Z9(h0:Hid (iI 10 bs=none)):Calls prog 114 #[.pointer (some ⟨pr,0,none⟩)] w0 (C8 w0 pr ab bs):=by
 go_enter func114,ntmps114;go_wp2_with(first|go_at_call 136;refine KN hI (kR _ pr ab _ _ _ (hI.sat _ aM) (hI.nd aM) (by exact h0.out) OM) ?_;intro D9 w1 hI|refine YX ?_;intro bx w hI);exact⟨rfl,.inr ⟨by simp only[om,h0.out,Option.bind_none],rfl,_,hI.sub SB⟩⟩
theorem ahp(c0)(h0:Hid (iI 10 bs=some (0,c0))):Calls prog 114 #[.pointer (some ⟨pr,0,none⟩)] w0 (C8 w0 pr ab bs):=by
 have qX:Hid (((0:Nat):Int)=0):=HD rfl;have hbd:Hid (dK (au 192) 0 (ay (au 192) [(0,[0])])=(aF 0 0 (au 174) 0 0 (au 2) (au 2) (au 3) (au 7))):=HD (by rw[jB _ _ (by simp[ay,aY,ag]),ay,ay,fC,bR]);have hbw:Hid (ay (au 192) [(0,[0])]=(aF 0 0 (au 174) 0 0 (au 2) (au 2) (au 3) (au 7))):=HD (by rw[ay,ay,fC,bR]);have kI:Hid (gi (aF 0 0 (au 174) 0 0 (au 2) (au 2) (au 3) (au 7)) 0=0):=HD aD;rcases h1:iI 5 c0 with _| ⟨x1,c1⟩
 ·exact W6
 ·replace h1:=HD h1
  rcases h2:jl c1 with _| ⟨x2,c2⟩
  ·exact W8
  ·have hl2:(nn x2).length=174:=by rw[dE];exact lM h2
   replace h2:=HD h2;have hl1:=ag 0;have hl3:=ag 0;have hl4:=ag 0;go_enter func114,ntmps114;go_upto_region 2 with(first|go_at_call 136;refine KC jo hI (dF _ pr ab _ _ _ _ (hI.sat _ aM) (hI.nd aM) h0.out OM qX.out) ?_;intro w1 hI|refine YS ?_;intro w hI|refine YX ?_;intro bx w hI|refine YL ?_)
   rw[hbw.out]at hI;go_upto_region 3 with(refine YL ?_)
   rw[kI.out];go_upto_region 8 with(first|go_at_call 136;refine KC qN hI (dZ _ pr ab _ _ _ (hI.sat _ a_) (hI.nd a_) (by exact h1.out) OM) ?_;intro w1 hI|go_at_call 137;refine KI hI (sI.yes (wG _ pr ab _ (hI.sat _ a_) (hI.nd a_)) (wZ (by exact h2.out))) ?_;intro w1 hI|refine YS ?_;intro w hI)
   simp only[ag,gB,gD,gF,fK,fo,fM,fq,fu,bZ,bO,eP,dH,dO,hl1,hl2,hl3,hl4]at hI
   (obtain⟨bz,hbz⟩:=EZ bx)
   (refine ZR [3,4,5] [0] [3] [0,1,2,3,4,5] (λw=>Inv (eZ pr ab bs).own w0 w [ib bx 158 (aF 0 ((x1:Nat):Int) (nn x2) 0 0 (au 2) (au 2) (au 3) (au 7))]) hI ?_;intro wd hI)
   exact W9
theorem ahq(c0)(h0:Hid (iI 10 bs=some (1,c0))):Calls prog 114 #[.pointer (some ⟨pr,0,none⟩)] w0 (C8 w0 pr ab bs):=by
 have qX:Hid (((1:Nat):Int)=1):=HD rfl;have hbd:Hid (dK (au 192) 0 (ay (au 192) [(0,[1])])=(aF 1 0 (au 174) 0 0 (au 2) (au 2) (au 3) (au 7))):=HD (by rw[jB _ _ (by simp[ay,aY,ag]),ay,ay,fC,bR]);have hbw:Hid (ay (au 192) [(0,[1])]=(aF 1 0 (au 174) 0 0 (au 2) (au 2) (au 3) (au 7))):=HD (by rw[ay,ay,fC,bR]);have kI:Hid (gi (aF 1 0 (au 174) 0 0 (au 2) (au 2) (au 3) (au 7)) 0=1):=HD aD;rcases h1:f_ c0 with _| ⟨x1,c1⟩
 ·exact W10
 ·replace h1:=HD h1
  have hl1:=ag 0;have hl2:=ag 0;have hl3:=ag 0;have hl4:=ag 0;go_enter func114,ntmps114;go_upto_region 2 with(first|go_at_call 136;refine KC jo hI (dF _ pr ab _ _ _ _ (hI.sat _ aM) (hI.nd aM) h0.out OM qX.out) ?_;intro w1 hI|refine YS ?_;intro w hI|refine YX ?_;intro bx w hI|refine YL ?_)
  rw[hbw.out]at hI;go_upto_region 3 with(refine YL ?_)
  rw[kI.out];go_wp2_with(first|go_at_call 138;refine KC qN hI (iq _ pr ab _ (by exact h1.out) (hI.sat _ a_) (hI.nd a_)) ?_;intro w1 hI|refine YL ?_|refine YS ?_;intro w hI);simp only[ag,gB,gD,gF,fK,fo,fM,fq,fu,bZ,bO,eP,dH,dO,hl1,hl2,hl3,hl4]at hI;exact W54
theorem ahr(c0)(h0:Hid (iI 10 bs=some (2,c0))):Calls prog 114 #[.pointer (some ⟨pr,0,none⟩)] w0 (C8 w0 pr ab bs):=by
 have qX:Hid (((2:Nat):Int)=2):=HD rfl;have hbd:Hid (dK (au 192) 0 (ay (au 192) [(0,[2])])=(aF 2 0 (au 174) 0 0 (au 2) (au 2) (au 3) (au 7))):=HD (by rw[jB _ _ (by simp[ay,aY,ag]),ay,ay,fC,bR]);have hbw:Hid (ay (au 192) [(0,[2])]=(aF 2 0 (au 174) 0 0 (au 2) (au 2) (au 3) (au 7))):=HD (by rw[ay,ay,fC,bR]);have kI:Hid (gi (aF 2 0 (au 174) 0 0 (au 2) (au 2) (au 3) (au 7)) 0=2):=HD aD;rcases h1:iI 5 c0 with _| ⟨x1,c1⟩
 ·exact W6
 ·replace h1:=HD h1
  rcases h2:jl c1 with _| ⟨x2,c2⟩
  ·exact W8
  ·have hl2:(nn x2).length=174:=by rw[dE];exact lM h2
   replace h2:=HD h2;have hl1:=ag 0;have hl3:=ag 0;have hl4:=ag 0;go_enter func114,ntmps114;go_upto_region 2 with(first|go_at_call 136;refine KC jo hI (dF _ pr ab _ _ _ _ (hI.sat _ aM) (hI.nd aM) h0.out OM qX.out) ?_;intro w1 hI|refine YS ?_;intro w hI|refine YX ?_;intro bx w hI|refine YL ?_)
   rw[hbw.out]at hI;go_upto_region 3 with(refine YL ?_)
   rw[kI.out];go_upto_region 8 with(first|go_at_call 136;refine KC qN hI (dZ _ pr ab _ _ _ (hI.sat _ a_) (hI.nd a_) (by exact h1.out) OM) ?_;intro w1 hI|go_at_call 137;refine KI hI (sI.yes (wG _ pr ab _ (hI.sat _ a_) (hI.nd a_)) (wZ (by exact h2.out))) ?_;intro w1 hI|refine YS ?_;intro w hI)
   simp only[ag,gB,gD,gF,fK,fo,fM,fq,fu,bZ,bO,eP,dH,dO,hl1,hl2,hl3,hl4]at hI
   (obtain⟨bz,hbz⟩:=EZ bx)
   (refine ZR [3,4,5] [0] [3] [0,1,2,3,4,5] (λw=>Inv (eZ pr ab bs).own w0 w [ib bx 158 (aF 2 ((x1:Nat):Int) (nn x2) 0 0 (au 2) (au 2) (au 3) (au 7))]) hI ?_;intro wd hI)
   exact W9
theorem ahs(c0)(h0:Hid (iI 10 bs=some (3,c0))):Calls prog 114 #[.pointer (some ⟨pr,0,none⟩)] w0 (C8 w0 pr ab bs):=by
 have qX:Hid (((3:Nat):Int)=3):=HD rfl;have hbd:Hid (dK (au 192) 0 (ay (au 192) [(0,[3])])=(aF 3 0 (au 174) 0 0 (au 2) (au 2) (au 3) (au 7))):=HD (by rw[jB _ _ (by simp[ay,aY,ag]),ay,ay,fC,bR]);have hbw:Hid (ay (au 192) [(0,[3])]=(aF 3 0 (au 174) 0 0 (au 2) (au 2) (au 3) (au 7))):=HD (by rw[ay,ay,fC,bR]);have kI:Hid (gi (aF 3 0 (au 174) 0 0 (au 2) (au 2) (au 3) (au 7)) 0=3):=HD aD;exact W4
theorem aht(c0)(h0:Hid (iI 10 bs=some (4,c0))):Calls prog 114 #[.pointer (some ⟨pr,0,none⟩)] w0 (C8 w0 pr ab bs):=by
 have qX:Hid (((4:Nat):Int)=4):=HD rfl;have hbd:Hid (dK (au 192) 0 (ay (au 192) [(0,[4])])=(aF 4 0 (au 174) 0 0 (au 2) (au 2) (au 3) (au 7))):=HD (by rw[jB _ _ (by simp[ay,aY,ag]),ay,ay,fC,bR]);have hbw:Hid (ay (au 192) [(0,[4])]=(aF 4 0 (au 174) 0 0 (au 2) (au 2) (au 3) (au 7))):=HD (by rw[ay,ay,fC,bR]);have kI:Hid (gi (aF 4 0 (au 174) 0 0 (au 2) (au 2) (au 3) (au 7)) 0=4):=HD aD;rcases h1:f_ c0 with _| ⟨x1,c1⟩
 ·exact W10
 ·replace h1:=HD h1
  rcases h2:bJ dI c1 with _| ⟨x2,c2⟩
  ·exact W16
  ·have hl2:(nn x2).length=2:=by rw[dE];exact eF h2
   replace h2:=HD h2;rcases h3:bJ dI c2 with _| ⟨x3,c3⟩
   ·replace h3:=HD h3
    have hl1:=ag 0;have hl3:=ag 0;have hl4:=ag 0;go_enter func114,ntmps114;go_upto_region 2 with(first|go_at_call 136;refine KC jo hI (dF _ pr ab _ _ _ _ (hI.sat _ aM) (hI.nd aM) h0.out OM qX.out) ?_;intro w1 hI|refine YS ?_;intro w hI|refine YX ?_;intro bx w hI|refine YL ?_)
    rw[hbw.out]at hI;go_upto_region 3 with(refine YL ?_)
    rw[kI.out];go_wp2_with(first|go_at_call 139;refine KN hI (sI.no (iX _ pr ab _ (hI.sat _ a_) (hI.nd a_)) (mQ (by exact h3.out))) ?_;intro D9 w1 hI|go_at_call 138;refine KC qN hI (iq _ pr ab _ (by exact h1.out) (hI.sat _ a_) (hI.nd a_)) ?_;intro w1 hI|go_at_call 139;refine KI hI (sI.yes (iX _ pr ab _ (hI.sat _ a_) (hI.nd a_)) (jd (by exact h2.out))) ?_;intro w1 hI|refine YS ?_;intro w hI);exact W84
   ·have hl3:(nn x3).length=2:=by rw[dE];exact eF h3
    replace h3:=HD h3;rcases h4:bJ jF c3 with _| ⟨x4,c4⟩
    ·replace h4:=HD h4
     have hl1:=ag 0;have hl4:=ag 0;go_enter func114,ntmps114;go_upto_region 2 with(first|go_at_call 136;refine KC jo hI (dF _ pr ab _ _ _ _ (hI.sat _ aM) (hI.nd aM) h0.out OM qX.out) ?_;intro w1 hI|refine YS ?_;intro w hI|refine YX ?_;intro bx w hI|refine YL ?_)
     rw[hbw.out]at hI;go_upto_region 3 with(refine YL ?_)
     rw[kI.out];go_wp2_with(first|go_at_call 140;refine KN hI (sI.no (qY _ pr ab _ (hI.sat _ a_) (hI.nd a_)) (mQ (by exact h4.out))) ?_;intro D9 w1 hI|go_at_call 138;refine KC qN hI (iq _ pr ab _ (by exact h1.out) (hI.sat _ a_) (hI.nd a_)) ?_;intro w1 hI|go_at_call 139;refine KI hI (sI.yes (iX _ pr ab _ (hI.sat _ a_) (hI.nd a_)) (jd (by first|exact h2.out|exact h3.out))) ?_;intro w1 hI|refine YS ?_;intro w hI);exact⟨rfl,.inr ⟨by simp only[om,h0.out,h1.out,h2.out,h3.out,h4.out,Option.bind_some,Option.bind_none],rfl,_,hI.sub SB⟩⟩
    ·have hl4:(nn x4).length=3:=by rw[dE];exact eF h4
     replace h4:=HD h4;have hl1:=ag 0;go_enter func114,ntmps114;go_upto_region 2 with(first|go_at_call 136;refine KC jo hI (dF _ pr ab _ _ _ _ (hI.sat _ aM) (hI.nd aM) h0.out OM qX.out) ?_;intro w1 hI|refine YS ?_;intro w hI|refine YX ?_;intro bx w hI|refine YL ?_)
     rw[hbw.out]at hI;go_upto_region 3 with(refine YL ?_)
     rw[kI.out];go_wp2_with(first|go_at_call 138;refine KC qN hI (iq _ pr ab _ (by exact h1.out) (hI.sat _ a_) (hI.nd a_)) ?_;intro w1 hI|go_at_call 139;refine KI hI (sI.yes (iX _ pr ab _ (hI.sat _ a_) (hI.nd a_)) (jd (by first|exact h2.out|exact h3.out))) ?_;intro w1 hI|go_at_call 140;refine KI hI (sI.yes (qY _ pr ab _ (hI.sat _ a_) (hI.nd a_)) (jd (by exact h4.out))) ?_;intro w1 hI|refine YL ?_|refine YS ?_;intro w hI);simp only[ag,gB,gD,gF,fK,fo,fM,fq,fu,bZ,bO,eP,dH,dO,hl1,hl2,hl3,hl4]at hI;exact bodyPost_ret (aH hI rfl rfl aM (bP.out (t:=158)) (by simp only[eY,ag,hl1,hl2,hl3,hl4])) rfl (.inl ⟨_,_,_,(by simp only[om,h0.out,h1.out,h2.out,h3.out,h4.out,Option.bind_some];rfl),(by simp only[eY,ag,hl1,hl2,hl3,hl4]),rfl,hI.sub SB⟩)
theorem ahu(c0)(h0:Hid (iI 10 bs=some (5,c0))):Calls prog 114 #[.pointer (some ⟨pr,0,none⟩)] w0 (C8 w0 pr ab bs):=by
 have qX:Hid (((5:Nat):Int)=5):=HD rfl;have hbd:Hid (dK (au 192) 0 (ay (au 192) [(0,[5])])=(aF 5 0 (au 174) 0 0 (au 2) (au 2) (au 3) (au 7))):=HD (by rw[jB _ _ (by simp[ay,aY,ag]),ay,ay,fC,bR]);have hbw:Hid (ay (au 192) [(0,[5])]=(aF 5 0 (au 174) 0 0 (au 2) (au 2) (au 3) (au 7))):=HD (by rw[ay,ay,fC,bR]);have kI:Hid (gi (aF 5 0 (au 174) 0 0 (au 2) (au 2) (au 3) (au 7)) 0=5):=HD aD;rcases h1:f_ c0 with _| ⟨x1,c1⟩
 ·exact W10
 ·replace h1:=HD h1
  rcases h2:bJ dI c1 with _| ⟨x2,c2⟩
  ·exact W16
  ·have hl2:(nn x2).length=2:=by rw[dE];exact eF h2
   replace h2:=HD h2;rcases h3:bJ jF c2 with _| ⟨x3,c3⟩
   ·replace h3:=HD h3
    have hl1:=ag 0;have hl3:=ag 0;have hl4:=ag 0;go_enter func114,ntmps114;go_upto_region 2 with(first|go_at_call 136;refine KC jo hI (dF _ pr ab _ _ _ _ (hI.sat _ aM) (hI.nd aM) h0.out OM qX.out) ?_;intro w1 hI|refine YS ?_;intro w hI|refine YX ?_;intro bx w hI|refine YL ?_)
    rw[hbw.out]at hI;go_upto_region 3 with(refine YL ?_)
    rw[kI.out];go_wp2_with(first|go_at_call 140;refine KN hI (sI.no (qY _ pr ab _ (hI.sat _ a_) (hI.nd a_)) (mQ (by exact h3.out))) ?_;intro D9 w1 hI|go_at_call 138;refine KC qN hI (iq _ pr ab _ (by exact h1.out) (hI.sat _ a_) (hI.nd a_)) ?_;intro w1 hI|go_at_call 139;refine KI hI (sI.yes (iX _ pr ab _ (hI.sat _ a_) (hI.nd a_)) (jd (by exact h2.out))) ?_;intro w1 hI|refine YS ?_;intro w hI);exact W84
   ·have hl3:(nn x3).length=3:=by rw[dE];exact eF h3
    replace h3:=HD h3;have hl1:=ag 0;have hl4:=ag 0;go_enter func114,ntmps114;go_upto_region 2 with(first|go_at_call 136;refine KC jo hI (dF _ pr ab _ _ _ _ (hI.sat _ aM) (hI.nd aM) h0.out OM qX.out) ?_;intro w1 hI|refine YS ?_;intro w hI|refine YX ?_;intro bx w hI|refine YL ?_)
    rw[hbw.out]at hI;go_upto_region 3 with(refine YL ?_)
    rw[kI.out];go_wp2_with(first|go_at_call 138;refine KC qN hI (iq _ pr ab _ (by exact h1.out) (hI.sat _ a_) (hI.nd a_)) ?_;intro w1 hI|go_at_call 139;refine KI hI (sI.yes (iX _ pr ab _ (hI.sat _ a_) (hI.nd a_)) (jd (by exact h2.out))) ?_;intro w1 hI|go_at_call 140;refine KI hI (sI.yes (qY _ pr ab _ (hI.sat _ a_) (hI.nd a_)) (jd (by exact h3.out))) ?_;intro w1 hI|refine YL ?_|refine YS ?_;intro w hI);simp only[ag,gB,gD,gF,fK,fo,fM,fq,fu,bZ,bO,eP,dH,dO,hl1,hl2,hl3,hl4]at hI;exact bodyPost_ret (aH hI rfl rfl aM (bP.out (t:=158)) (by simp only[eY,ag,hl1,hl2,hl3,hl4])) rfl (.inl ⟨_,_,_,(by simp only[om,h0.out,h1.out,h2.out,h3.out,Option.bind_some];rfl),(by simp only[eY,ag,hl1,hl2,hl3,hl4]),rfl,hI.sub SB⟩)
theorem ahv(c0)(h0:Hid (iI 10 bs=some (6,c0))):Calls prog 114 #[.pointer (some ⟨pr,0,none⟩)] w0 (C8 w0 pr ab bs):=by
 have qX:Hid (((6:Nat):Int)=6):=HD rfl;have hbd:Hid (dK (au 192) 0 (ay (au 192) [(0,[6])])=(aF 6 0 (au 174) 0 0 (au 2) (au 2) (au 3) (au 7))):=HD (by rw[jB _ _ (by simp[ay,aY,ag]),ay,ay,fC,bR]);have hbw:Hid (ay (au 192) [(0,[6])]=(aF 6 0 (au 174) 0 0 (au 2) (au 2) (au 3) (au 7))):=HD (by rw[ay,ay,fC,bR]);have kI:Hid (gi (aF 6 0 (au 174) 0 0 (au 2) (au 2) (au 3) (au 7)) 0=6):=HD aD;exact W4
theorem ahw(c0)(h0:Hid (iI 10 bs=some (7,c0))):Calls prog 114 #[.pointer (some ⟨pr,0,none⟩)] w0 (C8 w0 pr ab bs):=by
 have qX:Hid (((7:Nat):Int)=7):=HD rfl;have hbd:Hid (dK (au 192) 0 (ay (au 192) [(0,[7])])=(aF 7 0 (au 174) 0 0 (au 2) (au 2) (au 3) (au 7))):=HD (by rw[jB _ _ (by simp[ay,aY,ag]),ay,ay,fC,bR]);have hbw:Hid (ay (au 192) [(0,[7])]=(aF 7 0 (au 174) 0 0 (au 2) (au 2) (au 3) (au 7))):=HD (by rw[ay,ay,fC,bR]);have kI:Hid (gi (aF 7 0 (au 174) 0 0 (au 2) (au 2) (au 3) (au 7)) 0=7):=HD aD;rcases h1:bJ ko c0 with _| ⟨x1,c1⟩
 ·replace h1:=HD h1
  have hl1:=ag 0;have hl2:=ag 0;have hl3:=ag 0;have hl4:=ag 0;go_enter func114,ntmps114;go_upto_region 2 with(first|go_at_call 136;refine KC jo hI (dF _ pr ab _ _ _ _ (hI.sat _ aM) (hI.nd aM) h0.out OM qX.out) ?_;intro w1 hI|refine YS ?_;intro w hI|refine YX ?_;intro bx w hI|refine YL ?_)
  rw[hbw.out]at hI;go_upto_region 3 with(refine YL ?_)
  rw[kI.out];go_wp2_with(go_at_call 141;refine KN hI (sI.no (xG _ pr ab _ (hI.sat _ a_) (hI.nd a_)) (mQ (by exact h1.out))) ?_;intro D9 w1 hI);exact⟨rfl,.inr ⟨by simp only[om,h0.out,h1.out,Option.bind_some,Option.bind_none],rfl,_,hI.sub SB⟩⟩
 ·have hl1:(nn x1).length=7:=by rw[dE];exact eF h1
  have hvb:Hid (∀i,-9223372036854775808<gi (nn x1) i∧gi (nn x1) i<=9223372036854775807):=HD (Qv (Ap DC h1));replace h1:=HD h1;have hl2:=ag 0;have hl3:=ag 0;have hl4:=ag 0;go_enter func114,ntmps114;go_upto_region 2 with(first|go_at_call 136;refine KC jo hI (dF _ pr ab _ _ _ _ (hI.sat _ aM) (hI.nd aM) h0.out OM qX.out) ?_;intro w1 hI|refine YS ?_;intro w hI|refine YX ?_;intro bx w hI|refine YL ?_)
  rw[hbw.out]at hI;go_upto_region 3 with(refine YL ?_)
  rw[kI.out];go_upto_region 26 with(first|go_at_call 141;refine KI hI (sI.yes (xG _ pr ab _ (hI.sat _ a_) (hI.nd a_)) (jd (by exact h1.out))) ?_;intro w1 hI|refine YS ?_;intro w hI)
  simp only[ag,gB,gD,gF,fK,fo,fM,fq,fu,bZ,bO,eP,dH,dO,hl1,hl2,hl3,hl4]at hI
  (obtain⟨bz,hbz⟩:=EZ bx)
  (refine ZR [3,4,5] [0] [3] [0,1,2,3,4,5] (λw=>Inv (eZ pr ab bs).own w0 w [ib bx 158 (aF 7 0 (au 174) 0 0 (au 2) (au 2) (au 3) (nn x1))]) hI ?_;intro wd hI)
  (repeat(first|refine ZS ?_|refine ZQ ?_;go_wp2_with(first|refine YS ?_;intro w hI|go_at_call 142;refine KD hI (Fy _ _ _ (by simp only[ag,gB,gD,gF,fK,fo,fM,fq,fu,bZ,bO,eP,dH,dO,hl1,hl2,hl3,hl4]) (by exact hl1) hvb.out) ?_;intro w1 hI|refine YL ?_);refine ZP ?_))
  simp only[ag,gB,gD,gF,fK,fo,fM,fq,fu,bZ,bO,eP,dH,dO,hl1,hl2,hl3,hl4]at hI|-;go_wp2_with(fail);exact W54
theorem ahx(c0)(h0:Hid (iI 10 bs=some (8,c0))):Calls prog 114 #[.pointer (some ⟨pr,0,none⟩)] w0 (C8 w0 pr ab bs):=by
 have qX:Hid (((8:Nat):Int)=8):=HD rfl;have hbd:Hid (dK (au 192) 0 (ay (au 192) [(0,[8])])=(aF 8 0 (au 174) 0 0 (au 2) (au 2) (au 3) (au 7))):=HD (by rw[jB _ _ (by simp[ay,aY,ag]),ay,ay,fC,bR]);have hbw:Hid (ay (au 192) [(0,[8])]=(aF 8 0 (au 174) 0 0 (au 2) (au 2) (au 3) (au 7))):=HD (by rw[ay,ay,fC,bR]);have kI:Hid (gi (aF 8 0 (au 174) 0 0 (au 2) (au 2) (au 3) (au 7)) 0=8):=HD aD;rcases h1:iI 5 c0 with _| ⟨x1,c1⟩
 ·exact W6
 ·replace h1:=HD h1
  rcases h2:bJ ko c1 with _| ⟨x2,c2⟩
  ·replace h2:=HD h2
   have hl1:=ag 0;have hl2:=ag 0;have hl3:=ag 0;have hl4:=ag 0;go_enter func114,ntmps114;go_upto_region 2 with(first|go_at_call 136;refine KC jo hI (dF _ pr ab _ _ _ _ (hI.sat _ aM) (hI.nd aM) h0.out OM qX.out) ?_;intro w1 hI|refine YS ?_;intro w hI|refine YX ?_;intro bx w hI|refine YL ?_)
   rw[hbw.out]at hI;go_upto_region 3 with(refine YL ?_)
   rw[kI.out];go_wp2_with(first|go_at_call 141;refine KN hI (sI.no (xG _ pr ab _ (hI.sat _ a_) (hI.nd a_)) (mQ (by exact h2.out))) ?_;intro D9 w1 hI|go_at_call 136;refine KC qN hI (dZ _ pr ab _ _ _ (hI.sat _ a_) (hI.nd a_) (by exact h1.out) OM) ?_;intro w1 hI|refine YS ?_;intro w hI);exact⟨rfl,.inr ⟨by simp only[om,h0.out,h1.out,h2.out,Option.bind_some,Option.bind_none],rfl,_,hI.sub SB⟩⟩
  ·have hl2:(nn x2).length=7:=by rw[dE];exact eF h2
   have hvb:Hid (∀i,-9223372036854775808<gi (nn x2) i∧gi (nn x2) i<=9223372036854775807):=HD (Qv (Ap DC h2));replace h2:=HD h2;have hl1:=ag 0;have hl3:=ag 0;have hl4:=ag 0;go_enter func114,ntmps114;go_upto_region 2 with(first|go_at_call 136;refine KC jo hI (dF _ pr ab _ _ _ _ (hI.sat _ aM) (hI.nd aM) h0.out OM qX.out) ?_;intro w1 hI|refine YS ?_;intro w hI|refine YX ?_;intro bx w hI|refine YL ?_)
   rw[hbw.out]at hI;go_upto_region 3 with(refine YL ?_)
   rw[kI.out];go_upto_region 30 with(first|go_at_call 136;refine KC qN hI (dZ _ pr ab _ _ _ (hI.sat _ a_) (hI.nd a_) (by exact h1.out) OM) ?_;intro w1 hI|go_at_call 141;refine KI hI (sI.yes (xG _ pr ab _ (hI.sat _ a_) (hI.nd a_)) (jd (by exact h2.out))) ?_;intro w1 hI|refine YS ?_;intro w hI)
   simp only[ag,gB,gD,gF,fK,fo,fM,fq,fu,bZ,bO,eP,dH,dO,hl1,hl2,hl3,hl4]at hI
   (obtain⟨bz,hbz⟩:=EZ bx)
   (refine ZR [3,4,5] [0] [3] [0,1,2,3,4,5] (λw=>Inv (eZ pr ab bs).own w0 w [ib bx 158 (aF 8 ((x1:Nat):Int) (au 174) 0 0 (au 2) (au 2) (au 3) (nn x2))]) hI ?_;intro wd hI)
   (repeat(first|refine ZS ?_|refine ZQ ?_;go_wp2_with(first|refine YS ?_;intro w hI|go_at_call 142;refine KD hI (Fy _ _ _ (by simp only[ag,gB,gD,gF,fK,fo,fM,fq,fu,bZ,bO,eP,dH,dO,hl1,hl2,hl3,hl4]) (by exact hl2) hvb.out) ?_;intro w1 hI|refine YL ?_);refine ZP ?_))
   simp only[ag,gB,gD,gF,fK,fo,fM,fq,fu,bZ,bO,eP,dH,dO,hl1,hl2,hl3,hl4]at hI|-;go_wp2_with(fail);exact bodyPost_ret (aH hI rfl rfl aM (bP.out (t:=158)) (by simp only[eY,ag,hl1,hl2,hl3,hl4])) rfl (.inl ⟨_,_,_,(by simp only[om,h0.out,h1.out,h2.out,Option.bind_some];rfl),(by simp only[eY,ag,hl1,hl2,hl3,hl4]),rfl,hI.sub SB⟩)
theorem ahy(c0)(h0:Hid (iI 10 bs=some (9,c0))):Calls prog 114 #[.pointer (some ⟨pr,0,none⟩)] w0 (C8 w0 pr ab bs):=by
 have qX:Hid (((9:Nat):Int)=9):=HD rfl;have hbd:Hid (dK (au 192) 0 (ay (au 192) [(0,[9])])=(aF 9 0 (au 174) 0 0 (au 2) (au 2) (au 3) (au 7))):=HD (by rw[jB _ _ (by simp[ay,aY,ag]),ay,ay,fC,bR]);have hbw:Hid (ay (au 192) [(0,[9])]=(aF 9 0 (au 174) 0 0 (au 2) (au 2) (au 3) (au 7))):=HD (by rw[ay,ay,fC,bR]);have kI:Hid (gi (aF 9 0 (au 174) 0 0 (au 2) (au 2) (au 3) (au 7)) 0=9):=HD aD;rcases h1:iI 5 c0 with _| ⟨x1,c1⟩
 ·exact W6
 ·replace h1:=HD h1
  rcases h2:jl c1 with _| ⟨x2,c2⟩
  ·exact W8
  ·have hl2:(nn x2).length=174:=by rw[dE];exact lM h2
   replace h2:=HD h2;have hl1:=ag 0;have hl3:=ag 0;have hl4:=ag 0;go_enter func114,ntmps114;go_upto_region 2 with(first|go_at_call 136;refine KC jo hI (dF _ pr ab _ _ _ _ (hI.sat _ aM) (hI.nd aM) h0.out OM qX.out) ?_;intro w1 hI|refine YS ?_;intro w hI|refine YX ?_;intro bx w hI|refine YL ?_)
   rw[hbw.out]at hI;go_upto_region 3 with(refine YL ?_)
   rw[kI.out];go_upto_region 8 with(first|go_at_call 136;refine KC qN hI (dZ _ pr ab _ _ _ (hI.sat _ a_) (hI.nd a_) (by exact h1.out) OM) ?_;intro w1 hI|go_at_call 137;refine KI hI (sI.yes (wG _ pr ab _ (hI.sat _ a_) (hI.nd a_)) (wZ (by exact h2.out))) ?_;intro w1 hI|refine YS ?_;intro w hI)
   simp only[ag,gB,gD,gF,fK,fo,fM,fq,fu,bZ,bO,eP,dH,dO,hl1,hl2,hl3,hl4]at hI
   (obtain⟨bz,hbz⟩:=EZ bx)
   (refine ZR [3,4,5] [0] [3] [0,1,2,3,4,5] (λw=>Inv (eZ pr ab bs).own w0 w [ib bx 158 (aF 9 ((x1:Nat):Int) (nn x2) 0 0 (au 2) (au 2) (au 3) (au 7))]) hI ?_;intro wd hI)
   exact W9
theorem Z_:Calls prog 114 #[.pointer (some ⟨pr,0,none⟩)] w0 (C8 w0 pr ab bs):=by
 rcases h0:iI 10 bs with _| ⟨k,c0⟩
 ·grind[Z9,Go.Lib.hid]
 ·have hlt:=tL h0
  obtain rfl|rfl|rfl|rfl|rfl|rfl|rfl|rfl|rfl|rfl:k=0∨k=1∨k=2∨k=3∨k=4∨k=5∨k=6∨k=7∨k=8∨k=9:=by omega
  ·grind[ahp,Go.Lib.hid]
  ·grind[ahq,Go.Lib.hid]
  ·grind[ahr,Go.Lib.hid]
  ·grind[ahs,Go.Lib.hid]
  all_goals grind[aht,Go.Lib.hid,ahu,ahv,ahw,ahx,ahy]
theorem adM{z b cs}(hr:om bs=some ((z,b),cs)):Calls prog 114 #[.pointer (some ⟨pr,0,none⟩)] w0 λe w'=>z.length=192∧e=.returned (.tuple #[ia z,.bool b])∧Inv (eZ pr ab bs).own w0 w' [eZ pr ab cs]:=by
 refine(Z_ w0 pr ab bs hI).mono ?_;exact ai_
theorem ahz(hr:om bs=none):Calls prog 114 #[.pointer (some ⟨pr,0,none⟩)] w0 λe w'=>e=.panicked Ma∧∃cs,Inv (eZ pr ab bs).own w0 w' [eZ pr ab cs]:=by
 refine(Z_ w0 pr ab bs hI).mono ?_;exact ai9
end
theorem call113(args w):(callFunc 113 args).run prog w=.ok (.enter 113 args) w:=by simp_all
theorem zl{T w0 w pr bx br ab bs cs z b u x m}(hr:Hid (om bs=some ((z,b),cs)))(hI:Inv T w0 w (eZ pr ab bs::x::blk br 4 [.bool u]::ib bx 158 (au 192)::m)):
  Calls prog 113 #[.pointer (some ⟨pr,0,none⟩),.pointer (some ⟨bx,0,none⟩),.pointer (some ⟨br,0,none⟩)] w λe w'=>e=.returned (.tuple #[])∧Inv T w0 w' (eZ pr ab cs::x::blk br 4 [.bool b]::ib bx 158 z::m):=by
 go_enter func113,ntmps113;go_wp2_with(first|go_at_call 114;(with_reducible refine(adM _ pr ab bs (hI.at_ aC) hr.out).mono ?_);rintro e w1 ⟨hzl,rfl,hJ⟩;replace hI:=hI.on hJ aU.here;clear hJ|refine YS ?_;intro w hI|refine YT ?_;intro w hI;(try simp only[QS]at hI));exact⟨rfl,_,h_ KF _ _,rfl,hI⟩
theorem VR{T w0 w pr bx br ab bs u x m}(hr:Hid (om bs=none))(hI:Inv T w0 w (eZ pr ab bs::x::blk br 4 [.bool u]::ib bx 158 (au 192)::m)):
  Calls prog 113 #[.pointer (some ⟨pr,0,none⟩),.pointer (some ⟨bx,0,none⟩),.pointer (some ⟨br,0,none⟩)] w λe w'=>e=.panicked Ma∧∃cs,Inv T w0 w' (eZ pr ab cs::x::blk br 4 [.bool u]::ib bx 158 (au 192)::m):=by
 go_enter func113,ntmps113;go_wp2_with(go_at_call 114;refine KN hI (ahz _ pr ab bs (hI.at_ aC) hr.out) ?_;intro D9 w1 hI);exact⟨rfl,rfl,_,hI⟩
theorem aaa{bs cs z b}(h:om bs=some ((z,b),cs)):z.length=192:=by
 obtain⟨p,h0,h⟩:=Option.bind_eq_some_iff.1 h
 split at h
 ·grind[Option.bind_eq_some_iff,eY,dE,lM,ag]
 ·grind[Option.bind_eq_some_iff,eY,ag]
 ·grind[Option.bind_eq_some_iff,eY,dE,lM,ag]
 ·exact W59
 ·obtain⟨⟨x1,c1⟩,h1,h⟩:=Option.bind_eq_some_iff.1 h
  obtain⟨⟨x2,c2⟩,h2,h⟩:=Option.bind_eq_some_iff.1 h;obtain⟨⟨x3,c3⟩,h3,h⟩:=Option.bind_eq_some_iff.1 h;obtain⟨⟨x4,c4⟩,h4,h⟩:=Option.bind_eq_some_iff.1 h;obtain⟨⟨rfl,_⟩,_⟩:=h;exact eY (ag _) (by rw[dE];exact eF h2) (by rw[dE];exact eF h3) (by rw[dE];exact eF h4) (ag _)
 ·obtain⟨⟨x1,c1⟩,h1,h⟩:=Option.bind_eq_some_iff.1 h
  obtain⟨⟨x2,c2⟩,h2,h⟩:=Option.bind_eq_some_iff.1 h;obtain⟨⟨x3,c3⟩,h3,h⟩:=Option.bind_eq_some_iff.1 h;obtain⟨⟨rfl,_⟩,_⟩:=h;exact eY (ag _) (by rw[dE];exact eF h2) (ag _) (by rw[dE];exact eF h3) (ag _)
 ·exact W59
 ·obtain⟨⟨x1,c1⟩,h1,h⟩:=Option.bind_eq_some_iff.1 h
  obtain⟨⟨rfl,_⟩,_⟩:=h;exact eY (ag _) (ag _) (ag _) (ag _) (by rw[dE];exact eF h1)
 ·obtain⟨⟨x1,c1⟩,h1,h⟩:=Option.bind_eq_some_iff.1 h
  obtain⟨⟨x2,c2⟩,h2,h⟩:=Option.bind_eq_some_iff.1 h;obtain⟨⟨rfl,_⟩,_⟩:=h;exact eY (ag _) (ag _) (ag _) (ag _) (by rw[dE];exact eF h2)
 all_goals grind[Option.bind_eq_some_iff,eY,dE,lM,ag]
def Ar(bs:List UInt8):List Int×Int:=match om bs with
 |some ((z,true),[])=>(z,0)
 |_=>(au 192,1)
section
variable {T:List Nat}{w0 w:World}{a:Option Addr}{ab:Option Nat}{c:Nat}{bs:List UInt8}{m:List bT}(hc:bs.length<=c)(hm:c<=maxLen)(hI:Inv T w0 w (nY ab a bs::m))
include hc hm hI
theorem Nk:Calls prog 76 #[.slice a bs.length c] w λe w'=>e=.returned (.tuple #[ia (Ar bs).1,.int .i64 (Ar bs).2])∧Inv T w0 w' m:=by
 have hmf:∀(fn:Fn) (first cap:Array Value) (w:World),(Instr.makeFunc fn first cap).run prog w=.ok (.func fn first cap) w:=λ_ _ _ _=>rfl
 have hn0:=ag 192;rcases h:om bs with _| ⟨⟨z,b⟩,cs⟩
 ·have hD:Hid (Ar bs=(au 192,1)):=HD (by rw[Ar,h])
  have hr:=HD h;clear h;go_enter func76,ntmps76;go_wp2_with(first|(with_reducible refine aN (z:=.bool false) (cs:=[.bool false]) hI zY RF ?_;intro br w hI)|go_at_call 99;(with_reducible refine(Ew hc hm call113 (Inv.Mg hI) (λw' pr x hI=>VR hr hI)).mono ?_);rintro e w1 ⟨rfl,pr,D9,hJ⟩;replace hI:=hJ;clear hJ|refine YS ?_;intro w hI|refine YT ?_;intro w hI;(try simp only[QS]at hI)|refine YX ?_;intro bx w hI|refine YL ?_);exact W49
 ·by_cases hcs:cs=[]
  ·subst hcs
   have hr:=HD h;cases b
   ·have hD:Hid (Ar bs=(au 192,1)):=HD (by rw[Ar,h])
    clear h;go_enter func76,ntmps76;go_wp2_with(first|(with_reducible refine aN (z:=.bool false) (cs:=[.bool false]) hI zY RF ?_;intro br w hI)|go_at_call 99;(with_reducible refine(nS hc hm call113 (Inv.Mg hI) (λw' pr x hI=>zl hr hI)).mono ?_);rintro e w1 ⟨rfl,pr,hJ⟩;replace hI:=hJ;clear hJ|refine YL ?_|refine YS ?_;intro w hI|refine YT ?_;intro w hI;(try simp only[QS]at hI)|refine YX ?_;intro bx w hI);exact W49
   ·have hD:Hid (Ar bs=(z,0)):=HD (by rw[Ar,h])
    have hzl:=aaa h;clear h;go_enter func76,ntmps76;go_wp2_with(first|(with_reducible refine aN (z:=.bool false) (cs:=[.bool false]) hI zY RF ?_;intro br w hI)|go_at_call 99;(with_reducible refine(nS hc hm call113 (Inv.Mg hI) (λw' pr x hI=>zl hr hI)).mono ?_);rintro e w1 ⟨rfl,pr,hJ⟩;replace hI:=hJ;clear hJ|refine YL ?_|refine YS ?_;intro w hI|refine YT ?_;intro w hI;(try simp only[QS]at hI)|refine YX ?_;intro bx w hI);exact bodyPost_ret (aH hI rfl rfl nz (bP.out (t:=158)) hzl) rfl ⟨by rw[hD.out];rfl,hI.sub (.cons _ (.cons _ (.cons _ (.cons _ (.refl _)))))⟩
  ·have hD:Hid (Ar bs=(au 192,1)):=HD (by
    rw[Ar,h];cases cs with
    |nil=>exact absurd rfl hcs
    |cons x xs=>cases b<;>rfl)
   have hd:decide (cs=[])=false:=by simpa using hcs
   have hr:=HD h;clear h hcs;go_enter func76,ntmps76;go_wp2_with(first|(with_reducible refine aN (z:=.bool false) (cs:=[.bool false]) hI zY RF ?_;intro br w hI)|go_at_call 99;(with_reducible refine(nS hc hm call113 (Inv.Mg hI) (λw' pr x hI=>zl hr hI)).mono ?_);rintro e w1 ⟨rfl,pr,hJ⟩;replace hI:=hJ;clear hJ|refine YS ?_;intro w hI|refine YT ?_;intro w hI;(try simp only[QS]at hI)|refine YX ?_;intro bx w hI|refine YL ?_);exact W49
end
