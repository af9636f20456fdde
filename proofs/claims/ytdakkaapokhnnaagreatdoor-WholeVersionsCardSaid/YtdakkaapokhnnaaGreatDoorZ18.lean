/- Contracts of functions. No condition. -/
import Derived.Test.YtdakkaapokhnnaaGreatDoorZ15
namespace Go.Proofs.YtdakkaapokhnnaaGreatDoor
open Go.RowKit Go.Proofs.Tryz
set_option maxRecDepth 100000
set_option maxHeartbeats 6400000
set_option linter.all false
section
open B (dw)
theorem mi(w g c i k v)(hv:Hid (decide (k∈eU i)=v))(hr:Rd w (some ⟨g,0,none⟩) ((eU i).map iN)):
  Calls prog 153 #[.slice (some ⟨g,0,none⟩) 2 c,.int .i64 (k:Int)] w λe w'=>e=.returned (.bool v)∧w'=w:=by
 have e1:decide ((k:Int)∈(eU i).map λ(n:Nat)=>(n:Int))=v:=by
  rw[<-hv.out,decide_eq_decide]
  grind
 have h:=KT g 2 c ((eU i).map λ(n:Nat)=>(n:Int)) (k:Int) w (by simp[eU]) OM (by exact hr)
 grind
theorem zU(w0 X Y S)(hX:Bd X)(hI:Inv (aj X Y S).own w0 w0 [aj X Y S])(V)(hvw:Hid (eG V))(hV:S.view=V):Calls prog 79 #[.pointer (some ⟨X.b,0,none⟩),oV X] w0 λe w'=>∃Y' S',e=.returned (.tuple #[])∧Hid (j6 X.f S=S')∧Inv (aj X Y S).own w0 w' [aj X Y' S']:=by
 grind[ahU,Go.Calls.mono,Go.Lib.hid]
theorem TM{k}(h:k<5):wrap64 (2^k)=2^k:=by
 exact W92
section
variable (w0:World)(X:RX)(Y:RY)(S:RS)(hX:Bd X)
include hX
theorem aaM(k:Nat)(hk5:k<5)(i:Nat)(hi5:i<5)(z r)(hz:z.length=192)(h1:gi z 1=(i:Int))(h2:gi z 2=gi r 0)(hs:sub z 2 174=r)(hr:r.length=174)(hvw:Hid (eG S.view))(hI:Inv (aj X Y S).own w0 w0 [aj X Y S]):
  Calls prog 119 #[.pointer (some ⟨X.b,0,none⟩),oV X,.int .i64 (k:Int),ia z] w0 λe w'=>∃Y',e=.returned (.tuple #[])∧Inv (aj X Y S).own w0 w' [aj X Y' (jk X.f S k i r)]:=by
 have alI:(i:Int) <5:=by omega
 have alJ:k<64:=by omega
 have hwr:=TM hk5;have wL:(k:Int).toNat=k:=by simp
 cases hc0:decide (k∈eU i)
 ·have hcn:=HD hc0
  have hF:Hid (jk X.f S k i r=j6 X.f S):=HD (by rw[jk,if_neg (by simpa using hc0)]);clear hc0;go_enter func119,ntmps119;go_wp2_with(first|refine YL ?_|refine YX ?_;intro bx w hI|go_at_call 121;refine KO hI (yA _ i hi5) ?_;intro g cw w1 hI|go_at_call 153;refine KR (mi _ g cw i k _ hcn (hI.rd aC)) ?_|go_at_call 79;refine KJ hI (zU _ X _ _ hX (hI.at_ a_) _ hvw RF) ?_;intro Y2 S2 w1 hS2 hI);rw[hF.out,hS2.out];exact W80
 ·have hcn:=HD hc0
  by_cases hq:gi S.told i=0∨gi S.last (i*174) <gi r 0
  ·have hF:Hid (jk X.f S k i r=j6 X.f {S with last:=dK S.last (i*174) r,told:=S.told.set i (XG (gi S.told i) k)}):=HD (by rw[jk,if_pos (by simpa using hc0),if_pos hq])
   clear hc0;cases ht:(gi S.told i==0)
   ·have hd:decide (gi S.last (i*174) <gi r 0)=true:=by
     simp at ht;simpa[ht]using hq
    clear hq;go_enter func119,ntmps119;go_upto_region 2 with(first|refine YL ?_|refine YX ?_;intro bx w hI|go_at_call 121;refine KO hI (yA _ i hi5) ?_;intro g cw w1 hI|go_at_call 153;refine KR (mi _ g cw i k _ hcn (hI.rd aC)) ?_)
    refine ZT [5,6,7,8,20,21] 22 hI ?_;intro wd hI
    (repeat(refine ZQ ?_;go_wp2_with(refine YL ?_);refine ZP ?_))
    exact W70
   ·clear hq
    go_enter func119,ntmps119;go_upto_region 2 with(first|refine YL ?_|refine YX ?_;intro bx w hI|go_at_call 121;refine KO hI (yA _ i hi5) ?_;intro g cw w1 hI|go_at_call 153;refine KR (mi _ g cw i k _ hcn (hI.rd aC)) ?_)
    refine ZT [5,6,7,8,20,21] 22 hI ?_;intro wd hI
    (repeat(first|refine ZS ?_|refine ZQ ?_;go_wp2_with(refine YL ?_);refine ZP ?_))
    exact W70
  ·have hF:Hid (jk X.f S k i r=j6 X.f {S with told:=S.told.set i (XG (gi S.told i) k)}):=HD (by rw[jk,if_pos (by simpa using hc0),if_neg hq])
   have ht:(gi S.told i==0)=false:=by simp;exact λh=>hq (.inl h)
   have hd:decide (gi S.last (i*174) <gi r 0)=false:=by simp;have:=λh=>hq (.inr h);omega
   clear hq hc0;go_enter func119,ntmps119;go_upto_region 2 with(first|refine YL ?_|refine YX ?_;intro bx w hI|go_at_call 121;refine KO hI (yA _ i hi5) ?_;intro g cw w1 hI|go_at_call 153;refine KR (mi _ g cw i k _ hcn (hI.rd aC)) ?_)
   refine ZT [5,6,7,8,20,21] 22 hI ?_;intro wd hI
   (repeat(refine ZQ ?_;go_wp2_with(refine YL ?_);refine ZP ?_))
   exact W14
end
end
section
open B (dw)
section
variable {w:Int}{r:List Int}
theorem N7(hr:r.length=174):ay (au 192) [(0,[9]),(1,[w]),(2,r)]=aF 9 w r 0 0 (au 2) (au 2) (au 3) (au 7):=Tx 9 hr
theorem gQ.len{M:gQ}(hM:M.Len):M.nX.length=192:=by
 cases M<;>simp only[gQ.Len]at hM<;>simp only[gQ.nX,aF,List.length_append,List.length_cons,List.length_nil,ag]<;>omega
end
theorem uL(S x):∃D' c' u' e',Hid (cK S x=({S with D:=D',cnt:=c',used:=u'},e')):=⟨_,_,_,_,HD rfl⟩
theorem ou(w0 X Y S x)(hx:x.Len)(z)(hz:z=x.nX)(D' c' u' e')(hP:Hid (cK S x=({S with D:=D',cnt:=c',used:=u'},e')))(hI:Inv (aj X Y S).own w0 w0 [aj X Y S]):
  Calls prog 108 #[.pointer (some ⟨X.b,0,none⟩),ia z] w0 λe w'=>∃Y',e=.returned (.int .i64 e')∧Inv (aj X Y S).own w0 w' [aj X Y' {S with D:=D',cnt:=c',used:=u'}]:=by
 subst hz;refine(afA w0 X Y S x hx hI).mono ?_;rw[hP.out];rintro e w' ⟨nu,he,hJ⟩;exact⟨_,he,hJ⟩
section
variable {T:List Nat}{w0 w:World}{m m':List bT}{f b l vb rc:Nat}{ra:Option Addr}{S:RS}{Z:bT}
theorem pV{who v}(hv:Hid (C.fG S.sl who=v))(hI:Inv T w0 w m)(hm:two (rb f b l vb ra rc S) Z∈m):Calls prog 47 #[.pointer (some ⟨b,183,none⟩),.int .i64 who] w λe w'=>e=.returned (.bool v)∧Inv T w0 w' m:=by
 grind[Go.RowKit.Hid.out,IG]
theorem KU{i:Nat}(hi:i<5)(hI:Inv T w0 w m)(hm:two (rb f b l vb ra rc S) Z∈m):Calls prog 46 #[.pointer (some ⟨b,183,none⟩),.int .i64 (i:Int)] w λe w'=>e=.returned (ia (sub S.aT (i*174) 174))∧Inv T w0 w' m:=by
 have h:=ZM hI hm (i:Int);rw[C.rowOf,if_pos (by grind[C.aL]),show(i:Int).toNat=i by simp]at h;exact h
end
section
variable (w0:World)(X:RX)(Y:RY)(S:RS)(hX:Bd X)
include hX
theorem Wo(hI:Inv (aj X Y S).own w0 w0 [aj X Y S])(k:Nat)(hk5:k<5)(i:Nat)(hi5:i<5)(z r)(hz:z.length=192)(h1:gi z 1=(i:Int))(h2:gi z 2=gi r 0)(hs:sub z 2 174=r)(hr:r.length=174)(V)(hvw:Hid (eG V))(hV:S.view=V):
  Calls prog 119 #[.pointer (some ⟨X.b,0,none⟩),oV X,.int .i64 (k:Int),ia z] w0 λe w'=>∃Y' S',e=.returned (.tuple #[])∧Hid (jk X.f S k i r=S')∧Inv (aj X Y S).own w0 w' [aj X Y' S']:=by
 subst hV;refine(aaM w0 X Y S hX k hk5 i hi5 z r hz h1 h2 hs hr hvw hI).mono ?_
 grind[Go.Lib.hid]
theorem TN(k:Nat)(hk5:k<5)(i:Nat)(hi5:i<5)(z r)(hz:z.length=192)(h0:gi z 0=9)(h1:gi z 1=(i:Int))(h2:gi z 2=gi r 0)(hs:sub z 2 174=r)(hr:r.length=174)(hvw:Hid (eG S.view))(hI:Inv (aj X Y S).own w0 w0 [aj X Y S]):
  Calls prog 77 #[.pointer (some ⟨X.b,0,none⟩),oV X,.int .i64 (k:Int),ia z] w0 λe w'=>∃Y',e=.returned (.tuple #[])∧Inv (aj X Y S).own w0 w' [aj X Y' (jk X.f S k i r)]:=by
 go_enter func77,ntmps77;go_wp2_with(first|refine YL ?_|refine YX ?_;intro bx w hI|go_at_call 119;refine KJ hI (Wo _ X _ _ hX (hI.at_ aM) k hk5 i hi5 z r hz h1 h2 hs hr _ hvw RF) ?_;intro Y2 S2 w1 hS2 hI);rw[hS2.out];exact OV
theorem HZ(z)(hz:z.length=192)(S1)(hT:∀w1,Inv (aj X Y S).own w1 w1 [aj X Y S]->Calls prog 77 #[.pointer (some ⟨X.b,0,none⟩),oV X,.int .i64 (X.f:Int),ia z] w1 λe w'=>∃Y',e=.returned (.tuple #[])∧Inv (aj X Y S).own w1 w' [aj X Y' S1])(hI:Inv (aj X Y S).own w0 w0 [aj X Y S]):Calls prog 122 #[.pointer (some ⟨X.b,0,none⟩),oV X,.int .i64 (X.f:Int),ia z] w0 λe w'=>∃Y',e=.returned (.tuple #[])∧Inv (aj X Y S).own w0 w' [aj X Y' S1]:=by
 go_enter func122,ntmps122;go_upto_region 2 with(first|refine YX ?_;intro bx w hI|refine YL ?_)
 refine ZT [7] 8 hI ?_;intro wd hI
 (repeat(refine ZQ ?_;go_wp2_with(first|go_at_call 77;refine KG hI (hT _ (hI.at_ aM)) ?_;intro Y2 w1 hI|refine YL ?_);refine ZP ?_))
 go_wp2_with(fail);exact OV
theorem AU(M)(hM:M.Len)(z)(hz:z=M.nX)(d)(hd:d<5)(S1)(hT:d=X.f->∀w1,Inv (aj X Y S).own w1 w1 [aj X Y S]->Calls prog 77 #[.pointer (some ⟨X.b,0,none⟩),oV X,.int .i64 (X.f:Int),ia M.nX] w1 λe w'=>∃Y',e=.returned (.tuple #[])∧Inv (aj X Y S).own w1 w' [aj X Y' S1])(hI:Inv (aj X Y S).own w0 w0 [aj X Y S]):Calls prog 122 #[.pointer (some ⟨X.b,0,none⟩),oV X,.int .i64 (d:Int),ia z] w0 λe w'=>∃Y',e=.returned (.tuple #[])∧Inv (aj X Y S).own w0 w' [aj X Y' (if d=X.f then S1 else dS X.f S d M)]:=by
 subst hz;by_cases h:d=X.f
 ·rw[if_pos h]
  subst h;exact HZ w0 X Y S hX M.nX (gQ.len hM) S1 (hT rfl) hI
 ·rw[if_neg h]
  grind[Tw]
theorem yI(hI:Inv (aj X Y S).own w0 w0 [aj X Y S])(d:Nat)(hd:d<5)(i:Nat)(hi5:i<5)(z r)(hz:z=aF 9 (i:Int) r 0 0 (au 2) (au 2) (au 3) (au 7))(hr:r.length=174)(V)(hvw:Hid (eG V))(hV:S.view=V):
  Calls prog 122 #[.pointer (some ⟨X.b,0,none⟩),oV X,.int .i64 (d:Int),ia z] w0 λe w'=>∃Y' S',e=.returned (.tuple #[])∧Hid (gI X.f S d i r=S')∧Inv (aj X Y S).own w0 w' [aj X Y' S']:=by
 subst hV;refine(AU w0 X Y S hX (.d_ i r) ⟨hi5,hr⟩ z hz d hd (jk X.f S X.f i r) (λh w1 hI1=>TN w1 X Y S hX X.f hX.f5 i hi5 _ r (gQ.len (M:=.d_ i r) ⟨hi5,hr⟩) aD kQ ?_ (bZ hr) hr hvw hI1) hI).mono ?_
 ·have e:=bZ (k:=9) (w:=(i:Int)) (n:=0) (e:=0) (b:=au 2) (h:=au 2) (c:=au 3) (v:=au 7) hr
  conv=>rhs;rw[<-e]
  rw[gy _ _ _ _ OM];rfl
 ·rintro e w' ⟨Y',rfl,hJ⟩
  exact⟨Y',_,rfl,HD rfl,hJ⟩
theorem TP(k:Nat)(hk5:k<5)(i:Nat)(hi5:i<5)(z v)(hz:z.length=192)(h1:gi z 1=(i:Int))(hsv:sub z 185 7=v)(S1)(hLn:∀w1,Inv (aj X Y S).own w1 w1 [aj X Y S]->Calls prog 117 #[.pointer (some ⟨X.b,0,none⟩),oV X,ia v] w1 λe w'=>∃Y' lb,e=.returned (.bool lb)∧Inv (aj X Y S).own w1 w' [aj X Y' S1])(hvl:S1.view.length=7)(Dj:S1.aT.length=870)(KV:Hid (eG S1.view))(hI:Inv (aj X Y S).own w0 w0 [aj X Y S]):
  Calls prog 118 #[.pointer (some ⟨X.b,0,none⟩),oV X,.int .i64 (k:Int),ia z] w0 λe w'=>∃Y',e=.returned (.tuple #[])∧Inv (aj X Y S).own w0 w' [aj X Y' (mV X.f S1 k i)]:=by
 have hrl:(sub S1.aT (i*174) 174).length=174:=by rw[az];omega
 obtain⟨⟨hh,ok⟩,FM⟩:=EQ (dw S1.view (i:Int));have hrr:=HD FM;cases ok
 ·have hF:Hid (mV X.f S1 k i=S1):=HD (by rw[mV,if_neg (by rw[FM];simp)])
  clear FM;go_enter func118,ntmps118;go_upto_region 2 with(first|refine YL ?_|refine YX ?_;intro bx w hI|go_at_call 117;refine KH hI (hLn _ (hI.at_ aM)) ?_;intro Y1 lb w1 hI)
  refine ZT [6,7,11] 12 hI ?_;intro wd hI
  (repeat(refine ZQ ?_;go_wp2_with(first|go_at_call 17;refine KD hI (mW _ S1.view (i:Int) hvl KV _ hrr.out) ?_;intro w1 hI|refine YL ?_);refine ZP ?_))
  go_wp2_with(fail);rw[hF.out];exact af5
 ·cases hq:(hh != (k:Int))
  ·obtain rfl:hh=(k:Int):=by simpa using hq
   have hF:Hid (mV X.f S1 k i=if C.fG S1.sl (i:Int)=true then gI X.f S1 k i (sub S1.aT (i*174) 174)
    else if(cK S1 (.aZ i)).2=0 then gI X.f {(cK S1 (.aZ i)).1 with sl:=C.ku S1.sl (i:Int)} k i (sub S1.aT (i*174) 174)else(cK S1 (.aZ i)).1):=HD (by rw[mV,if_pos FM];rfl)
   clear FM;cases hsl0:C.fG S1.sl (i:Int)
   ·have hsl:=HD hsl0
    have hF2:Hid (mV X.f S1 k i=if(cK S1 (.aZ i)).2=0 then gI X.f {(cK S1 (.aZ i)).1 with sl:=C.ku S1.sl (i:Int)} k i (sub S1.aT (i*174) 174)else(cK S1 (.aZ i)).1):=HD (by rw[hF.out,if_neg (by rw[hsl0];simp)]);clear hF hsl0;obtain⟨x0,ma⟩:=EZ (Rec.aZ i);have hx0:x0.Len:=by rw[ma];exact hi5
    have OW:Hid (ay (au 189) [(0,[2]),(1,[(i:Int)])]=x0.nX):=HD (by rw[ma];exact ahe);rw[<-ma]at hF2;clear ma;obtain⟨D',c',u',e',hP⟩:=uL S1 x0;by_cases he:e'=0
    ·subst he
     have tY:Hid (mV X.f S1 k i=gI X.f {S1 with D:=D',cnt:=c',used:=u',sl:=C.ku S1.sl (i:Int)} k i (sub S1.aT (i*174) 174)):=HD (by rw[hF2.out,hP.out,if_pos rfl]);clear hF2;go_enter func118,ntmps118;go_upto_region 2 with(first|refine YL ?_|refine YX ?_;intro bx w hI|go_at_call 117;refine KH hI (hLn _ (hI.at_ aM)) ?_;intro Y1 lb w1 hI)
     refine ZT [6,7,11] 12 hI ?_;intro wd hI
     (repeat(refine ZQ ?_;go_wp2_with(first|go_at_call 17;refine KD hI (mW _ S1.view (i:Int) hvl KV _ hrr.out) ?_;intro w1 hI|refine YL ?_);refine ZP ?_))
     go_upto_region 4 with(refine YL ?_)
     refine ZT [5,6] 7 hI ?_;intro wd hI
     (repeat(refine ZQ ?_;go_wp2_with(first|go_at_call 47;refine KE (pV hsl hI aM) ?_;intro w1 hI|refine YL ?_);refine ZP ?_))
     go_upto_region 6 with(first|refine YL ?_|go_at_call 108;refine KG hI (ou _ X _ _ x0 hx0 _ OW.out _ _ _ _ hP (hI.at_ aM)) ?_;intro Yp w1 hI)
     refine ZT [5] 6 hI ?_;intro wd hI
     (repeat(refine ZQ ?_;go_wp2_with(first|go_at_call 103;refine KE (Tt hI (i:Int) jo) ?_;intro w1 hI|refine YL ?_);refine ZP ?_))
     go_upto_region 7 with(fail)
     (refine ZR [10,12] [0,1,2,3,4] [10] [0,1,2,3,4,5,6,7,8,9,10,11,12] (λw=>Inv (aj X Y S).own w0 w [ib bx 158 z,aj X Yp {S1 with D:=D',cnt:=c',used:=u',sl:=C.ku S1.sl (i:Int)}]) hI ?_;intro wd hI)
     (repeat(first|refine ZS ?_|refine ZQ ?_;go_wp2_with(first|go_at_call 122;refine KJ hI (yI _ X _ _ hX (hI.at_ aM) k hk5 i hi5 _ _ (by rw[N7 hrl]) hrl _ KV RF) ?_;intro Y2 S2 w1 hS2 hI|go_at_call 46;refine KE (KU hi5 hI aM) ?_;intro w1 hI|refine YL ?_);refine ZP ?_))
     go_wp2_with(fail);rw[tY.out,hS2.out];exact OV
    ·have tY:Hid (mV X.f S1 k i={S1 with D:=D',cnt:=c',used:=u'}):=HD (by rw[hF2.out,hP.out,if_neg he])
     have hq:(e' != 0)=true:=by simpa using he
     clear hF2;go_enter func118,ntmps118;go_upto_region 2 with(first|refine YL ?_|refine YX ?_;intro bx w hI|go_at_call 117;refine KH hI (hLn _ (hI.at_ aM)) ?_;intro Y1 lb w1 hI)
     refine ZT [6,7,11] 12 hI ?_;intro wd hI
     (repeat(refine ZQ ?_;go_wp2_with(first|go_at_call 17;refine KD hI (mW _ S1.view (i:Int) hvl KV _ hrr.out) ?_;intro w1 hI|refine YL ?_);refine ZP ?_))
     go_upto_region 4 with(refine YL ?_)
     refine ZT [5,6] 7 hI ?_;intro wd hI
     (repeat(refine ZQ ?_;go_wp2_with(first|go_at_call 47;refine KE (pV hsl hI aM) ?_;intro w1 hI|refine YL ?_);refine ZP ?_))
     exact W66
   ·have hsl:=HD hsl0
    have hF2:Hid (mV X.f S1 k i=gI X.f S1 k i (sub S1.aT (i*174) 174)):=HD (by rw[hF.out,if_pos hsl0]);clear hF hsl0;go_enter func118,ntmps118;go_upto_region 2 with(first|refine YL ?_|refine YX ?_;intro bx w hI|go_at_call 117;refine KH hI (hLn _ (hI.at_ aM)) ?_;intro Y1 lb w1 hI)
    refine ZT [6,7,11] 12 hI ?_;intro wd hI
    (repeat(refine ZQ ?_;go_wp2_with(first|go_at_call 17;refine KD hI (mW _ S1.view (i:Int) hvl KV _ hrr.out) ?_;intro w1 hI|refine YL ?_);refine ZP ?_))
    go_upto_region 4 with(refine YL ?_)
    refine ZT [5,6] 7 hI ?_;intro wd hI
    (repeat(refine ZQ ?_;go_wp2_with(first|go_at_call 47;refine KE (pV hsl hI aM) ?_;intro w1 hI|refine YL ?_);refine ZP ?_))
    go_upto_region 7 with(fail)
    (refine ZR [10,12] [0,1,2,3,4] [10] [0,1,2,3,4,5,6,7,8,9,10,11,12] (λw=>Inv (aj X Y S).own w0 w [ib bx 158 z,aj X Y1 S1]) hI ?_;intro wd hI)
    (repeat(first|refine ZS ?_|refine ZQ ?_;go_wp2_with(first|go_at_call 122;refine KJ hI (yI _ X _ _ hX (hI.at_ aM) k hk5 i hi5 _ _ (by rw[N7 hrl]) hrl _ KV RF) ?_;intro Y2 S2 w1 hS2 hI|go_at_call 46;refine KE (KU hi5 hI aM) ?_;intro w1 hI|refine YL ?_);refine ZP ?_))
    go_wp2_with(fail);rw[hF2.out,hS2.out];exact OV
  ·have hF:Hid (mV X.f S1 k i=S1):=HD (by rw[mV,if_neg (by rw[FM];simp at hq;simpa using hq)])
   clear FM;go_enter func118,ntmps118;go_upto_region 2 with(first|refine YL ?_|refine YX ?_;intro bx w hI|go_at_call 117;refine KH hI (hLn _ (hI.at_ aM)) ?_;intro Y1 lb w1 hI)
   refine ZT [6,7,11] 12 hI ?_;intro wd hI
   (repeat(refine ZQ ?_;go_wp2_with(first|go_at_call 17;refine KD hI (mW _ S1.view (i:Int) hvl KV _ hrr.out) ?_;intro w1 hI|refine YL ?_);refine ZP ?_))
   go_wp2_with(refine YL ?_);rw[hF.out];exact af5
end
end
section
open B (dw)
section
variable (w0:World)(X:RX)(Y:RY)(S:RS)(hX:Bd X)
include hX
theorem aaP(v)(hv:v.length=7)(hle:gi v 0<=gi S.view 0)(hI:Inv (aj X Y S).own w0 w0 [aj X Y S]):
  Calls prog 117 #[.pointer (some ⟨X.b,0,none⟩),oV X,ia v] w0 λe w'=>∃Y' lb,e=.returned (.bool lb)∧Inv (aj X Y S).own w0 w' [aj X Y' S]:=by
 have hd:decide (gi v 0<=gi S.view 0)=true:=by simpa using hle
 clear hle;go_enter func117,ntmps117;go_upto_region 1 with(refine YX ?_;intro bx w hI)
 (refine ZR [7,8,12,13,14] [] [] [0,1,2,3,4,5,6,7,8,9,10,11,12,13,14] (λw=>Inv (aj X Y S).own w0 w [ib bx 30 v,aj X Y S]) hI ?_;intro wd hI)
 (repeat(first|refine ZS ?_|refine ZQ ?_;go_wp2_with(refine YL ?_);refine ZP ?_))
 go_wp2_with(fail);go_ret;exact⟨Y,_,rfl,hI.tl⟩
theorem N8(k:Nat)(z)(hz:z.length=192)(h0:gi z 0=8)(S1)(hT:∀w1,Inv (aj X Y S).own w1 w1 [aj X Y S]->Calls prog 118 #[.pointer (some ⟨X.b,0,none⟩),oV X,.int .i64 (k:Int),ia z] w1 λe w'=>∃Y',e=.returned (.tuple #[])∧Inv (aj X Y S).own w1 w' [aj X Y' S1])(hI:Inv (aj X Y S).own w0 w0 [aj X Y S]):
  Calls prog 77 #[.pointer (some ⟨X.b,0,none⟩),oV X,.int .i64 (k:Int),ia z] w0 λe w'=>∃Y',e=.returned (.tuple #[])∧Inv (aj X Y S).own w0 w' [aj X Y' S1]:=by
 go_enter func77,ntmps77;go_wp2_with(first|refine YL ?_|refine YX ?_;intro bx w hI|go_at_call 118;refine KG hI (hT _ (hI.at_ aM)) ?_;intro Y2 w1 hI);exact OV
theorem N9(hI:Inv (aj X Y S).own w0 w0 [aj X Y S])(d:Nat)(hd:d<5)(i:Nat)(hi5:i<5)(z)(hz:z=aF 8 (i:Int) (au 174) 0 0 (au 2) (au 2) (au 3) S.view)(hvl:S.view.length=7)(V)(hvw:Hid (eG V))(hV:Hid (S.view=V)):
  Calls prog 122 #[.pointer (some ⟨X.b,0,none⟩),oV X,.int .i64 (d:Int),ia z] w0 λe w'=>∃Y' S',e=.returned (.tuple #[])∧Hid (kN X.f S d i=S')∧Inv (aj X Y S).own w0 w' [aj X Y' S']:=by
 subst hV;have hL:=aS hI aC;refine(AU w0 X Y S hX (.aZ i S.view) ⟨hi5,hvl⟩ z hz d hd (mV X.f S X.f i) (λh w1 hI1=>N8 w1 X Y S hX X.f _ (gQ.len (M:=.aZ i S.view) ⟨hi5,hvl⟩) aD (mV X.f S X.f i) (λw2 hI2=>?_) hI1) hI).mono ?_
 ·exact TP w2 X Y S hX X.f hX.f5 i hi5 _ S.view (gQ.len (M:=.aZ i S.view) ⟨hi5,hvl⟩) kQ (dO (ag 174) (ag 2) (ag 2) (ag 3) hvl) S (λw3 hI3=>aaP w3 X Y S hX S.view hvl (Int.le_refl _) hI3) hvl hL.aT hvw hI2
 ·rintro e w' ⟨Y',rfl,hJ⟩
  exact⟨Y',_,rfl,HD rfl,hJ⟩
theorem aec(hvw:Hid (eG S.view))(hI:Inv (aj X Y S).own w0 w0 [aj X Y S]):Calls prog 80 #[.pointer (some ⟨X.b,0,none⟩),oV X] w0 λe w'=>∃Y',e=.returned (.tuple #[])∧Inv (aj X Y S).own w0 w' [aj X Y' (mM X.f S)]:=by
 have hLn:=aS hI aC;have hvl:=hLn.view;clear hLn;obtain⟨L,hL0⟩:=EQ (qm X.f S);have hL:=HD hL0;have hLm:=HD (aaL hL0);obtain⟨n,hn0⟩:=EQ L.length;have hn:=HD hn0;have hn5:n<=1000:=by
  have h1:L.length<=5:=by
   rw[<-hL.out,qm];exact Nat.le_trans (List.length_filter_le _ _) SI
  omega
 have hfin:Hid (mM X.f S=L.foldl (qI X.f) S):=HD (by rw[mM,hL0]);clear hL0 hn0;go_enter func80,ntmps80;go_upto_region 1 with(go_at_call 123;refine KK hI (JQ _ X.f X.b X.l Y.vb Y.rc Y.ra S _ L hL.out n hn.out hvl hvw (hI.at_ aC)) ?_;intro ad cd w1 hI)
 go_loopg [5,7,11] n (λkk s5 s7 s11 wr=>∃(j:Nat) (Yj:RY) (Sj:RS),kk=n-j∧j<=n∧s11=.int .i64 (j:Int)∧Hid ((L.take j).foldl (qI X.f) S=Sj)∧Inv (aj X Y S).own w0 wr [bD 3 1 (.slice ad n cd) n (L.map iN),aj X Yj Sj])
 case atStart=>exact⟨0,Y,S,rfl,by omega,rfl,HD rfl,hI⟩
 case round=>
  clear hI;obtain⟨j,Yj,Sj,rfl,hj,rfl,hSj,hI⟩:=hrel;by_cases hjn:j<n
  ·obtain⟨gd,rfl⟩:∃gd,ad=some ⟨gd,0,none⟩:=gZ hI aC (by rw[List.length_map,hn.out];omega)
   obtain⟨i,hi⟩:∃i,L[j]? =some i:=⟨_,List.getElem?_eq_getElem (by rw[hn.out];exact hjn)⟩;have hi5:i<5:=hLm.out i (List.mem_of_getElem? hi);have hld:(L.map iN)[j]? =some (.int .i64 (i:Int)):=by rw[List.getElem?_map,hi];rfl
   have alH:decide ((j:Int) < (n:Int))=true:=by simp;omega
   have hs:=HD (Bw (qI X.f) S L j i hi);have hVj:Hid (Sj.view=S.view):=HD (by rw[<-hSj.out];exact iK RS.view _ (Cn X.f) _ _);clear hi;obtain⟨G,hG0⟩:∃G:RS->Nat->RS,G=λT w=>if mU T i w=true then T else kN X.f T w i:=⟨_,rfl⟩
   have hs2:Hid ((L.take (j+1)).foldl (qI X.f) S=(eU i).foldl G Sj):=HD (by rw[hs.out,hSj.out,qI,hG0]);have hG:=HD hG0;have hGv:Hid (∀T w,(G T w).view=T.view):=HD (λT w=>by rw[hG0];dsimp only;split;rfl;exact yG X.f T w i);clear hs hSj hG0;go_upto_region 4 with(first|go_at_call 121;refine KO hI (yA _ i hi5) ?_;intro g cw w1 hI|with_reducible refine aK hI RF aC (aQ.out (t:=3)) hld ?_)
   go_loopg [7,18] 2 (λkk s7 s18 wr=>∃(k:Nat) (Yk:RY) (Sk:RS),kk=2-k∧k<=2∧s18=.int .i64 (k:Int)∧Hid (((eU i).take k).foldl G Sj=Sk)∧Inv (aj X Y S).own w0 wr [bD 3 1 (.slice (some ⟨g,0,none⟩) 2 cw) 2 ((eU i).map iN),bD 3 1 (.slice (some ⟨gd,0,none⟩) n cd) n (L.map iN),aj X Yk Sk])
   case atStart=>exact⟨0,Yj,Sj,rfl,by omega,rfl,HD rfl,hI⟩
   case round=>
    clear hI;obtain⟨k,Yk,Sk,rfl,hk,rfl,hSk,hI⟩:=hrel;by_cases hk2:k<2
    ·obtain⟨t,ht⟩:∃t,(eU i)[k]? =some t:=⟨_,List.getElem?_eq_getElem (by simp[eU];omega)⟩
     have pX:t<5:=by
      have:=List.mem_of_getElem? ht;simp only[eU,List.mem_cons,List.not_mem_nil,or_false]at this;omega
     have hlt:((eU i).map iN)[k]? =some (.int .i64 (t:Int)):=by rw[List.getElem?_map,ht];rfl
     have hVk:Hid (Sk.view=S.view):=HD (by rw[<-hSk.out,iK RS.view _ hGv.out];exact hVj.out);have aj_:Sk.view.length=7:=(aS hI a_).view;have hs3:Hid (((eU i).take (k+1)).foldl G Sj=if mU Sk i t=true then Sk else kN X.f Sk t i):=HD (by rw[Bw G Sj _ k t ht,hSk.out,hG.out]);clear ht hSk;cases htl:mU Sk i t
     ·have hs4:Hid (((eU i).take (k+1)).foldl G Sj=kN X.f Sk t i):=HD (by rw[hs3.out,if_neg (by rw[htl];simp)])
      clear hs3;go_wp2_with(first|refine YL ?_|go_at_call 124;refine KC qN hI (xX _ X.f X.b X.l Yk.vb Yk.rc Yk.ra Sk _ i t hi5 pX _ htl (hI.at_ a_)) ?_;intro w1 hI|with_reducible refine aK hI RF aC (aQ.out (t:=3)) hlt ?_|go_at_call 122;refine KJ hI (N9 _ X _ _ hX (hI.at_ a_) t pX i hi5 _ (by rw[ahd aj_]) aj_ _ hvw hVk) ?_;intro Y2 S2 w1 hS2 hI);go_roundg (2- (k+1))
      case measure=>omega
      case rel=>exact⟨k+1,Y2,S2,rfl,by omega,by go_num,HD (by rw[hs4.out,hS2.out]),hI⟩
     ·have hs4:Hid (((eU i).take (k+1)).foldl G Sj=Sk):=HD (by rw[hs3.out,if_pos htl])
      clear hs3;go_wp2_with(first|go_at_call 124;refine KC qN hI (xX _ X.f X.b X.l Yk.vb Yk.rc Yk.ra Sk _ i t hi5 pX _ htl (hI.at_ a_)) ?_;intro w1 hI|with_reducible refine aK hI RF aC (aQ.out (t:=3)) hlt ?_);go_roundg (2- (k+1))
      case measure=>omega
      case rel=>exact⟨k+1,Yk,Sk,rfl,by omega,by go_num,hs4,hI⟩
    ·obtain rfl:k=2:=by omega
     have hs3:Hid ((L.take (j+1)).foldl (qI X.f) S=Sk):=HD (by rw[hs2.out,<-hSk.out];rfl);clear hs2 hSk;go_wp2_with(fail);go_roundg (n- (j+1))
     case measure=>omega
     case rel=>exact⟨j+1,Yk,Sk,rfl,by omega,by go_num,hs3,hI.tl⟩
  ·obtain rfl:j=n:=by omega
   have hF:Hid (mM X.f S=Sj):=HD (by rw[hfin.out,<-hSj.out,List.take_of_length_le (by rw[hn.out];exact Nat.le_refl _)]);clear hfin hSj;go_wp2_with(fail);rw[hF.out];exact⟨rfl,_,h_ KF _ _,Yj,rfl,hI.tl⟩
theorem N_(hI:Inv (aj X Y S).own w0 w0 [aj X Y S])(V)(hvw:Hid (eG V))(hV:S.view=V):Calls prog 80 #[.pointer (some ⟨X.b,0,none⟩),oV X] w0 λe w'=>∃Y' S',e=.returned (.tuple #[])∧Hid (mM X.f S=S')∧Inv (aj X Y S).own w0 w' [aj X Y' S']:=by
 grind[aec,Go.Calls.mono,Go.Lib.hid]
theorem KY(v)(hv:v.length=7)(hv64:Hid (eG v))(hI:Inv (aj X Y S).own w0 w0 [aj X Y S]):
  Calls prog 117 #[.pointer (some ⟨X.b,0,none⟩),oV X,ia v] w0 λe w'=>∃Y',e=.returned (.bool (fQ X.f S v).2)∧Inv (aj X Y S).own w0 w' [aj X Y' (fQ X.f S v).1]:=by
 cases hd:decide (gi v 0<=gi S.view 0)
 ·obtain⟨x0,ma⟩:=EZ (Rec.view v)
  have hx0:x0.Len:=by rw[ma];exact hv
  have OW:Hid (ay (au 189) [(0,[5]),(182,v)]=x0.nX):=HD (by rw[ma];exact ahg hv);obtain⟨D',c',u',e',hP⟩:=uL S x0;have hF:Hid (fQ X.f S v=if e'=0 then(mM X.f (oM {S with D:=D',cnt:=c',used:=u'} v),true)else({S with D:=D',cnt:=c',used:=u'},false)):=HD (by
   rw[fQ,if_neg (by simpa using hd),<-ma,hP.out])
  clear ma;by_cases he:e'=0
  ·subst he
   have hF2:Hid (fQ X.f S v=(mM X.f {S with D:=D',cnt:=c',used:=u',view:=v,acc:=qB (gi v 0) (au 2) (au 2) (au 3),aB:=none,round:=0},true)):=HD (by rw[hF.out,if_pos rfl];rfl);clear hF;go_enter func117,ntmps117;go_upto_region 1 with(refine YX ?_;intro bx w hI)
   (refine ZR [7,8,12,13,14] [] [] [0,1,2,3,4,5,6,7,8,9,10,11,12,13,14] (λw=>Inv (aj X Y S).own w0 w [ib bx 30 v,aj X Y S]) hI ?_;intro wd hI)
   (repeat(refine ZQ ?_;go_wp2_with(first|go_at_call 108;refine KG hI (ou _ X _ _ x0 hx0 _ OW.out _ _ _ _ hP (hI.at_ aM)) ?_;intro Yp w1 hI|refine YL ?_);refine ZP ?_))
   go_wp2_with(first|refine YL ?_|go_at_call 64;refine KC jo hI (Ku _ X.f X.b X.l _ _ _ _ _ v hv (hI.at_ aM)) ?_;intro w1 hI;dsimp only[oM]at hI|go_at_call 80;refine KJ hI (N_ _ X _ _ hX (hI.at_ aM) _ hv64 RF) ?_;intro Y2 S2 w1 hS2 hI);go_ret;rw[hF2.out,hS2.out];exact⟨Y2,rfl,hI.tl⟩
  ·have hF2:Hid (fQ X.f S v=({S with D:=D',cnt:=c',used:=u'},false)):=HD (by rw[hF.out,if_neg he])
   have hq:(e' != 0)=true:=by simpa using he
   clear hF;go_enter func117,ntmps117;go_upto_region 1 with(refine YX ?_;intro bx w hI)
   (refine ZR [7,8,12,13,14] [] [] [0,1,2,3,4,5,6,7,8,9,10,11,12,13,14] (λw=>Inv (aj X Y S).own w0 w [ib bx 30 v,aj X Y S]) hI ?_;intro wd hI)
   (repeat(refine ZQ ?_;go_wp2_with(first|go_at_call 108;refine KG hI (ou _ X _ _ x0 hx0 _ OW.out _ _ _ _ hP (hI.at_ aM)) ?_;intro Yp w1 hI|refine YL ?_);refine ZP ?_))
   go_wp2_with(fail);go_ret;rw[hF2.out];exact⟨_,rfl,hI.tl⟩
 ·have hF2:Hid (fQ X.f S v=(S,false)):=HD (by rw[fQ,if_pos (by simpa using hd)])
  go_enter func117,ntmps117;go_upto_region 1 with(refine YX ?_;intro bx w hI)
  (refine ZR [7,8,12,13,14] [] [] [0,1,2,3,4,5,6,7,8,9,10,11,12,13,14] (λw=>Inv (aj X Y S).own w0 w [ib bx 30 v,aj X Y S]) hI ?_;intro wd hI)
  (repeat(first|refine ZS ?_|refine ZQ ?_;go_wp2_with(refine YL ?_);refine ZP ?_))
  go_wp2_with(fail);go_ret;rw[hF2.out];exact⟨Y,rfl,hI.tl⟩
end
end
section
open B (bK)
section
variable (w0:World)(X:RX)(Y:RY)(S:RS)(hX:Bd X)
include hX
theorem Jc(hI:Inv (aj X Y S).own w0 w0 [aj X Y S])(v)(hv:v.length=7)(hv64:Hid (eG v))(S1 lb)(hL:Hid (fQ X.f S v=(S1,lb))):
  Calls prog 117 #[.pointer (some ⟨X.b,0,none⟩),oV X,ia v] w0 λe w'=>∃Y',e=.returned (.bool lb)∧Inv (aj X Y S).own w0 w' [aj X Y' S1]:=by
 have h:=KY w0 X Y S hX v hv hv64 hI;rw[hL.out]at h;exact h
theorem Cv(hI:Inv (aj X Y S).own w0 w0 [aj X Y S])(v)(hv:v.length=7):Calls prog 81 #[.pointer (some ⟨X.b,0,none⟩),oV X,ia v] w0 λe w'=>∃Y' S',e=.returned (.tuple #[])∧Hid (ig X.f S v=S')∧Inv (aj X Y S).own w0 w' [aj X Y' S']:=by
 grind[Qr,Go.Calls.mono]
theorem aaQ(V)(hV:Hid (S.aB=some V))(hvw:Hid (eG S.view))(hI:Inv (aj X Y S).own w0 w0 [aj X Y S]):
  Calls prog 159 #[.pointer (some ⟨X.b,0,none⟩),oV X] w0 λe w'=>∃Y',e=.returned (.tuple #[])∧Inv (aj X Y S).own w0 w' [aj X Y' (l_ X.f S V)]:=by
 have hLn:=aS hI aC;have hvl:=hLn.view;have hcl:(sub V.1 9 3).length=3:=by have:=hLn.aB V hV.out;rw[az];omega
 clear hLn;obtain⟨⟨nv,ne⟩,qx⟩:=EQ (bK S.view (sub V.1 9 3));have hnl:nv.length=7:=by have:=Ay S.view (sub V.1 9 3) hvl;rw[qx]at this;exact this
 have Pp:Hid (eG nv):=HD (by have:=NB hvw.out (sub V.1 9 3);rw[qx]at this;exact this);have hnx:=HD qx;obtain⟨⟨S1,lb⟩,ahV⟩:=EQ (fQ X.f S nv);have hLn:=HD ahV;have hF:Hid (l_ X.f S V=if ne=0 then(if lb=true then ig X.f S1 nv else S1)else S):=HD (by rw[l_,qx];dsimp only;rw[ahV]);clear qx ahV;by_cases hne:ne=0
 ·have hF2:Hid (l_ X.f S V=if lb=true then ig X.f S1 nv else S1):=HD (by rw[hF.out,if_pos hne])
  subst hne;clear hF;cases lb
  ·have tY:Hid (l_ X.f S V=S1):=HD (by rw[hF2.out,if_neg SI])
   clear hF2;go_enter func159,ntmps159;go_upto_region 0 with(fail)
   (refine aG [14,15] [12] [14,15] [12] [0,1,2,3,4,5,6,7,8,9,10,11,12] 13 [14,15] fE KF RF hI ?_;clear hI)
   (repeat(first| ((with_reducible refine' bN RF RF RF ?_ ?_ ?_);rotate_left;(focus(intro ex w (hI:Inv _ _ w _);go_wp2_with(first|refine YL ?_|go_at_call 83;refine KE (zo hI aM (by with_unfolding_all exact hV)) ?_;intro w1 hI|go_at_call 84;refine KD hI (jg _ _ _ hvl hcl hvw _ _ hnx) ?_;intro w1 hI);(try simp only[QN]);exact bM rfl hI));(focus(exact⟨_,rfl⟩))) | refine ZL ?_));refine bQ ?_;intro bx w hI;(simp only[QN]);(repeat(refine ZQ ?_;go_wp2_with(refine YS ?_;intro w hI);refine ZP ?_))
   go_wp2_with(first|refine YL ?_|go_at_call 117;refine KG hI (Jc _ X _ _ hX (hI.at_ aM) nv hnl Pp _ _ hLn) ?_;intro Y1 w1 hI);rw[tY.out];exact af5
  ·have tY:Hid (l_ X.f S V=ig X.f S1 nv):=HD (by rw[hF2.out,if_pos rfl])
   clear hF2;go_enter func159,ntmps159;go_upto_region 0 with(fail)
   (refine aG [14,15] [12] [14,15] [12] [0,1,2,3,4,5,6,7,8,9,10,11,12] 13 [14,15] fE KF RF hI ?_;clear hI)
   (repeat(first| ((with_reducible refine' bN RF RF RF ?_ ?_ ?_);rotate_left;(focus(intro ex w (hI:Inv _ _ w _);go_wp2_with(first|refine YL ?_|go_at_call 83;refine KE (zo hI aM (by with_unfolding_all exact hV)) ?_;intro w1 hI|go_at_call 84;refine KD hI (jg _ _ _ hvl hcl hvw _ _ hnx) ?_;intro w1 hI);(try simp only[QN]);exact bM rfl hI));(focus(exact⟨_,rfl⟩))) | refine ZL ?_));refine bQ ?_;intro bx w hI;(simp only[QN]);(repeat(refine ZQ ?_;go_wp2_with(refine YS ?_;intro w hI);refine ZP ?_))
   go_wp2_with(first|refine YL ?_|go_at_call 117;refine KG hI (Jc _ X _ _ hX (hI.at_ aM) nv hnl Pp _ _ hLn) ?_;intro Y1 w1 hI|go_at_call 81;refine KJ hI (Cv _ X _ _ hX (hI.at_ aM) nv hnl) ?_;intro Y2 S2 w1 hS2 hI);rw[tY.out,hS2.out];exact OV
 ·have hF2:Hid (l_ X.f S V=S):=HD (by rw[hF.out,if_neg hne])
  have hq:(ne != 0)=true:=by simpa using hne
  clear hF;go_enter func159,ntmps159;go_upto_region 0 with(fail)
  (refine aG [14,15] [12] [14,15] [12] [0,1,2,3,4,5,6,7,8,9,10,11,12] 13 [14,15] fE KF RF hI ?_;clear hI)
  (repeat(first| ((with_reducible refine' bN RF RF RF ?_ ?_ ?_);rotate_left;(focus(intro ex w (hI:Inv _ _ w _);go_wp2_with(first|refine YL ?_|go_at_call 83;refine KE (zo hI aM (by with_unfolding_all exact hV)) ?_;intro w1 hI|go_at_call 84;refine KD hI (jg _ _ _ hvl hcl hvw _ _ hnx) ?_;intro w1 hI);(try simp only[QN]);exact bM rfl hI));(focus(exact⟨_,rfl⟩))) | refine ZL ?_));refine bQ ?_;intro bx w hI;(simp only[QN]);(repeat(refine ZQ ?_;go_wp2_with(refine YS ?_;intro w hI);refine ZP ?_))
  exact af6
theorem Wp(hI:Inv (aj X Y S).own w0 w0 [aj X Y S])(V)(hV:S.aB=some V)(V0)(hvw:Hid (eG V0))(hVv:S.view=V0):
  Calls prog 159 #[.pointer (some ⟨X.b,0,none⟩),oV X] w0 λe w'=>∃Y' S',e=.returned (.tuple #[])∧Hid (l_ X.f S V=S')∧Inv (aj X Y S).own w0 w' [aj X Y' S']:=by
 grind[aaQ,Go.Lib.hid,Go.Calls.mono]
end
end
