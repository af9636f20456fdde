/- Contracts of functions. No condition. -/
import Derived.Test.YtdakkaapokhnnaaGreatDoorZ15
namespace Go.Proofs.YtdakkaapokhnnaaGreatDoor
open Go.RowKit Go.Proofs.Tryz
set_option maxRecDepth 100000
set_option maxHeartbeats 6400000
set_option linter.all false
section
open B (dY)
section
variable {w:Int}{r:List Int}
theorem Lr(hr:r.length=174):av (aj 192) [(0,[9]),(1,[w]),(2,r)]=aB 9 w r 0 0 (aj 2) (aj 2) (aj 3) (aj 7):=P6 9 hr
theorem gZ.len{M:gZ}(hM:M.Len):M.mP.length=192:=by
 cases M<;>simp only[gZ.Len]at hM<;>simp only[gZ.mP,aB,List.length_append,List.length_cons,List.length_nil,aa]<;>omega
end
theorem tH(S:RS)(x:Rec):∃D' c' u' e',Hid (eT S x=({S with D:=D',cnt:=c',used:=u'},e')):=⟨_,_,_,_,HD rfl⟩
theorem ni(w0:World)(X:RX)(Y:RY)(S:RS)(x:Rec)(hx:x.Len)(z:List Int)(hz:z=x.mP)(D':DS)(c' u':Nat)(e':Int)(hP:Hid (eT S x=({S with D:=D',cnt:=c',used:=u'},e')))(hI:Inv (ah X Y S).own w0 w0 [ah X Y S]):
  Calls prog 108 #[.pointer (some ⟨X.b,0,none⟩),ia z] w0 λe w'=>∃Y',e=.returned (.int .i64 e')∧Inv (ah X Y S).own w0 w' [ah X Y' {S with D:=D',cnt:=c',used:=u'}]:=by
 subst hz;refine(aci w0 X Y S x hx hI).mono ?_;rw[hP.out];rintro e w' ⟨kS,he,hJ⟩;exact⟨_,he,hJ⟩
section
variable {T:List Nat}{w0 w:World}{m m':List aG}{f b l vb rc:Nat}{ra:Option Addr}{S:RS}{Z:aG}
theorem oh{who:Int}{v:Bool}(hv:Hid (C.fJ S.sl who=v))(hI:Inv T w0 w m)(hm:two (rb f b l vb ra rc S) Z∈m):Calls prog 47 #[.pointer (some ⟨b,183,none⟩),.int .i64 who] w λe w'=>e=.returned (.bool v)∧Inv T w0 w' m:=by
 rw[<-hv.out];exact F8 hI hm who
theorem IE{i:Nat}(hi:i<5)(hI:Inv T w0 w m)(hm:two (rb f b l vb ra rc S) Z∈m):Calls prog 46 #[.pointer (some ⟨b,183,none⟩),.int .i64 (i:Int)] w λe w'=>e=.returned (ia (sub S.bV (i*174) 174))∧Inv T w0 w' m:=by
 have h:=VY hI hm (i:Int);rw[C.rowOf,if_pos (by unfold C.aP;simp;omega),show(i:Int).toNat=i by simp]at h;exact h
end
section
variable (w0:World)(X:RX)(Y:RY)(S:RS)(hX:zG X)
include hX
theorem Te(hI:Inv (ah X Y S).own w0 w0 [ah X Y S])(k:Nat)(hk5:k<5)(i:Nat)(hi5:i<5)(z r:List Int)(hz:z.length=192)(h1:gi z 1=(i:Int))(h2:gi z 2=gi r 0)(hs:sub z 2 174=r)(hr:r.length=174)(V:List Int)(hvw:Hid (dU V))(hV:S.view=V):
  Calls prog 119 #[.pointer (some ⟨X.b,0,none⟩),oV X,.int .i64 (k:Int),ia z] w0 λe w'=>∃Y' S',e=.returned (.tuple #[])∧Hid (iP X.f S k i r=S')∧Inv (ah X Y S).own w0 w' [ah X Y' S']:=by
 subst hV;refine(XD w0 X Y S hX k hk5 i hi5 z r hz h1 h2 hs hr hvw hI).mono ?_;exact W46
theorem Qi(k:Nat)(hk5:k<5)(i:Nat)(hi5:i<5)(z r:List Int)(hz:z.length=192)(h0:gi z 0=9)(h1:gi z 1=(i:Int))(h2:gi z 2=gi r 0)(hs:sub z 2 174=r)(hr:r.length=174)(hvw:Hid (dU S.view))(hI:Inv (ah X Y S).own w0 w0 [ah X Y S]):
  Calls prog 77 #[.pointer (some ⟨X.b,0,none⟩),oV X,.int .i64 (k:Int),ia z] w0 λe w'=>∃Y',e=.returned (.tuple #[])∧Inv (ah X Y S).own w0 w' [ah X Y' (iP X.f S k i r)]:=by
 go_enter func77,ntmps77;go_wp2_with(first|refine YL ?_|refine YX ?_;intro bx w hI|go_at_call 119;refine KJ hI (Te _ X _ _ hX (hI.at_ aM) k hk5 i hi5 z r hz h1 h2 hs hr _ hvw RF) ?_;intro Y2 S2 w1 hS2 hI);rw[hS2.out];exact LZ
theorem Fs(z:List Int)(hz:z.length=192)(S1:RS)
  (hT:∀w1,Inv (ah X Y S).own w1 w1 [ah X Y S]->Calls prog 77 #[.pointer (some ⟨X.b,0,none⟩),oV X,.int .i64 (X.f:Int),ia z] w1 λe w'=>∃Y',e=.returned (.tuple #[])∧Inv (ah X Y S).own w1 w' [ah X Y' S1])
  (hI:Inv (ah X Y S).own w0 w0 [ah X Y S]):Calls prog 122 #[.pointer (some ⟨X.b,0,none⟩),oV X,.int .i64 (X.f:Int),ia z] w0 λe w'=>∃Y',e=.returned (.tuple #[])∧Inv (ah X Y S).own w0 w' [ah X Y' S1]:=by
 go_enter func122,ntmps122;go_upto_region 2 with(first|refine YX ?_;intro bx w hI|refine YL ?_)
 refine ZT [7] 8 hI ?_;intro wd hI
 (repeat(refine ZQ ?_;go_wp2_with(first|go_at_call 77;refine KG hI (hT _ (hI.at_ aM)) ?_;intro Y2 w1 hI|refine YL ?_);refine ZP ?_))
 go_wp2_with(fail);exact LZ
theorem zx(M:gZ)(hM:M.Len)(z:List Int)(hz:z=M.mP)(d:Nat)(hd:d<5)(S1:RS)
  (hT:d=X.f->∀w1,Inv (ah X Y S).own w1 w1 [ah X Y S]->Calls prog 77 #[.pointer (some ⟨X.b,0,none⟩),oV X,.int .i64 (X.f:Int),ia M.mP] w1 λe w'=>∃Y',e=.returned (.tuple #[])∧Inv (ah X Y S).own w1 w' [ah X Y' S1])
  (hI:Inv (ah X Y S).own w0 w0 [ah X Y S]):Calls prog 122 #[.pointer (some ⟨X.b,0,none⟩),oV X,.int .i64 (d:Int),ia z] w0 λe w'=>∃Y',e=.returned (.tuple #[])∧Inv (ah X Y S).own w0 w' [ah X Y' (if d=X.f then S1 else dM X.f S d M)]:=by
 subst hz;by_cases h:d=X.f
 ·rw[if_pos h]
  subst h;exact Fs w0 X Y S hX M.mP (gZ.len hM) S1 (hT rfl) hI
 ·rw[if_neg h]
  exact P5 w0 X Y S hX M hM d hd (λe=>h e.symm) hI
theorem xx(hI:Inv (ah X Y S).own w0 w0 [ah X Y S])(d:Nat)(hd:d<5)(i:Nat)(hi5:i<5)(z r:List Int)(hz:z=aB 9 (i:Int) r 0 0 (aj 2) (aj 2) (aj 3) (aj 7))(hr:r.length=174)(V:List Int)(hvw:Hid (dU V))(hV:S.view=V):
  Calls prog 122 #[.pointer (some ⟨X.b,0,none⟩),oV X,.int .i64 (d:Int),ia z] w0 λe w'=>∃Y' S',e=.returned (.tuple #[])∧Hid (fK X.f S d i r=S')∧Inv (ah X Y S).own w0 w' [ah X Y' S']:=by
 subst hV;refine(zx w0 X Y S hX (.iU i r) ⟨hi5,hr⟩ z hz d hd (iP X.f S X.f i r) (λh w1 hI1=>Qi w1 X Y S hX X.f hX.f5 i hi5 _ r (gZ.len (M:=.iU i r) ⟨hi5,hr⟩) aC j4 ?_ (bO hr) hr hvw hI1) hI).mono ?_
 ·have e:=bO (k:=9) (w:=(i:Int)) (n:=0) (e:=0) (b:=aj 2) (h:=aj 2) (c:=aj 3) (v:=aj 7) hr
  conv=>rhs;rw[<-e]
  rw[nQ _ _ _ _ OM];rfl
 ·rintro e w' ⟨Y',rfl,hJ⟩
  exact⟨Y',_,rfl,HD rfl,hJ⟩
theorem Qj(k:Nat)(hk5:k<5)(i:Nat)(hi5:i<5)(z v:List Int)(hz:z.length=192)(h1:gi z 1=(i:Int))(hsv:sub z 185 7=v)(S1:RS)
  (hLn:∀w1,Inv (ah X Y S).own w1 w1 [ah X Y S]->Calls prog 117 #[.pointer (some ⟨X.b,0,none⟩),oV X,ia v] w1 λe w'=>∃Y' lb,e=.returned (.bool lb)∧Inv (ah X Y S).own w1 w' [ah X Y' S1])
  (hvl:S1.view.length=7) (zF:S1.bV.length=870) (IG:Hid (dU S1.view)) (hI:Inv (ah X Y S).own w0 w0 [ah X Y S]):
  Calls prog 118 #[.pointer (some ⟨X.b,0,none⟩),oV X,.int .i64 (k:Int),ia z] w0 λe w'=>∃Y',e=.returned (.tuple #[])∧Inv (ah X Y S).own w0 w' [ah X Y' (lX X.f S1 k i)]:=by
 have hrl:(sub S1.bV (i*174) 174).length=174:=by rw[ay];omega
 obtain⟨⟨hh,ok⟩,DY⟩:=EQ (dY S1.view (i:Int));have hrr:=HD DY;cases ok
 ·have hF:Hid (lX X.f S1 k i=S1):=HD (by rw[lX,if_neg (by rw[DY];simp)])
  clear DY;go_enter func118,ntmps118;go_upto_region 2 with(first|refine YL ?_|refine YX ?_;intro bx w hI|go_at_call 117;refine KH hI (hLn _ (hI.at_ aM)) ?_;intro Y1 lb w1 hI)
  refine ZT [6,7,11] 12 hI ?_;intro wd hI
  (repeat(refine ZQ ?_;go_wp2_with(first|go_at_call 17;refine KD hI (lY _ S1.view (i:Int) hvl IG _ hrr.out) ?_;intro w1 hI|refine YL ?_);refine ZP ?_))
  go_wp2_with(fail);rw[hF.out];exact acR
 ·cases hq:(hh != (k:Int))
  ·obtain rfl:hh=(k:Int):=by simpa using hq
   have hF:Hid (lX X.f S1 k i=if C.fJ S1.sl (i:Int)=true then fK X.f S1 k i (sub S1.bV (i*174) 174)
    else if(eT S1 (.bR i)).2=0 then fK X.f {(eT S1 (.bR i)).1 with sl:=C.mI S1.sl (i:Int)} k i (sub S1.bV (i*174) 174)else(eT S1 (.bR i)).1):=HD (by rw[lX,if_pos DY];rfl)
   clear DY;cases hsl0:C.fJ S1.sl (i:Int)
   ·have hsl:=HD hsl0
    have hF2:Hid (lX X.f S1 k i=if(eT S1 (.bR i)).2=0 then fK X.f {(eT S1 (.bR i)).1 with sl:=C.mI S1.sl (i:Int)} k i (sub S1.bV (i*174) 174)else(eT S1 (.bR i)).1):=HD (by rw[hF.out,if_neg (by rw[hsl0];simp)]);clear hF hsl0;obtain⟨x0,kZ⟩:=EZ (Rec.bR i);have hx0:x0.Len:=by rw[kZ];exact hi5
    have L6:Hid (av (aj 189) [(0,[2]),(1,[(i:Int)])]=x0.mP):=HD (by rw[kZ];exact ad1);rw[<-kZ]at hF2;clear kZ;obtain⟨D',c',u',e',hP⟩:=tH S1 x0;by_cases he:e'=0
    ·subst he
     have r_:Hid (lX X.f S1 k i=fK X.f {S1 with D:=D',cnt:=c',used:=u',sl:=C.mI S1.sl (i:Int)} k i (sub S1.bV (i*174) 174)):=HD (by rw[hF2.out,hP.out,if_pos rfl]);clear hF2;go_enter func118,ntmps118;go_upto_region 2 with(first|refine YL ?_|refine YX ?_;intro bx w hI|go_at_call 117;refine KH hI (hLn _ (hI.at_ aM)) ?_;intro Y1 lb w1 hI)
     refine ZT [6,7,11] 12 hI ?_;intro wd hI
     (repeat(refine ZQ ?_;go_wp2_with(first|go_at_call 17;refine KD hI (lY _ S1.view (i:Int) hvl IG _ hrr.out) ?_;intro w1 hI|refine YL ?_);refine ZP ?_))
     go_upto_region 4 with(refine YL ?_)
     refine ZT [5,6] 7 hI ?_;intro wd hI
     (repeat(refine ZQ ?_;go_wp2_with(first|go_at_call 47;refine KE (oh hsl hI aM) ?_;intro w1 hI|refine YL ?_);refine ZP ?_))
     go_upto_region 6 with(first|refine YL ?_|go_at_call 108;refine KG hI (ni _ X _ _ x0 hx0 _ L6.out _ _ _ _ hP (hI.at_ aM)) ?_;intro Yp w1 hI)
     refine ZT [5] 6 hI ?_;intro wd hI
     (repeat(refine ZQ ?_;go_wp2_with(first|go_at_call 103;refine KE (PX hI (i:Int) iR) ?_;intro w1 hI|refine YL ?_);refine ZP ?_))
     go_upto_region 7 with(fail)
     (refine ZR [10,12] [0,1,2,3,4] [10] [0,1,2,3,4,5,6,7,8,9,10,11,12] (λw=>Inv (ah X Y S).own w0 w [ib bx 158 z,ah X Yp {S1 with D:=D',cnt:=c',used:=u',sl:=C.mI S1.sl (i:Int)}]) hI ?_;intro wd hI)
     (repeat(first|refine ZS ?_|refine ZQ ?_;go_wp2_with(first|go_at_call 122;refine KJ hI (xx _ X _ _ hX (hI.at_ aM) k hk5 i hi5 _ _ (by rw[Lr hrl]) hrl _ IG RF) ?_;intro Y2 S2 w1 hS2 hI|go_at_call 46;refine KE (IE hi5 hI aM) ?_;intro w1 hI|refine YL ?_);refine ZP ?_))
     go_wp2_with(fail);rw[r_.out,hS2.out];exact LZ
    ·have r_:Hid (lX X.f S1 k i={S1 with D:=D',cnt:=c',used:=u'}):=HD (by rw[hF2.out,hP.out,if_neg he])
     have hq:(e' != 0)=true:=by simpa using he
     clear hF2;go_enter func118,ntmps118;go_upto_region 2 with(first|refine YL ?_|refine YX ?_;intro bx w hI|go_at_call 117;refine KH hI (hLn _ (hI.at_ aM)) ?_;intro Y1 lb w1 hI)
     refine ZT [6,7,11] 12 hI ?_;intro wd hI
     (repeat(refine ZQ ?_;go_wp2_with(first|go_at_call 17;refine KD hI (lY _ S1.view (i:Int) hvl IG _ hrr.out) ?_;intro w1 hI|refine YL ?_);refine ZP ?_))
     go_upto_region 4 with(refine YL ?_)
     refine ZT [5,6] 7 hI ?_;intro wd hI
     (repeat(refine ZQ ?_;go_wp2_with(first|go_at_call 47;refine KE (oh hsl hI aM) ?_;intro w1 hI|refine YL ?_);refine ZP ?_))
     exact W70
   ·have hsl:=HD hsl0
    have hF2:Hid (lX X.f S1 k i=fK X.f S1 k i (sub S1.bV (i*174) 174)):=HD (by rw[hF.out,if_pos hsl0]);clear hF hsl0;go_enter func118,ntmps118;go_upto_region 2 with(first|refine YL ?_|refine YX ?_;intro bx w hI|go_at_call 117;refine KH hI (hLn _ (hI.at_ aM)) ?_;intro Y1 lb w1 hI)
    refine ZT [6,7,11] 12 hI ?_;intro wd hI
    (repeat(refine ZQ ?_;go_wp2_with(first|go_at_call 17;refine KD hI (lY _ S1.view (i:Int) hvl IG _ hrr.out) ?_;intro w1 hI|refine YL ?_);refine ZP ?_))
    go_upto_region 4 with(refine YL ?_)
    refine ZT [5,6] 7 hI ?_;intro wd hI
    (repeat(refine ZQ ?_;go_wp2_with(first|go_at_call 47;refine KE (oh hsl hI aM) ?_;intro w1 hI|refine YL ?_);refine ZP ?_))
    go_upto_region 7 with(fail)
    (refine ZR [10,12] [0,1,2,3,4] [10] [0,1,2,3,4,5,6,7,8,9,10,11,12] (λw=>Inv (ah X Y S).own w0 w [ib bx 158 z,ah X Y1 S1]) hI ?_;intro wd hI)
    (repeat(first|refine ZS ?_|refine ZQ ?_;go_wp2_with(first|go_at_call 122;refine KJ hI (xx _ X _ _ hX (hI.at_ aM) k hk5 i hi5 _ _ (by rw[Lr hrl]) hrl _ IG RF) ?_;intro Y2 S2 w1 hS2 hI|go_at_call 46;refine KE (IE hi5 hI aM) ?_;intro w1 hI|refine YL ?_);refine ZP ?_))
    go_wp2_with(fail);rw[hF2.out,hS2.out];exact LZ
  ·have hF:Hid (lX X.f S1 k i=S1):=HD (by rw[lX,if_neg (by rw[DY];simp at hq;simpa using hq)])
   clear DY;go_enter func118,ntmps118;go_upto_region 2 with(first|refine YL ?_|refine YX ?_;intro bx w hI|go_at_call 117;refine KH hI (hLn _ (hI.at_ aM)) ?_;intro Y1 lb w1 hI)
   refine ZT [6,7,11] 12 hI ?_;intro wd hI
   (repeat(refine ZQ ?_;go_wp2_with(first|go_at_call 17;refine KD hI (lY _ S1.view (i:Int) hvl IG _ hrr.out) ?_;intro w1 hI|refine YL ?_);refine ZP ?_))
   go_wp2_with(refine YL ?_);rw[hF.out];exact acR
end
end
section
open B (dY)
section
variable (w0:World)(X:RX)(Y:RY)(S:RS)(hX:zG X)
include hX
theorem XG(v:List Int)(hv:v.length=7)(hle:gi v 0<=gi S.view 0)(hI:Inv (ah X Y S).own w0 w0 [ah X Y S]):
  Calls prog 117 #[.pointer (some ⟨X.b,0,none⟩),oV X,ia v] w0 λe w'=>∃Y' lb,e=.returned (.bool lb)∧Inv (ah X Y S).own w0 w' [ah X Y' S]:=by
 have hd:decide (gi v 0<=gi S.view 0)=true:=by simpa using hle
 clear hle;go_enter func117,ntmps117;go_upto_region 1 with(refine YX ?_;intro bx w hI)
 (refine ZR [7,8,12,13,14] [] [] [0,1,2,3,4,5,6,7,8,9,10,11,12,13,14] (λw=>Inv (ah X Y S).own w0 w [ib bx 30 v,ah X Y S]) hI ?_;intro wd hI)
 (repeat(first|refine ZS ?_|refine ZQ ?_;go_wp2_with(refine YL ?_);refine ZP ?_))
 go_wp2_with(fail);go_ret;exact⟨Y,_,rfl,hI.tl⟩
theorem Ls(k:Nat)(z:List Int)(hz:z.length=192)(h0:gi z 0=8)(S1:RS)
  (hT:∀w1,Inv (ah X Y S).own w1 w1 [ah X Y S]->Calls prog 118 #[.pointer (some ⟨X.b,0,none⟩),oV X,.int .i64 (k:Int),ia z] w1 λe w'=>∃Y',e=.returned (.tuple #[])∧Inv (ah X Y S).own w1 w' [ah X Y' S1])
  (hI:Inv (ah X Y S).own w0 w0 [ah X Y S]):
  Calls prog 77 #[.pointer (some ⟨X.b,0,none⟩),oV X,.int .i64 (k:Int),ia z] w0 λe w'=>∃Y',e=.returned (.tuple #[])∧Inv (ah X Y S).own w0 w' [ah X Y' S1]:=by
 go_enter func77,ntmps77;go_wp2_with(first|refine YL ?_|refine YX ?_;intro bx w hI|go_at_call 118;refine KG hI (hT _ (hI.at_ aM)) ?_;intro Y2 w1 hI);exact LZ
theorem Lt(hI:Inv (ah X Y S).own w0 w0 [ah X Y S])(d:Nat)(hd:d<5)(i:Nat)(hi5:i<5)(z:List Int)(hz:z=aB 8 (i:Int) (aj 174) 0 0 (aj 2) (aj 2) (aj 3) S.view)(hvl:S.view.length=7)(V:List Int)(hvw:Hid (dU V))(hV:Hid (S.view=V)):
  Calls prog 122 #[.pointer (some ⟨X.b,0,none⟩),oV X,.int .i64 (d:Int),ia z] w0 λe w'=>∃Y' S',e=.returned (.tuple #[])∧Hid (j3 X.f S d i=S')∧Inv (ah X Y S).own w0 w' [ah X Y' S']:=by
 have hV:=hV.out;subst hV;have hL:=aQ hI aA;refine(zx w0 X Y S hX (.bR i S.view) ⟨hi5,hvl⟩ z hz d hd (lX X.f S X.f i) (λh w1 hI1=>Ls w1 X Y S hX X.f _ (gZ.len (M:=.bR i S.view) ⟨hi5,hvl⟩) aC (lX X.f S X.f i) (λw2 hI2=>?_) hI1) hI).mono ?_
 ·exact Qj w2 X Y S hX X.f hX.f5 i hi5 _ S.view (gZ.len (M:=.bR i S.view) ⟨hi5,hvl⟩) j4 (dx (aa 174) (aa 2) (aa 2) (aa 3) hvl) S (λw3 hI3=>XG w3 X Y S hX S.view hvl (Int.le_refl _) hI3) hvl hL.bV hvw hI2
 ·rintro e w' ⟨Y',rfl,hJ⟩
  exact⟨Y',_,rfl,HD rfl,hJ⟩
theorem abe(hvw:Hid (dU S.view))(hI:Inv (ah X Y S).own w0 w0 [ah X Y S]):Calls prog 80 #[.pointer (some ⟨X.b,0,none⟩),oV X] w0 λe w'=>∃Y',e=.returned (.tuple #[])∧Inv (ah X Y S).own w0 w' [ah X Y' (kr X.f S)]:=by
 have hLn:=aQ hI aA;have hvl:=hLn.view;clear hLn;obtain⟨L,hL0⟩:=EQ (pR X.f S);have hL:=HD hL0;have hLm:=HD (XC hL0);obtain⟨n,hn0⟩:=EQ L.length;have hn:=HD hn0;have hn5:n<=1000:=by
  have h1:L.length<=5:=by
   rw[<-hL.out,pR];exact Nat.le_trans (List.length_filter_le _ _) SI
  omega
 have hfin:Hid (kr X.f S=L.foldl (nG X.f) S):=HD (by rw[kr,hL0]);clear hL0 hn0;go_enter func80,ntmps80;go_upto_region 1 with(go_at_call 123;refine KK hI (Hd _ X.f X.b X.l Y.vb Y.rc Y.ra S _ L hL.out n hn.out hvl hvw (hI.at_ aA)) ?_;intro ad cd w1 hI)
 go_loopg [5,7,11] n (λkk s5 s7 s11 wr=>∃(j:Nat) (Yj:RY) (Sj:RS),kk=n-j∧j<=n∧s11=.int .i64 (j:Int)∧Hid ((L.take j).foldl (nG X.f) S=Sj)∧Inv (ah X Y S).own w0 wr [bf 3 1 (.slice ad n cd) n (L.map iN),ah X Yj Sj])
 case atStart=>exact⟨0,Y,S,rfl,by omega,rfl,HD rfl,hI⟩
 case round=>
  clear hI;obtain⟨j,Yj,Sj,rfl,hj,rfl,hSj,hI⟩:=hrel;by_cases hjn:j<n
  ·obtain⟨gd,rfl⟩:∃gd,ad=some ⟨gd,0,none⟩:=gu hI aA (by rw[List.length_map,hn.out];omega)
   obtain⟨i,hi⟩:∃i,L[j]? =some i:=⟨_,List.getElem?_eq_getElem (by rw[hn.out];exact hjn)⟩;have hi5:i<5:=hLm.out i (List.mem_of_getElem? hi);have hld:(L.map iN)[j]? =some (.int .i64 (i:Int)):=by rw[List.getElem?_map,hi];rfl
   have aiF:decide ((j:Int) < (n:Int))=true:=by simp;omega
   have hs:=HD (Ab (nG X.f) S L j i hi);have hVj:Hid (Sj.view=S.view):=HD (by rw[<-hSj.out];exact gW RS.view _ (AQ X.f) _ _);clear hi;obtain⟨G,hG0⟩:∃G:RS->Nat->RS,G=λT w=>if lW T i w=true then T else j3 X.f T w i:=⟨_,rfl⟩
   have hs2:Hid ((L.take (j+1)).foldl (nG X.f) S=(dS i).foldl G Sj):=HD (by rw[hs.out,hSj.out,nG,hG0]);have hG:=HD hG0;have hGv:Hid (∀T w,(G T w).view=T.view):=HD (λT w=>by rw[hG0];dsimp only;split;rfl;exact xm X.f T w i);clear hs hSj hG0;go_upto_region 4 with(first|go_at_call 121;refine KO hI (wZ _ i hi5) ?_;intro g cw w1 hI|with_reducible refine aJ hI RF aA (aO.out (t:=3)) hld ?_)
   go_loopg [7,18] 2 (λkk s7 s18 wr=>∃(k:Nat) (Yk:RY) (Sk:RS),kk=2-k∧k<=2∧s18=.int .i64 (k:Int)∧Hid (((dS i).take k).foldl G Sj=Sk)∧Inv (ah X Y S).own w0 wr [bf 3 1 (.slice (some ⟨g,0,none⟩) 2 cw) 2 ((dS i).map iN),bf 3 1 (.slice (some ⟨gd,0,none⟩) n cd) n (L.map iN),ah X Yk Sk])
   case atStart=>exact⟨0,Yj,Sj,rfl,by omega,rfl,HD rfl,hI⟩
   case round=>
    clear hI;obtain⟨k,Yk,Sk,rfl,hk,rfl,hSk,hI⟩:=hrel;by_cases hk2:k<2
    ·obtain⟨t,ht⟩:∃t,(dS i)[k]? =some t:=⟨_,List.getElem?_eq_getElem (by simp[dS];omega)⟩
     have mR:t<5:=by
      have:=List.mem_of_getElem? ht;simp only[dS,List.mem_cons,List.not_mem_nil,or_false]at this;omega
     have hlt:((dS i).map iN)[k]? =some (.int .i64 (t:Int)):=by rw[List.getElem?_map,ht];rfl
     have hVk:Hid (Sk.view=S.view):=HD (by rw[<-hSk.out,gW RS.view _ hGv.out];exact hVj.out);have ag_:Sk.view.length=7:=(aQ hI aX).view;have hs3:Hid (((dS i).take (k+1)).foldl G Sj=if lW Sk i t=true then Sk else j3 X.f Sk t i):=HD (by rw[Ab G Sj _ k t ht,hSk.out,hG.out]);clear ht hSk;cases htl:lW Sk i t
     ·have hs4:Hid (((dS i).take (k+1)).foldl G Sj=j3 X.f Sk t i):=HD (by rw[hs3.out,if_neg (by rw[htl];simp)])
      clear hs3;go_wp2_with(first|refine YL ?_|go_at_call 124;refine KC pg hI (wL _ X.f X.b X.l Yk.vb Yk.rc Yk.ra Sk _ i t hi5 mR _ htl (hI.at_ aX)) ?_;intro w1 hI|with_reducible refine aJ hI RF aA (aO.out (t:=3)) hlt ?_|go_at_call 122;refine KJ hI (Lt _ X _ _ hX (hI.at_ aX) t mR i hi5 _ (by rw[adZ ag_]) ag_ _ hvw hVk) ?_;intro Y2 S2 w1 hS2 hI);go_roundg (2- (k+1))
      case measure=>omega
      case rel=>exact⟨k+1,Y2,S2,rfl,by omega,by go_num,HD (by rw[hs4.out,hS2.out]),hI⟩
     ·have hs4:Hid (((dS i).take (k+1)).foldl G Sj=Sk):=HD (by rw[hs3.out,if_pos htl])
      clear hs3;go_wp2_with(first|go_at_call 124;refine KC pg hI (wL _ X.f X.b X.l Yk.vb Yk.rc Yk.ra Sk _ i t hi5 mR _ htl (hI.at_ aX)) ?_;intro w1 hI|with_reducible refine aJ hI RF aA (aO.out (t:=3)) hlt ?_);go_roundg (2- (k+1))
      case measure=>omega
      case rel=>exact⟨k+1,Yk,Sk,rfl,by omega,by go_num,hs4,hI⟩
    ·obtain rfl:k=2:=by omega
     have hs3:Hid ((L.take (j+1)).foldl (nG X.f) S=Sk):=HD (by rw[hs2.out,<-hSk.out];rfl);clear hs2 hSk;go_wp2_with(fail);go_roundg (n- (j+1))
     case measure=>omega
     case rel=>exact⟨j+1,Yk,Sk,rfl,by omega,by go_num,hs3,hI.tl⟩
  ·obtain rfl:j=n:=by omega
   have hF:Hid (kr X.f S=Sj):=HD (by rw[hfin.out,<-hSj.out,List.take_of_length_le (by rw[hn.out];exact Nat.le_refl _)]);clear hfin hSj;go_wp2_with(fail);rw[hF.out];exact⟨rfl,_,gD KF _ _,Yj,rfl,hI.tl⟩
theorem Lu(hI:Inv (ah X Y S).own w0 w0 [ah X Y S])(V:List Int)(hvw:Hid (dU V))(hV:S.view=V):Calls prog 80 #[.pointer (some ⟨X.b,0,none⟩),oV X] w0 λe w'=>∃Y' S',e=.returned (.tuple #[])∧Hid (kr X.f S=S')∧Inv (ah X Y S).own w0 w' [ah X Y' S']:=by
 subst hV;refine(abe w0 X Y S hX hvw hI).mono ?_;exact W46
theorem IJ(v:List Int)(hv:v.length=7)(hv64:Hid (dU v))(hI:Inv (ah X Y S).own w0 w0 [ah X Y S]):
  Calls prog 117 #[.pointer (some ⟨X.b,0,none⟩),oV X,ia v] w0 λe w'=>∃Y',e=.returned (.bool (eZ X.f S v).2)∧Inv (ah X Y S).own w0 w' [ah X Y' (eZ X.f S v).1]:=by
 cases hd:decide (gi v 0<=gi S.view 0)
 ·obtain⟨x0,kZ⟩:=EZ (Rec.view v)
  have hx0:x0.Len:=by rw[kZ];exact hv
  have L6:Hid (av (aj 189) [(0,[5]),(182,v)]=x0.mP):=HD (by rw[kZ];exact ad3 hv);obtain⟨D',c',u',e',hP⟩:=tH S x0;have hF:Hid (eZ X.f S v=if e'=0 then(kr X.f (rV {S with D:=D',cnt:=c',used:=u'} v),true)else({S with D:=D',cnt:=c',used:=u'},false)):=HD (by
   rw[eZ,if_neg (by simpa using hd),<-kZ,hP.out])
  clear kZ;by_cases he:e'=0
  ·subst he
   have hF2:Hid (eZ X.f S v=(kr X.f {S with D:=D',cnt:=c',used:=u',view:=v,acc:=pI (gi v 0) (aj 2) (aj 2) (aj 3),aK:=none,round:=0},true)):=HD (by rw[hF.out,if_pos rfl];rfl);clear hF;go_enter func117,ntmps117;go_upto_region 1 with(refine YX ?_;intro bx w hI)
   (refine ZR [7,8,12,13,14] [] [] [0,1,2,3,4,5,6,7,8,9,10,11,12,13,14] (λw=>Inv (ah X Y S).own w0 w [ib bx 30 v,ah X Y S]) hI ?_;intro wd hI)
   (repeat(refine ZQ ?_;go_wp2_with(first|go_at_call 108;refine KG hI (ni _ X _ _ x0 hx0 _ L6.out _ _ _ _ hP (hI.at_ aM)) ?_;intro Yp w1 hI|refine YL ?_);refine ZP ?_))
   go_wp2_with(first|refine YL ?_|go_at_call 64;refine KC iR hI (Ie _ X.f X.b X.l _ _ _ _ _ v hv (hI.at_ aM)) ?_;intro w1 hI;dsimp only[rV]at hI|go_at_call 80;refine KJ hI (Lu _ X _ _ hX (hI.at_ aM) _ hv64 RF) ?_;intro Y2 S2 w1 hS2 hI);go_ret;rw[hF2.out,hS2.out];exact⟨Y2,rfl,hI.tl⟩
  ·have hF2:Hid (eZ X.f S v=({S with D:=D',cnt:=c',used:=u'},false)):=HD (by rw[hF.out,if_neg he])
   have hq:(e' != 0)=true:=by simpa using he
   clear hF;go_enter func117,ntmps117;go_upto_region 1 with(refine YX ?_;intro bx w hI)
   (refine ZR [7,8,12,13,14] [] [] [0,1,2,3,4,5,6,7,8,9,10,11,12,13,14] (λw=>Inv (ah X Y S).own w0 w [ib bx 30 v,ah X Y S]) hI ?_;intro wd hI)
   (repeat(refine ZQ ?_;go_wp2_with(first|go_at_call 108;refine KG hI (ni _ X _ _ x0 hx0 _ L6.out _ _ _ _ hP (hI.at_ aM)) ?_;intro Yp w1 hI|refine YL ?_);refine ZP ?_))
   go_wp2_with(fail);go_ret;rw[hF2.out];exact⟨_,rfl,hI.tl⟩
 ·have hF2:Hid (eZ X.f S v=(S,false)):=HD (by rw[eZ,if_pos (by simpa using hd)])
  go_enter func117,ntmps117;go_upto_region 1 with(refine YX ?_;intro bx w hI)
  (refine ZR [7,8,12,13,14] [] [] [0,1,2,3,4,5,6,7,8,9,10,11,12,13,14] (λw=>Inv (ah X Y S).own w0 w [ib bx 30 v,ah X Y S]) hI ?_;intro wd hI)
  (repeat(first|refine ZS ?_|refine ZQ ?_;go_wp2_with(refine YL ?_);refine ZP ?_))
  go_wp2_with(fail);go_ret;rw[hF2.out];exact⟨Y,rfl,hI.tl⟩
end
end
section
open B (bQ)
section
variable (w0:World)(X:RX)(Y:RY)(S:RS)(hX:zG X)
include hX
theorem GJ(hI:Inv (ah X Y S).own w0 w0 [ah X Y S])(v:List Int)(hv:v.length=7)(hv64:Hid (dU v))(S1:RS)(lb:Bool)(hL:Hid (eZ X.f S v=(S1,lb))):
  Calls prog 117 #[.pointer (some ⟨X.b,0,none⟩),oV X,ia v] w0 λe w'=>∃Y',e=.returned (.bool lb)∧Inv (ah X Y S).own w0 w' [ah X Y' S1]:=by
 have h:=IJ w0 X Y S hX v hv hv64 hI;rw[hL.out]at h;exact h
theorem AY(hI:Inv (ah X Y S).own w0 w0 [ah X Y S])(v:List Int)(hv:v.length=7):Calls prog 81 #[.pointer (some ⟨X.b,0,none⟩),oV X,ia v] w0 λe w'=>∃Y' S',e=.returned (.tuple #[])∧Hid (gG X.f S v=S')∧Inv (ah X Y S).own w0 w' [ah X Y' S']:=by
 refine(NC w0 X Y S hX v hv hI).mono ?_;rintro e w' ⟨Y',B',rfl,hB,hJ⟩;exact⟨Y',_,rfl,hB,hJ⟩
theorem XH(V:List Int×Bool)(hV:Hid (S.aK=some V))(hvw:Hid (dU S.view))(hI:Inv (ah X Y S).own w0 w0 [ah X Y S]):
  Calls prog 159 #[.pointer (some ⟨X.b,0,none⟩),oV X] w0 λe w'=>∃Y',e=.returned (.tuple #[])∧Inv (ah X Y S).own w0 w' [ah X Y' (kY X.f S V)]:=by
 have hLn:=aQ hI aA;have hvl:=hLn.view;have hcl:(sub V.1 9 3).length=3:=by have:=hLn.aK V hV.out;rw[ay];omega
 clear hLn;obtain⟨⟨nv,ne⟩,oO⟩:=EQ (bQ S.view (sub V.1 9 3));have hnl:nv.length=7:=by have:=zh S.view (sub V.1 9 3) hvl;rw[oO]at this;exact this
 have MI:Hid (dU nv):=HD (by have:=K7 hvw.out (sub V.1 9 3);rw[oO]at this;exact this);have hnx:=HD oO;obtain⟨⟨S1,lb⟩,aeW⟩:=EQ (eZ X.f S nv);have hLn:=HD aeW;have hF:Hid (kY X.f S V=if ne=0 then(if lb=true then gG X.f S1 nv else S1)else S):=HD (by rw[kY,oO];dsimp only;rw[aeW]);clear oO aeW;by_cases hne:ne=0
 ·have hF2:Hid (kY X.f S V=if lb=true then gG X.f S1 nv else S1):=HD (by rw[hF.out,if_pos hne])
  subst hne;clear hF;cases lb
  ·have r_:Hid (kY X.f S V=S1):=HD (by rw[hF2.out,if_neg SI])
   clear hF2;go_enter func159,ntmps159;go_upto_region 0 with(fail)
   (refine aD [14,15] [12] [14,15] [12] [0,1,2,3,4,5,6,7,8,9,10,11,12] 13 [14,15] eO KF RF hI ?_;clear hI)
   (repeat(first| ((with_reducible refine' bC RF RF RF ?_ ?_ ?_);rotate_left;(focus(intro ex w (hI:Inv _ _ w _);go_wp2_with(first|refine YL ?_|go_at_call 83;refine KE (yj hI aM (by with_unfolding_all exact hV)) ?_;intro w1 hI|go_at_call 84;refine KD hI (iL _ _ _ hvl hcl hvw _ _ hnx) ?_;intro w1 hI);(try simp only[QN]);exact bB rfl hI));(focus(exact⟨_,rfl⟩))) | refine ZL ?_));refine bH ?_;intro bx w hI;(simp only[QN]);(repeat(refine ZQ ?_;go_wp2_with(refine YS ?_;intro w hI);refine ZP ?_))
   go_wp2_with(first|refine YL ?_|go_at_call 117;refine KG hI (GJ _ X _ _ hX (hI.at_ aM) nv hnl MI _ _ hLn) ?_;intro Y1 w1 hI);rw[r_.out];exact acR
  ·have r_:Hid (kY X.f S V=gG X.f S1 nv):=HD (by rw[hF2.out,if_pos rfl])
   clear hF2;go_enter func159,ntmps159;go_upto_region 0 with(fail)
   (refine aD [14,15] [12] [14,15] [12] [0,1,2,3,4,5,6,7,8,9,10,11,12] 13 [14,15] eO KF RF hI ?_;clear hI)
   (repeat(first| ((with_reducible refine' bC RF RF RF ?_ ?_ ?_);rotate_left;(focus(intro ex w (hI:Inv _ _ w _);go_wp2_with(first|refine YL ?_|go_at_call 83;refine KE (yj hI aM (by with_unfolding_all exact hV)) ?_;intro w1 hI|go_at_call 84;refine KD hI (iL _ _ _ hvl hcl hvw _ _ hnx) ?_;intro w1 hI);(try simp only[QN]);exact bB rfl hI));(focus(exact⟨_,rfl⟩))) | refine ZL ?_));refine bH ?_;intro bx w hI;(simp only[QN]);(repeat(refine ZQ ?_;go_wp2_with(refine YS ?_;intro w hI);refine ZP ?_))
   go_wp2_with(first|refine YL ?_|go_at_call 117;refine KG hI (GJ _ X _ _ hX (hI.at_ aM) nv hnl MI _ _ hLn) ?_;intro Y1 w1 hI|go_at_call 81;refine KJ hI (AY _ X _ _ hX (hI.at_ aM) nv hnl) ?_;intro Y2 S2 w1 hS2 hI);rw[r_.out,hS2.out];exact LZ
 ·have hF2:Hid (kY X.f S V=S):=HD (by rw[hF.out,if_neg hne])
  have hq:(ne != 0)=true:=by simpa using hne
  clear hF;go_enter func159,ntmps159;go_upto_region 0 with(fail)
  (refine aD [14,15] [12] [14,15] [12] [0,1,2,3,4,5,6,7,8,9,10,11,12] 13 [14,15] eO KF RF hI ?_;clear hI)
  (repeat(first| ((with_reducible refine' bC RF RF RF ?_ ?_ ?_);rotate_left;(focus(intro ex w (hI:Inv _ _ w _);go_wp2_with(first|refine YL ?_|go_at_call 83;refine KE (yj hI aM (by with_unfolding_all exact hV)) ?_;intro w1 hI|go_at_call 84;refine KD hI (iL _ _ _ hvl hcl hvw _ _ hnx) ?_;intro w1 hI);(try simp only[QN]);exact bB rfl hI));(focus(exact⟨_,rfl⟩))) | refine ZL ?_));refine bH ?_;intro bx w hI;(simp only[QN]);(repeat(refine ZQ ?_;go_wp2_with(refine YS ?_;intro w hI);refine ZP ?_))
  exact acS
theorem Tf(hI:Inv (ah X Y S).own w0 w0 [ah X Y S])(V:List Int×Bool)(hV:S.aK=some V)(V0:List Int)(hvw:Hid (dU V0))(hVv:S.view=V0):
  Calls prog 159 #[.pointer (some ⟨X.b,0,none⟩),oV X] w0 λe w'=>∃Y' S',e=.returned (.tuple #[])∧Hid (kY X.f S V=S')∧Inv (ah X Y S).own w0 w' [ah X Y' S']:=by
 subst hVv;refine(XH w0 X Y S hX V (HD hV) hvw hI).mono ?_;exact W46
end
end
