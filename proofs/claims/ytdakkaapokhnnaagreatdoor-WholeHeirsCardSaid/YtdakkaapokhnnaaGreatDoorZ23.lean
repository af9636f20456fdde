/- Contracts of functions. No condition. -/
import Derived.Test.YtdakkaapokhnnaaGreatDoorZ18
import Derived.Test.YtdakkaapokhnnaaGreatDoorZ19
import Derived.Test.YtdakkaapokhnnaaGreatDoorZ20
namespace Go.Proofs.YtdakkaapokhnnaaGreatDoor
open Go.RowKit Go.Proofs.Tryz
set_option maxRecDepth 100000
set_option maxHeartbeats 6400000
set_option linter.all false
section
open B (aI bK kF)
theorem aaO(z):IntKind.i64.wrap z=wrap64 z:=by
 simp only[IntKind.wrap,IntKind.bits,IntKind.signed,wrap64]
 grind
section
variable (w0:World)(X:RX)(Y:RY)(S:RS)
theorem aeb(c)(hcl:c.length=3)(hI:Inv (aj X Y S).own w0 w0 [aj X Y S]):
  Calls prog 85 #[.pointer (some ⟨X.b,0,none⟩),ia c] w0 λe' w'=>∃Y',e'=.returned (.int .i64 (cO X.f S c).2)∧Inv (aj X Y S).own w0 w' [aj X Y' (cO X.f S c).1]:=by
 have hvl:=(aS hI aC).view;have hal:=(aS hI aC).acc;obtain⟨b,hb0⟩:=EQ [wrap64 (S.round+1),(X.f:Int)];have hb2:b.length=2:=by rw[<-hb0];rfl
 have hzb:Hid (ay (au 2) [(0,[IntKind.i64.wrap (S.round+1)]),(1,[(X.f:Int)])]=b):=HD (by rw[aaO];exact hb0);have hg0:gi b 0=wrap64 (S.round+1):=by rw[<-hb0];rfl
 have alK:(kF S.view b c).length=16:=by simp[B.kF,hvl,hb2,hcl]
 obtain⟨⟨a',ok⟩,KW⟩:=EQ (tK S.acc (gi S.view 0) b);have KX:a'.length=8:=by have:=NC (e:=gi S.view 0) hal hb2;rw[KW]at this;exact this
 have hak:=HD KW;obtain⟨x0,ma⟩:=EZ (Rec.qH (gi S.view 0) b);have hx0:x0.Len:=by rw[ma];exact hb2
 have OW:Hid (ay (au 189) [(0,[3]),(176,[gi S.view 0]),(177,b)]=x0.nX):=HD (by rw[ma];exact afB hb2);obtain⟨D',c',u',e',hP⟩:=uL S x0;have hF:Hid (cO X.f S c=if ok=true then(if e'=0 then({S with D:=D',cnt:=c',used:=u',acc:=a',round:=wrap64 (S.round+1),aB:=some (kF S.view b c,false)},0)else({S with D:=D',cnt:=c',used:=u'},e'))else(S,6)):=HD (by
  rw[cO];dsimp only;rw[hb0,KW];dsimp only;rw[<-ma,hP.out])
 clear KW ma hb0;cases ok
 ·have hF2:Hid (cO X.f S c=(S,6)):=HD (by rw[hF.out,if_neg SI])
  clear hF;go_enter func85,ntmps85;go_upto_region 1 with(refine YX ?_;intro bx w hI)
  (obtain⟨bc,hbx⟩:=EZ bx;subst hbx)
  (refine ZR [10,11] [0,1,2,3,4,5,6,7,8,9] [10] [0,1,2,3,4,5,6,7,8,9,10,11] (λw=>Inv (aj X Y S).own w0 w [ib bc 48 c,aj X Y S]) hI ?_;intro wd hI)
  (repeat(first| (refine ZA ?_;go_wp2_with(refine YS ?_;intro w hI);refine gz ?_) | (refine ZB ?_;go_wp2_with(refine YX ?_;intro bx w hI);(refine iU (hI.sub SB) ?_)) | ((refine iA RF RF RF RF (hI.sub SB) (by intro w (hI:Inv _ _ w _);first|with_reducible exact D5 hI|with_reducible exact xB hI|with_reducible exact acz| (unfold gu;go_simp;with_reducible rfl)) ?_);(simp only[QN]))));refine dN ?_
  rw[hzb.out]at hI;go_upto_region 2 with(fail)
  (refine aG [15,16] [13] [15,16] [13] [0,1,2,3,4,5,6,7,8,9,10,11,12,13] 14 [15,16] fE KF RF hI ?_;clear hI)
  (repeat(first| ((with_reducible refine' bN RF RF RF ?_ ?_ ?_);rotate_left;(focus(intro ex w (hI:Inv _ _ w _);go_wp2_with(first|refine YL ?_|go_at_call 126;refine KD hI (vG _ _ _ _ hal hb2 _ _ hak) ?_;intro w1 hI);(try simp only[QN]);exact bM rfl hI));(focus(exact⟨_,rfl⟩))) | refine ZL ?_));refine bQ ?_;intro bx w hI;(simp only[QN]);(repeat(refine ZQ ?_;go_wp2_with(refine YS ?_;intro w hI);refine ZP ?_))
  go_wp2_with(fail);go_ret;rw[hF2.out];exact⟨Y,rfl,hI.sub (.cons _ (.cons _ (.cons _ (.refl _))))⟩
 ·have hF2:Hid (cO X.f S c=if e'=0 then({S with D:=D',cnt:=c',used:=u',acc:=a',round:=wrap64 (S.round+1),aB:=some (kF S.view b c,false)},0)else({S with D:=D',cnt:=c',used:=u'},e')):=HD (by rw[hF.out,if_pos rfl])
  clear hF;by_cases Dp:e'=0
  ·have tY:Hid (cO X.f S c=({S with D:=D',cnt:=c',used:=u',acc:=a',round:=wrap64 (S.round+1),aB:=some (kF S.view b c,false)},0)):=HD (by rw[hF2.out,if_pos Dp])
   subst Dp;clear hF2;go_enter func85,ntmps85;go_upto_region 1 with(refine YX ?_;intro bx w hI)
   (obtain⟨bc,hbx⟩:=EZ bx;subst hbx)
   (refine ZR [10,11] [0,1,2,3,4,5,6,7,8,9] [10] [0,1,2,3,4,5,6,7,8,9,10,11] (λw=>Inv (aj X Y S).own w0 w [ib bc 48 c,aj X Y S]) hI ?_;intro wd hI)
   (repeat(first| (refine ZA ?_;go_wp2_with(refine YS ?_;intro w hI);refine gz ?_) | (refine ZB ?_;go_wp2_with(refine YX ?_;intro bx w hI);(refine iU (hI.sub SB) ?_)) | ((refine iA RF RF RF RF (hI.sub SB) (by intro w (hI:Inv _ _ w _);first|with_reducible exact D5 hI|with_reducible exact xB hI|with_reducible exact acz| (unfold gu;go_simp;with_reducible rfl)) ?_);(simp only[QN]))));refine dN ?_
   rw[hzb.out]at hI
   (obtain⟨bb,hbx⟩:=EZ bx;subst hbx)
   go_upto_region 2 with(fail)
   (refine aG [15,16] [13] [15,16] [13] [0,1,2,3,4,5,6,7,8,9,10,11,12,13] 14 [15,16] fE KF RF hI ?_;clear hI)
   (repeat(first| ((with_reducible refine' bN RF RF RF ?_ ?_ ?_);rotate_left;(focus(intro ex w (hI:Inv _ _ w _);go_wp2_with(first|refine YL ?_|go_at_call 126;refine KD hI (vG _ _ _ _ hal hb2 _ _ hak) ?_;intro w1 hI);(try simp only[QN]);exact bM rfl hI));(focus(exact⟨_,rfl⟩))) | refine ZL ?_));refine bQ ?_;intro bx w hI;(simp only[QN]);(repeat(refine ZQ ?_;go_wp2_with(refine YS ?_;intro w hI);refine ZP ?_))
   (obtain⟨ba,hbx⟩:=EZ bx;subst hbx)
   go_upto_region 5 with(fail)
   refine ZT [8,9] 10 hI ?_;intro wd hI
   (repeat(refine ZQ ?_;go_wp2_with(first|go_at_call 108;refine KG hI (ou _ X _ _ x0 hx0 _ OW.out _ _ _ _ hP (hI.at_ nz)) ?_;intro Yp w1 hI|refine YL ?_);refine ZP ?_))
   go_upto_region 8 with(fail)
   (refine ZR [7,8,9,10] [1,3,4] [7] [0,1,2,3,4,5,6,7,8,9,10] (λw=>Inv (aj X Y S).own w0 w [ib ba 93 a',ib bb 91 b,ib bc 48 c]) hI ?_;intro wd hI)
   (repeat(first|refine ZS ?_|refine ZQ ?_;go_wp2_with(first|refine YS ?_;intro w hI|refine YL ?_);refine ZP ?_))
   go_upto_region 9 with(fail)
   (refine ZR [7,8,9,10] [0] [7] [0,1,2,3,4,5,6,7,8,9,10] (λw=>Inv (aj X Y S).own w0 w [ib bc 48 c]) hI ?_;intro wd hI)
   (repeat(first|refine ZS ?_|refine ZQ ?_;go_wp2_with(first|(with_reducible refine aaN hI RF RF alK WQ (k:=?_);intro w hI)|go_at_call 127;(with_reducible refine(B.adn _ S.view b c hvl hb2 hcl).mono ?_);rintro e w1 ⟨nb,rfl,hJ⟩;replace hI:=hI.seq hJ;simp only[List.cons_append,List.nil_append]at hI;clear hJ|refine YL ?_);refine ZP ?_))
   go_wp2_with(fail);go_ret;rw[tY.out]
   (try rw[hg0]at hI)
   exact⟨{Yp with vb:=nb},rfl,hI.sub (.cons _ (.cons _ (.cons _ (.refl _))))⟩
  ·have tY:Hid (cO X.f S c=({S with D:=D',cnt:=c',used:=u'},e')):=HD (by rw[hF2.out,if_neg Dp])
   have hq:(e' != 0)=true:=by simpa using Dp
   clear hF2;go_enter func85,ntmps85;go_upto_region 1 with(refine YX ?_;intro bx w hI)
   (obtain⟨bc,hbx⟩:=EZ bx;subst hbx)
   (refine ZR [10,11] [0,1,2,3,4,5,6,7,8,9] [10] [0,1,2,3,4,5,6,7,8,9,10,11] (λw=>Inv (aj X Y S).own w0 w [ib bc 48 c,aj X Y S]) hI ?_;intro wd hI)
   (repeat(first| (refine ZA ?_;go_wp2_with(refine YS ?_;intro w hI);refine gz ?_) | (refine ZB ?_;go_wp2_with(refine YX ?_;intro bx w hI);(refine iU (hI.sub SB) ?_)) | ((refine iA RF RF RF RF (hI.sub SB) (by intro w (hI:Inv _ _ w _);first|with_reducible exact D5 hI|with_reducible exact xB hI|with_reducible exact acz| (unfold gu;go_simp;with_reducible rfl)) ?_);(simp only[QN]))));refine dN ?_
   rw[hzb.out]at hI;go_upto_region 2 with(fail)
   (refine aG [15,16] [13] [15,16] [13] [0,1,2,3,4,5,6,7,8,9,10,11,12,13] 14 [15,16] fE KF RF hI ?_;clear hI)
   (repeat(first| ((with_reducible refine' bN RF RF RF ?_ ?_ ?_);rotate_left;(focus(intro ex w (hI:Inv _ _ w _);go_wp2_with(first|refine YL ?_|go_at_call 126;refine KD hI (vG _ _ _ _ hal hb2 _ _ hak) ?_;intro w1 hI);(try simp only[QN]);exact bM rfl hI));(focus(exact⟨_,rfl⟩))) | refine ZL ?_));refine bQ ?_;intro bx w hI;(simp only[QN]);(repeat(refine ZQ ?_;go_wp2_with(refine YS ?_;intro w hI);refine ZP ?_))
   go_upto_region 5 with(fail)
   refine ZT [8,9] 10 hI ?_;intro wd hI
   (repeat(refine ZQ ?_;go_wp2_with(first|go_at_call 108;refine KG hI (ou _ X _ _ x0 hx0 _ OW.out _ _ _ _ hP (hI.at_ nz)) ?_;intro Yp w1 hI|refine YL ?_);refine ZP ?_))
   go_wp2_with(fail);go_ret;rw[tY.out];exact⟨Yp,rfl,hI.sub (.cons _ (.cons _ (.cons _ (.refl _))))⟩
end
end
section
open B (aI)
section
variable (w0:World)(X:RX)(Y:RY)(S:RS)
variable (z:List Int)(hz:z.length=11)(hI:Inv (aj X Y S).own w0 w0 [aj X Y S])
include hz hI
theorem Ob(key)(h3:gi z 3=key)(hm0:aI S.view (X.f:Int)=true)(hk1:decide (key<0)=false)(hk2:decide (4<=key)=false)(n)(h4:gi z 4=n)(h0:gi z 0=0)(hb:S.busy=false)(hok:Hid (C.wW S.own))(g ge)(hg:Hid (C.lq S.own (1+key.toNat*7) key n=(g,ge)))(hge:ge≠0):jJ w0 X Y S z (au 174,0,ge):=by
 have hvl:=(aS hI aC).view;have hn:=ag 174;have hmb:Hid (aI S.view (X.f:Int)=true):=HD hm0;clear hm0;unfold jJ;have hown:=(aS hI aC).own;have hgl:g.length=174:=(by have:=C.uG S.own (1+key.toNat*7) key n hown;rw[hg.out]at this;exact this);have hq:(ge != 0)=true:=by simpa using hge
 go_enter func68,ntmps68;go_upto_region 1 with(refine YX ?_;intro bx w hI)
 refine ZT [8,9] 10 hI ?_;intro wd hI
 (repeat(refine ZQ ?_;go_wp2_with(first|go_at_call 14;refine KD hI (b_ _ _ X.f hvl _ hmb) ?_;intro w1 hI|refine YL ?_);refine ZP ?_))
 go_upto_region 13 with(first|refine YL ?_|refine YX ?_;intro bx w hI)
 obtain⟨b1,b2,b3,e1,e2,e3⟩:=NZ hI;subst e1 e2 e3
 (refine ZR [8,9,12,13] [11] [12] [0,1,2,3,4,5,6,7,8,9,10,11,12,13] (λw=>Inv (aj X Y S).own w0 w [ib b2 41 (au 174),ib b3 50 z,aj X Y S]) hI ?_;intro wd hI)
 (repeat(first|refine ZS ?_|refine ZQ ?_;go_wp2_with(first|go_at_call 104;refine KD hI (TL _ _ _ _ hown hok _ _ hg) ?_;intro w1 hI|refine YS ?_;intro w hI|refine YL ?_);refine ZP ?_))
 exact W18
theorem KZ(key)(h3:gi z 3=key)(hm0:aI S.view (X.f:Int)=true)(hk1:decide (key<0)=false)(hk2:decide (4<=key)=false)(n)(h4:gi z 4=n)(h0:gi z 0=0)(hb:S.busy=false)(hok:Hid (C.wW S.own))(g)(hg:Hid (C.lq S.own (1+key.toNat*7) key n=(g,0))):jJ w0 X Y S z (g,0,0):=by
 have hvl:=(aS hI aC).view;have hn:=ag 174;have hmb:Hid (aI S.view (X.f:Int)=true):=HD hm0;clear hm0;unfold jJ;have hown:=(aS hI aC).own;have hgl:g.length=174:=(by have:=C.uG S.own (1+key.toNat*7) key n hown;rw[hg.out]at this;exact this);go_enter func68,ntmps68;go_upto_region 1 with(refine YX ?_;intro bx w hI)
 refine ZT [8,9] 10 hI ?_;intro wd hI
 (repeat(refine ZQ ?_;go_wp2_with(first|go_at_call 14;refine KD hI (b_ _ _ X.f hvl _ hmb) ?_;intro w1 hI|refine YL ?_);refine ZP ?_))
 go_upto_region 13 with(first|refine YL ?_|refine YX ?_;intro bx w hI)
 obtain⟨b1,b2,b3,e1,e2,e3⟩:=NZ hI;subst e1 e2 e3
 (refine ZR [8,9,12,13] [11] [12] [0,1,2,3,4,5,6,7,8,9,10,11,12,13] (λw=>Inv (aj X Y S).own w0 w [ib b2 41 (au 174),ib b3 50 z,aj X Y S]) hI ?_;intro wd hI)
 (repeat(first|refine ZS ?_|refine ZQ ?_;go_wp2_with(first|go_at_call 104;refine KD hI (TL _ _ _ _ hown hok _ _ hg) ?_;intro w1 hI|refine YS ?_;intro w hI|refine YL ?_);refine ZP ?_))
 go_upto_region 21 with(fail)
 (refine ZR [0,1,2,3,13,16,17] [14,15] [13] [0,1,2,3,4,5,6,7,8,9,10,11,12,14,15,13,16,17] (λw=>Inv (aj X Y S).own w0 w [ib b1 41 g,ib b2 41 (au 174),ib b3 50 z,aj X Y S]) hI ?_;intro wd hI)
 (repeat(first|refine ZS ?_|refine ZQ ?_;go_wp2_with(refine YL ?_);refine ZP ?_))
 go_wp2_with(first|refine YL ?_|refine YS ?_;intro w hI);exact bodyPost_ret (jA hI rfl rfl aM (bP.out (t:=41)) hgl) rfl ⟨rfl,hI.sub SB⟩
end
end
section
open A (QE kE bU)
theorem Ri:(prog.info? 32).map (·.size)=some 1:=by kernel_rfl
def jK(C:CS)(i:Nat):CS×Int:=if C.up i=true then(C,5)else match gT (C.S i).D C.B with
 | (none,D',e)=>(nJ C i D',e)
 | (some S,_,_)=>(zu C i S,0)
section
variable (w0:World)(f d mr:Nat)(wb:Option Nat)(D:DS)(B:Nat->List (List UInt8))(hD:xJ D)(hwl:D.waits.length<=50000)(hE:Ae (dU D))(hI:Inv (fB d mr wb D).own w0 w0 [fB d mr wb D])
include hI hD hwl hE
theorem Jh(bs cnt used D' er)(h:dJ D=(some (bs,cnt,used),D',er))(hr:dz (r_ D' cnt used B) bs=none):
  Calls prog 37 #[.int .i64 (f:Int),.pointer (some ⟨d,0,none⟩)] w0 λe w'=>∃nu,e=.returned (.tuple #[.pointer none,.int .i64 1])∧Inv (fB d mr wb D).own w0 w' [fB d mr nu D']:=by
 exact ai7
theorem Gp(bs cnt used D' er)(h:dJ D=(some (bs,cnt,used),D',er))(S)(hr:dz (r_ D' cnt used B) bs=some S)(hS:S.D=D'∧S.cnt=cnt∧S.used=used):
  Calls prog 37 #[.int .i64 (f:Int),.pointer (some ⟨d,0,none⟩)] w0 λe w'=>∃nu b l,e=.returned (.tuple #[.pointer (some ⟨b,0,none⟩),.int .i64 0])∧Inv (fB d mr wb D).own w0 w' [two (rb f b l 0 none 0 S) (nZ True),fB d mr nu S.D,blk l 185 (lcs d S.cnt S.used)]:=by
 exact ai7
end
section
variable (w0:World)(X:CX)(Y:CY)(C:CS)(i:Nat)(hi:i<5)(hI:Inv (bF X Y C).own w0 w0 [bF X Y C])
include hi hI
theorem aa8(hE:C.up i=false->Ae (dU (C.S i).D)):
  Calls prog 45 #[.pointer (some ⟨X.cb,0,none⟩),.int .i64 (i:Int)] w0 λe w'=>∃Y',e=.returned (.int .i64 (jK C i).2)∧Inv (bF X Y C).own w0 w' [bF X Y' (jK C i).1]:=by
 obtain⟨ub,hu0⟩:=EQ (C.up i);have hcd:(bC X Y C)[1+i]? =some (.pointer (some ⟨X.d i,0,none⟩)):=zt _ _ _ _ hi;cases ub
 ·have hcm:(bC X Y C)[6+i]? =some (.pointer none):=by rw[<-F_ (Y:=Y) hu0];exact tF _ _ _ _ hi
  have hend:=HD (hE hu0);have hok:=(Ga hi hI aC).1;have WE:=aeu hok hend.out;obtain⟨⟨on,D',er⟩,ho0⟩:=EQ (dJ (C.S i).D);rw[ho0]at WE;have hok2:=WE.1;have hF:Hid (jK C i=match gT (C.S i).D C.B with| (none,D',e)=>(nJ C i D',e) | (some S,_,_)=>(zu C i S,0)):=HD (by rw[jK,if_neg (by simp[hu0])]);cases on with
  |none=>
   have her:=Ja (D:=(C.S i).D) (by rw[ho0]);rw[ho0]at her;have hq:(er==0)=false:=by simpa using her
   have hF2:Hid (jK C i=(nJ C i D',er)):=HD (by rw[hF.out,gT,ho0]);have ho:=HD ho0;have hu:=HD hu0;clear hF ho0 hu0 her WE hE;go_enter func45,ntmps45;go_wp2_with(first|with_reducible refine av (fw hI RF aC aQ.out hcm) ?_|with_reducible refine av (fw hI RF aC aQ.out hcd) ?_|go_at_call 37;(with_reducible refine(Og _ i (X.d i) (X.mr i) _ _ hok.ok (by have:=hok.w;omega) hend.out (K9 hi hu.out hI aC) _ _ ho.out).mono ?_);rintro e w1 ⟨Je,rfl,hJ⟩;replace hI:=Re hi hu.out hI jR hJ hok2;clear hJ);go_ret;rw[hF2.out];exact⟨_,rfl,hI⟩
  |some p=>
   obtain⟨bs,cnt,used⟩:=p;have aia:=WE.2 bs cnt used rfl;obtain⟨ra,Rj⟩:=EQ (dz (r_ D' cnt used C.B) bs);cases ra with
   |none=>
    have hF2:Hid (jK C i=(nJ C i D',1)):=HD (by rw[hF.out,gT,ho0];dsimp only;rw[Rj]);have ho:=HD ho0;have hu:=HD hu0;have hra:=HD Rj;clear hF ho0 hu0 WE hE Rj aia;go_enter func45,ntmps45;go_wp2_with(first|with_reducible refine av (fw hI RF aC aQ.out hcm) ?_|with_reducible refine av (fw hI RF aC aQ.out hcd) ?_|go_at_call 37;(with_reducible refine(Jh _ i (X.d i) (X.mr i) _ _ C.B hok.ok (by have:=hok.w;omega) hend.out (K9 hi hu.out hI aC) _ _ _ _ _ ho.out hra.out).mono ?_);rintro e w1 ⟨Je,rfl,hJ⟩;replace hI:=Re hi hu.out hI jR hJ hok2;clear hJ);go_ret;rw[hF2.out];exact⟨_,rfl,hI⟩
   |some S=>
    have hF2:Hid (jK C i=(zu C i S,0)):=HD (by rw[hF.out,gT,ho0];dsimp only;rw[Rj]);obtain⟨k1,k2,k3,k4,k5⟩:=mq _ _ _ Rj;have hSD:Hid (S.D=D'∧S.cnt=cnt∧S.used=used):=HD ⟨k1,k2,k3⟩;have U1:Hid (S.aX=[]):=HD k4;have hlk:Cm S.D S.cnt S.used:=by rw[k1,k2,k3];exact aia
    have ho:=HD ho0;have hu:=HD hu0;have hra:=HD Rj;clear hF ho0 hu0 WE hE Rj aia k1 k2 k3 k4 k5 hok2;go_enter func45,ntmps45;go_wp2_with(first|with_reducible refine av (fw hI RF aC aQ.out hcm) ?_|with_reducible refine av (fw hI RF aC aQ.out hcd) ?_|go_at_call 37;(with_reducible refine(Gp _ i (X.d i) (X.mr i) _ _ C.B hok.ok (by have:=hok.w;omega) hend.out (K9 hi hu.out hI aC) _ _ _ _ _ ho.out _ hra.out hSD.out).mono ?_);rintro e w1 ⟨Je,b,l,rfl,hJ⟩;replace hI:=ah_ hi hu.out U1.out hlk hI hJ;clear hJ|(refine aR (b:=X.cb) (off:=6+i) (e:=86) (cs:=bC X Y C) (vs:=[.pointer (some ⟨b,0,none⟩)]) (n:=1) (m':=[blk X.cb 86 (splice (bC X Y C) (6+i) [.pointer (some ⟨b,0,none⟩)]),dm X (Jg Y i b l Je) (zu C i S) i,gY ((List.range 5).erase i) (dm X Y C),kX X Y.q C.B,gY (List.range 5) (fH Y C)]) hI rfl rfl jR Ri rfl (by show 6+i+1<=16;omega) (by intro u hu;rw[List.mem_singleton.1 hu];rfl) ?_);intro w hI;rw[WC X Y C hi b l Je S]at hI);go_ret;rw[hF2.out];exact⟨_,rfl,aev hi hI⟩
 ·have hcm:(bC X Y C)[6+i]? =some (.pointer (some ⟨(Y.m i).b,0,none⟩)):=by rw[<-rC (Y:=Y) hu0];exact tF _ _ _ _ hi
  have hF:Hid (jK C i=(C,5)):=HD (by rw[jK,if_pos hu0]);clear hE hu0;go_enter func45,ntmps45;go_wp2_with(with_reducible refine av (fw hI RF aC aQ.out hcm) ?_);go_ret;rw[hF.out];exact⟨Y,rfl,hI⟩
end
end
section
open A (QE kE bU)
def alQ:List Value:=qw (.pointer none) (λ_=> .pointer none) (λ_=> .pointer none) (λ_=> .slice none 0 0)
theorem aif:(prog.info? 86).map (·.zero)=some (some (.agg alQ.toArray)):=by kernel_rfl
theorem akh:JK prog 86:=⟨_,underlying86,by kernel_rfl⟩
theorem aki:GU prog 86 0 0 1:=⟨_,underlying86,by kernel_rfl⟩
theorem alR{ops Q a rest w dst ty pos af x p}(h0:a.eval x=.pointer (some ⟨p,0,none⟩))(k:wpList prog ops Q rest (a.put dst (.agg (qw (.pointer (some ⟨p,0,none⟩)) (λ_=> .pointer none) (λ_=> .pointer none) (λ_=> .slice none 0 0)).toArray)) w):wpList prog ops Q (⟨dst,.build 86 #[(0,x)],ty,pos,af,none⟩::rest) a w:=
 jO (ps:=[(0,x)]) (n:=16) [(0,[.pointer (some ⟨p,0,none⟩)])] aif rfl (by rfl) akh ⟨by rw[h0];rfl,aki,Nat.le_of_ble_eq_true rfl,trivial⟩ k
theorem aih:(prog.info? 81).map (·.size)=some 1:=by kernel_rfl
def lT(p:Nat)(X:CX)(Y:CY)(k j:Nat):List Value:=qw (.pointer (some ⟨p,0,none⟩)) (λi=>if i<k then .pointer (some ⟨X.d i,0,none⟩)else .pointer none) (λi=>if i<j then .pointer (some ⟨(Y.m i).b,0,none⟩)else .pointer none) (λ_=> .slice none 0 0)
def C0:CS:=⟨λ_=>true,λ_=>r_ (cZ iP).1 0 0 (λ_=>[]),λ_=>[],λ_=>[]⟩
def wu(X:CX)(k d mr:Nat):CX:={X with d:=gV X.d k d,mr:=gV X.mr k mr}
def Da(Y:CY)(k b l:Nat)(wb:Option Nat):CY:={Y with m:=gV Y.m k ⟨b,l,0,0,none,wb,none,0⟩}
theorem abj(p X Y){k}(hk:k<5)(d mr):splice (lT p X Y k k) (1+k) [.pointer (some ⟨d,0,none⟩)]=lT p (wu X k d mr) Y (k+1) k:=by
 unfold lT;rw[We _ _ _ _ _ hk];refine lS (λj _=>?_) (λ_ _=>rfl) (λ_ _=>rfl);by_cases h:j=k
 ·simp_all[bE,wu]
 ·rw[bI _ _ h]
  by_cases h2:j<k
  ·rw[if_pos h2,if_pos OM];simp[wu,bI _ _ h]
  grind
theorem abk(p X Y){k}(hk:k<5)(b l wb):splice (lT p X Y (k+1) k) (6+k) [.pointer (some ⟨b,0,none⟩)]=lT p X (Da Y k b l wb) (k+1) (k+1):=by
 unfold lT;rw[BJ _ _ _ _ _ hk];refine lS (λ_ _=>rfl) (λj _=>?_) (λ_ _=>rfl);by_cases h:j=k
 ·simp_all[bE,Da]
 ·rw[bI _ _ h]
  by_cases h2:j<k
  ·rw[if_pos h2,if_pos OM];simp[Da,bI _ _ h]
  grind
theorem Ou(X Y){k j}(h:j≠k)(d mr b l wb):dm (wu X k d mr) (Da Y k b l wb) C0 j=dm X Y C0 j:=by
 simp_all[dm,NU,TK,wu,Da,bI]
theorem Ov(X Y k d mr b l wb):dm (wu X k d mr) (Da Y k b l wb) C0 k=two (rb k b l 0 none 0 (r_ (cZ iP).1 0 0 (λ_=>[]))) (two (nT none 0 []) (two (nZ (Cm (cZ iP).1 0 0)) (lg l d mr wb (cZ iP).1 0 0))):=by
 unfold dm NU;simp only[wu,Da,bE];rfl
theorem Rp(X Y)(hp:∀j,(Y.m j).pa=none∧(Y.m j).pc=0):lT X.p X Y 5 5=bC X Y C0:=by
 refine lS (λj hj=>by rw[if_pos hj];rfl) (λj hj=>by simp_all[AQ.eq_1,C0]) (λj _=>by rw[Jb,(hp j).1,(hp j).2];rfl)
theorem abl{w0 w X Y}(hp:∀j,(Y.m j).pa=none∧(Y.m j).pc=0)(h:Inv [] w0 w [blk X.cb 86 (lT X.p X Y 5 5),kX X (λ_=>[]) (λ_=>[]),gY (List.range 5) (dm X Y C0)]):Inv [] w0 w [bF X {Y with q:=λ_=>[]} C0]:=by
 rw[Rp X Y hp]at h;refine rX ?_;have e:∀j,fH {Y with q:=λ_=>[]} C0 j=nT none 0 []:=λj=>by
  unfold fH;rw[show(({Y with q:=λ_=>[]}:CY).m j).pa=none from(hp j).1,show(({Y with q:=λ_=>[]}:CY).m j).pc=0 from(hp j).2];rfl
 refine h.turn (λhs r hr=>?_) ?_
 ·simp only[List.mem_cons,List.not_mem_nil,or_false]at hr
  rcases hr with rfl|rfl|rfl|rfl
  ·simp_all[gY,dm]
  ·exact hs (kX X (λ_=>[]) (λ_=>[])) SI
  ·exact hs (blk X.cb 86 (bC X Y C0)) SI
  ·intro j _
   rw[e];exact⟨λr hr=>(by cases hr),by simp[yt],.inl ⟨rfl,rfl⟩⟩
 ·have e2:(gY (List.range 5) (fH {Y with q:=λ_=>[]} C0)).own=[]:=by
   show owned ((List.range 5).map (fH {Y with q:=λ_=>[]} C0))=[];rw[List.map_congr_left (λj _=>e j)];rfl
  rw[List.perm_iff_count];intro x;simp only[owned,List.flatMap_cons,List.count_append,e2,List.count_nil,List.flatMap_nil];show List.count x (gY (List.range 5) (dm X Y C0)).own+(List.count x (kX X (λ_=>[]) (λ_=>[])).own+(List.count x (blk X.cb 86 (bC X Y C0)).own+(0+0)))=_;omega
theorem Rq{P T w0 w m a dst x}{t ty off b:Nat}{e cs pos af v}(hI:Inv T w0 w m)(hx:a.eval x=.pointer (some ⟨b,off,none⟩))(hm:blk b e cs∈m)(hT:iY P t)(hv:cs[off]? =some v):
  gu P ⟨dst,.load t x,ty,pos,af,none⟩ a w v:=by
 unfold gu execOp;simp only[hx,Instr.loadAt,Instr.sureAddr,Sem.run_bind,Sem.run_pure,Result.andThen_ok,ik (v:=v) hT (hI.blk hm) off hv]
theorem Inv.three{T w0 w a b c}(h:Inv T w0 w [a,b,c]):Inv T w0 w [two a (two b c)]:=((Inv.toEnd h).eX.jS).eX
theorem aii:iP.waits.length<=50000:=by simp[iP]
theorem aij:dz (r_ (cZ iP).1 0 0 (λ_=>[])) []=some (r_ (cZ iP).1 0 0 (λ_=>[])):=rfl
theorem akj:(r_ (cZ iP).1 0 0 (λ_=>[])).D=(cZ iP).1∧(r_ (cZ iP).1 0 0 (λ_=>[])).cnt=0∧(r_ (cZ iP).1 0 0 (λ_=>[])).used=0:=⟨rfl,rfl,rfl⟩
theorem WH(p X Y){k}(hk:k<5)(d mr):(lT p (wu X k d mr) Y (k+1) k)[1+k]? =some (.pointer (some ⟨d,0,none⟩)):=by
 simp_all[lT,zt,wu,bE]
theorem abm:Cm (cZ iP).1 0 0:=⟨EF Ub,Nat.le_refl _,by omega,by simp[cZ,iP],.inr rfl⟩
theorem abn{w0 w X Y k d mr b l wb B}(h:Inv [] w0 w [two (two (rb k b l 0 none 0 (r_ (cZ iP).1 0 0 (λ_=>[]))) (nZ True)) (two (fB d mr wb (r_ (cZ iP).1 0 0 (λ_=>[])).D) (blk l 185 (lcs d (r_ (cZ iP).1 0 0 (λ_=>[])).cnt (r_ (cZ iP).1 0 0 (λ_=>[])).used))),B,kX X (λ_=>[]) (λ_=>[]),gY (List.range k) (dm X Y C0)]):
  Inv [] w0 w [B,kX (wu X k d mr) (λ_=>[]) (λ_=>[]),gY (List.range (k+1)) (dm (wu X k d mr) (Da Y k b l wb) C0)]:=by
 have h1:Inv [] w0 w [dm (wu X k d mr) (Da Y k b l wb) C0 k,B,kX (wu X k d mr) (λ_=>[]) (λ_=>[]),gY (List.range k) (dm X Y C0)]:=by
  rw[Ov];exact h.turn (λhs r hr=>by
   obtain⟨⟨g1,_⟩,g2,g3⟩:=hs (two (two (rb k b l 0 none 0 (r_ (cZ iP).1 0 0 (λ_=>[]))) (nZ True)) (two (fB d mr wb (r_ (cZ iP).1 0 0 (λ_=>[])).D) (blk l 185 (lcs d (r_ (cZ iP).1 0 0 (λ_=>[])).cnt (r_ (cZ iP).1 0 0 (λ_=>[])).used)))) SI;rcases List.mem_cons.1 hr with rfl|hr
   ·exact⟨g1,⟨λr hr=>(by cases hr),by simp[yt],.inl ⟨rfl,rfl⟩⟩,abm,g3,g2⟩
   ·exact hs r (List.mem_cons_of_mem _ hr)) (by
   rw[List.perm_iff_count];simp only[owned,List.flatMap_cons,List.count_append,two,nZ,lg,bD,Value.ownBlock,List.flatMap_nil,List.count_nil,Option.toList,wu];rw[show(r_ (cZ iP).1 0 0 (λ_=>[])).D=(cZ iP).1 from rfl,show(r_ (cZ iP).1 0 0 (λ_=>[])).cnt=0 from rfl,show(r_ (cZ iP).1 0 0 (λ_=>[])).used=0 from rfl];omega)
 rw[List.range_succ];exact h1.more SI rfl (λj hj=>Ou X Y (by grind) d mr b l wb) (.there (.there .here))
theorem Uc(w0):Calls prog 18 #[] w0 λe w'=>∃X Y,e=.returned (.pointer (some ⟨X.cb,0,none⟩))∧Inv [] w0 w' [bF X Y C0]:=by
 have hI:=Inv.start w0;go_enter func18,ntmps18;go_wp2_with(first|go_at_call 35;(with_reducible refine(A.adh _).mono ?_);rintro e w1 ⟨p,pb,c,rfl,hJ⟩;replace hI:=hI.seq hJ;simp only[List.cons_append,List.nil_append]at hI;clear hJ|with_reducible refine alR (p:=p) RF ?_|(with_reducible refine bX (cs:=qw (.pointer (some ⟨p,0,none⟩)) (λ_=> .pointer none) (λ_=> .pointer none) (λ_=> .slice none 0 0)) hI RF ?_);intro cb w hI);have hst:Inv [] w0 w [blk cb 86 (lT p ⟨cb,p,pb,c,λ_=>0,λ_=>0⟩ ⟨λ_=>⟨0,0,0,0,none,none,none,0⟩,λ_=>[]⟩ 0 0),kX ⟨cb,p,pb,c,λ_=>0,λ_=>0⟩ (λ_=>[]) (λ_=>[]),gY (List.range 0) (dm ⟨cb,p,pb,c,λ_=>0,λ_=>0⟩ ⟨λ_=>⟨0,0,0,0,none,none,none,0⟩,λ_=>[]⟩ C0)]:=by
  have h1:=((hI.jS).nZ (p:=∀i:Nat,((λ_=>[]) i:List QE).map (λx=>x.2.2)=(λ_=>[]) i) (λ_=>rfl)).eX;exact Inv.jS ((h1.afW (dm ⟨cb,p,pb,c,λ_=>0,λ_=>0⟩ ⟨λ_=>⟨0,0,0,0,none,none,none,0⟩,λ_=>[]⟩ C0)).toEnd)
 clear hI
 go_loopg [2,6] 5 (λkk s2 s6 wr=>∃(k:Nat) (X:CX) (Y:CY),kk=5-k∧k<=5∧s6=.int .i64 (k:Int)∧Hid (X.cb=cb∧X.p=p∧∀j,(Y.m j).pa=none∧(Y.m j).pc=0)∧Inv [] w0 wr [blk cb 86 (lT p X Y k k),kX X (λ_=>[]) (λ_=>[]),gY (List.range k) (dm X Y C0)])
 case atStart=>exact⟨0,_,_,rfl,by omega,rfl,HD ⟨rfl,rfl,λ_=>⟨rfl,rfl⟩⟩,hst⟩
 case round=>
  clear hst;obtain⟨k,X,Y,rfl,hk,rfl,hX,hI⟩:=hrel;by_cases h5:k=5
  ·subst h5
   go_wp2_with(fail);go_ret;obtain⟨e1,e2,e3⟩:=hX.out;rw[<-e1,<-e2]at hI;exact⟨X,_,by rw[e1];rfl,abl e3 hI⟩
  ·have hk5:k<5:=by omega
   have hd:decide ((k:Int) <5)=true:=by simp;omega
   go_upto_region 5 with(fail)
   (refine ZR [2,5,6] [0,1,3,4] [2] [0,1,3,4,2,5,6] (λw=>Inv [] w0 w [blk cb 86 (lT p X Y k k),kX X (λ_=>[]) (λ_=>[]),gY (List.range k) (dm X Y C0)]) hI ?_;intro wd hI)
   (repeat(first|refine ZS ?_|refine ZQ ?_;go_wp2_with(first|(refine aR (b:=cb) (off:=1+k) (e:=86) (cs:=lT p X Y k k) (vs:=[.pointer (some ⟨d,0,none⟩)]) (n:=1) (m':=[fB d mr none iP,blk cb 86 (splice (lT p X Y k k) (1+k) [.pointer (some ⟨d,0,none⟩)]),kX X (λ_=>[]) (λ_=>[]),gY (List.range k) (dm X Y C0)]) hI rfl rfl (.there .here) aih rfl (by show 1+k+1<=16;omega) (by intro u hu;rw[List.mem_singleton.1 hu];rfl) ?_);intro w hI|go_at_call 36;refine KO hI (Mh _) ?_;intro d mr w1 hI);refine ZP ?_))
   rw[abj p X Y hk5 d mr]at hI;have hld:=WH p X Y hk5 d mr;go_upto_region 6 with(fail)
   (refine ZR [9,16] [0,1,12,13,14] [9,16] [0,1,2,3,4,5,6,7,8,13,14,9,10,11,12,15,16] (λw=>Inv [] w0 w [kX X (λ_=>[]) (λ_=>[]),gY (List.range k) (dm X Y C0)]) hI ?_;intro wd hI)
   (repeat(first|refine ZS ?_|refine ZQ ?_;go_wp2_with(first|go_at_call 37;(with_reducible refine(Gp _ k d mr none iP (λ_=>[]) Ub aii alP (hI.at_ aC) [] 0 0 (cZ iP).1 0 akg (r_ (cZ iP).1 0 0 (λ_=>[])) aij akj).mono ?_);rintro e w1 ⟨Je,b,l,rfl,hJ⟩;replace hI:=hI.on (Inv.three hJ) jR;clear hJ|(refine aR (b:=cb) (off:=6+k) (e:=86) (cs:=lT p (wu X k d mr) Y (k+1) k) (vs:=[.pointer (some ⟨b,0,none⟩)]) (n:=1) (m':=[two (two (rb k b l 0 none 0 (r_ (cZ iP).1 0 0 (λ_=>[]))) (nZ True)) (two (fB d mr Je (r_ (cZ iP).1 0 0 (λ_=>[])).D) (blk l 185 (lcs d (r_ (cZ iP).1 0 0 (λ_=>[])).cnt (r_ (cZ iP).1 0 0 (λ_=>[])).used))),blk cb 86 (splice (lT p (wu X k d mr) Y (k+1) k) (6+k) [.pointer (some ⟨b,0,none⟩)]),kX X (λ_=>[]) (λ_=>[]),gY (List.range k) (dm X Y C0)]) hI rfl rfl (.there .here) Ri rfl (by show 6+k+1<=16;omega) (by intro u hu;rw[List.mem_singleton.1 hu];rfl) ?_);intro w hI|with_reducible refine av (Rq (b:=cb) (off:=1+k) hI RF aM aQ.out hld) ?_);refine ZP ?_))
   rw[abk p (wu X k d mr) Y hk5 b l Je]at hI;go_wp2_with(fail);go_roundg (5- (k+1))
   case measure=>omega
   case rel=>exact⟨k+1,wu X k d mr,Da Y k b l Je,rfl,by omega,rfl,HD ⟨hX.out.1,hX.out.2.1,λj=>by
    by_cases h:j=k
    ·subst h;simp[Da,bE]
    ·simpa[Da,bI _ _ h]using hX.out.2.2 j⟩,abn hI⟩
end
def sF(s:ByteArray):List UInt8:=s.data.toList
theorem OB(s):Lib.strCells s=(sF s).map bv:=rfl
theorem qU(s):(sF s).length=s.size:=by simp_all[sF.eq_1]
section
variable {P:Program}
theorem Gt{w t tx e}(hT:wy P t e 1 1 (.int .u8 0))(hu:P.underlying tx=some .string)(ty){a0 n c0 xs}(hown:w.ownsRow 0 e 1 (.slice a0 n c0) n (xs.map bv))(s)(h0:0<s.size)(hb:n+s.size<=140737488355328):
  ∃a' c' w',(Builtin.append_ #[t,tx] ty #[.slice a0 n c0,.string s]).run P w=.ok (.slice a' (n+s.size) c') w'∧w'.ownsRow 0 e 1 (.slice a' (n+s.size) c') (n+s.size) ((xs++sF s).map bv)∧
   Step (Value.ownBlock (.slice a0 n c0)).toList w w'∧(∀k,(Value.ownBlock (.slice a' (n+s.size) c'))=some k->(Value.ownBlock (.slice a0 n c0))=some k∨(w.heap.size<=k∧k<w'.heap.size)):=by
 obtain⟨i,hi,hz,hs1,hb1⟩:=hT.info;have ht:=hT.und;have hxl:(xs.map bv).length=n:=by simpa using hown.1
 have hlen:((xs++sF s).map bv).length=(n+s.size)*1:=by simp_all[qU]
 have hsm:((n+s.size:Nat):Int)<=9223372036854775807:=by omega
 have Dj:n+s.size<=maxLen:=by simp only[maxLen];omega
 have hsrc:Src P i.size tx (.string s) s.size (byteCells s) w:=by grind[Go.Src.ofString]
 have grown:∀(old:Nat),old<n+s.size->∀(row:List Nat),
   (w.drew.alloc (.cells ((xs.map bv++byteCells s).toArray++Builtin.zeroCells (Value.cells (.int .u8 0)) (grownCap w (n+s.size) old e- (n+s.size))) e)).ownsRow 0 e 1
    (.slice (some ⟨w.heap.size,0,none⟩) (n+s.size) (grownCap w (n+s.size) old e)) (n+s.size) ((xs++sF s).map bv)∧
   Step row w (w.drew.alloc (.cells ((xs.map bv++byteCells s).toArray++Builtin.zeroCells (Value.cells (.int .u8 0)) (grownCap w (n+s.size) old e- (n+s.size))) e)):=by
  intro old ho row;have hge:=grownCap_ge w (n+s.size) old e;have hcm:grownCap w (n+s.size) old e<=maxLen:=grownCap_le_maxLen w (n+s.size) old e Dj;have hbc:byteCells s=(sF s).map bv:=rfl;refine⟨⟨hlen,.inr ⟨w.heap.size,_,_,rfl,Nat.zero_le _,heap_alloc_new w.drew _,hge,hcm,?_,?_⟩⟩,⟨rfl,rfl,rfl,by simp,λk hk _=>_root_.Go.heap_alloc_old w.drew _ hk⟩⟩
  ·simp only[Array.size_append,List.size_toArray,size_zeroCells,List.length_append,hxl,byteCells_length]
   show _+_*1=_;omega
  grind
 have grow:c0<n+s.size->(Builtin.firstCells i.size n (.slice a0 n c0)).run P w.drew=.ok (xs.map bv).toArray w.drew->∃a' c' w',(Builtin.append_ #[t,tx] ty #[.slice a0 n c0,.string s]).run P w=.ok (.slice a' (n+s.size) c') w'∧w'.ownsRow 0 e 1 (.slice a' (n+s.size) c') (n+s.size) ((xs++sF s).map bv)∧
   Step (Value.ownBlock (.slice a0 n c0)).toList w w'∧(∀k,(Value.ownBlock (.slice a' (n+s.size) c'))=some k->(Value.ownBlock (.slice a0 n c0))=some k∨(w.heap.size<=k∧k<w'.heap.size)):=by
  intro hg hold;have hrr:=run_append_grow_src (P:=P) w t tx ty e i (.int .u8 0) ht hi hz a0 n c0 (xs.map bv) hold (.string s) s.size (byteCells s) hsrc hg hsm (by rw[hb1];exact growslice_fits OM OM);have hgr:=grown c0 OM (Value.ownBlock (.slice a0 n c0)).toList;exact⟨_,_,_,hrr,hgr.1,hgr.2,λk hk=> .inr (by
   have hk:w.heap.size=k:=by simpa[Value.ownBlock]using hk
   simp_all)⟩
 rcases hown.2 with⟨hv,rfl⟩ | ⟨g,cap,cur,hv,hbg,hg,hnc,hcm,hcs,htake⟩
 ·cases hv
  refine grow OM ?_;rw[hs1,List.eq_nil_of_length_eq_zero hxl];rfl
 ·cases hv
  by_cases hroom:n+s.size<=c0
  ·have hfit:n+s.size<=cur.size:=by omega
   have hrr:=Lib.run_append_room_string (P:=P) w t tx ty e i ht hu hi hs1 g n c0 cur hg s hroom hfit;refine⟨_,_,_,hrr,⟨hlen,.inr ⟨g,c0,_,rfl,hbg,setRow_heap w g cur _ e _ hg,hroom,hcm,?_,?_⟩⟩,⟨rfl,rfl,rfl,by simp,λk _ hk=>setRow_other w g k _ (λe=>hk (by simp[Value.ownBlock,e]))⟩,λk hk=> .inl (by simpa[Value.ownBlock]using hk)⟩
   ·grind[Go.Lib.strCells_length]
   ·simp only[List.map_append,<-OB]
    have h2:(xs.map bv++Lib.strCells s).length=(n+s.size)*1:=by simp_all[Go.Lib.strCells_length]
    grind
  ·refine grow OM ?_
   rw[hs1];exact run_firstCells_some w.drew 1 n ⟨g,0,none⟩ n c0 (xs.map bv) OM (λj u hj=>by simpa using hown.cells (g:=g) rfl j u hj)
variable {ops:Array Oper}{Q:Exit->Act->World->Prop}{a:Act}{rest:List Oper}{T:List Nat}{w0 w:World}{m:List bT}{dst:Option Tmp}{ty:TypeId}{pos:String}{af:Array Edge}
theorem AY{m':bT->List bT}{s x}{t tx e n c0:Nat}{a0 xs sb}(hI:Inv T w0 w m)(hs:a.eval s=.slice a0 n c0)(hx:a.eval x=.string sb)(hT:wy P t e 1 1 (.int .u8 0))(ht:P.underlying tx=some .string)(hu:∀r',aU (bD e 1 (.slice a0 n c0) n (xs.map bv)) r' m (m' r'))(h0:0<sb.size)(hb:n+sb.size<=140737488355328)(k:∀a' c' w',Inv T w0 w' (m' (bD e 1 (.slice a' (n+sb.size) c') (n+sb.size) ((xs++sF sb).map bv)))->wpList P ops Q rest (a.put dst (.slice a' (n+sb.size) c')) w'):
  wpList P ops Q (⟨dst,.call {callee:=.builtin .append,args:= #[s,x],argTypes:= #[t,tx]},ty,pos,af,none⟩::rest) a w:=
 wpList_plain rfl λK hK=>by
  have hown:w.ownsRow 0 e 1 (.slice a0 n c0) n (xs.map bv):=by
   obtain⟨m1,m2,rfl,_⟩:=(hu (bD e 1 (.slice a0 n c0) n (xs.map bv))).split;exact hI.sat (bD e 1 (.slice a0 n c0) n (xs.map bv)) SI
  obtain⟨a',c',w',hrun,ho,hst,hk⟩:=Gt (P:=P) hT ht ty hown sb h0 hb;unfold Oper.wp execOp;simp only[resolve,invoke,builtin,Sem.run_bind,Sem.run_pure,Result.andThen_ok,List.map_toArray,List.map_cons,List.map_nil,hs,hx,hrun];refine hK _ _ (k a' c' w' (hI.upd (hu _) hst ho (λj hj=>?_) ?_))
  all_goals grind[bD]
end
def tcs(tb cb:Nat)(u:Bool)(a:Option Addr)(n c:Nat):List Value:=[.pointer (some ⟨cb,0,none⟩),.pointer (if u=true then some ⟨tb,1,none⟩else none),.slice a n c]
abbrev yK(tb cb:Nat)(u:Bool)(a:Option Addr)(c:Nat)(bs:List UInt8):bT:=two (blk tb 70 (tcs tb cb u a bs.length c)) (bD 5 1 (.slice a bs.length c) bs.length (bs.map bv))
theorem ain:(prog.info? 68).map (·.size)=some 2:=by kernel_rfl
theorem aio:liesAt prog prog.depth 70 (3/prog.cellsOf 70) 1 68 1=true:=by kernel_rfl
theorem Rw:∃j,prog.info? 68=some j∧j.size=2:=by
 grind[Option.map_eq_some_iff,ain]
section
variable {ops:Array Oper}{Q:Exit->Act->World->Prop}{a:Act}{rest:List Oper}{T:List Nat}{w0 w:World}{m:List bT}{dst:Option Tmp}{ty:TypeId}{pos:String}{af:Array Edge}{x y:Operand}{tb:Nat}{cs:List Value}
theorem Uf(hI:Inv T w0 w m)(hm:blk tb 70 cs∈m)(hl:cs.length=3):w.shape? tb=some (70,3):=by
 have:=hI.blk hm;simp[World.shape?,this,hl]
theorem alT(hI:Inv T w0 w m)(hx:a.eval x=.pointer (some ⟨tb,1,none⟩))(hm:blk tb 70 cs∈m)(hl:cs.length=3)(k:wpList prog ops Q rest (a.put dst (.pointer (some ⟨tb,1,none⟩))) w):wpList prog ops Q (⟨dst,.convert 66 215 x,ty,pos,af,none⟩::rest) a w:=by
 obtain⟨j,hj,hjs⟩:=Rw;refine av (v:=.pointer (some ⟨tb,1,none⟩)) ?_ k;unfold gu execOp;simp only[hx,Lib.run_to_unsafe (P:=prog) w ⟨tb,1,none⟩ underlying66 underlying215 hj OM (Uf hI hm hl) (by grind),Sem.run_bind,Sem.run_pure,Result.andThen_ok]
theorem alU(hI:Inv T w0 w m)(hx:a.eval x=.pointer (some ⟨tb,1,none⟩))(hm:blk tb 70 cs∈m)(hl:cs.length=3)(k:wpList prog ops Q rest (a.put dst (.pointer (some ⟨tb,1,none⟩))) w):wpList prog ops Q (⟨dst,.convert 215 66 x,ty,pos,af,none⟩::rest) a w:=by
 obtain⟨j,hj,hjs⟩:=Rw;refine av (v:=.pointer (some ⟨tb,1,none⟩)) ?_ k;unfold gu execOp;simp only[hx,Lib.run_from_unsafe (P:=prog) w ⟨tb,1,none⟩ underlying215 underlying66 hj (Uf hI hm hl) aio,Sem.run_bind,Sem.run_pure,Result.andThen_ok]
theorem alV{v}(hx:a.eval x=v)(k:wpList prog ops Q rest (a.put dst v) w):wpList prog ops Q (⟨dst,.call {callee:=.value (.func 133),args:= #[x],argTypes:= #[215]},ty,pos,af,none⟩::rest) a w:=by
 refine av (v:=v) ?_ k;unfold gu execOp;have hr:=run_callFunc_extern func133 KF KF KF (e:=Extern.AbiNoEscape.same) KF #[v] w;rw[Lib.run_noEscape]at hr;simp only[resolve,Deferred.ofValue,Act.eval,Sem.run_bind,Sem.run_pure,Result.andThen_ok,invoke,List.map_toArray,List.map_cons,List.map_nil]at hx|-
 simp_all
theorem alW{ad}{t':Nat}(hx:a.eval x=.pointer (some ad))(hy:a.eval y=.pointer (some ad))(k:wpList prog ops Q rest (a.put dst (.bool false)) w):wpList prog ops Q (⟨dst,.binOp .neq 66 x y t',ty,pos,af,none⟩::rest) a w:=by
 obtain⟨j,hj,hjs⟩:=Rw;refine av (v:=.bool false) ?_ k;unfold gu execOp;have hr:=Lib.run_neq_ptr_same (P:=prog) (w:=w) ad underlying66 hj;simp only[hx,hy,hr,Sem.run_bind,Sem.run_pure,Result.andThen_ok]
 go_simp
end
section
variable (w0:World)(tb cb:Nat)(u:Bool)(a:Option Addr)(c:Nat)(bs:List UInt8)(hI:Inv (yK tb cb u a c bs).own w0 w0 [yK tb cb u a c bs])
include hI
theorem aeH:Calls prog 93 #[.pointer (some ⟨tb,1,none⟩)] w0 λe w'=>e=.returned (.tuple #[])∧Inv (yK tb cb u a c bs).own w0 w' [yK tb cb true a c bs]:=by
 replace hI:=hI.dR;cases u
 ·simp only[tcs,Bool.false_eq_true,if_false]at hI
  go_enter func93,ntmps93;go_wp2_with(first|with_reducible refine alT (tb:=tb) hI RF aC rfl (k:=?_)|with_reducible refine alU (tb:=tb) hI RF aC rfl (k:=?_)|with_reducible refine alV RF (k:=?_)|refine YL ?_|refine YT ?_;intro w hI;(try simp only[QS]at hI));exact⟨rfl,_,h_ KF _ _,rfl,hI.eX⟩
 ·simp only[tcs,if_true]at hI
  go_enter func93,ntmps93;go_wp2_with(first|with_reducible refine alW RF RF (k:=?_)|refine YL ?_);exact⟨rfl,_,h_ KF _ _,rfl,hI.eX⟩
theorem Ld(s)(h0:0<s.size)(hb:bs.length+s.size<=140737488355328):Calls prog 58 #[.pointer (some ⟨tb,1,none⟩),.string s] w0 λe w'=>∃a' c',e=.returned (.tuple #[.int .i64 s.size,.nilIface])∧Inv (yK tb cb u a c bs).own w0 w' [yK tb cb true a' c' (bs++sF s)]:=by
 replace hI:=hI.dR;go_enter func58,ntmps58;go_upto_region 2 with(go_at_call 93;replace hI:=hI.eX;(with_reducible refine(aeH _ tb cb u a c bs (hI.at_ aC)).mono ?_);rintro e w1 ⟨rfl,hJ⟩;replace hI:=(hI.on hJ jR).dR;clear hJ)
 simp only[tcs,if_true]at hI;go_wp2_with(first|(with_reducible refine AY (xs:=bs) hI RF RF (uQ.out (t:=63)) underlying9 (by intro r';exact aU.there aU.here) h0 hb ?_;intro a' c' w hI)|refine YL ?_|refine YT ?_;intro w hI;(try simp only[QS]at hI));refine bodyPost_ret (results_tmp2 (fn:=f58) rfl _ _ _) rfl ?_;refine⟨a',c',rfl,Inv.eX (x:=blk tb 70 (tcs tb cb true a' (bs++sF s).length c')) (r:=bD 5 1 (.slice a' (bs++sF s).length c') (bs++sF s).length ((bs++sF s).map bv)) ?_⟩;rw[List.length_append,qU];exact hI
end
theorem OC(w g n):Step [g] w (w.freeze ⟨g,0,none⟩ n):=by
 unfold World.freeze
 split
 ·exact .refl _ _
 ·exact⟨rfl,rfl,rfl,by simp,λk hk hn=>by
   grind⟩
theorem cells5:prog.cellsOf 5=1:=by kernel_rfl
section
variable {ops:Array Oper}{Q:Exit->Act->World->Prop}{a:Act}{rest:List Oper}{T:List Nat}{w0 w:World}{m m':List bT}{dst:Option Tmp}{ty:TypeId}{pos:String}{af:Array Edge}{x y:Operand}
theorem alX{g n c}(hx:a.eval x=.slice (some ⟨g,0,none⟩) n c)(hc:c≠0)(k:wpList prog ops Q rest (a.put dst (.pointer (some ⟨g,0,none⟩))) w):wpList prog ops Q (⟨dst,.call {callee:=.builtin .unsafeSliceData,args:= #[x],argTypes:= #[63]},ty,pos,af,none⟩::rest) a w:=by
 refine av (v:=.pointer (some ⟨g,0,none⟩)) ?_ k;unfold gu execOp;simp only[resolve,invoke,builtin,Sem.run_bind,Sem.run_pure,Result.andThen_ok,List.map_toArray,List.map_cons,List.map_nil,hx,Lib.run_unsafeSliceData_row (P:=prog) (w:=w) _ _ _ _ _ hc]
theorem alY{g c l}(hI:Inv T w0 w m)(hx:a.eval x=.pointer (some ⟨g,0,none⟩))(hy:a.eval y=.int .i64 (l.length:Int))(hl:l≠[])(hu:aU (bD 5 1 (.slice (some ⟨g,0,none⟩) l.length c) l.length (l.map bv)) sQ m m')(k:∀w',Inv T w0 w' m'->wpList prog ops Q rest (a.put dst (.string ⟨l.toArray⟩)) w'):wpList prog ops Q (⟨dst,.call {callee:=.builtin .unsafeString,args:= #[x,y],argTypes:= #[125,3]},9,pos,af,none⟩::rest) a w:=
 wpList_plain rfl λK hK=>by
  have hown:w.ownsRow 0 5 1 (.slice (some ⟨g,0,none⟩) l.length c) l.length (l.map bv):=by
   obtain⟨m1,m2,rfl,_⟩:=hu.split;exact hI.sat (bD 5 1 (.slice (some ⟨g,0,none⟩) l.length c) l.length (l.map bv)) SI
  rcases hown.2 with⟨hv,_⟩ | ⟨g',cap,cur,hv,hbg,hg,hnc,hcm,hcs,htake⟩
  ·cases hv
  ·cases hv
   have hr:=Lib.run_unsafeString_row (P:=prog) w 125 3 9 5 underlying125 cells5 g cur.size (by simp[World.shape?,hg]) l hl OM (by unfold maxLen at hcm;omega) (λj x hj=>by
    have:=hown.cells (g:=g) rfl j (bv x) (by simp[hj]);exact this)
   unfold Oper.wp execOp;simp only[resolve,invoke,builtin,Sem.run_bind,Sem.run_pure,Result.andThen_ok,List.map_toArray,List.map_cons,List.map_nil,hx,hy,hr];refine hK _ _ (k _ (hI.upd hu ((OC w g l.length).mono λk hk=>by simpa[bD,Value.ownBlock]using hk) trivial (λk hk=>by cases hk) List.nodup_nil))
end
section
variable (w0:World)(tb cb:Nat)(u:Bool)(a:Option Addr)(c:Nat)(bs:List UInt8)(hI:Inv (yK tb cb u a c bs).own w0 w0 [yK tb cb u a c bs])(hne:bs≠[])
include hI hne
theorem abA:Calls prog 30 #[.pointer (some ⟨tb,1,none⟩)] w0 λe w'=>e=.returned (.string ⟨bs.toArray⟩)∧Inv (yK tb cb u a c bs).own w0 w' [sQ]:=by
 replace hI:=hI.dR;have hl0:bs.length≠0:=by simpa using hne
 obtain⟨g,rfl⟩:∃g,a=some ⟨g,0,none⟩:=by
  have hs:=hI.sat _ aM;rcases hs.2 with⟨_,hz⟩ | ⟨g,cap,cur,hv,_⟩
  ·exact absurd hz hl0
  ·cases hv;exact⟨g,rfl⟩
 have hc0:c≠0:=by
  have hs:=hI.sat _ aM;rcases hs.2 with⟨_,hz⟩ | ⟨g,cap,cur,hv,_,_,h,_⟩
  ·exact absurd hz hl0
  ·cases hv;omega
 simp only[tcs]at hI;obtain⟨pq,hpq⟩:=EZ (if u=true then some (⟨tb,1,none⟩:Addr)else none);rw[<-hpq]at hI;clear hpq;go_enter func30,ntmps30;go_upto_region 1 with(fail)
 (refine ZR [4,10,11] [5,6,7,8,9] [4] [0,1,2,3,5,6,7,8,9,4,10,11] (λw=>Inv (yK tb cb u (some ⟨g,0,none⟩) c bs).own w0 w [blk tb 70 [.pointer (some ⟨cb,0,none⟩),.pointer pq,.slice (some ⟨g,0,none⟩) bs.length c]]) hI ?_;intro wd hI)
 (repeat(first|refine ZS ?_|refine ZQ ?_;go_wp2_with(first|(with_reducible refine alY (l:=bs) hI RF RF hne jo (k:=?_);intro w hI)|with_reducible refine alX RF hc0 (k:=?_)|refine YL ?_);refine ZP ?_))
 exact W55
end
