/- Contracts of functions. No condition. -/
import Derived.Test.YtdakkaapokhnnaaGreatDoorZ15
namespace Go.Proofs.YtdakkaapokhnnaaGreatDoor
open Go.RowKit Go.Proofs.Tryz
set_option maxRecDepth 100000
set_option maxHeartbeats 6400000
set_option linter.all false
section
open B (aI)
theorem jA{P T w0 w m}{fn:Func}{p u v}{t n b:Nat}{e zs tmps}(hI:Inv T w0 w m)(h:fn.results=#[.cell p t,.tmp u,.tmp v])(hp:tmps.getD p undef=.pointer (some ⟨b,0,none⟩))(hm:ib b e zs∈m)(hT:gm P t n)(hl:zs.length=n):(results fn tmps).run P w=.ok (.tuple #[ia zs,tmps.getD u undef,tmps.getD v undef]) w:=by
 have hl2:(zs.map (Value.int .i64)).length=n:=by grind
 have hp':tmps[p]?.getD undef=.pointer (some ⟨b,0,none⟩):=by simp_all
 have:=iT hT (hI.blk hm) 0 OM;simp[results,h,hp',asAddr,this,Sem.run_bind,ia]
 grind
theorem ak1{P a w dst ty pos af}{t n:Nat}[hz:yn P t n][hK:Lu P t]:gu P ⟨dst,.build t #[],ty,pos,af,none⟩ a w (ia (au n)):=by
 unfold gu execOp;simp only[Array.map_empty,Sem.run_bind,uY hz.out (LJ (au n)) hK.out,Result.andThen_ok];rfl
section
variable {P:Program}{ops:Array Oper}{Q:Exit->Act->World->Prop}{a:Act}{rest:List Oper}{T:List Nat}{w0 w:World}{m:List bT}{dst:Option Tmp}{ty:TypeId}{pos:String}{af:Array Edge}
theorem Xw{x}{t f b l vb rc:Nat}{ra S Z v}(hI:Inv T w0 w m)(hx:a.eval x=.pointer (some ⟨b,1938,none⟩):=by exact RF)(hm:two (rb f b l vb ra rc S) Z∈m:=by exact MM)[hT:aQ P t](hb:S.busy=v)
  (k:wpList P ops Q rest (a.put dst (.bool v)) w):wpList P ops Q (⟨dst,.load t x,ty,pos,af,none⟩::rest) a w:=by
 subst hb;exact av (LX hI hx hm) k
end
theorem alG{T w0 w a b e1 e2 z1 z2 m}(_:Inv T w0 w (ib a e1 z1::ib b e2 z2::m)):∃a' b',a'=a∧b'=b:=by grind
theorem NZ{T w0 w a b c e1 e2 e3 z1 z2 z3 m}(_:Inv T w0 w (ib a e1 z1::ib b e2 z2::ib c e3 z3::m)):∃a' b' c',a'=a∧b'=b∧c'=c:=by grind
section
variable {T:List Nat}{w0 w:World}{m m':List bT}{f b l vb rc:Nat}{ra:Option Addr}{S:RS}{Z:bT}
theorem ad7(hI:Inv T w0 w m)(hm:two (rb f b l vb ra rc S) Z∈m)(hk:Hid (C.Bk S.book))(key){r}(hr:Hid (C.zH S.book key 5=r)):Calls prog 29 #[.pointer (some ⟨b,1068,none⟩),.int .i64 key] w λe w'=>e=.returned (.int .i64 r)∧Inv T w0 w' m:=by
 grind[Go.RowKit.Hid.out,adA]
theorem L6(hI:Inv T w0 w m)(hm:two (rb f b l vb ra rc S) Z∈m)(hk:Hid (C.Bk S.book))(who key){r}(hr:Hid (C.lh S.book who key=r)):Calls prog 107 #[.pointer (some ⟨b,1068,none⟩),.int .i64 who,.int .i64 key] w λe w'=>e=.returned (.int .i64 r)∧Inv T w0 w' m:=by
 grind[Go.RowKit.Hid.out,ZO]
end
theorem TL(w0 x key n)(hx:x.length=174)(hw:Hid (C.wW x))(g ge)(hr:Hid (C.lq x (1+key.toNat*7) key n=(g,ge))):
  Calls prog 104 #[ia x,.int .i64 key,.int .i64 n] w0 λe w'=>e=.returned (.tuple #[ia g,.int .i64 ge])∧Below w0.heap.size w0 w':=by
 grind[C.ajC,Go.RowKit.Hid.out]
theorem KS(w0 x key n)(hx:x.length=174)(hw:Hid (C.wW x))(g ge)(hr:Hid (C.lq x (1+key.toNat*7+1) key n=(g,ge))):
  Calls prog 105 #[ia x,.int .i64 key,.int .i64 n] w0 λe w'=>e=.returned (.tuple #[ia g,.int .i64 ge])∧Below w0.heap.size w0 w':=by
 grind[C.ajD,Go.RowKit.Hid.out]
theorem Gb(w0 x key n tt)(hx:x.length=174)(hw:Hid (C.wW x))(g ge)(hr:Hid (C.mI x key n tt=(g,ge))):
  Calls prog 106 #[ia x,.int .i64 key,.int .i64 n,.int .i64 tt] w0 λe w'=>e=.returned (.tuple #[ia g,.int .i64 ge])∧Below w0.heap.size w0 w':=by
 grind[C.agK,Go.RowKit.Hid.out]
section
variable (w0:World)(X:RX)(Y:RY)(S:RS)
def jJ(z:List Int)(p:List Int×Int×Int):Prop:=Calls prog 68 #[.pointer (some ⟨X.b,0,none⟩),ia z] w0 λe w'=>e=.returned (.tuple #[ia p.1,.int .i64 p.2.1,.int .i64 p.2.2])∧Inv (aj X Y S).own w0 w' [aj X Y S]
variable (z:List Int)(hz:z.length=11)(hI:Inv (aj X Y S).own w0 w0 [aj X Y S])
include hz hI
theorem aaJ(hm0:aI S.view (X.f:Int)=false):jJ w0 X Y S z (au 174,0,9):=by
 have hvl:=(aS hI aC).view;have hn:=ag 174;have hmb:Hid (aI S.view (X.f:Int)=false):=HD hm0;clear hm0;unfold jJ;go_enter func68,ntmps68;go_upto_region 1 with(refine YX ?_;intro bx w hI)
 refine ZT [8,9] 10 hI ?_;intro wd hI
 (repeat(refine ZQ ?_;go_wp2_with(first|go_at_call 14;refine KD hI (b_ _ _ X.f hvl _ hmb) ?_;intro w1 hI|refine YL ?_);refine ZP ?_))
 go_wp2_with(first|refine YS ?_;intro w hI|refine YL ?_);exact W95
theorem aaK(key)(h3:gi z 3=key)(hm0:aI S.view (X.f:Int)=true)(hk:key<0∨4<=key):jJ w0 X Y S z (au 174,0,5):=by
 have hvl:=(aS hI aC).view;have hn:=ag 174;have hmb:Hid (aI S.view (X.f:Int)=true):=HD hm0;clear hm0;unfold jJ;cases hk1:decide (key<0)
 ·have hk2:decide (4<=key)=true:=by simp at hk1|-;omega
  clear hk;exact W17
 ·clear hk
  exact W17
theorem Wl(key)(h3:gi z 3=key)(hm0:aI S.view (X.f:Int)=true)(hk1:decide (key<0)=false)(hk2:decide (4<=key)=false)(h0:gi z 0=3)(hbk:Hid (C.Bk S.book)):jJ w0 X Y S z (au 174,C.zH S.book key 5,0):=by
 have hvl:=(aS hI aC).view;have hn:=ag 174;have hmb:Hid (aI S.view (X.f:Int)=true):=HD hm0;clear hm0;unfold jJ;obtain⟨va,hval0⟩:=EQ (C.zH S.book key 5);have hval:=HD hval0;rw[hval0];clear hval0;go_enter func68,ntmps68;go_upto_region 1 with(refine YX ?_;intro bx w hI)
 refine ZT [8,9] 10 hI ?_;intro wd hI
 (repeat(refine ZQ ?_;go_wp2_with(first|go_at_call 14;refine KD hI (b_ _ _ X.f hvl _ hmb) ?_;intro w1 hI|refine YL ?_);refine ZP ?_))
 obtain⟨b1,b2,e1,e2⟩:=alG hI;subst e1 e2;go_upto_region 6 with(refine YL ?_)
 (refine ZR [6,7,8,9] [0] [6] [0,1,2,3,4,5,6,7,8,9] (λw=>Inv (aj X Y S).own w0 w [ib b1 41 (au 174),ib b2 50 z,aj X Y S]) hI ?_;intro wd hI)
 (repeat(first|refine ZS ?_|refine ZQ ?_;go_wp2_with(first|refine YS ?_;intro w hI|go_at_call 29;refine KE (ad7 hI a_ hbk _ hval) ?_;intro w1 hI|refine YL ?_);refine ZP ?_))
 go_wp2_with(fail);exact W95
theorem Wm(key)(h3:gi z 3=key)(hm0:aI S.view (X.f:Int)=true)(hk1:decide (key<0)=false)(hk2:decide (4<=key)=false)(h0:(gi z 0==3)=false)(hb:S.busy=true):jJ w0 X Y S z (au 174,0,8):=by
 have hvl:=(aS hI aC).view;have hn:=ag 174;have hmb:Hid (aI S.view (X.f:Int)=true):=HD hm0;clear hm0;unfold jJ;exact W17
theorem Wn(key)(h3:gi z 3=key)(hm0:aI S.view (X.f:Int)=true)(hk1:decide (key<0)=false)(hk2:decide (4<=key)=false)(h0:(gi z 0==3)=false)(h00:(gi z 0==0)=false)(h01:(gi z 0==1)=false)(h02:(gi z 0==2)=false)(hb:S.busy=false):jJ w0 X Y S z (au 174,0,5):=by
 have hvl:=(aS hI aC).view;have hn:=ag 174;have hmb:Hid (aI S.view (X.f:Int)=true):=HD hm0;clear hm0;unfold jJ;go_enter func68,ntmps68;go_upto_region 1 with(refine YX ?_;intro bx w hI)
 refine ZT [8,9] 10 hI ?_;intro wd hI
 (repeat(refine ZQ ?_;go_wp2_with(first|go_at_call 14;refine KD hI (b_ _ _ X.f hvl _ hmb) ?_;intro w1 hI|refine YL ?_);refine ZP ?_))
 go_wp2_with(first|refine YL ?_|refine YS ?_;intro w hI|refine YX ?_;intro bx w hI);exact bodyPost_ret (jA hI rfl rfl aM (bP.out (t:=41)) hn) rfl ⟨rfl,hI.sub SB⟩
end
end
section
open B (aI)
section
variable (w0:World)(X:RX)(Y:RY)(S:RS)
variable (z:List Int)(hz:z.length=11)(hI:Inv (aj X Y S).own w0 w0 [aj X Y S])
include hz hI
theorem Oc(key)(h3:gi z 3=key)(hm0:aI S.view (X.f:Int)=true)(hk1:decide (key<0)=false)(hk2:decide (4<=key)=false)(n)(h4:gi z 4=n)(h0:gi z 0=1)(hb:S.busy=false)(hok:Hid (C.wW S.own))(g ge)(hg:Hid (C.lq S.own (1+key.toNat*7+1) key n=(g,ge)))(hge:ge≠0):jJ w0 X Y S z (au 174,0,ge):=by
 have hvl:=(aS hI aC).view;have hn:=ag 174;have hmb:Hid (aI S.view (X.f:Int)=true):=HD hm0;clear hm0;unfold jJ;have hown:=(aS hI aC).own;have hgl:g.length=174:=(by have:=C.uG S.own (1+key.toNat*7+1) key n hown;rw[hg.out]at this;exact this);have hq:(ge != 0)=true:=by simpa using hge
 go_enter func68,ntmps68;go_upto_region 1 with(refine YX ?_;intro bx w hI)
 refine ZT [8,9] 10 hI ?_;intro wd hI
 (repeat(refine ZQ ?_;go_wp2_with(first|go_at_call 14;refine KD hI (b_ _ _ X.f hvl _ hmb) ?_;intro w1 hI|refine YL ?_);refine ZP ?_))
 go_upto_region 15 with(first|refine YL ?_|refine YX ?_;intro bx w hI)
 obtain⟨b1,b2,b3,e1,e2,e3⟩:=NZ hI;subst e1 e2 e3
 (refine ZR [8,9,12,13] [11] [12] [0,1,2,3,4,5,6,7,8,9,10,11,12,13] (λw=>Inv (aj X Y S).own w0 w [ib b2 41 (au 174),ib b3 50 z,aj X Y S]) hI ?_;intro wd hI)
 (repeat(first|refine ZS ?_|refine ZQ ?_;go_wp2_with(first|go_at_call 105;refine KD hI (KS _ _ _ _ hown hok _ _ hg) ?_;intro w1 hI|refine YS ?_;intro w hI|refine YL ?_);refine ZP ?_))
 exact W18
theorem Gg(key)(h3:gi z 3=key)(hm0:aI S.view (X.f:Int)=true)(hk1:decide (key<0)=false)(hk2:decide (4<=key)=false)(n)(h4:gi z 4=n)(h0:gi z 0=1)(hb:S.busy=false)(hok:Hid (C.wW S.own))(g)(hg:Hid (C.lq S.own (1+key.toNat*7+1) key n=(g,0)))(hbk:Hid (C.Bk S.book))(rg)(XH:Hid (C.lh S.book (X.f:Int) key=rg))(hrn:decide (rg<n)=true):jJ w0 X Y S z (au 174,0,7):=by
 have hvl:=(aS hI aC).view;have hn:=ag 174;have hmb:Hid (aI S.view (X.f:Int)=true):=HD hm0;clear hm0;unfold jJ;have hown:=(aS hI aC).own;have hgl:g.length=174:=(by have:=C.uG S.own (1+key.toNat*7+1) key n hown;rw[hg.out]at this;exact this);go_enter func68,ntmps68;go_upto_region 1 with(refine YX ?_;intro bx w hI)
 refine ZT [8,9] 10 hI ?_;intro wd hI
 (repeat(refine ZQ ?_;go_wp2_with(first|go_at_call 14;refine KD hI (b_ _ _ X.f hvl _ hmb) ?_;intro w1 hI|refine YL ?_);refine ZP ?_))
 go_upto_region 15 with(first|refine YL ?_|refine YX ?_;intro bx w hI)
 obtain⟨b1,b2,b3,e1,e2,e3⟩:=NZ hI;subst e1 e2 e3
 (refine ZR [8,9,12,13] [11] [12] [0,1,2,3,4,5,6,7,8,9,10,11,12,13] (λw=>Inv (aj X Y S).own w0 w [ib b2 41 (au 174),ib b3 50 z,aj X Y S]) hI ?_;intro wd hI)
 (repeat(first|refine ZS ?_|refine ZQ ?_;go_wp2_with(first|go_at_call 105;refine KD hI (KS _ _ _ _ hown hok _ _ hg) ?_;intro w1 hI|refine YS ?_;intro w hI|refine YL ?_);refine ZP ?_))
 exact W37
theorem K3(key)(h3:gi z 3=key)(hm0:aI S.view (X.f:Int)=true)(hk1:decide (key<0)=false)(hk2:decide (4<=key)=false)(n)(h4:gi z 4=n)(h0:gi z 0=1)(hb:S.busy=false)(hok:Hid (C.wW S.own))(g)(hg:Hid (C.lq S.own (1+key.toNat*7+1) key n=(g,0)))(hbk:Hid (C.Bk S.book))(rg)(XH:Hid (C.lh S.book (X.f:Int) key=rg))(hrn:decide (rg<n)=false):jJ w0 X Y S z (g,0,0):=by
 have hvl:=(aS hI aC).view;have hn:=ag 174;have hmb:Hid (aI S.view (X.f:Int)=true):=HD hm0;clear hm0;unfold jJ;have hown:=(aS hI aC).own;have hgl:g.length=174:=(by have:=C.uG S.own (1+key.toNat*7+1) key n hown;rw[hg.out]at this;exact this);go_enter func68,ntmps68;go_upto_region 1 with(refine YX ?_;intro bx w hI)
 refine ZT [8,9] 10 hI ?_;intro wd hI
 (repeat(refine ZQ ?_;go_wp2_with(first|go_at_call 14;refine KD hI (b_ _ _ X.f hvl _ hmb) ?_;intro w1 hI|refine YL ?_);refine ZP ?_))
 go_upto_region 15 with(first|refine YL ?_|refine YX ?_;intro bx w hI)
 obtain⟨b1,b2,b3,e1,e2,e3⟩:=NZ hI;subst e1 e2 e3
 (refine ZR [8,9,12,13] [11] [12] [0,1,2,3,4,5,6,7,8,9,10,11,12,13] (λw=>Inv (aj X Y S).own w0 w [ib b2 41 (au 174),ib b3 50 z,aj X Y S]) hI ?_;intro wd hI)
 (repeat(first|refine ZS ?_|refine ZQ ?_;go_wp2_with(first|go_at_call 105;refine KD hI (KS _ _ _ _ hown hok _ _ hg) ?_;intro w1 hI|refine YS ?_;intro w hI|refine YL ?_);refine ZP ?_))
 exact W30
end
end
