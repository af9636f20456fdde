/- Contracts of functions. No condition. -/
import Derived.Test.YtdakkaapokhnnaaGreatDoorZ13
namespace Go.Proofs.YtdakkaapokhnnaaGreatDoor
open Go.RowKit Go.Proofs.Tryz
set_option maxRecDepth 100000
set_option maxHeartbeats 6400000
set_option linter.all false
section
open B (aI)
theorem iY{P:Program}{T:List Nat}{w0 w:World}{m:List aG}{fn:Func}{p u v:Tmp}{t n b:Nat}{e:TypeId}{zs:List Int}{tmps:Array Value}(hI:Inv T w0 w m)(h:fn.results=#[.cell p t,.tmp u,.tmp v])(hp:tmps.getD p undef=.pointer (some ⟨b,0,none⟩))
  (hm:ib b e zs∈m) (hT:fw P t n) (hl:zs.length=n):(results fn tmps).run P w=.ok (.tuple #[ia zs,tmps.getD u undef,tmps.getD v undef]) w:=by
 have hl2:(zs.map (Value.int .i64)).length=n:=by simpa using hl
 have hp':tmps[p]?.getD undef=.pointer (some ⟨b,0,none⟩):=by simpa using hp
 have:=g_ hT (hI.blk hm) 0 OM;subst hl2;simp[results,h,hp',asAddr,this,Sem.run_bind,ia];exact List.take_of_length_le SI
theorem ahK{P:Program}{a:Act}{w:World}{dst:Option Tmp}{ty:TypeId}{pos:String}{af:Array Edge}{t n:Nat}[hz:wW P t n][hK:IZ P t]:fP P ⟨dst,.build t #[],ty,pos,af,none⟩ a w (ia (aj n)):=by
 unfold fP execOp;simp only[Array.map_empty,Sem.run_bind,tT hz.out (Jc (aj n)) hK.out,Result.andThen_ok];rfl
section
variable {P:Program}{ops:Array Oper}{Q:Exit->Act->World->Prop}{a:Act}{rest:List Oper}{T:List Nat}{w0 w:World}{m:List aG}{dst:Option Tmp}{ty:TypeId}{pos:String}{af:Array Edge}
theorem T9{x:Operand}{t f b l vb rc:Nat}{ra:Option Addr}{S:RS}{Z:aG}{v:Bool}(hI:Inv T w0 w m)(hx:a.eval x=.pointer (some ⟨b,1938,none⟩):=by exact RF)(hm:two (rb f b l vb ra rc S) Z∈m:=by exact MM)[hT:aO P t](hb:S.busy=v)
  (k:wpList P ops Q rest (a.put dst (.bool v)) w):wpList P ops Q (⟨dst,.load t x,ty,pos,af,none⟩::rest) a w:=by
 subst hb;exact au (Jh hI hx hm) k
end
theorem aiE{T:List Nat}{w0 w:World}{a b:Nat}{e1 e2:TypeId}{z1 z2:List Int}{m:List aG}(_:Inv T w0 w (ib a e1 z1::ib b e2 z2::m)):∃a' b',a'=a∧b'=b:=⟨a,b,rfl,rfl⟩
theorem Lp{T:List Nat}{w0 w:World}{a b c:Nat}{e1 e2 e3:TypeId}{z1 z2 z3:List Int}{m:List aG}(_:Inv T w0 w (ib a e1 z1::ib b e2 z2::ib c e3 z3::m)):∃a' b' c',a'=a∧b'=b∧c'=c:=⟨a,b,c,rfl,rfl,rfl⟩
section
variable {T:List Nat}{w0 w:World}{m m':List aG}{f b l vb rc:Nat}{ra:Option Addr}{S:RS}{Z:aG}
theorem aa_(hI:Inv T w0 w m)(hm:two (rb f b l vb ra rc S) Z∈m)(hk:Hid (C.Bk S.book))(key:Int){r:Int}(hr:Hid (C.xV S.book key 5=r)):Calls prog 29 #[.pointer (some ⟨b,1068,none⟩),.int .i64 key] w λe w'=>e=.returned (.int .i64 r)∧Inv T w0 w' m:=by
 rw[<-hr.out];exact aar hI hm hk.out key
theorem Jk(hI:Inv T w0 w m)(hm:two (rb f b l vb ra rc S) Z∈m)(hk:Hid (C.Bk S.book))(who key:Int){r:Int}(hr:Hid (C.kE S.book who key=r)):Calls prog 107 #[.pointer (some ⟨b,1068,none⟩),.int .i64 who,.int .i64 key] w λe w'=>e=.returned (.int .i64 r)∧Inv T w0 w' m:=by
 rw[<-hr.out];exact V3 hI hm hk.out who key
end
theorem Qg(w0:World)(x:List Int)(key n:Int)(hx:x.length=174)(hw:Hid (C.vG x))(g:List Int)(ge:Int)(hr:Hid (C.jK x (1+key.toNat*7) key n=(g,ge))):
  Calls prog 104 #[ia x,.int .i64 key,.int .i64 n] w0 λe w'=>e=.returned (.tuple #[ia g,.int .i64 ge])∧Below w0.heap.size w0 w':=by
 have h:=C.agl w0 x key n hx hw.out;rw[hr.out]at h;exact h
theorem IB(w0:World)(x:List Int)(key n:Int)(hx:x.length=174)(hw:Hid (C.vG x))(g:List Int)(ge:Int)(hr:Hid (C.jK x (1+key.toNat*7+1) key n=(g,ge))):
  Calls prog 105 #[ia x,.int .i64 key,.int .i64 n] w0 λe w'=>e=.returned (.tuple #[ia g,.int .i64 ge])∧Below w0.heap.size w0 w':=by
 have h:=C.agm w0 x key n hx hw.out;rw[hr.out]at h;exact h
theorem Ex(w0:World)(x:List Int)(key n tt:Int)(hx:x.length=174)(hw:Hid (C.vG x))(g:List Int)(ge:Int)(hr:Hid (C.kD x key n tt=(g,ge))):
  Calls prog 106 #[ia x,.int .i64 key,.int .i64 n,.int .i64 tt] w0 λe w'=>e=.returned (.tuple #[ia g,.int .i64 ge])∧Below w0.heap.size w0 w':=by
 have h:=C.adx w0 x key n tt hx hw.out;rw[hr.out]at h;exact h
section
variable (w0:World)(X:RX)(Y:RY)(S:RS)
def jf(z:List Int)(p:List Int×Int×Int):Prop:=Calls prog 68 #[.pointer (some ⟨X.b,0,none⟩),ia z] w0 λe w'=>e=.returned (.tuple #[ia p.1,.int .i64 p.2.1,.int .i64 p.2.2])∧Inv (ah X Y S).own w0 w' [ah X Y S]
variable (z:List Int)(hz:z.length=11)(hI:Inv (ah X Y S).own w0 w0 [ah X Y S])
include hz hI
theorem XA(hm0:aI S.view (X.f:Int)=false):jf w0 X Y S z (aj 174,0,9):=by
 have hvl:=(aQ hI aA).view;have hn:=aa 174;have hmb:Hid (aI S.view (X.f:Int)=false):=HD hm0;clear hm0;unfold jf;go_enter func68,ntmps68;go_upto_region 1 with(refine YX ?_;intro bx w hI)
 refine ZT [8,9] 10 hI ?_;intro wd hI
 (repeat(refine ZQ ?_;go_wp2_with(first|go_at_call 14;refine KD hI (bP _ _ X.f hvl _ hmb) ?_;intro w1 hI|refine YL ?_);refine ZP ?_))
 go_wp2_with(first|refine YS ?_;intro w hI|refine YL ?_);exact W99
theorem XB(key:Int)(h3:gi z 3=key)(hm0:aI S.view (X.f:Int)=true)(hk:key<0∨4<=key):jf w0 X Y S z (aj 174,0,5):=by
 have hvl:=(aQ hI aA).view;have hn:=aa 174;have hmb:Hid (aI S.view (X.f:Int)=true):=HD hm0;clear hm0;unfold jf;cases hk1:decide (key<0)
 ·have hk2:decide (4<=key)=true:=by simp at hk1|-;omega
  clear hk;exact W17
 ·clear hk
  exact W17
theorem Ta(key:Int)(h3:gi z 3=key)(hm0:aI S.view (X.f:Int)=true)(hk1:decide (key<0)=false)(hk2:decide (4<=key)=false)(h0:gi z 0=3)(hbk:Hid (C.Bk S.book)):jf w0 X Y S z (aj 174,C.xV S.book key 5,0):=by
 have hvl:=(aQ hI aA).view;have hn:=aa 174;have hmb:Hid (aI S.view (X.f:Int)=true):=HD hm0;clear hm0;unfold jf;obtain⟨va,hval0⟩:=EQ (C.xV S.book key 5);have hval:=HD hval0;rw[hval0];clear hval0;go_enter func68,ntmps68;go_upto_region 1 with(refine YX ?_;intro bx w hI)
 refine ZT [8,9] 10 hI ?_;intro wd hI
 (repeat(refine ZQ ?_;go_wp2_with(first|go_at_call 14;refine KD hI (bP _ _ X.f hvl _ hmb) ?_;intro w1 hI|refine YL ?_);refine ZP ?_))
 obtain⟨b1,b2,e1,e2⟩:=aiE hI;subst e1 e2;go_upto_region 6 with(refine YL ?_)
 (refine ZR [6,7,8,9] [0] [6] [0,1,2,3,4,5,6,7,8,9] (λw=>Inv (ah X Y S).own w0 w [ib b1 41 (aj 174),ib b2 50 z,ah X Y S]) hI ?_;intro wd hI)
 (repeat(first|refine ZS ?_|refine ZQ ?_;go_wp2_with(first|refine YS ?_;intro w hI|go_at_call 29;refine KE (aa_ hI aX hbk _ hval) ?_;intro w1 hI|refine YL ?_);refine ZP ?_))
 go_wp2_with(fail);exact W99
theorem Tc(key:Int)(h3:gi z 3=key)(hm0:aI S.view (X.f:Int)=true)(hk1:decide (key<0)=false)(hk2:decide (4<=key)=false)(h0:(gi z 0==3)=false)(hb:S.busy=true):jf w0 X Y S z (aj 174,0,8):=by
 have hvl:=(aQ hI aA).view;have hn:=aa 174;have hmb:Hid (aI S.view (X.f:Int)=true):=HD hm0;clear hm0;unfold jf;exact W17
theorem Td(key:Int)(h3:gi z 3=key)(hm0:aI S.view (X.f:Int)=true)(hk1:decide (key<0)=false)(hk2:decide (4<=key)=false)(h0:(gi z 0==3)=false)(h00:(gi z 0==0)=false)(h01:(gi z 0==1)=false)(h02:(gi z 0==2)=false)(hb:S.busy=false):jf w0 X Y S z (aj 174,0,5):=by
 have hvl:=(aQ hI aA).view;have hn:=aa 174;have hmb:Hid (aI S.view (X.f:Int)=true):=HD hm0;clear hm0;unfold jf;go_enter func68,ntmps68;go_upto_region 1 with(refine YX ?_;intro bx w hI)
 refine ZT [8,9] 10 hI ?_;intro wd hI
 (repeat(refine ZQ ?_;go_wp2_with(first|go_at_call 14;refine KD hI (bP _ _ X.f hvl _ hmb) ?_;intro w1 hI|refine YL ?_);refine ZP ?_))
 go_wp2_with(first|refine YL ?_|refine YS ?_;intro w hI|refine YX ?_;intro bx w hI);exact bodyPost_ret (iY hI rfl rfl aM (bG.out (t:=41)) hn) rfl ⟨rfl,hI.sub SB⟩
end
end
section
open B (aI)
section
variable (w0:World)(X:RX)(Y:RY)(S:RS)
variable (z:List Int)(hz:z.length=11)(hI:Inv (ah X Y S).own w0 w0 [ah X Y S])
include hz hI
theorem Lv(key:Int)(h3:gi z 3=key)(hm0:aI S.view (X.f:Int)=true)(hk1:decide (key<0)=false)(hk2:decide (4<=key)=false)(n:Int)(h4:gi z 4=n)(h0:gi z 0=0)(hb:S.busy=false)(hok:Hid (C.vG S.own))(g:List Int)(ge:Int)(hg:Hid (C.jK S.own (1+key.toNat*7) key n=(g,ge)))(hge:ge≠0):jf w0 X Y S z (aj 174,0,ge):=by
 have hvl:=(aQ hI aA).view;have hn:=aa 174;have hmb:Hid (aI S.view (X.f:Int)=true):=HD hm0;clear hm0;unfold jf;have hown:=(aQ hI aA).own;have hgl:g.length=174:=(by have:=C.sV S.own (1+key.toNat*7) key n hown;rw[hg.out]at this;exact this);have hq:(ge != 0)=true:=by simpa using hge
 go_enter func68,ntmps68;go_upto_region 1 with(refine YX ?_;intro bx w hI)
 refine ZT [8,9] 10 hI ?_;intro wd hI
 (repeat(refine ZQ ?_;go_wp2_with(first|go_at_call 14;refine KD hI (bP _ _ X.f hvl _ hmb) ?_;intro w1 hI|refine YL ?_);refine ZP ?_))
 go_upto_region 13 with(first|refine YL ?_|refine YX ?_;intro bx w hI)
 obtain⟨b1,b2,b3,e1,e2,e3⟩:=Lp hI;subst e1 e2 e3
 (refine ZR [8,9,12,13] [11] [12] [0,1,2,3,4,5,6,7,8,9,10,11,12,13] (λw=>Inv (ah X Y S).own w0 w [ib b2 41 (aj 174),ib b3 50 z,ah X Y S]) hI ?_;intro wd hI)
 (repeat(first|refine ZS ?_|refine ZQ ?_;go_wp2_with(first|go_at_call 104;refine KD hI (Qg _ _ _ _ hown hok _ _ hg) ?_;intro w1 hI|refine YS ?_;intro w hI|refine YL ?_);refine ZP ?_))
 exact W18
theorem IK(key:Int)(h3:gi z 3=key)(hm0:aI S.view (X.f:Int)=true)(hk1:decide (key<0)=false)(hk2:decide (4<=key)=false)(n:Int)(h4:gi z 4=n)(h0:gi z 0=0)(hb:S.busy=false)(hok:Hid (C.vG S.own))(g:List Int)(hg:Hid (C.jK S.own (1+key.toNat*7) key n=(g,0))):jf w0 X Y S z (g,0,0):=by
 have hvl:=(aQ hI aA).view;have hn:=aa 174;have hmb:Hid (aI S.view (X.f:Int)=true):=HD hm0;clear hm0;unfold jf;have hown:=(aQ hI aA).own;have hgl:g.length=174:=(by have:=C.sV S.own (1+key.toNat*7) key n hown;rw[hg.out]at this;exact this);go_enter func68,ntmps68;go_upto_region 1 with(refine YX ?_;intro bx w hI)
 refine ZT [8,9] 10 hI ?_;intro wd hI
 (repeat(refine ZQ ?_;go_wp2_with(first|go_at_call 14;refine KD hI (bP _ _ X.f hvl _ hmb) ?_;intro w1 hI|refine YL ?_);refine ZP ?_))
 go_upto_region 13 with(first|refine YL ?_|refine YX ?_;intro bx w hI)
 obtain⟨b1,b2,b3,e1,e2,e3⟩:=Lp hI;subst e1 e2 e3
 (refine ZR [8,9,12,13] [11] [12] [0,1,2,3,4,5,6,7,8,9,10,11,12,13] (λw=>Inv (ah X Y S).own w0 w [ib b2 41 (aj 174),ib b3 50 z,ah X Y S]) hI ?_;intro wd hI)
 (repeat(first|refine ZS ?_|refine ZQ ?_;go_wp2_with(first|go_at_call 104;refine KD hI (Qg _ _ _ _ hown hok _ _ hg) ?_;intro w1 hI|refine YS ?_;intro w hI|refine YL ?_);refine ZP ?_))
 go_upto_region 21 with(fail)
 (refine ZR [0,1,2,3,13,16,17] [14,15] [13] [0,1,2,3,4,5,6,7,8,9,10,11,12,14,15,13,16,17] (λw=>Inv (ah X Y S).own w0 w [ib b1 41 g,ib b2 41 (aj 174),ib b3 50 z,ah X Y S]) hI ?_;intro wd hI)
 (repeat(first|refine ZS ?_|refine ZQ ?_;go_wp2_with(refine YL ?_);refine ZP ?_))
 go_wp2_with(first|refine YL ?_|refine YS ?_;intro w hI);exact bodyPost_ret (iY hI rfl rfl aM (bG.out (t:=41)) hgl) rfl ⟨rfl,hI.sub SB⟩
end
end
