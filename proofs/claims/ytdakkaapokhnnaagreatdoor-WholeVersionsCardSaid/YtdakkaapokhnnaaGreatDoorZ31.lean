/- Contracts of functions. No condition. -/
import Derived.Test.YtdakkaapokhnnaaGreatDoorZ29
import Derived.Test.YtdakkaapokhnnaaGreatDoorZ30
namespace Go.Proofs.YtdakkaapokhnnaaGreatDoor
open Go.RowKit Go.Proofs.Tryz
set_option maxRecDepth 100000
set_option maxHeartbeats 6400000
set_option linter.all false
section
open A (QE kE bU)
abbrev oC(cb t:Nat):Value:=.iface 105 (.agg #[.pointer (some ⟨cb,0,none⟩),.int .i64 (t:Int)])
section
variable (w0:World)(X:CX)(Y:CY)(C:CS)(i:Nat)(hi:i<5)(hu:C.up i=true)(hI:Inv (bF X Y C).own w0 w0 [bF X Y C])
include hi hu hI
theorem aen(k)(hk5:k<5)(XK:i≠k)(M)(hM:M.Len)(h64:M.V64)(hvw:Hid (eG (C.S i).view))(hrl:(C.S i).aX.length<=1000000000):
  Calls prog 77 #[.pointer (some ⟨(Y.m i).b,0,none⟩),oC X.cb i,.int .i64 (k:Int),ia M.nX] w0 λe w'=>∃Y',e=.returned (.tuple #[])∧Inv (bF X Y C).own w0 w' [bF X Y' (nC C i (kr i (rs C i) k M))]:=by
 have h:=F9 hi hu hI;refine(ah7 w0 (rx X Y C i) (ry Y i) (rs C i) (aaF X Y C hi) k hk5 XK M hM h64 hvw hrl (h.at_ aC)).mono ?_;exact W78
theorem UB(z)(hz:z.length=11)(hvw:Hid (eG (C.S i).view))(hrl:(C.S i).aX.length<=1000000000)(hok:Hid (Go.Proofs.YtdakkaapokhnnaaGreatDoor.C.wW (C.S i).own))(hbk:Hid (Go.Proofs.YtdakkaapokhnnaaGreatDoor.C.Bk (C.S i).book))(S' e')(hc:Hid (gG i (rs C i) (gi z 0) (gi z 2) (gi z 3) (gi z 4) (sub z 5 3)=(S',e'))):
  Calls prog 39 #[.pointer (some ⟨(Y.m i).b,0,none⟩),oC X.cb i,ia z] w0 λe w'=>∃Y',e=.returned (.int .i64 e')∧Inv (bF X Y C).own w0 w' [bF X Y' (nC C i S')]:=by
 have h:=F9 hi hu hI;have h2:=aaY w0 (rx X Y C i) (ry Y i) (rs C i) (aaF X Y C hi) z hz hvw hrl hok hbk (h.at_ aC);rw[show gG (rx X Y C i).f (rs C i) (gi z 0) (gi z 2) (gi z 3) (gi z 4) (sub z 5 3)=(S',e')from hc.out]at h2;refine h2.mono ?_;exact W78
theorem aeo(hvw:Hid (eG (C.S i).view))(hvl:(C.S i).view.length=7):
  Calls prog 41 #[.pointer (some ⟨(Y.m i).b,0,none⟩),oC X.cb i] w0 λe w'=>∃Y',e=.returned (.tuple #[])∧Inv (bF X Y C).own w0 w' [bF X Y' (nC C i (sV i (rs C i)))]:=by
 have h:=F9 hi hu hI;refine(ah4 w0 (rx X Y C i) (ry Y i) (rs C i) (aaF X Y C hi) hvw hvl (h.at_ aC)).mono ?_;exact W78
end
end
section
open A (QE kE bU jv)
def WW(B:Nat->List (List UInt8)):Prop:=∀i,(B i).length<=8∧∀b∈B i,b.length<=100000
section
variable (w0:World)(X:CX)(Y:CY)(C:CS)(z:List Int)(hz:z.length=11)(hI:Inv (bF X Y C).own w0 w0 [bF X Y C])
include hz hI
theorem aep(hno:Hid (¬(0<=gi z 1∧gi z 1<5∧0<=gi z 2∧gi z 2<5))):
  Calls prog 40 #[.pointer (some ⟨X.cb,0,none⟩),ia z] w0 λe w'=>e=.returned (.int .i64 5)∧Inv (bF X Y C).own w0 w' [bF X Y C]:=by
 go_enter func40,ntmps40;go_upto_region 1 with(refine YX ?_;intro bx w hI)
 refine ZT [8,9] 10 hI ?_;intro wd hI
 (repeat(refine ZQ ?_;go_wp2_with(first|go_at_call 71;refine KR (A.agA _ _ _ _ hno.out) ?_|refine YL ?_|with_reducible refine av (fw hI RF aM aQ.out (iL _ _ _)) ?_);refine ZP ?_))
 exact W55
variable (f t:Nat)(uR:f<5)(pX:t<5)(h1:gi z 1=(f:Int))(h2:gi z 2=(t:Int))
include uR pX h1 h2
theorem aa2(hft:f=t):
  Calls prog 40 #[.pointer (some ⟨X.cb,0,none⟩),ia z] w0 λe w'=>e=.returned (.int .i64 5)∧Inv (bF X Y C).own w0 w' [bF X Y C]:=by
 subst hft;have hcv:jv X.pb 25 (f*5+f)=.pointer none:=by unfold jv;rw[if_pos OM]
 obtain⟨t,ht⟩:=EZ f;rw[<-ht]at h2;have pX:t<5:=by omega
 have hcv:jv X.pb 25 (f*5+t)=.pointer none:=by rw[ht];exact hcv
 clear ht;go_enter func40,ntmps40;go_upto_region 1 with(refine YX ?_;intro bx w hI)
 refine ZT [8,9] 10 hI ?_;intro wd hI
 (repeat(refine ZQ ?_;go_wp2_with(first|go_at_call 71;refine KR (A.vz _ X.p X.pb f t uR pX (A.yE (dQ hI aM))) ?_;rw[hcv]|refine YL ?_|with_reducible refine av (fw hI RF aM aQ.out (iL _ _ _)) ?_);refine ZP ?_))
 exact W55
variable (hft:f≠t)
include hft
theorem Wz(hB:C.B (f*5+t)=[]):
  Calls prog 40 #[.pointer (some ⟨X.cb,0,none⟩),ia z] w0 λe w'=>e=.returned (.int .i64 10)∧Inv (bF X Y C).own w0 w' [bF X Y C]:=by
 have wz:f*5+t∈bU:=A.rJ OM OM;have hcv:jv X.pb 25 (f*5+t)=.pointer (some ⟨X.pb (f*5+t),0,none⟩):=A.nH X.pb wz;have hql:Hid ((Y.q (f*5+t)).length=0):=HD (by have:=congrArg List.length (xg hI aC (f*5+t));rw[List.length_map,hB]at this;exact this);clear hft hB;go_enter func40,ntmps40;go_upto_region 1 with(refine YX ?_;intro bx w hI)
 refine ZT [8,9] 10 hI ?_;intro wd hI
 (repeat(refine ZQ ?_;go_wp2_with(first|go_at_call 71;refine KR (A.vz _ X.p X.pb f t uR pX (A.yE (dQ hI aM))) ?_;rw[hcv]|refine YL ?_|with_reducible refine av (fw hI RF aM aQ.out (iL _ _ _)) ?_);refine ZP ?_))
 go_wp2_with(go_at_call 72;refine KR (A.YW _ X.p X.pb X.c _ wz ((dQ hI aM).sat _ aC)) ?_;rw[hql.out]);go_ret;exact⟨rfl,hI.tl⟩
theorem aeq(h7:gi z 0=7)(b0 bt)(hB:C.B (f*5+t)=b0::bt)(hN:WW C.B):
  Calls prog 40 #[.pointer (some ⟨X.cb,0,none⟩),ia z] w0 λe w'=>∃Y',e=.returned (.int .i64 (vJ C 7 f t (gi z 4)).2)∧Inv (bF X Y C).own w0 w' [bF X Y' (vJ C 7 f t (gi z 4)).1]:=by
 have wz:f*5+t∈bU:=A.rJ OM OM;have hcv:jv X.pb 25 (f*5+t)=.pointer (some ⟨X.pb (f*5+t),0,none⟩):=A.nH X.pb wz;have hN1:=(hN (f*5+t)).1;have hN2:=(hN (f*5+t)).2;rw[hB]at hN1 hN2;have hl0:=hN2 b0 SI;clear hN2 hN;have hmq:=xg hI aC (f*5+t);have hB0:=HD (xg hI aC);rw[hB]at hmq;obtain⟨n,hn⟩:=EQ bt.length;have Hg:(Y.q (f*5+t)).length=n+1:=by have:=congrArg List.length hmq;rw[List.length_map,List.length_cons,hn]at this;exact this
 obtain⟨q0,qt,K7⟩:∃q0 qt,Y.q (f*5+t)=q0::qt:=by
  cases hh:Y.q (f*5+t)with
  |nil=>rw[hh]at Hg;simp at Hg
  |cons a b=>exact⟨a,b,rfl⟩
 rw[K7,List.map_cons,List.cons.injEq]at hmq;have hql:Hid ((Y.q (f*5+t)).length=n+1):=HD Hg;have hm0:=HD hmq.1;have hmt:=HD hmq.2;rw[<-hmq.1]at hl0;replace hl0:=HD hl0;have hn8:n+1<=8:=by rw[List.length_cons,hn]at hN1;exact hN1
 by_cases h8:n+1=8
 ·have hq8:Hid ((Y.q (f*5+t)).length=8):=HD (by rw[Hg,h8])
  have hF:Hid (vJ C 7 f t (gi z 4)=(C,3)):=HD (by rw[vJ,hB];dsimp only;rw[if_pos rfl,hn,if_pos h8]);clear hft hB Hg K7 hmq hN1;go_enter func40,ntmps40;go_upto_region 1 with(refine YX ?_;intro bx w hI)
  refine ZT [8,9] 10 hI ?_;intro wd hI
  (repeat(refine ZQ ?_;go_wp2_with(first|go_at_call 71;refine KR (A.vz _ X.p X.pb f t uR pX (A.yE (dQ hI aM))) ?_;rw[hcv]|refine YL ?_|with_reducible refine av (fw hI RF aM aQ.out (iL _ _ _)) ?_);refine ZP ?_))
  go_wp2_with(first|refine YL ?_|go_at_call 72;refine KR (A.YW _ X.p X.pb X.c _ wz ((dQ hI aM).sat _ aC)) ?_;rw[hql.out]|go_at_call 73;refine KR (ad6 _ X.p X.pb X.c _ wz (dQ hI aM) hq8.out) ?_);go_ret;rw[hF.out];exact⟨Y,rfl,hI.tl⟩
 ·have hq8:Hid ((q0::qt).length <8):=HD (by rw[<-K7,Hg];omega)
  have hqe:=HD K7;have hF:Hid (vJ C 7 f t (gi z 4)=({C with B:=gV C.B (f*5+t) ((b0::bt)++[b0])},0)):=HD (by rw[vJ,hB];dsimp only;rw[if_pos rfl,hn,if_neg h8]);clear hft hB Hg K7 hmq hN1;go_enter func40,ntmps40;go_upto_region 1 with(refine YX ?_;intro bx w hI)
  refine ZT [8,9] 10 hI ?_;intro wd hI
  (repeat(refine ZQ ?_;go_wp2_with(first|go_at_call 71;refine KR (A.vz _ X.p X.pb f t uR pX (A.yE (dQ hI aM))) ?_;rw[hcv]|refine YL ?_|with_reducible refine av (fw hI RF aM aQ.out (iL _ _ _)) ?_);refine ZP ?_))
  go_wp2_with(first|refine YL ?_|go_at_call 72;refine KR (A.YW _ X.p X.pb X.c _ wz ((dQ hI aM).sat _ aC)) ?_;rw[hql.out]|go_at_call 73;(with_reducible refine(ahT _ X.p X.pb X.c _ wz (dQ hI aM) q0 qt hqe.out hq8.out hl0.out).mono ?_);rintro e w1 ⟨rfl,a1,c1,hJ⟩;replace hI:=Dn (B':=gV C.B (f*5+t) ((b0::bt)++[b0])) hI jo hJ (tq hB0.out _ _ _ (by simp only[List.map_append,List.map_cons,List.map_nil];rw[hm0.out,hmt.out]));clear hJ);go_ret;rw[hF.out];exact⟨_,rfl,hI.tl⟩
end
end
theorem wF{P o a w v v'}(h:v=v')(hy:gu P o a w v):gu P o a w v':=h▸hy
section
variable {a:Act}{w:World}{dst:Option Tmp}{ty:TypeId}{pos:String}{af:Array Edge}{x y:Operand}{cb i:Nat}
theorem D7(hx:a.eval x=.pointer (some ⟨cb,6,none⟩))(hy:a.eval y=.int .i64 (i:Int))(hi:i<5):gu prog ⟨dst,.indexAddr 77 x y,ty,pos,af,none⟩ a w (.pointer (some ⟨cb,6+i,none⟩)):=by
 unfold gu execOp;simp only[hx,hy]
 go_simp
 intro h;omega
end
section
open A (QE kE bU jv)
theorem aa3{a w dst pos af x y u v rn}(hx:a.eval x=.int .i64 u)(hy:a.eval y=.int .i64 v)(h:max u v=rn):
  gu prog ⟨dst,.call {callee:=.builtin .max,args:= #[x,y],argTypes:= #[3,3]},3,pos,af,none⟩ a w (.int .i64 rn):=by
 grind[TQ]
def TY{α:Type}(l:List α)(r:Nat):List α:=l.drop r++l.take r
theorem aer{α}(l:List α)(r):(TY l r).length=l.length:=by grind[TY]
theorem aa4{α}{l:List α}{r x y}(hr:r<l.length)(h:TY l r=x::y):TY l (r+1)=y++[x]:=by
 grind[TY,List.drop_eq_getElem_cons]
theorem aes{α}{l:List α}{r x}(h:x∈TY l r):x∈l:=by
 grind[TY]
theorem vK{α}(g:Nat->α)(i u v):gV (gV g i u) i v=gV g i v:=by
 grind[gV]
theorem aa5{α}(g:Nat->α)(i){u}(h:g i=u):gV g i u=g:=by
 grind[gV]
theorem TZ{v}(h:FP v):eG v:=h.2.2.1
theorem Ra{M:gQ}(h:M.Ok):M.Len∧M.V64:=by
 cases M with
 |row i r=>exact⟨⟨h.1,h.2.1⟩,trivial⟩
 |kept n=>exact⟨trivial,trivial⟩
 |news i r=>exact⟨⟨h.1,h.2.1⟩,trivial⟩
 |ask e b=>exact⟨h.2.1,trivial⟩
 |promise e b hh c=>exact⟨⟨h.2.1.1,h.2.2.1.1,h.2.2.2.1⟩,trivial⟩
 |put e b c=>exact⟨⟨h.2.1.1,h.2.2.1⟩,trivial⟩
 |taken e b=>exact⟨h.2.1,trivial⟩
 |view v=>exact⟨h.1,TZ h⟩
 |aZ i v=>exact⟨⟨h.1,h.2.1⟩,TZ h.2⟩
 |d_ i r=>exact⟨⟨h.1,h.2.1⟩,trivial⟩
section
variable (w0:World)(X:CX)(Y:CY)(C:CS)(z:List Int)(hz:z.length=11)(hI:Inv (bF X Y C).own w0 w0 [bF X Y C])
variable (f t:Nat)(uR:f<5)(pX:t<5)(h1:gi z 1=(f:Int))(h2:gi z 2=(t:Int))(hft:f≠t)
include hz hI uR pX h1 h2 hft
theorem ah8(h7:(gi z 0==7)=false)(b0 bt)(hB:C.B (f*5+t)=b0::bt)(hN:WW C.B)(hgood:C.up t=true->eG (C.S t).view∧(C.S t).aX.length<=1000000000):
  Calls prog 40 #[.pointer (some ⟨X.cb,0,none⟩),ia z] w0 λe w'=>∃Y',e=.returned (.int .i64 (vJ C (gi z 0) f t (gi z 4)).2)∧Inv (bF X Y C).own w0 w' [bF X Y' (vJ C (gi z 0) f t (gi z 4)).1]:=by
 have wz:f*5+t∈bU:=A.rJ OM OM;have hcv:jv X.pb 25 (f*5+t)=.pointer (some ⟨X.pb (f*5+t),0,none⟩):=A.nH X.pb wz;obtain⟨n,hn⟩:=EQ bt.length;have Hg:(Y.q (f*5+t)).length=n+1:=by have:=congrArg List.length (xg hI aC (f*5+t));rw[List.length_map,hB,List.length_cons,hn]at this;exact this
 have hql:Hid ((Y.q (f*5+t)).length=n+1):=HD Hg;have hn8:n+1<=8:=by have:=(hN (f*5+t)).1;rw[hB,List.length_cons,hn]at this;exact this
 obtain⟨v,hv0⟩:=EQ (max (gi z 4) 0);have hvn:0<=v:=by rw[<-hv0];omega
 have hmx:=HD hv0;clear hv0;obtain⟨W,hW⟩:=EH (vJ C (gi z 0) f t (gi z 4));rw[hW.out];go_enter func40,ntmps40;go_upto_region 1 with(refine YX ?_;intro bx w hI)
 refine ZT [8,9] 10 hI ?_;intro wd hI
 (repeat(refine ZQ ?_;go_wp2_with(first|go_at_call 71;refine KR (A.vz _ X.p X.pb f t uR pX (A.yE (dQ hI aM))) ?_;rw[hcv]|refine YL ?_|with_reducible refine av (fw hI RF aM aQ.out (iL _ _ _)) ?_);refine ZP ?_))
 go_upto_region 10 with(first|refine YL ?_|go_at_call 72;refine KR (A.YW _ X.p X.pb X.c _ wz ((dQ hI aM).sat _ aC)) ?_;rw[hql.out])
 (obtain⟨bz,hbx⟩:=EZ bx;subst hbx)
 (refine ZR [4] [0,1,2,6] [4] [0,1,2,3,6,4,5] (λw=>Inv (bF X Y C).own w0 w [ib bz 50 z,bF X Y C]) hI ?_;intro wd hI)
 (repeat(first| ((refine iA RF RF RF RF (hI.sub SB) (by intro w hI0;with_reducible exact aa3 RF RF hmx.out) ?_);(simp only[QN])) | (refine ZB ?_;go_wp2_with(go_at_call 72;refine KR (A.YW _ X.p X.pb X.c _ wz ((dQ hI aM).sat _ aC)) ?_;rw[hql.out]);(refine iU (hI.sub SB) ?_)) | (refine ZC ?_;go_wp2_with(fail);refine fZ ?_) | ((refine iA RF RF RF RF (hI.sub SB) (by intro w (hI:Inv _ _ w _);first|with_reducible exact LW hI| (unfold gu;go_simp;with_reducible rfl)) ?_);(simp only[QN]))));refine dN ?_
 go_wp2_with(fail);obtain⟨K,hK⟩:∃K:Nat,v% ((n:Int)+1)=(K:Int):=⟨(v% ((n:Int)+1)).toNat,by rw[Int.toNat_of_nonneg (Int.emod_nonneg _ OM)]⟩;have hKn:K<=n:=by have:=Int.emod_lt_of_pos v (show(0:Int) < (n:Int)+1 by omega);omega
 rw[hK];obtain⟨l,hl⟩:=EQ (b0::bt);have hll:l.length=n+1:=by rw[<-hl,List.length_cons,hn]
 have hlN:∀b∈l,b.length<=100000:=by rw[<-hl,<-hB];exact(hN (f*5+t)).2
 have hWF:∀x y,TY l K=x::y->Hid (W=pU {C with B:=gV C.B (f*5+t) y} (decide (gi z 0=6)) f t x):=λx y h=>HD (by
  rw[<-hW.out,vJ,hB];dsimp only;rw[if_neg (by simpa using h7),hn,hmx.out,hl,show((n+1:Nat):Int)=(n:Int)+1 from rfl,hK,Int.toNat_natCast];show(match TY l K with| []=>_|b::r=>_)=_;rw[h])
 have hst:Inv (bF X Y C).own w0 wd [ib bz 50 z,bF X Y {C with B:=gV C.B (f*5+t) (TY l 0)}]:=by
  rw[aa5 C.B (f*5+t) (by rw[hB,hl];simp[TY])];exact hI
 clear hI hl hB hql Hg hn hmx hK hW hN;replace hlN:=HD hlN;replace hft:=HD hft
 go_loopg [36] K (λkk s36 wr=>∃(r:Nat) (Yr:CY),kk=K-r∧r<=K∧s36=.int .i64 (r:Int)∧Inv (bF X Y C).own w0 wr [ib bz 50 z,bF X Yr {C with B:=gV C.B (f*5+t) (TY l r)}])
 case atStart=>exact⟨0,Y,rfl,by omega,rfl,hst⟩
 case round=>
  clear hst;obtain⟨r,Yr,rfl,hr,rfl,hI⟩:=hrel;have hBr:Hid (∀i,(Yr.q i).map (λx=>x.2.2)=gV C.B (f*5+t) (TY l r) i):=HD (xg hI aM);have hbj:(Yr.q (f*5+t)).map (λx=>x.2.2)=TY l r:=(hBr.out (f*5+t)).trans (bE _ _ _);have hlr:=aer l r;obtain⟨⟨a0,c0,bb⟩,qt,K7⟩:∃q0 qt,Yr.q (f*5+t)=q0::qt:=by
   cases hh:Yr.q (f*5+t)with
   |nil=>rw[hh]at hbj;rw[<-hbj]at hlr;simp at hlr;omega
   |cons a b=>exact⟨a,b,rfl⟩
  rw[K7,List.map_cons]at hbj;have hqe:=HD K7;have hlb:bb.length<=100000:=hlN.out bb (aes (by rw[<-hbj];simp));have hcap:qt.length<8:=by have:=congrArg List.length hbj;rw[List.length_cons,List.length_map,hlr,hll]at this;omega
  clear K7;by_cases hrK:r=K
  ·subst hrK
   have hd:decide ((r:Int) < (r:Int))=false:=by simp
   have hWr:=hWF bb (qt.map (λx=>x.2.2)) hbj.symm;clear hWF hlr hbj;obtain⟨op,C_⟩:=EQ (A.dJ (UInt8.ofNat f) (UInt8.ofNat t) bb);cases op with
   |none=>
    have hop:=HD C_;have hF:Hid (W=({C with B:=gV C.B (f*5+t) (qt.map (λx=>x.2.2))},0)):=HD (by rw[hWr.out,pU,C_]);clear C_ hWr;cases hk6:(gi z 0==6)
    ·go_upto_region 14 with(fail)
     refine ZT [8,9,13] 14 hI ?_;intro wd hI
     (repeat(refine ZQ ?_;go_wp2_with(first|go_at_call 75;(with_reducible refine(A.NY _ X.p X.pb X.c _ f t _ uR pX rfl hft.out (dQ hI aM) a0 c0 bb qt hqe.out hlb hop.out).mono ?_);rintro e w1 ⟨rfl,hJ⟩;replace hI:=Dn hI jo hJ (tq hBr.out _ _ _ rfl);clear hJ|refine YL ?_|with_reducible refine av (fw hI RF aM aQ.out (iL _ _ _)) ?_);refine ZP ?_))
     simp only[vK]at hI;go_wp2_with(refine YL ?_);go_ret;rw[hF.out];exact⟨_,rfl,hI.tl⟩
    ·go_upto_region 14 with(fail)
     refine ZT [8,9,13] 14 hI ?_;intro wd hI
     (repeat(refine ZQ ?_;go_wp2_with(first|go_at_call 75;(with_reducible refine(A.NY _ X.p X.pb X.c _ f t _ uR pX rfl hft.out (dQ hI aM) a0 c0 bb qt hqe.out hlb hop.out).mono ?_);rintro e w1 ⟨rfl,hJ⟩;replace hI:=Dn hI jo hJ (tq hBr.out _ _ _ rfl);clear hJ|refine YL ?_|with_reducible refine av (fw hI RF aM aQ.out (iL _ _ _)) ?_);refine ZP ?_))
     simp only[vK]at hI;go_wp2_with(refine YL ?_);go_ret;rw[hF.out];exact⟨_,rfl,hI.tl⟩
   |some bs=>
    have hop:=HD C_;obtain⟨ub,lX⟩:=EQ (nM C t);cases hk6:(gi z 0==6)
    ·have aa6:decide (gi z 0=6)=false:=by simpa using hk6
     cases ub
     ·have hF:Hid (W=({C with B:=gV C.B (f*5+t) (qt.map (λx=>x.2.2))},0)):=HD (by rw[hWr.out,pU,C_];dsimp only;rw[if_pos (.inr lX)])
      have hub:Hid (nM {C with B:=gV C.B (f*5+t) (qt.map (λx=>x.2.2))} t=false):=HD lX;clear C_ hWr lX aa6;go_upto_region 14 with(fail)
      refine ZT [8,9,13] 14 hI ?_;intro wd hI
      (repeat(refine ZQ ?_;go_wp2_with(first|go_at_call 75;(with_reducible refine(A.xW _ X.p X.pb X.c _ f t _ uR pX rfl hft.out (dQ hI aM) a0 c0 bb bs qt hqe.out hlb hop.out).mono ?_);rintro e w1 ⟨a2,c2,ab,hc1,hc2,rfl,hJ⟩;replace hI:=AR hI jo hJ (tq hBr.out _ _ _ rfl);clear hJ|refine YL ?_|with_reducible refine av (fw hI RF aM aQ.out (iL _ _ _)) ?_);refine ZP ?_))
      simp only[vK]at hI;go_wp2_with(first|refine YL ?_|go_at_call 33;refine KR (zT pX hI a_ _ hub) ?_);go_ret;rw[hF.out];exact⟨_,rfl,hI.sub (.cons _ (.cons _ (.refl _)))⟩
     ·have hu:C.up t=true:=by rw[nM,Bool.and_eq_true]at lX;exact lX.1
      have hub:Hid (nM {C with B:=gV C.B (f*5+t) (qt.map (λx=>x.2.2))} t=true):=HD lX;obtain⟨mx,rY⟩:=EQ (lZ bs);cases mx with
      |none=>
       have hF:Hid (W=({C with B:=gV C.B (f*5+t) (qt.map (λx=>x.2.2))},1)):=HD (by rw[hWr.out,pU,C_];dsimp only;rw[if_neg (by rw[aa6];rintro(h|h);cases h;exact absurd (lX.symm.trans h) SI),rY]);have ah9:Hid (Ar bs=(au 192,1)):=HD (by rw[afF,rY]);clear C_ hWr lX aa6 rY hu;go_upto_region 14 with(fail)
       refine ZT [8,9,13] 14 hI ?_;intro wd hI
       (repeat(refine ZQ ?_;go_wp2_with(first|go_at_call 75;(with_reducible refine(A.xW _ X.p X.pb X.c _ f t _ uR pX rfl hft.out (dQ hI aM) a0 c0 bb bs qt hqe.out hlb hop.out).mono ?_);rintro e w1 ⟨a2,c2,ab,hc1,hc2,rfl,hJ⟩;replace hI:=AR hI jo hJ (tq hBr.out _ _ _ rfl);clear hJ|refine YL ?_|with_reducible refine av (fw hI RF aM aQ.out (iL _ _ _)) ?_);refine ZP ?_))
       simp only[vK]at hI;go_wp2_with(first|refine YL ?_|refine YS ?_;intro w hI|refine YX ?_;intro bx w hI|go_at_call 33;refine KR (zT pX hI a_ _ hub) ?_|go_at_call 76;refine KE (Nk hc1 hc2 hI) ?_;intro w1 hI;(rw[ah9.out]));go_ret;rw[hF.out];exact⟨_,rfl,hI.sub (.cons _ (.cons _ (.refl _)))⟩
      |some M=>
       have hF:Hid (W=(nC {C with B:=gV C.B (f*5+t) (qt.map (λx=>x.2.2))} t (kr t (rs {C with B:=gV C.B (f*5+t) (qt.map (λx=>x.2.2))} t) f M),0)):=HD (by rw[hWr.out,pU,C_];dsimp only;rw[if_neg (by rw[aa6];rintro(h|h);cases h;exact absurd (lX.symm.trans h) SI),rY]);have ah9:Hid (Ar bs=(M.nX,0)):=HD (by rw[afF,rY]);obtain⟨hM,h64⟩:=Ra (Kz rY);have amf:=gQ.len hM;have hvw:=HD (hgood hu).1;have hrl:=(hgood hu).2;have alN:Hid (t≠f):=HD (λh=>hft.out h.symm);clear C_ hWr lX aa6 rY hgood;go_upto_region 14 with(fail)
       refine ZT [8,9,13] 14 hI ?_;intro wd hI
       (repeat(refine ZQ ?_;go_wp2_with(first|go_at_call 75;(with_reducible refine(A.xW _ X.p X.pb X.c _ f t _ uR pX rfl hft.out (dQ hI aM) a0 c0 bb bs qt hqe.out hlb hop.out).mono ?_);rintro e w1 ⟨a2,c2,ab,hc1,hc2,rfl,hJ⟩;replace hI:=AR hI jo hJ (tq hBr.out _ _ _ rfl);clear hJ|refine YL ?_|with_reducible refine av (fw hI RF aM aQ.out (iL _ _ _)) ?_);refine ZP ?_))
       simp only[vK]at hI;obtain⟨Yk,hYk⟩:=EQ ({m:=Yr.m,q:=gV Yr.q (f*5+t) qt}:CY);rw[hYk]at hI;have hcm:(bC X Yk {C with B:=gV C.B (f*5+t) (qt.map (λx=>x.2.2))})[6+t]? =some (.pointer (some ⟨(Yk.m t).b,0,none⟩)):=by rw[<-rC (Y:=Yk) (C:={C with B:=gV C.B (f*5+t) (qt.map (λx=>x.2.2))}) hu];exact tF _ _ _ _ pX
       go_upto_region 19 with(first|refine YL ?_|refine YS ?_;intro w hI|refine YX ?_;intro bx w hI|go_at_call 33;refine KR (zT pX hI a_ _ hub) ?_|go_at_call 76;refine KE (Nk hc1 hc2 hI) ?_;intro w1 hI;(rw[ah9.out]))
       (obtain⟨b8,hbx⟩:=EZ bx;subst hbx)
       (refine ZR [11,15] [0,1,2,3,4,5,6,12,13,14] [11] [0,1,2,3,4,5,6,7,8,9,10,12,13,14,11,15] (λw=>Inv (bF X Y C).own w0 w [ib b8 158 M.nX,ib bz 50 z,bF X Yk {C with B:=gV C.B (f*5+t) (qt.map (λx=>x.2.2))}]) hI ?_;intro wd hI)
       (repeat(first| (refine ZA ?_;go_wp2_with(go_at_call 77;refine KG hI (aen _ X _ {C with B:=gV C.B (f*5+t) (qt.map (λx=>x.2.2))} t pX (by with_unfolding_all exact hu) (hI.at_ a_) f uR alN.out M hM h64 (by with_unfolding_all exact hvw) (by with_unfolding_all exact hrl)) ?_;intro Y2 w1 hI);refine gz ?_) | (refine ZB ?_;go_wp2_with(fail);(refine iU (hI.sub SB) ?_)) | (refine ZC ?_;go_wp2_with(refine YL ?_);refine fZ ?_) | ((refine iA RF RF RF RF (hI.sub SB) (by intro w (hI:Inv _ _ w _);first| (with_reducible exact wF (congrArg (Value.int .i64) h1) (LW hI)) | (with_reducible exact wF (congrArg (Value.int .i64) h2) (LW hI)) |with_reducible exact Xf hI| (with_reducible exact D7 (cb:=X.cb) RF RF pX) | (with_reducible exact fw hI RF a_ aQ.out hcm) | (unfold gu;go_simp;with_reducible rfl)) ?_);(simp only[QN]))));refine dN ?_
       go_wp2_with(fail);go_ret;rw[hF.out];exact⟨_,rfl,hI.sub (.cons _ (.cons _ (.refl _)))⟩
    ·have hF:Hid (W=({C with B:=gV C.B (f*5+t) (qt.map (λx=>x.2.2))},0)):=HD (by rw[hWr.out,pU,C_];dsimp only;rw[if_pos (.inl (by simpa using hk6))])
     clear C_ hWr lX;go_upto_region 14 with(fail)
     refine ZT [8,9,13] 14 hI ?_;intro wd hI
     (repeat(refine ZQ ?_;go_wp2_with(first|go_at_call 75;(with_reducible refine(A.xW _ X.p X.pb X.c _ f t _ uR pX rfl hft.out (dQ hI aM) a0 c0 bb bs qt hqe.out hlb hop.out).mono ?_);rintro e w1 ⟨a2,c2,ab,hc1,hc2,rfl,hJ⟩;replace hI:=AR hI jo hJ (tq hBr.out _ _ _ rfl);clear hJ|refine YL ?_|with_reducible refine av (fw hI RF aM aQ.out (iL _ _ _)) ?_);refine ZP ?_))
     simp only[vK]at hI;go_wp2_with(refine YL ?_);go_ret;rw[hF.out];exact⟨_,rfl,hI.sub (.cons _ (.cons _ (.refl _)))⟩
  ·have hd:decide ((r:Int) < (K:Int))=true:=by simp;omega
   have hsc:=aa4 OM hbj.symm;replace hsc:=HD hsc;clear hlr hbj;go_wp2_with(go_at_call 74;(with_reducible refine(aj9 _ X.p X.pb X.c _ wz (dQ hI aM) a0 c0 bb qt hqe.out hcap hlb).mono ?_);rintro e w1 ⟨rfl,a1,c1,hJ⟩;replace hI:=Dn hI jo hJ (tq hBr.out _ _ _ rfl);clear hJ);simp only[vK,List.map_append,List.map_cons,List.map_nil]at hI;go_roundg (K- (r+1))
   case measure=>omega
   case rel=>exact⟨r+1,_,rfl,by omega,rfl,by rw[hsc.out];exact hI⟩
end
end
section
open A (QE kE bU)
section
variable {T:List Nat}{w0 w w':World}{m m':List bT}{X:CX}{Y:CY}{C:CS}{i:Nat}
theorem Ol(X Y C i)(hu:C.up i=true)(wb D):dm X (AX Y i wb) (nJ C i D) i=two (rb i (Y.m i).b (Y.m i).l (Y.m i).vb (Y.m i).ra (Y.m i).rc {C.S i with D:=D}) (two (nT (Y.m i).ra (Y.m i).rc (C.S i).aX)
  (two (nZ (Cm D (C.S i).cnt (C.S i).used)) (lg (Y.m i).l (X.d i) (X.mr i) wb D (C.S i).cnt (C.S i).used))):=by
 simp_all[AX,bE,nJ,dm,NU]
theorem T9(hi:i<5)(hI:Inv T w0 w m)(hm:bF X Y C∈m):Inv (fB (X.d i) (X.mr i) (Y.m i).wb (C.S i).D).own w w [fB (X.d i) (X.mr i) (Y.m i).wb (C.S i).D]:=by
 obtain⟨ub,hu⟩:=EQ (C.up i);cases ub
 ·grind[K9]
 ·have h:=(nV (hI.at_ hm)).pull (tQ hi) aU.here
  rw[show dm X Y C i=NU X Y C i from if_pos hu]at h;exact kG (kG (kG (kG h aC) aC) aC) aC
theorem T_(hi:i<5)(hI:Inv T w0 w m){wb D}(hup:aU (bF X Y C) (bF X (AX Y i wb) (nJ C i D)) m m')(hJ:Inv (fB (X.d i) (X.mr i) (Y.m i).wb (C.S i).D).own w w' [fB (X.d i) (X.mr i) wb D])(hD:Hd D)(hD2:Cm (C.S i).D (C.S i).cnt (C.S i).used->Cm D (C.S i).cnt (C.S i).used):Inv T w0 w' m':=by
 obtain⟨ub,hu⟩:=EQ (C.up i);cases ub
 ·grind[Re]
 ·refine hI.on ?_ hup
  have h:=(nV (hI.at_ hup.mem)).pull (tQ hi) aU.here;rw[show dm X Y C i=NU X Y C i from if_pos hu]at h;have h1:Inv (bF X Y C).own w w (fB (X.d i) (X.mr i) (Y.m i).wb (C.S i).D::two (rb i (Y.m i).b (Y.m i).l (Y.m i).vb (Y.m i).ra (Y.m i).rc (C.S i)) (two (nT (Y.m i).ra (Y.m i).rc (C.S i).aX) (two (nZ (Cm (C.S i).D (C.S i).cnt (C.S i).used)) (blk (Y.m i).l 185 (lcs (X.d i) (C.S i).cnt (C.S i).used))))::gY ((List.range 5).erase i) (dm X Y C)::kX X Y.q C.B::blk X.cb 86 (bC X Y C)::[gY (List.range 5) (fH Y C)]):=h.turn (λhs y hy=>by
   obtain⟨g1,g2,g3,g4,g5⟩:=hs (NU X Y C i) SI;rcases List.mem_cons.1 hy with rfl|hy
   ·exact g5
   rcases List.mem_cons.1 hy with rfl|hy
   ·exact⟨g1,g2,g3,g4⟩
   grind) (by
   grind[owned,two,lg])
  have h2:=h1.on hJ jR;refine rX ?_;rw[Gm,Jf];have h3:Inv (bF X Y C).own w w' (dm X (AX Y i wb) (nJ C i D) i::gY ((List.range 5).erase i) (dm X Y C)::kX X Y.q C.B::blk X.cb 86 (bC X Y C)::[gY (List.range 5) (fH Y C)]):=by
   rw[Ol X Y C i hu wb D];exact h2.turn (λhs y hy=>by
    have g0:=hs (fB (X.d i) (X.mr i) wb D) SI;obtain⟨g1,g2,g3,g4⟩:=hs (two (rb i (Y.m i).b (Y.m i).l (Y.m i).vb (Y.m i).ra (Y.m i).rc (C.S i)) (two (nT (Y.m i).ra (Y.m i).rc (C.S i).aX) (two (nZ (Cm (C.S i).D (C.S i).cnt (C.S i).used)) (blk (Y.m i).l 185 (lcs (X.d i) (C.S i).cnt (C.S i).used))))) SI;rcases List.mem_cons.1 hy with rfl|hy
    ·have hL:=g1.1
     exact⟨⟨⟨hL.view,hL.own,hL.aT,hL.sl,hL.acc,hL.book,hL.told,hL.last,hL.aB⟩,g1.2.1,g1.2.2⟩,g2,hD2 g3,g4,g0⟩
    ·exact hs y (List.mem_cons_of_mem _ (List.mem_cons_of_mem _ hy))) (by
    rw[List.perm_iff_count];simp only[owned,List.flatMap_cons,List.count_append,two,lg,nZ,blk,List.count_nil];omega)
  exact h3.push List.nodup_range (tQ hi) rfl (λj _ hj=>Oh X Y C hj wb D) aU.here
end
def kY(C:CS)(i:Nat)(mask eQ cut:Int):CS:={C with past:=gV C.past i (ji C i),up:=gV C.up i false,S:=gV C.S i {C.S i with D:=nD (C.S i).D mask eQ cut}}
def nA(C:CS)(z:List Int):CS×Int:=
 if ¬(0<=gi z 1∧gi z 1<5)then(C,5)
 else
  let i:=(gi z 1).toNat
  if 0<=gi z 0∧gi z 0<5 then(if nM C i=true then(nC C i (gG i (rs C i) (gi z 0) (gi z 2) (gi z 3) (gi z 4) (sub z 5 3)).1,(gG i (rs C i) (gi z 0) (gi z 2) (gi z 3) (gi z 4) (sub z 5 3)).2)else(C,4))
  else if 5<=gi z 0∧gi z 0<8 then(if 0<=gi z 2∧gi z 2<5∧gi z 2≠gi z 1 then vJ C (gi z 0) i (gi z 2).toNat (gi z 4)else(C,5))
  else if gi z 0=8 then(if nM C i=true then(nC C i (sV i (rs C i)),0)else(C,4))
  else if gi z 0=9 then(nJ C i {(C.S i).D with armed:=true,left:=max (gi z 4) 0},0)
  else if gi z 0=10 then(kY C i (gi z 8) (gi z 9) (gi z 10),0)
  else if gi z 0=11 then jK C i
  else(C,5)
end
section
open A (QE kE bU)
theorem Inv.aex{T w0 w m m'}(h:Inv T w0 w m)(hs:∀r∈m',r∈m)(hp:∀x,(owned m').count x=(owned m).count x):Inv T w0 w m':=
 h.turn (λh1 r hr=>h1 r (hs r hr)) (List.perm_iff_count.2 hp)
theorem aid:(prog.info? 83).map (·.size)=some 1:=by kernel_rfl
def nW(Y:CY)(i:Nat)(a:Option Addr)(c:Nat):CY:={Y with m:=gV Y.m i {Y.m i with pa:=a,pc:=c}}
def uN(C:CS)(i:Nat)(l:List (List Int)):CS:={C with past:=gV C.past i l}
def xm(C:CS)(i:Nat):CS:={C with up:=gV C.up i false}
theorem Ua(Y i a c j):((nW Y i a c).m j).b=(Y.m j).b∧((nW Y i a c).m j).l=(Y.m j).l∧((nW Y i a c).m j).vb=(Y.m j).vb∧((nW Y i a c).m j).rc=(Y.m j).rc∧((nW Y i a c).m j).ra=(Y.m j).ra∧((nW Y i a c).m j).wb=(Y.m j).wb:=by
 unfold nW gV;grind
theorem WG(X Y C i a c l):dm X (nW Y i a c) (uN C i l)=dm X Y C:=by
 funext j;obtain⟨e1,e2,e3,e4,e5,e6⟩:=Ua Y i a c j;unfold dm NU TK;rw[e1,e2,e3,e4,e5,e6];rfl
theorem aa_(Y C){i j}(h:j≠i)(a c l):fH (nW Y i a c) (uN C i l) j=fH Y C j:=by
 simp_all[fH,nW,bI,uN]
theorem aba(Y C i a c l):fH (nW Y i a c) (uN C i l) i=nT a c l:=by
 simp_all[fH,nW,bE,uN]
theorem Om(X Y C){i}(hi:i<5)(a c l):splice (bC X Y C) (11+i) [.slice a l.length c]=bC X (nW Y i a c) (uN C i l):=by
 unfold bC;rw[Wh _ _ _ _ _ hi];refine lS (λ_ _=>rfl) (λj _=>?_) (λj _=>?_)
 ·unfold AQ;rw[(Ua Y i a c j).1];rfl
 ·by_cases h:j=i
  all_goals simp_all[bE,Jb.eq_1,nW,uN,bI]
theorem Oo(X Y C){i}(hi:i<5):splice (bC X Y C) (6+i) [.pointer none]=bC X Y (xm C i):=by
 unfold bC;rw[BJ _ _ _ _ _ hi];refine lS (λ_ _=>rfl) (λj _=>?_) (λj _=>rfl);by_cases h:j=i
 all_goals simp_all[bE,AQ.eq_1,xm,bI]
section
variable {ops:Array Oper}{Q:Exit->Act->World->Prop}{ac:Act}{rest:List Oper}{T:List Nat}{w0 w:World}{m m':List bT}{dst:Option Tmp}{ty:TypeId}{pos:String}{af:Array Edge}{x y:Operand}
variable {X:CX}{Y:CY}{C:CS}{i bz:Nat}{z:List Int}
theorem abb{a c l}(hi:i<5)(hI:Inv T w0 w [bD 117 3 (.slice a l.length c) l.length (yt l),ib bz 50 z,bF X Y C])(h3:∀r∈l,r.length=3)(hx:ac.eval x=.pointer (some ⟨X.cb,11+i,none⟩))(hy:ac.eval y=.slice a l.length c)(k:∀w',Inv T w0 w' [ib bz 50 z,bF X (nW Y i a c) (uN C i l)]->wpList prog ops Q rest (ac.put dst undef) w'):
  wpList prog ops Q (⟨dst,.store 83 x y,ty,pos,af,none⟩::rest) ac w:=by
 have h1:=(nV (hI.perm (m':=[bF X Y C,bD 117 3 (.slice a l.length c) l.length (yt l),ib bz 50 z]) (List.perm_append_comm (l₁:=[bF X Y C]) (l₂:=[bD 117 3 (.slice a l.length c) l.length (yt l),ib bz 50 z]))));have h2:=h1.pull (I:=List.range 5) (f:=fH Y C) (tQ hi) (.there (.there (.there .here)));have h3':Inv T w0 w [blk X.cb 86 (bC X Y C),bD 117 3 (.slice a l.length c) l.length (yt l),gY (List.range 5) (dm X Y C),kX X Y.q C.B,gY ((List.range 5).erase i) (fH Y C),ib bz 50 z]:=(h2.sub (.cons _ (.refl _))).aex (λr hr=>by
   grind) (λr=>by
   grind[owned])
 refine aR (b:=X.cb) (off:=11+i) (e:=86) (cs:=bC X Y C) (vs:=[.slice a l.length c]) (n:=1) (m':=[blk X.cb 86 (splice (bC X Y C) (11+i) [.slice a l.length c]),bD 117 3 (.slice a l.length c) l.length (yt l),gY (List.range 5) (dm X Y C),kX X Y.q C.B,gY ((List.range 5).erase i) (fH Y C),ib bz 50 z]) h3' hx (by rw[hy];rfl) jR aid rfl (by show 11+i+1<=16;omega) (by intro u hu;rw[List.mem_singleton.1 hu];rfl) (λw' h=>k w' ?_);rw[Om X Y C hi a c l]at h;have h4:Inv T w0 w' [fH (nW Y i a c) (uN C i l) i,gY ((List.range 5).erase i) (fH Y C),gY (List.range 5) (dm X Y C),kX X Y.q C.B,blk X.cb 86 (bC X (nW Y i a c) (uN C i l)),ib bz 50 z]:=by
  rw[aba];exact h.turn (λhs r hr=>by
   simp only[List.mem_cons,List.not_mem_nil,or_false]at hr;rcases hr with rfl|rfl|rfl|rfl|rfl|rfl
   ·exact⟨h3,hs _ SI⟩
   all_goals grind) (by
   grind[owned,two,nZ])
 have h5:=h4.push (g:=fH (nW Y i a c) (uN C i l)) List.nodup_range (tQ hi) rfl (λj _ hj=>aa_ Y C hj a c l) .here;have h6:=rX (X:=X) (Y:=nW Y i a c) (C:=uN C i l) (m:=[ib bz 50 z]) (by
  rw[WG];exact h5.aex (λr hr=>by
   simp only[List.mem_cons,List.not_mem_nil,or_false]at hr|-;rcases hr with h|h|h|h|h
   ·grind
   ·right;right;left;exact h
   all_goals grind) (λr=>by
   simp only[owned,List.flatMap_cons,List.count_append,List.flatMap_nil,List.count_nil,nW,uN];omega))
 exact h6.jS
theorem La(X Y C){i j}(h:j≠i):dm X Y (xm C i) j=dm X Y C j:=by
 simp_all[dm,xm,bI]
theorem Lb(X Y C i):dm X Y (xm C i) i=TK X Y C i:=by
 simp_all[dm,xm,bE]
theorem aey(h:Inv T w0 w (dm X Y C i::m)):Inv T w0 w (TK X Y C i::m):=by
 obtain⟨ub,hu⟩:=EQ (C.up i);cases ub
 ·simp_all[dm]
 ·rw[show dm X Y C i=NU X Y C i from if_pos hu]at h
  have h1:Inv T w0 w (TK X Y C i::two (rb i (Y.m i).b (Y.m i).l (Y.m i).vb (Y.m i).ra (Y.m i).rc (C.S i)) (two (nT (Y.m i).ra (Y.m i).rc (C.S i).aX) (blk (Y.m i).l 185 (lcs (X.d i) (C.S i).cnt (C.S i).used)))::m):=h.turn (λhs y hy=>by
   obtain⟨g1,g2,g3,g4,g5⟩:=hs (NU X Y C i) SI;rcases List.mem_cons.1 hy with rfl|hy
   ·exact⟨⟨g3.ok,g3.rest,by have:=g3.w60;omega⟩,g5⟩
   rcases List.mem_cons.1 hy with rfl|hy
   ·exact⟨g1,g2,g4⟩
   grind) (by
   grind[owned,two,lg,nZ])
  grind[Inv.sub]
theorem abd(hi:i<5)(hI:Inv T w0 w [ib bz 50 z,bF X Y C])(hx:ac.eval x=.pointer (some ⟨X.cb,6+i,none⟩))(hy:ac.eval y=.pointer none)(k:∀w',Inv T w0 w' [ib bz 50 z,bF X Y (xm C i)]->wpList prog ops Q rest (ac.put dst undef) w'):
  wpList prog ops Q (⟨dst,.store 32 x y,ty,pos,af,none⟩::rest) ac w:=by
 have h1:=aey ((nV hI.jS).pull (tQ hi) .here);have h2:Inv T w0 w [blk X.cb 86 (bC X Y C),TK X Y C i,gY ((List.range 5).erase i) (dm X Y C),kX X Y.q C.B,gY (List.range 5) (fH Y C),ib bz 50 z]:=h1.aex (λr hr=>by
   grind) (λr=>by
   grind[owned])
 refine aR (b:=X.cb) (off:=6+i) (e:=86) (cs:=bC X Y C) (vs:=[.pointer none]) (n:=1) (m':=[blk X.cb 86 (splice (bC X Y C) (6+i) [.pointer none]),TK X Y C i,gY ((List.range 5).erase i) (dm X Y C),kX X Y.q C.B,gY (List.range 5) (fH Y C),ib bz 50 z]) h2 hx (by rw[hy];rfl) jR Ri rfl (by show 6+i+1<=16;omega) (by intro u hu;rw[List.mem_singleton.1 hu];rfl) (λw' h=>k w' ?_);rw[Oo X Y C hi]at h;have h4:Inv T w0 w' [dm X Y (xm C i) i,gY ((List.range 5).erase i) (dm X Y C),kX X Y.q C.B,blk X.cb 86 (bC X Y (xm C i)),gY (List.range 5) (fH Y C),ib bz 50 z]:=by
  rw[Lb];exact h.aex (λr hr=>by
   grind) (λr=>by
   grind[owned])
 have h5:=h4.push (g:=dm X Y (xm C i)) List.nodup_range (tQ hi) rfl (λj _ hj=>La X Y C hj) .here
 simp_all[rX,xm,Inv.jS]
end
end
section
variable (w0:World)(X:CX)(Y:CY)(C:CS)(z:List Int)(hz:z.length=11)(hI:Inv (bF X Y C).own w0 w0 [bF X Y C])
include hz hI
variable (i:Nat)(hi:i<5)(h1:gi z 1=(i:Int))
include hi h1
theorem aez(h0:gi z 0<0∨11<gi z 0):
  Calls prog 19 #[.pointer (some ⟨X.cb,0,none⟩),ia z] w0 λe w'=>∃Y',e=.returned (.int .i64 (nA C z).2)∧Inv (bF X Y C).own w0 w' [bF X Y' (nA C z).1]:=by
 obtain⟨W,hW⟩:=EH (nA C z);rw[hW.out];have hW2:Hid (W=(C,5)):=HD (by
  rw[<-hW.out,nA,if_neg OM];dsimp only;rw[if_neg OM,if_neg OM,if_neg OM,if_neg OM,if_neg OM,if_neg OM])
 have k0:(gi z 0==0)=false:=by simp;omega
 have k1:(gi z 0==1)=false:=by simp;omega
 have k2:(gi z 0==2)=false:=by simp;omega
 have k3:(gi z 0==3)=false:=by simp;omega
 have k4:(gi z 0==4)=false:=by simp;omega
 have k5:(gi z 0==5)=false:=by simp;omega
 have k6:(gi z 0==6)=false:=by simp;omega
 have k7:(gi z 0==7)=false:=by simp;omega
 have k8:(gi z 0==8)=false:=by simp;omega
 have k9:(gi z 0==9)=false:=by simp;omega
 have k10:(gi z 0==10)=false:=by simp;omega
 have k11:(gi z 0==11)=false:=by simp;omega
 clear hW h0;go_enter func19,ntmps19;go_wp2_with(first|refine YL ?_|refine YX ?_;intro bx w hI|go_at_call 38;refine KR (jC _ _ i hi) ?_);go_ret;rw[hW2.out];exact⟨Y,rfl,hI.tl⟩
end
