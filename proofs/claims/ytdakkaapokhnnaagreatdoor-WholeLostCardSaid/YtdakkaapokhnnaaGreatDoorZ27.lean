/- Contracts of functions. No condition. -/
import Derived.Test.YtdakkaapokhnnaaGreatDoorZ25b
import Derived.Test.YtdakkaapokhnnaaGreatDoorZ26
namespace Go.Proofs.YtdakkaapokhnnaaGreatDoor
open Go.RowKit Go.Proofs.Tryz
set_option maxRecDepth 100000
set_option maxHeartbeats 6400000
set_option linter.all false
section
open A (QE jJ bu)
abbrev oC(cb t:Nat):Value:=.iface 105 (.agg #[.pointer (some ⟨cb,0,none⟩),.int .i64 (t:Int)])
section
variable (w0:World)(X:CX)(Y:CY)(C:CS)(i:Nat)(hi:i<5)(hu:C.up i=true)(hI:Inv (bg X Y C).own w0 w0 [bg X Y C])
include hi hu hI
theorem abq(k:Nat)(hk5:k<5)(Um:i≠k)(M:gZ)(hM:M.Len)(h64:M.V64)(hvw:Hid (dU (C.S i).view))(hrl:(C.S i).aV.length<=1000000000):
  Calls prog 77 #[.pointer (some ⟨(Y.m i).b,0,none⟩),oC X.cb i,.int .i64 (k:Int),ia M.mP] w0 λe w'=>∃Y',e=.returned (.tuple #[])∧Inv (bg X Y C).own w0 w' [bg X Y' (rM C i (kI i (rs C i) k M))]:=by
 have h:=D9 hi hu hI;refine(ae7 w0 (rx X Y C i) (ry Y i) (rs C i) (Wv X Y C hi) k hk5 Um M hM h64 hvw hrl (h.at_ aA)).mono ?_;exact W82
theorem QT(z:List Int)(hz:z.length=11)(hvw:Hid (dU (C.S i).view))(hrl:(C.S i).aV.length<=1000000000)(hok:Hid (Go.Proofs.YtdakkaapokhnnaaGreatDoor.C.vG (C.S i).own))(hbk:Hid (Go.Proofs.YtdakkaapokhnnaaGreatDoor.C.Bk (C.S i).book))(S':RS)(e':Int)(hc:Hid (fG i (rs C i) (gi z 0) (gi z 2) (gi z 3) (gi z 4) (sub z 5 3)=(S',e'))):
  Calls prog 39 #[.pointer (some ⟨(Y.m i).b,0,none⟩),oC X.cb i,ia z] w0 λe w'=>∃Y',e=.returned (.int .i64 e')∧Inv (bg X Y C).own w0 w' [bg X Y' (rM C i S')]:=by
 have h:=D9 hi hu hI;have h2:=XP w0 (rx X Y C i) (ry Y i) (rs C i) (Wv X Y C hi) z hz hvw hrl hok hbk (h.at_ aA);rw[show fG (rx X Y C i).f (rs C i) (gi z 0) (gi z 2) (gi z 3) (gi z 4) (sub z 5 3)=(S',e')from hc.out]at h2;refine h2.mono ?_;exact W82
theorem abr(hvw:Hid (dU (C.S i).view))(hvl:(C.S i).view.length=7):
  Calls prog 41 #[.pointer (some ⟨(Y.m i).b,0,none⟩),oC X.cb i] w0 λe w'=>∃Y',e=.returned (.tuple #[])∧Inv (bg X Y C).own w0 w' [bg X Y' (rM C i (rC i (rs C i)))]:=by
 have h:=D9 hi hu hI;refine(ae4 w0 (rx X Y C i) (ry Y i) (rs C i) (Wv X Y C hi) hvw hvl (h.at_ aA)).mono ?_;exact W82
end
end
section
open A (QE jJ bu f_)
def Qq(B:Nat->List (List UInt8)):Prop:=∀i,(B i).length<=8∧∀b∈B i,b.length<=100000
section
variable (w0:World)(X:CX)(Y:CY)(C:CS)(z:List Int)(hz:z.length=11)(hI:Inv (bg X Y C).own w0 w0 [bg X Y C])
include hz hI
theorem abt(hno:Hid (¬(0<=gi z 1∧gi z 1<5∧0<=gi z 2∧gi z 2<5))):
  Calls prog 40 #[.pointer (some ⟨X.cb,0,none⟩),ia z] w0 λe w'=>e=.returned (.int .i64 5)∧Inv (bg X Y C).own w0 w' [bg X Y C]:=by
 go_enter func40,ntmps40;go_upto_region 1 with(refine YX ?_;intro bx w hI)
 refine ZT [8,9] 10 hI ?_;intro wd hI
 (repeat(refine ZQ ?_;go_wp2_with(first|go_at_call 71;refine KR (A.adl _ _ _ _ hno.out) ?_|refine YL ?_|with_reducible refine au (dV hI RF aM aO.out (gH _ _ _)) ?_);refine ZP ?_))
 exact W57
variable (f t:Nat)(rP:f<5)(mR:t<5)(h1:gi z 1=(f:Int))(h2:gi z 2=(t:Int))
include rP mR h1 h2
theorem XU(hft:f=t):
  Calls prog 40 #[.pointer (some ⟨X.cb,0,none⟩),ia z] w0 λe w'=>e=.returned (.int .i64 5)∧Inv (bg X Y C).own w0 w' [bg X Y C]:=by
 subst hft;have hcv:f_ X.pb 25 (f*5+f)=.pointer none:=by unfold f_;rw[if_pos OM]
 obtain⟨t,ht⟩:=EZ f;rw[<-ht]at h2;have mR:t<5:=by omega
 have hcv:f_ X.pb 25 (f*5+t)=.pointer none:=by rw[ht];exact hcv
 clear ht;go_enter func40,ntmps40;go_upto_region 1 with(refine YX ?_;intro bx w hI)
 refine ZT [8,9] 10 hI ?_;intro wd hI
 (repeat(refine ZQ ?_;go_wp2_with(first|go_at_call 71;refine KR (A.uf _ X.p X.pb f t rP mR (A.vE (dm hI aM))) ?_;rw[hcv]|refine YL ?_|with_reducible refine au (dV hI RF aM aO.out (gH _ _ _)) ?_);refine ZP ?_))
 exact W57
variable (hft:f≠t)
include hft
theorem Tq(hB:C.B (f*5+t)=[]):
  Calls prog 40 #[.pointer (some ⟨X.cb,0,none⟩),ia z] w0 λe w'=>e=.returned (.int .i64 10)∧Inv (bg X Y C).own w0 w' [bg X Y C]:=by
 have uO:f*5+t∈bu:=A.nC OM OM;have hcv:f_ X.pb 25 (f*5+t)=.pointer (some ⟨X.pb (f*5+t),0,none⟩):=A.kL X.pb uO;have Zt:Hid ((Y.q (f*5+t)).length=0):=HD (by have:=congrArg List.length (tF hI aA (f*5+t));rw[List.length_map,hB]at this;exact this);clear hft hB;go_enter func40,ntmps40;go_upto_region 1 with(refine YX ?_;intro bx w hI)
 refine ZT [8,9] 10 hI ?_;intro wd hI
 (repeat(refine ZQ ?_;go_wp2_with(first|go_at_call 71;refine KR (A.uf _ X.p X.pb f t rP mR (A.vE (dm hI aM))) ?_;rw[hcv]|refine YL ?_|with_reducible refine au (dV hI RF aM aO.out (gH _ _ _)) ?_);refine ZP ?_))
 go_wp2_with(go_at_call 72;refine KR (A.Vl _ X.p X.pb X.c _ uO ((dm hI aM).sat _ aA)) ?_;rw[Zt.out]);go_ret;exact⟨rfl,hI.tl⟩
theorem abu(h7:gi z 0=7)(b0:List UInt8)(bt:List (List UInt8))(hB:C.B (f*5+t)=b0::bt)(hN:Qq C.B):
  Calls prog 40 #[.pointer (some ⟨X.cb,0,none⟩),ia z] w0 λe w'=>∃Y',e=.returned (.int .i64 (wU C 7 f t (gi z 4)).2)∧Inv (bg X Y C).own w0 w' [bg X Y' (wU C 7 f t (gi z 4)).1]:=by
 have uO:f*5+t∈bu:=A.nC OM OM;have hcv:f_ X.pb 25 (f*5+t)=.pointer (some ⟨X.pb (f*5+t),0,none⟩):=A.kL X.pb uO;have hN1:=(hN (f*5+t)).1;have hN2:=(hN (f*5+t)).2;rw[hB]at hN1 hN2;have hl0:=hN2 b0 SI;clear hN2 hN;have hmq:=tF hI aA (f*5+t);have hB0:=HD (tF hI aA);rw[hB]at hmq;obtain⟨n,hn⟩:=EQ bt.length;have Fa:(Y.q (f*5+t)).length=n+1:=by have:=congrArg List.length hmq;rw[List.length_map,List.length_cons,hn]at this;exact this
 obtain⟨q0,qt,IU⟩:∃q0 qt,Y.q (f*5+t)=q0::qt:=by
  cases hh:Y.q (f*5+t)with
  |nil=>rw[hh]at Fa;simp at Fa
  |cons a b=>exact⟨a,b,rfl⟩
 rw[IU,List.map_cons,List.cons.injEq]at hmq;have Zt:Hid ((Y.q (f*5+t)).length=n+1):=HD Fa;have hm0:=HD hmq.1;have hmt:=HD hmq.2;rw[<-hmq.1]at hl0;replace hl0:=HD hl0;have hn8:n+1<=8:=by rw[List.length_cons,hn]at hN1;exact hN1
 by_cases h8:n+1=8
 ·have hq8:Hid ((Y.q (f*5+t)).length=8):=HD (by rw[Fa,h8])
  have hF:Hid (wU C 7 f t (gi z 4)=(C,3)):=HD (by rw[wU,hB];dsimp only;rw[if_pos rfl,hn,if_pos h8]);clear hft hB Fa IU hmq hN1;go_enter func40,ntmps40;go_upto_region 1 with(refine YX ?_;intro bx w hI)
  refine ZT [8,9] 10 hI ?_;intro wd hI
  (repeat(refine ZQ ?_;go_wp2_with(first|go_at_call 71;refine KR (A.uf _ X.p X.pb f t rP mR (A.vE (dm hI aM))) ?_;rw[hcv]|refine YL ?_|with_reducible refine au (dV hI RF aM aO.out (gH _ _ _)) ?_);refine ZP ?_))
  go_wp2_with(first|refine YL ?_|go_at_call 72;refine KR (A.Vl _ X.p X.pb X.c _ uO ((dm hI aM).sat _ aA)) ?_;rw[Zt.out]|go_at_call 73;refine KR (aa9 _ X.p X.pb X.c _ uO (dm hI aM) hq8.out) ?_);go_ret;rw[hF.out];exact⟨Y,rfl,hI.tl⟩
 ·have hq8:Hid ((q0::qt).length <8):=HD (by rw[<-IU,Fa];omega)
  have hqe:=HD IU;have hF:Hid (wU C 7 f t (gi z 4)=({C with B:=gL C.B (f*5+t) ((b0::bt)++[b0])},0)):=HD (by rw[wU,hB];dsimp only;rw[if_pos rfl,hn,if_neg h8]);clear hft hB Fa IU hmq hN1;go_enter func40,ntmps40;go_upto_region 1 with(refine YX ?_;intro bx w hI)
  refine ZT [8,9] 10 hI ?_;intro wd hI
  (repeat(refine ZQ ?_;go_wp2_with(first|go_at_call 71;refine KR (A.uf _ X.p X.pb f t rP mR (A.vE (dm hI aM))) ?_;rw[hcv]|refine YL ?_|with_reducible refine au (dV hI RF aM aO.out (gH _ _ _)) ?_);refine ZP ?_))
  go_wp2_with(first|refine YL ?_|go_at_call 72;refine KR (A.Vl _ X.p X.pb X.c _ uO ((dm hI aM).sat _ aA)) ?_;rw[Zt.out]|go_at_call 73;(with_reducible refine(aeT _ X.p X.pb X.c _ uO (dm hI aM) q0 qt hqe.out hq8.out hl0.out).mono ?_);rintro e w1 ⟨rfl,a1,c1,hJ⟩;replace hI:=BH (B':=gL C.B (f*5+t) ((b0::bt)++[b0])) hI iR hJ (rH hB0.out _ _ _ (by simp only[List.map_append,List.map_cons,List.map_nil];rw[hm0.out,hmt.out]));clear hJ);go_ret;rw[hF.out];exact⟨_,rfl,hI.tl⟩
end
end
theorem uZ{P:Program}{o:Oper}{a:Act}{w:World}{v v':Value}(h:v=v')(hy:fP P o a w v):fP P o a w v':=h▸hy
section
variable {a:Act}{w:World}{dst:Option Tmp}{ty:TypeId}{pos:String}{af:Array Edge}{x y:Operand}{cb i:Nat}
theorem Cn(hx:a.eval x=.pointer (some ⟨cb,6,none⟩))(hy:a.eval y=.int .i64 (i:Int))(hi:i<5):fP prog ⟨dst,.indexAddr 77 x y,ty,pos,af,none⟩ a w (.pointer (some ⟨cb,6+i,none⟩)):=by
 unfold fP execOp;simp only[hx,hy]
 go_simp
 intro h;omega
end
section
open A (QE jJ bu f_)
theorem XV{a:Act}{w:World}{dst:Option Tmp}{pos:String}{af:Array Edge}{x y:Operand}{u v rn:Int}(hx:a.eval x=.int .i64 u)(hy:a.eval y=.int .i64 v)(h:max u v=rn):
  fP prog ⟨dst,.call {callee:=.builtin .max,args:= #[x,y],argTypes:= #[3,3]},3,pos,af,none⟩ a w (.int .i64 rn):=by
 subst h;exact Qf hx hy
def Qr{α:Type}(l:List α)(r:Nat):List α:=l.drop r++l.take r
theorem abv{α:Type}(l:List α)(r:Nat):(Qr l r).length=l.length:=by simp only[Qr,List.length_append,List.length_drop,List.length_take];omega
theorem XW{α:Type}{l:List α}{r:Nat}{x:α}{y:List α}(hr:r<l.length)(h:Qr l r=x::y):Qr l (r+1)=y++[x]:=by
 unfold Qr at h|-;rw[List.drop_eq_getElem_cons hr,List.cons_append,List.cons.injEq]at h;obtain⟨hx,hy⟩:=h;rw[List.take_succ_eq_append_getElem hr,hx,<-hy,List.append_assoc]
theorem abw{α:Type}{l:List α}{r:Nat}{x:α}(h:x∈Qr l r):x∈l:=by
 unfold Qr at h;rcases List.mem_append.1 h with h|h
 ·exact List.mem_of_mem_drop h
 ·exact List.mem_of_mem_take h
theorem uw{α:Type}(g:Nat->α)(i:Nat)(u v:α):gL (gL g i u) i v=gL g i v:=by
 funext j;unfold gL;split<;>rfl
theorem XX{α:Type}(g:Nat->α)(i:Nat){u:α}(h:g i=u):gL g i u=g:=by
 funext j;unfold gL;split
 ·rename_i e;rw[e,h]
 ·rfl
theorem Qs{v:List Int}(h:D5 v):dU v:=h.2.2.1
theorem OJ{M:gZ}(h:M.Ok):M.Len∧M.V64:=by
 cases M with
 |row i r=>exact⟨⟨h.1,h.2.1⟩,trivial⟩
 |kept n=>exact⟨trivial,trivial⟩
 |news i r=>exact⟨⟨h.1,h.2.1⟩,trivial⟩
 |ask e b=>exact⟨h.2.1,trivial⟩
 |promise e b hh c=>exact⟨⟨h.2.1.1,h.2.2.1.1,h.2.2.2.1⟩,trivial⟩
 |put e b c=>exact⟨⟨h.2.1.1,h.2.2.1⟩,trivial⟩
 |taken e b=>exact⟨h.2.1,trivial⟩
 |view v=>exact⟨h.1,Qs h⟩
 |bR i v=>exact⟨⟨h.1,h.2.1⟩,Qs h.2⟩
 |iU i r=>exact⟨⟨h.1,h.2.1⟩,trivial⟩
section
variable (w0:World)(X:CX)(Y:CY)(C:CS)(z:List Int)(hz:z.length=11)(hI:Inv (bg X Y C).own w0 w0 [bg X Y C])
variable (f t:Nat)(rP:f<5)(mR:t<5)(h1:gi z 1=(f:Int))(h2:gi z 2=(t:Int))(hft:f≠t)
include hz hI rP mR h1 h2 hft
theorem ae8(h7:(gi z 0==7)=false)(b0:List UInt8)(bt:List (List UInt8))(hB:C.B (f*5+t)=b0::bt)(hN:Qq C.B)(hgood:C.up t=true->dU (C.S t).view∧(C.S t).aV.length<=1000000000):
  Calls prog 40 #[.pointer (some ⟨X.cb,0,none⟩),ia z] w0 λe w'=>∃Y',e=.returned (.int .i64 (wU C (gi z 0) f t (gi z 4)).2)∧Inv (bg X Y C).own w0 w' [bg X Y' (wU C (gi z 0) f t (gi z 4)).1]:=by
 have uO:f*5+t∈bu:=A.nC OM OM;have hcv:f_ X.pb 25 (f*5+t)=.pointer (some ⟨X.pb (f*5+t),0,none⟩):=A.kL X.pb uO;obtain⟨n,hn⟩:=EQ bt.length;have Fa:(Y.q (f*5+t)).length=n+1:=by have:=congrArg List.length (tF hI aA (f*5+t));rw[List.length_map,hB,List.length_cons,hn]at this;exact this
 have Zt:Hid ((Y.q (f*5+t)).length=n+1):=HD Fa;have hn8:n+1<=8:=by have:=(hN (f*5+t)).1;rw[hB,List.length_cons,hn]at this;exact this
 obtain⟨v,hv0⟩:=EQ (max (gi z 4) 0);have hvn:0<=v:=by rw[<-hv0];omega
 have hmx:=HD hv0;clear hv0;obtain⟨W,hW⟩:=EH (wU C (gi z 0) f t (gi z 4));rw[hW.out];go_enter func40,ntmps40;go_upto_region 1 with(refine YX ?_;intro bx w hI)
 refine ZT [8,9] 10 hI ?_;intro wd hI
 (repeat(refine ZQ ?_;go_wp2_with(first|go_at_call 71;refine KR (A.uf _ X.p X.pb f t rP mR (A.vE (dm hI aM))) ?_;rw[hcv]|refine YL ?_|with_reducible refine au (dV hI RF aM aO.out (gH _ _ _)) ?_);refine ZP ?_))
 go_upto_region 10 with(first|refine YL ?_|go_at_call 72;refine KR (A.Vl _ X.p X.pb X.c _ uO ((dm hI aM).sat _ aA)) ?_;rw[Zt.out])
 (obtain⟨bz,hbx⟩:=EZ bx;subst hbx)
 (refine ZR [4] [0,1,2,6] [4] [0,1,2,3,6,4,5] (λw=>Inv (bg X Y C).own w0 w [ib bz 50 z,bg X Y C]) hI ?_;intro wd hI)
 (repeat(first| ((refine jB RF RF RF RF (hI.sub SB) (by intro w hI0;with_reducible exact XV RF RF hmx.out) ?_);(simp only[QN])) | (refine ZB ?_;go_wp2_with(go_at_call 72;refine KR (A.Vl _ X.p X.pb X.c _ uO ((dm hI aM).sat _ aA)) ?_;rw[Zt.out]);(refine jN (hI.sub SB) ?_)) | (refine ZC ?_;go_wp2_with(fail);refine h_ ?_) | ((refine jB RF RF RF RF (hI.sub SB) (by intro w (hI:Inv _ _ w _);first|with_reducible exact Mt hI| (unfold fP;go_simp;with_reducible rfl)) ?_);(simp only[QN]))));refine fC ?_
 go_wp2_with(fail);obtain⟨K,hK⟩:∃K:Nat,v% ((n:Int)+1)=(K:Int):=⟨(v% ((n:Int)+1)).toNat,by rw[Int.toNat_of_nonneg (Int.emod_nonneg _ OM)]⟩;have hKn:K<=n:=by have:=Int.emod_lt_of_pos v (show(0:Int) < (n:Int)+1 by omega);omega
 rw[hK];obtain⟨l,hl⟩:=EQ (b0::bt);have hll:l.length=n+1:=by rw[<-hl,List.length_cons,hn]
 have hlN:∀b∈l,b.length<=100000:=by rw[<-hl,<-hB];exact(hN (f*5+t)).2
 have hWF:∀x y,Qr l K=x::y->Hid (W=o9 {C with B:=gL C.B (f*5+t) y} (decide (gi z 0=6)) f t x):=λx y h=>HD (by
  rw[<-hW.out,wU,hB];dsimp only;rw[if_neg (by simpa using h7),hn,hmx.out,hl,show((n+1:Nat):Int)=(n:Int)+1 from rfl,hK,Int.toNat_natCast];show(match Qr l K with| []=>_|b::r=>_)=_;rw[h])
 have hst:Inv (bg X Y C).own w0 wd [ib bz 50 z,bg X Y {C with B:=gL C.B (f*5+t) (Qr l 0)}]:=by
  rw[XX C.B (f*5+t) (by rw[hB,hl];simp[Qr])];exact hI
 clear hI hl hB Zt Fa hn hmx hK hW hN;replace hlN:=HD hlN;replace hft:=HD hft
 go_loopg [36] K (λkk s36 wr=>∃(r:Nat) (Yr:CY),kk=K-r∧r<=K∧s36=.int .i64 (r:Int)∧Inv (bg X Y C).own w0 wr [ib bz 50 z,bg X Yr {C with B:=gL C.B (f*5+t) (Qr l r)}])
 case atStart=>exact⟨0,Y,rfl,by omega,rfl,hst⟩
 case round=>
  clear hst;obtain⟨r,Yr,rfl,hr,rfl,hI⟩:=hrel;have hBr:Hid (∀i,(Yr.q i).map (λx=>x.2.2)=gL C.B (f*5+t) (Qr l r) i):=HD (tF hI aM);have hbj:(Yr.q (f*5+t)).map (λx=>x.2.2)=Qr l r:=(hBr.out (f*5+t)).trans (bJ _ _ _);have hlr:=abv l r;obtain⟨⟨a0,c0,bb⟩,qt,IU⟩:∃q0 qt,Yr.q (f*5+t)=q0::qt:=by
   cases hh:Yr.q (f*5+t)with
   |nil=>rw[hh]at hbj;rw[<-hbj]at hlr;simp at hlr;omega
   |cons a b=>exact⟨a,b,rfl⟩
  rw[IU,List.map_cons]at hbj;have hqe:=HD IU;have hlb:bb.length<=100000:=hlN.out bb (abw (by rw[<-hbj];simp));have hcap:qt.length<8:=by have:=congrArg List.length hbj;rw[List.length_cons,List.length_map,hlr,hll]at this;omega
  clear IU;by_cases hrK:r=K
  ·subst hrK
   have hd:decide ((r:Int) < (r:Int))=false:=by simp
   have Yy:=hWF bb (qt.map (λx=>x.2.2)) hbj.symm;clear hWF hlr hbj;obtain⟨op,Br⟩:=EQ (A.dZ (UInt8.ofNat f) (UInt8.ofNat t) bb);cases op with
   |none=>
    have hop:=HD Br;have hF:Hid (W=({C with B:=gL C.B (f*5+t) (qt.map (λx=>x.2.2))},0)):=HD (by rw[Yy.out,o9,Br]);clear Br Yy;cases hk6:(gi z 0==6)
    ·go_upto_region 14 with(fail)
     refine ZT [8,9,13] 14 hI ?_;intro wd hI
     (repeat(refine ZQ ?_;go_wp2_with(first|go_at_call 75;(with_reducible refine(A.Lm _ X.p X.pb X.c _ f t _ rP mR rfl hft.out (dm hI aM) a0 c0 bb qt hqe.out hlb hop.out).mono ?_);rintro e w1 ⟨rfl,hJ⟩;replace hI:=BH hI iR hJ (rH hBr.out _ _ _ rfl);clear hJ|refine YL ?_|with_reducible refine au (dV hI RF aM aO.out (gH _ _ _)) ?_);refine ZP ?_))
     simp only[uw]at hI;go_wp2_with(refine YL ?_);go_ret;rw[hF.out];exact⟨_,rfl,hI.tl⟩
    ·go_upto_region 14 with(fail)
     refine ZT [8,9,13] 14 hI ?_;intro wd hI
     (repeat(refine ZQ ?_;go_wp2_with(first|go_at_call 75;(with_reducible refine(A.Lm _ X.p X.pb X.c _ f t _ rP mR rfl hft.out (dm hI aM) a0 c0 bb qt hqe.out hlb hop.out).mono ?_);rintro e w1 ⟨rfl,hJ⟩;replace hI:=BH hI iR hJ (rH hBr.out _ _ _ rfl);clear hJ|refine YL ?_|with_reducible refine au (dV hI RF aM aO.out (gH _ _ _)) ?_);refine ZP ?_))
     simp only[uw]at hI;go_wp2_with(refine YL ?_);go_ret;rw[hF.out];exact⟨_,rfl,hI.tl⟩
   |some bs=>
    have hop:=HD Br;obtain⟨ub,kV⟩:=EQ (pM C t);cases hk6:(gi z 0==6)
    ·have XY:decide (gi z 0=6)=false:=by simpa using hk6
     cases ub
     ·have hF:Hid (W=({C with B:=gL C.B (f*5+t) (qt.map (λx=>x.2.2))},0)):=HD (by rw[Yy.out,o9,Br];dsimp only;rw[if_pos (.inr kV)])
      have hub:Hid (pM {C with B:=gL C.B (f*5+t) (qt.map (λx=>x.2.2))} t=false):=HD kV;clear Br Yy kV XY;go_upto_region 14 with(fail)
      refine ZT [8,9,13] 14 hI ?_;intro wd hI
      (repeat(refine ZQ ?_;go_wp2_with(first|go_at_call 75;(with_reducible refine(A.wK _ X.p X.pb X.c _ f t _ rP mR rfl hft.out (dm hI aM) a0 c0 bb bs qt hqe.out hlb hop.out).mono ?_);rintro e w1 ⟨a2,c2,ab,hc1,hc2,rfl,hJ⟩;replace hI:=zw hI iR hJ (rH hBr.out _ _ _ rfl);clear hJ|refine YL ?_|with_reducible refine au (dV hI RF aM aO.out (gH _ _ _)) ?_);refine ZP ?_))
      simp only[uw]at hI;go_wp2_with(first|refine YL ?_|go_at_call 33;refine KR (yF mR hI aX _ hub) ?_);go_ret;rw[hF.out];exact⟨_,rfl,hI.sub (.cons _ (.cons _ (.refl _)))⟩
     ·have hu:C.up t=true:=by rw[pM,Bool.and_eq_true]at kV;exact kV.1
      have hub:Hid (pM {C with B:=gL C.B (f*5+t) (qt.map (λx=>x.2.2))} t=true):=HD kV;obtain⟨mx,qL⟩:=EQ (Kr bs);cases mx with
      |none=>
       have hF:Hid (W=({C with B:=gL C.B (f*5+t) (qt.map (λx=>x.2.2))},1)):=HD (by rw[Yy.out,o9,Br];dsimp only;rw[if_neg (by rw[XY];rintro(h|h);cases h;exact absurd (kV.symm.trans h) SI),qL]);have ae9:Hid (x9 bs=(aj 192,1)):=HD (by rw[aco,qL]);clear Br Yy kV XY qL hu;go_upto_region 14 with(fail)
       refine ZT [8,9,13] 14 hI ?_;intro wd hI
       (repeat(refine ZQ ?_;go_wp2_with(first|go_at_call 75;(with_reducible refine(A.wK _ X.p X.pb X.c _ f t _ rP mR rfl hft.out (dm hI aM) a0 c0 bb bs qt hqe.out hlb hop.out).mono ?_);rintro e w1 ⟨a2,c2,ab,hc1,hc2,rfl,hJ⟩;replace hI:=zw hI iR hJ (rH hBr.out _ _ _ rfl);clear hJ|refine YL ?_|with_reducible refine au (dV hI RF aM aO.out (gH _ _ _)) ?_);refine ZP ?_))
       simp only[uw]at hI;go_wp2_with(first|refine YL ?_|refine YS ?_;intro w hI|refine YX ?_;intro bx w hI|go_at_call 33;refine KR (yF mR hI aX _ hub) ?_|go_at_call 76;refine KE (Ko hc1 hc2 hI) ?_;intro w1 hI;(rw[ae9.out]));go_ret;rw[hF.out];exact⟨_,rfl,hI.sub (.cons _ (.cons _ (.refl _)))⟩
      |some M=>
       have hF:Hid (W=(rM {C with B:=gL C.B (f*5+t) (qt.map (λx=>x.2.2))} t (kI t (rs {C with B:=gL C.B (f*5+t) (qt.map (λx=>x.2.2))} t) f M),0)):=HD (by rw[Yy.out,o9,Br];dsimp only;rw[if_neg (by rw[XY];rintro(h|h);cases h;exact absurd (kV.symm.trans h) SI),qL]);have ae9:Hid (x9 bs=(M.mP,0)):=HD (by rw[aco,qL]);obtain⟨hM,h64⟩:=OJ (Wq qL);have aiX:=gZ.len hM;have hvw:=HD (hgood hu).1;have hrl:=(hgood hu).2;have aiL:Hid (t≠f):=HD (λh=>hft.out h.symm);clear Br Yy kV XY qL hgood;go_upto_region 14 with(fail)
       refine ZT [8,9,13] 14 hI ?_;intro wd hI
       (repeat(refine ZQ ?_;go_wp2_with(first|go_at_call 75;(with_reducible refine(A.wK _ X.p X.pb X.c _ f t _ rP mR rfl hft.out (dm hI aM) a0 c0 bb bs qt hqe.out hlb hop.out).mono ?_);rintro e w1 ⟨a2,c2,ab,hc1,hc2,rfl,hJ⟩;replace hI:=zw hI iR hJ (rH hBr.out _ _ _ rfl);clear hJ|refine YL ?_|with_reducible refine au (dV hI RF aM aO.out (gH _ _ _)) ?_);refine ZP ?_))
       simp only[uw]at hI;obtain⟨Yk,hYk⟩:=EQ ({m:=Yr.m,q:=gL Yr.q (f*5+t) qt}:CY);rw[hYk]at hI;have hcm:(a_ X Yk {C with B:=gL C.B (f*5+t) (qt.map (λx=>x.2.2))})[6+t]? =some (.pointer (some ⟨(Yk.m t).b,0,none⟩)):=by rw[<-qi (Y:=Yk) (C:={C with B:=gL C.B (f*5+t) (qt.map (λx=>x.2.2))}) hu];exact rO _ _ _ _ mR
       go_upto_region 19 with(first|refine YL ?_|refine YS ?_;intro w hI|refine YX ?_;intro bx w hI|go_at_call 33;refine KR (yF mR hI aX _ hub) ?_|go_at_call 76;refine KE (Ko hc1 hc2 hI) ?_;intro w1 hI;(rw[ae9.out]))
       (obtain⟨b8,hbx⟩:=EZ bx;subst hbx)
       (refine ZR [11,15] [0,1,2,3,4,5,6,12,13,14] [11] [0,1,2,3,4,5,6,7,8,9,10,12,13,14,11,15] (λw=>Inv (bg X Y C).own w0 w [ib b8 158 M.mP,ib bz 50 z,bg X Yk {C with B:=gL C.B (f*5+t) (qt.map (λx=>x.2.2))}]) hI ?_;intro wd hI)
       (repeat(first| (refine ZA ?_;go_wp2_with(go_at_call 77;refine KG hI (abq _ X _ {C with B:=gL C.B (f*5+t) (qt.map (λx=>x.2.2))} t mR (by with_unfolding_all exact hu) (hI.at_ aX) f rP aiL.out M hM h64 (by with_unfolding_all exact hvw) (by with_unfolding_all exact hrl)) ?_;intro Y2 w1 hI);refine ji ?_) | (refine ZB ?_;go_wp2_with(fail);(refine jN (hI.sub SB) ?_)) | (refine ZC ?_;go_wp2_with(refine YL ?_);refine h_ ?_) | ((refine jB RF RF RF RF (hI.sub SB) (by intro w (hI:Inv _ _ w _);first| (with_reducible exact uZ (congrArg (Value.int .i64) h1) (Mt hI)) | (with_reducible exact uZ (congrArg (Value.int .i64) h2) (Mt hI)) |with_reducible exact acG hI| (with_reducible exact Cn (cb:=X.cb) RF RF mR) | (with_reducible exact dV hI RF aX aO.out hcm) | (unfold fP;go_simp;with_reducible rfl)) ?_);(simp only[QN]))));refine fC ?_
       go_wp2_with(fail);go_ret;rw[hF.out];exact⟨_,rfl,hI.sub (.cons _ (.cons _ (.refl _)))⟩
    ·have hF:Hid (W=({C with B:=gL C.B (f*5+t) (qt.map (λx=>x.2.2))},0)):=HD (by rw[Yy.out,o9,Br];dsimp only;rw[if_pos (.inl (by simpa using hk6))])
     clear Br Yy kV;go_upto_region 14 with(fail)
     refine ZT [8,9,13] 14 hI ?_;intro wd hI
     (repeat(refine ZQ ?_;go_wp2_with(first|go_at_call 75;(with_reducible refine(A.wK _ X.p X.pb X.c _ f t _ rP mR rfl hft.out (dm hI aM) a0 c0 bb bs qt hqe.out hlb hop.out).mono ?_);rintro e w1 ⟨a2,c2,ab,hc1,hc2,rfl,hJ⟩;replace hI:=zw hI iR hJ (rH hBr.out _ _ _ rfl);clear hJ|refine YL ?_|with_reducible refine au (dV hI RF aM aO.out (gH _ _ _)) ?_);refine ZP ?_))
     simp only[uw]at hI;go_wp2_with(refine YL ?_);go_ret;rw[hF.out];exact⟨_,rfl,hI.sub (.cons _ (.cons _ (.refl _)))⟩
  ·have hd:decide ((r:Int) < (K:Int))=true:=by simp;omega
   have hsc:=XW OM hbj.symm;replace hsc:=HD hsc;clear hlr hbj;go_wp2_with(go_at_call 74;(with_reducible refine(ag9 _ X.p X.pb X.c _ uO (dm hI aM) a0 c0 bb qt hqe.out hcap hlb).mono ?_);rintro e w1 ⟨rfl,a1,c1,hJ⟩;replace hI:=BH hI iR hJ (rH hBr.out _ _ _ rfl);clear hJ);simp only[uw,List.map_append,List.map_cons,List.map_nil]at hI;go_roundg (K- (r+1))
   case measure=>omega
   case rel=>exact⟨r+1,_,rfl,by omega,rfl,by rw[hsc.out];exact hI⟩
end
end
section
open A (QE jJ bu)
section
variable {T:List Nat}{w0 w w':World}{m m':List aG}{X:CX}{Y:CY}{C:CS}{i:Nat}
theorem LF(X:CX)(Y:CY)(C:CS)(i:Nat)(hu:C.up i=true)(wb:Option Nat)(D:DS):bX X (yf Y i wb) (pV C i D) i=two (rb i (Y.m i).b (Y.m i).l (Y.m i).vb (Y.m i).ra (Y.m i).rc {C.S i with D:=D}) (two (mK (Y.m i).ra (Y.m i).rc (C.S i).aV)
  (two (lI (AP D (C.S i).cnt (C.S i).used)) (lg (Y.m i).l (X.d i) (X.mr i) wb D (C.S i).cnt (C.S i).used))):=by
 have e1:(yf Y i wb).m i={Y.m i with wb:=wb}:=bJ _ _ _;have e2:(pV C i D).S i={C.S i with D:=D}:=bJ _ _ _;unfold bX I5;rw[if_pos (show(pV C i D).up i=true from hu),e1,e2]
theorem Qt(hi:i<5)(hI:Inv T w0 w m)(hm:bg X Y C∈m):Inv (eF (X.d i) (X.mr i) (Y.m i).wb (C.S i).D).own w w [eF (X.d i) (X.mr i) (Y.m i).wb (C.S i).D]:=by
 obtain⟨ub,hu⟩:=EQ (C.up i);cases ub
 ·exact Im hi hu hI hm
 ·have h:=(mM (hI.at_ hm)).pull (rY hi) aR.here
  rw[show bX X Y C i=I5 X Y C i from if_pos hu]at h;exact jT (jT (jT (jT h aA) aA) aA) aA
theorem Qu(hi:i<5)(hI:Inv T w0 w m){wb:Option Nat}{D:DS}(hup:aR (bg X Y C) (bg X (yf Y i wb) (pV C i D)) m m')
  (hJ:Inv (eF (X.d i) (X.mr i) (Y.m i).wb (C.S i).D).own w w' [eF (X.d i) (X.mr i) wb D]) (hD:EU D) (hD2:AP (C.S i).D (C.S i).cnt (C.S i).used->AP D (C.S i).cnt (C.S i).used):Inv T w0 w' m':=by
 obtain⟨ub,hu⟩:=EQ (C.up i);cases ub
 ·exact NP hi hu hI hup hJ hD
 ·refine hI.on ?_ hup
  have h:=(mM (hI.at_ hup.mem)).pull (rY hi) aR.here;rw[show bX X Y C i=I5 X Y C i from if_pos hu]at h;have h1:Inv (bg X Y C).own w w (eF (X.d i) (X.mr i) (Y.m i).wb (C.S i).D::two (rb i (Y.m i).b (Y.m i).l (Y.m i).vb (Y.m i).ra (Y.m i).rc (C.S i)) (two (mK (Y.m i).ra (Y.m i).rc (C.S i).aV) (two (lI (AP (C.S i).D (C.S i).cnt (C.S i).used)) (blk (Y.m i).l 185 (lcs (X.d i) (C.S i).cnt (C.S i).used))))::fQ ((List.range 5).erase i) (bX X Y C)::ku X Y.q C.B::blk X.cb 86 (a_ X Y C)::[fQ (List.range 5) (eQ Y C)]):=h.turn (λhs y hy=>by
   obtain⟨g1,g2,g3,g4,g5⟩:=hs (I5 X Y C i) SI;rcases List.mem_cons.1 hy with rfl|hy
   ·exact g5
   rcases List.mem_cons.1 hy with rfl|hy
   ·exact⟨g1,g2,g3,g4⟩
   ·exact hs y (List.mem_cons_of_mem _ hy)) (by
   rw[List.perm_iff_count];intro x;simp only[owned,List.flatMap_cons,List.count_append,two,lg];omega)
  have h2:=h1.on hJ jy;refine qF ?_;rw[Ed,Gm];have h3:Inv (bg X Y C).own w w' (bX X (yf Y i wb) (pV C i D) i::fQ ((List.range 5).erase i) (bX X Y C)::ku X Y.q C.B::blk X.cb 86 (a_ X Y C)::[fQ (List.range 5) (eQ Y C)]):=by
   rw[LF X Y C i hu wb D];exact h2.turn (λhs y hy=>by
    have g0:=hs (eF (X.d i) (X.mr i) wb D) SI;obtain⟨g1,g2,g3,g4⟩:=hs (two (rb i (Y.m i).b (Y.m i).l (Y.m i).vb (Y.m i).ra (Y.m i).rc (C.S i)) (two (mK (Y.m i).ra (Y.m i).rc (C.S i).aV) (two (lI (AP (C.S i).D (C.S i).cnt (C.S i).used)) (blk (Y.m i).l 185 (lcs (X.d i) (C.S i).cnt (C.S i).used))))) SI;rcases List.mem_cons.1 hy with rfl|hy
    ·have hL:=g1.1
     exact⟨⟨⟨hL.view,hL.own,hL.bV,hL.sl,hL.acc,hL.book,hL.told,hL.last,hL.aK⟩,g1.2.1,g1.2.2⟩,g2,hD2 g3,g4,g0⟩
    ·exact hs y (List.mem_cons_of_mem _ (List.mem_cons_of_mem _ hy))) (by
    rw[List.perm_iff_count];intro x;simp only[owned,List.flatMap_cons,List.count_append,two,lg,lI,blk,List.count_nil];omega)
  exact h3.push List.nodup_range (rY hi) rfl (λj _ hj=>KQ X Y C hj wb D) aR.here
end
def uy(C:CS)(i:Nat)(mask iQ cut:Int):CS:={C with past:=gL C.past i (iO C i),up:=gL C.up i false,S:=gL C.S i {C.S i with D:=rQ (C.S i).D mask iQ cut}}
def oD(C:CS)(z:List Int):CS×Int:=
 if ¬(0<=gi z 1∧gi z 1<5)then(C,5)
 else
  let i:=(gi z 1).toNat
  if 0<=gi z 0∧gi z 0<5 then(if pM C i=true then(rM C i (fG i (rs C i) (gi z 0) (gi z 2) (gi z 3) (gi z 4) (sub z 5 3)).1,(fG i (rs C i) (gi z 0) (gi z 2) (gi z 3) (gi z 4) (sub z 5 3)).2)else(C,4))
  else if 5<=gi z 0∧gi z 0<8 then(if 0<=gi z 2∧gi z 2<5∧gi z 2≠gi z 1 then wU C (gi z 0) i (gi z 2).toNat (gi z 4)else(C,5))
  else if gi z 0=8 then(if pM C i=true then(rM C i (rC i (rs C i)),0)else(C,4))
  else if gi z 0=9 then(pV C i {(C.S i).D with armed:=true,left:=max (gi z 4) 0},0)
  else if gi z 0=10 then(uy C i (gi z 8) (gi z 9) (gi z 10),0)
  else if gi z 0=11 then k_ C i
  else(C,5)
end
section
open A (QE jJ bu)
theorem Inv.aby{T:List Nat}{w0 w:World}{m m':List aG}(h:Inv T w0 w m)(hs:∀r∈m',r∈m)(hp:∀x:Nat,(owned m').count x=(owned m).count x):Inv T w0 w m':=
 h.turn (λh1 r hr=>h1 r (hs r hr)) (List.perm_iff_count.2 hp)
theorem afb:(prog.info? 83).map (·.size)=some 1:=by kernel_rfl
def mD(Y:CY)(i:Nat)(a:Option Addr)(c:Nat):CY:={Y with m:=gL Y.m i {Y.m i with pa:=a,pc:=c}}
def sG(C:CS)(i:Nat)(l:List (List Int)):CS:={C with past:=gL C.past i l}
def uN(C:CS)(i:Nat):CS:={C with up:=gL C.up i false}
theorem Qv(Y:CY)(i:Nat)(a:Option Addr)(c:Nat)(j:Nat):((mD Y i a c).m j).b=(Y.m j).b∧((mD Y i a c).m j).l=(Y.m j).l∧((mD Y i a c).m j).vb=(Y.m j).vb∧((mD Y i a c).m j).rc=(Y.m j).rc∧((mD Y i a c).m j).ra=(Y.m j).ra∧((mD Y i a c).m j).wb=(Y.m j).wb:=by
 unfold mD gL;dsimp only;split
 ·rename_i h;subst h;exact⟨rfl,rfl,rfl,rfl,rfl,rfl⟩
 ·exact⟨rfl,rfl,rfl,rfl,rfl,rfl⟩
theorem Tt(X:CX)(Y:CY)(C:CS)(i:Nat)(a:Option Addr)(c:Nat)(l:List (List Int)):bX X (mD Y i a c) (sG C i l)=bX X Y C:=by
 funext j;obtain⟨e1,e2,e3,e4,e5,e6⟩:=Qv Y i a c j;unfold bX I5 L_;rw[e1,e2,e3,e4,e5,e6];rfl
theorem X0(Y:CY)(C:CS){i j:Nat}(h:j≠i)(a:Option Addr)(c:Nat)(l:List (List Int)):eQ (mD Y i a c) (sG C i l) j=eQ Y C j:=by
 unfold eQ;exact W94
theorem X3(Y:CY)(C:CS)(i:Nat)(a:Option Addr)(c:Nat)(l:List (List Int)):eQ (mD Y i a c) (sG C i l) i=mK a c l:=by
 unfold eQ;rw[show(mD Y i a c).m i={Y.m i with pa:=a,pc:=c}from bJ _ _ _,show(sG C i l).past i=l from bJ _ _ _]
theorem LG(X:CX)(Y:CY)(C:CS){i:Nat}(hi:i<5)(a:Option Addr)(c:Nat)(l:List (List Int)):splice (a_ X Y C) (11+i) [.slice a l.length c]=a_ X (mD Y i a c) (sG C i l):=by
 unfold a_;rw[Sl _ _ _ _ _ hi];refine kR (λ_ _=>rfl) (λj _=>?_) (λj _=>?_)
 ·unfold vK;rw[(Qv Y i a c j).1];rfl
 ·by_cases h:j=i
  ·subst h
   rw[bJ,D7,show(mD Y j a c).m j={Y.m j with pa:=a,pc:=c}from bJ _ _ _,show(sG C j l).past j=l from bJ _ _ _]
  ·rw[bZ _ _ h]
   unfold D7;exact W94
theorem LH(X:CX)(Y:CY)(C:CS){i:Nat}(hi:i<5):splice (a_ X Y C) (6+i) [.pointer none]=a_ X Y (uN C i):=by
 unfold a_;rw[Af _ _ _ _ _ hi];refine kR (λ_ _=>rfl) (λj _=>?_) (λj _=>rfl);by_cases h:j=i
 ·subst h
  rw[bJ,vK,if_neg (by rw[show(uN C j).up j=false from bJ _ _ _];simp)]
 ·rw[bZ _ _ h]
  unfold vK;rw[show(uN C i).up j=C.up j from bZ _ _ h]
section
variable {ops:Array Oper}{Q:Exit->Act->World->Prop}{ac:Act}{rest:List Oper}{T:List Nat}{w0 w:World}{m m':List aG}{dst:Option Tmp}{ty:TypeId}{pos:String}{af:Array Edge}{x y:Operand}
variable {X:CX}{Y:CY}{C:CS}{i bz:Nat}{z:List Int}
theorem X4{a:Option Addr}{c:Nat}{l:List (List Int)}(hi:i<5)(hI:Inv T w0 w [bf 117 3 (.slice a l.length c) l.length (wS l),ib bz 50 z,bg X Y C])(h3:∀r∈l,r.length=3)
  (hx:ac.eval x=.pointer (some ⟨X.cb,11+i,none⟩)) (hy:ac.eval y=.slice a l.length c)
  (k:∀w',Inv T w0 w' [ib bz 50 z,bg X (mD Y i a c) (sG C i l)]->wpList prog ops Q rest (ac.put dst undef) w'):
  wpList prog ops Q (⟨dst,.store 83 x y,ty,pos,af,none⟩::rest) ac w:=by
 have h1:=(mM (hI.perm (m':=[bg X Y C,bf 117 3 (.slice a l.length c) l.length (wS l),ib bz 50 z]) (List.perm_append_comm (l₁:=[bg X Y C]) (l₂:=[bf 117 3 (.slice a l.length c) l.length (wS l),ib bz 50 z]))));have h2:=h1.pull (I:=List.range 5) (f:=eQ Y C) (rY hi) (.there (.there (.there .here)));have h3':Inv T w0 w [blk X.cb 86 (a_ X Y C),bf 117 3 (.slice a l.length c) l.length (wS l),fQ (List.range 5) (bX X Y C),ku X Y.q C.B,fQ ((List.range 5).erase i) (eQ Y C),ib bz 50 z]:=(h2.sub (.cons _ (.refl _))).aby (λr hr=>by
   simp only[List.mem_cons,List.not_mem_nil,or_false]at hr|-;rcases hr with h|h|h|h|h|h<;>simp[h]) (λr=>by
   simp only[owned,List.flatMap_cons,List.count_append,List.flatMap_nil,List.count_nil];omega)
 refine aN (b:=X.cb) (off:=11+i) (e:=86) (cs:=a_ X Y C) (vs:=[.slice a l.length c]) (n:=1) (m':=[blk X.cb 86 (splice (a_ X Y C) (11+i) [.slice a l.length c]),bf 117 3 (.slice a l.length c) l.length (wS l),fQ (List.range 5) (bX X Y C),ku X Y.q C.B,fQ ((List.range 5).erase i) (eQ Y C),ib bz 50 z]) h3' hx (by rw[hy];rfl) jy afb rfl (by show 11+i+1<=16;omega) (by intro u hu;rw[List.mem_singleton.1 hu];rfl) (λw' h=>k w' ?_);rw[LG X Y C hi a c l]at h;have h4:Inv T w0 w' [eQ (mD Y i a c) (sG C i l) i,fQ ((List.range 5).erase i) (eQ Y C),fQ (List.range 5) (bX X Y C),ku X Y.q C.B,blk X.cb 86 (a_ X (mD Y i a c) (sG C i l)),ib bz 50 z]:=by
  rw[X3];exact h.turn (λhs r hr=>by
   simp only[List.mem_cons,List.not_mem_nil,or_false]at hr;rcases hr with rfl|rfl|rfl|rfl|rfl|rfl
   ·exact⟨h3,hs _ SI⟩
   all_goals exact hs _ SI) (by
   rw[List.perm_iff_count];intro r;simp only[owned,List.flatMap_cons,List.count_append,two,lI,List.flatMap_nil,List.count_nil];omega)
 have h5:=h4.push (g:=eQ (mD Y i a c) (sG C i l)) List.nodup_range (rY hi) rfl (λj _ hj=>X0 Y C hj a c l) .here;have h6:=qF (X:=X) (Y:=mD Y i a c) (C:=sG C i l) (m:=[ib bz 50 z]) (by
  rw[Tt];exact h5.aby (λr hr=>by
   simp only[List.mem_cons,List.not_mem_nil,or_false]at hr|-;rcases hr with h|h|h|h|h
   ·right;left;exact h
   ·right;right;left;exact h
   ·right;right;right;left;exact h
   ·left;exact h
   ·right;right;right;right;exact h) (λr=>by
   simp only[owned,List.flatMap_cons,List.count_append,List.flatMap_nil,List.count_nil,mD,sG];omega))
 exact h6.jr
theorem IV(X:CX)(Y:CY)(C:CS){i j:Nat}(h:j≠i):bX X Y (uN C i) j=bX X Y C j:=by
 unfold bX I5 L_;rw[show(uN C i).up j=C.up j from bZ _ _ h];rfl
theorem IW(X:CX)(Y:CY)(C:CS)(i:Nat):bX X Y (uN C i) i=L_ X Y C i:=by
 unfold bX;rw[if_neg (by rw[show(uN C i).up i=false from bJ _ _ _];simp)];rfl
theorem abz(h:Inv T w0 w (bX X Y C i::m)):Inv T w0 w (L_ X Y C i::m):=by
 obtain⟨ub,hu⟩:=EQ (C.up i);cases ub
 ·rwa [show bX X Y C i=L_ X Y C i from if_neg (by simp[hu])]at h
 ·rw[show bX X Y C i=I5 X Y C i from if_pos hu]at h
  have h1:Inv T w0 w (L_ X Y C i::two (rb i (Y.m i).b (Y.m i).l (Y.m i).vb (Y.m i).ra (Y.m i).rc (C.S i)) (two (mK (Y.m i).ra (Y.m i).rc (C.S i).aV) (blk (Y.m i).l 185 (lcs (X.d i) (C.S i).cnt (C.S i).used)))::m):=h.turn (λhs y hy=>by
   obtain⟨g1,g2,g3,g4,g5⟩:=hs (I5 X Y C i) SI;rcases List.mem_cons.1 hy with rfl|hy
   ·exact⟨⟨g3.ok,g3.rest,by have:=g3.w60;omega⟩,g5⟩
   rcases List.mem_cons.1 hy with rfl|hy
   ·exact⟨g1,g2,g4⟩
   ·exact hs y (List.mem_cons_of_mem _ hy)) (by
   rw[List.perm_iff_count];intro x;simp only[owned,List.flatMap_cons,List.count_append,two,lg,lI,List.count_nil];omega)
  exact h1.sub (.cons_cons _ (.cons _ (List.Sublist.refl _)))
theorem X5(hi:i<5)(hI:Inv T w0 w [ib bz 50 z,bg X Y C])(hx:ac.eval x=.pointer (some ⟨X.cb,6+i,none⟩))(hy:ac.eval y=.pointer none)
  (k:∀w',Inv T w0 w' [ib bz 50 z,bg X Y (uN C i)]->wpList prog ops Q rest (ac.put dst undef) w'):
  wpList prog ops Q (⟨dst,.store 32 x y,ty,pos,af,none⟩::rest) ac w:=by
 have h1:=abz ((mM hI.jr).pull (rY hi) .here);have h2:Inv T w0 w [blk X.cb 86 (a_ X Y C),L_ X Y C i,fQ ((List.range 5).erase i) (bX X Y C),ku X Y.q C.B,fQ (List.range 5) (eQ Y C),ib bz 50 z]:=h1.aby (λr hr=>by
   simp only[List.mem_cons,List.not_mem_nil,or_false]at hr|-;rcases hr with h|h|h|h|h|h<;>simp[h]) (λr=>by
   simp only[owned,List.flatMap_cons,List.count_append,List.flatMap_nil,List.count_nil];omega)
 refine aN (b:=X.cb) (off:=6+i) (e:=86) (cs:=a_ X Y C) (vs:=[.pointer none]) (n:=1) (m':=[blk X.cb 86 (splice (a_ X Y C) (6+i) [.pointer none]),L_ X Y C i,fQ ((List.range 5).erase i) (bX X Y C),ku X Y.q C.B,fQ (List.range 5) (eQ Y C),ib bz 50 z]) h2 hx (by rw[hy];rfl) jy NT rfl (by show 6+i+1<=16;omega) (by intro u hu;rw[List.mem_singleton.1 hu];rfl) (λw' h=>k w' ?_);rw[LH X Y C hi]at h;have h4:Inv T w0 w' [bX X Y (uN C i) i,fQ ((List.range 5).erase i) (bX X Y C),ku X Y.q C.B,blk X.cb 86 (a_ X Y (uN C i)),fQ (List.range 5) (eQ Y C),ib bz 50 z]:=by
  rw[IW];exact h.aby (λr hr=>by
   simp only[List.mem_cons,List.not_mem_nil,or_false]at hr|-;rcases hr with h|h|h|h|h|h<;>simp[h]) (λr=>by
   simp only[owned,List.flatMap_cons,List.count_append,List.flatMap_nil,List.count_nil];omega)
 have h5:=h4.push (g:=bX X Y (uN C i)) List.nodup_range (rY hi) rfl (λj _ hj=>IV X Y C hj) .here;exact(qF (X:=X) (Y:=Y) (C:=uN C i) (m:=[ib bz 50 z]) h5).jr
end
end
section
variable (w0:World)(X:CX)(Y:CY)(C:CS)(z:List Int)(hz:z.length=11)(hI:Inv (bg X Y C).own w0 w0 [bg X Y C])
include hz hI
variable (i:Nat)(hi:i<5)(h1:gi z 1=(i:Int))
include hi h1
theorem abA(h0:gi z 0<0∨11<gi z 0):
  Calls prog 19 #[.pointer (some ⟨X.cb,0,none⟩),ia z] w0 λe w'=>∃Y',e=.returned (.int .i64 (oD C z).2)∧Inv (bg X Y C).own w0 w' [bg X Y' (oD C z).1]:=by
 obtain⟨W,hW⟩:=EH (oD C z);rw[hW.out];have hW2:Hid (W=(C,5)):=HD (by
  rw[<-hW.out,oD,if_neg OM];dsimp only;rw[if_neg OM,if_neg OM,if_neg OM,if_neg OM,if_neg OM,if_neg OM])
 have k0:(gi z 0==0)=false:=by simp;omega
 have k1:(gi z 0==1)=false:=by simp;omega
 have k2:(gi z 0==2)=false:=by simp;omega
 have k3:(gi z 0==3)=false:=by simp;omega
 have k4:(gi z 0==4)=false:=by simp;omega
 have k5:(gi z 0==5)=false:=by simp;omega
 have k6:(gi z 0==6)=false:=by simp;omega
 have k7:(gi z 0==7)=false:=by simp;omega
 have k8:(gi z 0==8)=false:=by simp;omega
 have k9:(gi z 0==9)=false:=by simp;omega
 have k10:(gi z 0==10)=false:=by simp;omega
 have k11:(gi z 0==11)=false:=by simp;omega
 clear hW h0;go_enter func19,ntmps19;go_wp2_with(first|refine YL ?_|refine YX ?_;intro bx w hI|go_at_call 38;refine KR (i_ _ _ i hi) ?_);go_ret;rw[hW2.out];exact⟨Y,rfl,hI.tl⟩
end
