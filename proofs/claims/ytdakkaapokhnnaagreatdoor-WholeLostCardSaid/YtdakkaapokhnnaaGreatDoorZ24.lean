/- Contracts of functions. No condition. -/
import Derived.Test.YtdakkaapokhnnaaGreatDoorZ16
import Derived.Test.YtdakkaapokhnnaaGreatDoorZ17
import Derived.Test.YtdakkaapokhnnaaGreatDoorZ22
namespace Go.Proofs.YtdakkaapokhnnaaGreatDoor
open Go.RowKit Go.Proofs.Tryz
set_option maxRecDepth 100000
set_option maxHeartbeats 6400000
set_option linter.all false
section
open A (QE jJ bu)
theorem i_(w0:World)(cb i:Nat)(hi:i<5):Calls prog 38 #[.pointer (some ⟨cb,0,none⟩),.int .i64 (i:Int)] w0 λe w'=>e=.returned (.bool true)∧w'=w0:=by
 have h1:decide ((0:Int)<=(i:Int))=true:=by simp
 have h2:decide ((i:Int) <5)=true:=by simp;omega
 exact W80
theorem Sn(w0:World)(cb:Nat)(z:Int)(hz:z<0∨5<=z):Calls prog 38 #[.pointer (some ⟨cb,0,none⟩),.int .i64 z] w0 λe w'=>e=.returned (.bool false)∧w'=w0:=by
 by_cases h0:z<0
 ·have h1:decide ((0:Int)<=z)=false:=by simp;omega
  exact W80
 ·have h1:decide ((0:Int)<=z)=true:=by simp;omega
  have h2:decide (z<5)=false:=by simp;omega
  exact W80
def pM(C:CS)(i:Nat):Bool:=C.up i&& !(C.S i).D.down
theorem gH(X:CX)(Y:CY)(C:CS):(a_ X Y C)[0]? =some (.pointer (some ⟨X.p,0,none⟩)):=rfl
section
variable {T:List Nat}{w0 w:World}{m:List aG}{X:CX}{Y:CY}{C:CS}{i:Nat}
theorem yF(hi:i<5)(hI:Inv T w0 w m)(hm:bg X Y C∈m)(b:Bool)(hb:Hid (pM C i=b)):Calls prog 33 #[.pointer (some ⟨X.cb,0,none⟩),.int .i64 (i:Int)] w λe w'=>e=.returned (.bool b)∧w'=w:=by
 have h1:decide ((0:Int)<=(i:Int))=true:=by simp
 have h2:decide ((i:Int) <5)=true:=by simp;omega
 have hcd:(a_ X Y C)[1+i]? =some (.pointer (some ⟨X.d i,0,none⟩)):=x_ _ _ _ _ hi;cases hu:C.up i
 ·have hcm:(a_ X Y C)[6+i]? =some (.pointer none):=by rw[<-D_ (Y:=Y) hu];exact rO _ _ _ _ hi
  obtain rfl:b=false:=by rw[<-hb.out,pM,hu];rfl
  go_enter func33,ntmps33;go_wp2_with(first|refine YL ?_|with_reducible refine au (dV hI RF hm aO.out hcm) ?_|go_at_call 38;refine KR (i_ _ _ i hi) ?_);go_ret;exact⟨rfl,rfl⟩
 ·have hcm:(a_ X Y C)[6+i]? =some (.pointer (some ⟨(Y.m i).b,0,none⟩)):=by rw[<-qi (Y:=Y) hu];exact rO _ _ _ _ hi
  obtain⟨dn,aev⟩:=EQ ((C.S i).D.down);obtain rfl:b= !dn:=by rw[<-hb.out,pM,hu,aev];rfl
  have hdn:=HD aev;clear aev hb;cases dn
  ·exact W41
  ·exact W41
theorem um(hi:i<5)(hI:Inv T w0 w m)(hm:bg X Y C∈m):Calls prog 13 #[.pointer (some ⟨X.cb,0,none⟩),.int .i64 (i:Int)] w λe w'=>e=.returned (if pM C i=true then .pointer (some ⟨(Y.m i).b,0,none⟩)else .pointer none)∧w'=w:=by
 have h1:decide ((0:Int)<=(i:Int))=true:=by simp
 have h2:decide ((i:Int) <5)=true:=by simp;omega
 cases kV:pM C i
 ·have hub:=HD kV
  rw[if_neg SI];clear kV;go_enter func13,ntmps13;go_wp2_with(go_at_call 33;refine KR (yF hi hI hm _ hub) ?_);go_ret;exact⟨rfl,rfl⟩
 ·have hub:=HD kV
  have hu:C.up i=true:=by rw[pM,Bool.and_eq_true]at kV;exact kV.1
  have hcm:(a_ X Y C)[6+i]? =some (.pointer (some ⟨(Y.m i).b,0,none⟩)):=by rw[<-qi (Y:=Y) hu];exact rO _ _ _ _ hi
  rw[if_pos rfl];clear kV;go_enter func13,ntmps13;go_wp2_with(first|go_at_call 33;refine KR (yF hi hI hm _ hub) ?_|with_reducible refine au (dV hI RF hm aO.out hcm) ?_);go_ret;exact⟨rfl,rfl⟩
theorem aaL(hi:i<5)(hI:Inv T w0 w m)(hm:bg X Y C∈m):Calls prog 59 #[.pointer (some ⟨X.cb,0,none⟩),.int .i64 (i:Int)] w λe w'=>e=.returned (.pointer (some ⟨X.d i,0,none⟩))∧w'=w:=by
 have h1:decide ((0:Int)<=(i:Int))=true:=by simp
 have h2:decide ((i:Int) <5)=true:=by simp;omega
 have hcd:(a_ X Y C)[1+i]? =some (.pointer (some ⟨X.d i,0,none⟩)):=x_ _ _ _ _ hi;go_enter func59,ntmps59;go_wp2_with(first|go_at_call 38;refine KR (i_ _ _ i hi) ?_|with_reducible refine au (dV hI RF hm aO.out hcd) ?_);go_ret;exact⟨rfl,rfl⟩
end
end
section
open A (QE jJ bu)
def yf(Y:CY)(i:Nat)(wb:Option Nat):CY:={Y with m:=gL Y.m i {Y.m i with wb:=wb}}
def pV(C:CS)(i:Nat)(D:DS):CS:={C with S:=gL C.S i {C.S i with D:=D}}
theorem Ec(Y:CY)(i:Nat)(wb:Option Nat)(j:Nat):((yf Y i wb).m j).b=(Y.m j).b∧((yf Y i wb).m j).pa=(Y.m j).pa∧((yf Y i wb).m j).pc=(Y.m j).pc:=by
 unfold yf gL;dsimp only;split
 ·rename_i h;subst h;exact⟨rfl,rfl,rfl⟩
 ·exact⟨rfl,rfl,rfl⟩
theorem Ed(X:CX)(Y:CY)(C:CS)(i:Nat)(wb:Option Nat)(D:DS):a_ X (yf Y i wb) (pV C i D)=a_ X Y C:=by
 refine kR (λ_ _=>rfl) (λj _=>?_) (λj _=>?_)
 ·unfold vK;rw[(Ec Y i wb j).1];rfl
 ·unfold D7;rw[(Ec Y i wb j).2.1,(Ec Y i wb j).2.2];rfl
theorem KQ(X:CX)(Y:CY)(C:CS){i j:Nat}(h:j≠i)(wb:Option Nat)(D:DS):bX X (yf Y i wb) (pV C i D) j=bX X Y C j:=by
 have e1:(yf Y i wb).m j=Y.m j:=bZ _ _ h;have e2:(pV C i D).S j=C.S j:=bZ _ _ h;unfold bX I5 L_;rw[e1,e2];rfl
theorem Gm(Y:CY)(C:CS)(i:Nat)(wb:Option Nat)(D:DS):eQ (yf Y i wb) (pV C i D)=eQ Y C:=by
 funext j;unfold eQ;rw[(Ec Y i wb j).2.1,(Ec Y i wb j).2.2];rfl
theorem Ee{rd:Int->List UInt8}(he:yQ rd):∀(n cnt used:Nat),cnt<=used->used<=2048->(lS rd n cnt used).2.1<=(lS rd n cnt used).2.2∧(lS rd n cnt used).2.2<=2048
 |0,cnt,used,h1,h2=>⟨h1,h2⟩
 |n+1,cnt,used,h1,h2=>by
  unfold lS;cases hst:l_ rd ((cnt:Int)+1) used with
  |none=>exact⟨h1,h2⟩
  |some x=>
   obtain⟨b,all⟩:=x;obtain⟨e1,e2,e3,e4⟩:=Az he hst;exact Ee he n (cnt+1) (used+all) OM OM
theorem Il:∀(n at_:Nat) (D:DS),wQ D->at_+n<=2048->wQ (iI D at_ n).1∧(iI D at_ n).1.waits.length<=D.waits.length+n∧((iI D at_ n).2≠0->(iI D at_ n).1.down=true)∧(D.down=true->(iI D at_ n).1.waits=D.waits∧(iI D at_ n).1.down=true)
 |0,at_,D,h,_=>⟨h,by simp[iI],λh=>absurd rfl h,λh=>⟨rfl,h⟩⟩
 |n+1,at_,D,h,hb=>by
  unfold iI
  split
  ·obtain⟨a,b,c,d⟩:=Il n (at_+1) D h OM
   exact⟨a,by omega,c,d⟩
  ·have hw:bK D at_ []=if D.down=true∨(D.armed=true∧D.left=0)then({D with down:=true},4)else({D with left:=if D.armed then D.left-1 else D.left,waits:=D.waits++[((at_:Int),pad [])]},0):=by
    unfold bK;rw[if_neg (by simp;omega)]
   have hok:=wo h (at_:Int) (bs:=[]);by_cases hd:D.down=true∨(D.armed=true∧D.left=0)
   ·rw[if_pos hd]at hw
    rw[hw]at hok;rw[hw,if_neg SI];exact⟨hok,by simp,λ_=>rfl,λ_=>⟨rfl,rfl⟩⟩
   ·rw[if_neg hd]at hw
    rw[hw]at hok;rw[hw,if_pos rfl];obtain⟨a,b,c,d⟩:=Il n (at_+1) _ hok OM;exact⟨a,Nat.le_trans b (by simp only[List.length_append,List.length_singleton];omega),c,λh=>absurd (.inl h) hd⟩
theorem aaN{D:DS}(h:EU D)(hE:yQ (eP D)):EU (dZ D).2.1∧∀bs cnt used,(dZ D).1=some (bs,cnt,used)->AP (dZ D).2.1 cnt used:=by
 obtain⟨b1,b2⟩:=Ee hE 2049 0 0 (Nat.le_refl _) OM;obtain⟨a,b,c,d⟩:=Il (2048- (lS (eP D) 2049 0 0).2.2) (lS (eP D) 2049 0 0).2.2 D h.ok OM;have hw:=h.w;have hwb:(iI D (lS (eP D) 2049 0 0).2.2 (2048- (lS (eP D) 2049 0 0).2.2)).1.waits.length<=3000:=by
  rcases h.rest with h1|h1
  ·rw[(d h1).1];exact hw
  ·rw[h1]at b;simp at b;omega
 unfold dZ;dsimp only;generalize iI D (lS (eP D) 2049 0 0).2.2 (2048- (lS (eP D) 2049 0 0).2.2)=v at*;generalize lS (eP D) 2049 0 0=r at*
 split
 ·rename_i hv
  have hq:di v.1=if v.1.down then(v.1,4)else({v.1 with sure:=pE v.1.sure v.1.waits,waits:=[]},0):=rfl
  have hok:=Da a;by_cases hdn:v.1.down=true
  ·rw[if_pos hdn]at hq
   rw[hq]at hok;rw[hq,if_neg SI];exact⟨⟨a,.inl hdn,hwb⟩,λbs cnt used hh=>by cases hh⟩
  ·rw[if_neg hdn]at hq
   rw[hq]at hok;rw[hq,if_pos rfl];refine⟨⟨hok,.inr rfl,by simp⟩,λbs cnt used hh=>?_⟩;simp only[Option.some.injEq]at hh;rw[hh]at b1 b2;exact⟨hok,b1,b2,by simp,.inr rfl⟩
 ·rename_i hv
  exact⟨⟨a,.inl (c hv),hwb⟩,λbs cnt used hh=>by cases hh⟩
theorem pW:∀(l:List (List UInt8)) (S S':RS),fM S l=some S'->S'.D=S.D∧S'.cnt=S.cnt∧S'.used=S.used∧S'.aV=S.aV∧S'.B=S.B
 | [],S,S',h=>by cases h;exact⟨rfl,rfl,rfl,rfl,rfl⟩
 |b::l,S,S',h=>by
  obtain⟨x,hx,h2⟩:=Option.bind_eq_some_iff.1 h;obtain⟨h3,h4,h5,h6,h7⟩:=pW l _ S' h2;cases x<;>exact⟨h3,h4,h5,h6,h7⟩
section
variable {T:List Nat}{w0 w w':World}{m m':List aG}{X:CX}{Y:CY}{C:CS}{i:Nat}
theorem Im(hi:i<5)(hu:C.up i=false)(hI:Inv T w0 w m)(hm:bg X Y C∈m):Inv (eF (X.d i) (X.mr i) (Y.m i).wb (C.S i).D).own w w [eF (X.d i) (X.mr i) (Y.m i).wb (C.S i).D]:=by
 have h:=(mM (hI.at_ hm)).pull (rY hi) aR.here;rw[show bX X Y C i=L_ X Y C i from if_neg (by simp[hu])]at h;exact jT h aA
theorem NP(hi:i<5)(hu:C.up i=false)(hI:Inv T w0 w m){wb:Option Nat}{D:DS}(hup:aR (bg X Y C) (bg X (yf Y i wb) (pV C i D)) m m')
  (hJ:Inv (eF (X.d i) (X.mr i) (Y.m i).wb (C.S i).D).own w w' [eF (X.d i) (X.mr i) wb D]) (hD:EU D):Inv T w0 w' m':=by
 refine hI.on ?_ hup;have h:=(mM (hI.at_ hup.mem)).pull (rY hi) aR.here;rw[show bX X Y C i=L_ X Y C i from if_neg (by simp[hu])]at h;have h2:=wE h hJ jy;have h3:=(h2.dz.F7 (q:=EU D) (λ_=>hD)).dO;refine qF ?_;rw[Ed,Gm];refine h3.push List.nodup_range (rY hi) ?_ (λj _ hj=>KQ X Y C hj wb D) aR.here;unfold bX;rw[if_neg (show ¬(pV C i D).up i=true by simp[pV,hu])];show _=two (lI (EU ((pV C i D).S i).D)) (eF (X.d i) (X.mr i) ((yf Y i wb).m i).wb ((pV C i D).S i).D);rw[show(pV C i D).S i={C.S i with D:=D}from bJ _ _ _,show(yf Y i wb).m i={Y.m i with wb:=wb}from bJ _ _ _]
def EW(Y:CY)(i b l:Nat)(wb:Option Nat):CY:={Y with m:=gL Y.m i {Y.m i with b:=b,l:=l,vb:=0,rc:=0,ra:=none,wb:=wb}}
def BC(C:CS)(i:Nat)(S:RS):CS:={C with up:=gL C.up i true,S:=gL C.S i S}
theorem NR(X:CX)(Y:CY)(C:CS){i j:Nat}(h:j≠i)(b l:Nat)(wb:Option Nat)(S:RS):bX X (EW Y i b l wb) (BC C i S) j=bX X Y C j:=by
 have e1:(EW Y i b l wb).m j=Y.m j:=bZ _ _ h;have e2:(BC C i S).S j=C.S j:=bZ _ _ h;have e3:(BC C i S).up j=C.up j:=bZ _ _ h;unfold bX I5 L_;rw[e1,e2,e3]
theorem NS(X:CX)(Y:CY)(C:CS)(i b l:Nat)(wb:Option Nat)(S:RS)(hr:S.aV=[]):bX X (EW Y i b l wb) (BC C i S) i=two (rb i b l 0 none 0 S) (two (mK none 0 []) (two (lI (AP S.D S.cnt S.used)) (lg l (X.d i) (X.mr i) wb S.D S.cnt S.used))):=by
 have e1:(EW Y i b l wb).m i={Y.m i with b:=b,l:=l,vb:=0,rc:=0,ra:=none,wb:=wb}:=bJ _ _ _;have e2:(BC C i S).S i=S:=bJ _ _ _;have e3:(BC C i S).up i=true:=bJ _ _ _;unfold bX I5;rw[if_pos e3,e1,e2,hr]
theorem WC(Y:CY)(C:CS)(i b l:Nat)(wb:Option Nat)(S:RS):eQ (EW Y i b l wb) (BC C i S)=eQ Y C:=by
 funext j;have e:((EW Y i b l wb).m j).pa=(Y.m j).pa∧((EW Y i b l wb).m j).pc=(Y.m j).pc:=by
  unfold EW gL;dsimp only;split
  ·rename_i h;subst h;exact⟨rfl,rfl⟩
  ·exact⟨rfl,rfl⟩
 unfold eQ;rw[e.1,e.2];rfl
theorem Su(X:CX)(Y:CY)(C:CS){i:Nat}(hi:i<5)(b l:Nat)(wb:Option Nat)(S:RS):splice (a_ X Y C) (6+i) [.pointer (some ⟨b,0,none⟩)]=a_ X (EW Y i b l wb) (BC C i S):=by
 unfold a_;rw[Af _ _ _ _ _ hi];refine kR (λ_ _=>rfl) (λj _=>?_) (λj _=>?_)
 ·by_cases h:j=i
  ·subst h
   rw[bJ,vK,if_pos (show(BC C j S).up j=true from bJ _ _ _),show(EW Y j b l wb).m j={Y.m j with b:=b,l:=l,vb:=0,rc:=0,ra:=none,wb:=wb}from bJ _ _ _]
  ·rw[bZ _ _ h]
   unfold vK;rw[show(EW Y i b l wb).m j=Y.m j from bZ _ _ h,show(BC C i S).up j=C.up j from bZ _ _ h]
 ·have e:((EW Y i b l wb).m j).pa=(Y.m j).pa∧((EW Y i b l wb).m j).pc=(Y.m j).pc:=by
   unfold EW gL;dsimp only;split
   ·rename_i h;subst h;exact⟨rfl,rfl⟩
   ·exact⟨rfl,rfl⟩
  unfold D7;rw[e.1,e.2];rfl
theorem aew(hi:i<5)(hu:C.up i=false){b l:Nat}{wb:Option Nat}{S:RS}(hr:S.aV=[])(hL:AP S.D S.cnt S.used)
  (hI:Inv (bg X Y C).own w0 w [bg X Y C])
  (hJ:Inv (eF (X.d i) (X.mr i) (Y.m i).wb (C.S i).D).own w w' [two (rb i b l 0 none 0 S) (lI True),eF (X.d i) (X.mr i) wb S.D,blk l 185 (lcs (X.d i) S.cnt S.used)]):
  Inv (bg X Y C).own w0 w' [blk X.cb 86 (a_ X Y C),bX X (EW Y i b l wb) (BC C i S) i,fQ ((List.range 5).erase i) (bX X Y C),ku X Y.q C.B,fQ (List.range 5) (eQ Y C)]:=by
 have h:=(mM hI).pull (rY hi) aR.here;rw[show bX X Y C i=L_ X Y C i from if_neg (by simp[hu])]at h;have h2:Inv (bg X Y C).own w0 w (eF (X.d i) (X.mr i) (Y.m i).wb (C.S i).D::fQ ((List.range 5).erase i) (bX X Y C)::ku X Y.q C.B::blk X.cb 86 (a_ X Y C)::[fQ (List.range 5) (eQ Y C)]):=h.dz.sub (.cons _ (.refl _));have hJ2:Inv (eF (X.d i) (X.mr i) (Y.m i).wb (C.S i).D).own w w' [two (two (rb i b l 0 none 0 S) (lI True)) (two (eF (X.d i) (X.mr i) wb S.D) (blk l 185 (lcs (X.d i) S.cnt S.used)))]:=
  (((hJ.perm (m':=[eF (X.d i) (X.mr i) wb S.D,blk l 185 (lcs (X.d i) S.cnt S.used),two (rb i b l 0 none 0 S) (lI True)]) (List.perm_append_comm (l₁:=[eF (X.d i) (X.mr i) wb S.D,blk l 185 (lcs (X.d i) S.cnt S.used)]) (l₂:=[two (rb i b l 0 none 0 S) (lI True)]))).dO).jr).dO
 have h3:=h2.on hJ2 jy;rw[NS X Y C i b l wb S hr];exact h3.turn (λhs y hy=>by
  obtain⟨⟨g1,_⟩,g2,g3⟩:=hs (two (two (rb i b l 0 none 0 S) (lI True)) (two (eF (X.d i) (X.mr i) wb S.D) (blk l 185 (lcs (X.d i) S.cnt S.used)))) SI;simp only[List.mem_cons,List.not_mem_nil,or_false]at hy;rcases hy with rfl|rfl|rfl|rfl|rfl
  ·exact hs _ SI
  ·exact⟨g1,⟨λr hr=>(by cases hr),by simp[wS],.inl ⟨rfl,rfl⟩⟩,hL,g3,g2⟩
  ·exact hs _ SI
  ·exact hs _ SI
  ·exact hs _ SI) (by
  rw[List.perm_iff_count];intro x;simp only[owned,List.flatMap_cons,List.count_append,two,lI,lg,bf,Value.ownBlock,List.flatMap_nil,List.count_nil,Option.toList];omega)
theorem aaO(hi:i<5){b l:Nat}{wb:Option Nat}{S:RS}(h:Inv T w0 w (blk X.cb 86 (a_ X (EW Y i b l wb) (BC C i S))::bX X (EW Y i b l wb) (BC C i S) i::fQ ((List.range 5).erase i) (bX X Y C)::ku X Y.q C.B::fQ (List.range 5) (eQ Y C)::m)):Inv T w0 w (bg X (EW Y i b l wb) (BC C i S)::m):=by
 refine qF ?_;rw[WC];have h2:Inv T w0 w (bX X (EW Y i b l wb) (BC C i S) i::fQ ((List.range 5).erase i) (bX X Y C)::ku X Y.q C.B::blk X.cb 86 (a_ X (EW Y i b l wb) (BC C i S))::fQ (List.range 5) (eQ Y C)::m):=
  Inv.sink (l1:=[_,_,_]) h
 exact h2.push List.nodup_range (rY hi) rfl (λj _ hj=>NR X Y C hj b l wb S) aR.here
end
end
theorem Xd(k:Int):eP iH k=jR 64:=rfl
theorem aiu:yQ (eP iH):=λk _=>by rw[Xd];simp[jR]
theorem acv:∀(n at_:Nat),iI iH at_ n=(iH,0)
 |0,at_=>rfl
 |n+1,at_=>by unfold iI;rw[if_pos (Xd _)];exact acv n (at_+1)
theorem aa0(number:Int)(used:Nat):l_ (eP iH) number used=none:=by
 cases h:l_ (eP iH) number used with
 |none=>rfl
 |some x=>
  obtain⟨b,all⟩:=x;unfold l_ at h
  split at h
  ·rename_i hp
   have:=xL hp;rw[Xd]at this;simp[jR]at this
  ·cases h
theorem agR:dZ iH=(some ([],0,0),(di iH).1,0):=by
 have hr:lS (eP iH) 2049 0 0=([],0,0):=by unfold lS;rw[aa0]
 unfold dZ;rw[hr];dsimp only;rw[acv];dsimp only;rw[if_pos rfl,if_pos (show(di iH).2=0 from rfl)]
theorem Qe:wQ iH:=⟨λp hp=>(by cases hp),λk=>by simp[iH,jR],⟨Int.le_refl 0,by show(0:Int) <9223372036854775808;omega⟩⟩
section
open A (QE jJ bu)
section
variable (w0:World)(p:Nat)(pb c:Nat->Nat)(q:Nat->List QE){i:Nat}(uO:i∈bu)(h:Inv (jJ 132 p pb c q).own w0 w0 [jJ 132 p pb c q])
include uO h
theorem ag9(a0:Option Addr)(c0:Nat)(b0:List UInt8)(qt:List QE)(hq:q i=(a0,c0,b0)::qt)(hcap:qt.length<8)(hl:b0.length<=100000):
  Calls prog 74 #[.pointer (some ⟨pb i,0,none⟩)] w0 λe w'=>e=.returned (.bool true)∧∃a1 c1,Inv (jJ 132 p pb c q).own w0 w' [jJ 132 p pb c (gL q i (qt++[(a1,c1,b0)]))]:=by
 have hI:=A.Ng h uO;rw[hq]at hI;refine(A.ZW w0 (pb i) (c i) 8 a0 c0 b0 qt (hI.sat _ aA) (hI.nd aA) hcap hl).mono ?_;exact afJ
theorem aeT(q0:QE)(qt:List QE)(hq:q i=q0::qt)(hcap:(q0::qt).length <8)(hl:q0.2.2.length<=100000):
  Calls prog 73 #[.pointer (some ⟨pb i,0,none⟩)] w0 λe w'=>e=.returned (.bool true)∧∃a1 c1,Inv (jJ 132 p pb c q).own w0 w' [jJ 132 p pb c (gL q i ((q0::qt)++[(a1,c1,q0.2.2)]))]:=by
 have hI:=A.Ng h uO;rw[hq]at hI;refine(A.Nc w0 (pb i) (c i) 8 q0 qt (hI.sat _ aA) (hI.nd aA) hcap OM hl).mono ?_;exact afJ
theorem aa9(hq:(q i).length=8):Calls prog 73 #[.pointer (some ⟨pb i,0,none⟩)] w0 λe w'=>e=.returned (.bool false)∧w'=w0:=
 A.Vi w0 (pb i) (c i) 8 (q i) ((A.Ng h uO).sat _ aA) (.inr ⟨by omega,hq⟩)
end
section
variable {T:List Nat}{w0 w w':World}{m m':List aG}{X:CX}{Y:CY}{C:CS}
theorem dm(hI:Inv T w0 w m)(hm:bg X Y C∈m):Inv (jJ 132 X.p X.pb X.c Y.q).own w w [jJ 132 X.p X.pb X.c Y.q]:=jT (rD hI hm) aA
theorem tF(hI:Inv T w0 w m)(hm:bg X Y C∈m):∀i,(Y.q i).map (λx=>x.2.2)=C.B i:=(hI.sat _ hm).1.1
theorem BH(hI:Inv T w0 w m){q':Nat->List QE}{B':Nat->List (List UInt8)}(hu:aR (bg X Y C) (bg X {Y with q:=q'} {C with B:=B'}) m m')
  (hJ:Inv (jJ 132 X.p X.pb X.c Y.q).own w w' [jJ 132 X.p X.pb X.c q']) (hB:∀i,(q' i).map (λx=>x.2.2)=B' i):Inv T w0 w' m':=by
 have h1:Inv (ku X Y.q C.B).own w w [ku X Y.q C.B]:=rD hI hu.mem;have h2:Inv (ku X Y.q C.B).own w w' [ku X q' B']:=((h1.dz.on hJ iR).F7 (λ_=>hB)).dO;exact y8 (x':=ku X q' B') hI h2 hu
theorem zw{z:aG}(hI:Inv T w0 w m){q':Nat->List QE}{B':Nat->List (List UInt8)}(hu:aR (bg X Y C) (bg X {Y with q:=q'} {C with B:=B'}) m m')
  (hJ:Inv (jJ 132 X.p X.pb X.c Y.q).own w w' [z,jJ 132 X.p X.pb X.c q']) (hB:∀i,(q' i).map (λx=>x.2.2)=B' i):Inv T w0 w' (z::m'):=by
 have h0:=hI.at_ hu.mem;have h1:Inv (bg X Y C).own w w [ku X Y.q C.B,two (blk X.cb 86 (a_ X Y C)) (two (fQ (List.range 5) (bX X Y C)) (fQ (List.range 5) (eQ Y C)))]:=h0.dz;have h2:=h1.dz;have h3:=h2.Ml hJ iR;have h4:Inv (bg X Y C).own w w' [z,bg X {Y with q:=q'} {C with B:=B'}]:=h3.turn (λhs y hy=>by
  simp only[List.mem_cons,List.not_mem_nil,or_false]at hy;rcases hy with rfl|rfl
  ·exact hs _ SI
  ·exact⟨⟨hB,hs (jJ 132 X.p X.pb X.c q') SI⟩,hs (two (blk X.cb 86 (a_ X Y C)) (two (fQ (List.range 5) (bX X Y C)) (fQ (List.range 5) (eQ Y C)))) SI⟩) (by
  show(owned [z,two (ku X q' B') (two (blk X.cb 86 (a_ X Y C)) (two (fQ (List.range 5) (bX X Y C)) (fQ (List.range 5) (eQ Y C))))]).Perm _;rw[List.perm_iff_count];intro x;simp only[owned,two,lI,List.flatMap_cons,List.count_append,List.count_nil,List.flatMap_nil];omega)
 exact hI.Ml h4 hu
theorem rH{q:Nat->List QE}{B:Nat->List (List UInt8)}(hB:∀i,(q i).map (λx=>x.2.2)=B i)(i:Nat)(v:List QE)(u:List (List UInt8))(h:v.map (λx=>x.2.2)=u):∀j,(gL q i v j).map (λx=>x.2.2)=gL B i u j:=λj=>by
 unfold gL;split
 ·exact h
 ·exact hB j
end
def o9(C:CS)(aeU:Bool)(f t:Nat)(b:List UInt8):CS×Int:=
 match A.dZ (UInt8.ofNat f) (UInt8.ofNat t) b with
 |none=>(C,0)
 |some bs=>if aeU=true∨pM C t=false then(C,0)else match Kr bs with
  |none=>(C,1)
  |some M=>(rM C t (kI t (rs C t) f M),0)
def wU(C:CS)(kind:Int)(f t:Nat)(n:Int):CS×Int:=
 match C.B (f*5+t)with
 | []=>(C,10)
 |b0::bt=>
  if kind=7 then(if bt.length+1=8 then(C,3)else({C with B:=gL C.B (f*5+t) ((b0::bt)++[b0])},0))
  else
   let k:=((max n 0) % ((bt.length+1:Nat):Int)).toNat
   match(b0::bt).drop k++(b0::bt).take k with
   | []=>(C,0)
   |b::r=>o9 {C with B:=gL C.B (f*5+t) r} (decide (kind=6)) f t b
end
section
open B (aI bQ nX)
theorem XE(z:Int):IntKind.i64.wrap z=wrap64 z:=by
 simp only[IntKind.wrap,IntKind.bits,IntKind.signed,wrap64];simp
 split<;>omega
section
variable (w0:World)(X:RX)(Y:RY)(S:RS)
theorem abd(c:List Int)(hcl:c.length=3)(hI:Inv (ah X Y S).own w0 w0 [ah X Y S]):
  Calls prog 85 #[.pointer (some ⟨X.b,0,none⟩),ia c] w0 λe' w'=>∃Y',e'=.returned (.int .i64 (bT X.f S c).2)∧Inv (ah X Y S).own w0 w' [ah X Y' (bT X.f S c).1]:=by
 have hvl:=(aQ hI aA).view;have hal:=(aQ hI aA).acc;obtain⟨b,hb0⟩:=EQ [wrap64 (S.round+1),(X.f:Int)];have hb2:b.length=2:=by rw[<-hb0];rfl
 have hzb:Hid (av (aj 2) [(0,[IntKind.i64.wrap (S.round+1)]),(1,[(X.f:Int)])]=b):=HD (by rw[XE];exact hb0);have hg0:gi b 0=wrap64 (S.round+1):=by rw[<-hb0];rfl
 have aiI:(nX S.view b c).length=16:=by simp[B.nX,hvl,hb2,hcl]
 obtain⟨⟨a',ok⟩,II⟩:=EQ (rW S.acc (gi S.view 0) b);have XF:a'.length=8:=by have:=K8 (e:=gi S.view 0) hal hb2;rw[II]at this;exact this
 have hak:=HD II;obtain⟨x0,kZ⟩:=EZ (Rec.tL (gi S.view 0) b);have hx0:x0.Len:=by rw[kZ];exact hb2
 have L6:Hid (av (aj 189) [(0,[3]),(176,[gi S.view 0]),(177,b)]=x0.mP):=HD (by rw[kZ];exact acj hb2);obtain⟨D',c',u',e',hP⟩:=tH S x0;have hF:Hid (bT X.f S c=if ok=true then(if e'=0 then({S with D:=D',cnt:=c',used:=u',acc:=a',round:=wrap64 (S.round+1),aK:=some (nX S.view b c,false)},0)else({S with D:=D',cnt:=c',used:=u'},e'))else(S,6)):=HD (by
  rw[bT];dsimp only;rw[hb0,II];dsimp only;rw[<-kZ,hP.out])
 clear II kZ hb0;cases ok
 ·have hF2:Hid (bT X.f S c=(S,6)):=HD (by rw[hF.out,if_neg SI])
  clear hF;go_enter func85,ntmps85;go_upto_region 1 with(refine YX ?_;intro bx w hI)
  (obtain⟨bc,hbx⟩:=EZ bx;subst hbx)
  (refine ZR [10,11] [0,1,2,3,4,5,6,7,8,9] [10] [0,1,2,3,4,5,6,7,8,9,10,11] (λw=>Inv (ah X Y S).own w0 w [ib bc 48 c,ah X Y S]) hI ?_;intro wd hI)
  (repeat(first| (refine ZA ?_;go_wp2_with(refine YS ?_;intro w hI);refine ji ?_) | (refine ZB ?_;go_wp2_with(refine YX ?_;intro bx w hI);(refine jN (hI.sub SB) ?_)) | ((refine jB RF RF RF RF (hI.sub SB) (by intro w (hI:Inv _ _ w _);first|with_reducible exact Ck hI|with_reducible exact vW hI|with_reducible exact Za| (unfold fP;go_simp;with_reducible rfl)) ?_);(simp only[QN]))));refine fC ?_
  rw[hzb.out]at hI;go_upto_region 2 with(fail)
  (refine aD [15,16] [13] [15,16] [13] [0,1,2,3,4,5,6,7,8,9,10,11,12,13] 14 [15,16] eO KF RF hI ?_;clear hI)
  (repeat(first| ((with_reducible refine' bC RF RF RF ?_ ?_ ?_);rotate_left;(focus(intro ex w (hI:Inv _ _ w _);go_wp2_with(first|refine YL ?_|go_at_call 126;refine KD hI (uo _ _ _ _ hal hb2 _ _ hak) ?_;intro w1 hI);(try simp only[QN]);exact bB rfl hI));(focus(exact⟨_,rfl⟩))) | refine ZL ?_));refine bH ?_;intro bx w hI;(simp only[QN]);(repeat(refine ZQ ?_;go_wp2_with(refine YS ?_;intro w hI);refine ZP ?_))
  go_wp2_with(fail);go_ret;rw[hF2.out];exact⟨Y,rfl,hI.sub (.cons _ (.cons _ (.cons _ (.refl _))))⟩
 ·have hF2:Hid (bT X.f S c=if e'=0 then({S with D:=D',cnt:=c',used:=u',acc:=a',round:=wrap64 (S.round+1),aK:=some (nX S.view b c,false)},0)else({S with D:=D',cnt:=c',used:=u'},e')):=HD (by rw[hF.out,if_pos rfl])
  clear hF;by_cases BI:e'=0
  ·have r_:Hid (bT X.f S c=({S with D:=D',cnt:=c',used:=u',acc:=a',round:=wrap64 (S.round+1),aK:=some (nX S.view b c,false)},0)):=HD (by rw[hF2.out,if_pos BI])
   subst BI;clear hF2;go_enter func85,ntmps85;go_upto_region 1 with(refine YX ?_;intro bx w hI)
   (obtain⟨bc,hbx⟩:=EZ bx;subst hbx)
   (refine ZR [10,11] [0,1,2,3,4,5,6,7,8,9] [10] [0,1,2,3,4,5,6,7,8,9,10,11] (λw=>Inv (ah X Y S).own w0 w [ib bc 48 c,ah X Y S]) hI ?_;intro wd hI)
   (repeat(first| (refine ZA ?_;go_wp2_with(refine YS ?_;intro w hI);refine ji ?_) | (refine ZB ?_;go_wp2_with(refine YX ?_;intro bx w hI);(refine jN (hI.sub SB) ?_)) | ((refine jB RF RF RF RF (hI.sub SB) (by intro w (hI:Inv _ _ w _);first|with_reducible exact Ck hI|with_reducible exact vW hI|with_reducible exact Za| (unfold fP;go_simp;with_reducible rfl)) ?_);(simp only[QN]))));refine fC ?_
   rw[hzb.out]at hI
   (obtain⟨bb,hbx⟩:=EZ bx;subst hbx)
   go_upto_region 2 with(fail)
   (refine aD [15,16] [13] [15,16] [13] [0,1,2,3,4,5,6,7,8,9,10,11,12,13] 14 [15,16] eO KF RF hI ?_;clear hI)
   (repeat(first| ((with_reducible refine' bC RF RF RF ?_ ?_ ?_);rotate_left;(focus(intro ex w (hI:Inv _ _ w _);go_wp2_with(first|refine YL ?_|go_at_call 126;refine KD hI (uo _ _ _ _ hal hb2 _ _ hak) ?_;intro w1 hI);(try simp only[QN]);exact bB rfl hI));(focus(exact⟨_,rfl⟩))) | refine ZL ?_));refine bH ?_;intro bx w hI;(simp only[QN]);(repeat(refine ZQ ?_;go_wp2_with(refine YS ?_;intro w hI);refine ZP ?_))
   (obtain⟨ba,hbx⟩:=EZ bx;subst hbx)
   go_upto_region 5 with(fail)
   refine ZT [8,9] 10 hI ?_;intro wd hI
   (repeat(refine ZQ ?_;go_wp2_with(first|go_at_call 108;refine KG hI (ni _ X _ _ x0 hx0 _ L6.out _ _ _ _ hP (hI.at_ mU)) ?_;intro Yp w1 hI|refine YL ?_);refine ZP ?_))
   go_upto_region 8 with(fail)
   (refine ZR [7,8,9,10] [1,3,4] [7] [0,1,2,3,4,5,6,7,8,9,10] (λw=>Inv (ah X Y S).own w0 w [ib ba 93 a',ib bb 91 b,ib bc 48 c]) hI ?_;intro wd hI)
   (repeat(first|refine ZS ?_|refine ZQ ?_;go_wp2_with(first|refine YS ?_;intro w hI|refine YL ?_);refine ZP ?_))
   go_upto_region 9 with(fail)
   (refine ZR [7,8,9,10] [0] [7] [0,1,2,3,4,5,6,7,8,9,10] (λw=>Inv (ah X Y S).own w0 w [ib bc 48 c]) hI ?_;intro wd hI)
   (repeat(first|refine ZS ?_|refine ZQ ?_;go_wp2_with(first|(with_reducible refine Xe hI RF RF aiI Ty (k:=?_);intro w hI)|go_at_call 127;(with_reducible refine(B.aaf _ S.view b c hvl hb2 hcl).mono ?_);rintro e w1 ⟨nb,rfl,hJ⟩;replace hI:=hI.seq hJ;simp only[List.cons_append,List.nil_append]at hI;clear hJ|refine YL ?_);refine ZP ?_))
   go_wp2_with(fail);go_ret;rw[r_.out]
   (try rw[hg0]at hI)
   exact⟨{Yp with vb:=nb},rfl,hI.sub (.cons _ (.cons _ (.cons _ (.refl _))))⟩
  ·have r_:Hid (bT X.f S c=({S with D:=D',cnt:=c',used:=u'},e')):=HD (by rw[hF2.out,if_neg BI])
   have hq:(e' != 0)=true:=by simpa using BI
   clear hF2;go_enter func85,ntmps85;go_upto_region 1 with(refine YX ?_;intro bx w hI)
   (obtain⟨bc,hbx⟩:=EZ bx;subst hbx)
   (refine ZR [10,11] [0,1,2,3,4,5,6,7,8,9] [10] [0,1,2,3,4,5,6,7,8,9,10,11] (λw=>Inv (ah X Y S).own w0 w [ib bc 48 c,ah X Y S]) hI ?_;intro wd hI)
   (repeat(first| (refine ZA ?_;go_wp2_with(refine YS ?_;intro w hI);refine ji ?_) | (refine ZB ?_;go_wp2_with(refine YX ?_;intro bx w hI);(refine jN (hI.sub SB) ?_)) | ((refine jB RF RF RF RF (hI.sub SB) (by intro w (hI:Inv _ _ w _);first|with_reducible exact Ck hI|with_reducible exact vW hI|with_reducible exact Za| (unfold fP;go_simp;with_reducible rfl)) ?_);(simp only[QN]))));refine fC ?_
   rw[hzb.out]at hI;go_upto_region 2 with(fail)
   (refine aD [15,16] [13] [15,16] [13] [0,1,2,3,4,5,6,7,8,9,10,11,12,13] 14 [15,16] eO KF RF hI ?_;clear hI)
   (repeat(first| ((with_reducible refine' bC RF RF RF ?_ ?_ ?_);rotate_left;(focus(intro ex w (hI:Inv _ _ w _);go_wp2_with(first|refine YL ?_|go_at_call 126;refine KD hI (uo _ _ _ _ hal hb2 _ _ hak) ?_;intro w1 hI);(try simp only[QN]);exact bB rfl hI));(focus(exact⟨_,rfl⟩))) | refine ZL ?_));refine bH ?_;intro bx w hI;(simp only[QN]);(repeat(refine ZQ ?_;go_wp2_with(refine YS ?_;intro w hI);refine ZP ?_))
   go_upto_region 5 with(fail)
   refine ZT [8,9] 10 hI ?_;intro wd hI
   (repeat(refine ZQ ?_;go_wp2_with(first|go_at_call 108;refine KG hI (ni _ X _ _ x0 hx0 _ L6.out _ _ _ _ hP (hI.at_ mU)) ?_;intro Yp w1 hI|refine YL ?_);refine ZP ?_))
   go_wp2_with(fail);go_ret;rw[r_.out];exact⟨Yp,rfl,hI.sub (.cons _ (.cons _ (.cons _ (.refl _))))⟩
end
end
theorem oU(w0:World)(X:RX)(Y:RY)(S:RS)(hI:Inv (ah X Y S).own w0 w0 [ah X Y S])(op er va:Int)(hn:S.aV.length<=1000000000):
  Calls prog 69 #[.pointer (some ⟨X.b,0,none⟩),.int .i64 op,.int .i64 er,.int .i64 va] w0 λe w'=>∃Y',e=.returned (.tuple #[])∧Inv (ah X Y S).own w0 w' [ah X Y' (bW S op er va)]:=by
 refine(aa2 w0 X.f X.b X.l Y.vb Y.rc Y.ra S _ op er va hn hI).mono ?_;rintro e w' ⟨ra',rc',rfl,hJ⟩;exact⟨{Y with ra:=ra',rc:=rc'},rfl,hJ⟩
section
variable (w0:World)(X:RX)(Y:RY)(S:RS)(hX:zG X)
include hX
theorem vR(hI:Inv (ah X Y S).own w0 w0 [ah X Y S])(x:List Int)(hx:x.length=174):Calls prog 82 #[.pointer (some ⟨X.b,0,none⟩),oV X,ia x] w0 λe w'=>∃Y' B',e=.returned (.tuple #[])∧Hid (fu X.f S x={S with B:=B'})∧Inv (ah X Y S).own w0 w' [ah X Y' {S with B:=B'}]:=ND w0 X Y S hX x hx hI
theorem Tk(hvw:Hid (dU S.view))(hrl:S.aV.length<=1000000000)(hI:Inv (ah X Y S).own w0 w0 [ah X Y S]):
  Calls prog 154 #[.pointer (some ⟨X.b,0,none⟩),oV X] w0 λe w'=>∃Y',e=.returned (.tuple #[])∧Inv (ah X Y S).own w0 w' [ah X Y' (kQ X.f S)]:=by
 have hown:=(aQ hI aA).own;cases hwt:decide (0<S.waits)
 ·have hF:Hid (kQ X.f S=jH X.f (fu X.f {S with busy:=false,book:=C.ic S.book (X.f:Int) S.own} S.own)):=HD (by
   rw[kQ];dsimp only;rw[if_neg (by simpa using hwt)])
  go_enter func154,ntmps154;go_upto_region 1 with(refine YS ?_;intro w hI)
  refine ZT [11] 12 hI ?_;intro wd hI
  (repeat(refine ZQ ?_;go_wp2_with(first|go_at_call 48;refine KE (Ib hI (X.f:Int) S.own hown jy) ?_;intro w1 hI|refine YL ?_);refine ZP ?_))
  go_wp2_with(first|refine YL ?_|go_at_call 82;refine KJ hI (vR _ X _ _ hX (hI.at_ aA) S.own hown) ?_;intro Y2 B2 w1 hB2 hI|go_at_call 79;refine KJ hI (yG _ X _ _ hX (hI.at_ aA) _ hvw RF) ?_;intro Y3 S3 w1 Yx hI);rw[hF.out,hB2.out,Yx.out];exact⟨rfl,_,gD KF _ _,Y3,rfl,hI⟩
 ·have hF:Hid (kQ X.f S=jH X.f (fu X.f {bW {S with busy:=false,book:=C.ic S.book (X.f:Int) S.own} S.waits 0 0 with waits:=0} S.own)):=HD (by
   rw[kQ];dsimp only;rw[if_pos (by simpa using hwt)])
  go_enter func154,ntmps154;go_upto_region 1 with(refine YS ?_;intro w hI)
  refine ZT [11] 12 hI ?_;intro wd hI
  (repeat(refine ZQ ?_;go_wp2_with(first|go_at_call 48;refine KE (Ib hI (X.f:Int) S.own hown jy) ?_;intro w1 hI|refine YL ?_);refine ZP ?_))
  go_wp2_with(first|refine YL ?_|refine YS ?_;intro w hI|go_at_call 69;refine KG hI (oU _ X _ _ (hI.at_ aA) _ _ _ (by with_unfolding_all exact hrl)) ?_;intro Y1 w1 hI;dsimp only[bW]at hI|go_at_call 82;refine KJ hI (vR _ X _ _ hX (hI.at_ aA) S.own hown) ?_;intro Y2 B2 w1 hB2 hI|go_at_call 79;refine KJ hI (yG _ X _ _ hX (hI.at_ aA) _ hvw RF) ?_;intro Y3 S3 w1 Yx hI);rw[hF.out];have e1:=hB2.out;have e2:=Yx.out;dsimp only[bW]at e1 e2|-;rw[e1,e2];exact⟨rfl,_,gD KF _ _,Y3,rfl,hI⟩
theorem OG(hI:Inv (ah X Y S).own w0 w0 [ah X Y S])(V:List Int)(hvw:Hid (dU V))(hV:S.view=V)(hrl:S.aV.length<=1000000000):
  Calls prog 154 #[.pointer (some ⟨X.b,0,none⟩),oV X] w0 λe w'=>∃Y' S',e=.returned (.tuple #[])∧Hid (kQ X.f S=S')∧Inv (ah X Y S).own w0 w' [ah X Y' S']:=by
 subst hV;refine(Tk w0 X Y S hX hvw hrl hI).mono ?_;exact W46
theorem ae0(k:Nat)(hk5:k<5)(z:List Int)(n:Int)(hz:z.length=192)(hn:gi z 176=n)(hvw:Hid (dU S.view))(hrl:S.aV.length<=1000000000)(hI:Inv (ah X Y S).own w0 w0 [ah X Y S]):
  Calls prog 116 #[.pointer (some ⟨X.b,0,none⟩),oV X,.int .i64 (k:Int),ia z] w0 λe w'=>∃Y',e=.returned (.tuple #[])∧Inv (ah X Y S).own w0 w' [ah X Y' (rA X.f S k n)]:=by
 have rP:=hX.f5;have hf0:(X.f:Int) <5:=by omega
 have aiH:k<64:=by omega
 have hwr:=Qh hk5;have vg:(k:Int).toNat=k:=by simp
 cases hb:S.busy
 ·have hF:Hid (rA X.f S k n=S):=HD (by rw[rA,if_neg (by simp[hb])])
  exact W26
 ·cases hq:(n != gi S.own 0)
  ·cases hc0:decide (k∈dS X.f)
   ·have hcn:=HD hc0
    have hF:Hid (rA X.f S k n=S):=HD (by rw[rA,if_neg (by rintro⟨_,_,h⟩;simp[h]at hc0)]);clear hc0;go_enter func116,ntmps116;go_upto_region 2 with(first|refine YX ?_;intro bx w hI|refine YL ?_|go_at_call 121;refine KO hI (wZ _ X.f rP) ?_;intro g cw w1 hI)
    (refine ZR [0,1,2,3,4,5,13,14,15,18,19,20] [] [] [0,1,2,3,4,5,6,7,8,9,10,11,12,13,14,15,16,17,18,19,20] (λw=>Inv (ah X Y S).own w0 w [bf 3 1 (.slice (some ⟨g,0,none⟩) 2 cw) 2 ((dS X.f).map iN),ib bx 158 z,ah X Y S]) hI ?_;intro wd hI)
    (repeat(refine ZQ ?_;go_wp2_with(first|refine YL ?_|go_at_call 153;refine KR (ll _ g cw X.f k _ hcn (hI.rd aA)) ?_);refine ZP ?_))
    go_wp2_with(fail);rw[hF.out];exact⟨rfl,_,gD KF _ _,Y,rfl,hI.sub (.cons _ (.cons _ (.refl _)))⟩
   ·have hcn:=HD hc0
    obtain⟨K2,ae1⟩:=EQ (Uj S.kept k);have hK2:Hid (bits BinOp.or IntKind.i64 S.kept (2^k)=K2):=HD ae1;have hF:Hid (rA X.f S k n=if(dS X.f).all (bt K2)=true then kQ X.f {S with kept:=K2}else {S with kept:=K2}):=HD (by
     rw[rA,if_pos ⟨hb,by simpa using hq,by simpa using hc0⟩,ae1])
    clear hc0 ae1;go_enter func116,ntmps116;go_upto_region 2 with(first|refine YX ?_;intro bx w hI|refine YL ?_|go_at_call 121;refine KO hI (wZ _ X.f rP) ?_;intro g cw w1 hI)
    (refine ZR [0,1,2,3,4,5,13,14,15,18,19,20] [] [] [0,1,2,3,4,5,6,7,8,9,10,11,12,13,14,15,16,17,18,19,20] (λw=>Inv (ah X Y S).own w0 w [bf 3 1 (.slice (some ⟨g,0,none⟩) 2 cw) 2 ((dS X.f).map iN),ib bx 158 z,ah X Y S]) hI ?_;intro wd hI)
    (repeat(refine ZQ ?_;go_wp2_with(first|refine YL ?_|go_at_call 153;refine KR (ll _ g cw X.f k _ hcn (hI.rd aA)) ?_);refine ZP ?_))
    go_upto_region 3 with(fail)
    refine ZT [6,7,8,9] 10 hI ?_;intro wd hI
    (repeat(refine ZQ ?_;go_wp2_with(first|refine YS ?_;intro w hI|refine YL ?_);refine ZP ?_))
    rw[hK2.out]at hI;go_upto_region 5 with(fail)
    go_loopg [10,48] 2 (λkk s10 s48 wr=>∃(j:Nat),kk=2-j∧j<=2∧s48=.int .i64 (j:Int)∧Hid (((dS X.f).take j).all (bt K2)=true)∧Inv (ah X Y S).own w0 wr [bf 3 1 (.slice (some ⟨g,0,none⟩) 2 cw) 2 ((dS X.f).map iN),ib bx 158 z,ah X Y {S with kept:=K2}])
    case atStart=>exact⟨0,rfl,by omega,rfl,HD rfl,hI⟩
    case round=>
     clear hI;obtain⟨j,rfl,hj,rfl,hA,hI⟩:=hrel;by_cases hj2:j<2
     ·obtain⟨t,ht⟩:∃t,(dS X.f)[j]? =some t:=⟨_,List.getElem?_eq_getElem (by simp[dS];omega)⟩
      have mR:t<5:=by
       have:=List.mem_of_getElem? ht;simp only[dS,List.mem_cons,List.not_mem_nil,or_false]at this;omega
      have hld:((dS X.f).map iN)[j]? =some (.int .i64 (t:Int)):=by rw[List.getElem?_map,ht];rfl
      have hA1:Hid (((dS X.f).take (j+1)).all (bt K2)=bt K2 t):=HD (by rw[List.take_add_one,ht,List.all_append,hA.out];simp);have htm:=HD (List.mem_of_getElem? ht);clear ht hA;have hkq:=Aa K2 t;cases htl:bt K2 t
      ·rw[htl]at hkq
       simp only[Bool.not_false,Bool.not_true]at hkq;have hF2:Hid (rA X.f S k n={S with kept:=K2}):=HD (by
        rw[hF.out,if_neg (by rw[all_false htm.out htl];simp)])
       clear hF hA1;go_wp2_with(first|refine YL ?_|with_reducible refine aJ hI RF aA (aO.out (t:=3)) hld ?_);rw[hF2.out];exact⟨rfl,_,gD KF _ _,Y,rfl,hI.sub (.cons _ (.cons _ (.refl _)))⟩
      ·rw[htl]at hkq
       simp only[Bool.not_false,Bool.not_true]at hkq;go_wp2_with(first|refine YL ?_|with_reducible refine aJ hI RF aA (aO.out (t:=3)) hld ?_);go_roundg (2- (j+1))
       case measure=>omega
       case rel=>exact⟨j+1,rfl,by omega,by go_num,HD (by rw[hA1.out,htl]),hI⟩
     ·obtain rfl:j=2:=by omega
      have hF2:Hid (rA X.f S k n=kQ X.f {S with kept:=K2}):=HD (by
       rw[hF.out,if_pos (by have:=hA.out;rwa [show(dS X.f).take 2=dS X.f from rfl]at this)])
      clear hF hA;go_wp2_with(go_at_call 154;refine KJ hI (OG _ X _ _ hX (hI.at_ aX) _ hvw RF (by with_unfolding_all exact hrl)) ?_;intro Y1 S1 w1 hS1 hI);rw[hF2.out,hS1.out];exact⟨rfl,_,gD KF _ _,Y1,rfl,hI.sub (.cons _ (.cons _ (.refl _)))⟩
  ·have hF:Hid (rA X.f S k n=S):=HD (by rw[rA,if_neg (by rintro⟨_,h,_⟩;simp[h]at hq)])
   exact W26
end
