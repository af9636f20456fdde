/- Contracts of functions. No condition. -/
import Derived.Test.YtdakkaapokhnnaaGreatDoorZ06
import Derived.Test.YtdakkaapokhnnaaGreatDoorZ07
namespace Go.Proofs.YtdakkaapokhnnaaGreatDoor
open Go.RowKit Go.Proofs.Tryz
set_option maxRecDepth 100000
set_option maxHeartbeats 6400000
set_option linter.all false
theorem pz:iY prog 3:=B.pz
theorem uZ:iY prog 4:=B.uZ
theorem ajg:gm prog 91 2:=B.iB
theorem afi:gm prog 48 3:=B.DZ
theorem ajh:gm prog 30 7:=B.n_
theorem yx:gm prog 28 5:=B.aff
theorem Sb:oW prog 28 5:=B.acn
def iI(lim:Nat)(bs:List UInt8):Option (Nat×List UInt8):=(f_ bs).bind λp=>if p.1<lim then some p else none
theorem pG{w pr ab bs}(hs:(eZ pr ab bs).sat w)(hn:(eZ pr ab bs).own.Nodup):Inv (eZ pr ab bs).own w w [eZ pr ab bs]:=by
 grind[L_,nR]
theorem iq(w0 pr ab bs){k cs}(hk:f_ bs=some (k,cs))(hs:(eZ pr ab bs).sat w0)(hn:(eZ pr ab bs).own.Nodup):
  Calls prog 138 #[.pointer (some ⟨pr,0,none⟩)] w0 λe w'=>e=.returned (.int .i64 (k:Nat))∧Inv (eZ pr ab bs).own w0 w' [eZ pr ab cs]:=by
 refine X6 w0 pr ab bs hs hn (λk' cs' w' h hJ=>?_) (λw' h=>?_)
 all_goals grind
theorem yT(w0 pr ab bs)(hk:f_ bs=none)(hs:(eZ pr ab bs).sat w0)(hn:(eZ pr ab bs).own.Nodup):
  Calls prog 138 #[.pointer (some ⟨pr,0,none⟩)] w0 λe w'=>e=.panicked Ma∧∃cs,Inv (eZ pr ab bs).own w0 w' [eZ pr ab cs]:=by
 grind[X6]
theorem UN(w0 pr ab bs lim){k cs}(hk:iI lim bs=some (k,cs))(hs:(eZ pr ab bs).sat w0)(hn:(eZ pr ab bs).own.Nodup):
  Calls prog 136 #[.pointer (some ⟨pr,0,none⟩),.int .i64 (lim:Nat)] w0 λe w'=>e=.returned (.int .i64 (k:Nat))∧Inv (eZ pr ab bs).own w0 w' [eZ pr ab cs]:=by
 have hI:=pG hs hn;obtain⟨hk1,hlt⟩:Hid (f_ bs=some (k,cs))∧k<lim:=by
  unfold iI at hk;rcases hn1:f_ bs with _| ⟨k1,cs1⟩
  ·rw[hn1]at hk;cases hk
  ·rw[hn1]at hk;simp only[Option.bind_some]at hk
   split at hk
   ·rename_i hlt;simp only[Option.some.injEq,Prod.mk.injEq]at hk;obtain⟨rfl,rfl⟩:=hk;exact⟨HD rfl,hlt⟩
   ·cases hk
 have hd:decide ((lim:Int)<=(k:Int))=false:=by simp;omega
 clear hk;go_enter func136,ntmps136;go_wp2_with(go_at_call 138;refine KC jR hI (iq _ pr ab _ hk1.out (hI.sat _ aC) (hI.nd aC)) ?_;intro w1 hI);go_ret;exact⟨rfl,hI⟩
theorem X7(w0 pr ab bs lim)(hk:iI lim bs=none)(hs:(eZ pr ab bs).sat w0)(hn:(eZ pr ab bs).own.Nodup):
  Calls prog 136 #[.pointer (some ⟨pr,0,none⟩),.int .i64 (lim:Nat)] w0 λe w'=>e=.panicked Ma∧∃cs,Inv (eZ pr ab bs).own w0 w' [eZ pr ab cs]:=by
 have hI:=pG hs hn;unfold iI at hk;rcases hn1:f_ bs with _| ⟨k1,cs1⟩
 ·clear hk
  have hk1:=HD hn1;clear hn1;go_enter func136,ntmps136;go_wp2_with(go_at_call 138;refine KN hI (yT _ pr ab _ hk1.out (hI.sat _ aC) (hI.nd aC)) ?_;intro cs' w1 hI);exact⟨rfl,rfl,_,hI⟩
 ·rw[hn1]at hk;simp only[Option.bind_some]at hk
  have hlt:¬k1<lim:=λh=>by rw[if_pos h]at hk;cases hk
  clear hk;have hk1:=HD hn1;clear hn1;have hd:decide ((lim:Int)<=(k1:Int))=true:=by simp;omega
  go_enter func136,ntmps136;go_wp2_with(go_at_call 138;refine KC jR hI (iq _ pr ab _ hk1.out (hI.sat _ aC) (hI.nd aC)) ?_;intro w1 hI);exact⟨rfl,rfl,_,hI⟩
theorem dZ(w0 pr ab bs lim x){k cs}(hs:(eZ pr ab bs).sat w0)(hn:(eZ pr ab bs).own.Nodup)(hk:iI lim bs=some (k,cs))(hx:x=(lim:Int)):
  Calls prog 136 #[.pointer (some ⟨pr,0,none⟩),.int .i64 x] w0 λe w'=>e=.returned (.int .i64 (k:Nat))∧Inv (eZ pr ab bs).own w0 w' [eZ pr ab cs]:=by
 grind[UN]
theorem kR(w0 pr ab bs lim x)(hs:(eZ pr ab bs).sat w0)(hn:(eZ pr ab bs).own.Nodup)(hk:iI lim bs=none)(hx:x=(lim:Int)):
  Calls prog 136 #[.pointer (some ⟨pr,0,none⟩),.int .i64 x] w0 λe w'=>e=.panicked Ma∧∃cs,Inv (eZ pr ab bs).own w0 w' [eZ pr ab cs]:=by
 grind[X7]
theorem X8{p n k bs cs}(hp:p<=9)(hn:n<2^ (7*p))(h:qL p n bs=some (k,cs)):k<2^63:=by
 induction bs generalizing p n with
 |nil=>grind[qL]
 |cons c ds ih=>
  rcases Nat.lt_or_ge p 9 with hp9|hp9
  ·have hal:=X5 (k:=c.toNat) hn
   have h63:2^ (7*(p+1))<=2^63:=Nat.pow_le_pow_right DC OM
   grind[yY,Er,Bl]
  grind[Es]
theorem u_(bs):iI 9223372036854775808 bs=f_ bs:=by
 unfold iI;rcases h:f_ bs with _| ⟨k,cs⟩
 ·rfl
 ·have:=X8 DC DC h
  grind
def bJ:List Nat->List UInt8->Option (List Nat×List UInt8)
 | [],bs=>some ([],bs)
 |l::ls,bs=>(iI l bs).bind λp=>(bJ ls p.2).map λq=>(p.1::q.1,q.2)
theorem rD{l ls ns bs cs}(h:bJ (l::ls) bs=some (ns,cs)):∃k c ks,iI l bs=some (k,c)∧bJ ls c=some (ks,cs)∧ns=k::ks:=by
 exact W83
theorem wM{l ls bs}(h:bJ (l::ls) bs=none):iI l bs=none∨∃k c,iI l bs=some (k,c)∧bJ ls c=none:=by
 exact W83
theorem Dg{ns bs cs}(h:bJ [] bs=some (ns,cs)):ns=[]∧cs=bs:=by
 grind[bJ]
theorem eF{ls ns bs cs}(h:bJ ls bs=some (ns,cs)):ns.length=ls.length:=by
 induction ls generalizing ns bs with
 |nil=>grind[Dg]
 |cons l ls ih=>
  grind[rD]
def sI(w0:World)(pr:Nat)(ab:Option Nat)(bs:List UInt8)(r:Option (Value×List UInt8))(e:Ending)(w':World):Prop:=
 (∃v cs,r=some (v,cs)∧e=.returned v∧Inv (eZ pr ab bs).own w0 w' [eZ pr ab cs])∨(r=none∧e=.panicked Ma∧∃cs,Inv (eZ pr ab bs).own w0 w' [eZ pr ab cs])
theorem sI.yes{w0 pr ab bs cs r f args v}(h:Calls prog f args w0 (sI w0 pr ab bs r))(hr:r=some (v,cs)):
  Calls prog f args w0 λe w'=>e=.returned v∧Inv (eZ pr ab bs).own w0 w' [eZ pr ab cs]:=by
 refine h.mono ?_;rintro e w' (⟨v',cs',h1,rfl,hJ⟩ | ⟨h1,_,_⟩)
 all_goals grind
theorem sI.no{w0 pr ab bs r f args}(h:Calls prog f args w0 (sI w0 pr ab bs r))(hr:r=none):
  Calls prog f args w0 λe w'=>e=.panicked Ma∧∃cs,Inv (eZ pr ab bs).own w0 w' [eZ pr ab cs]:=by
 refine h.mono ?_;rintro e w' (⟨v',cs',h1,rfl,hJ⟩ | ⟨h1,h2,hJ⟩)
 all_goals grind
def nn(ns:List Nat):List Int:=ns.map λ(n:Nat)=>(n:Int)
def wJ(ls:List Nat)(bs:List UInt8):Option (Value×List UInt8):=(bJ ls bs).map λp=>(ia (nn p.1),p.2)
def dI:List Nat:=[9223372036854775808,5]
def jF:List Nat:=[2,5,5]
theorem iX(w0 pr ab bs)(hs:(eZ pr ab bs).sat w0)(hn:(eZ pr ab bs).own.Nodup):
  Calls prog 139 #[.pointer (some ⟨pr,0,none⟩)] w0 (sI w0 pr ab bs (wJ dI bs)):=by
 have hI:=pG hs hn;rcases h0:bJ dI bs with _| ⟨ns,cs⟩
 ·rcases wM h0 with h1| ⟨k,c,h1,h2⟩
  ·rw[u_]at h1
   have hk1:=HD h1;have hr:=HD h0;clear h1 h0;go_enter func139,ntmps139;exact W74
  ·rw[u_]at h1
   rcases wM h2 with h3| ⟨k2,c2,h3,h4⟩
   ·have hk1:=HD h1;have hk2:=HD h3;have hr:=HD h0;clear h1 h2 h3 h0
    go_enter func139,ntmps139;exact W51
   ·cases h4
 ·obtain⟨k,c,ks,h1,h2,rfl⟩:=rD h0
  obtain⟨k2,c2,ks2,h3,h4,rfl⟩:=rD h2;obtain⟨rfl,rfl⟩:=Dg h4;rw[u_]at h1;have hk1:=HD h1;have hk2:=HD h3;have hr:=HD h0;clear h1 h2 h3 h0 h4;go_enter func139,ntmps139;go_wp2_with(first|go_at_call 138;refine KC qN hI (iq _ pr ab _ hk1.out (hI.sat _ a_) (hI.nd a_)) ?_;intro w1 hI|go_at_call 136;refine KC qN hI (dZ _ pr ab _ _ _ (hI.sat _ a_) (hI.nd a_) (by exact hk2.out) OM) ?_;intro w1 hI|refine YL ?_|refine YS ?_;intro w hI|refine YX ?_;intro bx w hI);refine bodyPost_ret (dY hI rfl rfl aM ajg rfl) rfl (.inl ⟨_,_,by rw[wJ,hr.out];rfl,rfl,hI.sub SB⟩)
theorem qY(w0 pr ab bs)(hs:(eZ pr ab bs).sat w0)(hn:(eZ pr ab bs).own.Nodup):
  Calls prog 140 #[.pointer (some ⟨pr,0,none⟩)] w0 (sI w0 pr ab bs (wJ jF bs)):=by
 have hI:=pG hs hn;rcases h0:bJ jF bs with _| ⟨ns,cs⟩
 ·rcases wM h0 with h1| ⟨k,c,h1,h2⟩
  ·have hk1:=HD h1;have hr:=HD h0;clear h1 h0
   go_enter func140,ntmps140;exact W68
  ·rcases wM h2 with h3| ⟨k2,c2,h3,h4⟩
   ·have hk1:=HD h1;have hk2:=HD h3;have hr:=HD h0;clear h1 h2 h3 h0
    go_enter func140,ntmps140;exact W46
   ·rcases wM h4 with h5| ⟨k3,c3,h5,h6⟩
    ·have hk1:=HD h1;have hk2:=HD h3;have hk3:=HD h5;have hr:=HD h0;clear h1 h2 h3 h4 h5 h0
     go_enter func140,ntmps140;go_wp2_with(first|go_at_call 136;refine KC qN hI (dZ _ pr ab _ _ _ (hI.sat _ a_) (hI.nd a_) (by first|exact hk1.out|exact hk2.out) OM) ?_;intro w1 hI|go_at_call 136;refine KN hI (kR _ pr ab _ _ _ (hI.sat _ a_) (hI.nd a_) (by exact hk3.out) OM) ?_;intro cs' w1 hI|refine YS ?_;intro w hI|refine YX ?_;intro bx w hI);exact W34
    ·cases h6
 ·obtain⟨k,c,ks,h1,h2,rfl⟩:=rD h0
  obtain⟨k2,c2,ks2,h3,h4,rfl⟩:=rD h2;obtain⟨k3,c3,ks3,h5,h6,rfl⟩:=rD h4;obtain⟨rfl,rfl⟩:=Dg h6;have hk1:=HD h1;have hk2:=HD h3;have hk3:=HD h5;have hr:=HD h0;clear h1 h2 h3 h0 h4 h5 h6;go_enter func140,ntmps140;go_wp2_with(first|go_at_call 136;refine KC qN hI (dZ _ pr ab _ _ _ (hI.sat _ a_) (hI.nd a_) (by first|exact hk1.out|exact hk2.out|exact hk3.out) OM) ?_;intro w1 hI|refine YL ?_|refine YS ?_;intro w hI|refine YX ?_;intro bx w hI);refine bodyPost_ret (dY hI rfl rfl aM afi rfl) rfl (.inl ⟨_,_,by rw[wJ,hr.out];rfl,rfl,hI.sub SB⟩)
def cellL:List Nat:=[1099511627777,1099511627777,1099511627777,1099511627777,1099511627777,1099511627777,1099511627777]
theorem aji:gm prog 37 7:=C.Hz
def ko:List Nat:=[9223372036854775808,32,6,6,6,6,6]
theorem rE{ls c n r}(h:iI n c=r):bJ (n::ls) c=r.bind λp=>(bJ ls p.2).map λq=>(p.1::q.1,q.2):=by grind[bJ]
def Et(ls:List Nat)(bs:List UInt8)(n lim:Nat)(ks:List Nat)(c:List UInt8):Prop:=bJ ls bs=(bJ (List.replicate n lim) c).map λq=>(ks++q.1,q.2)
theorem Et.next{ls bs n lim ks c}(h:Et ls bs (n+1) lim ks c){k d}(hk:iI lim c=some (k,d)):Et ls bs n lim (ks++[k]) d:=by
 simp_all[Et,List.replicate_succ,rE,Function.comp_def]
theorem Et.no{ls bs n lim ks c}(h:Et ls bs (n+1) lim ks c)(hk:iI lim c=none):bJ ls bs=none:=by
 simp_all[Et,List.replicate_succ,rE]
theorem Et.end_{ls bs lim ks c}(h:Et ls bs 0 lim ks c):bJ ls bs=some (ks,c):=by
 grind[Et,bJ]
theorem Et.two{a b lim n bs c1 c2 k1 k2}(h1:iI a bs=some (k1,c1))(h2:iI b c1=some (k2,c2)):Et (a::b::List.replicate n lim) bs n lim [k1,k2] c2:=by
 simp_all[Et,rE,Function.comp_def]
def yC(n:Nat)(ks:List Nat):List Int:=nn ks++au (n-ks.length)
theorem xF{n ks}(h:ks.length<=n):(yC n ks).length=n:=by grind[yC,nn,au]
theorem J2{n ks}(h:ks.length=n):yC n ks=nn ks:=by simp[yC,h,au]
theorem J3{n ks}{k j:Nat}(hj:j=ks.length)(h:ks.length<n):(yC n ks).set j (k:Int)=yC n (ks++[k]):=by
 obtain⟨d,hd⟩:∃d,n-ks.length=d+1:=⟨n-ks.length-1,by omega⟩;have e2:n- (ks++[k]).length=d:=by grind
 simp_all[yC,nn,au,List.replicate_succ]
theorem xG(w0 pr ab bs)(hs:(eZ pr ab bs).sat w0)(hn:(eZ pr ab bs).own.Nodup):
  Calls prog 141 #[.pointer (some ⟨pr,0,none⟩)] w0 (sI w0 pr ab bs (wJ ko bs)):=by
 have hI:=pG hs hn;rcases h1:f_ bs with _| ⟨k,c⟩
 ·have hr:=HD (show bJ ko bs=none by unfold ko;simp only[bJ];rw[u_,h1];rfl)
  have hk1:=HD h1;clear h1;go_enter func141,ntmps141;exact W74
 ·rcases h2:iI 32 c with _| ⟨k2,c2⟩
  ·have hr:=HD (show bJ ko bs=none by unfold ko;rw[rE ((u_ bs).trans h1)];simp only[Option.bind_some];rw[rE h2];rfl)
   have hk1:=HD h1;have hk2:=HD h2;clear h1 h2;go_enter func141,ntmps141;exact W51
  ·have hG:=HD (show Et ko bs 5 6 [k,k2] c2 from Et.two (n:=5) ((u_ bs).trans h1) h2)
   have hk1:=HD h1;have hk2:=HD h2;clear h1 h2;go_enter func141,ntmps141;go_upto_region 5 with(first|go_at_call 138;refine KC qN hI (iq _ pr ab _ hk1.out (hI.sat _ a_) (hI.nd a_)) ?_;intro w1 hI|go_at_call 136;refine KC qN hI (dZ _ pr ab _ _ _ (hI.sat _ a_) (hI.nd a_) (by exact hk2.out) OM) ?_;intro w1 hI|refine YS ?_;intro w hI|refine YX ?_;intro bx w hI)
   (obtain⟨bv,hbx⟩:=EZ bx;subst hbx)
   have hk5:[k,k2].length=2:=rfl
   go_loopg [4,11] 5 (λkk s4 i wr=>∃(j:Nat) (ks:List Nat) (d:List UInt8),kk=5-j∧j<=5∧i=.int .i64 j∧ks.length=j+2∧Hid (Et ko bs (5-j) 6 ks d)∧Inv (eZ pr ab bs).own w0 wr [ib bv 30 (yC 7 ks),ib bx 30 (au 7),eZ pr ab d])
   case atStart=>exact⟨0,[k,k2],c2,rfl,by omega,rfl,rfl,hG,hI⟩
   case round=>
    clear hI hG hk1 hk2;obtain⟨j,ks,d,rfl,hj,rfl,hkl,hG,hI⟩:=hrel;have hfl:(yC 7 ks).length=7:=xF OM;by_cases hlj:j<5
    ·obtain⟨q,hq⟩:∃q,5-j=q+1:=⟨5-j-1,by omega⟩
     rcases h1:iI 6 d with _| ⟨k3,c3⟩
     ·have hr:=HD (show bJ ko bs=none from by have:=hG.out;rw[hq]at this;exact this.no h1)
      have hk1:=HD h1;clear h1 hG;go_wp2_with(go_at_call 136;refine KN hI (kR _ pr ab _ _ _ (hI.sat _ a_) (hI.nd a_) (by exact hk1.out) OM) ?_;intro cs' w1 hI);exact⟨rfl,.inr ⟨by rw[wJ,hr.out];rfl,rfl,_,hI.sub SB⟩⟩
     ·have hG2:=HD (show Et ko bs (5- (j+1)) 6 (ks++[k3]) c3 from by have:=hG.out;rw[hq]at this;have h2:=this.next h1;rwa [show q=5- (j+1) by omega]at h2)
      have hst:Hid ((yC 7 ks).set (2+j) (k3:Int)=yC 7 (ks++[k3])):=HD (J3 OM OM);have hk1:=HD h1;clear h1 hG;go_wp2_with(first|go_at_call 136;refine KC qN hI (dZ _ pr ab _ _ _ (hI.sat _ a_) (hI.nd a_) (by exact hk1.out) OM) ?_;intro w1 hI|refine YS ?_;intro w hI);rw[hst.out]at hI;go_roundg (5- (j+1))
      case measure=>omega
      case rel=>exact⟨j+1,ks++[k3],c3,rfl,by omega,by go_num,by simp;omega,hG2,hI⟩
    ·obtain rfl:j=5:=by omega
     have hr:=HD (show bJ ko bs=some (ks,d)from Et.end_ (by simpa using hG.out));clear hG;have hfa:=J2 (n:=7) (ks:=ks) OM;rw[hfa]at hI;have hnl:(nn ks).length=7:=by simp[nn];omega
     go_wp2_with(first|refine YL ?_|refine YS ?_;intro w hI);refine bodyPost_ret (dY hI rfl rfl aM ajh hnl) rfl (.inl ⟨_,_,by rw[wJ,hr.out];rfl,rfl,hI.sub SB⟩)
theorem Sq(w0 pr ab bs)(hs:(eZ pr ab bs).sat w0)(hn:(eZ pr ab bs).own.Nodup):
  Calls prog 167 #[.pointer (some ⟨pr,0,none⟩)] w0 (sI w0 pr ab bs (wJ cellL bs)):=by
 have hI:=pG hs hn;rcases h1:iI 1099511627777 bs with _| ⟨k,c⟩
 ·have hr:=HD (show bJ cellL bs=none by unfold cellL;simp only[bJ];rw[h1];rfl)
  have hk1:=HD h1;clear h1;go_enter func167,ntmps167;exact W68
 ·rcases h2:iI 1099511627777 c with _| ⟨k2,c2⟩
  ·have hr:=HD (show bJ cellL bs=none by unfold cellL;rw[rE (h1)];simp only[Option.bind_some];rw[rE h2];rfl)
   have hk1:=HD h1;have hk2:=HD h2;clear h1 h2;go_enter func167,ntmps167;exact W46
  ·have hG:=HD (show Et cellL bs 5 1099511627777 [k,k2] c2 from Et.two (n:=5) (h1) h2)
   have hk1:=HD h1;have hk2:=HD h2;clear h1 h2;go_enter func167,ntmps167;go_upto_region 5 with(first|go_at_call 136;refine KC qN hI (dZ _ pr ab _ _ _ (hI.sat _ a_) (hI.nd a_) (by first|exact hk1.out|exact hk2.out) OM) ?_;intro w1 hI|refine YS ?_;intro w hI|refine YX ?_;intro bx w hI)
   (obtain⟨bv,hbx⟩:=EZ bx;subst hbx)
   have hk5:[k,k2].length=2:=rfl
   go_loopg [4,11] 5 (λkk s4 i wr=>∃(j:Nat) (ks:List Nat) (d:List UInt8),kk=5-j∧j<=5∧i=.int .i64 j∧ks.length=j+2∧Hid (Et cellL bs (5-j) 1099511627777 ks d)∧Inv (eZ pr ab bs).own w0 wr [ib bv 37 (yC 7 ks),ib bx 37 (au 7),eZ pr ab d])
   case atStart=>exact⟨0,[k,k2],c2,rfl,by omega,rfl,rfl,hG,hI⟩
   case round=>
    clear hI hG hk1 hk2;obtain⟨j,ks,d,rfl,hj,rfl,hkl,hG,hI⟩:=hrel;have hfl:(yC 7 ks).length=7:=xF OM;by_cases hlj:j<5
    ·obtain⟨q,hq⟩:∃q,5-j=q+1:=⟨5-j-1,by omega⟩
     rcases h1:iI 1099511627777 d with _| ⟨k3,c3⟩
     ·have hr:=HD (show bJ cellL bs=none from by have:=hG.out;rw[hq]at this;exact this.no h1)
      have hk1:=HD h1;clear h1 hG;go_wp2_with(go_at_call 136;refine KN hI (kR _ pr ab _ _ _ (hI.sat _ a_) (hI.nd a_) (by exact hk1.out) OM) ?_;intro cs' w1 hI);exact⟨rfl,.inr ⟨by rw[wJ,hr.out];rfl,rfl,_,hI.sub SB⟩⟩
     ·have hG2:=HD (show Et cellL bs (5- (j+1)) 1099511627777 (ks++[k3]) c3 from by have:=hG.out;rw[hq]at this;have h2:=this.next h1;rwa [show q=5- (j+1) by omega]at h2)
      have hst:Hid ((yC 7 ks).set (2+j) (k3:Int)=yC 7 (ks++[k3])):=HD (J3 OM OM);have hk1:=HD h1;clear h1 hG;go_wp2_with(first|go_at_call 136;refine KC qN hI (dZ _ pr ab _ _ _ (hI.sat _ a_) (hI.nd a_) (by exact hk1.out) OM) ?_;intro w1 hI|refine YS ?_;intro w hI);rw[hst.out]at hI;go_roundg (5- (j+1))
      case measure=>omega
      case rel=>exact⟨j+1,ks++[k3],c3,rfl,by omega,by go_num,by simp;omega,hG2,hI⟩
    ·obtain rfl:j=5:=by omega
     have hr:=HD (show bJ cellL bs=some (ks,d)from Et.end_ (by simpa using hG.out));clear hG;have hfa:=J2 (n:=7) (ks:=ks) OM;rw[hfa]at hI;have hnl:(nn ks).length=7:=by simp[nn];omega
     go_wp2_with(first|refine YL ?_|refine YS ?_;intro w hI);refine bodyPost_ret (dY hI rfl rfl aM aji hnl) rfl (.inl ⟨_,_,by rw[wJ,hr.out];rfl,rfl,hI.sub SB⟩)
theorem Py(l1 l2 bs):bJ (l1++l2) bs=(bJ l1 bs).bind λp=>(bJ l2 p.2).map λq=>(p.1++q.1,q.2):=by
 induction l1 generalizing bs with
 |nil=>simp[bJ]
 |cons l ls ih=>
  simp only[List.cons_append,bJ];rcases h1:iI l bs with _| ⟨k,c⟩
  ·rfl
  ·rcases h2:bJ ls c with _| ⟨ks,d⟩
   all_goals simp_all[Function.comp_def]
def GX:Nat:=1099511627777
def v_(n:Nat)(bs:List UInt8):Option (List Nat×List UInt8):=bJ (List.replicate n GX) bs
theorem xH(bs):bJ cellL bs=v_ 7 bs:=rfl
theorem xI(n bs):v_ (n+7) bs=(v_ 7 bs).bind λp=>(v_ n p.2).map λq=>(p.1++q.1,q.2):=by
 unfold v_;rw[<-Py,<-List.replicate_append_replicate.symm,Nat.add_comm]
theorem H8(bs):v_ 0 bs=some ([],bs):=rfl
def mF:Nat->List UInt8->Option ((List Nat×List Nat)×List UInt8)
 |0,bs=>some (([],[]),bs)
 |n+1,bs=>(f_ bs).bind λp=>(if 0<p.1 then v_ 28 p.2 else some (List.replicate 28 0,p.2)).bind λq=>(mF n q.2).map λr=>((p.1::r.1.1,q.1++r.1.2),r.2)
def jl(bs:List UInt8):Option (List Nat×List UInt8):=
 (f_ bs).bind λt=>(v_ 28 t.2).bind λp=>(mF 5 p.2).map λr=>(((t.1::p.1)++r.1.1)++r.1.2,r.2)
def yo(bs:List UInt8)(n:Nat)(h:List Nat)(c:List UInt8):Prop:=jl bs=(v_ n c).bind λq=>(mF 5 q.2).map λr=>(((h++q.1)++r.1.1)++r.1.2,r.2)
def ve(bs:List UInt8)(n:Nat)(h gs cs:List Nat)(c:List UInt8):Prop:=jl bs=(mF n c).map λr=>((h++(gs++r.1.1))++(cs++r.1.2),r.2)
def yZ(bs:List UInt8)(n i:Nat)(h gs cs:List Nat)(c:List UInt8):Prop:=jl bs=(v_ i c).bind λq=>(mF n q.2).map λr=>((h++(gs++r.1.1))++((cs++q.1)++r.1.2),r.2)
section
variable {bs c d:List UInt8}{n i k:Nat}{h gs cs ks:List Nat}
theorem acJ(hk:f_ bs=none):jl bs=none:=by simp[jl,hk]
theorem yo.start(hk:f_ bs=some (k,c)):yo bs 28 [k] c:=by simp[yo,jl,hk]
theorem yo.no(hA:yo bs (n+7) h c)(hk:bJ cellL c=none):jl bs=none:=by
 rw[hA,xI,<-xH,hk];rfl
theorem yo.next(hA:yo bs (n+7) h c)(hk:bJ cellL c=some (ks,d)):yo bs n (h++ks) d:=by
 unfold yo at hA|-;rw[hA,xI,<-xH,hk];simp only[Option.bind_some];rcases v_ n d with _| ⟨q,e⟩
 ·rfl
 ·simp
theorem yo.end_(hA:yo bs 0 h c):ve bs 5 h [] [] c:=by
 grind[yo,ve,H8]
theorem ve.no(hB:ve bs (n+1) h gs cs c)(hk:f_ c=none):jl bs=none:=by
 rw[hB];simp[mF,hk]
theorem ve.zero(hB:ve bs (n+1) h gs cs c)(hk:f_ c=some (k,d))(h0:k=0):ve bs n h (gs++[k]) (cs++List.replicate 28 0) d:=by
 subst h0;unfold ve at hB|-;rw[hB];simp only[mF,hk,Option.bind_some,Nat.lt_irrefl,if_false,Option.map_map];congr 1
 grind
theorem ve.some_(hB:ve bs (n+1) h gs cs c)(hk:f_ c=some (k,d))(h0:0<k):yZ bs n 28 h (gs++[k]) cs d:=by
 unfold yZ;rw[hB];simp only[mF,hk,Option.bind_some,h0,if_true];rcases v_ 28 d with _| ⟨q,e⟩
 ·rfl
 ·simp only[Option.bind_some,Option.map_map]
  congr 1
  grind
theorem yZ.no(hC:yZ bs n (i+7) h gs cs c)(hk:bJ cellL c=none):jl bs=none:=by
 rw[hC,xI,<-xH,hk];rfl
theorem yZ.next(hC:yZ bs n (i+7) h gs cs c)(hk:bJ cellL c=some (ks,d)):yZ bs n i h gs (cs++ks) d:=by
 unfold yZ at hC|-;rw[hC,xI,<-xH,hk];simp only[Option.bind_some];rcases v_ i d with _| ⟨q,e⟩
 ·rfl
 ·simp
theorem yZ.end_(hC:yZ bs n 0 h gs cs c):ve bs n h gs cs c:=by
 grind[yZ,ve,H8]
theorem ve.end_(hB:ve bs 0 h gs cs c):jl bs=some ((h++gs)++cs,c):=by
 rw[hB];simp[mF]
end
theorem Mc{bs c ks}(h:bJ cellL bs=some (ks,c)):ks.length=7:=eF h
theorem Sr{n off ks cs}(ho:off=ks.length)(h:ks.length+cs.length<=n):dK (yC n ks) off (nn cs)=yC n (ks++cs):=by
 obtain⟨d,rfl⟩:∃d,n=ks.length+cs.length+d:=⟨n- (ks.length+cs.length),by omega⟩;unfold yC dK;have h2:(nn ks++au (cs.length+d)).drop (ks.length+(nn cs).length)=au d:=by
  rw[<-List.drop_drop]
  grind[nn,au]
 grind[nn]
theorem X9{n m ks}(h:ks.length+m<=n):yC n (ks++List.replicate m 0)=yC n ks:=by
 obtain⟨d,rfl⟩:∃d,n=ks.length+m+d:=⟨n- (ks.length+m),by omega⟩;have e2:ks.length+m+d-ks.length=m+d:=by omega
 simp_all[yC,nn,au]
def oG(h gs cs:List Nat):List Int:=nn h++(yC 5 gs++yC 140 cs)
theorem dE(ks):(nn ks).length=ks.length:=by simp[nn]
theorem af_(a b):nn (a++b)=nn a++nn b:=by simp[nn]
section
variable {h gs cs ks:List Nat}{g k off:Nat}
theorem Md(hh:h.length=29)(hg:gs.length<=5)(hc:cs.length<=140):(oG h gs cs).length=174:=by
 grind[oG,dE,xF]
theorem Pz(hh:h.length=29):yC 174 h=oG h [] []:=by
 simp_all[oG,yC,au,nn]
theorem X_(hh:h.length=29)(hg:gs.length<5)(ho:off=29+gs.length):(oG h gs cs).set off (g:Int)=oG h (gs++[g]) cs:=by
 grind[oG,dE,xF,J3]
theorem Ya(hh:h.length=29)(hg:gs.length<5)(ho:off=29+gs.length):gi (oG h (gs++[g]) cs) off=(g:Int):=by
 grind[oG,gi,yC,nn]
theorem UO{a b vs o}(ha:a.length<=o):dK (a++b) o vs=a++dK b (o-a.length) vs:=by
 obtain⟨d,rfl⟩:∃d,o=a.length+d:=⟨o-a.length,by omega⟩
 simp_all[dK,Nat.add_assoc,List.take_append,List.take_of_length_le]
theorem Yb(hh:h.length=29)(hg:gs.length<=5)(hc:cs.length+ks.length<=140)(ho:off=34+cs.length):dK (oG h gs cs) off (nn ks)=oG h gs (cs++ks):=by
 grind[oG,UO,dE,xF,Sr]
theorem UQ(hc:cs.length+28<=140):oG h gs (cs++List.replicate 28 0)=oG h gs cs:=by
 grind[oG,X9]
theorem Yc(hg:gs.length=5)(hc:cs.length=140):oG h gs cs=nn ((h++gs)++cs):=by
 grind[oG,J2,af_]
end
theorem mixed:prog.follows .mixedOrders=true:=by kernel_rfl
theorem ajj:gm prog 41 174:=C.yx
theorem Mf(w0 pr ab bs){ks cs}(hs:(eZ pr ab bs).sat w0)(hn:(eZ pr ab bs).own.Nodup)(hk:bJ cellL bs=some (ks,cs)):
  Calls prog 167 #[.pointer (some ⟨pr,0,none⟩)] w0 λe w'=>e=.returned (ia (nn ks))∧Inv (eZ pr ab bs).own w0 w' [eZ pr ab cs]:=
 sI.yes (Sq w0 pr ab bs hs hn) (by rw[wJ,hk];rfl)
theorem Sv(w0 pr ab bs)(hs:(eZ pr ab bs).sat w0)(hn:(eZ pr ab bs).own.Nodup)(hk:bJ cellL bs=none):
  Calls prog 167 #[.pointer (some ⟨pr,0,none⟩)] w0 λe w'=>e=.panicked Ma∧∃cs,Inv (eZ pr ab bs).own w0 w' [eZ pr ab cs]:=
 sI.no (Sq w0 pr ab bs hs hn) (by rw[wJ,hk];rfl)
def GY(bs:List UInt8):Option (Value×List UInt8):=(jl bs).map λp=>(ia (nn p.1),p.2)
theorem acK(k:Nat):(au 174).set 0 (k:Int)=yC 174 [k]:=by grind[yC,au,nn]
theorem wG(w0 pr ab bs)(hs:(eZ pr ab bs).sat w0)(hn:(eZ pr ab bs).own.Nodup):
  Calls prog 137 #[.pointer (some ⟨pr,0,none⟩)] w0 (sI w0 pr ab bs (GY bs)):=by
 have hI:=pG hs hn;rcases h1:f_ bs with _| ⟨k,c⟩
 ·have hr:=HD (acJ h1)
  have hk1:=HD h1;clear h1;go_enter func137,ntmps137;go_wp2_with(first|go_at_call 138;refine KN hI (yT _ pr ab _ hk1.out (hI.sat _ a_) (hI.nd a_)) ?_;intro cs' w1 hI|refine YX ?_;intro bx w hI);exact⟨rfl,.inr ⟨by rw[GY,hr.out];rfl,rfl,_,hI.sub SB⟩⟩
 ·have hA:=HD (yo.start h1)
  have hk1:=HD h1;clear h1;go_enter func137,ntmps137;go_upto_region 4 with(first|go_at_call 138;refine KC qN hI (iq _ pr ab _ (by exact hk1.out) (hI.sat _ a_) (hI.nd a_)) ?_;intro w1 hI|refine YS ?_;intro w hI|refine YX ?_;intro bx w hI)
  (obtain⟨bv,hbx⟩:=EZ bx;subst hbx)
  rw[acK]at hI
  go_loopg [4,10] 4 (λkk s4 i wr=>∃(j:Nat) (h:List Nat) (d:List UInt8),kk=4-j∧j<=4∧i=.int .i64 j∧h.length=1+7*j∧Hid (yo bs (7*(4-j)) h d)∧Inv (eZ pr ab bs).own w0 wr [ib bv 41 (yC 174 h),ib bx 41 (au 174),eZ pr ab d])
  case atStart=>exact⟨0,[k],c,rfl,by omega,rfl,rfl,hA,hI⟩
  case round=>
   clear hI hA hk1;obtain⟨j,h,d,rfl,hj,rfl,hhl,hA,hI⟩:=hrel;have hfl:(yC 174 h).length=174:=xF OM;by_cases hlj:j<4
   ·have hq:7*(4-j)=7*(4- (j+1))+7:=by omega
    rcases h1:bJ cellL d with _| ⟨ks,c3⟩
    ·have hr:=HD (show jl bs=none from by have:=hA.out;rw[hq]at this;exact this.no h1)
     have hk1:=HD h1;clear h1 hA;go_wp2_with(go_at_call 167;refine KN hI (Sv _ pr ab _ (hI.sat _ a_) (hI.nd a_) hk1.out) ?_;intro cs' w1 hI);exact⟨rfl,.inr ⟨by rw[GY,hr.out];rfl,rfl,_,hI.sub SB⟩⟩
    ·have hA2:=HD (show yo bs (7*(4- (j+1))) (h++ks) c3 from by have:=hA.out;rw[hq]at this;exact this.next h1)
     have hkl:=Mc h1;have hkn:(nn ks).length=7:=by rw[dE];exact hkl
     have hst:Hid (dK (yC 174 h) (1+j*7) (nn ks)=yC 174 (h++ks)):=HD (Sr OM OM);have hk1:=HD h1;clear h1 hA;go_wp2_with(first|go_at_call 167;refine KC qN hI (Mf _ pr ab _ (hI.sat _ a_) (hI.nd a_) hk1.out) ?_;intro w1 hI|refine YS ?_;intro w hI);rw[hst.out]at hI;go_roundg (4- (j+1))
     case measure=>omega
     case rel=>exact⟨j+1,h++ks,c3,rfl,by omega,by go_num,by simp;omega,hA2,hI⟩
   ·obtain rfl:j=4:=by omega
    have hB:=HD (show ve bs 5 h [] [] d from yo.end_ (by simpa using hA.out));clear hA;have hh:h.length=29:=by omega
    rw[Pz hh]at hI;go_upto_region 9 with(fail)
    go_loopg [5,6,19,32] 5 (λkk s5 s6 i s32 wr=>∃(j:Nat) (gs cs:List Nat) (d:List UInt8),kk=5-j∧j<=5∧i=.int .i64 j∧gs.length=j∧cs.length=28*j∧Hid (ve bs (5-j) h gs cs d)∧Inv (eZ pr ab bs).own w0 wr [ib bv 41 (oG h gs cs),ib bx 41 (au 174),eZ pr ab d])
    case atStart=>exact⟨0,[],[],d,rfl,by omega,rfl,rfl,rfl,hB,hI⟩
    case round=>
     clear hI hB hfl;obtain⟨j,gs,cs,d2,rfl,hj,rfl,hgl,hcl,hB,hI⟩:=hrel;have hfl:(oG h gs cs).length=174:=Md hh OM OM;by_cases hlj:j<5
     ·have hq:5-j=(5- (j+1))+1:=by omega
      rcases h1:f_ d2 with _| ⟨g,d3⟩
      ·have hr:=HD (show jl bs=none from by have:=hB.out;rw[hq]at this;exact this.no h1)
       have hk1:=HD h1;clear h1 hB;go_wp2_with(go_at_call 138;refine KN hI (yT _ pr ab _ hk1.out (hI.sat _ a_) (hI.nd a_)) ?_;intro cs' w1 hI);exact⟨rfl,.inr ⟨by rw[GY,hr.out];rfl,rfl,_,hI.sub SB⟩⟩
      ·have hst:Hid ((oG h gs cs).set (29+j) (g:Int)=oG h (gs++[g]) cs):=HD (X_ hh OM OM)
       have hgt:gi ((oG h gs cs).set (29+j) (g:Int)) (29+j)=(g:Int):=by rw[hst.out];exact Ya hh OM OM
       by_cases h0:g=0
       ·have hB2:=HD (show ve bs (5- (j+1)) h (gs++[g]) (cs++List.replicate 28 0) d3 from by have:=hB.out;rw[hq]at this;exact this.zero h1 h0)
        have hd:decide (0<gi ((oG h gs cs).set (29+j) (g:Int)) (29+j))=false:=by rw[hgt,h0];rfl
        have hk1:=HD h1;clear h1 hB hgt h0;go_wp2_with(first|go_at_call 138;refine KC qN hI (iq _ pr ab _ (by exact hk1.out) (hI.sat _ a_) (hI.nd a_)) ?_;intro w1 hI|refine YL ?_|refine YS ?_;intro w hI);rw[hst.out,<-UQ (cs:=cs) OM]at hI;go_roundg (5- (j+1))
        case measure=>omega
        case rel=>exact⟨j+1,gs++[g],cs++List.replicate 28 0,d3,rfl,by omega,by go_num,by simp;omega,by simp;omega,hB2,hI⟩
       ·have hC:=HD (show yZ bs (5- (j+1)) 28 h (gs++[g]) cs d3 from by have:=hB.out;rw[hq]at this;exact this.some_ h1 OM)
        have hd:decide (0<gi ((oG h gs cs).set (29+j) (g:Int)) (29+j))=true:=by rw[hgt];simp;omega
        have hk1:=HD h1;clear h1 hB hgt;go_upto_region 14 with(first|go_at_call 138;refine KC qN hI (iq _ pr ab _ (by exact hk1.out) (hI.sat _ a_) (hI.nd a_)) ?_;intro w1 hI|refine YL ?_|refine YS ?_;intro w hI)
        rw[hst.out]at hI;clear hst hd hfl hk1
        go_loopg [6,32] 4 (λkk s6 i wr=>∃(m:Nat) (cs:List Nat) (d:List UInt8),kk=4-m∧m<=4∧i=.int .i64 m∧cs.length=28*j+7*m∧Hid (yZ bs (5- (j+1)) (7*(4-m)) h (gs++[g]) cs d)∧Inv (eZ pr ab bs).own w0 wr [ib bv 41 (oG h (gs++[g]) cs),ib bx 41 (au 174),eZ pr ab d])
        case atStart=>exact⟨0,cs,d3,rfl,by omega,rfl,by omega,hC,hI⟩
        case round=>
         clear hI hC hcl;obtain⟨m,cs,d4,rfl,hm,rfl,hcl,hC,hI⟩:=hrel;have hfl:(oG h (gs++[g]) cs).length=174:=Md hh (by simp;omega) OM;by_cases hlm:m<4
         ·have hq:7*(4-m)=7*(4- (m+1))+7:=by omega
          rcases h1:bJ cellL d4 with _| ⟨ks,d5⟩
          ·have hr:=HD (show jl bs=none from by have:=hC.out;rw[hq]at this;exact this.no h1)
           have hk1:=HD h1;clear h1 hC;go_upto_region 16 with(fail)
           refine nL (λw=>Inv (eZ pr ab bs).own w0 w [ib bv 41 (oG h (gs++[g]) cs),ib bx 41 (au 174),eZ pr ab d4]) mixed ?_;replace hI:=hI.drew;change o_ _ _ _ _ _ _ _ _ (World.drew _);revert hI;generalize World.drew _=w9;intro hI
           (refine aO (i:=0) (v:=?_) rfl KF KF KF (λc a w hp=>hp) ⟨by rfl,?_⟩ ?_;rotate_left;focus(intro w _;go_simp;with_reducible rfl))
           (simp only[Act.put,List.setIfInBounds_toArray,QG,QS])
           (refine aO (i:=1) (v:=?_) rfl KF KF KF (λc a w hp=>hp) ⟨by rfl,?_⟩ ?_;rotate_left;focus(intro w _;go_simp;with_reducible rfl))
           (simp only[Act.put,List.setIfInBounds_toArray,QG,QS])
           (refine aO (i:=2) (v:=?_) rfl KF KF KF (λc a w hp=>hp) ⟨by rfl,?_⟩ ?_;rotate_left;focus(intro w _;go_simp;with_reducible rfl))
           (simp only[Act.put,List.setIfInBounds_toArray,QG,QS])
           (refine aO (i:=4) (v:=?_) rfl KF KF KF (λc a w hp=>hp) ⟨by rfl,?_⟩ ?_;rotate_left;focus(intro w _;go_simp;with_reducible rfl))
           (simp only[Act.put,List.setIfInBounds_toArray,QG,QS])
           (refine aO (i:=5) (v:=?_) rfl KF KF KF (λc a w hp=>hp) ⟨by rfl,?_⟩ ?_;rotate_left;focus(intro w _;go_simp;with_reducible rfl))
           (simp only[Act.put,List.setIfInBounds_toArray,QG,QS])
           refine eH (i:=3) KF hI ?_;refine PD (i:=3) (by rfl) RF ?_;go_wp2_with(go_at_call 167;refine KN hI (Sv _ pr ab _ (hI.sat _ a_) (hI.nd a_) hk1.out) ?_;intro cs' w1 hI);exact Yd ⟨rfl,.inr ⟨by rw[GY,hr.out];rfl,rfl,_,hI.sub SB⟩⟩
          ·have hC2:=HD (show yZ bs (5- (j+1)) (7*(4- (m+1))) h (gs++[g]) (cs++ks) d5 from by have:=hC.out;rw[hq]at this;exact this.next h1)
           have hkl:=Mc h1;have hkn:(nn ks).length=7:=by rw[dE];exact hkl
           have hk1:=HD h1;clear h1 hC;have amh:decide ((m:Int) <4)=true:=by simp;omega
           go_upto_region 16 with(fail)
           have hst:Hid (dK (oG h (gs++[g]) cs) (34+j*28+m*7) (nn ks)=oG h (gs++[g]) (cs++ks)):=HD (Yb hh (by simp;omega) OM OM)
           (obtain⟨mE,rF⟩:=iO hI;refine aJ (C:=λw'=>Inv _ _ w' _) [3,7] (λw'=>Inv _ _ w' (List.eraseIdx (List.eraseIdx (mE) 0) 1)) hI.drew (λw' h=>Inv.sub h (by subst rF;((try simp only[xA]);repeat(first|exact List.Sublist.slnil|with_reducible apply List.Sublist.cons_cons|apply List.Sublist.cons)))) mixed KF ?_;subst rF;clear hI)
           ((with_reducible apply dG);rfl;rfl;(focus(intro D w hD hE;have hI:Inv _ _ w _:=hE;(try simp only[xA]at hI);go_wp2_with(fail);(try simp only[QN]);exact⟨rfl,rfl,hD⟩));(exact⟨_,rfl⟩))
           ((with_reducible apply dG);rfl;rfl;(focus(intro D w hD hE;have hI:Inv _ _ w _:=hE;(try simp only[xA]at hI);go_wp2_with(fail);(try simp only[QN]);exact⟨rfl,rfl,hD⟩));(exact⟨_,rfl⟩))
           ((with_reducible apply dG);rfl;rfl;(focus(intro D w hD hE;have hI:Inv _ _ w _:=hE;(try simp only[xA]at hI);go_wp2_with(fail);(try simp only[QN]);exact⟨rfl,rfl,hD⟩));(exact⟨_,rfl⟩))
           (with_reducible apply dL)
           rfl;rfl;rfl
           ·(intro w (hI:Inv _ _ w _))
            go_wp2_with(go_at_call 167;refine KC qN hI (Mf _ pr ab _ (hI.sat _ a_) (hI.nd a_) hk1.out) ?_;intro w1 hI)
            (try simp only[QN])
            exact⟨rfl,rfl,hI⟩
           (exact⟨_,rfl⟩)
           ·(intro w (hI:Inv _ _ w _))
            exact Inv.sub hI SB
           (repeat(first| ((with_reducible apply dL);rfl;rfl;rfl;(focus(intro w (hI:Inv _ _ w _);go_wp2_with(refine YS ?_;intro w hI);(try simp only[QN]);exact⟨rfl,rfl,hI⟩));(exact⟨undef,rfl⟩);(focus(intro w (hI:Inv _ _ w _);exact Inv.sub hI SB))) | ((with_reducible apply bu);rfl;rfl;(focus(intro w (hI:Inv _ _ w _);go_wp2_with(fail);(try simp only[QN]);exact⟨rfl,rfl,hI⟩));(exact⟨_,rfl⟩)) | ((with_reducible apply dG);rfl;rfl;(focus(intro D w hD hE;have hI:Inv _ _ w _:=hE;(try simp only[xA]at hI);go_wp2_with(fail);(try simp only[QN]);exact⟨rfl,rfl,hD⟩));(exact⟨_,rfl⟩))));(refine bH ?_;intro w (hI:Inv _ _ w _))
           rw[hst.out]at hI;go_wp2_with(fail);go_roundg (4- (m+1))
           case measure=>omega
           case rel=>exact⟨m+1,cs++ks,d5,rfl,by omega,by go_num,by simp;omega,hC2,hI⟩
         ·obtain rfl:m=4:=by omega
          have hB2:=HD (show ve bs (5- (j+1)) h (gs++[g]) cs d4 from yZ.end_ (by simpa using hC.out));clear hC;go_wp2_with(fail);go_roundg (5- (j+1))
          case measure=>omega
          case rel=>exact⟨j+1,gs++[g],cs,d4,rfl,by omega,by go_num,by simp;omega,by omega,hB2,hI⟩
     ·obtain rfl:j=5:=by omega
      have hr:=HD (show jl bs=some ((h++gs)++cs,d2)from ve.end_ (by simpa using hB.out));clear hB;rw[Yc hgl OM]at hI;have hnl:(nn ((h++gs)++cs)).length=174:=by rw[dE];simp;omega
      go_wp2_with(first|refine YL ?_|refine YS ?_;intro w hI);refine bodyPost_ret (dY hI rfl rfl aM ajj hnl) rfl (.inl ⟨_,_,by rw[GY,hr.out];rfl,rfl,hI.sub SB⟩)
def ajk:List PanicEntry:=[{v:=.iface 221 (.agg #[]),recovered:=true}]
theorem aga:(match prog.underlying 221 with|some (.struct _)=>true|_=>false)=true:=by simp_all
theorem UR(w):(Instr.typeAssert (.iface 221 (.agg #[])) 20 221 true).run prog w=.ok (.tuple #[.agg #[],.bool true]) w:=by
 have h:=aga;cases hu:prog.underlying 221 with
 |none=>grind
 |some t=>
  rw[hu]at h;cases t<;>simp only[Bool.false_eq_true]at h
  unfold Instr.typeAssert
  simp_all
theorem UT{T w0 w p x m}(hI:Inv T w0 w (blk p 4 [.bool x]::m)):
  CallsD prog 135 #[.pointer (some ⟨p,0,none⟩)] (.panicking Ma) w λe u' w'=>e=.returned (.tuple #[])∧u'=.panicking ajk∧Inv T w0 w' (blk p 4 [.bool false]::m):=by
 have has:=UR;refine callsD_of_wpS func135 rfl λc₀ cs hu=>?_
 apply wpS_seq;apply wpS_region;simp[wpOpsS,go_sem,recoverD,hu,Ma,ntmps135,Exit.thenS];refine wpS_of_wp ?_;simp only[Array.replicate,List.replicate,List.setIfInBounds_toArray,List.set_cons_zero,List.set_cons_succ,List.append_toArray,List.cons_append,List.nil_append];go_wp2_with(first|(with_reducible refine aN (z:=.agg #[]) (cs:=[]) hI KF RF ?_;intro bz w hI)|(with_reducible refine aR (vs:=[]) hI RF RF jR (n:=0) KF RF SI SI ?_;intro w hI)|refine YT ?_;intro w hI;(try simp only[QS]at hI));have hres:∀(tm:Array Value) (w:World),(results f135 tm).run prog w=.ok (.tuple #[]) w:=λtm w=>by
  have h0:f135.results=#[]:=by kernel_rfl
  unfold results;rw[h0];simp[Sem.run_bind,Sem.run_pure,Result.andThen_ok]
 exact⟨rfl,_,rfl,_,hres _ _,rfl,rfl,hI.tl⟩
theorem PE{T w0 w p m}(hI:Inv T w0 w m):
  CallsD prog 135 #[.pointer (some ⟨p,0,none⟩)] .returning w λe u' w'=>e=.returned (.tuple #[])∧u'=.returning∧Inv T w0 w' m:=by
 refine callsD_of_wpS func135 rfl λc₀ cs hu=>?_
 apply wpS_seq;apply wpS_region;simp[wpOpsS,go_sem,recoverD,hu,ntmps135,Exit.thenS];refine wpS_of_wp ?_;simp only[Array.replicate,List.replicate,List.setIfInBounds_toArray,List.set_cons_zero,List.set_cons_succ,List.append_toArray,List.cons_append,List.nil_append]
 go_wp2
 have hres:∀(tm:Array Value) (w:World),(results f135 tm).run prog w=.ok (.tuple #[]) w:=λtm w=>by
  have h0:f135.results=#[]:=by kernel_rfl
  unfold results;rw[h0];simp[Sem.run_bind,Sem.run_pure,Result.andThen_ok]
 cases c₀;simp only at hu;exact⟨rfl,_,rfl,_,hres _ _,rfl,hu,hI⟩
theorem agb:(match prog.underlying 192 with|some (.func _ _ _)=>true|_=>false)=true:=by simp_all
theorem afj(g:Nat)(Eu w):(binOp .neq 192 (.func (.func g) #[] Eu) .nilFunc).run prog w=.ok (.bool true) w:=by
 have h:=agb;cases hu:prog.underlying 192 with
 |none=>grind
 |some t=>
  rw[hu]at h;cases t<;>simp only[Bool.false_eq_true]at h
  have h2:(Op.equalIn (9999+1) 192 (.func (.func g) #[] Eu) .nilFunc).run prog w=.ok false w:=by
   rw[Op.equalIn];simp only[Sem.run_bind,run_underlying hu,Result.andThen_ok,Sem.run_pure]
  show(do pure (Value.bool (!(<-Op.equalIn (9999+1) 192 (.func (.func g) #[] Eu) .nilFunc)))).run prog w=_
  simp_all
theorem Ev{T w0 w pr ab bs a c x m}(hc:bs.length<=c)(hm:c<=maxLen)(h:Inv T w0 w (blk pr 219 [.slice a bs.length c]::x::nY ab a bs::m)):Inv T w0 w (eZ pr ab bs::x::m):=by
 refine h.turn (λhs y hy=>?_) ?_
 ·simp only[List.mem_cons]at hy
  rcases hy with rfl|rfl|hy
  ·exact W98
  all_goals grind
 ·have e:(eZ pr ab bs).own=pr::(nY ab a bs).own:=rfl
  have e2:(blk pr 219 [.slice a bs.length c]).own=[pr]:=rfl
  grind[fe]
theorem ajl{P ops Q ac rest w dst ty pos af x}{t b off e:Nat}{fr}{cs:List Value}{v}(hb:w.heap[b]? =some (.cells cs.toArray e fr))(hx:ac.eval x=.pointer (some ⟨b,off,none⟩):=by exact RF)[hT:aQ P t](hv:cs[off]? =some v:=by exact RF)
  (k:wpList P ops Q rest (ac.put dst v) w):wpList P ops Q (⟨dst,.load t x,ty,pos,af,none⟩::rest) ac w:=by
 refine av (v:=v) ?_ k;unfold gu execOp;simp only[hx,Instr.loadAt,Instr.sureAddr,Sem.run_bind,Sem.run_pure,Result.andThen_ok,ik hT.out hb off hv]
theorem afk{T w0 w m p x tm}(hI:Inv T w0 w m)(hm:blk p 4 [.bool x]∈m)(hp:tm.getD 4 undef=.pointer (some ⟨p,0,none⟩)):(results f99 tm).run prog w=.ok (.bool x) w:=by
 have hl:=ik (P:=prog) (aQ.out (P:=prog) (t:=4)) (hI.blk hm) 0 (v:=.bool x) rfl;unfold results;simp only[Array.getD_eq_getD_getElem?]at hp;simp[Sem.run_bind,Sem.run_pure,Result.andThen_ok,hp,hl,asAddr]
theorem Ye{T w0 w a ab c bs cs}{g:Nat}{Eu m m1}(hc:bs.length<=c)(hm:c<=maxLen)(hI:Inv T w0 w (nY ab a bs::m))(hg:∀args w,(callFunc g args).run prog w=.ok (.enter g args) w)(hcall:∀w' pr x,Inv T w0 w' (eZ pr ab bs::x::m)->Calls prog g (#[.pointer (some ⟨pr,0,none⟩)]++Eu) w' λe w''=>e=.returned (.tuple #[])∧Inv T w0 w'' (eZ pr ab cs::x::m1)):
  Calls prog 99 #[.slice a bs.length c,.func (.func g) #[] Eu] w λe w'=>e=.returned (.bool (decide (cs=[])))∧∃pr,Inv T w0 w' (eZ pr ab cs::m1):=by
 have hmf:∀(fn:Fn) (first cap:Array Value) (w:World),(Instr.makeFunc fn first cap).run prog w=.ok (.func fn first cap) w:=λ_ _ _ _=>rfl
 have hnf:=afj g Eu
 go_enter_defers func99,ntmps99
 go_wp2_with(first|(with_reducible refine aN (z:=.bool false) (cs:=[.bool false]) hI KF RF ?_;intro bx w hI)|(with_reducible refine bX (cs:=[.slice a bs.length c]) hI RF ?_;intro pr w hI)|refine(hcall _ pr _ (Ev hc hm hI)).mono ?_;rintro e w1 ⟨rfl,hJ⟩;replace hI:=hJ;clear hJ;(obtain⟨a2,c2,hpr,_⟩:=hI.sat _ aC)|with_reducible refine ajl (b:=pr) (cs:=[.slice a2 cs.length c2]) hpr (k:=?_)|refine YT ?_;intro w hI;(try simp only[QS]at hI));have hz:((cs.length:Int)==0)=decide (cs=[]):=by
  cases cs with
  |nil=>rfl
  |cons c cs=>simp;omega
 rw[hz]at hI;refine leaves_cons (f:=135) (args:= #[.pointer (some ⟨bx,0,none⟩)]) SI (by simp[go_sem]) ?_;refine(PE hI).mono ?_;rintro e u' w'' ⟨rfl,rfl,hI⟩;refine⟨_,afk hI aM rfl,rfl,pr,hI.sub (.cons_cons _ (.cons _ (.refl _)))⟩
theorem acL{T w0 w a ab c bs}{g:Nat}{Eu m m1}(hc:bs.length<=c)(hm:c<=maxLen)(hI:Inv T w0 w (nY ab a bs::m))(hg:∀args w,(callFunc g args).run prog w=.ok (.enter g args) w)(hcall:∀w' pr x,Inv T w0 w' (eZ pr ab bs::x::m)->Calls prog g (#[.pointer (some ⟨pr,0,none⟩)]++Eu) w' λe w''=>e=.panicked Ma∧∃cs,Inv T w0 w'' (eZ pr ab cs::x::m1)):
  Calls prog 99 #[.slice a bs.length c,.func (.func g) #[] Eu] w λe w'=>e=.returned (.bool false)∧∃pr cs,Inv T w0 w' (eZ pr ab cs::m1):=by
 have hmf:∀(fn:Fn) (first cap:Array Value) (w:World),(Instr.makeFunc fn first cap).run prog w=.ok (.func fn first cap) w:=λ_ _ _ _=>rfl
 have hnf:=afj g Eu
 go_enter_defers func99,ntmps99
 go_wp2_with(first|(with_reducible refine aN (z:=.bool false) (cs:=[.bool false]) hI KF RF ?_;intro bx w hI)|(with_reducible refine bX (cs:=[.slice a bs.length c]) hI RF ?_;intro pr w hI)|refine(hcall _ pr _ (Ev hc hm hI)).mono ?_;rintro e w1 ⟨rfl,cs,hJ⟩;replace hI:=hJ;clear hJ);refine leaves_cons (f:=135) (args:= #[.pointer (some ⟨bx,0,none⟩)]) SI (by simp[go_sem]) ?_;refine(UT (m:=eZ pr ab cs::m1) (x:=false) (hI.turn (λhs y hy=>hs y (by simp at hy|-;rcases hy with h|h|h<;>simp[h])) (by simp only[fe];rw[<-List.append_assoc,<-List.append_assoc];exact List.Perm.append_right _ List.perm_append_comm))).mono ?_;rintro e u' w'' ⟨rfl,rfl,hI⟩;have hr:=λtm hp=>afk (tm:=tm) hI aC hp
 simp[Leaves,settle,ajk];exact⟨_,hr _ rfl,rfl,pr,cs,hI.tl⟩
theorem nS{T w0 w a ab c bs cs}{g:Nat}{b1 b2 m m1}(hc:bs.length<=c)(hm:c<=maxLen)(hg:∀args w,(callFunc g args).run prog w=.ok (.enter g args) w)(hI:Inv T w0 w (nY ab a bs::m))(hcall:∀w' pr x,Inv T w0 w' (eZ pr ab bs::x::m)->Calls prog g #[.pointer (some ⟨pr,0,none⟩),.pointer (some ⟨b1,0,none⟩),.pointer (some ⟨b2,0,none⟩)] w' λe w''=>e=.returned (.tuple #[])∧Inv T w0 w'' (eZ pr ab cs::x::m1)):
  Calls prog 99 #[.slice a bs.length c,.func (.func g) #[] #[.pointer (some ⟨b1,0,none⟩),.pointer (some ⟨b2,0,none⟩)]] w λe w'=>e=.returned (.bool (decide (cs=[])))∧∃pr,Inv T w0 w' (eZ pr ab cs::m1):=
 Ye hc hm hI hg (λw' pr x h=>by grind)
theorem Ew{T w0 w a ab c bs}{g:Nat}{b1 b2 m m1}(hc:bs.length<=c)(hm:c<=maxLen)(hg:∀args w,(callFunc g args).run prog w=.ok (.enter g args) w)(hI:Inv T w0 w (nY ab a bs::m))(hcall:∀w' pr x,Inv T w0 w' (eZ pr ab bs::x::m)->Calls prog g #[.pointer (some ⟨pr,0,none⟩),.pointer (some ⟨b1,0,none⟩),.pointer (some ⟨b2,0,none⟩)] w' λe w''=>e=.panicked Ma∧∃cs,Inv T w0 w'' (eZ pr ab cs::x::m1)):
  Calls prog 99 #[.slice a bs.length c,.func (.func g) #[] #[.pointer (some ⟨b1,0,none⟩),.pointer (some ⟨b2,0,none⟩)]] w λe w'=>e=.returned (.bool false)∧∃pr cs,Inv T w0 w' (eZ pr ab cs::m1):=
 acL hc hm hI hg (λw' pr x h=>by grind)
theorem zY:(prog.info? 4).map (·.zero)=some (some (.bool false)):=by kernel_rfl
theorem h_{fn}(h0:fn.results=#[])(tm w):(results fn tm).run prog w=.ok (.tuple #[]) w:=by
 unfold results
 simp_all
theorem Inv.Mg{T w0 w x y z r m}(h:Inv T w0 w (x::y::z::r::m)):Inv T w0 w (r::x::y::z::m):=by
 grind[Inv.turn,fe]
def vg(bs:List UInt8):Value:=.agg (bs.map bv).toArray
def ug(at_:Int)(bs:List UInt8):List Value:=.int .i64 at_::bs.map bv
def gW(n:Nat):List UInt8:=List.replicate n 0
theorem k_(n):(gW n).length=n:=by simp[gW]
theorem sH(bs:List UInt8):∀u∈bs.map bv,u.oneCell'=true:=by
 intro u hu;obtain⟨x,_,rfl⟩:=List.mem_map.1 hu;rfl
theorem LZ(z bs):∀u∈ug z bs,u.oneCell'=true:=by
 intro u hu;rcases List.mem_cons.1 hu with rfl|hu
 ·rfl
 grind[sH]
theorem JP(z bs):(ug z bs).length=bs.length+1:=by simp[ug]
theorem JV:(prog.info? 169).map (·.zero)=some (some (vg (gW 64))):=by kernel_rfl
theorem Sw:(prog.info? 171).map (·.zero)=some (some (.agg (ug 0 (gW 64)).toArray)):=by kernel_rfl
theorem agc:JK prog 171:=⟨_,underlying171,by kernel_rfl⟩
theorem agd:GU prog 171 0 0 1:=⟨_,underlying171,by kernel_rfl⟩
instance:uQ prog 135 171 65 72 (.agg (ug 0 (gW 64)).toArray):=⟨⟨by kernel_rfl,by kernel_rfl,by kernel_rfl,by decide⟩⟩
theorem JU:af7 prog 134 3 169:=⟨by kernel_rfl,by kernel_rfl⟩
def Ca(r:Nat)(S:Int->List UInt8):bT:=
 ⟨[r],λw=>∃f,(mpr r f).sat w∧∀k,(f k).getD (vg (gW 64))=vg (S k),λw w' h ⟨f,h1,h2⟩=>⟨f,(mpr r f).loc w w' h h1,h2⟩⟩
def oh(S:Int->List UInt8)(k:Int)(bs:List UInt8):Int->List UInt8:=λj=>if j=k then bs else S j
section
variable {P:Program}{ops:Array Oper}{Q:Exit->Act->World->Prop}{a:Act}{rest:List Oper}{T:List Nat}{w0 w:World}{m m':List bT}{dst:Option Tmp}{ty:TypeId}{pos:String}{af:Array Edge}
variable {x y u:Operand}{t n b off:Nat}{e:TypeId}{bs vs:List UInt8}{z:Int}
theorem Yf(h:Inv T w0 w (mpr b (λ_=>none)::m)):Inv T w0 w (Ca b (λ_=>gW 64)::m):=
 h.turn (λhs y hy=>by
  rcases List.mem_cons.1 hy with rfl|hy
  ·exact⟨λ_=>none,hs (mpr b λ_=>none) SI,λ_=>rfl⟩
  grind) (by simp[owned,Ca,mpr])
theorem ajm{r S j}(hI:Inv T w0 w m)(hx:a.eval x=.map (some r):=by exact RF)(hy:a.eval y=.int .i64 j:=by exact RF)
  (hm:Ca r S∈m:=by exact MM)
  (k:wpList prog ops Q rest (a.put dst (vg (S j))) w):wpList prog ops Q (⟨dst,.lookup 134 x y false,ty,pos,af,none⟩::rest) a w:=by
 obtain⟨f,h1,h2⟩:=hI.sat _ hm;refine av ?_ k;exact W87
theorem ak6{r S j}(hI:Inv T w0 w m)(hx:a.eval x=.map (some r):=by exact RF)(hy:a.eval y=.int .i64 j:=by exact RF)(hu:a.eval u=vg bs:=by exact RF)
  (hup:aU (Ca r S) (Ca r (oh S j bs)) m m':=by exact UU)
  (k:∀w',Inv T w0 w' m'->wpList prog ops Q rest (a.put dst undef) w'):wpList prog ops Q (⟨dst,.mapUpdate 134 x y u,ty,pos,af,none⟩::rest) a w:=by
 obtain⟨m1,m2,rfl,rfl⟩:=hup.split;obtain⟨f,h1,h2⟩:=hI.sat (Ca r S) SI;have hI2:Inv T w0 w (m1++mpr r f::m2):=hI.turn (λhs y hy=>by
  grind) (by simp[owned,Ca,mpr])
 refine Bj hI2 hx hy hu JU (aU.mid _ _ m2 m1) λw' hI'=>k w' (hI'.turn (λhs y hy=>?_) (by simp[owned,Ca,mpr]))
 simp only[List.mem_append,List.mem_cons]at hy;rcases hy with hy|rfl|hy
 ·grind
 ·refine⟨λi=>if i=j then some (vg bs)else f i,hs (mpr r (λi=>if i=j then some (vg bs)else f i)) SI,λi=>?_⟩
  unfold oh
  grind
 grind
theorem acC(hI:Inv T w0 w m)(hx:a.eval x=.pointer (some ⟨b,0,none⟩):=by exact RF)(hm:blk b e (bs.map bv)∈m:=by exact MM)[hT:bP P t n](hl:bs.length=n:=by first|assumption| (simp only[k_]) |omega)
  (k:wpList P ops Q rest (a.put dst (vg bs)) w):wpList P ops Q (⟨dst,.load t x,ty,pos,af,none⟩::rest) a w:=
 dh hI hx hm hT.out (by simp[hl]) (by
  rw[show((bs.map bv).drop 0).take n=bs.map bv from List.take_of_length_le (by simp[hl])];exact k)
theorem afh(hI:Inv T w0 w m)(hx:a.eval x=.pointer (some ⟨b,1,none⟩):=by exact RF)(hm:blk b e (ug z bs)∈m:=by exact MM)[hT:bP P t n](hl:bs.length=n:=by first|assumption| (simp only[k_]) |omega)
  (k:wpList P ops Q rest (a.put dst (vg bs)) w):wpList P ops Q (⟨dst,.load t x,ty,pos,af,none⟩::rest) a w:=
 dh hI hx hm hT.out (by grind[ug]) (by
  rw[show((ug z bs).drop 1).take n=bs.map bv from by grind[ug.eq_1,List.take_of_length_le]];exact k)
theorem ai1(hI:Inv T w0 w m)(hx:a.eval x=.pointer (some ⟨b,0,none⟩):=by exact RF)(hm:blk b e (ug z bs)∈m:=by exact MM)[hT:bP P t n](hl:bs.length+1=n:=by first|omega| (simp only[k_]))
  (k:wpList P ops Q rest (a.put dst (.agg (ug z bs).toArray)) w):wpList P ops Q (⟨dst,.load t x,ty,pos,af,none⟩::rest) a w:=
 dh hI hx hm hT.out (by grind[ug]) (by
  grind[ug,List.take_of_length_le])
theorem y5{cs vs}(h:vs.length=cs.length):splice cs 0 vs=vs:=by simp[splice,h]
theorem HY(hI:Inv T w0 w m)(hx:a.eval x=.pointer (some ⟨b,0,none⟩):=by exact RF)(hv:a.eval y=vg vs:=by exact RF)
  (hu:aU (blk b e (bs.map bv)) (blk b e (vs.map bv)) m m':=by exact UU) [hT:bP P t n]
  (hl:bs.length=n:=by first|assumption| (simp only[k_]) |omega) (hl2:vs.length=n:=by first|assumption| (simp only[k_]) |omega)
  (k:∀w',Inv T w0 w' m'->wpList P ops Q rest (a.put dst undef) w'):wpList P ops Q (⟨dst,.store t x y,ty,pos,af,none⟩::rest) a w:=
 aR hI hx (cs:=bs.map bv) (vs:=vs.map bv) (by rw[hv];rfl) (by rw[y5 (by grind)];exact hu) hT.out.size (by grind) (by simp[hl]) (sH vs) k
theorem HV{z2}(hI:Inv T w0 w m)(hx:a.eval x=.pointer (some ⟨b,0,none⟩):=by exact RF)(hv:a.eval y=.agg (ug z2 vs).toArray:=by exact RF)
  (hu:aU (blk b e (ug z bs)) (blk b e (ug z2 vs)) m m':=by exact UU) [hT:bP P t n]
  (hl:bs.length+1=n:=by first|omega| (simp only[k_])) (hl2:vs.length+1=n:=by first|omega| (simp only[k_]))
  (k:∀w',Inv T w0 w' m'->wpList P ops Q rest (a.put dst undef) w'):wpList P ops Q (⟨dst,.store t x y,ty,pos,af,none⟩::rest) a w:=
 aR hI hx (cs:=ug z bs) (vs:=ug z2 vs) (by rw[hv];rfl) (by rw[y5 (by grind[ug])];exact hu) hT.out.size (by grind[ug]) (by grind[ug]) (LZ z2 vs) k
theorem XC(hI:Inv T w0 w m)(k:∀b w',Inv T w0 w' (blk b 169 ((gW 64).map bv)::m)->wpList prog ops Q rest (a.put dst (.pointer (some ⟨b,0,none⟩))) w'):wpList prog ops Q (⟨dst,.alloc 169,ty,pos,af,none⟩::rest) a w:=
 aN hI JV rfl k
theorem UC(hI:Inv T w0 w m)(k:∀b w',Inv T w0 w' (blk b 171 (ug 0 (gW 64))::m)->wpList prog ops Q rest (a.put dst (.pointer (some ⟨b,0,none⟩))) w'):wpList prog ops Q (⟨dst,.alloc 171,ty,pos,af,none⟩::rest) a w:=
 aN hI Sw rfl k
theorem Sl(hI:Inv T w0 w m)(hv:a.eval x=vg bs:=by exact RF)
  (k:∀b w',Inv T w0 w' (blk b t (bs.map bv)::m)->wpList P ops Q rest (a.put dst (.pointer (some ⟨b,0,none⟩))) w'):wpList P ops Q (⟨dst,.box t x,ty,pos,af,none⟩::rest) a w:=bX hI (by rw[hv];rfl) k
theorem ajn(h0:a.eval x=.int .i64 z:=by exact RF)(k:wpList prog ops Q rest (a.put dst (.agg (ug z (gW 64)).toArray)) w):wpList prog ops Q (⟨dst,.build 171 #[(0,x)],ty,pos,af,none⟩::rest) a w:=
 jO (ps:=[(0,x)]) (n:=65) [(0,[.int .i64 z])] Sw rfl (by rfl) agc ⟨by rw[h0];rfl,agd,Nat.le_of_ble_eq_true rfl,trivial⟩ k
theorem PG{fn}{p:Nat}{tm}(hI:Inv T w0 w m)(h0:fn.results=#[.cell p 169])(hp:tm.getD p undef=.pointer (some ⟨b,0,none⟩))(hm:blk b e (bs.map bv)∈m)(hl:bs.length=64):(results fn tm).run prog w=.ok (vg bs) w:=by
 have hl2:=iT (P:=prog) (bP.out (P:=prog) (t:=169)) (hI.blk hm) 0 (by simp[hl]);rw[show((bs.map bv).drop 0).take 64=bs.map bv from List.take_of_length_le (by simp[hl])]at hl2;simp only[Array.getD_eq_getD_getElem?]at hp;unfold results;rw[h0];simp[Sem.run_bind,Sem.run_pure,Result.andThen_ok,hp,hl2,asAddr,vg]
theorem ai3(r w):(binOp .eql 134 (.map (some r)) (.map none)).run prog w=.ok (.bool false) w:=by
 have h2:(Op.equalIn (9999+1) 134 (.map (some r)) (.map none)).run prog w=.ok false w:=by
  rw[Op.equalIn];simp only[Sem.run_bind,run_underlying JU.1,Result.andThen_ok,Sem.run_pure]
 show(do pure (Value.bool (<-Op.equalIn (9999+1) 134 (.map (some r)) (.map none)))).run prog w=_
 simp_all
theorem vS{ad xs}(hr:Rd w (some ad) xs):∀n i acc,i+n<=xs.length->(loadCellsFrom ad i n acc).run P w=.ok (acc++((xs.drop i).take n).toArray) w
 |0,i,acc,_=>by simp[loadCellsFrom]
 |n+1,i,acc,h=>by
  have hi:i<xs.length:=by omega
  obtain⟨b,off,hab,hc⟩:=hr i xs[i] (List.getElem?_eq_getElem hi);obtain rfl:=Option.some.inj hab;rw[loadCellsFrom,Sem.run_bind];have hl:(load ((⟨b,off,none⟩:Addr).add i)).run P w=.ok xs[i] w:=by
   simp_all[kP]
  rw[hl,Result.andThen_ok,vS hr n (i+1) _ OM];congr 1
  grind
theorem Bn{ad xs}(hr:Rd w (some ad) xs)(n)(h:n<=xs.length):(loadCells ad n).run P w=.ok (xs.take n).toArray w:=by
 rw[loadCells,vS hr n 0 #[] OM];simp
theorem sG{t e2 bytes q c cq:Nat}{z ao xs cs ys}(hI:Inv T w0 w m)(hT:wy P t e2 1 bytes z)(hx:a.eval x=.slice (some ⟨b,off,none⟩) n c)(hy:a.eval y=.slice ao q cq)(hr:Rd w ao xs)(hl:xs.length=q)(hu:aU (blk b e cs) (blk b e (splice cs off ys)) m m')(hys:ys=xs.take (min q n))(hoff:off+min q n<=cs.length)(h1:∀u∈xs,u.oneCell'=true)(k:∀w',Inv T w0 w' m'->wpList P ops Q rest (a.put dst (.int .i64 (min q n:Nat))) w'):wpList P ops Q (⟨dst,.call {callee:=.builtin .copy,args:= #[x,y],argTypes:= #[t,t]},ty,pos,af,none⟩::rest) a w:=
 wpList_plain rfl λK hK=>by
  have hsz:(P.info? e2).map (·.size)=some 1:=by
   grind[wy.info]
  have hb:w.heap[b]? =some (.cells cs.toArray e (0,0)):=by
   obtain⟨m1,m2,rfl,_⟩:=hu.split;exact hI.sat (blk b e cs) SI
  have hyl:ys.length=min q n:=by grind
  have hcells:(Builtin.firstCells 1 (min q n) (.slice ao q cq)).run P w=.ok ys.toArray w:=by
   cases ao with
   |none=>
    have hx0:xs=[]:=by
     cases xs with
     |nil=>rfl
     |cons u l=>obtain⟨_,_,h,_⟩:=hr 0 u rfl;cases h
    subst hx0;simp[Builtin.firstCells,hys]
   |some ad=>
    simp only[Builtin.firstCells,Nat.mul_one]
    grind[Bn]
  obtain⟨w',hst,hstep,hsize,hheap⟩:=rf (P:=P) (b:=b) (e:=e) ys (by grind) w cs off 0 hb OM;unfold Oper.wp execOp;have hrun:(Builtin.copy_ #[t,t] ty #[.slice (some ⟨b,off,none⟩) n c,.slice ao q cq]).run P w=.ok (.int .i64 (min q n:Nat)) w':=by
   have h0:(Nat.min q n)=min q n:=rfl;simp only[Builtin.copy_,Builtin.lenOf];simp[Sem.run_bind,run_underlying hT.und,dX hsz,Result.andThen_ok,h0,hcells,hst,Sem.run_pure,goInt]
  simp only[resolve,invoke,builtin,Sem.run_bind,Sem.run_pure,Result.andThen_ok,List.map_toArray,List.map_cons,List.map_nil,hx,hy,hrun];exact hK _ _ (k w' (hI.upd hu hstep hheap (λj hj=> .inl hj) (by simp[blk])))
end
structure DS where
 sure:Int->List UInt8
 waits:List (Int×List UInt8)
 armed:Bool
 left:Int
 down:Bool
def D8(ws:List (Int×List UInt8)):List Value:=ws.flatMap λp=>ug p.1 p.2
structure xJ (D:DS):Prop where
 Yg:∀p∈D.waits,p.2.length=64
 Yh:∀k,(D.sure k).length=64
 l0:0<=D.left∧D.left<9223372036854775808
def dcs(mr:Nat)(a:Option Addr)(c:Nat)(D:DS):List Value:=[.map (some mr),.slice a D.waits.length c,.bool D.armed,.int .i64 D.left,.bool D.down]
def fB(d mr:Nat)(wb:Option Nat)(D:DS):bT:=
 ⟨d::mr::wb.toList,λw=>∃a c,Value.ownBlock (.slice a D.waits.length c)=wb∧(blk d 137 (dcs mr a c D)).sat w∧(Ca mr D.sure).sat w∧(bD 171 65 (.slice a D.waits.length c) D.waits.length (D8 D.waits)).sat w,
  λw w' h ⟨a,c,h1,h2,h3,h4⟩=>⟨a,c,h1,(blk d 137 (dcs mr a c D)).loc w w' (λk hk=>h k (by simp[blk]at hk;simp[hk])) h2,
   (Ca mr D.sure).loc w w' (λk hk=>h k (by simp[Ca]at hk;simp[hk])) h3,
   (bD 171 65 (.slice a D.waits.length c) D.waits.length (D8 D.waits)).loc w w' (λk hk=>h k (by
    have:k∈(Value.ownBlock (.slice a D.waits.length c)).toList:=hk;rw[h1]at this;exact List.mem_cons_of_mem _ (List.mem_cons_of_mem _ this))) h4⟩⟩
section
variable {T:List Nat}{w0 w:World}{d mr:Nat}{wb:Option Nat}{D:DS}{m:List bT}
theorem uq(h:Inv T w0 w (fB d mr wb D::m)):∃a c,Value.ownBlock (.slice a D.waits.length c)=wb∧
  Inv T w0 w (blk d 137 [.map (some mr),.slice a D.waits.length c,.bool D.armed,.int .i64 D.left,.bool D.down]::Ca mr D.sure::bD 171 65 (.slice a D.waits.length c) D.waits.length (D8 D.waits)::m):=by
 obtain⟨a,c,h1,h2,h3,h4⟩:=h.sat (fB d mr wb D) SI;refine⟨a,c,h1,h.turn (λhs y hy=>?_) (by simp[owned,blk,Ca,bD,fB,h1])⟩;simp only[List.mem_cons]at hy;rcases hy with rfl|rfl|rfl|hy
 ·exact h2
 all_goals grind
theorem jy{a n c ar dn lf S ws}(hw:Value.ownBlock (.slice a n c)=wb)(hn:n=ws.length)(h:Inv T w0 w (blk d 137 [.map (some mr),.slice a n c,.bool ar,.int .i64 lf,.bool dn]::Ca mr S::bD 171 65 (.slice a n c) n (D8 ws)::m)):
  Inv T w0 w (fB d mr wb ⟨S,ws,ar,lf,dn⟩::m):=by
 subst hn hw;refine h.turn (λhs y hy=>?_) (by simp[owned,blk,Ca,bD,fB]);rcases List.mem_cons.1 hy with rfl|hy
 ·exact⟨a,c,rfl,hs (blk d 137 [.map (some mr),.slice a ws.length c,.bool ar,.int .i64 lf,.bool dn]) SI,hs (Ca mr S) SI,hs (bD 171 65 (.slice a ws.length c) ws.length (D8 ws)) SI⟩
 grind
end
def iP:DS:=⟨λ_=>gW 64,[],false,0,false⟩
theorem Mh(w0):Calls prog 36 #[] w0 λe w'=>∃d mr,e=.returned (.pointer (some ⟨d,0,none⟩))∧Inv [] w0 w' [fB d mr none iP]:=by
 have hI:=Inv.start w0;go_enter func36,ntmps36;go_wp2_with(first|(with_reducible refine Eo hI ?_;intro mr w hI;replace hI:=Yf hI)|(with_reducible refine bX (cs:=[.map (some mr),.slice none 0 0,.bool false,.int .i64 0,.bool false]) hI RF ?_;intro d w hI));go_ret;refine⟨d,mr,rfl,?_⟩;have h2:Inv [] w0 w (bD 171 65 (.slice none 0 0) 0 (D8 [])::_):=hI.BZ 171 65;exact jy (a:=none) (c:=0) (ws:=[]) rfl rfl (h2.turn (λhs y hy=>hs y (by simp only[List.mem_cons]at hy|-;rcases hy with h|h|h|h<;>simp[h]at*)) (by simp[owned,blk,Ca,bD,Value.ownBlock,D8]))
section
variable (w0:World)(d mr:Nat)(wb:Option Nat)(D:DS)
theorem H5(h:(fB d mr wb D).sat w0):Calls prog 61 #[.pointer (some ⟨d,0,none⟩)] w0 λe w'=>e=.returned (.bool D.down)∧w'=w0:=by
 obtain⟨a,c,h1,h2,h3,h4⟩:=h;have hb:w0.heap[d]? =some (.cells ([.map (some mr),.slice a D.waits.length c,.bool D.armed,.int .i64 D.left,.bool D.down]:List Value).toArray 137 (0,0)):=h2;clear h2 h3 h4 h1;go_enter func61,ntmps61;go_wp2_with(with_reducible refine ajl hb (k:=?_));go_ret;exact⟨rfl,rfl⟩
variable (hI:Inv (fB d mr wb D).own w0 w0 [fB d mr wb D])
include hI
theorem Yi(n)(hn:-9223372036854775808<=n∧n<=9223372036854775807):Calls prog 42 #[.pointer (some ⟨d,0,none⟩),.int .i64 n] w0 λe w'=>e=.returned (.tuple #[])∧Inv (fB d mr wb D).own w0 w' [fB d mr wb {D with armed:=true,left:=max n 0}]:=by
 obtain⟨a,c,h1,hI⟩:=uq hI;by_cases h0:¬n<0
 ·have hm:Hid (max n 0=n):=HD OM
  exact W73
 ·have hm:Hid (max n 0=0):=HD OM
  exact W73
theorem H9(at_)(h64:(D.sure at_).length=64):Calls prog 94 #[.pointer (some ⟨d,0,none⟩),.int .i64 at_] w0 λe w'=>e=.returned (vg (D.sure at_))∧Inv (fB d mr wb D).own w0 w' [fB d mr wb D]:=by
 obtain⟨a,c,h1,hI⟩:=uq hI;go_enter func94,ntmps94;go_wp2_with(first|refine YL ?_|with_reducible refine ajm hI (k:=?_)|(with_reducible refine XC hI ?_;intro bx w hI)|(with_reducible refine HY hI (k:=?_);intro w hI));exact bodyPost_ret (PG hI rfl rfl aC h64) rfl ⟨rfl,jy h1 rfl (hI.tl)⟩
end
def pad(bs:List UInt8):List UInt8:=bs++gW (64-bs.length)
theorem Sy{bs}(h:bs.length<=64):(pad bs).length=64:=by grind[pad,gW]
def bA(D:DS)(at_:Int)(bs:List UInt8):DS×Int:=
 if at_<0∨2048<=at_∨64<bs.length then(D,5)
 else if D.down=true∨(D.armed=true∧D.left=0)then({D with down:=true},4)
 else({D with left:=if D.armed then D.left-1 else D.left,waits:=D.waits++[(at_,pad bs)]},0)
section
variable {P:Program}{ops:Array Oper}{Q:Exit->Act->World->Prop}{a:Act}{rest:List Oper}{T:List Nat}{w0 w:World}{m m':List bT}{dst:Option Tmp}{ty:TypeId}{pos:String}{af:Array Edge}
theorem wI{t e size bytes:Nat}{z}[hT:uQ P t e size bytes z]{x}{cs}(hI:Inv T w0 w m)(hx:a.eval x=.agg cs.toArray)(hl:cs.length=size)(h24:size<=16777216:=by exact WD)
  (k:∀b w',Inv T w0 w' (bD e size (.slice (some ⟨b,0,none⟩) 1 1) 1 cs::m)->wpList P ops Q rest (a.put dst (.slice (some ⟨b,0,none⟩) 1 1)) w'):
  wpList P ops Q (⟨dst,.buildSlice t 1 #[(0,x)],ty,pos,af,none⟩::rest) a w:=by
 refine il hI hT.out OM DC ?_ OM k;have hr:((Array.range (1*size)).map (z.cells[· %z.cells.size]!)).size=size:=by simp
 obtain⟨zs,hzs⟩:∃zs:List Value,(Array.range (1*size)).map (z.cells[· %z.cells.size]!)=zs.toArray:=⟨_,rfl⟩;have hzl:zs.length=size:=by grind
 have hf:=foldl_set cs 0 zs 0 OM;have hsp:splice zs 0 cs=cs:=by grind[splice]
 have hcc:(Value.agg cs.toArray).cells=cs.toArray:=rfl;simp only[List.map_toArray,List.map_cons,List.map_nil,Instr.fill,hx,hcc,List.size_toArray]
 grind
end
theorem PH{z bs}(h:bs.length<=64):splice (ug z (gW 64)) 1 (bs.map bv)=ug z (pad bs):=by
 grind[splice,ug,pad,gW,List.map_replicate]
theorem acE{T w0 w A B C X Y m}(h:Inv T w0 w (X::Y::A::B::C::m)):Inv T w0 w (A::B::C::m):=h.sub (.cons _ (.cons _ (.refl _)))
theorem acD(ws z bs):D8 (ws++[(z,bs)])=D8 ws++ug z bs:=by simp[D8]
section
variable (w0:World)(d mr:Nat)(wb:Option Nat)(D:DS)(y:bT)(hI:Inv (two (fB d mr wb D) y).own w0 w0 [two (fB d mr wb D) y])(hD:xJ D)(hwl:D.waits.length<=100000)
variable (at_:Int)(ao:Option Addr)(cp n:Nat)(bs:List UInt8)(hn:bs.length=n)(hry:∀w,y.sat w->Rd w ao (bs.map bv))(hnl:n<=100000)
include hI hD hwl hn hry hnl
theorem rG:Calls prog 95 #[.pointer (some ⟨d,0,none⟩),.int .i64 at_,.slice ao n cp] w0 λe w'=>∃nu,e=.returned (.int .i64 (bA D at_ bs).2)∧Inv (two (fB d mr wb D) y).own w0 w' [two (fB d mr nu (bA D at_ bs).1) y]:=by
 obtain⟨a,c,h1,hI⟩:=uq hI.dR;have hl0:=hD.l0;obtain⟨S,ws,ar,lf,dn⟩:=D;simp only at hI hl0 h1 hwl;cases c1:decide (at_<0)
 ·cases c2:decide (2048<=at_)
  ·cases c3:decide (64<n)
   ·have Pp:bs.length<=64:=by simp at c3;omega
    have hg:¬(at_<0∨2048<=at_∨64<bs.length):=by simp at c1 c2;omega
    have hc3:decide ((64:Int) < (n:Int))=false:=by simp;omega
    have ajo:=HD (PH (z:=at_) Pp);have hpl:=Sy Pp;cases dn
    ·cases ar
     ·have hF:Hid (bA ⟨S,ws,false,lf,false⟩ at_ bs=(⟨S,ws++[(at_,pad bs)],false,lf,false⟩,0)):=HD (by simp[bA,hg])
      rw[hF.out];clear hg hF;go_enter func95,ntmps95;go_upto_region 11 with(first|refine YL ?_|(with_reducible refine UC hI ?_;intro bx w hI)|(with_reducible refine HV hI (k:=?_);intro w hI)|with_reducible refine ajn (k:=?_)|(with_reducible refine sG (xs:=bs.map bv) (cs:=ug at_ (gW 64)) (ys:=bs.map bv) hI (uQ.out (t:=63)) RF RF (hry _ (hI.sat y mm4)) (by simp[hn]) jR (by rw[List.take_of_length_le];simp;omega) (by simp[ug,gW];omega) (sH bs) ?_;intro w hI;rw[ajo.out]at hI))
      (refine ZR [6,7,8,9,10] [0,1,2,3,4] [6,7] [0,1,2,3,4,5,6,7,8,9,10] (λw=>Inv (two (fB d mr wb ⟨S,ws,false,lf,false⟩) y).own w0 w [blk d 137 [.map (some mr),.slice a ws.length c,.bool false,.int .i64 lf,.bool false]]) hI ?_;intro wd hI)
      exact W27
     ·by_cases hz:lf=0
      ·have hF:Hid (bA ⟨S,ws,true,lf,false⟩ at_ bs=(⟨S,ws,true,lf,true⟩,4)):=HD (by simp[bA,hg,hz])
       exact W65
      ·have hF:Hid (bA ⟨S,ws,true,lf,false⟩ at_ bs=(⟨S,ws++[(at_,pad bs)],true,lf-1,false⟩,0)):=HD (by simp[bA,hg,hz])
       rw[hF.out];clear hg hF;go_enter func95,ntmps95;go_upto_region 11 with(first|refine YL ?_|refine YT ?_;intro w hI;(try simp only[QS]at hI)|(with_reducible refine UC hI ?_;intro bx w hI)|(with_reducible refine HV hI (k:=?_);intro w hI)|with_reducible refine ajn (k:=?_)|(with_reducible refine sG (xs:=bs.map bv) (cs:=ug at_ (gW 64)) (ys:=bs.map bv) hI (uQ.out (t:=63)) RF RF (hry _ (hI.sat y mm4)) (by simp[hn]) jR (by rw[List.take_of_length_le];simp;omega) (by simp[ug,gW];omega) (sH bs) ?_;intro w hI;rw[ajo.out]at hI))
       (refine ZR [6,7,8,9,10] [0,1,2,3,4] [6,7] [0,1,2,3,4,5,6,7,8,9,10] (λw=>Inv (two (fB d mr wb ⟨S,ws,true,lf,false⟩) y).own w0 w [blk d 137 [.map (some mr),.slice a ws.length c,.bool true,.int .i64 (lf-1),.bool false]]) hI ?_;intro wd hI)
       exact W27
    ·by_cases hz:(ar=true∧lf=0)
     ·obtain⟨rfl,hz⟩:=hz
      have hF:Hid (bA ⟨S,ws,true,lf,true⟩ at_ bs=(⟨S,ws,true,lf,true⟩,4)):=HD (by simp[bA,hg]);exact W65
     ·have hF:Hid (bA ⟨S,ws,ar,lf,true⟩ at_ bs=(⟨S,ws,ar,lf,true⟩,4)):=HD (by simp[bA,hg])
      rw[hF.out];clear hF hg;cases ar
      ·clear hz
       exact W47
      ·replace hz:¬lf=0:=λh=>hz ⟨rfl,h⟩
       exact W47
   ·have hF:Hid (bA ⟨S,ws,ar,lf,dn⟩ at_ bs=(⟨S,ws,ar,lf,dn⟩,5)):=HD (by simp at c3;rw[bA,if_pos OM])
    have hc3:decide ((64:Int) < (n:Int))=true:=by simp at c3|-;omega
    rw[hF.out];exact W47
  ·have hF:Hid (bA ⟨S,ws,ar,lf,dn⟩ at_ bs=(⟨S,ws,ar,lf,dn⟩,5)):=HD (by simp at c2;rw[bA,if_pos OM])
   rw[hF.out];exact W47
 ·have hF:Hid (bA ⟨S,ws,ar,lf,dn⟩ at_ bs=(⟨S,ws,ar,lf,dn⟩,5)):=HD (by simp at c1;simp[bA,c1])
  rw[hF.out];go_enter func95,ntmps95;go_wp2_with(fail);go_ret;exact⟨_,rfl,(jy h1 rfl hI).eX⟩
end
def lF(S:Int->List UInt8)(ws:List (Int×List UInt8)):Int->List UInt8:=ws.foldl (λS p=>oh S p.1 p.2) S
def cZ(D:DS):DS×Int:=if D.down then(D,4)else({D with sure:=lF D.sure D.waits,waits:=[]},0)
theorem JN{ws}(h64:∀p∈ws,p.2.length=64){j p}(hj:ws[j]? =some p):j*65+65<=(D8 ws).length∧((D8 ws).drop (j*65)).take 65=ug p.1 p.2:=by
 induction ws generalizing j with
 |nil=>grind
 |cons q ws ih=>
  have hq:(ug q.1 q.2).length=65:=by grind[JP]
  have e:D8 (q::ws)=ug q.1 q.2++D8 ws:=by simp[D8]
  cases j with
  |zero=>
   grind
  |succ j=>
   grind[List.drop_length_add_append]
theorem acM{ws}(h64:∀p∈ws,p.2.length=64){j p}(hj:ws[j]? =some p):(D8 ws)[j*65]? =some (.int .i64 p.1):=by
 have h:=(JN h64 hj).2;have:=congrArg (λl=>l[0]?) h
 grind[ug]
theorem UW{ws}(h64:∀p∈ws,p.2.length=64){j p}(hj:ws[j]? =some p):j*65+1+64<=(D8 ws).length∧((D8 ws).drop (j*65+1)).take 64=p.2.map bv:=by
 obtain⟨h1,h2⟩:=JN h64 hj;have:=congrArg (List.drop 1) h2
 grind[List.drop_take,List.drop_drop,ug]
theorem Sg{T w0 w A B C X}(h:Inv T w0 w [X,A,B,C]):Inv T w0 w [A,B,X]:=by
 have h2:=h.sub (m':=[X,A,B]) (.cons_cons _ (.cons_cons _ (.cons_cons _ (.cons _ .slnil))));refine h2.turn (λhs y hy=>hs y (by grind)) ?_
 grind[owned]
theorem XD{T w0 w m}(d mr){a c n ar dn lf S X}(at_ bs)(h64:bs.length=64)(hI:Inv T w0 w (X::blk d 137 [.map (some mr),.slice a n c,.bool ar,.int .i64 lf,.bool dn]::Ca mr S::m)):
  Calls prog 88 #[.pointer (some ⟨d,0,none⟩),.int .i64 at_,vg bs] w λe w'=>e=.returned (.tuple #[])∧Inv T w0 w' (X::blk d 137 [.map (some mr),.slice a n c,.bool ar,.int .i64 lf,.bool dn]::Ca mr (oh S at_ bs)::m):=by
 exact W39
theorem acB{T w0 w m}(d mr){a c n ar dn lf S X Y}(at_ bs)(h64:bs.length=64)(hI:Inv T w0 w (X::Y::blk d 137 [.map (some mr),.slice a n c,.bool ar,.int .i64 lf,.bool dn]::Ca mr S::m)):
  Calls prog 88 #[.pointer (some ⟨d,0,none⟩),.int .i64 at_,vg bs] w λe w'=>e=.returned (.tuple #[])∧Inv T w0 w' (X::Y::blk d 137 [.map (some mr),.slice a n c,.bool ar,.int .i64 lf,.bool dn]::Ca mr (oh S at_ bs)::m):=by
 exact W39
section
variable (w0:World)(d mr:Nat)(wb:Option Nat)(D:DS)(hI:Inv (fB d mr wb D).own w0 w0 [fB d mr wb D])(hD:xJ D)(hwl:D.waits.length<=200000)
include hI hD hwl
theorem qZ:Calls prog 96 #[.pointer (some ⟨d,0,none⟩)] w0 λe w'=>∃nu,e=.returned (.int .i64 (cZ D).2)∧Inv (fB d mr wb D).own w0 w' [fB d mr nu (cZ D).1]:=by
 obtain⟨a,c,h1,hI⟩:=uq hI;obtain⟨S,ws,ar,lf,dn⟩:=D;simp only at hI h1 hwl;have hw64:∀p∈ws,p.2.length=64:=hD.Yg;clear hD;cases dn
 ·rw[show cZ ⟨S,ws,ar,lf,false⟩=(⟨lF S ws,[],ar,lf,false⟩,0)from rfl]
  go_enter func96,ntmps96;go_upto_region 4 with(refine YL ?_)
  go_loopg [4,14] ws.length (λkk s4 s14 wr=>∃(j:Nat),kk=ws.length-j∧j<=ws.length∧s14=.int .i64 j∧Inv (fB d mr wb ⟨S,ws,ar,lf,false⟩).own w0 wr [blk d 137 [.map (some mr),.slice a ws.length c,.bool ar,.int .i64 lf,.bool false],Ca mr (lF S (ws.take j)),bD 171 65 (.slice a ws.length c) ws.length (D8 ws)])
  case atStart=>exact⟨0,by omega,by omega,rfl,hI⟩
  case round=>
   clear hI;obtain⟨j,rfl,hj,rfl,hI⟩:=hrel;by_cases hlj:j<ws.length
   ·obtain⟨p,hp⟩:∃p,ws[j]? =some p:=⟨ws[j],List.getElem?_eq_getElem hlj⟩
    obtain⟨Pk,Pm⟩:=JN hw64 hp;have h64:=hw64 p (List.mem_of_getElem? hp);have hnx:Hid (lF S (ws.take (j+1))=oh (lF S (ws.take j)) p.1 p.2):=HD (by rw[List.take_add_one,hp];simp[lF]);obtain⟨g,rfl⟩:∃g,a=some ⟨g,0,none⟩:=gZ hI a_ OM;clear hp;go_wp2_with(first|with_reducible refine gK hI RF a_ (bP.out (t:=171)) Pk Pm ?_|go_at_call 88;refine KE (XD d mr _ _ h64 hI) ?_;intro w1 hI|refine YL ?_|(with_reducible refine UC hI ?_;intro bx w hI)|with_reducible refine afh hI (k:=?_)|(with_reducible refine HV hI (k:=?_);intro w hI));go_roundg (ws.length- (j+1))
    case measure=>omega
    case rel=>exact⟨j+1,by omega,by omega,by go_num,by rw[hnx.out];exact hI.sub SB⟩
   ·obtain rfl:j=ws.length:=by omega
    rw[List.take_length]at hI;go_wp2_with(refine YT ?_;intro w hI;(try simp only[QS]at hI));go_ret;refine⟨none,rfl,jy (a:=none) (c:=0) (n:=0) (ws:=[]) rfl rfl ?_⟩;have h2:Inv _ w0 w (bD 171 65 (.slice none 0 0) 0 (D8 [])::_):=hI.BZ 171 65;exact Sg h2
 ·rw[show cZ ⟨S,ws,ar,lf,true⟩=(⟨S,ws,ar,lf,true⟩,4)from rfl]
  go_enter func96,ntmps96;go_wp2_with(refine YL ?_);go_ret;exact⟨wb,rfl,jy h1 rfl hI⟩
end
def oZ(ws:List (Int×List UInt8))(at_:Int):Nat->Option (List UInt8)
 |0=>none
 |k+1=>match ws[k]? with
  |some p=>if p.1=at_ then some p.2 else oZ ws at_ k
  |none=>oZ ws at_ k
def dU(D:DS)(at_:Int):List UInt8:=(oZ D.waits at_ D.waits.length).getD (D.sure at_)
theorem Ex{ws}(h64:∀p∈ws,p.2.length=64)(at_):∀k bs,oZ ws at_ k=some bs->bs.length=64
 |0,_,h=>by cases h
 |k+1,bs,h=>by
  unfold oZ at h
  split at h
  ·split at h
   ·grind
   ·exact Ex h64 at_ k bs h
  ·exact Ex h64 at_ k bs h
theorem lG{D}(hD:xJ D)(at_):(dU D at_).length=64:=by
 unfold dU;cases h:oZ D.waits at_ D.waits.length with
 |none=>exact hD.Yh at_
 |some bs=>exact Ex hD.Yg at_ _ bs h
section
variable (w0:World)(d mr:Nat)(wb:Option Nat)(D:DS)(hI:Inv (fB d mr wb D).own w0 w0 [fB d mr wb D])(hD:xJ D)(hwl:D.waits.length<=200000)
include hI hD hwl
theorem kS(at_):Calls prog 98 #[.pointer (some ⟨d,0,none⟩),.int .i64 at_] w0 λe w'=>e=.returned (vg (dU D at_))∧Inv (fB d mr wb D).own w0 w' [fB d mr wb D]:=by
 have GZ:=lG hD at_;obtain⟨a,c,h1,hI⟩:=uq hI;obtain⟨S,ws,ar,lf,dn⟩:=D;obtain⟨R,hR⟩:=EH (dU ⟨S,ws,ar,lf,dn⟩ at_);rw[hR.out]at GZ|-;simp only at hI h1 hwl;have hw64:∀p∈ws,p.2.length=64:=hD.Yg;have qg:=hD.Yh at_;simp only at qg;clear hD;go_enter func98,ntmps98;go_upto_region 2 with(first|refine YL ?_|(with_reducible refine XC hI ?_;intro bx w hI))
 go_loopg [5] ws.length (λkk s5 wr=>∃(k:Nat),k=kk∧k<=ws.length∧s5=.int .i64 ((k:Int) -1)∧Hid (oZ ws at_ ws.length=oZ ws at_ k)∧Inv (fB d mr wb ⟨S,ws,ar,lf,dn⟩).own w0 wr [blk bx 169 ((gW 64).map bv),blk d 137 [.map (some mr),.slice a ws.length c,.bool ar,.int .i64 lf,.bool dn],Ca mr S,bD 171 65 (.slice a ws.length c) ws.length (D8 ws)])
 case atStart=>exact⟨ws.length,rfl,by omega,by rfl,HD rfl,hI⟩
 case round=>
  clear hI;obtain⟨k,rfl,hk,rfl,hf,hI⟩:=hrel;rcases k with _|j
  ·have hRR:Hid (R=S at_):=HD (by rw[<-hR.out,dU];simp only;rw[hf.out];rfl)
   go_wp2_with(first|refine YL ?_|with_reducible refine ajm hI (k:=?_)|(with_reducible refine HY hI (k:=?_);intro w hI));exact bodyPost_ret (PG hI rfl rfl aC qg) rfl ⟨by rw[hRR.out],jy h1 rfl (hI.tl)⟩
  ·obtain⟨p,hp⟩:∃p,ws[j]? =some p:=⟨ws[j],List.getElem?_eq_getElem OM⟩
   have ajp:=acM hw64 hp;obtain⟨ak7,ak8⟩:=UW hw64 hp;have h64:=hw64 p (List.mem_of_getElem? hp);have hnx:=HD (show oZ ws at_ (j+1)=if p.1=at_ then some p.2 else oZ ws at_ j by rw[oZ,hp]);obtain⟨g,rfl⟩:∃g,a=some ⟨g,0,none⟩:=gZ hI nz OM;have hjj:((j+1:Nat):Int) -1=(j:Int):=by omega
   rw[hjj];clear hp hjj;by_cases hpe:p.1=at_
   ·have hRR:Hid (R=p.2):=HD (by rw[<-hR.out,dU];simp only;rw[hf.out,hnx.out,if_pos hpe];rfl)
    have hd:(p.1==at_)=true:=by simpa using hpe
    clear hpe;go_wp2_with(first|with_reducible refine aK hI RF nz (aQ.out (t:=3)) ajp ?_|with_reducible refine gK (vs:=p.2.map bv) hI RF nz (bP.out (t:=169)) ak7 ak8 ?_|refine YL ?_|(with_reducible refine HY hI (k:=?_);intro w hI));exact bodyPost_ret (PG hI rfl rfl aC h64) rfl ⟨by rw[hRR.out],jy h1 rfl (hI.tl)⟩
   ·rw[if_neg hpe]at hnx
    have hd:(p.1==at_)=false:=by simpa using hpe
    clear hpe;go_wp2_with(first|with_reducible refine aK hI RF nz (aQ.out (t:=3)) ajp ?_|refine YL ?_);go_roundg j
    case measure=>omega
    case rel=>exact⟨j,rfl,by omega,rfl,HD (hf.out.trans hnx.out),hI⟩
end
def Pj(ws:List (Int×List UInt8))(mask eQ:Int)(cut:Nat)(S:Int->List UInt8):Nat->Int->List UInt8
 |0=>S
 |j+1=>let R:=Pj ws mask eQ cut S j
  match ws[j]? with
  |some p=>if(j:Int)=eQ then oh R p.1 (p.2.take cut++(R p.1).drop cut)else if bt mask (j%32)then oh R p.1 p.2 else R
  |none=>R
def Ey(cut:Int):Nat:=(min (max cut 0) 64).toNat
def nD(D:DS)(mask eQ cut:Int):DS:=⟨Pj D.waits mask eQ (Ey cut) D.sure D.waits.length,[],false,0,false⟩
theorem Pn{ws}(h64:∀p∈ws,p.2.length=64){S}(hS:∀k,(S k).length=64)(mask eQ cut):∀j k,(Pj ws mask eQ cut S j k).length=64
 |0,k=>hS k
 |j+1,k=>by
  have ih:=Pn h64 hS mask eQ cut j;rw[Pj];rcases hp:ws[j]? with _|p
  all_goals grind[oh]
theorem aiZ{a T w0 w m dst ty pos af x y r S j}(hI:Inv T w0 w m)(hx:a.eval x=.map (some r):=by exact RF)(hy:a.eval y=.int .i64 j:=by exact RF)
  (hm:Ca r S∈m:=by exact MM):gu prog ⟨dst,.lookup 134 x y false,ty,pos,af,none⟩ a w (vg (S j)):=by
 obtain⟨f,h1,h2⟩:=hI.sat _ hm;exact W87
theorem Pq(x j):(bits BinOp.and IntKind.i64 (x/2^ (j%32)) 1==1)=bt x (j%32):=by
 rw[Eh];rfl
theorem af4{w b q e z bs}(h:(blk b e (ug z bs)).sat w)(h64:bs.length=64)(hq:q<=64):Rd w (some ⟨b,1,none⟩) ((bs.take q).map bv):=by
 intro j u hj;refine⟨b,1,rfl,?_⟩;have h1:w.heap[b]? =some (.cells (ug z bs).toArray e (0,0)):=h;rw[List.getElem?_map,List.getElem?_take]at hj
 split at hj
 ·simp[World.cell?,h1,ug,Nat.add_comm 1 j]
  grind
 grind
theorem Po{R bs:List UInt8}{q}(hR:R.length=64)(hb:bs.length=64)(hq:q<=64):splice (R.map bv) 0 ((bs.take q).map bv)=(bs.take q++R.drop q).map bv:=by
 simp_all[splice]
section
variable (w0:World)(d mr:Nat)(wb:Option Nat)(D:DS)(hI:Inv (fB d mr wb D).own w0 w0 [fB d mr wb D])(hD:xJ D)(hwl:D.waits.length<=200000)
include hI hD hwl
theorem PK(mask eQ cut):Calls prog 44 #[.pointer (some ⟨d,0,none⟩),.int .i64 mask,.int .i64 eQ,.int .i64 cut] w0 λe w'=>∃nu,e=.returned (.tuple #[])∧Inv (fB d mr wb D).own w0 w' [fB d mr nu (nD D mask eQ cut)]:=by
 obtain⟨a,c,h1,hI⟩:=uq hI;obtain⟨S,ws,ar,lf,dn⟩:=D;simp only at hI h1 hwl;have hw64:∀p∈ws,p.2.length=64:=hD.Yg;have qg:∀k,(S k).length=64:=hD.Yh;clear hD;rw[show nD ⟨S,ws,ar,lf,dn⟩ mask eQ cut=⟨Pj ws mask eQ (Ey cut) S ws.length,[],false,0,false⟩from rfl];obtain⟨q,hqe⟩:∃q,Hid (q=Ey cut):=⟨_,HD rfl⟩;rw[<-hqe.out];have aiY:q<=64:=by rw[hqe.out];unfold Ey;omega
 by_cases hc0:cut<0
 ·have hqv:Hid (q=0):=HD (by rw[hqe.out];unfold Ey;omega)
  exact W2
 ·by_cases hc1:64<cut
  ·have hqv:Hid (q=64):=HD (by rw[hqe.out];unfold Ey;omega)
   exact W2
  ·have hqv:Hid ((q:Int)=cut):=HD (by rw[hqe.out];unfold Ey;omega)
   exact W2
end
theorem agk:prog.underlying 169=some (.array 64 5):=by simp_all
theorem alc:prog.underlying 5=some (.int .u8):=by simp_all
theorem agl:(prog.info? 5).map (·.size)=some 1:=by kernel_rfl
theorem SG(d)(hd:1<=d)(xs ys:List UInt8):∀m i w,xs.length=i+m->ys.length=i+m->
  (forIn (List.range' i m) ((none,()):Option Bool×Unit) λj _=>do
    if(!(<-Op.equalIn d 5 (<-Go.part 5 (xs.map bv).toArray (j*1)) (<-Go.part 5 (ys.map bv).toArray (j*1))))=true then pure (ForInStep.done (some false,()))else pure (ForInStep.yield (none,())):Sem (Option Bool×Unit)).run prog w=
   .ok (if xs.drop i=ys.drop i then(none,())else(some false,())) w
 |0,i,w,h1,h2=>by
  simp_all[List.drop_eq_nil_of_le]
 |m+1,i,w,h1,h2=>by
  have ih:=SG d hd xs ys m (i+1) w OM OM;have e1:i<xs.length:=by omega
  have e2:i<ys.length:=by omega
  have hx:(Go.part 5 (xs.map bv).toArray (i*1)).run prog w=.ok (bv xs[i]) w:=by
   simp_all[Go.part.eq_1]
  have hy:(Go.part 5 (ys.map bv).toArray (i*1)).run prog w=.ok (bv ys[i]) w:=by
   simp_all[Go.part.eq_1]
  have he:(Op.equalIn d 5 (bv xs[i]) (bv ys[i])).run prog w=.ok ((xs[i].toNat:Int)==(ys[i].toNat:Int)) w:=by
   obtain⟨e,rfl⟩:∃e,d=e+1:=⟨d-1,by omega⟩;exact run_equalIn_int (P:=prog) w e 5 .u8 .u8 (xs[i].toNat:Int) (ys[i].toNat:Int) alc
  rw[List.drop_eq_getElem_cons e1,List.drop_eq_getElem_cons e2];simp only[List.range'_succ,List.forIn_cons,Sem.run_bind,hx,hy,he,Result.andThen_ok];by_cases hc:xs[i]=ys[i]
  ·simp only[hc,List.cons.injEq,true_and]
   simp_all
  ·have:¬((xs[i].toNat:Int)=(ys[i].toNat:Int)):=λh=>hc (UInt8.toNat_inj.1 OM)
   rw[if_neg (λh=>hc (List.cons.inj h).1),show((xs[i].toNat:Int)==(ys[i].toNat:Int))=false from by grind];simp
theorem EG(d)(hd:1<=d)(xs ys w)(h1:xs.length=64)(h2:ys.length=64):(Op.equalIn (d+1) 169 (vg xs) (vg ys)).run prog w=.ok (decide (xs=ys)) w:=by
 have hl:=SG d hd xs ys 64 0 w OM OM;unfold vg;simp only[Op.equalIn,Sem.run_bind,run_underlying agk,Result.andThen_ok,dX agl];rw[Std.Legacy.Range.forIn_eq_forIn_range'];simp only[Std.Legacy.Range.size,Nat.sub_zero,Nat.add_sub_cancel,Nat.div_one];rw[hl];by_cases h:xs=ys<;>simp[h]
section
variable {ops:Array Oper}{Q:Exit->Act->World->Prop}{a:Act}{rest:List Oper}{w:World}{dst:Option Tmp}{ty:TypeId}{pos:String}{af:Array Edge}
theorem ald{x y}{t':Nat}{xs ys}(hx:a.eval x=vg xs:=by exact RF)(hy:a.eval y=vg ys:=by exact RF)(h1:xs.length=64)(h2:ys.length=64)
  (k:wpList prog ops Q rest (a.put dst (.bool (decide (xs=ys)))) w):wpList prog ops Q (⟨dst,.binOp .eql 169 x y t',ty,pos,af,none⟩::rest) a w:=by
 refine av (v:=.bool (decide (xs=ys))) ?_ k;have hb:(Op.equalIn 10000 169 (vg xs) (vg ys)).run prog w=.ok (decide (xs=ys)) w:=EG 9999 DC xs ys w h1 h2;unfold gu execOp
 simp_all[vg,Go.run_eql_struct,Go.run_eqGuard_agg]
theorem Yv:iH prog 169:=by unfold iH;kernel_rfl
theorem EI(k:wpList prog ops Q rest (a.put dst (vg (gW 64))) w):wpList prog ops Q (⟨dst,.build 169 #[],ty,pos,af,none⟩::rest) a w:=by
 refine av (v:=vg (gW 64)) ?_ k;unfold gu execOp;simp only[Array.map_empty,Sem.run_bind,uY (cs:=((gW 64).map bv).toArray) JV rfl Yv,Result.andThen_ok];rfl
end
