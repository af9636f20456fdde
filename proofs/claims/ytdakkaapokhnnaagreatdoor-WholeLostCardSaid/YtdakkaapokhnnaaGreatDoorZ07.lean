/- Contracts of functions. No condition. -/
import Derived.Test.YtdakkaapokhnnaaGreatDoorZ05
import Derived.Test.YtdakkaapokhnnaaGreatDoorZ06
namespace Go.Proofs.YtdakkaapokhnnaaGreatDoor
open Go.RowKit Go.Proofs.Tryz
set_option maxRecDepth 100000
set_option maxHeartbeats 6400000
set_option linter.all false
theorem nS:jg prog 3:=B.nS
theorem tV:jg prog 4:=B.tV
theorem afT:fw prog 91 2:=B.gM
theorem ab0:fw prog 48 3:=B.Cj
theorem afU:fw prog 30 7:=B.mX
theorem wX:fw prog 28 5:=B.abX
theorem ai4:fe prog 91 2:=B.afw
theorem ai5:fe prog 48 3:=B.ahS
theorem ai6:fe prog 30 7:=B.ahQ
theorem afx:fe prog 28 5:=B.ahR
theorem ahJ:dC prog 28:=B.ahT
theorem O4:nL prog 28 5:=B.YQ
def jV(lim:Nat)(bs:List UInt8):Option (Nat×List UInt8):=(fT bs).bind λp=>if p.1<lim then some p else none
theorem nU{w:World}{pr:Nat}{ab:Option Nat}{bs:List UInt8}(hs:(d_ pr ab bs).sat w)(hn:(d_ pr ab bs).own.Nodup):Inv (d_ pr ab bs).own w w [d_ pr ab bs]:=by
 obtain⟨a,c,hc,hcm,hI⟩:=Jo hs hn;exact mG rfl hc hcm hI
theorem gK(w0:World)(pr:Nat)(ab:Option Nat)(bs:List UInt8){k:Nat}{cs:List UInt8}(hk:fT bs=some (k,cs))(hs:(d_ pr ab bs).sat w0)(hn:(d_ pr ab bs).own.Nodup):
  Calls prog 138 #[.pointer (some ⟨pr,0,none⟩)] w0 λe w'=>e=.returned (.int .i64 (k:Nat))∧Inv (d_ pr ab bs).own w0 w' [d_ pr ab cs]:=by
 refine UF w0 pr ab bs hs hn (λk' cs' w' h hJ=>?_) (λw' h=>?_)
 ·rw[hk]at h;simp only[Option.some.injEq,Prod.mk.injEq]at h
  obtain⟨rfl,rfl⟩:=h;exact⟨rfl,hJ⟩
 ·rw[hk]at h;cases h
theorem xE(w0:World)(pr:Nat)(ab:Option Nat)(bs:List UInt8)(hk:fT bs=none)(hs:(d_ pr ab bs).sat w0)(hn:(d_ pr ab bs).own.Nodup):
  Calls prog 138 #[.pointer (some ⟨pr,0,none⟩)] w0 λe w'=>e=.panicked Jp∧∃cs,Inv (d_ pr ab bs).own w0 w' [d_ pr ab cs]:=by
 refine UF w0 pr ab bs hs hn (λk' cs' w' h hJ=>?_) (λw' h hJ=>⟨rfl,_,hJ⟩);rw[hk]at h;cases h
theorem Q7(w0:World)(pr:Nat)(ab:Option Nat)(bs:List UInt8)(lim:Nat){k:Nat}{cs:List UInt8}(hk:jV lim bs=some (k,cs))(hs:(d_ pr ab bs).sat w0)(hn:(d_ pr ab bs).own.Nodup):
  Calls prog 136 #[.pointer (some ⟨pr,0,none⟩),.int .i64 (lim:Nat)] w0 λe w'=>e=.returned (.int .i64 (k:Nat))∧Inv (d_ pr ab bs).own w0 w' [d_ pr ab cs]:=by
 have hI:=nU hs hn;obtain⟨hk1,hlt⟩:Hid (fT bs=some (k,cs))∧k<lim:=by
  unfold jV at hk;rcases hn1:fT bs with _| ⟨k1,cs1⟩
  ·rw[hn1]at hk;cases hk
  ·rw[hn1]at hk;simp only[Option.bind_some]at hk
   split at hk
   ·rename_i hlt;simp only[Option.some.injEq,Prod.mk.injEq]at hk;obtain⟨rfl,rfl⟩:=hk;exact⟨HD rfl,hlt⟩
   ·cases hk
 have hd:decide ((lim:Int)<=(k:Int))=false:=by simp;omega
 clear hk;go_enter func136,ntmps136;go_wp2_with(go_at_call 138;refine KC jy hI (gK _ pr ab _ hk1.out (hI.sat _ aA) (hI.nd aA)) ?_;intro w1 hI);go_ret;exact⟨rfl,hI⟩
theorem UG(w0:World)(pr:Nat)(ab:Option Nat)(bs:List UInt8)(lim:Nat)(hk:jV lim bs=none)(hs:(d_ pr ab bs).sat w0)(hn:(d_ pr ab bs).own.Nodup):
  Calls prog 136 #[.pointer (some ⟨pr,0,none⟩),.int .i64 (lim:Nat)] w0 λe w'=>e=.panicked Jp∧∃cs,Inv (d_ pr ab bs).own w0 w' [d_ pr ab cs]:=by
 have hI:=nU hs hn;unfold jV at hk;rcases hn1:fT bs with _| ⟨k1,cs1⟩
 ·clear hk
  have hk1:=HD hn1;clear hn1;go_enter func136,ntmps136;go_wp2_with(go_at_call 138;refine KN hI (xE _ pr ab _ hk1.out (hI.sat _ aA) (hI.nd aA)) ?_;intro cs' w1 hI);exact⟨rfl,rfl,_,hI⟩
 ·rw[hn1]at hk;simp only[Option.bind_some]at hk
  have hlt:¬k1<lim:=λh=>by rw[if_pos h]at hk;cases hk
  clear hk;have hk1:=HD hn1;clear hn1;have hd:decide ((lim:Int)<=(k1:Int))=true:=by simp;omega
  go_enter func136,ntmps136;go_wp2_with(go_at_call 138;refine KC jy hI (gK _ pr ab _ hk1.out (hI.sat _ aA) (hI.nd aA)) ?_;intro w1 hI);exact⟨rfl,rfl,_,hI⟩
theorem dK(w0:World)(pr:Nat)(ab:Option Nat)(bs:List UInt8)(lim:Nat)(x:Int){k:Nat}{cs:List UInt8}(hs:(d_ pr ab bs).sat w0)(hn:(d_ pr ab bs).own.Nodup)(hk:jV lim bs=some (k,cs))(hx:x=(lim:Int)):
  Calls prog 136 #[.pointer (some ⟨pr,0,none⟩),.int .i64 x] w0 λe w'=>e=.returned (.int .i64 (k:Nat))∧Inv (d_ pr ab bs).own w0 w' [d_ pr ab cs]:=by
 subst hx;exact Q7 w0 pr ab bs lim hk hs hn
theorem j5(w0:World)(pr:Nat)(ab:Option Nat)(bs:List UInt8)(lim:Nat)(x:Int)(hs:(d_ pr ab bs).sat w0)(hn:(d_ pr ab bs).own.Nodup)(hk:jV lim bs=none)(hx:x=(lim:Int)):
  Calls prog 136 #[.pointer (some ⟨pr,0,none⟩),.int .i64 x] w0 λe w'=>e=.panicked Jp∧∃cs,Inv (d_ pr ab bs).own w0 w' [d_ pr ab cs]:=by
 subst hx;exact UG w0 pr ab bs lim hk hs hn
theorem UH{p n k:Nat}{bs cs:List UInt8}(hp:p<=9)(hn:n<2^ (7*p))(h:qj p n bs=some (k,cs)):k<2^63:=by
 induction bs generalizing p n with
 |nil=>simp[qj]at h
 |cons c ds ih=>
  rcases Nat.lt_or_ge p 9 with hp9|hp9
  ·have hal:=UE (k:=c.toNat) hn
   have h63:2^ (7*(p+1))<=2^63:=Nat.pow_le_pow_right DC OM;by_cases h1:128<=c.toNat
   ·rw[CG hp9 h1]at h
    exact ih OM hal h
   ·by_cases h0:c.toNat=0∧0<p
    ·rw[CJ hp9 h0.1 h0.2]at h;cases h
    ·rw[Fw hp9 OM h0]at h
     simp only[Option.some.injEq,Prod.mk.injEq]at h;omega
  ·obtain rfl:p=9:=by omega
   rw[CK]at h;cases h
theorem tY(bs:List UInt8):jV 9223372036854775808 bs=fT bs:=by
 unfold jV;rcases h:fT bs with _| ⟨k,cs⟩
 ·rfl
 ·have:=UH DC DC h
  have e:(2:Nat) ^63=9223372036854775808:=by decide
  simp only[Option.bind_some];rw[if_pos OM]
def bF:List Nat->List UInt8->Option (List Nat×List UInt8)
 | [],bs=>some ([],bs)
 |l::ls,bs=>(jV l bs).bind λp=>(bF ls p.2).map λq=>(p.1::q.1,q.2)
theorem ql{l:Nat}{ls ns:List Nat}{bs cs:List UInt8}(h:bF (l::ls) bs=some (ns,cs)):∃k c ks,jV l bs=some (k,c)∧bF ls c=some (ks,cs)∧ns=k::ks:=by
 simp only[bF]at h;rcases h1:jV l bs with _| ⟨k,c⟩
 ·rw[h1]at h;cases h
 ·rw[h1]at h;simp only[Option.bind_some]at h
  rcases h2:bF ls c with _| ⟨ks,ds⟩
  ·rw[h2]at h;cases h
  ·rw[h2]at h;simp only[Option.map_some,Option.some.injEq,Prod.mk.injEq]at h
   obtain⟨rfl,rfl⟩:=h;exact⟨k,c,ks,rfl,h2,rfl⟩
theorem vv{l:Nat}{ls:List Nat}{bs:List UInt8}(h:bF (l::ls) bs=none):jV l bs=none∨∃k c,jV l bs=some (k,c)∧bF ls c=none:=by
 simp only[bF]at h;rcases h1:jV l bs with _| ⟨k,c⟩
 ·exact .inl rfl
 ·rw[h1]at h;simp only[Option.bind_some]at h
  rcases h2:bF ls c with _| ⟨ks,ds⟩
  ·exact .inr ⟨k,c,rfl,h2⟩
  ·rw[h2]at h;cases h
theorem Bv{ns:List Nat}{bs cs:List UInt8}(h:bF [] bs=some (ns,cs)):ns=[]∧cs=bs:=by
 simp only[bF,Option.some.injEq,Prod.mk.injEq]at h;exact⟨h.1.symm,h.2.symm⟩
theorem dN{ls ns:List Nat}{bs cs:List UInt8}(h:bF ls bs=some (ns,cs)):ns.length=ls.length:=by
 induction ls generalizing ns bs with
 |nil=>obtain⟨rfl,_⟩:=Bv h;rfl
 |cons l ls ih=>
  obtain⟨k,c,ks,_,h2,rfl⟩:=ql h;simp[ih h2]
def qZ(w0:World)(pr:Nat)(ab:Option Nat)(bs:List UInt8)(r:Option (Value×List UInt8))(e:Ending)(w':World):Prop:=
 (∃v cs,r=some (v,cs)∧e=.returned v∧Inv (d_ pr ab bs).own w0 w' [d_ pr ab cs])∨(r=none∧e=.panicked Jp∧∃cs,Inv (d_ pr ab bs).own w0 w' [d_ pr ab cs])
theorem qZ.yes{w0:World}{pr:Nat}{ab:Option Nat}{bs cs:List UInt8}{r:Option (Value×List UInt8)}{f:FuncId}{args:Array Value}{v:Value}(h:Calls prog f args w0 (qZ w0 pr ab bs r))(hr:r=some (v,cs)):
  Calls prog f args w0 λe w'=>e=.returned v∧Inv (d_ pr ab bs).own w0 w' [d_ pr ab cs]:=by
 refine h.mono ?_;rintro e w' (⟨v',cs',h1,rfl,hJ⟩ | ⟨h1,_,_⟩)
 ·rw[hr]at h1;simp only[Option.some.injEq,Prod.mk.injEq]at h1;obtain⟨rfl,rfl⟩:=h1;exact⟨rfl,hJ⟩
 ·rw[hr]at h1;cases h1
theorem qZ.no{w0:World}{pr:Nat}{ab:Option Nat}{bs:List UInt8}{r:Option (Value×List UInt8)}{f:FuncId}{args:Array Value}(h:Calls prog f args w0 (qZ w0 pr ab bs r))(hr:r=none):
  Calls prog f args w0 λe w'=>e=.panicked Jp∧∃cs,Inv (d_ pr ab bs).own w0 w' [d_ pr ab cs]:=by
 refine h.mono ?_;rintro e w' (⟨v',cs',h1,rfl,hJ⟩ | ⟨h1,h2,hJ⟩)
 ·rw[hr]at h1;cases h1
 ·exact⟨h2,hJ⟩
def nn(ns:List Nat):List Int:=ns.map λ(n:Nat)=>(n:Int)
def ve(ls:List Nat)(bs:List UInt8):Option (Value×List UInt8):=(bF ls bs).map λp=>(ia (nn p.1),p.2)
def dD:List Nat:=[9223372036854775808,5]
def jQ:List Nat:=[2,5,5]
theorem iq(w0:World)(pr:Nat)(ab:Option Nat)(bs:List UInt8)(hs:(d_ pr ab bs).sat w0)(hn:(d_ pr ab bs).own.Nodup):
  Calls prog 139 #[.pointer (some ⟨pr,0,none⟩)] w0 (qZ w0 pr ab bs (ve dD bs)):=by
 have hI:=nU hs hn;rcases h0:bF dD bs with _| ⟨ns,cs⟩
 ·rcases vv h0 with h1| ⟨k,c,h1,h2⟩
  ·rw[tY]at h1
   have hk1:=HD h1;have hr:=HD h0;clear h1 h0;go_enter func139,ntmps139;exact W78
  ·rw[tY]at h1
   rcases vv h2 with h3| ⟨k2,c2,h3,h4⟩
   ·have hk1:=HD h1;have hk2:=HD h3;have hr:=HD h0;clear h1 h2 h3 h0
    go_enter func139,ntmps139;exact W51
   ·cases h4
 ·obtain⟨k,c,ks,h1,h2,rfl⟩:=ql h0
  obtain⟨k2,c2,ks2,h3,h4,rfl⟩:=ql h2;obtain⟨rfl,rfl⟩:=Bv h4;rw[tY]at h1;have hk1:=HD h1;have hk2:=HD h3;have hr:=HD h0;clear h1 h2 h3 h0 h4;go_enter func139,ntmps139;go_wp2_with(first|go_at_call 138;refine KC pg hI (gK _ pr ab _ hk1.out (hI.sat _ aX) (hI.nd aX)) ?_;intro w1 hI|go_at_call 136;refine KC pg hI (dK _ pr ab _ _ _ (hI.sat _ aX) (hI.nd aX) (by exact hk2.out) OM) ?_;intro w1 hI|refine YL ?_|refine YS ?_;intro w hI|refine YX ?_;intro bx w hI);refine bodyPost_ret (dI hI rfl rfl aM afT rfl) rfl (.inl ⟨_,_,by rw[ve,hr.out];rfl,rfl,hI.sub SB⟩)
theorem p9(w0:World)(pr:Nat)(ab:Option Nat)(bs:List UInt8)(hs:(d_ pr ab bs).sat w0)(hn:(d_ pr ab bs).own.Nodup):
  Calls prog 140 #[.pointer (some ⟨pr,0,none⟩)] w0 (qZ w0 pr ab bs (ve jQ bs)):=by
 have hI:=nU hs hn;rcases h0:bF jQ bs with _| ⟨ns,cs⟩
 ·rcases vv h0 with h1| ⟨k,c,h1,h2⟩
  ·have hk1:=HD h1;have hr:=HD h0;clear h1 h0
   go_enter func140,ntmps140;exact W72
  ·rcases vv h2 with h3| ⟨k2,c2,h3,h4⟩
   ·have hk1:=HD h1;have hk2:=HD h3;have hr:=HD h0;clear h1 h2 h3 h0
    go_enter func140,ntmps140;exact W45
   ·rcases vv h4 with h5| ⟨k3,c3,h5,h6⟩
    ·have hk1:=HD h1;have hk2:=HD h3;have hk3:=HD h5;have hr:=HD h0;clear h1 h2 h3 h4 h5 h0
     go_enter func140,ntmps140;go_wp2_with(first|go_at_call 136;refine KC pg hI (dK _ pr ab _ _ _ (hI.sat _ aX) (hI.nd aX) (by first|exact hk1.out|exact hk2.out) OM) ?_;intro w1 hI|go_at_call 136;refine KN hI (j5 _ pr ab _ _ _ (hI.sat _ aX) (hI.nd aX) (by exact hk3.out) OM) ?_;intro cs' w1 hI|refine YS ?_;intro w hI|refine YX ?_;intro bx w hI);exact W35
    ·cases h6
 ·obtain⟨k,c,ks,h1,h2,rfl⟩:=ql h0
  obtain⟨k2,c2,ks2,h3,h4,rfl⟩:=ql h2;obtain⟨k3,c3,ks3,h5,h6,rfl⟩:=ql h4;obtain⟨rfl,rfl⟩:=Bv h6;have hk1:=HD h1;have hk2:=HD h3;have hk3:=HD h5;have hr:=HD h0;clear h1 h2 h3 h0 h4 h5 h6;go_enter func140,ntmps140;go_wp2_with(first|go_at_call 136;refine KC pg hI (dK _ pr ab _ _ _ (hI.sat _ aX) (hI.nd aX) (by first|exact hk1.out|exact hk2.out|exact hk3.out) OM) ?_;intro w1 hI|refine YL ?_|refine YS ?_;intro w hI|refine YX ?_;intro bx w hI);refine bodyPost_ret (dI hI rfl rfl aM ab0 rfl) rfl (.inl ⟨_,_,by rw[ve,hr.out];rfl,rfl,hI.sub SB⟩)
def cellL:List Nat:=[1099511627777,1099511627777,1099511627777,1099511627777,1099511627777,1099511627777,1099511627777]
theorem afV:fw prog 37 7:=C.Fj
theorem ai7:fe prog 37 7:=C.ahH
def kz:List Nat:=[9223372036854775808,32,6,6,6,6,6]
theorem oG{ls:List Nat}{c:List UInt8}{n:Nat}{r:Option (Nat×List UInt8)}(h:jV n c=r):bF (n::ls) c=r.bind λp=>(bF ls p.2).map λq=>(p.1::q.1,q.2):=by simp only[bF];rw[h]
def CL(ls:List Nat)(bs:List UInt8)(n lim:Nat)(ks:List Nat)(c:List UInt8):Prop:=bF ls bs=(bF (List.replicate n lim) c).map λq=>(ks++q.1,q.2)
theorem CL.next{ls:List Nat}{bs:List UInt8}{n lim:Nat}{ks:List Nat}{c:List UInt8}(h:CL ls bs (n+1) lim ks c){k:Nat}{d:List UInt8}(hk:jV lim c=some (k,d)):CL ls bs n lim (ks++[k]) d:=by
 unfold CL at h|-;rw[h,List.replicate_succ,oG hk];simp[Option.map_map,Function.comp_def]
theorem CL.no{ls:List Nat}{bs:List UInt8}{n lim:Nat}{ks:List Nat}{c:List UInt8}(h:CL ls bs (n+1) lim ks c)(hk:jV lim c=none):bF ls bs=none:=by
 unfold CL at h;rw[h,List.replicate_succ,oG hk];rfl
theorem CL.end_{ls:List Nat}{bs:List UInt8}{lim:Nat}{ks:List Nat}{c:List UInt8}(h:CL ls bs 0 lim ks c):bF ls bs=some (ks,c):=by
 unfold CL at h;rw[h];simp[bF]
theorem CL.two{a b lim n:Nat}{bs c1 c2:List UInt8}{k1 k2:Nat}(h1:jV a bs=some (k1,c1))(h2:jV b c1=some (k2,c2)):CL (a::b::List.replicate n lim) bs n lim [k1,k2] c2:=by
 unfold CL;rw[oG h1];simp only[Option.bind_some];rw[oG h2];simp[Option.map_map,Function.comp_def]
def xe(n:Nat)(ks:List Nat):List Int:=nn ks++aj (n-ks.length)
theorem q9{n:Nat}{ks:List Nat}(h:ks.length<=n):(xe n ks).length=n:=by simp[xe,nn,aj];omega
theorem Bw{n:Nat}{ks:List Nat}(h:ks.length=n):xe n ks=nn ks:=by simp[xe,h,aj]
theorem Hq{n:Nat}{ks:List Nat}{k j:Nat}(hj:j=ks.length)(h:ks.length<n):(xe n ks).set j (k:Int)=xe n (ks++[k]):=by
 subst hj;obtain⟨d,hd⟩:∃d,n-ks.length=d+1:=⟨n-ks.length-1,by omega⟩;have e2:n- (ks++[k]).length=d:=by simp;omega
 simp only[xe];rw[hd,e2];have hl:(nn ks).length=ks.length:=by simp[nn]
 rw[List.set_append_right _ _ OM,hl,Nat.sub_self];simp[aj,List.replicate_succ,nn]
theorem vZ(w0:World)(pr:Nat)(ab:Option Nat)(bs:List UInt8)(hs:(d_ pr ab bs).sat w0)(hn:(d_ pr ab bs).own.Nodup):
  Calls prog 141 #[.pointer (some ⟨pr,0,none⟩)] w0 (qZ w0 pr ab bs (ve kz bs)):=by
 have hI:=nU hs hn;rcases h1:fT bs with _| ⟨k,c⟩
 ·have hr:=HD (show bF kz bs=none by unfold kz;simp only[bF];rw[tY,h1];rfl)
  have hk1:=HD h1;clear h1;go_enter func141,ntmps141;exact W78
 ·rcases h2:jV 32 c with _| ⟨k2,c2⟩
  ·have hr:=HD (show bF kz bs=none by unfold kz;rw[oG ((tY bs).trans h1)];simp only[Option.bind_some];rw[oG h2];rfl)
   have hk1:=HD h1;have hk2:=HD h2;clear h1 h2;go_enter func141,ntmps141;exact W51
  ·have hG:=HD (show CL kz bs 5 6 [k,k2] c2 from CL.two (n:=5) ((tY bs).trans h1) h2)
   have hk1:=HD h1;have hk2:=HD h2;clear h1 h2;go_enter func141,ntmps141;go_upto_region 5 with(first|go_at_call 138;refine KC pg hI (gK _ pr ab _ hk1.out (hI.sat _ aX) (hI.nd aX)) ?_;intro w1 hI|go_at_call 136;refine KC pg hI (dK _ pr ab _ _ _ (hI.sat _ aX) (hI.nd aX) (by exact hk2.out) OM) ?_;intro w1 hI|refine YS ?_;intro w hI|refine YX ?_;intro bx w hI)
   (obtain⟨bv,hbx⟩:=EZ bx;subst hbx)
   have hk5:[k,k2].length=2:=rfl
   go_loopg [4,11] 5 (λkk s4 i wr=>∃(j:Nat) (ks:List Nat) (d:List UInt8),kk=5-j∧j<=5∧i=.int .i64 j∧ks.length=j+2∧Hid (CL kz bs (5-j) 6 ks d)∧Inv (d_ pr ab bs).own w0 wr [ib bv 30 (xe 7 ks),ib bx 30 (aj 7),d_ pr ab d])
   case atStart=>exact⟨0,[k,k2],c2,rfl,by omega,rfl,rfl,hG,hI⟩
   case round=>
    clear hI hG hk1 hk2;obtain⟨j,ks,d,rfl,hj,rfl,hkl,hG,hI⟩:=hrel;have hfl:(xe 7 ks).length=7:=q9 OM;by_cases hlj:j<5
    ·obtain⟨q,hq⟩:∃q,5-j=q+1:=⟨5-j-1,by omega⟩
     rcases h1:jV 6 d with _| ⟨k3,c3⟩
     ·have hr:=HD (show bF kz bs=none from by have:=hG.out;rw[hq]at this;exact this.no h1)
      have hk1:=HD h1;clear h1 hG;go_wp2_with(go_at_call 136;refine KN hI (j5 _ pr ab _ _ _ (hI.sat _ aX) (hI.nd aX) (by exact hk1.out) OM) ?_;intro cs' w1 hI);exact⟨rfl,.inr ⟨by rw[ve,hr.out];rfl,rfl,_,hI.sub SB⟩⟩
     ·have hG2:=HD (show CL kz bs (5- (j+1)) 6 (ks++[k3]) c3 from by have:=hG.out;rw[hq]at this;have h2:=this.next h1;rwa [show q=5- (j+1) by omega]at h2)
      have hst:Hid ((xe 7 ks).set (2+j) (k3:Int)=xe 7 (ks++[k3])):=HD (Hq OM OM);have hk1:=HD h1;clear h1 hG;go_wp2_with(first|go_at_call 136;refine KC pg hI (dK _ pr ab _ _ _ (hI.sat _ aX) (hI.nd aX) (by exact hk1.out) OM) ?_;intro w1 hI|refine YS ?_;intro w hI);rw[hst.out]at hI;go_roundg (5- (j+1))
      case measure=>omega
      case rel=>exact⟨j+1,ks++[k3],c3,rfl,by omega,by go_num,by simp;omega,hG2,hI⟩
    ·obtain rfl:j=5:=by omega
     have hr:=HD (show bF kz bs=some (ks,d)from CL.end_ (by simpa using hG.out));clear hG;have hfa:=Bw (n:=7) (ks:=ks) OM;rw[hfa]at hI;have hnl:(nn ks).length=7:=by simp[nn];omega
     go_wp2_with(first|refine YL ?_|refine YS ?_;intro w hI);refine bodyPost_ret (dI hI rfl rfl aM afU hnl) rfl (.inl ⟨_,_,by rw[ve,hr.out];rfl,rfl,hI.sub SB⟩)
theorem Pf(w0:World)(pr:Nat)(ab:Option Nat)(bs:List UInt8)(hs:(d_ pr ab bs).sat w0)(hn:(d_ pr ab bs).own.Nodup):
  Calls prog 167 #[.pointer (some ⟨pr,0,none⟩)] w0 (qZ w0 pr ab bs (ve cellL bs)):=by
 have hI:=nU hs hn;rcases h1:jV 1099511627777 bs with _| ⟨k,c⟩
 ·have hr:=HD (show bF cellL bs=none by unfold cellL;simp only[bF];rw[h1];rfl)
  have hk1:=HD h1;clear h1;go_enter func167,ntmps167;exact W72
 ·rcases h2:jV 1099511627777 c with _| ⟨k2,c2⟩
  ·have hr:=HD (show bF cellL bs=none by unfold cellL;rw[oG (h1)];simp only[Option.bind_some];rw[oG h2];rfl)
   have hk1:=HD h1;have hk2:=HD h2;clear h1 h2;go_enter func167,ntmps167;exact W45
  ·have hG:=HD (show CL cellL bs 5 1099511627777 [k,k2] c2 from CL.two (n:=5) (h1) h2)
   have hk1:=HD h1;have hk2:=HD h2;clear h1 h2;go_enter func167,ntmps167;go_upto_region 5 with(first|go_at_call 136;refine KC pg hI (dK _ pr ab _ _ _ (hI.sat _ aX) (hI.nd aX) (by first|exact hk1.out|exact hk2.out) OM) ?_;intro w1 hI|refine YS ?_;intro w hI|refine YX ?_;intro bx w hI)
   (obtain⟨bv,hbx⟩:=EZ bx;subst hbx)
   have hk5:[k,k2].length=2:=rfl
   go_loopg [4,11] 5 (λkk s4 i wr=>∃(j:Nat) (ks:List Nat) (d:List UInt8),kk=5-j∧j<=5∧i=.int .i64 j∧ks.length=j+2∧Hid (CL cellL bs (5-j) 1099511627777 ks d)∧Inv (d_ pr ab bs).own w0 wr [ib bv 37 (xe 7 ks),ib bx 37 (aj 7),d_ pr ab d])
   case atStart=>exact⟨0,[k,k2],c2,rfl,by omega,rfl,rfl,hG,hI⟩
   case round=>
    clear hI hG hk1 hk2;obtain⟨j,ks,d,rfl,hj,rfl,hkl,hG,hI⟩:=hrel;have hfl:(xe 7 ks).length=7:=q9 OM;by_cases hlj:j<5
    ·obtain⟨q,hq⟩:∃q,5-j=q+1:=⟨5-j-1,by omega⟩
     rcases h1:jV 1099511627777 d with _| ⟨k3,c3⟩
     ·have hr:=HD (show bF cellL bs=none from by have:=hG.out;rw[hq]at this;exact this.no h1)
      have hk1:=HD h1;clear h1 hG;go_wp2_with(go_at_call 136;refine KN hI (j5 _ pr ab _ _ _ (hI.sat _ aX) (hI.nd aX) (by exact hk1.out) OM) ?_;intro cs' w1 hI);exact⟨rfl,.inr ⟨by rw[ve,hr.out];rfl,rfl,_,hI.sub SB⟩⟩
     ·have hG2:=HD (show CL cellL bs (5- (j+1)) 1099511627777 (ks++[k3]) c3 from by have:=hG.out;rw[hq]at this;have h2:=this.next h1;rwa [show q=5- (j+1) by omega]at h2)
      have hst:Hid ((xe 7 ks).set (2+j) (k3:Int)=xe 7 (ks++[k3])):=HD (Hq OM OM);have hk1:=HD h1;clear h1 hG;go_wp2_with(first|go_at_call 136;refine KC pg hI (dK _ pr ab _ _ _ (hI.sat _ aX) (hI.nd aX) (by exact hk1.out) OM) ?_;intro w1 hI|refine YS ?_;intro w hI);rw[hst.out]at hI;go_roundg (5- (j+1))
      case measure=>omega
      case rel=>exact⟨j+1,ks++[k3],c3,rfl,by omega,by go_num,by simp;omega,hG2,hI⟩
    ·obtain rfl:j=5:=by omega
     have hr:=HD (show bF cellL bs=some (ks,d)from CL.end_ (by simpa using hG.out));clear hG;have hfa:=Bw (n:=7) (ks:=ks) OM;rw[hfa]at hI;have hnl:(nn ks).length=7:=by simp[nn];omega
     go_wp2_with(first|refine YL ?_|refine YS ?_;intro w hI);refine bodyPost_ret (dI hI rfl rfl aM afV hnl) rfl (.inl ⟨_,_,by rw[ve,hr.out];rfl,rfl,hI.sub SB⟩)
theorem MR(l1 l2:List Nat)(bs:List UInt8):bF (l1++l2) bs=(bF l1 bs).bind λp=>(bF l2 p.2).map λq=>(p.1++q.1,q.2):=by
 induction l1 generalizing bs with
 |nil=>simp[bF]
 |cons l ls ih=>
  simp only[List.cons_append,bF];rcases h1:jV l bs with _| ⟨k,c⟩
  ·rfl
  ·simp only[Option.bind_some]
   rw[ih];rcases h2:bF ls c with _| ⟨ks,d⟩
   ·rfl
   ·simp[Option.map_map,Function.comp_def]
def afW:Nat:=1099511627777
def wO(n:Nat)(bs:List UInt8):Option (List Nat×List UInt8):=bF (List.replicate n afW) bs
theorem v_(bs:List UInt8):bF cellL bs=wO 7 bs:=rfl
theorem wh(n:Nat)(bs:List UInt8):wO (n+7) bs=(wO 7 bs).bind λp=>(wO n p.2).map λq=>(p.1++q.1,q.2):=by
 unfold wO;rw[<-MR,<-List.replicate_append_replicate.symm,Nat.add_comm]
theorem Fy(bs:List UInt8):wO 0 bs=some ([],bs):=rfl
def lQ:Nat->List UInt8->Option ((List Nat×List Nat)×List UInt8)
 |0,bs=>some (([],[]),bs)
 |n+1,bs=>(fT bs).bind λp=>(if 0<p.1 then wO 28 p.2 else some (List.replicate 28 0,p.2)).bind λq=>(lQ n q.2).map λr=>((p.1::r.1.1,q.1++r.1.2),r.2)
def jw(bs:List UInt8):Option (List Nat×List UInt8):=
 (fT bs).bind λt=>(wO 28 t.2).bind λp=>(lQ 5 p.2).map λr=>(((t.1::p.1)++r.1.1)++r.1.2,r.2)
def wP(bs:List UInt8)(n:Nat)(h:List Nat)(c:List UInt8):Prop:=jw bs=(wO n c).bind λq=>(lQ 5 q.2).map λr=>(((h++q.1)++r.1.1)++r.1.2,r.2)
def sJ(bs:List UInt8)(n:Nat)(h gs cs:List Nat)(c:List UInt8):Prop:=jw bs=(lQ n c).map λr=>((h++(gs++r.1.1))++(cs++r.1.2),r.2)
def xI(bs:List UInt8)(n i:Nat)(h gs cs:List Nat)(c:List UInt8):Prop:=jw bs=(wO i c).bind λq=>(lQ n q.2).map λr=>((h++(gs++r.1.1))++((cs++q.1)++r.1.2),r.2)
section
variable {bs c d:List UInt8}{n i k:Nat}{h gs cs ks:List Nat}
theorem Zl(hk:fT bs=none):jw bs=none:=by simp[jw,hk]
theorem wP.start(hk:fT bs=some (k,c)):wP bs 28 [k] c:=by simp[wP,jw,hk]
theorem wP.no(hA:wP bs (n+7) h c)(hk:bF cellL c=none):jw bs=none:=by
 rw[hA,wh,<-v_,hk];rfl
theorem wP.next(hA:wP bs (n+7) h c)(hk:bF cellL c=some (ks,d)):wP bs n (h++ks) d:=by
 unfold wP at hA|-;rw[hA,wh,<-v_,hk];simp only[Option.bind_some];rcases wO n d with _| ⟨q,e⟩
 ·rfl
 ·simp
theorem wP.end_(hA:wP bs 0 h c):sJ bs 5 h [] [] c:=by
 unfold wP at hA;unfold sJ;rw[hA,Fy];simp
theorem sJ.no(hB:sJ bs (n+1) h gs cs c)(hk:fT c=none):jw bs=none:=by
 rw[hB];simp[lQ,hk]
theorem sJ.zero(hB:sJ bs (n+1) h gs cs c)(hk:fT c=some (k,d))(h0:k=0):sJ bs n h (gs++[k]) (cs++List.replicate 28 0) d:=by
 subst h0;unfold sJ at hB|-;rw[hB];simp only[lQ,hk,Option.bind_some,Nat.lt_irrefl,if_false,Option.map_map];congr 1;funext r;simp
theorem sJ.some_(hB:sJ bs (n+1) h gs cs c)(hk:fT c=some (k,d))(h0:0<k):xI bs n 28 h (gs++[k]) cs d:=by
 unfold sJ at hB;unfold xI;rw[hB];simp only[lQ,hk,Option.bind_some,h0,if_true];rcases wO 28 d with _| ⟨q,e⟩
 ·rfl
 ·simp only[Option.bind_some,Option.map_map]
  congr 1;funext r;simp
theorem xI.no(hC:xI bs n (i+7) h gs cs c)(hk:bF cellL c=none):jw bs=none:=by
 rw[hC,wh,<-v_,hk];rfl
theorem xI.next(hC:xI bs n (i+7) h gs cs c)(hk:bF cellL c=some (ks,d)):xI bs n i h gs (cs++ks) d:=by
 unfold xI at hC|-;rw[hC,wh,<-v_,hk];simp only[Option.bind_some];rcases wO i d with _| ⟨q,e⟩
 ·rfl
 ·simp
theorem xI.end_(hC:xI bs n 0 h gs cs c):sJ bs n h gs cs c:=by
 unfold xI at hC;unfold sJ;rw[hC,Fy];simp
theorem sJ.end_(hB:sJ bs 0 h gs cs c):jw bs=some ((h++gs)++cs,c):=by
 rw[hB];simp[lQ]
end
theorem Jq{bs c:List UInt8}{ks:List Nat}(h:bF cellL bs=some (ks,c)):ks.length=7:=dN h
theorem Pg{n off:Nat}{ks cs:List Nat}(ho:off=ks.length)(h:ks.length+cs.length<=n):dF (xe n ks) off (nn cs)=xe n (ks++cs):=by
 subst ho;obtain⟨d,rfl⟩:∃d,n=ks.length+cs.length+d:=⟨n- (ks.length+cs.length),by omega⟩;have hl:(nn ks).length=ks.length:=by simp[nn]
 have e1:ks.length+cs.length+d- (ks++cs).length=d:=by simp<;>omega
 have e2:ks.length+cs.length+d-ks.length=cs.length+d:=by omega
 unfold xe dF;rw[e1,e2];have h1:(nn ks++aj (cs.length+d)).take ks.length=nn ks:=by rw[<-hl,List.take_left]
 have h2:(nn ks++aj (cs.length+d)).drop (ks.length+(nn cs).length)=aj d:=by
  rw[<-List.drop_drop];rw[show(nn ks++aj (cs.length+d)).drop ks.length=aj (cs.length+d)from by rw[<-hl,List.drop_left]];simp[aj,nn]
 rw[h1,h2];simp[nn]
theorem UI{n m:Nat}{ks:List Nat}(h:ks.length+m<=n):xe n (ks++List.replicate m 0)=xe n ks:=by
 obtain⟨d,rfl⟩:∃d,n=ks.length+m+d:=⟨n- (ks.length+m),by omega⟩;have e1:ks.length+m+d- (ks++List.replicate m 0).length=d:=by simp<;>omega
 have e2:ks.length+m+d-ks.length=m+d:=by omega
 unfold xe;rw[e1,e2];simp[nn,aj]
def nu(h gs cs:List Nat):List Int:=nn h++(xe 5 gs++xe 140 cs)
theorem cB(ks:List Nat):(nn ks).length=ks.length:=by simp[nn]
theorem MS(a b:List Nat):nn (a++b)=nn a++nn b:=by simp[nn]
section
variable {h gs cs ks:List Nat}{g k off:Nat}
theorem Jr(hh:h.length=29)(hg:gs.length<=5)(hc:cs.length<=140):(nu h gs cs).length=174:=by
 simp[nu,cB,hh,q9 hg,q9 hc]
theorem MU(hh:h.length=29):xe 174 h=nu h [] []:=by
 unfold nu xe;rw[hh];simp[aj,nn]
theorem UJ(hh:h.length=29)(hg:gs.length<5)(ho:off=29+gs.length):(nu h gs cs).set off (g:Int)=nu h (gs++[g]) cs:=by
 subst ho;unfold nu;rw[List.set_append_right _ _ (by rw[cB];omega),cB,hh,Nat.add_sub_cancel_left,List.set_append_left _ _ (by rw[q9 OM];omega),Hq rfl hg]
theorem UK(hh:h.length=29)(hg:gs.length<5)(ho:off=29+gs.length):gi (nu h (gs++[g]) cs) off=(g:Int):=by
 subst ho;unfold nu gi xe;rw[MS];simp[nn,hh,List.getD,List.getElem?_append]
theorem Fz{a b vs:List Int}{o:Nat}(ha:a.length<=o):dF (a++b) o vs=a++dF b (o-a.length) vs:=by
 obtain⟨d,rfl⟩:∃d,o=a.length+d:=⟨o-a.length,by omega⟩;unfold dF;rw[Nat.add_sub_cancel_left,Nat.add_assoc,List.drop_append,List.take_append];simp[List.take_of_length_le (show a.length<=a.length+d by omega),List.drop_of_length_le (show a.length<=a.length+(d+vs.length) by omega)]
theorem UL(hh:h.length=29)(hg:gs.length<=5)(hc:cs.length+ks.length<=140)(ho:off=34+cs.length):dF (nu h gs cs) off (nn ks)=nu h gs (cs++ks):=by
 subst ho;unfold nu;rw[Fz (by rw[cB];omega),cB,Fz (by rw[q9 hg];omega),q9 hg,Pg OM hc]
theorem Q8(hc:cs.length+28<=140):nu h gs (cs++List.replicate 28 0)=nu h gs cs:=by
 unfold nu;rw[UI hc]
theorem UN(hg:gs.length=5)(hc:cs.length=140):nu h gs cs=nn ((h++gs)++cs):=by
 unfold nu;rw[Bw hg,Bw hc,MS,MS,List.append_assoc]
end
theorem mixed:prog.follows .mixedOrders=true:=by kernel_rfl
theorem afX:fw prog 41 174:=C.wX
theorem ai8:fe prog 41 174:=C.afx
theorem Jt(w0:World)(pr:Nat)(ab:Option Nat)(bs:List UInt8){ks:List Nat}{cs:List UInt8}(hs:(d_ pr ab bs).sat w0)(hn:(d_ pr ab bs).own.Nodup)(hk:bF cellL bs=some (ks,cs)):
  Calls prog 167 #[.pointer (some ⟨pr,0,none⟩)] w0 λe w'=>e=.returned (ia (nn ks))∧Inv (d_ pr ab bs).own w0 w' [d_ pr ab cs]:=
 qZ.yes (Pf w0 pr ab bs hs hn) (by rw[ve,hk];rfl)
theorem Pj(w0:World)(pr:Nat)(ab:Option Nat)(bs:List UInt8)(hs:(d_ pr ab bs).sat w0)(hn:(d_ pr ab bs).own.Nodup)(hk:bF cellL bs=none):
  Calls prog 167 #[.pointer (some ⟨pr,0,none⟩)] w0 λe w'=>e=.panicked Jp∧∃cs,Inv (d_ pr ab bs).own w0 w' [d_ pr ab cs]:=
 qZ.no (Pf w0 pr ab bs hs hn) (by rw[ve,hk];rfl)
def EO(bs:List UInt8):Option (Value×List UInt8):=(jw bs).map λp=>(ia (nn p.1),p.2)
theorem Zm(k:Nat):(aj 174).set 0 (k:Int)=xe 174 [k]:=by simp[xe,aj,nn,List.replicate_succ]
theorem u6(w0:World)(pr:Nat)(ab:Option Nat)(bs:List UInt8)(hs:(d_ pr ab bs).sat w0)(hn:(d_ pr ab bs).own.Nodup):
  Calls prog 137 #[.pointer (some ⟨pr,0,none⟩)] w0 (qZ w0 pr ab bs (EO bs)):=by
 have hI:=nU hs hn;rcases h1:fT bs with _| ⟨k,c⟩
 ·have hr:=HD (Zl h1)
  have hk1:=HD h1;clear h1;go_enter func137,ntmps137;go_wp2_with(first|go_at_call 138;refine KN hI (xE _ pr ab _ hk1.out (hI.sat _ aX) (hI.nd aX)) ?_;intro cs' w1 hI|refine YX ?_;intro bx w hI);exact⟨rfl,.inr ⟨by rw[EO,hr.out];rfl,rfl,_,hI.sub SB⟩⟩
 ·have hA:=HD (wP.start h1)
  have hk1:=HD h1;clear h1;go_enter func137,ntmps137;go_upto_region 4 with(first|go_at_call 138;refine KC pg hI (gK _ pr ab _ (by exact hk1.out) (hI.sat _ aX) (hI.nd aX)) ?_;intro w1 hI|refine YS ?_;intro w hI|refine YX ?_;intro bx w hI)
  (obtain⟨bv,hbx⟩:=EZ bx;subst hbx)
  rw[Zm]at hI
  go_loopg [4,10] 4 (λkk s4 i wr=>∃(j:Nat) (h:List Nat) (d:List UInt8),kk=4-j∧j<=4∧i=.int .i64 j∧h.length=1+7*j∧Hid (wP bs (7*(4-j)) h d)∧Inv (d_ pr ab bs).own w0 wr [ib bv 41 (xe 174 h),ib bx 41 (aj 174),d_ pr ab d])
  case atStart=>exact⟨0,[k],c,rfl,by omega,rfl,rfl,hA,hI⟩
  case round=>
   clear hI hA hk1;obtain⟨j,h,d,rfl,hj,rfl,hhl,hA,hI⟩:=hrel;have hfl:(xe 174 h).length=174:=q9 OM;by_cases hlj:j<4
   ·have hq:7*(4-j)=7*(4- (j+1))+7:=by omega
    rcases h1:bF cellL d with _| ⟨ks,c3⟩
    ·have hr:=HD (show jw bs=none from by have:=hA.out;rw[hq]at this;exact this.no h1)
     have hk1:=HD h1;clear h1 hA;go_wp2_with(go_at_call 167;refine KN hI (Pj _ pr ab _ (hI.sat _ aX) (hI.nd aX) hk1.out) ?_;intro cs' w1 hI);exact⟨rfl,.inr ⟨by rw[EO,hr.out];rfl,rfl,_,hI.sub SB⟩⟩
    ·have hA2:=HD (show wP bs (7*(4- (j+1))) (h++ks) c3 from by have:=hA.out;rw[hq]at this;exact this.next h1)
     have hkl:=Jq h1;have hkn:(nn ks).length=7:=by rw[cB];exact hkl
     have hst:Hid (dF (xe 174 h) (1+j*7) (nn ks)=xe 174 (h++ks)):=HD (Pg OM OM);have hk1:=HD h1;clear h1 hA;go_wp2_with(first|go_at_call 167;refine KC pg hI (Jt _ pr ab _ (hI.sat _ aX) (hI.nd aX) hk1.out) ?_;intro w1 hI|refine YS ?_;intro w hI);rw[hst.out]at hI;go_roundg (4- (j+1))
     case measure=>omega
     case rel=>exact⟨j+1,h++ks,c3,rfl,by omega,by go_num,by simp;omega,hA2,hI⟩
   ·obtain rfl:j=4:=by omega
    have hB:=HD (show sJ bs 5 h [] [] d from wP.end_ (by simpa using hA.out));clear hA;have hh:h.length=29:=by omega
    rw[MU hh]at hI;go_upto_region 9 with(fail)
    go_loopg [5,6,19,32] 5 (λkk s5 s6 i s32 wr=>∃(j:Nat) (gs cs:List Nat) (d:List UInt8),kk=5-j∧j<=5∧i=.int .i64 j∧gs.length=j∧cs.length=28*j∧Hid (sJ bs (5-j) h gs cs d)∧Inv (d_ pr ab bs).own w0 wr [ib bv 41 (nu h gs cs),ib bx 41 (aj 174),d_ pr ab d])
    case atStart=>exact⟨0,[],[],d,rfl,by omega,rfl,rfl,rfl,hB,hI⟩
    case round=>
     clear hI hB hfl;obtain⟨j,gs,cs,d2,rfl,hj,rfl,hgl,hcl,hB,hI⟩:=hrel;have hfl:(nu h gs cs).length=174:=Jr hh OM OM;by_cases hlj:j<5
     ·have hq:5-j=(5- (j+1))+1:=by omega
      rcases h1:fT d2 with _| ⟨g,d3⟩
      ·have hr:=HD (show jw bs=none from by have:=hB.out;rw[hq]at this;exact this.no h1)
       have hk1:=HD h1;clear h1 hB;go_wp2_with(go_at_call 138;refine KN hI (xE _ pr ab _ hk1.out (hI.sat _ aX) (hI.nd aX)) ?_;intro cs' w1 hI);exact⟨rfl,.inr ⟨by rw[EO,hr.out];rfl,rfl,_,hI.sub SB⟩⟩
      ·have hst:Hid ((nu h gs cs).set (29+j) (g:Int)=nu h (gs++[g]) cs):=HD (UJ hh OM OM)
       have hgt:gi ((nu h gs cs).set (29+j) (g:Int)) (29+j)=(g:Int):=by rw[hst.out];exact UK hh OM OM
       by_cases h0:g=0
       ·have hB2:=HD (show sJ bs (5- (j+1)) h (gs++[g]) (cs++List.replicate 28 0) d3 from by have:=hB.out;rw[hq]at this;exact this.zero h1 h0)
        have hd:decide (0<gi ((nu h gs cs).set (29+j) (g:Int)) (29+j))=false:=by rw[hgt,h0];rfl
        have hk1:=HD h1;clear h1 hB hgt h0;go_wp2_with(first|go_at_call 138;refine KC pg hI (gK _ pr ab _ (by exact hk1.out) (hI.sat _ aX) (hI.nd aX)) ?_;intro w1 hI|refine YL ?_|refine YS ?_;intro w hI);rw[hst.out,<-Q8 (cs:=cs) OM]at hI;go_roundg (5- (j+1))
        case measure=>omega
        case rel=>exact⟨j+1,gs++[g],cs++List.replicate 28 0,d3,rfl,by omega,by go_num,by simp;omega,by simp;omega,hB2,hI⟩
       ·have hC:=HD (show xI bs (5- (j+1)) 28 h (gs++[g]) cs d3 from by have:=hB.out;rw[hq]at this;exact this.some_ h1 OM)
        have hd:decide (0<gi ((nu h gs cs).set (29+j) (g:Int)) (29+j))=true:=by rw[hgt];simp;omega
        have hk1:=HD h1;clear h1 hB hgt;go_upto_region 14 with(first|go_at_call 138;refine KC pg hI (gK _ pr ab _ (by exact hk1.out) (hI.sat _ aX) (hI.nd aX)) ?_;intro w1 hI|refine YL ?_|refine YS ?_;intro w hI)
        rw[hst.out]at hI;clear hst hd hfl hk1
        go_loopg [6,32] 4 (λkk s6 i wr=>∃(m:Nat) (cs:List Nat) (d:List UInt8),kk=4-m∧m<=4∧i=.int .i64 m∧cs.length=28*j+7*m∧Hid (xI bs (5- (j+1)) (7*(4-m)) h (gs++[g]) cs d)∧Inv (d_ pr ab bs).own w0 wr [ib bv 41 (nu h (gs++[g]) cs),ib bx 41 (aj 174),d_ pr ab d])
        case atStart=>exact⟨0,cs,d3,rfl,by omega,rfl,by omega,hC,hI⟩
        case round=>
         clear hI hC hcl;obtain⟨m,cs,d4,rfl,hm,rfl,hcl,hC,hI⟩:=hrel;have hfl:(nu h (gs++[g]) cs).length=174:=Jr hh (by simp;omega) OM;by_cases hlm:m<4
         ·have hq:7*(4-m)=7*(4- (m+1))+7:=by omega
          rcases h1:bF cellL d4 with _| ⟨ks,d5⟩
          ·have hr:=HD (show jw bs=none from by have:=hC.out;rw[hq]at this;exact this.no h1)
           have hk1:=HD h1;clear h1 hC;go_upto_region 16 with(fail)
           refine qU (λw=>Inv (d_ pr ab bs).own w0 w [ib bv 41 (nu h (gs++[g]) cs),ib bx 41 (aj 174),d_ pr ab d4]) mixed ?_;replace hI:=hI.drew;change qf _ _ _ _ _ _ _ _ (World.drew _);revert hI;generalize World.drew _=w9;intro hI
           (refine bU (i:=0) (v:=?_) rfl KF KF KF (λc a w hp=>hp) ⟨by rfl,?_⟩ ?_;rotate_left;focus(intro w _;go_simp;with_reducible rfl))
           (simp only[Act.put,List.setIfInBounds_toArray,QG,QS])
           (refine bU (i:=1) (v:=?_) rfl KF KF KF (λc a w hp=>hp) ⟨by rfl,?_⟩ ?_;rotate_left;focus(intro w _;go_simp;with_reducible rfl))
           (simp only[Act.put,List.setIfInBounds_toArray,QG,QS])
           (refine bU (i:=2) (v:=?_) rfl KF KF KF (λc a w hp=>hp) ⟨by rfl,?_⟩ ?_;rotate_left;focus(intro w _;go_simp;with_reducible rfl))
           (simp only[Act.put,List.setIfInBounds_toArray,QG,QS])
           (refine bU (i:=4) (v:=?_) rfl KF KF KF (λc a w hp=>hp) ⟨by rfl,?_⟩ ?_;rotate_left;focus(intro w _;go_simp;with_reducible rfl))
           (simp only[Act.put,List.setIfInBounds_toArray,QG,QS])
           (refine bU (i:=5) (v:=?_) rfl KF KF KF (λc a w hp=>hp) ⟨by rfl,?_⟩ ?_;rotate_left;focus(intro w _;go_simp;with_reducible rfl))
           (simp only[Act.put,List.setIfInBounds_toArray,QG,QS])
           refine iA (i:=3) KF hI ?_;refine MV (i:=3) (by rfl) RF ?_;go_wp2_with(go_at_call 167;refine KN hI (Pj _ pr ab _ (hI.sat _ aX) (hI.nd aX) hk1.out) ?_;intro cs' w1 hI);exact UO ⟨rfl,.inr ⟨by rw[EO,hr.out];rfl,rfl,_,hI.sub SB⟩⟩
          ·have hC2:=HD (show xI bs (5- (j+1)) (7*(4- (m+1))) h (gs++[g]) (cs++ks) d5 from by have:=hC.out;rw[hq]at this;exact this.next h1)
           have hkl:=Jq h1;have hkn:(nn ks).length=7:=by rw[cB];exact hkl
           have hk1:=HD h1;clear h1 hC;have ai9:decide ((m:Int) <4)=true:=by simp;omega
           go_upto_region 16 with(fail)
           have hst:Hid (dF (nu h (gs++[g]) cs) (34+j*28+m*7) (nn ks)=nu h (gs++[g]) (cs++ks)):=HD (UL hh (by simp;omega) OM OM)
           (obtain⟨mE,qm⟩:=gX hI;refine aH (C:=λw'=>Inv _ _ w' _) [3,7] (λw'=>Inv _ _ w' (List.eraseIdx (List.eraseIdx (mE) 0) 1)) hI.drew (λw' h=>Inv.sub h (by subst qm;((try simp only[vV]);repeat(first|exact List.Sublist.slnil|with_reducible apply List.Sublist.cons_cons|apply List.Sublist.cons)))) mixed KF ?_;subst qm;clear hI)
           ((with_reducible apply cZ);rfl;rfl;(focus(intro D w hD hE;have hI:Inv _ _ w _:=hE;(try simp only[vV]at hI);go_wp2_with(fail);(try simp only[QN]);exact⟨rfl,rfl,hD⟩));(exact⟨_,rfl⟩))
           ((with_reducible apply cZ);rfl;rfl;(focus(intro D w hD hE;have hI:Inv _ _ w _:=hE;(try simp only[vV]at hI);go_wp2_with(fail);(try simp only[QN]);exact⟨rfl,rfl,hD⟩));(exact⟨_,rfl⟩))
           ((with_reducible apply cZ);rfl;rfl;(focus(intro D w hD hE;have hI:Inv _ _ w _:=hE;(try simp only[vV]at hI);go_wp2_with(fail);(try simp only[QN]);exact⟨rfl,rfl,hD⟩));(exact⟨_,rfl⟩))
           (with_reducible apply dw)
           rfl;rfl;rfl
           ·(intro w (hI:Inv _ _ w _))
            go_wp2_with(go_at_call 167;refine KC pg hI (Jt _ pr ab _ (hI.sat _ aX) (hI.nd aX) hk1.out) ?_;intro w1 hI)
            (try simp only[QN])
            exact⟨rfl,rfl,hI⟩
           (exact⟨_,rfl⟩)
           ·(intro w (hI:Inv _ _ w _))
            exact Inv.sub hI SB
           (repeat(first| ((with_reducible apply dw);rfl;rfl;rfl;(focus(intro w (hI:Inv _ _ w _);go_wp2_with(refine YS ?_;intro w hI);(try simp only[QN]);exact⟨rfl,rfl,hI⟩));(exact⟨undef,rfl⟩);(focus(intro w (hI:Inv _ _ w _);exact Inv.sub hI SB))) | ((with_reducible apply aZ);rfl;rfl;(focus(intro w (hI:Inv _ _ w _);go_wp2_with(fail);(try simp only[QN]);exact⟨rfl,rfl,hI⟩));(exact⟨_,rfl⟩)) | ((with_reducible apply cZ);rfl;rfl;(focus(intro D w hD hE;have hI:Inv _ _ w _:=hE;(try simp only[vV]at hI);go_wp2_with(fail);(try simp only[QN]);exact⟨rfl,rfl,hD⟩));(exact⟨_,rfl⟩))));(refine bn ?_;intro w (hI:Inv _ _ w _))
           rw[hst.out]at hI;go_wp2_with(fail);go_roundg (4- (m+1))
           case measure=>omega
           case rel=>exact⟨m+1,cs++ks,d5,rfl,by omega,by go_num,by simp;omega,hC2,hI⟩
         ·obtain rfl:m=4:=by omega
          have hB2:=HD (show sJ bs (5- (j+1)) h (gs++[g]) cs d4 from xI.end_ (by simpa using hC.out));clear hC;go_wp2_with(fail);go_roundg (5- (j+1))
          case measure=>omega
          case rel=>exact⟨j+1,gs++[g],cs,d4,rfl,by omega,by go_num,by simp;omega,by omega,hB2,hI⟩
     ·obtain rfl:j=5:=by omega
      have hr:=HD (show jw bs=some ((h++gs)++cs,d2)from sJ.end_ (by simpa using hB.out));clear hB;rw[UN hgl OM]at hI;have hnl:(nn ((h++gs)++cs)).length=174:=by rw[cB];simp;omega
      go_wp2_with(first|refine YL ?_|refine YS ?_;intro w hI);refine bodyPost_ret (dI hI rfl rfl aM afX hnl) rfl (.inl ⟨_,_,by rw[EO,hr.out];rfl,rfl,hI.sub SB⟩)
def afY:List PanicEntry:=[{v:=.iface 221 (.agg #[]),recovered:=true}]
theorem acX:(match prog.underlying 221 with|some (.struct _)=>true|_=>false)=true:=by kernel_rfl
theorem Q9(w:World):(Instr.typeAssert (.iface 221 (.agg #[])) 20 221 true).run prog w=.ok (.tuple #[.agg #[],.bool true]) w:=by
 have h:=acX;cases hu:prog.underlying 221 with
 |none=>rw[hu]at h;cases h
 |some t=>
  rw[hu]at h;cases t<;>simp only[Bool.false_eq_true]at h
  unfold Instr.typeAssert;simp only[Sem.run_bind,run_underlying hu,Result.andThen_ok];simp[Sem.run_pure]
theorem Q_{T:List Nat}{w0 w:World}{p:Nat}{x:Bool}{m:List aG}(hI:Inv T w0 w (blk p 4 [.bool x]::m)):
  CallsD prog 135 #[.pointer (some ⟨p,0,none⟩)] (.panicking Jp) w λe u' w'=>e=.returned (.tuple #[])∧u'=.panicking afY∧Inv T w0 w' (blk p 4 [.bool false]::m):=by
 have has:=Q9;refine callsD_of_wpS func135 rfl λc₀ cs hu=>?_
 apply wpS_seq;apply wpS_region;simp[wpOpsS,go_sem,recoverD,hu,Jp,ntmps135,Exit.thenS];refine wpS_of_wp ?_;simp only[Array.replicate,List.replicate,List.setIfInBounds_toArray,List.set_cons_zero,List.set_cons_succ,List.append_toArray,List.cons_append,List.nil_append];go_wp2_with(first|(with_reducible refine aL (z:=.agg #[]) (cs:=[]) hI KF RF ?_;intro bz w hI)|(with_reducible refine aN (vs:=[]) hI RF RF jy (n:=0) KF RF SI SI ?_;intro w hI)|refine YT ?_;intro w hI;(try simp only[QS]at hI));have hres:∀(tm:Array Value) (w:World),(results f135 tm).run prog w=.ok (.tuple #[]) w:=λtm w=>by
  have h0:f135.results=#[]:=by kernel_rfl
  unfold results;rw[h0];simp[Sem.run_bind,Sem.run_pure,Result.andThen_ok]
 exact⟨rfl,_,rfl,_,hres _ _,rfl,rfl,hI.tl⟩
theorem MW{T:List Nat}{w0 w:World}{p:Nat}{m:List aG}(hI:Inv T w0 w m):
  CallsD prog 135 #[.pointer (some ⟨p,0,none⟩)] .returning w λe u' w'=>e=.returned (.tuple #[])∧u'=.returning∧Inv T w0 w' m:=by
 refine callsD_of_wpS func135 rfl λc₀ cs hu=>?_
 apply wpS_seq;apply wpS_region;simp[wpOpsS,go_sem,recoverD,hu,ntmps135,Exit.thenS];refine wpS_of_wp ?_;simp only[Array.replicate,List.replicate,List.setIfInBounds_toArray,List.set_cons_zero,List.set_cons_succ,List.append_toArray,List.cons_append,List.nil_append]
 go_wp2
 have hres:∀(tm:Array Value) (w:World),(results f135 tm).run prog w=.ok (.tuple #[]) w:=λtm w=>by
  have h0:f135.results=#[]:=by kernel_rfl
  unfold results;rw[h0];simp[Sem.run_bind,Sem.run_pure,Result.andThen_ok]
 cases c₀;simp only at hu;exact⟨rfl,_,rfl,_,hres _ _,rfl,hu,hI⟩
theorem acY:(match prog.underlying 192 with|some (.func _ _ _)=>true|_=>false)=true:=by kernel_rfl
theorem ab1(g:Nat)(CO:Array Value)(w:World):(binOp .neq 192 (.func (.func g) #[] CO) .nilFunc).run prog w=.ok (.bool true) w:=by
 have h:=acY;cases hu:prog.underlying 192 with
 |none=>rw[hu]at h;cases h
 |some t=>
  rw[hu]at h;cases t<;>simp only[Bool.false_eq_true]at h
  have h2:(Op.equalIn (9999+1) 192 (.func (.func g) #[] CO) .nilFunc).run prog w=.ok false w:=by
   rw[Op.equalIn];simp only[Sem.run_bind,run_underlying hu,Result.andThen_ok,Sem.run_pure]
  show(do pure (Value.bool (!(<-Op.equalIn (9999+1) 192 (.func (.func g) #[] CO) .nilFunc)))).run prog w=_;rw[Sem.run_bind,h2,Result.andThen_ok,Sem.run_pure];rfl
theorem CP{T:List Nat}{w0 w:World}{pr:Nat}{ab:Option Nat}{bs:List UInt8}{a:Option Addr}{c:Nat}{x:aG}{m:List aG}(hc:bs.length<=c)(hm:c<=maxLen)(h:Inv T w0 w (blk pr 219 [.slice a bs.length c]::x::mQ ab a bs::m)):Inv T w0 w (d_ pr ab bs::x::m):=by
 refine h.turn (λhs y hy=>?_) ?_
 ·simp only[List.mem_cons]at hy
  rcases hy with rfl|rfl|hy
  ·exact afF
  ·exact hs _ SI
  ·exact hs _ (by simp[hy])
 ·have e:(d_ pr ab bs).own=pr::(mQ ab a bs).own:=rfl
  have e2:(blk pr 219 [.slice a bs.length c]).own=[pr]:=rfl;simp only[bY,e,e2,List.cons_append,List.nil_append];refine List.Perm.cons _ ?_;exact W54
theorem afZ{P:Program}{ops:Array Oper}{Q:Exit->Act->World->Prop}{ac:Act}{rest:List Oper}{w:World}{dst:Option Tmp}{ty:TypeId}{pos:String}{af:Array Edge}{x:Operand}{t b off e:Nat}{fr:Nat×Nat}{cs:List Value}{v:Value}
  (hb:w.heap[b]? =some (.cells cs.toArray e fr)) (hx:ac.eval x=.pointer (some ⟨b,off,none⟩):=by exact RF) [hT:aO P t] (hv:cs[off]? =some v:=by exact RF)
  (k:wpList P ops Q rest (ac.put dst v) w):wpList P ops Q (⟨dst,.load t x,ty,pos,af,none⟩::rest) ac w:=by
 refine au (v:=v) ?_ k;unfold fP execOp;simp only[hx,Instr.loadAt,Instr.sureAddr,Sem.run_bind,Sem.run_pure,Result.andThen_ok,gI hT.out hb off hv]
theorem ab2{T:List Nat}{w0 w:World}{m:List aG}{p:Nat}{x:Bool}{tm:Array Value}(hI:Inv T w0 w m)(hm:blk p 4 [.bool x]∈m)(hp:tm.getD 4 undef=.pointer (some ⟨p,0,none⟩)):(results f99 tm).run prog w=.ok (.bool x) w:=by
 have h0:f99.results=#[.cell 4 4]:=by kernel_rfl
 have hl:=gI (P:=prog) (aO.out (P:=prog) (t:=4)) (hI.blk hm) 0 (v:=.bool x) rfl;unfold results;rw[h0];simp only[Array.getD_eq_getD_getElem?]at hp;simp[Sem.run_bind,Sem.run_pure,Result.andThen_ok,hp,hl,asAddr]
theorem UQ{T:List Nat}{w0 w:World}{a:Option Addr}{ab:Option Nat}{c:Nat}{bs cs:List UInt8}{g:Nat}{CO:Array Value}{m m1:List aG}(hc:bs.length<=c)(hm:c<=maxLen)(hI:Inv T w0 w (mQ ab a bs::m))(hg:∀args w,(callFunc g args).run prog w=.ok (.enter g args) w)
  (hcall:∀w' pr x,Inv T w0 w' (d_ pr ab bs::x::m)->Calls prog g (#[.pointer (some ⟨pr,0,none⟩)]++CO) w' λe w''=>e=.returned (.tuple #[])∧Inv T w0 w'' (d_ pr ab cs::x::m1)):
  Calls prog 99 #[.slice a bs.length c,.func (.func g) #[] CO] w λe w'=>e=.returned (.bool (decide (cs=[])))∧∃pr,Inv T w0 w' (d_ pr ab cs::m1):=by
 have hmf:∀(fn:Fn) (first cap:Array Value) (w:World),(Instr.makeFunc fn first cap).run prog w=.ok (.func fn first cap) w:=λ_ _ _ _=>rfl
 have hnf:=ab1 g CO
 go_enter_defers func99,ntmps99
 go_wp2_with(first|(with_reducible refine aL (z:=.bool false) (cs:=[.bool false]) hI KF RF ?_;intro bx w hI)|(with_reducible refine bN (cs:=[.slice a bs.length c]) hI RF ?_;intro pr w hI)|refine(hcall _ pr _ (CP hc hm hI)).mono ?_;rintro e w1 ⟨rfl,hJ⟩;replace hI:=hJ;clear hJ;(obtain⟨a2,c2,hpr,_⟩:=hI.sat _ aA)|with_reducible refine afZ (b:=pr) (cs:=[.slice a2 cs.length c2]) hpr (k:=?_)|refine YT ?_;intro w hI;(try simp only[QS]at hI));have hz:((cs.length:Int)==0)=decide (cs=[]):=by
  cases cs with
  |nil=>rfl
  |cons c cs=>simp;omega
 rw[hz]at hI;refine leaves_cons (f:=135) (args:= #[.pointer (some ⟨bx,0,none⟩)]) SI (by simp[go_sem]) ?_;refine(MW hI).mono ?_;rintro e u' w'' ⟨rfl,rfl,hI⟩;refine⟨_,ab2 hI aM rfl,rfl,pr,hI.sub (.cons_cons _ (.cons _ (.refl _)))⟩
theorem Zn{T:List Nat}{w0 w:World}{a:Option Addr}{ab:Option Nat}{c:Nat}{bs:List UInt8}{g:Nat}{CO:Array Value}{m m1:List aG}(hc:bs.length<=c)(hm:c<=maxLen)(hI:Inv T w0 w (mQ ab a bs::m))(hg:∀args w,(callFunc g args).run prog w=.ok (.enter g args) w)
  (hcall:∀w' pr x,Inv T w0 w' (d_ pr ab bs::x::m)->Calls prog g (#[.pointer (some ⟨pr,0,none⟩)]++CO) w' λe w''=>e=.panicked Jp∧∃cs,Inv T w0 w'' (d_ pr ab cs::x::m1)):
  Calls prog 99 #[.slice a bs.length c,.func (.func g) #[] CO] w λe w'=>e=.returned (.bool false)∧∃pr cs,Inv T w0 w' (d_ pr ab cs::m1):=by
 have hmf:∀(fn:Fn) (first cap:Array Value) (w:World),(Instr.makeFunc fn first cap).run prog w=.ok (.func fn first cap) w:=λ_ _ _ _=>rfl
 have hnf:=ab1 g CO
 go_enter_defers func99,ntmps99
 go_wp2_with(first|(with_reducible refine aL (z:=.bool false) (cs:=[.bool false]) hI KF RF ?_;intro bx w hI)|(with_reducible refine bN (cs:=[.slice a bs.length c]) hI RF ?_;intro pr w hI)|refine(hcall _ pr _ (CP hc hm hI)).mono ?_;rintro e w1 ⟨rfl,cs,hJ⟩;replace hI:=hJ;clear hJ);refine leaves_cons (f:=135) (args:= #[.pointer (some ⟨bx,0,none⟩)]) SI (by simp[go_sem]) ?_;refine(Q_ (m:=d_ pr ab cs::m1) (x:=false) (hI.turn (λhs y hy=>hs y (by simp at hy|-;rcases hy with h|h|h<;>simp[h])) (by simp only[bY];rw[<-List.append_assoc,<-List.append_assoc];exact List.Perm.append_right _ List.perm_append_comm))).mono ?_;rintro e u' w'' ⟨rfl,rfl,hI⟩;have hr:=λtm hp=>ab2 (tm:=tm) hI aA hp
 simp[Leaves,settle,afY];exact⟨_,hr _ rfl,rfl,pr,cs,hI.tl⟩
theorem mH{T:List Nat}{w0 w:World}{a:Option Addr}{ab:Option Nat}{c:Nat}{bs cs:List UInt8}{g:Nat}{b1 b2:Nat}{m m1:List aG}(hc:bs.length<=c)(hm:c<=maxLen)(hg:∀args w,(callFunc g args).run prog w=.ok (.enter g args) w)(hI:Inv T w0 w (mQ ab a bs::m))
  (hcall:∀w' pr x,Inv T w0 w' (d_ pr ab bs::x::m)->Calls prog g #[.pointer (some ⟨pr,0,none⟩),.pointer (some ⟨b1,0,none⟩),.pointer (some ⟨b2,0,none⟩)] w' λe w''=>e=.returned (.tuple #[])∧Inv T w0 w'' (d_ pr ab cs::x::m1)):
  Calls prog 99 #[.slice a bs.length c,.func (.func g) #[] #[.pointer (some ⟨b1,0,none⟩),.pointer (some ⟨b2,0,none⟩)]] w λe w'=>e=.returned (.bool (decide (cs=[])))∧∃pr,Inv T w0 w' (d_ pr ab cs::m1):=
 UQ hc hm hI hg (λw' pr x h=>by simpa using hcall w' pr x h)
theorem CQ{T:List Nat}{w0 w:World}{a:Option Addr}{ab:Option Nat}{c:Nat}{bs:List UInt8}{g:Nat}{b1 b2:Nat}{m m1:List aG}(hc:bs.length<=c)(hm:c<=maxLen)(hg:∀args w,(callFunc g args).run prog w=.ok (.enter g args) w)(hI:Inv T w0 w (mQ ab a bs::m))
  (hcall:∀w' pr x,Inv T w0 w' (d_ pr ab bs::x::m)->Calls prog g #[.pointer (some ⟨pr,0,none⟩),.pointer (some ⟨b1,0,none⟩),.pointer (some ⟨b2,0,none⟩)] w' λe w''=>e=.panicked Jp∧∃cs,Inv T w0 w'' (d_ pr ab cs::x::m1)):
  Calls prog 99 #[.slice a bs.length c,.func (.func g) #[] #[.pointer (some ⟨b1,0,none⟩),.pointer (some ⟨b2,0,none⟩)]] w λe w'=>e=.returned (.bool false)∧∃pr cs,Inv T w0 w' (d_ pr ab cs::m1):=
 Zn hc hm hI hg (λw' pr x h=>by simpa using hcall w' pr x h)
theorem yJ:(prog.info? 4).map (·.zero)=some (some (.bool false)):=by kernel_rfl
theorem gD{fn:Func}(h0:fn.results=#[])(tm:Array Value)(w:World):(results fn tm).run prog w=.ok (.tuple #[]) w:=by
 unfold results;rw[h0];simp[Sem.run_bind,Sem.run_pure,Result.andThen_ok]
theorem UR{α:Type}(A B C D E:List α):(D++(A++(B++(C++E)))).Perm (A++(B++(C++(D++E)))):=by
 have h:=List.Perm.append_right E (List.perm_append_comm (l₁:=D) (l₂:=A++(B++C)));simpa[List.append_assoc]using h
theorem Inv.Ju{T:List Nat}{w0 w:World}{x y z r:aG}{m:List aG}(h:Inv T w0 w (x::y::z::r::m)):Inv T w0 w (r::x::y::z::m):=by
 refine h.turn (λhs u hu=>hs u ?_) ?_
 ·simp only[List.mem_cons]at hu|-
  rcases hu with h|h|h|h|h<;>simp[h]
 ·simp only[bY]
  exact UR _ _ _ _ _
def tZ(bs:List UInt8):Value:=.agg (bs.map bv).toArray
def qW(at_:Int)(bs:List UInt8):List Value:=.int .i64 at_::bs.map bv
def jR(n:Nat):List UInt8:=List.replicate n 0
theorem kC(n:Nat):(jR n).length=n:=by simp[jR]
theorem qY(bs:List UInt8):∀u∈bs.map bv,u.oneCell'=true:=by
 intro u hu;obtain⟨x,_,rfl⟩:=List.mem_map.1 hu;rfl
theorem Jj(z:Int)(bs:List UInt8):∀u∈qW z bs,u.oneCell'=true:=by
 intro u hu;rcases List.mem_cons.1 hu with rfl|hu
 ·rfl
 ·exact qY bs u hu
theorem Ha(z:Int)(bs:List UInt8):(qW z bs).length=bs.length+1:=by simp[qW]
theorem Hf:(prog.info? 169).map (·.zero)=some (some (tZ (jR 64))):=by kernel_rfl
theorem Pk:(prog.info? 171).map (·.zero)=some (some (.agg (qW 0 (jR 64)).toArray)):=by kernel_rfl
theorem acZ:G7 prog 171:=⟨_,underlying171,by kernel_rfl⟩
theorem ac0:Ba prog 171 0 0 1:=⟨_,underlying171,by kernel_rfl⟩
instance:tK prog 135 171 65 72 (.agg (qW 0 (jR 64)).toArray):=⟨⟨by kernel_rfl,by kernel_rfl,by kernel_rfl,by decide⟩⟩
theorem He:acU prog 134 3 169:=⟨by kernel_rfl,by kernel_rfl⟩
def Ay(r:Nat)(S:Int->List UInt8):aG:=
 ⟨[r],λw=>∃f,(mpr r f).sat w∧∀k,(f k).getD (tZ (jR 64))=tZ (S k),λw w' h ⟨f,h1,h2⟩=>⟨f,(mpr r f).loc w w' h h1,h2⟩⟩
def tX(S:Int->List UInt8)(k:Int)(bs:List UInt8):Int->List UInt8:=λj=>if j=k then bs else S j
section
variable {P:Program}{ops:Array Oper}{Q:Exit->Act->World->Prop}{a:Act}{rest:List Oper}{T:List Nat}{w0 w:World}{m m':List aG}{dst:Option Tmp}{ty:TypeId}{pos:String}{af:Array Edge}
variable {x y u:Operand}{t n b off:Nat}{e:TypeId}{bs vs:List UInt8}{z:Int}
theorem UT(h:Inv T w0 w (mpr b (λ_=>none)::m)):Inv T w0 w (Ay b (λ_=>jR 64)::m):=
 h.turn (λhs y hy=>by
  rcases List.mem_cons.1 hy with rfl|hy
  ·exact⟨λ_=>none,hs (mpr b λ_=>none) SI,λ_=>rfl⟩
  ·exact hs _ (by simp[hy])) (by simp[owned,Ay,mpr])
theorem af0{r:Nat}{S:Int->List UInt8}{j:Int}(hI:Inv T w0 w m)(hx:a.eval x=.map (some r):=by exact RF)(hy:a.eval y=.int .i64 j:=by exact RF)
  (hm:Ay r S∈m:=by exact MM)
  (k:wpList prog ops Q rest (a.put dst (tZ (S j))) w):wpList prog ops Q (⟨dst,.lookup 134 x y false,ty,pos,af,none⟩::rest) a w:=by
 obtain⟨f,h1,h2⟩:=hI.sat _ hm;refine au ?_ k;exact W88
theorem ahP{r:Nat}{S:Int->List UInt8}{j:Int}(hI:Inv T w0 w m)(hx:a.eval x=.map (some r):=by exact RF)(hy:a.eval y=.int .i64 j:=by exact RF)(hu:a.eval u=tZ bs:=by exact RF)
  (hup:aR (Ay r S) (Ay r (tX S j bs)) m m':=by exact UU)
  (k:∀w',Inv T w0 w' m'->wpList prog ops Q rest (a.put dst undef) w'):wpList prog ops Q (⟨dst,.mapUpdate 134 x y u,ty,pos,af,none⟩::rest) a w:=by
 obtain⟨m1,m2,rfl,rfl⟩:=hup.split;obtain⟨f,h1,h2⟩:=hI.sat (Ay r S) SI;have hI2:Inv T w0 w (m1++mpr r f::m2):=hI.turn (λhs y hy=>by
  simp only[List.mem_append,List.mem_cons]at hy;rcases hy with hy|rfl|hy
  ·exact hs _ (by simp[hy])
  ·exact h1
  ·exact hs _ (by simp[hy])) (by simp[owned,Ay,mpr])
 refine zO hI2 hx hy hu He (aR.mid _ _ m2 m1) λw' hI'=>k w' (hI'.turn (λhs y hy=>?_) (by simp[owned,Ay,mpr]))
 simp only[List.mem_append,List.mem_cons]at hy;rcases hy with hy|rfl|hy
 ·exact hs _ (by simp[hy])
 ·refine⟨λi=>if i=j then some (tZ bs)else f i,hs (mpr r (λi=>if i=j then some (tZ bs)else f i)) SI,λi=>?_⟩
  unfold tX;by_cases hi:i=j
  ·simp[hi]
  ·simp only[hi,if_false];exact h2 i
 ·exact hs _ (by simp[hy])
theorem Zd(hI:Inv T w0 w m)(hx:a.eval x=.pointer (some ⟨b,0,none⟩):=by exact RF)(hm:blk b e (bs.map bv)∈m:=by exact MM)[hT:bG P t n](hl:bs.length=n:=by first|assumption| (simp only[kC]) |omega)
  (k:wpList P ops Q rest (a.put dst (tZ bs)) w):wpList P ops Q (⟨dst,.load t x,ty,pos,af,none⟩::rest) a w:=
 bL hI hx hm hT.out (by simp[hl]) (by
  rw[show((bs.map bv).drop 0).take n=bs.map bv from List.take_of_length_le (by simp[hl])];exact k)
theorem abZ(hI:Inv T w0 w m)(hx:a.eval x=.pointer (some ⟨b,1,none⟩):=by exact RF)(hm:blk b e (qW z bs)∈m:=by exact MM)[hT:bG P t n](hl:bs.length=n:=by first|assumption| (simp only[kC]) |omega)
  (k:wpList P ops Q rest (a.put dst (tZ bs)) w):wpList P ops Q (⟨dst,.load t x,ty,pos,af,none⟩::rest) a w:=
 bL hI hx hm hT.out (by simp[qW,hl];omega) (by
  rw[show((qW z bs).drop 1).take n=bs.map bv from by rw[qW,List.drop_succ_cons,List.drop_zero];exact List.take_of_length_le (by simp[hl])];exact k)
theorem afC(hI:Inv T w0 w m)(hx:a.eval x=.pointer (some ⟨b,0,none⟩):=by exact RF)(hm:blk b e (qW z bs)∈m:=by exact MM)[hT:bG P t n](hl:bs.length+1=n:=by first|omega| (simp only[kC]))
  (k:wpList P ops Q rest (a.put dst (.agg (qW z bs).toArray)) w):wpList P ops Q (⟨dst,.load t x,ty,pos,af,none⟩::rest) a w:=
 bL hI hx hm hT.out (by simp[qW];omega) (by
  rw[show((qW z bs).drop 0).take n=qW z bs from List.take_of_length_le (by simp[qW];omega)];exact k)
theorem t_{cs vs:List Value}(h:vs.length=cs.length):splice cs 0 vs=vs:=by simp[splice,h]
theorem Fq(hI:Inv T w0 w m)(hx:a.eval x=.pointer (some ⟨b,0,none⟩):=by exact RF)(hv:a.eval y=tZ vs:=by exact RF)
  (hu:aR (blk b e (bs.map bv)) (blk b e (vs.map bv)) m m':=by exact UU) [hT:bG P t n]
  (hl:bs.length=n:=by first|assumption| (simp only[kC]) |omega) (hl2:vs.length=n:=by first|assumption| (simp only[kC]) |omega)
  (k:∀w',Inv T w0 w' m'->wpList P ops Q rest (a.put dst undef) w'):wpList P ops Q (⟨dst,.store t x y,ty,pos,af,none⟩::rest) a w:=
 aN hI hx (cs:=bs.map bv) (vs:=vs.map bv) (by rw[hv];rfl) (by rw[t_ (by simp[hl,hl2])];exact hu) hT.out.size (by simpa using hl2) (by simp[hl]) (qY vs) k
theorem Fp{z2:Int}(hI:Inv T w0 w m)(hx:a.eval x=.pointer (some ⟨b,0,none⟩):=by exact RF)(hv:a.eval y=.agg (qW z2 vs).toArray:=by exact RF)
  (hu:aR (blk b e (qW z bs)) (blk b e (qW z2 vs)) m m':=by exact UU) [hT:bG P t n]
  (hl:bs.length+1=n:=by first|omega| (simp only[kC])) (hl2:vs.length+1=n:=by first|omega| (simp only[kC]))
  (k:∀w',Inv T w0 w' m'->wpList P ops Q rest (a.put dst undef) w'):wpList P ops Q (⟨dst,.store t x y,ty,pos,af,none⟩::rest) a w:=
 aN hI hx (cs:=qW z bs) (vs:=qW z2 vs) (by rw[hv];rfl) (by rw[t_ (by simp[qW];omega)];exact hu) hT.out.size (by simp[qW];omega) (by simp[qW];omega) (Jj z2 vs) k
theorem Uf(hI:Inv T w0 w m)(k:∀b w',Inv T w0 w' (blk b 169 ((jR 64).map bv)::m)->wpList prog ops Q rest (a.put dst (.pointer (some ⟨b,0,none⟩))) w'):wpList prog ops Q (⟨dst,.alloc 169,ty,pos,af,none⟩::rest) a w:=
 aL hI Hf rfl k
theorem QU(hI:Inv T w0 w m)(k:∀b w',Inv T w0 w' (blk b 171 (qW 0 (jR 64))::m)->wpList prog ops Q rest (a.put dst (.pointer (some ⟨b,0,none⟩))) w'):wpList prog ops Q (⟨dst,.alloc 171,ty,pos,af,none⟩::rest) a w:=
 aL hI Pk rfl k
theorem O9(hI:Inv T w0 w m)(hv:a.eval x=tZ bs:=by exact RF)
  (k:∀b w',Inv T w0 w' (blk b t (bs.map bv)::m)->wpList P ops Q rest (a.put dst (.pointer (some ⟨b,0,none⟩))) w'):wpList P ops Q (⟨dst,.box t x,ty,pos,af,none⟩::rest) a w:=bN hI (by rw[hv];rfl) k
theorem af1(h0:a.eval x=.int .i64 z:=by exact RF)(k:wpList prog ops Q rest (a.put dst (.agg (qW z (jR 64)).toArray)) w):wpList prog ops Q (⟨dst,.build 171 #[(0,x)],ty,pos,af,none⟩::rest) a w:=
 ik (ps:=[(0,x)]) (n:=65) [(0,[.int .i64 z])] Pk rfl (by rfl) acZ ⟨by rw[h0];rfl,ac0,Nat.le_of_ble_eq_true rfl,trivial⟩ k
theorem MZ{fn:Func}{p:Nat}{tm:Array Value}(hI:Inv T w0 w m)(h0:fn.results=#[.cell p 169])(hp:tm.getD p undef=.pointer (some ⟨b,0,none⟩))(hm:blk b e (bs.map bv)∈m)(hl:bs.length=64):(results fn tm).run prog w=.ok (tZ bs) w:=by
 have hl2:=g_ (P:=prog) (bG.out (P:=prog) (t:=169)) (hI.blk hm) 0 (by simp[hl]);rw[show((bs.map bv).drop 0).take 64=bs.map bv from List.take_of_length_le (by simp[hl])]at hl2;simp only[Array.getD_eq_getD_getElem?]at hp;unfold results;rw[h0];simp[Sem.run_bind,Sem.run_pure,Result.andThen_ok,hp,hl2,asAddr,tZ]
theorem afE(r:Nat)(w:World):(binOp .eql 134 (.map (some r)) (.map none)).run prog w=.ok (.bool false) w:=by
 have h2:(Op.equalIn (9999+1) 134 (.map (some r)) (.map none)).run prog w=.ok false w:=by
  rw[Op.equalIn];simp only[Sem.run_bind,run_underlying He.1,Result.andThen_ok,Sem.run_pure]
 show(do pure (Value.bool (<-Op.equalIn (9999+1) 134 (.map (some r)) (.map none)))).run prog w=_;rw[Sem.run_bind,h2,Result.andThen_ok,Sem.run_pure]
theorem uF{ad:Addr}{xs:List Value}(hr:Rd w (some ad) xs):∀(n i:Nat) (acc:Array Value),i+n<=xs.length->(loadCellsFrom ad i n acc).run P w=.ok (acc++((xs.drop i).take n).toArray) w
 |0,i,acc,_=>by simp[loadCellsFrom]
 |n+1,i,acc,h=>by
  have hi:i<xs.length:=by omega
  obtain⟨b,off,hab,hc⟩:=hr i xs[i] (List.getElem?_eq_getElem hi);obtain rfl:=Option.some.inj hab;rw[loadCellsFrom,Sem.run_bind];have hl:(load ((⟨b,off,none⟩:Addr).add i)).run P w=.ok xs[i] w:=by
   rw[jE,load,Sem.run,hc];rfl
  rw[hl,Result.andThen_ok,uF hr n (i+1) _ OM];congr 1;rw[List.drop_eq_getElem_cons hi,List.take_succ_cons];simp
theorem zP{ad:Addr}{xs:List Value}(hr:Rd w (some ad) xs)(n:Nat)(h:n<=xs.length):(loadCells ad n).run P w=.ok (xs.take n).toArray w:=by
 rw[loadCells,uF hr n 0 #[] OM];simp
theorem qX{t e2 bytes q c cq:Nat}{z:Value}{ao:Option Addr}{xs cs ys:List Value}(hI:Inv T w0 w m)(hT:uY P t e2 1 bytes z)(hx:a.eval x=.slice (some ⟨b,off,none⟩) n c)(hy:a.eval y=.slice ao q cq)(hr:Rd w ao xs)(hl:xs.length=q)
  (hu:aR (blk b e cs) (blk b e (splice cs off ys)) m m') (hys:ys=xs.take (min q n)) (hoff:off+min q n<=cs.length) (h1:∀u∈xs,u.oneCell'=true)
  (k:∀w',Inv T w0 w' m'->wpList P ops Q rest (a.put dst (.int .i64 (min q n:Nat))) w'):wpList P ops Q (⟨dst,.call {callee:=.builtin .copy,args:= #[x,y],argTypes:= #[t,t]},ty,pos,af,none⟩::rest) a w:=
 wpList_plain rfl λK hK=>by
  have hsz:(P.info? e2).map (·.size)=some 1:=by
   obtain⟨i,hi,_,h2,_⟩:=hT.info;rw[hi,<-h2];rfl
  have hb:w.heap[b]? =some (.cells cs.toArray e (0,0)):=by
   obtain⟨m1,m2,rfl,_⟩:=hu.split;exact hI.sat (blk b e cs) SI
  have hyl:ys.length=min q n:=by rw[hys,List.length_take,hl];omega
  have hcells:(Builtin.firstCells 1 (min q n) (.slice ao q cq)).run P w=.ok ys.toArray w:=by
   cases ao with
   |none=>
    have hx0:xs=[]:=by
     cases xs with
     |nil=>rfl
     |cons u l=>obtain⟨_,_,h,_⟩:=hr 0 u rfl;cases h
    subst hx0;simp[Builtin.firstCells,hys]
   |some ad=>
    simp only[Builtin.firstCells,Nat.mul_one];rw[zP hr _ OM,hys]
  obtain⟨w',hst,hstep,hsize,hheap⟩:=qc (P:=P) (b:=b) (e:=e) ys (by rw[hys];exact λu hu=>h1 u (List.mem_of_mem_take hu)) w cs off 0 hb OM;unfold Oper.wp execOp;have hrun:(Builtin.copy_ #[t,t] ty #[.slice (some ⟨b,off,none⟩) n c,.slice ao q cq]).run P w=.ok (.int .i64 (min q n:Nat)) w':=by
   have h0:(Nat.min q n)=min q n:=rfl;simp only[Builtin.copy_,Builtin.lenOf];simp[Sem.run_bind,run_underlying hT.und,dH hsz,Result.andThen_ok,h0,hcells,hst,Sem.run_pure,goInt]
  simp only[resolve,invoke,builtin,Sem.run_bind,Sem.run_pure,Result.andThen_ok,List.map_toArray,List.map_cons,List.map_nil,hx,hy,hrun];exact hK _ _ (k w' (hI.upd hu hstep hheap (λj hj=> .inl hj) (by simp[blk])))
end
structure DS where
 sure:Int->List UInt8
 waits:List (Int×List UInt8)
 armed:Bool
 left:Int
 down:Bool
def Co(ws:List (Int×List UInt8)):List Value:=ws.flatMap λp=>qW p.1 p.2
structure wQ (D:DS):Prop where
 UW:∀p∈D.waits,p.2.length=64
 UX:∀k,(D.sure k).length=64
 l0:0<=D.left∧D.left<9223372036854775808
def dcs(mr:Nat)(a:Option Addr)(c:Nat)(D:DS):List Value:=[.map (some mr),.slice a D.waits.length c,.bool D.armed,.int .i64 D.left,.bool D.down]
def eF(d mr:Nat)(wb:Option Nat)(D:DS):aG:=
 ⟨d::mr::wb.toList,λw=>∃a c,Value.ownBlock (.slice a D.waits.length c)=wb∧(blk d 137 (dcs mr a c D)).sat w∧(Ay mr D.sure).sat w∧(bf 171 65 (.slice a D.waits.length c) D.waits.length (Co D.waits)).sat w,
  λw w' h ⟨a,c,h1,h2,h3,h4⟩=>⟨a,c,h1,(blk d 137 (dcs mr a c D)).loc w w' (λk hk=>h k (by simp[blk]at hk;simp[hk])) h2,
   (Ay mr D.sure).loc w w' (λk hk=>h k (by simp[Ay]at hk;simp[hk])) h3,
   (bf 171 65 (.slice a D.waits.length c) D.waits.length (Co D.waits)).loc w w' (λk hk=>h k (by
    have:k∈(Value.ownBlock (.slice a D.waits.length c)).toList:=hk;rw[h1]at this;exact List.mem_cons_of_mem _ (List.mem_cons_of_mem _ this))) h4⟩⟩
section
variable {T:List Nat}{w0 w:World}{d mr:Nat}{wb:Option Nat}{D:DS}{m:List aG}
theorem sK(h:Inv T w0 w (eF d mr wb D::m)):∃a c,Value.ownBlock (.slice a D.waits.length c)=wb∧
  Inv T w0 w (blk d 137 [.map (some mr),.slice a D.waits.length c,.bool D.armed,.int .i64 D.left,.bool D.down]::Ay mr D.sure::bf 171 65 (.slice a D.waits.length c) D.waits.length (Co D.waits)::m):=by
 obtain⟨a,c,h1,h2,h3,h4⟩:=h.sat (eF d mr wb D) SI;refine⟨a,c,h1,h.turn (λhs y hy=>?_) (by simp[owned,blk,Ay,bf,eF,h1])⟩;simp only[List.mem_cons]at hy;rcases hy with rfl|rfl|rfl|hy
 ·exact h2
 ·exact h3
 ·exact h4
 ·exact hs _ (by simp[hy])
theorem iX{a:Option Addr}{n c:Nat}{ar dn:Bool}{lf:Int}{S:Int->List UInt8}{ws:List (Int×List UInt8)}(hw:Value.ownBlock (.slice a n c)=wb)(hn:n=ws.length)(h:Inv T w0 w (blk d 137 [.map (some mr),.slice a n c,.bool ar,.int .i64 lf,.bool dn]::Ay mr S::bf 171 65 (.slice a n c) n (Co ws)::m)):
  Inv T w0 w (eF d mr wb ⟨S,ws,ar,lf,dn⟩::m):=by
 subst hn hw;refine h.turn (λhs y hy=>?_) (by simp[owned,blk,Ay,bf,eF]);rcases List.mem_cons.1 hy with rfl|hy
 ·exact⟨a,c,rfl,hs (blk d 137 [.map (some mr),.slice a ws.length c,.bool ar,.int .i64 lf,.bool dn]) SI,hs (Ay mr S) SI,hs (bf 171 65 (.slice a ws.length c) ws.length (Co ws)) SI⟩
 ·exact hs _ (by simp[hy])
end
def iH:DS:=⟨λ_=>jR 64,[],false,0,false⟩
theorem Jv(w0:World):Calls prog 36 #[] w0 λe w'=>∃d mr,e=.returned (.pointer (some ⟨d,0,none⟩))∧Inv [] w0 w' [eF d mr none iH]:=by
 have hI:=Inv.start w0;go_enter func36,ntmps36;go_wp2_with(first|(with_reducible refine CF hI ?_;intro mr w hI;replace hI:=UT hI)|(with_reducible refine bN (cs:=[.map (some mr),.slice none 0 0,.bool false,.int .i64 0,.bool false]) hI RF ?_;intro d w hI));go_ret;refine⟨d,mr,rfl,?_⟩;have h2:Inv [] w0 w (bf 171 65 (.slice none 0 0) 0 (Co [])::_):=hI.Av 171 65;exact iX (a:=none) (c:=0) (ws:=[]) rfl rfl (h2.turn (λhs y hy=>hs y (by simp only[List.mem_cons]at hy|-;rcases hy with h|h|h|h<;>simp[h]at*)) (by simp[owned,blk,Ay,bf,Value.ownBlock,Co]))
section
variable (w0:World)(d mr:Nat)(wb:Option Nat)(D:DS)
theorem Fu(h:(eF d mr wb D).sat w0):Calls prog 61 #[.pointer (some ⟨d,0,none⟩)] w0 λe w'=>e=.returned (.bool D.down)∧w'=w0:=by
 obtain⟨a,c,h1,h2,h3,h4⟩:=h;have hb:w0.heap[d]? =some (.cells ([.map (some mr),.slice a D.waits.length c,.bool D.armed,.int .i64 D.left,.bool D.down]:List Value).toArray 137 (0,0)):=h2;clear h2 h3 h4 h1;go_enter func61,ntmps61;go_wp2_with(with_reducible refine afZ hb (k:=?_));go_ret;exact⟨rfl,rfl⟩
variable (hI:Inv (eF d mr wb D).own w0 w0 [eF d mr wb D])
include hI
theorem UY(n:Int)(hn:-9223372036854775808<=n∧n<=9223372036854775807):Calls prog 42 #[.pointer (some ⟨d,0,none⟩),.int .i64 n] w0 λe w'=>e=.returned (.tuple #[])∧Inv (eF d mr wb D).own w0 w' [eF d mr wb {D with armed:=true,left:=max n 0}]:=by
 obtain⟨a,c,h1,hI⟩:=sK hI;by_cases h0:¬n<0
 ·have hm:Hid (max n 0=n):=HD OM
  exact W77
 ·have hm:Hid (max n 0=0):=HD OM
  exact W77
theorem FD(at_:Int)(h64:(D.sure at_).length=64):Calls prog 94 #[.pointer (some ⟨d,0,none⟩),.int .i64 at_] w0 λe w'=>e=.returned (tZ (D.sure at_))∧Inv (eF d mr wb D).own w0 w' [eF d mr wb D]:=by
 obtain⟨a,c,h1,hI⟩:=sK hI;go_enter func94,ntmps94;go_wp2_with(first|refine YL ?_|with_reducible refine af0 hI (k:=?_)|(with_reducible refine Uf hI ?_;intro bx w hI)|(with_reducible refine Fq hI (k:=?_);intro w hI));exact bodyPost_ret (MZ hI rfl rfl aA h64) rfl ⟨rfl,iX h1 rfl (hI.tl)⟩
end
def pad(bs:List UInt8):List UInt8:=bs++jR (64-bs.length)
theorem Pm{bs:List UInt8}(h:bs.length<=64):(pad bs).length=64:=by simp[pad,jR];omega
def bK(D:DS)(at_:Int)(bs:List UInt8):DS×Int:=
 if at_<0∨2048<=at_∨64<bs.length then(D,5)
 else if D.down=true∨(D.armed=true∧D.left=0)then({D with down:=true},4)
 else({D with left:=if D.armed then D.left-1 else D.left,waits:=D.waits++[(at_,pad bs)]},0)
section
variable {P:Program}{ops:Array Oper}{Q:Exit->Act->World->Prop}{a:Act}{rest:List Oper}{T:List Nat}{w0 w:World}{m m':List aG}{dst:Option Tmp}{ty:TypeId}{pos:String}{af:Array Edge}
theorem u_{t e size bytes:Nat}{z:Value}[hT:tK P t e size bytes z]{x:Operand}{cs:List Value}(hI:Inv T w0 w m)(hx:a.eval x=.agg cs.toArray)(hl:cs.length=size)(h24:size<=16777216:=by exact WD)
  (k:∀b w',Inv T w0 w' (bf e size (.slice (some ⟨b,0,none⟩) 1 1) 1 cs::m)->wpList P ops Q rest (a.put dst (.slice (some ⟨b,0,none⟩) 1 1)) w'):
  wpList P ops Q (⟨dst,.buildSlice t 1 #[(0,x)],ty,pos,af,none⟩::rest) a w:=by
 refine gJ hI hT.out OM DC ?_ OM k;have hr:((Array.range (1*size)).map (z.cells[· %z.cells.size]!)).size=size:=by simp
 obtain⟨zs,hzs⟩:∃zs:List Value,(Array.range (1*size)).map (z.cells[· %z.cells.size]!)=zs.toArray:=⟨_,rfl⟩;have hzl:zs.length=size:=by rw[hzs]at hr;simpa using hr
 have hf:=foldl_set cs 0 zs 0 OM;rw[Nat.add_zero,<-List.foldl_toArray,<-Array.zipIdx_toArray]at hf;have hsp:splice zs 0 cs=cs:=by simp[splice,hl,hzl]
 have hcc:(Value.agg cs.toArray).cells=cs.toArray:=rfl;rw[hzs];simp only[List.map_toArray,List.map_cons,List.map_nil,Instr.fill,hx,hcc,List.size_toArray];rw[if_neg (by simp;omega)];simp only[Nat.zero_mul];rw[hf,hsp]
end
theorem M0{z:Int}{bs:List UInt8}(h:bs.length<=64):splice (qW z (jR 64)) 1 (bs.map bv)=qW z (pad bs):=by
 simp only[splice,qW,pad,jR,List.map_append,List.map_replicate,List.take_succ_cons,List.take_zero,List.length_map];rw[Nat.add_comm 1,List.drop_succ_cons,List.drop_replicate];simp
theorem Zf{T:List Nat}{w0 w:World}{A B C X Y:aG}{m:List aG}(h:Inv T w0 w (X::Y::A::B::C::m)):Inv T w0 w (A::B::C::m):=h.sub (.cons _ (.cons _ (.refl _)))
theorem Ze(ws:List (Int×List UInt8))(z:Int)(bs:List UInt8):Co (ws++[(z,bs)])=Co ws++qW z bs:=by simp[Co]
section
variable (w0:World)(d mr:Nat)(wb:Option Nat)(D:DS)(y:aG)(hI:Inv (two (eF d mr wb D) y).own w0 w0 [two (eF d mr wb D) y])(hD:wQ D)(hwl:D.waits.length<=100000)
variable (at_:Int)(ao:Option Addr)(cp n:Nat)(bs:List UInt8)(hn:bs.length=n)(hry:∀w,y.sat w->Rd w ao (bs.map bv))(hnl:n<=100000)
include hI hD hwl hn hry hnl
theorem qo:Calls prog 95 #[.pointer (some ⟨d,0,none⟩),.int .i64 at_,.slice ao n cp] w0 λe w'=>∃kS,e=.returned (.int .i64 (bK D at_ bs).2)∧Inv (two (eF d mr wb D) y).own w0 w' [two (eF d mr kS (bK D at_ bs).1) y]:=by
 obtain⟨a,c,h1,hI⟩:=sK hI.dz;have hl0:=hD.l0;obtain⟨S,ws,ar,lf,dn⟩:=D;simp only at hI hl0 h1 hwl;cases c1:decide (at_<0)
 ·cases c2:decide (2048<=at_)
  ·cases c3:decide (64<n)
   ·have MI:bs.length<=64:=by simp at c3;omega
    have hg:¬(at_<0∨2048<=at_∨64<bs.length):=by simp at c1 c2;omega
    have hc3:decide ((64:Int) < (n:Int))=false:=by simp;omega
    have af2:=HD (M0 (z:=at_) MI);have hpl:=Pm MI;cases dn
    ·cases ar
     ·have hF:Hid (bK ⟨S,ws,false,lf,false⟩ at_ bs=(⟨S,ws++[(at_,pad bs)],false,lf,false⟩,0)):=HD (by simp[bK,hg])
      rw[hF.out];clear hg hF;go_enter func95,ntmps95;go_upto_region 11 with(first|refine YL ?_|(with_reducible refine QU hI ?_;intro bx w hI)|(with_reducible refine Fp hI (k:=?_);intro w hI)|with_reducible refine af1 (k:=?_)|(with_reducible refine qX (xs:=bs.map bv) (cs:=qW at_ (jR 64)) (ys:=bs.map bv) hI (tK.out (t:=63)) RF RF (hry _ (hI.sat y mm4)) (by simp[hn]) jy (by rw[List.take_of_length_le];simp;omega) (by simp[qW,jR];omega) (qY bs) ?_;intro w hI;rw[af2.out]at hI))
      (refine ZR [6,7,8,9,10] [0,1,2,3,4] [6,7] [0,1,2,3,4,5,6,7,8,9,10] (λw=>Inv (two (eF d mr wb ⟨S,ws,false,lf,false⟩) y).own w0 w [blk d 137 [.map (some mr),.slice a ws.length c,.bool false,.int .i64 lf,.bool false]]) hI ?_;intro wd hI)
      exact W27
     ·by_cases hz:lf=0
      ·have hF:Hid (bK ⟨S,ws,true,lf,false⟩ at_ bs=(⟨S,ws,true,lf,true⟩,4)):=HD (by simp[bK,hg,hz])
       exact W69
      ·have hF:Hid (bK ⟨S,ws,true,lf,false⟩ at_ bs=(⟨S,ws++[(at_,pad bs)],true,lf-1,false⟩,0)):=HD (by simp[bK,hg,hz])
       rw[hF.out];clear hg hF;go_enter func95,ntmps95;go_upto_region 11 with(first|refine YL ?_|refine YT ?_;intro w hI;(try simp only[QS]at hI)|(with_reducible refine QU hI ?_;intro bx w hI)|(with_reducible refine Fp hI (k:=?_);intro w hI)|with_reducible refine af1 (k:=?_)|(with_reducible refine qX (xs:=bs.map bv) (cs:=qW at_ (jR 64)) (ys:=bs.map bv) hI (tK.out (t:=63)) RF RF (hry _ (hI.sat y mm4)) (by simp[hn]) jy (by rw[List.take_of_length_le];simp;omega) (by simp[qW,jR];omega) (qY bs) ?_;intro w hI;rw[af2.out]at hI))
       (refine ZR [6,7,8,9,10] [0,1,2,3,4] [6,7] [0,1,2,3,4,5,6,7,8,9,10] (λw=>Inv (two (eF d mr wb ⟨S,ws,true,lf,false⟩) y).own w0 w [blk d 137 [.map (some mr),.slice a ws.length c,.bool true,.int .i64 (lf-1),.bool false]]) hI ?_;intro wd hI)
       exact W27
    ·by_cases hz:(ar=true∧lf=0)
     ·obtain⟨rfl,hz⟩:=hz
      have hF:Hid (bK ⟨S,ws,true,lf,true⟩ at_ bs=(⟨S,ws,true,lf,true⟩,4)):=HD (by simp[bK,hg]);exact W69
     ·have hF:Hid (bK ⟨S,ws,ar,lf,true⟩ at_ bs=(⟨S,ws,ar,lf,true⟩,4)):=HD (by simp[bK,hg])
      rw[hF.out];clear hF hg;cases ar
      ·clear hz
       exact W47
      ·replace hz:¬lf=0:=λh=>hz ⟨rfl,h⟩
       exact W47
   ·have hF:Hid (bK ⟨S,ws,ar,lf,dn⟩ at_ bs=(⟨S,ws,ar,lf,dn⟩,5)):=HD (by simp at c3;rw[bK,if_pos OM])
    have hc3:decide ((64:Int) < (n:Int))=true:=by simp at c3|-;omega
    rw[hF.out];exact W47
  ·have hF:Hid (bK ⟨S,ws,ar,lf,dn⟩ at_ bs=(⟨S,ws,ar,lf,dn⟩,5)):=HD (by simp at c2;rw[bK,if_pos OM])
   rw[hF.out];exact W47
 ·have hF:Hid (bK ⟨S,ws,ar,lf,dn⟩ at_ bs=(⟨S,ws,ar,lf,dn⟩,5)):=HD (by simp at c1;simp[bK,c1])
  rw[hF.out];go_enter func95,ntmps95;go_wp2_with(fail);go_ret;exact⟨_,rfl,(iX h1 rfl hI).dO⟩
end
def pE(S:Int->List UInt8)(ws:List (Int×List UInt8)):Int->List UInt8:=ws.foldl (λS p=>tX S p.1 p.2) S
def di(D:DS):DS×Int:=if D.down then(D,4)else({D with sure:=pE D.sure D.waits,waits:=[]},0)
theorem G9{ws:List (Int×List UInt8)}(h64:∀p∈ws,p.2.length=64){j:Nat}{p:Int×List UInt8}(hj:ws[j]? =some p):j*65+65<=(Co ws).length∧((Co ws).drop (j*65)).take 65=qW p.1 p.2:=by
 induction ws generalizing j with
 |nil=>simp at hj
 |cons q ws ih=>
  have hq:(qW q.1 q.2).length=65:=by rw[Ha,h64 q SI]
  have e:Co (q::ws)=qW q.1 q.2++Co ws:=by simp[Co]
  cases j with
  |zero=>
   simp at hj;subst hj;rw[e];refine⟨by simp[hq],?_⟩;simp only[Nat.zero_mul,List.drop_zero];exact List.take_left' hq
  |succ j=>
   obtain⟨h1,h2⟩:=ih (λp hp=>h64 p (by simp[hp])) (j:=j) (by simpa using hj);rw[e,List.length_append,hq];refine⟨by omega,?_⟩;rw[show(j+1)*65=(qW q.1 q.2).length+j*65 by rw[hq];omega,List.drop_length_add_append];exact h2
theorem Zo{ws:List (Int×List UInt8)}(h64:∀p∈ws,p.2.length=64){j:Nat}{p:Int×List UInt8}(hj:ws[j]? =some p):(Co ws)[j*65]? =some (.int .i64 p.1):=by
 have h:=(G9 h64 hj).2;have:=congrArg (λl=>l[0]?) h;simpa[qW]using this
theorem Ra{ws:List (Int×List UInt8)}(h64:∀p∈ws,p.2.length=64){j:Nat}{p:Int×List UInt8}(hj:ws[j]? =some p):j*65+1+64<=(Co ws).length∧((Co ws).drop (j*65+1)).take 64=p.2.map bv:=by
 obtain⟨h1,h2⟩:=G9 h64 hj;refine⟨by omega,?_⟩;have:=congrArg (List.drop 1) h2;rw[List.drop_take,List.drop_drop]at this;simpa[qW]using this
theorem O7{T:List Nat}{w0 w:World}{A B C X:aG}(h:Inv T w0 w [X,A,B,C]):Inv T w0 w [A,B,X]:=by
 have h2:=h.sub (m':=[X,A,B]) (.cons_cons _ (.cons_cons _ (.cons_cons _ (.cons _ .slnil))));refine h2.turn (λhs y hy=>hs y (by simp at hy|-;rcases hy with h|h|h<;>simp[h])) ?_;simp only[bY];have e:owned []=[]:=rfl;rw[e,List.append_nil,List.append_nil,<-List.append_assoc];exact List.perm_append_comm
theorem Ug{T:List Nat}{w0 w:World}{m:List aG}(d mr:Nat){a:Option Addr}{c n:Nat}{ar dn:Bool}{lf:Int}{S:Int->List UInt8}{X:aG}(at_:Int)(bs:List UInt8)(h64:bs.length=64)
  (hI:Inv T w0 w (X::blk d 137 [.map (some mr),.slice a n c,.bool ar,.int .i64 lf,.bool dn]::Ay mr S::m)):
  Calls prog 88 #[.pointer (some ⟨d,0,none⟩),.int .i64 at_,tZ bs] w λe w'=>e=.returned (.tuple #[])∧Inv T w0 w' (X::blk d 137 [.map (some mr),.slice a n c,.bool ar,.int .i64 lf,.bool dn]::Ay mr (tX S at_ bs)::m):=by
 exact W38
theorem Zc{T:List Nat}{w0 w:World}{m:List aG}(d mr:Nat){a:Option Addr}{c n:Nat}{ar dn:Bool}{lf:Int}{S:Int->List UInt8}{X Y:aG}(at_:Int)(bs:List UInt8)(h64:bs.length=64)
  (hI:Inv T w0 w (X::Y::blk d 137 [.map (some mr),.slice a n c,.bool ar,.int .i64 lf,.bool dn]::Ay mr S::m)):
  Calls prog 88 #[.pointer (some ⟨d,0,none⟩),.int .i64 at_,tZ bs] w λe w'=>e=.returned (.tuple #[])∧Inv T w0 w' (X::Y::blk d 137 [.map (some mr),.slice a n c,.bool ar,.int .i64 lf,.bool dn]::Ay mr (tX S at_ bs)::m):=by
 exact W38
section
variable (w0:World)(d mr:Nat)(wb:Option Nat)(D:DS)(hI:Inv (eF d mr wb D).own w0 w0 [eF d mr wb D])(hD:wQ D)(hwl:D.waits.length<=200000)
include hI hD hwl
theorem p_:Calls prog 96 #[.pointer (some ⟨d,0,none⟩)] w0 λe w'=>∃kS,e=.returned (.int .i64 (di D).2)∧Inv (eF d mr wb D).own w0 w' [eF d mr kS (di D).1]:=by
 obtain⟨a,c,h1,hI⟩:=sK hI;obtain⟨S,ws,ar,lf,dn⟩:=D;simp only at hI h1 hwl;have hw64:∀p∈ws,p.2.length=64:=hD.UW;clear hD;cases dn
 ·rw[show di ⟨S,ws,ar,lf,false⟩=(⟨pE S ws,[],ar,lf,false⟩,0)from rfl]
  go_enter func96,ntmps96;go_upto_region 4 with(refine YL ?_)
  go_loopg [4,14] ws.length (λkk s4 s14 wr=>∃(j:Nat),kk=ws.length-j∧j<=ws.length∧s14=.int .i64 j∧Inv (eF d mr wb ⟨S,ws,ar,lf,false⟩).own w0 wr [blk d 137 [.map (some mr),.slice a ws.length c,.bool ar,.int .i64 lf,.bool false],Ay mr (pE S (ws.take j)),bf 171 65 (.slice a ws.length c) ws.length (Co ws)])
  case atStart=>exact⟨0,by omega,by omega,rfl,hI⟩
  case round=>
   clear hI;obtain⟨j,rfl,hj,rfl,hI⟩:=hrel;by_cases hlj:j<ws.length
   ·obtain⟨p,hp⟩:∃p,ws[j]? =some p:=⟨ws[j],List.getElem?_eq_getElem hlj⟩
    obtain⟨MC,ME⟩:=G9 hw64 hp;have h64:=hw64 p (List.mem_of_getElem? hp);have hnx:Hid (pE S (ws.take (j+1))=tX (pE S (ws.take j)) p.1 p.2):=HD (by rw[List.take_add_one,hp];simp[pE]);obtain⟨g,rfl⟩:∃g,a=some ⟨g,0,none⟩:=gu hI aX OM;clear hp;go_wp2_with(first|with_reducible refine fU hI RF aX (bG.out (t:=171)) MC ME ?_|go_at_call 88;refine KE (Ug d mr _ _ h64 hI) ?_;intro w1 hI|refine YL ?_|(with_reducible refine QU hI ?_;intro bx w hI)|with_reducible refine abZ hI (k:=?_)|(with_reducible refine Fp hI (k:=?_);intro w hI));go_roundg (ws.length- (j+1))
    case measure=>omega
    case rel=>exact⟨j+1,by omega,by omega,by go_num,by rw[hnx.out];exact hI.sub SB⟩
   ·obtain rfl:j=ws.length:=by omega
    rw[List.take_length]at hI;go_wp2_with(refine YT ?_;intro w hI;(try simp only[QS]at hI));go_ret;refine⟨none,rfl,iX (a:=none) (c:=0) (n:=0) (ws:=[]) rfl rfl ?_⟩;have h2:Inv _ w0 w (bf 171 65 (.slice none 0 0) 0 (Co [])::_):=hI.Av 171 65;exact O7 h2
 ·rw[show di ⟨S,ws,ar,lf,true⟩=(⟨S,ws,ar,lf,true⟩,4)from rfl]
  go_enter func96,ntmps96;go_wp2_with(refine YL ?_);go_ret;exact⟨wb,rfl,iX h1 rfl hI⟩
end
def sM(ws:List (Int×List UInt8))(at_:Int):Nat->Option (List UInt8)
 |0=>none
 |k+1=>match ws[k]? with
  |some p=>if p.1=at_ then some p.2 else sM ws at_ k
  |none=>sM ws at_ k
def eP(D:DS)(at_:Int):List UInt8:=(sM D.waits at_ D.waits.length).getD (D.sure at_)
theorem CU{ws:List (Int×List UInt8)}(h64:∀p∈ws,p.2.length=64)(at_:Int):∀(k:Nat) (bs:List UInt8),sM ws at_ k=some bs->bs.length=64
 |0,_,h=>by cases h
 |k+1,bs,h=>by
  unfold sM at h
  split at h
  ·rename_i p hp
   split at h
   ·cases h;exact h64 p (List.mem_of_getElem? hp)
   ·exact CU h64 at_ k bs h
  ·exact CU h64 at_ k bs h
theorem kH{D:DS}(hD:wQ D)(at_:Int):(eP D at_).length=64:=by
 unfold eP;cases h:sM D.waits at_ D.waits.length with
 |none=>exact hD.UX at_
 |some bs=>exact CU hD.UW at_ _ bs h
section
variable (w0:World)(d mr:Nat)(wb:Option Nat)(D:DS)(hI:Inv (eF d mr wb D).own w0 w0 [eF d mr wb D])(hD:wQ D)(hwl:D.waits.length<=200000)
include hI hD hwl
theorem j6(at_:Int):Calls prog 98 #[.pointer (some ⟨d,0,none⟩),.int .i64 at_] w0 λe w'=>e=.returned (tZ (eP D at_))∧Inv (eF d mr wb D).own w0 w' [eF d mr wb D]:=by
 have EP:=kH hD at_;obtain⟨a,c,h1,hI⟩:=sK hI;obtain⟨S,ws,ar,lf,dn⟩:=D;obtain⟨R,hR⟩:=EH (eP ⟨S,ws,ar,lf,dn⟩ at_);rw[hR.out]at EP|-;simp only at hI h1 hwl;have hw64:∀p∈ws,p.2.length=64:=hD.UW;have oF:=hD.UX at_;simp only at oF;clear hD;go_enter func98,ntmps98;go_upto_region 2 with(first|refine YL ?_|(with_reducible refine Uf hI ?_;intro bx w hI))
 go_loopg [5] ws.length (λkk s5 wr=>∃(k:Nat),k=kk∧k<=ws.length∧s5=.int .i64 ((k:Int) -1)∧Hid (sM ws at_ ws.length=sM ws at_ k)∧Inv (eF d mr wb ⟨S,ws,ar,lf,dn⟩).own w0 wr [blk bx 169 ((jR 64).map bv),blk d 137 [.map (some mr),.slice a ws.length c,.bool ar,.int .i64 lf,.bool dn],Ay mr S,bf 171 65 (.slice a ws.length c) ws.length (Co ws)])
 case atStart=>exact⟨ws.length,rfl,by omega,by rfl,HD rfl,hI⟩
 case round=>
  clear hI;obtain⟨k,rfl,hk,rfl,hf,hI⟩:=hrel;rcases k with _|j
  ·have hRR:Hid (R=S at_):=HD (by rw[<-hR.out,eP];simp only;rw[hf.out];rfl)
   go_wp2_with(first|refine YL ?_|with_reducible refine af0 hI (k:=?_)|(with_reducible refine Fq hI (k:=?_);intro w hI));exact bodyPost_ret (MZ hI rfl rfl aA oF) rfl ⟨by rw[hRR.out],iX h1 rfl (hI.tl)⟩
  ·obtain⟨p,hp⟩:∃p,ws[j]? =some p:=⟨ws[j],List.getElem?_eq_getElem OM⟩
   have af3:=Zo hw64 hp;obtain⟨ahU,ahV⟩:=Ra hw64 hp;have h64:=hw64 p (List.mem_of_getElem? hp);have hnx:=HD (show sM ws at_ (j+1)=if p.1=at_ then some p.2 else sM ws at_ j by rw[sM,hp]);obtain⟨g,rfl⟩:∃g,a=some ⟨g,0,none⟩:=gu hI mU OM;have hjj:((j+1:Nat):Int) -1=(j:Int):=by omega
   rw[hjj];clear hp hjj;by_cases hpe:p.1=at_
   ·have hRR:Hid (R=p.2):=HD (by rw[<-hR.out,eP];simp only;rw[hf.out,hnx.out,if_pos hpe];rfl)
    have hd:(p.1==at_)=true:=by simpa using hpe
    clear hpe;go_wp2_with(first|with_reducible refine aJ hI RF mU (aO.out (t:=3)) af3 ?_|with_reducible refine fU (vs:=p.2.map bv) hI RF mU (bG.out (t:=169)) ahU ahV ?_|refine YL ?_|(with_reducible refine Fq hI (k:=?_);intro w hI));exact bodyPost_ret (MZ hI rfl rfl aA h64) rfl ⟨by rw[hRR.out],iX h1 rfl (hI.tl)⟩
   ·rw[if_neg hpe]at hnx
    have hd:(p.1==at_)=false:=by simpa using hpe
    clear hpe;go_wp2_with(first|with_reducible refine aJ hI RF mU (aO.out (t:=3)) af3 ?_|refine YL ?_);go_roundg j
    case measure=>omega
    case rel=>exact⟨j,rfl,by omega,rfl,HD (hf.out.trans hnx.out),hI⟩
end
theorem FY:uY prog 63 5 1 1 (.int .u8 0):=⟨by kernel_rfl,by kernel_rfl,by kernel_rfl,by decide⟩
theorem PN:uY prog 74 3 1 8 (.int .i64 0):=⟨by kernel_rfl,by kernel_rfl,by kernel_rfl,by decide⟩
section
variable {P:Program}{ops:Array Oper}{Q:Exit->Act->World->Prop}{a:Act}{rest:List Oper}{T:List Nat}{w0 w:World}{m m':List aG}{dst:Option Tmp}{ty:TypeId}{pos:String}{af:Array Edge}
theorem Dx{x:Operand}{t g off j:Nat}{xs:List Value}{u:Value}(hI:Inv T w0 w m)(hx:a.eval x=.pointer (some ⟨g,off+j,none⟩))(hm:Rd w (some ⟨g,off,none⟩) xs)(hT:jg P t)(hc:xs[j]? =some u)
  (k:wpList P ops Q rest (a.put dst u) w):wpList P ops Q (⟨dst,.load t x,ty,pos,af,none⟩::rest) a w:=by
 refine au (v:=u) ?_ k;obtain⟨g',o',he,hcell⟩:=hm j u hc;exact W66
end
def rU(n:Nat):List UInt8:=if h:n<128 then [UInt8.ofNat n]else UInt8.ofNat (n%128+128)::rU (n/128)
termination_by n
decreasing_by omega
theorem yZ{n:Nat}(h:n<128):rU n=[UInt8.ofNat n]:=by rw[rU,dif_pos h]
theorem zY{n:Nat}(h:128<=n):rU n=UInt8.ofNat (n%128+128)::rU (n/128):=by rw[rU,dif_neg OM]
theorem J9:∀(k n:Nat),n<2^ (7*(k+1))->(rU n).length<=k+1
 |0,n,h=>by rw[yZ (by simpa using h)];simp
 |k+1,n,h=>by
  by_cases h1:n<128
  ·rw[yZ h1];simp
  ·rw[zY OM]
   have e:(2:Nat) ^ (7*(k+1+1))=128*2^ (7*(k+1)):=by rw[Nat.mul_add 7 (k+1),Nat.pow_add,Nat.mul_comm]
   have:=J9 k (n/128) (by rw[e]at h;exact Nat.div_lt_of_lt_mul h);simp;omega
theorem Jm(n:Nat):0< (rU n).length:=by
 by_cases h1:n<128
 ·rw[yZ h1];simp
 ·rw[zY OM];simp
def sH(zs:List Nat):List UInt8:=zs.flatMap rU
def u64(z:Int):Nat:=(z%18446744073709551616).toNat
theorem VI(z:Int):u64 z<18446744073709551616:=by unfold u64;omega
theorem VJ(z:Int):IntKind.u64.wrap z=((u64 z:Nat):Int):=by
 have h:IntKind.u64.wrap z=z%18446744073709551616:=by simp[IntKind.wrap,IntKind.bits,IntKind.signed]
 rw[h];unfold u64;omega
def ag(zs:List Int):List UInt8:=sH (zs.map u64)
theorem aT(zs:List Int):(ag zs).length<=10*zs.length:=by
 induction zs with
 |nil=>simp[ag,sH]
 |cons z zs ih=>
  have h1:=J9 9 (u64 z) (by have:=VI z;have e:(2:Nat) ^ (7*(9+1))=1180591620717411303424:=(by decide);omega);simp only[ag,sH,List.map_cons,List.flatMap_cons,List.length_append,List.length_cons]at ih|-;omega
theorem Dy{zs:List Int}{j:Nat}{z:Int}(h:zs[j]? =some z):ag (zs.take (j+1))=ag (zs.take j)++rU (u64 z):=by
 rw[List.take_add_one,h];simp[ag,sH]
theorem agp(r:Nat):bits .or .u8 ((r:Int) %256) 128=((r%128+128:Nat):Int):=by
 have key:∀n:Fin 256,bits .or .u8 ((n.val:Nat):Int) 128=((n.val%128+128:Nat):Int):=by decide+kernel
 have:=key ⟨r%256,Nat.mod_lt _ DC⟩;simp only at this;rw[show(r:Int) %256=((r%256:Nat):Int) by simp,this];congr 1;omega
theorem ab9{k:Nat}(h:k<256):Value.int .u8 (k:Int)=bv (UInt8.ofNat k):=by
 simp[bv,Nat.mod_eq_of_lt h]
theorem VK{T:List Nat}(w0:World)(pw:Nat)(y:aG)(ai:Option Addr)(ci:Nat)(zs:List Int)(a:Option Addr)(c:Nat)(bs:List UInt8)(hy:∀w,y.sat w->Rd w ai (zs.map (Value.int .i64)))(hl:bs.length+10*zs.length<=1000000000)
  (hI:Inv T w0 w0 [blk pw 249 [.slice a bs.length c],bf 5 1 (.slice a bs.length c) bs.length (bs.map bv),y]):
  Calls prog 171 #[.pointer (some ⟨pw,0,none⟩),.slice ai zs.length ci] w0 λe w'=>∃a' c',e=.returned (.pointer (some ⟨pw,0,none⟩))∧
   Inv T w0 w' [blk pw 249 [.slice a' (bs++ag zs).length c'],bf 5 1 (.slice a' (bs++ag zs).length c') (bs++ag zs).length ((bs++ag zs).map bv),y]:=by
 have hzl:zs.length<=1000000000:=by omega
 go_enter func171,ntmps171;go_upto_region 2 with fail
 go_loopg [6,7,10] zs.length (λkk s6 s7 i wr=>∃(j:Nat) (a':Option Addr) (c':Nat) (cur:List UInt8),kk=zs.length-j∧j<=zs.length∧i=.int .i64 j∧Hid (cur=bs++ag (zs.take j))∧Inv T w0 wr [blk pw 249 [.slice a' cur.length c'],bf 5 1 (.slice a' cur.length c') cur.length (cur.map bv),y])
 case atStart=>exact⟨0,a,c,bs,by omega,by omega,rfl,HD (by simp[ag,sH]),hI⟩
 case round=>
  clear hI;obtain⟨j,a1,c1,cur,rfl,hj,rfl,hc,hI⟩:=hrel;by_cases hlj:j<zs.length
  ·obtain⟨g,off,rfl⟩:∃g off,ai=some ⟨g,off,none⟩:=by
    obtain⟨g,off,ha,_⟩:=hy _ (hI.sat _ aX) 0 _ (List.getElem?_eq_getElem (by simp;omega));exact⟨g,off,ha⟩
   obtain⟨z,hzz⟩:∃z,zs[j]? =some z:=⟨zs[j],List.getElem?_eq_getElem hlj⟩;have hzj:(zs.map (Value.int .i64))[j]? =some (Value.int .i64 z):=by simp[hzz]
   have hu:=HD (VI z);have htot:Hid ((bs++ag (zs.take (j+1))).length<=1000000000):=HD (by
    have:=aT (zs.take (j+1));simp only[List.length_append,List.length_take]at this|-;omega)
   have hnext:=HD (Dy hzz);clear hzz;go_upto_region 5 with(with_reducible refine Dx hI RF (hy _ (hI.sat _ aX)) nS hzj ?_)
   go_loopg [7] (u64 z) (λkk s7 wr=>∃(r:Nat) (a':Option Addr) (c':Nat) (cur:List UInt8),r=kk∧s7=.int .u64 r∧r<=u64 z∧Hid (cur++rU r=bs++ag (zs.take (j+1)))∧Inv T w0 wr [blk pw 249 [.slice a' cur.length c'],bf 5 1 (.slice a' cur.length c') cur.length (cur.map bv),y])
   case atStart=>exact⟨u64 z,a1,c1,cur,rfl,by rw[VJ],by omega,HD (by rw[hc.out,hnext.out,List.append_assoc]),hI⟩
   case round=>
    clear hI hc hzj;obtain⟨r,a2,c2,cur,rfl,rfl,hrz,hc,hI⟩:=hrel;have EP:r<18446744073709551616:=by have:=hu.out;omega
    have hpos:=Jm r;have hcl:cur.length+1<=1000000000:=by
     have h1:=htot.out;rw[<-hc.out,List.length_append]at h1;omega
    have hor:=HD (agp r);clear hpos;by_cases h128:128<=r
    ·have hd:decide ((128:Int)<=(r:Int))=true:=by simp;omega
     have hc2:Hid ((cur++[UInt8.ofNat (r%128+128)])++rU (r/128)=bs++ag (zs.take (j+1))):=HD (by rw[<-hc.out,zY h128];simp);clear hc;go_wp2_with(first|with_reducible refine aS hI RF aA q8 RF ?_|(with_reducible refine jX (v0:=.int .u8 (bits .or .u8 ((r:Int) %256) 128)) hI FY RF RF ?_;intro _ w hI)|(with_reducible refine az (q:=1) hI RF RF FY (by intro r';exact aR.there (aR.there aR.here)) (hI.rd aA) RF (by simp[Value.oneCell']) MX OM ?_;intro a' c' w hI)|(with_reducible refine aN (vs:=[.slice a' (cur.length+1) c']) hI RF RF iR q8.size RF SI (by simp[Value.oneCell']) ?_;intro w hI));rw[hor.out,ab9 OM]at hI;go_roundg (r/128)
     case measure=>omega
     case rel=>
      refine⟨r/128,a',c',cur++[UInt8.ofNat (r%128+128)],rfl,by rfl,by omega,hc2,?_⟩;have e:(cur++[UInt8.ofNat (r%128+128)]).length=cur.length+1:=by simp
      rw[e,List.map_append];exact hI.tl
    ·have hd:decide ((128:Int)<=(r:Int))=false:=by simp;omega
     have hc2:Hid (cur++[UInt8.ofNat r]=bs++ag (zs.take (j+1))):=HD (by rw[<-hc.out,yZ OM]);clear hc;go_wp2_with(first|with_reducible refine aS hI RF aA q8 RF ?_|(with_reducible refine jX (v0:=.int .u8 (r:Int)) hI FY RF RF ?_;intro _ w hI)|(with_reducible refine az (q:=1) hI RF RF FY (by intro r';exact aR.there (aR.there aR.here)) (hI.rd aA) RF (by simp[Value.oneCell']) MX OM ?_;intro a' c' w hI)|(with_reducible refine aN (vs:=[.slice a' (cur.length+1) c']) hI RF RF iR q8.size RF SI (by simp[Value.oneCell']) ?_;intro w hI));rw[ab9 OM]at hI;go_roundg (zs.length- (j+1))
     case measure=>omega
     case rel=>
      refine⟨j+1,a',c',cur++[UInt8.ofNat r],rfl,by omega,by go_num,hc2,?_⟩;have e:(cur++[UInt8.ofNat r]).length=cur.length+1:=by simp
      rw[e,List.map_append];exact hI.tl
  ·obtain rfl:j=zs.length:=by omega
   have hce:cur=bs++ag zs:=by rw[hc.out,List.take_length]
   subst hce;clear hc;go_wp2_with fail;go_ret;exact⟨a1,c1,rfl,hI⟩
def lJ(pw:Nat)(ob:Option Nat)(bs:List UInt8):aG:=
 ⟨pw::ob.toList,λw=>∃a c,Value.ownBlock (.slice a bs.length c)=ob∧(blk pw 249 [.slice a bs.length c]).sat w∧(bf 5 1 (.slice a bs.length c) bs.length (bs.map bv)).sat w,λw w' h hs=>by
  obtain⟨a,c,h1,h2,h3⟩:=hs;exact⟨a,c,h1,(blk pw 249 [.slice a bs.length c]).loc w w' (λk hk=>h k (by simp[blk]at hk;simp[hk])) h2,
   (bf 5 1 (.slice a bs.length c) bs.length (bs.map bv)).loc w w' (λk hk=>h k (by
    have:k∈(Value.ownBlock (.slice a bs.length c)).toList:=hk;rw[h1]at this;exact List.mem_cons_of_mem _ this)) h3⟩⟩
theorem RO{T:List Nat}{w0 w:World}{pw:Nat}{bs:List UInt8}{a:Option Addr}{c:Nat}{m:List aG}(h:Inv T w0 w (blk pw 249 [.slice a bs.length c]::bf 5 1 (.slice a bs.length c) bs.length (bs.map bv)::m)):
  Inv T w0 w (lJ pw (Value.ownBlock (.slice a bs.length c)) bs::m):=by
 refine h.turn (λhs y hy=>?_) (by simp[owned,blk,bf,lJ]);rcases List.mem_cons.1 hy with rfl|hy
 ·exact⟨a,c,rfl,hs _ SI,hs _ SI⟩
 ·exact hs _ (by simp[hy])
theorem J_{T:List Nat}{w0 w:World}{pw:Nat}{ob:Option Nat}{bs:List UInt8}{m:List aG}(h:Inv T w0 w (lJ pw ob bs::m)):
  ∃a c,Inv T w0 w (blk pw 249 [.slice a bs.length c]::bf 5 1 (.slice a bs.length c) bs.length (bs.map bv)::m):=by
 obtain⟨a,c,h1,h2,h3⟩:=h.sat (lJ pw ob bs) SI;refine⟨a,c,h.turn (λhs y hy=>?_) (by simp[owned,blk,bf,lJ,h1])⟩;simp only[List.mem_cons]at hy;rcases hy with rfl|rfl|hy
 ·exact h2
 ·exact h3
 ·exact hs _ (by simp[hy])
theorem ja{w:World}{e:TypeId}{size n n' c:Nat}{a:Option Addr}{xs:List Value}(h:(bf e size (.slice a n' c) n xs).sat w):Rd w a xs:=Cg h
theorem Inv.tow{T:List Nat}{w0 w:World}{y x:aG}{pw:Nat}{ob:Option Nat}{bs:List UInt8}{m:List aG}(h:Inv T w0 w (y::x::lJ pw ob bs::m)):
  Inv T w0 w (two (lJ pw ob bs) y::x::m):=by
 refine h.turn (λhs z hz=>?_) ?_
 ·simp only[List.mem_cons]at hz
  rcases hz with rfl|rfl|hz
  ·exact⟨hs (lJ pw ob bs) SI,hs y SI⟩
  ·exact hs _ SI
  ·exact hs _ (by simp[hz])
 ·simp only[bY]
  have e2:(two (lJ pw ob bs) y).own=(lJ pw ob bs).own++y.own:=rfl;rw[e2];generalize(lJ pw ob bs).own=A;generalize x.own=B;generalize y.own=Y;generalize owned m=C;have p1:((A++Y)++(B++C)).Perm (Y++A++(B++C)):=List.Perm.append_right _ List.perm_append_comm;refine p1.trans ?_;rw[List.append_assoc];refine List.Perm.append_left _ ?_;exact W54
theorem ko(w0:World)(pw:Nat)(ob:Option Nat)(y:aG)(ai:Option Addr)(ci:Nat)(zs:List Int)(bs:List UInt8)(q:Nat)(hy:∀w,y.sat w->Rd w ai (zs.map (Value.int .i64)))(hq:zs.length=q)(hl:bs.length+10*zs.length<=1000000000)
  (hI:Inv (two (lJ pw ob bs) y).own w0 w0 [two (lJ pw ob bs) y]):
  Calls prog 171 #[.pointer (some ⟨pw,0,none⟩),.slice ai q ci] w0 λe w'=>∃uP,e=.returned (.pointer (some ⟨pw,0,none⟩))∧
   Inv (two (lJ pw ob bs) y).own w0 w' [two (lJ pw uP (bs++ag zs)) y]:=by
 subst hq;obtain⟨a,c,hI⟩:=J_ hI.dz;refine(VK w0 pw y ai ci zs a c bs hy hl hI).mono ?_;rintro e w' ⟨a',c',rfl,hJ⟩;exact⟨_,rfl,(RO hJ).dO⟩
section
variable {P:Program}{ops:Array Oper}{Q:Exit->Act->World->Prop}{a:Act}{rest:List Oper}{T:List Nat}{w0 w:World}{m:List aG}{dst:Option Tmp}{ty:TypeId}{pos:String}{af:Array Edge}
theorem Dz{t e bytes:Nat}{x0 x1 x2:Operand}{v0 v1 v2:Int}(hI:Inv T w0 w m)(hT:uY P t e 1 bytes (.int .i64 0))(h0:a.eval x0=.int .i64 v0)(h1:a.eval x1=.int .i64 v1)(h2:a.eval x2=.int .i64 v2)
  (k:∀b w',Inv T w0 w' (bf e 1 (.slice (some ⟨b,0,none⟩) 3 3) 3 [.int .i64 v0,.int .i64 v1,.int .i64 v2]::m)->wpList P ops Q rest (a.put dst (.slice (some ⟨b,0,none⟩) 3 3)) w'):
  wpList P ops Q (⟨dst,.buildSlice t 3 #[(0,x0),(1,x1),(2,x2)],ty,pos,af,none⟩::rest) a w:=
 gJ hI hT DC DC (by simp[Instr.fill,h0,h1,h2,Value.cells,show Array.range 3=#[0,1,2]from by decide]) (by rfl) k
end
theorem Ka(w0:World)(pw:Nat)(ob:Option Nat)(ns:List Int)(bs:List UInt8)(hn:ns.length=2)(hl:bs.length+10*ns.length<=1000000000)
  (hI:Inv (lJ pw ob bs).own w0 w0 [lJ pw ob bs]):
  Calls prog 173 #[.pointer (some ⟨pw,0,none⟩),ia ns] w0 λe w'=>∃uP,e=.returned (.pointer (some ⟨pw,0,none⟩))∧
   Inv (lJ pw ob bs).own w0 w' [lJ pw uP (bs++ag ns)]:=by
 have hnl:ns.length=2:=hn;have Nw:=hn;have hrow:Hid ([Value.int .i64 (gi ns 0),Value.int .i64 (gi ns 1)]=ns.map (Value.int .i64)):=HD (by
  match ns,hn with
  | [x,y],_=>rfl)
 go_enter func173,ntmps173;go_wp2_with(first|(with_reducible refine qh hI PN RF RF ?_;intro b2 w hI;replace hI:=Inv.tow hI)|go_at_call 171;(with_reducible refine(ko _ pw _ _ _ _ ns bs _ (by intro w h;rw[<-hrow.out];exact ja h) Nw hl (hI.at_ aA)).mono ?_);rintro e w1 ⟨uP,rfl,hJ⟩;replace hI:=(hI.on hJ aR.here).dz;clear hJ|refine YL ?_|refine YX ?_;intro bx w hI);go_ret;exact⟨uP,rfl,hI.sub SB⟩
theorem Kb(w0:World)(pw:Nat)(ob:Option Nat)(ns:List Int)(bs:List UInt8)(hn:ns.length=3)(hl:bs.length+10*ns.length<=1000000000)
  (hI:Inv (lJ pw ob bs).own w0 w0 [lJ pw ob bs]):
  Calls prog 174 #[.pointer (some ⟨pw,0,none⟩),ia ns] w0 λe w'=>∃uP,e=.returned (.pointer (some ⟨pw,0,none⟩))∧
   Inv (lJ pw ob bs).own w0 w' [lJ pw uP (bs++ag ns)]:=by
 have hnl:ns.length=3:=hn;have Nw:=hn;have hrow:Hid ([Value.int .i64 (gi ns 0),Value.int .i64 (gi ns 1),Value.int .i64 (gi ns 2)]=ns.map (Value.int .i64)):=HD (by
  match ns,hn with
  | [x,y,z],_=>rfl)
 go_enter func174,ntmps174;go_wp2_with(first|(with_reducible refine Dz hI PN RF RF RF ?_;intro b2 w hI;replace hI:=Inv.tow hI)|go_at_call 171;(with_reducible refine(ko _ pw _ _ _ _ ns bs _ (by intro w h;rw[<-hrow.out];exact ja h) Nw hl (hI.at_ aA)).mono ?_);rintro e w1 ⟨uP,rfl,hJ⟩;replace hI:=(hI.on hJ aR.here).dz;clear hJ|refine YL ?_|refine YX ?_;intro bx w hI);go_ret;exact⟨uP,rfl,hI.sub SB⟩
theorem VL{w:World}{b off:Nat}{e:TypeId}{zs:List Int}{ks:List Int}(hk:ks=zs.drop off)(hl:off+ks.length<=zs.length)(h:(ib b e zs).sat w):Rd w (some ⟨b,off,none⟩) (ks.map (Value.int .i64)):=by
 intro j u hj;refine⟨b,off,rfl,?_⟩;have h1:w.heap[b]? =some (.cells (zs.map (Value.int .i64)).toArray e (0,0)):=h;rw[hk]at hj;simp only[List.map_drop,List.getElem?_drop]at hj;simp[World.cell?,h1,hj]
theorem Inv.agq{T:List Nat}{w0 w:World}{W y x:aG}{m:List aG}(h:Inv T w0 w (W::x::y::m)):Inv T w0 w (two W y::x::m):=by
 refine h.turn (λhs z hz=>?_) ?_
 ·simp only[List.mem_cons]at hz
  rcases hz with rfl|rfl|hz
  ·exact⟨hs W SI,hs y SI⟩
  ·exact hs _ SI
  ·exact hs _ (by simp[hz])
 ·simp only[bY]
  have e2:(two W y).own=W.own++y.own:=rfl;rw[e2,List.append_assoc];refine List.Perm.append_left _ ?_;exact W54
theorem FZ(w0:World)(pw:Nat)(ob:Option Nat)(ns:List Int)(bs:List UInt8)(hn:ns.length=7)(hl:bs.length+10*ns.length<=1000000000)
  (hI:Inv (lJ pw ob bs).own w0 w0 [lJ pw ob bs]):
  Calls prog 188 #[.pointer (some ⟨pw,0,none⟩),ia ns] w0 λe w'=>∃uP,e=.returned (.tuple #[])∧
   Inv (lJ pw ob bs).own w0 w' [lJ pw uP (bs++ag ns)]:=by
 have hnl:ns.length=7:=hn;obtain⟨ms,hms⟩:=EZ (ns.take 2);obtain⟨ks,hks⟩:=EZ (ns.drop 2);have hm2:ms.length=2:=by rw[hms];simp;omega
 have hk5:ks.length=5:=by rw[hks];simp;omega
 have hl1:bs.length+10*ms.length<=1000000000:=by omega
 have hl2:(bs++ag ms).length+10*ks.length<=1000000000:=by
  have:=aT ms;rw[List.length_append];omega
 have Nw:2+ks.length<=ns.length:=by omega
 have hrow2:Hid (ks=ns.drop 2):=HD hks;have hall:Hid ((bs++ag ms)++ag ks=bs++ag ns):=HD (by rw[hms,hks,List.append_assoc];congr 1;unfold ag sH;rw[<-List.flatMap_append,<-List.map_append,List.take_append_drop]);have hrow:Hid ([Value.int .i64 (gi ns 0),Value.int .i64 (gi ns 1)]=ms.map (Value.int .i64)):=HD (by
  rw[hms]
  match ns,hn with
  |x::y::rest,_=>rfl)
 clear hms hks;go_enter func188,ntmps188;go_upto_region 1 with(refine YX ?_;intro bx w hI)
 refine qU (λw=>Inv (lJ pw ob bs).own w0 w [ib bx 37 ns]) mixed ?_;replace hI:=hI.drew;change qf _ _ _ _ _ _ _ _ (World.drew _);revert hI;generalize World.drew _=w9;intro hI
 (refine bU (i:=0) (v:=?_) rfl KF KF KF (λc a w hp=>hp) ⟨by rfl,?_⟩ ?_;rotate_left;focus(intro w _;go_simp;with_reducible rfl))
 (simp only[Act.put,List.setIfInBounds_toArray,QG,QS])
 (refine bU (i:=1) (v:=?_) rfl KF KF KF (λc a w hp=>hp) ⟨by rfl,?_⟩ ?_;rotate_left;focus(intro w _;go_simp;with_reducible rfl))
 (simp only[Act.put,List.setIfInBounds_toArray,QG,QS])
 (refine bU (i:=2) (v:=.int .i64 (gi ns 0)) rfl KF KF KF (λc a w hp=>hp) ⟨by rfl,λw hC=>kG hC RF aA nS OM (by rfl)⟩ ?_)
 (simp only[Act.put,List.setIfInBounds_toArray,QG,QS])
 (refine bU (i:=3) (v:=?_) rfl KF KF KF (λc a w hp=>hp) ⟨by rfl,?_⟩ ?_;rotate_left;focus(intro w _;go_simp;with_reducible rfl))
 (simp only[Act.put,List.setIfInBounds_toArray,QG,QS])
 (refine bU (i:=4) (v:=.int .i64 (gi ns 1)) rfl KF KF KF (λc a w hp=>hp) ⟨by rfl,λw hC=>kG hC RF aA nS OM (by rfl)⟩ ?_)
 (simp only[Act.put,List.setIfInBounds_toArray,QG,QS])
 (refine bU (i:=7) (v:=?_) rfl KF KF KF (λc a w hp=>hp) ⟨by rfl,?_⟩ ?_;rotate_left;focus(intro w _;go_simp;with_reducible rfl))
 (simp only[Act.put,List.setIfInBounds_toArray,QG,QS])
 (refine bU (i:=8) (v:=?_) rfl KF KF KF (λc a w hp=>hp) ⟨by rfl,?_⟩ ?_;rotate_left;focus(intro w _;go_simp;with_reducible rfl))
 (simp only[Act.put,List.setIfInBounds_toArray,QG,QS])
 refine iA (i:=5) KF (hI.sub SB) ?_;refine ed (i:=5) (by rfl) RF ?_;go_wp2_with((with_reducible refine qh hI PN RF RF ?_;intro b2 w hI;replace hI:=Inv.tow hI));refine fB ?_
 (try(simp only[Act.put,List.setIfInBounds_toArray,QG,QS]))
 refine iA (i:=6) KF (hI.sub SB) ?_;refine ed (i:=6) (by rfl) RF ?_;go_wp2_with(go_at_call 171;(with_reducible refine(ko _ pw _ _ _ _ ms bs _ (by intro w h;rw[<-hrow.out];exact ja h) hm2 hl1 (hI.at_ aA)).mono ?_);rintro e w1 ⟨uP,rfl,hJ⟩;replace hI:=(hI.on hJ aR.here).dz;clear hJ);refine fB ?_
 (try(simp only[Act.put,List.setIfInBounds_toArray,QG,QS]))
 refine iA (i:=9) KF (hI.sub SB) ?_;refine ed (i:=9) (by rfl) RF ?_;replace hI:=Inv.agq hI;go_wp2_with(go_at_call 171;(with_reducible refine(ko _ pw _ _ _ _ ks (bs++ag ms) _ (by intro w h;exact VL hrow2.out Nw h) hk5 hl2 (hI.at_ aA)).mono ?_);rintro e w1 ⟨uP,rfl,hJ⟩;replace hI:=(hI.on hJ aR.here).dz;clear hJ);refine fB ?_
 (try(simp only[Act.put,List.setIfInBounds_toArray,QG,QS]))
 rw[hall.out]at hI;refine vT KF (hI.sub SB) ?_ _;have hres:∀(tm:Array Value) (w:World),(results f188 tm).run prog w=.ok (.tuple #[]) w:=λtm w=>by
  have h0:f188.results=#[]:=by kernel_rfl
  unfold results;rw[h0];simp[Sem.run_bind,Sem.run_pure,Result.andThen_ok]
 exact(show bodyPost prog f188 _ Exit.normal _ _ from⟨rfl,_,hres _ _,uP,rfl,hI.sub SB⟩)
theorem RP(w0:World)(pw:Nat)(ob:Option Nat)(ns:List Int)(bs:List UInt8)(hn:ns.length=7)(hl:bs.length+10*ns.length<=1000000000)
  (hI:Inv (lJ pw ob bs).own w0 w0 [lJ pw ob bs]):
  Calls prog 175 #[.pointer (some ⟨pw,0,none⟩),ia ns] w0 λe w'=>∃uP,e=.returned (.pointer (some ⟨pw,0,none⟩))∧
   Inv (lJ pw ob bs).own w0 w' [lJ pw uP (bs++ag ns)]:=by
 have hnl:ns.length=7:=hn;obtain⟨ms,hms⟩:=EZ (ns.take 2);obtain⟨ks,hks⟩:=EZ (ns.drop 2);have hm2:ms.length=2:=by rw[hms];simp;omega
 have hk5:ks.length=5:=by rw[hks];simp;omega
 have hl1:bs.length+10*ms.length<=1000000000:=by omega
 have hl2:(bs++ag ms).length+10*ks.length<=1000000000:=by
  have:=aT ms;rw[List.length_append];omega
 have Nw:2+ks.length<=ns.length:=by omega
 have hrow2:Hid (ks=ns.drop 2):=HD hks;have hall:Hid ((bs++ag ms)++ag ks=bs++ag ns):=HD (by rw[hms,hks,List.append_assoc];congr 1;unfold ag sH;rw[<-List.flatMap_append,<-List.map_append,List.take_append_drop]);have hrow:Hid ([Value.int .i64 (gi ns 0),Value.int .i64 (gi ns 1)]=ms.map (Value.int .i64)):=HD (by
  rw[hms]
  match ns,hn with
  |x::y::rest,_=>rfl)
 clear hms hks;go_enter func175,ntmps175;go_upto_region 1 with(refine YX ?_;intro bx w hI)
 refine qU (λw=>Inv (lJ pw ob bs).own w0 w [ib bx 30 ns]) mixed ?_;replace hI:=hI.drew;change qf _ _ _ _ _ _ _ _ (World.drew _);revert hI;generalize World.drew _=w9;intro hI
 (refine bU (i:=0) (v:=?_) rfl KF KF KF (λc a w hp=>hp) ⟨by rfl,?_⟩ ?_;rotate_left;focus(intro w _;go_simp;with_reducible rfl))
 (simp only[Act.put,List.setIfInBounds_toArray,QG,QS])
 (refine bU (i:=1) (v:=?_) rfl KF KF KF (λc a w hp=>hp) ⟨by rfl,?_⟩ ?_;rotate_left;focus(intro w _;go_simp;with_reducible rfl))
 (simp only[Act.put,List.setIfInBounds_toArray,QG,QS])
 (refine bU (i:=2) (v:=.int .i64 (gi ns 0)) rfl KF KF KF (λc a w hp=>hp) ⟨by rfl,λw hC=>kG hC RF aA nS OM (by rfl)⟩ ?_)
 (simp only[Act.put,List.setIfInBounds_toArray,QG,QS])
 (refine bU (i:=3) (v:=?_) rfl KF KF KF (λc a w hp=>hp) ⟨by rfl,?_⟩ ?_;rotate_left;focus(intro w _;go_simp;with_reducible rfl))
 (simp only[Act.put,List.setIfInBounds_toArray,QG,QS])
 (refine bU (i:=4) (v:=.int .i64 (gi ns 1)) rfl KF KF KF (λc a w hp=>hp) ⟨by rfl,λw hC=>kG hC RF aA nS OM (by rfl)⟩ ?_)
 (simp only[Act.put,List.setIfInBounds_toArray,QG,QS])
 (refine bU (i:=7) (v:=?_) rfl KF KF KF (λc a w hp=>hp) ⟨by rfl,?_⟩ ?_;rotate_left;focus(intro w _;go_simp;with_reducible rfl))
 (simp only[Act.put,List.setIfInBounds_toArray,QG,QS])
 (refine bU (i:=8) (v:=?_) rfl KF KF KF (λc a w hp=>hp) ⟨by rfl,?_⟩ ?_;rotate_left;focus(intro w _;go_simp;with_reducible rfl))
 (simp only[Act.put,List.setIfInBounds_toArray,QG,QS])
 refine iA (i:=5) KF (hI.sub SB) ?_;refine ed (i:=5) (by rfl) RF ?_;go_wp2_with((with_reducible refine qh hI PN RF RF ?_;intro b2 w hI;replace hI:=Inv.tow hI));refine fB ?_
 (try(simp only[Act.put,List.setIfInBounds_toArray,QG,QS]))
 refine iA (i:=6) KF (hI.sub SB) ?_;refine ed (i:=6) (by rfl) RF ?_;go_wp2_with(go_at_call 171;(with_reducible refine(ko _ pw _ _ _ _ ms bs _ (by intro w h;rw[<-hrow.out];exact ja h) hm2 hl1 (hI.at_ aA)).mono ?_);rintro e w1 ⟨uP,rfl,hJ⟩;replace hI:=(hI.on hJ aR.here).dz;clear hJ);refine fB ?_
 (try(simp only[Act.put,List.setIfInBounds_toArray,QG,QS]))
 refine iA (i:=9) KF (hI.sub SB) ?_;refine ed (i:=9) (by rfl) RF ?_;replace hI:=Inv.agq hI;go_wp2_with(go_at_call 171;(with_reducible refine(ko _ pw _ _ _ _ ks (bs++ag ms) _ (by intro w h;exact VL hrow2.out Nw h) hk5 hl2 (hI.at_ aA)).mono ?_);rintro e w1 ⟨uP,rfl,hJ⟩;replace hI:=(hI.on hJ aR.here).dz;clear hJ);refine fB ?_
 (try(simp only[Act.put,List.setIfInBounds_toArray,QG,QS]))
 rw[hall.out]at hI;refine iA (i:=10) KF (hI.sub SB) ?_;refine ed (i:=10) (by rfl) RF ?_
 go_wp2
 refine fB ?_
 (try(simp only[Act.put,List.setIfInBounds_toArray,QG,QS]))
 refine vT KF (hI.sub SB) ?_ _
 go_wp2
 go_ret;exact⟨uP,rfl,hI.sub SB⟩
theorem Ny{T:List Nat}{w0 w:World}{pw:Nat}{bs:List UInt8}{a:Option Addr}{c:Nat}{x:aG}{m:List aG}(h:Inv T w0 w (x::blk pw 249 [.slice a bs.length c]::bf 5 1 (.slice a bs.length c) bs.length (bs.map bv)::m)):
  Inv T w0 w (x::lJ pw (Value.ownBlock (.slice a bs.length c)) bs::m):=by
 refine h.turn (λhs y hy=>?_) (by simp[owned,blk,bf,lJ]);simp only[List.mem_cons]at hy;rcases hy with rfl|rfl|hy
 ·exact hs _ SI
 ·exact⟨a,c,rfl,hs _ SI,hs _ SI⟩
 ·exact hs _ (by simp[hy])
theorem Cr(w0:World)(pw:Nat)(ob:Option Nat)(bs:List UInt8)(hl:bs.length<=1000000000)
  (hI:Inv (lJ pw ob bs).own w0 w0 [lJ pw ob bs]):
  Calls prog 176 #[.pointer (some ⟨pw,0,none⟩)] w0 λe w'=>∃a c uP,e=.returned (.slice a bs.length c)∧
   Inv (lJ pw ob bs).own w0 w' [bf 5 1 (.slice a bs.length c) bs.length (bs.map bv),lJ pw uP bs]:=by
 obtain⟨a,c,hI⟩:=J_ hI;go_enter func176,ntmps176;go_wp2_with(first|(with_reducible refine nk hI FY ?_;intro bx w hI)|with_reducible refine aS hI RF aM q8 RF ?_|(with_reducible refine az (q:=bs.length) hI RF RF FY (by intro r';exact aR.here) (hI.rd aX) SI (xH _) MX OM ?_;intro a1 c1 w hI;simp only[Nat.zero_add,List.nil_append]at hI;simp only[Nat.zero_add]));go_ret;exact⟨a1,c1,Value.ownBlock (.slice a bs.length c),rfl,Ny hI⟩
theorem yU{k:Nat}(h:k<256):(UInt8.ofNat k).toNat=k:=by simp[Nat.mod_eq_of_lt h]
theorem cK(w0:World)(pr:Nat)(ab:Option Nat)(bs:List UInt8)(lim:Nat)(x v:Int){k:Nat}{cs:List UInt8}(hs:(d_ pr ab bs).sat w0)(hn:(d_ pr ab bs).own.Nodup)(hk:jV lim bs=some (k,cs))(hx:x=(lim:Int))(hv:(k:Int)=v):
  Calls prog 136 #[.pointer (some ⟨pr,0,none⟩),.int .i64 x] w0 λe w'=>e=.returned (.int .i64 v)∧Inv (d_ pr ab bs).own w0 w' [d_ pr ab cs]:=by
 subst hv;exact dK w0 pr ab bs lim x hs hn hk hx
theorem vI{bs cs:List UInt8}{x:List Nat}(h:jw bs=some (x,cs)):EO bs=some (ia (nn x),cs):=by rw[EO,h];rfl
theorem Cu{bs:List UInt8}(h:jw bs=none):EO bs=none:=by rw[EO,h];rfl
theorem iF{ls:List Nat}{bs cs:List UInt8}{x:List Nat}(h:bF ls bs=some (x,cs)):ve ls bs=some (ia (nn x),cs):=by rw[ve,h];rfl
theorem lM{ls:List Nat}{bs:List UInt8}(h:bF ls bs=none):ve ls bs=none:=by rw[ve,h];rfl
theorem rX{lim:Nat}{bs cs:List UInt8}{k:Nat}(h:jV lim bs=some (k,cs)):k<lim:=by
 unfold jV at h;rcases hn1:fT bs with _| ⟨k1,cs1⟩
 ·rw[hn1]at h;cases h
 ·rw[hn1]at h;simp only[Option.bind_some]at h
  split at h
  ·rename_i hlt;simp only[Option.some.injEq,Prod.mk.injEq]at h;obtain⟨rfl,rfl⟩:=h;exact hlt
  ·cases h
theorem Ih{bs cs:List UInt8}{k:Nat}(h:fT bs=some (k,cs)):k<9223372036854775808:=by
 rw[<-tY]at h;exact rX h
theorem y_{ls:List Nat}(hl:∀l∈ls,l<=9223372036854775808):∀ {bs cs:List UInt8} {ns:List Nat},bF ls bs=some (ns,cs)->∀n∈ns,n<9223372036854775808:=by
 induction ls with
 |nil=>intro bs cs ns h;obtain⟨rfl,_⟩:=Bv h;simp
 |cons l ls ih=>
  intro bs cs ns h;obtain⟨k,c,ks,h1,h2,rfl⟩:=ql h;intro n hn;rcases List.mem_cons.1 hn with rfl|hn
  ·have:=rX h1;have:=hl l SI;omega
  ·exact ih (λl' hl'=>hl l' (by simp[hl'])) h2 n hn
theorem NF{ns:List Nat}(h:∀n∈ns,n<9223372036854775808):∀i,-9223372036854775808<gi (nn ns) i∧gi (nn ns) i<=9223372036854775807:=λi=>by
 unfold gi nn;rcases Nat.lt_or_ge i ns.length with hi|hi
 ·rw[List.getD_eq_getElem?_getD,List.getElem?_map,List.getElem?_eq_getElem hi]
  have:=h ns[i] (List.getElem_mem _);simp only[Option.map_some,Option.getD_some];omega
 ·rw[List.getD_eq_getElem?_getD,List.getElem?_eq_none (by simpa using hi)]
  simp
theorem wy:∀ {n:Nat} {bs cs:List UInt8} {gs ks:List Nat},lQ n bs=some ((gs,ks),cs)->gs.length=n∧ks.length=28*n
 |0,bs,cs,gs,ks,h=>by
  simp only[lQ,Option.some.injEq,Prod.mk.injEq]at h;obtain⟨⟨rfl,rfl⟩,_⟩:=h;simp
 |n+1,bs,cs,gs,ks,h=>by
  simp only[lQ]at h;rcases h1:fT bs with _| ⟨g,c⟩
  ·rw[h1]at h;cases h
  ·rw[h1]at h;simp only[Option.bind_some]at h
   by_cases hg:0<g
   ·simp only[hg,if_true]at h
    rcases h2:wO 28 c with _| ⟨x,d⟩
    ·rw[h2]at h;cases h
    ·rw[h2]at h;simp only[Option.bind_some]at h
     rcases h3:lQ n d with _| ⟨⟨gs',ks'⟩,e⟩
     ·rw[h3]at h;cases h
     ·rw[h3]at h;simp only[Option.map_some,Option.some.injEq,Prod.mk.injEq]at h
      obtain⟨⟨rfl,rfl⟩,rfl⟩:=h;have:=wy h3;have hx:x.length=28:=by have:=dN h2;simpa using this
      simp[this.1,this.2,hx];omega
   ·simp only[hg,if_false,Option.bind_some]at h
    rcases h3:lQ n c with _| ⟨⟨gs',ks'⟩,e⟩
    ·rw[h3]at h;cases h
    ·rw[h3]at h;simp only[Option.map_some,Option.some.injEq,Prod.mk.injEq]at h
     obtain⟨⟨rfl,rfl⟩,rfl⟩:=h;have:=wy h3;simp[this.1,this.2];omega
theorem mZ{bs cs:List UInt8}{x:List Nat}(h:jw bs=some (x,cs)):x.length=174:=by
 unfold jw at h;rcases h1:fT bs with _| ⟨k,c⟩
 ·rw[h1]at h;cases h
 ·rw[h1]at h;simp only[Option.bind_some]at h
  rcases h2:wO 28 c with _| ⟨y,d⟩
  ·rw[h2]at h;cases h
  ·rw[h2]at h;simp only[Option.bind_some]at h
   rcases h3:lQ 5 d with _| ⟨⟨gs,ks⟩,e⟩
   ·rw[h3]at h;cases h
   ·rw[h3]at h;simp only[Option.map_some,Option.some.injEq,Prod.mk.injEq]at h
    obtain⟨rfl,_⟩:=h;have:=wy h3;have hy:y.length=28:=by have:=dN h2;simpa using this
    simp[this.1,this.2,hy]
