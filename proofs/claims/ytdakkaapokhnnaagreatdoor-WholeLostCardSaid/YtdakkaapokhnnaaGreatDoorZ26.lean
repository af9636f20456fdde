/- Contracts of functions. No condition. -/
import Derived.Test.YtdakkaapokhnnaaGreatDoorZ23
import Derived.Test.YtdakkaapokhnnaaGreatDoorZ24
namespace Go.Proofs.YtdakkaapokhnnaaGreatDoor
open Go.RowKit Go.Proofs.Tryz
set_option maxRecDepth 100000
set_option maxHeartbeats 6400000
set_option linter.all false
section
open A (QE jJ bu)
theorem NT:(prog.info? 32).map (·.size)=some 1:=by kernel_rfl
def k_(C:CS)(i:Nat):CS×Int:=if C.up i=true then(C,5)else match jq (C.S i).D C.B with
 | (none,D',e)=>(pV C i D',e)
 | (some S,_,_)=>(BC C i S,0)
section
variable (w0:World)(f d mr:Nat)(wb:Option Nat)(D:DS)(B:Nat->List (List UInt8))(hD:wQ D)(hwl:D.waits.length<=50000)(hE:yQ (eP D))(hI:Inv (eF d mr wb D).own w0 w0 [eF d mr wb D])
include hI hD hwl hE
theorem Gn(bs:List (List UInt8))(cnt used:Nat)(D':DS)(er:Int)(h:dZ D=(some (bs,cnt,used),D',er))(hr:fM (si D' cnt used B) bs=none):
  Calls prog 37 #[.int .i64 (f:Int),.pointer (some ⟨d,0,none⟩)] w0 λe w'=>∃kS,e=.returned (.tuple #[.pointer none,.int .i64 1])∧Inv (eF d mr wb D).own w0 w' [eF d mr kS D']:=by
 refine(Gl w0 f d mr wb D B hD hwl hE hI bs cnt used D' er h).mono ?_;rintro e w' ⟨kS,⟨_,rfl,hJ⟩ | ⟨b,l,S,h2,_⟩⟩
 ·exact⟨kS,rfl,hJ⟩
 ·rw[hr]at h2;cases h2
theorem Ef(bs:List (List UInt8))(cnt used:Nat)(D':DS)(er:Int)(h:dZ D=(some (bs,cnt,used),D',er))(S:RS)(hr:fM (si D' cnt used B) bs=some S)(hS:S.D=D'∧S.cnt=cnt∧S.used=used):
  Calls prog 37 #[.int .i64 (f:Int),.pointer (some ⟨d,0,none⟩)] w0 λe w'=>∃kS b l,e=.returned (.tuple #[.pointer (some ⟨b,0,none⟩),.int .i64 0])∧Inv (eF d mr wb D).own w0 w' [two (rb f b l 0 none 0 S) (lI True),eF d mr kS S.D,blk l 185 (lcs d S.cnt S.used)]:=by
 refine(Gl w0 f d mr wb D B hD hwl hE hI bs cnt used D' er h).mono ?_;rintro e w' ⟨kS,⟨h2,rfl,hJ⟩ | ⟨b,l,S',h2,rfl,hJ⟩⟩
 ·rw[hr]at h2;cases h2
 ·rw[hr]at h2;cases h2
  obtain⟨rfl,rfl,rfl⟩:=hS;exact⟨kS,b,l,rfl,hJ⟩
end
section
variable (w0:World)(X:CX)(Y:CY)(C:CS)(i:Nat)(hi:i<5)(hI:Inv (bg X Y C).own w0 w0 [bg X Y C])
include hi hI
theorem WE(hE:C.up i=false->yQ (eP (C.S i).D)):
  Calls prog 45 #[.pointer (some ⟨X.cb,0,none⟩),.int .i64 (i:Int)] w0 λe w'=>∃Y',e=.returned (.int .i64 (k_ C i).2)∧Inv (bg X Y C).own w0 w' [bg X Y' (k_ C i).1]:=by
 obtain⟨ub,hu0⟩:=EQ (C.up i);have hcd:(a_ X Y C)[1+i]? =some (.pointer (some ⟨X.d i,0,none⟩)):=x_ _ _ _ _ hi;cases ub
 ·have hcm:(a_ X Y C)[6+i]? =some (.pointer none):=by rw[<-D_ (Y:=Y) hu0];exact rO _ _ _ _ hi
  have hend:=HD (hE hu0);have hok:=(Ea hi hI aA).1;have Sv:=aaN hok hend.out;obtain⟨⟨on,D',er⟩,ho0⟩:=EQ (dZ (C.S i).D);rw[ho0]at Sv;have hok2:=Sv.1;have hF:Hid (k_ C i=match jq (C.S i).D C.B with| (none,D',e)=>(pV C i D',e) | (some S,_,_)=>(BC C i S,0)):=HD (by rw[k_,if_neg (by simp[hu0])]);cases on with
  |none=>
   have her:=Gg (D:=(C.S i).D) (by rw[ho0]);rw[ho0]at her;have hq:(er==0)=false:=by simpa using her
   have hF2:Hid (k_ C i=(pV C i D',er)):=HD (by rw[hF.out,jq,ho0]);have ho:=HD ho0;have hu:=HD hu0;clear hF ho0 hu0 her Sv hE;go_enter func45,ntmps45;go_wp2_with(first|with_reducible refine au (dV hI RF aA aO.out hcm) ?_|with_reducible refine au (dV hI RF aA aO.out hcd) ?_|go_at_call 37;(with_reducible refine(KM _ i (X.d i) (X.mr i) _ _ hok.ok (by have:=hok.w;omega) hend.out (Im hi hu.out hI aA) _ _ ho.out).mono ?_);rintro e w1 ⟨Gj,rfl,hJ⟩;replace hI:=NP hi hu.out hI jy hJ hok2;clear hJ);go_ret;rw[hF2.out];exact⟨_,rfl,hI⟩
  |some p=>
   obtain⟨bs,cnt,used⟩:=p;have aex:=Sv.2 bs cnt used rfl;obtain⟨ra,NU⟩:=EQ (fM (si D' cnt used C.B) bs);cases ra with
   |none=>
    have hF2:Hid (k_ C i=(pV C i D',1)):=HD (by rw[hF.out,jq,ho0];dsimp only;rw[NU]);have ho:=HD ho0;have hu:=HD hu0;have hra:=HD NU;clear hF ho0 hu0 Sv hE NU aex;go_enter func45,ntmps45;go_wp2_with(first|with_reducible refine au (dV hI RF aA aO.out hcm) ?_|with_reducible refine au (dV hI RF aA aO.out hcd) ?_|go_at_call 37;(with_reducible refine(Gn _ i (X.d i) (X.mr i) _ _ C.B hok.ok (by have:=hok.w;omega) hend.out (Im hi hu.out hI aA) _ _ _ _ _ ho.out hra.out).mono ?_);rintro e w1 ⟨Gj,rfl,hJ⟩;replace hI:=NP hi hu.out hI jy hJ hok2;clear hJ);go_ret;rw[hF2.out];exact⟨_,rfl,hI⟩
   |some S=>
    have hF2:Hid (k_ C i=(BC C i S,0)):=HD (by rw[hF.out,jq,ho0];dsimp only;rw[NU]);obtain⟨k1,k2,k3,k4,k5⟩:=pW _ _ _ NU;have hSD:Hid (S.D=D'∧S.cnt=cnt∧S.used=used):=HD ⟨k1,k2,k3⟩;have ZF:Hid (S.aV=[]):=HD k4;have hlk:AP S.D S.cnt S.used:=by rw[k1,k2,k3];exact aex
    have ho:=HD ho0;have hu:=HD hu0;have hra:=HD NU;clear hF ho0 hu0 Sv hE NU aex k1 k2 k3 k4 k5 hok2;go_enter func45,ntmps45;go_wp2_with(first|with_reducible refine au (dV hI RF aA aO.out hcm) ?_|with_reducible refine au (dV hI RF aA aO.out hcd) ?_|go_at_call 37;(with_reducible refine(Ef _ i (X.d i) (X.mr i) _ _ C.B hok.ok (by have:=hok.w;omega) hend.out (Im hi hu.out hI aA) _ _ _ _ _ ho.out _ hra.out hSD.out).mono ?_);rintro e w1 ⟨Gj,b,l,rfl,hJ⟩;replace hI:=aew hi hu.out ZF.out hlk hI hJ;clear hJ|(refine aN (b:=X.cb) (off:=6+i) (e:=86) (cs:=a_ X Y C) (vs:=[.pointer (some ⟨b,0,none⟩)]) (n:=1) (m':=[blk X.cb 86 (splice (a_ X Y C) (6+i) [.pointer (some ⟨b,0,none⟩)]),bX X (EW Y i b l Gj) (BC C i S) i,fQ ((List.range 5).erase i) (bX X Y C),ku X Y.q C.B,fQ (List.range 5) (eQ Y C)]) hI rfl rfl jy NT rfl (by show 6+i+1<=16;omega) (by intro u hu;rw[List.mem_singleton.1 hu];rfl) ?_);intro w hI;rw[Su X Y C hi b l Gj S]at hI);go_ret;rw[hF2.out];exact⟨_,rfl,aaO hi hI⟩
 ·have hcm:(a_ X Y C)[6+i]? =some (.pointer (some ⟨(Y.m i).b,0,none⟩)):=by rw[<-qi (Y:=Y) hu0];exact rO _ _ _ _ hi
  have hF:Hid (k_ C i=(C,5)):=HD (by rw[k_,if_pos hu0]);clear hE hu0;go_enter func45,ntmps45;go_wp2_with(with_reducible refine au (dV hI RF aA aO.out hcm) ?_);go_ret;rw[hF.out];exact⟨Y,rfl,hI⟩
end
end
def wT(D:DS):Nat->List (Int×List UInt8)
 |0=>[]
 |p+1=>if D.sure (p:Int)=jR 64 then wT D p else wT D p++[((p:Int),D.sure (p:Int))]
theorem Er(D:DS):∀p,(wT D p).length<=p
 |0=>Nat.le_refl _
 |p+1=>by
  have:=Er D p;unfold wT;split
  ·omega
  ·rw[List.length_append];simp;omega
def Og(D:DS)(p:Nat):DS:=⟨λ_=>jR 64,wT D p,false,0,false⟩
def qH(D:DS):DS:=⟨λk=>if 0<=k∧k<2048 then D.sure k else jR 64,[],false,0,false⟩
def qI(D:DS)(B:Nat->List (List UInt8)):Option RS:=(jq (qH D) B).1
theorem Iy{D:DS}(h:∀k,(D.sure k).length=64):∀p,∀q∈wT D p,q.2.length=64
 |0,q,hq=>by cases hq
 |p+1,q,hq=>by
  unfold wT at hq
  split at hq
  ·exact Iy h p q hq
  ·rcases List.mem_append.1 hq with hq|hq
   ·exact Iy h p q hq
   ·rw[List.mem_singleton.1 hq];exact h _
theorem Oh{D:DS}(h:∀k,(D.sure k).length=64)(p:Nat):wQ (Og D p):=⟨Iy h p,λ_=>kC 64,by show(0:Int)<=0∧(0:Int) <_;omega⟩
theorem Es(D:DS):∀p,pE (λ_=>jR 64) (wT D p)=λk=>if 0<=k∧k< (p:Int)then D.sure k else jR 64
 |0=>by funext k;rw[if_neg OM];rfl
 |p+1=>by
  have ih:=Es D p;unfold wT;by_cases h:D.sure (p:Int)=jR 64
  ·rw[if_pos h,ih]
   funext k;show(if 0<=k∧k< (p:Int)then D.sure k else jR 64)=(if 0<=k∧k< ((p+1:Nat):Int)then D.sure k else jR 64);by_cases hk:k=(p:Int)
   ·subst hk;rw[if_neg OM,if_pos OM,h]
   ·by_cases h2:0<=k∧k< (p:Int)
    ·rw[if_pos h2,if_pos OM]
    ·rw[if_neg h2,if_neg OM]
  ·rw[if_neg h]
   have e:pE (λ_=>jR 64) (wT D p++[((p:Int),D.sure (p:Int))])=tX (pE (λ_=>jR 64) (wT D p)) (p:Int) (D.sure (p:Int)):=by
    unfold pE;rw[List.foldl_append];rfl
   rw[e,ih];funext k;unfold tX;by_cases hk:k=(p:Int)
   ·subst hk;rw[if_pos rfl,if_pos OM]
   ·rw[if_neg hk]
    show(if 0<=k∧k< (p:Int)then D.sure k else jR 64)=(if 0<=k∧k< ((p+1:Nat):Int)then D.sure k else jR 64);by_cases h2:0<=k∧k< (p:Int)
    ·rw[if_pos h2,if_pos OM]
    ·rw[if_neg h2,if_neg OM]
theorem Gx(D:DS):(di (Og D 2048)).1=qH D:=by
 unfold di Og;rw[if_neg SI];show(⟨pE (λ_=>jR 64) (wT D 2048),[],false,0,false⟩:DS)=_;rw[Es];rfl
theorem Oi{D:DS}(h:∀k,(D.sure k).length=64){p:Nat}(hp:p<2048)(hz:D.sure (p:Int)≠jR 64):(bK (Og D p) (p:Int) (D.sure (p:Int))).1=Og D (p+1):=by
 have hl:=h (p:Int);unfold bK;rw[if_neg OM,if_neg (by show ¬(false=true∨(false=true∧_));simp)];have e:pad (D.sure (p:Int))=D.sure (p:Int):=by unfold pad;rw[hl];simp[jR]
 unfold Og;simp only[e,Bool.false_eq_true,if_false];rw[wT,if_neg hz]
theorem Gy{D:DS}(h:∀k,(D.sure k).length=64):wQ (qH D):=⟨λq hq=>(by cases hq),λk=>by show(if 0<=k∧k<2048 then D.sure k else jR 64).length=64;split;exact h k;exact kC 64,by show(0:Int)<=0∧(0:Int) <_;omega⟩
theorem Aj(D:DS):Hi (qH D):=⟨λq hq=>(by cases hq),λk hk=>by show(if 0<=k∧k<2048 then D.sure k else jR 64)=_;rw[if_neg OM]⟩
theorem aeJ{w:World}{b e:Nat}{s:List UInt8}(h:(blk b e (s.map bv)).sat w):Rd w (some ⟨b,0,none⟩) (s.map bv):=C9 (Inv.take h) aA
def Et(b:Nat):Option RS->Value
 |none=> .pointer none
 |some _=> .pointer (some ⟨b,0,none⟩)
def aaY(i b l:Nat):Option RS->aG
 |none=>ru
 |some S=>two (rb i b l 0 none 0 S) (lI True)
section
variable {ops:Array Oper}{Q:Exit->Act->World->Prop}{a:Act}{rest:List Oper}{w:World}{dst:Option Tmp}{ty:TypeId}{pos:String}{af:Array Edge}
theorem acu{x y:Operand}{t':Nat}{xs ys:List UInt8}{v:Bool}(hv:decide (xs=ys)=v)(hx:a.eval x=tZ xs:=by exact RF)(hy:a.eval y=tZ ys:=by exact RF)(h1:xs.length=64)(h2:ys.length=64)
  (k:wpList prog ops Q rest (a.put dst (.bool (!v))) w):wpList prog ops Q (⟨dst,.binOp .neq 169 x y t',ty,pos,af,none⟩::rest) a w:=by
 subst hv;refine au (v:=.bool (!decide (xs=ys))) ?_ k;have hb:(Op.equalIn 10000 169 (tZ xs) (tZ ys)).run prog w=.ok (decide (xs=ys)) w:=Db 9999 DC xs ys w h1 h2;unfold fP execOp;unfold tZ at hx hy hb;simp only[hx,hy,Sem.run_bind,run_eqGuard_agg w .neq 169 x y _ _ JF,Result.andThen_ok,run_neq_struct,hb];rfl
end
theorem Oj{D:DS}{B:Nat->List (List UInt8)}:(jq D B).1.isNone= !decide ((jq D B).2.2=0):=by
 unfold jq;have h:(dZ D).1=none->(dZ D).2.2≠0:=by
  unfold dZ;dsimp only
  split
  ·split
   ·intro h;cases h
   ·rename_i h;intro _;exact h
  ·rename_i h;intro _;exact h
 cases e:dZ D with
 |mk o q=>
  obtain⟨D',er⟩:=q;rw[e]at h;cases o with
  |none=>have:=h rfl;simp only at this;simp[this]
  |some t=>
   obtain⟨bs,cnt,used⟩:=t;dsimp only;have:∀o:Option RS,(match o with|none=>((none:Option RS),D',(1:Int)) |some S=>(some S,D',0)).1.isNone= !decide ((match o with|none=>((none:Option RS),D',(1:Int)) |some S=>(some S,D',0)).2.2=0):=λo=>by cases o<;>simp
   exact this _
theorem Inv.aeK{T:List Nat}{w0 w:World}{m:List aG}(h:Inv T w0 w m):Inv T w0 w (ru::m):=
 h.turn (λhs y hy=>by
  rcases List.mem_cons.1 hy with rfl|hy
  ·trivial
  ·exact hs y hy) (by simp[owned,ru])
theorem Qd(w0:World)(f d mr:Nat)(wb:Option Nat)(D:DS)(B:Nat->List (List UInt8))(hD:wQ D)(hwl:D.waits.length<=50000)(hE:yQ (eP D))(hI:Inv (eF d mr wb D).own w0 w0 [eF d mr wb D]):
  Calls prog 37 #[.int .i64 (f:Int),.pointer (some ⟨d,0,none⟩)] w0 λe w'=>∃b l,e=.returned (.tuple #[Et b (jq D B).1,.int .i64 (jq D B).2.2])∧Inv (eF d mr wb D).own w0 w' [aaY f b l (jq D B).1]:=by
 unfold jq;cases e:dZ D with
 |mk o q=>
  obtain⟨D',er⟩:=q;cases o with
  |none=>exact(KM w0 f d mr wb D hD hwl hE hI D' er e).mono λe w' ⟨kS,h1,h2⟩=>⟨0,0,h1,(h2.sub (List.nil_sublist _)).aeK⟩
  |some t=>
   obtain⟨bs,cnt,used⟩:=t;dsimp only;cases hr:fM (si D' cnt used B) bs with
   |none=>exact(Gn w0 f d mr wb D B hD hwl hE hI bs cnt used D' er e hr).mono λe w' ⟨kS,h1,h2⟩=>⟨0,0,h1,(h2.sub (List.nil_sublist _)).aeK⟩
   |some S=>
    obtain⟨k1,k2,k3,k4,k5⟩:=pW bs _ _ hr;exact(Ef w0 f d mr wb D B hD hwl hE hI bs cnt used D' er e S hr ⟨k1,k2,k3⟩).mono λe w' ⟨kS,b,l,h1,h2⟩=>⟨b,l,h1,h2.sub (.cons_cons _ (List.nil_sublist _))⟩
section
variable (w0:World)(i d mr:Nat)(wb:Option Nat)(D:DS)(B:Nat->List (List UInt8))(oF:∀k,(D.sure k).length=64)(hI:Inv (eF d mr wb D).own w0 w0 [eF d mr wb D])
include oF hI
theorem aaZ:Calls prog 60 #[.int .i64 (i:Int),.pointer (some ⟨d,0,none⟩)] w0 λe w'=>∃b l,e=.returned (Et b (qI D B))∧Inv (eF d mr wb D).own w0 w' [aaY i b l (qI D B),eF d mr wb D]:=by
 have hE:=Oj (D:=qH D) (B:=B);unfold qI;obtain⟨o,er,ho⟩:∃o er,Hid ((jq (qH D) B).1=o∧(jq (qH D) B).2.2=er):=⟨_,_,HD ⟨rfl,rfl⟩⟩;rw[ho.out.1,ho.out.2]at hE;rw[ho.out.1];go_enter func60,ntmps60;go_wp2_with(go_at_call 36;refine KO hI (Jv _) ?_;intro d2 mr2 w1 hI)
 go_loopg [6,11] 2048 (λkk s6 s11 wr=>∃(p:Nat) (L8:Option Nat),kk=2048-p∧p<=2048∧s11=.int .i64 (p:Int)∧Inv (eF d mr wb D).own w0 wr [eF d2 mr2 L8 (Og D p),eF d mr wb D])
 case atStart=>exact⟨0,none,rfl,by omega,rfl,hI⟩
 case round=>
  clear hI;obtain⟨p,L8,rfl,hp,rfl,hI⟩:=hrel;by_cases hpe:p=2048
  ·subst hpe
   have hgl:(Og D 2048).waits.length<=200000:=by have:=Er D 2048;show(wT D 2048).length<=_;omega
   have hal:(qH D).waits.length<=50000:=by show([]:List (Int×List UInt8)).length<=_;simp
   cases o with
   |none=>
    have hde:(er==0)=false:=by simpa using hE
    clear hE;go_wp2_with(first|go_at_call 96;refine KG hI (p_ _ d2 mr2 L8 (Og D 2048) (hI.at_ aA) (Oh oF 2048) hgl) ?_;intro wb3 w1 hI;rw[Gx]at hI|go_at_call 37;(with_reducible refine(Qd _ i d2 mr2 wb3 (qH D) B (Gy oF) hal (Od (Aj D)) (hI.at_ aA)).mono ?_);(rw[ho.out.1,ho.out.2]);rintro e w1 ⟨b,l,rfl,hJ⟩;replace hI:=hI.on hJ jy;clear hJ;simp only[Et]);go_ret;exact⟨0,0,rfl,hI⟩
   |some S=>
    have he:er=0:=by simpa using hE
    subst he;clear hE;go_wp2_with(first|go_at_call 96;refine KG hI (p_ _ d2 mr2 L8 (Og D 2048) (hI.at_ aA) (Oh oF 2048) hgl) ?_;intro wb3 w1 hI;rw[Gx]at hI|go_at_call 37;(with_reducible refine(Qd _ i d2 mr2 wb3 (qH D) B (Gy oF) hal (Od (Aj D)) (hI.at_ aA)).mono ?_);(rw[ho.out.1,ho.out.2]);rintro e w1 ⟨b,l,rfl,hJ⟩;replace hI:=hI.on hJ jy;clear hJ;simp only[Et]);go_ret;exact⟨b,l,rfl,hI⟩
  ·have hpl:p<2048:=by omega
   have hd3:decide ((p:Int) <2048)=true:=by simp;omega
   by_cases hz:D.sure (p:Int)=jR 64
   ·have hg:Og D p=Og D (p+1):=by unfold Og;rw[wT,if_pos hz]
    have hdz:decide (D.sure (p:Int)=jR 64)=true:=by simpa using hz
    replace hg:=HD hg;clear hz;go_wp2_with(first|go_at_call 94;refine KC iR hI (FD _ d mr wb D (hI.at_ aM) _ (oF _)) ?_;intro w1 hI|(with_reducible refine Uf hI ?_;intro bx w hI)|(with_reducible refine Fq hI (vs:=D.sure (p:Int)) (hl2:=oF _) (k:=?_);intro w hI)|with_reducible refine Zd hI (bs:=D.sure (p:Int)) (hl:=oF _) (k:=?_)|with_reducible refine Dc ?_|with_reducible refine acu hdz (h1:=oF _) (h2:=kC 64) (k:=?_));go_roundg (2048- (p+1))
    case measure=>omega
    case rel=>exact⟨p+1,L8,rfl,by omega,rfl,by rw[<-hg.out];exact hI.tl⟩
   ·have hdz:decide (D.sure (p:Int)=jR 64)=false:=by simpa using hz
    have hgl:(Og D p).waits.length<=100000:=by have:=Er D p;show(wT D p).length<=_;omega
    have hwr:=HD (Oi oF hpl hz);clear hz;go_wp2_with(first|go_at_call 94;refine KC iR hI (FD _ d mr wb D (hI.at_ aM) _ (oF _)) ?_;intro w1 hI|(with_reducible refine Uf hI ?_;intro bx w hI)|(with_reducible refine Fq hI (vs:=D.sure (p:Int)) (hl2:=oF _) (k:=?_);intro w hI)|with_reducible refine Zd hI (bs:=D.sure (p:Int)) (hl:=oF _) (k:=?_)|with_reducible refine Dc ?_|with_reducible refine acu hdz (h1:=oF _) (h2:=kC 64) (k:=?_)|go_at_call 95;replace hI:=hI.jr.dO;(with_reducible refine(qo _ d2 mr2 L8 (Og D p) (blk bx 169 ((D.sure (p:Int)).map bv)) (hI.at_ aA) (Oh oF p) hgl _ (some ⟨bx,0,none⟩) 64 64 (D.sure (p:Int)) (oF _) (λw h=>aeJ h) OM).mono ?_);rintro e w1 ⟨wb3,rfl,hJ⟩;replace hI:=hI.on hJ jy;clear hJ;replace hI:=hI.dz;rw[hwr.out]at hI);go_roundg (2048- (p+1))
    case measure=>omega
    case rel=>exact⟨p+1,wb3,rfl,by omega,rfl,hI.sub (.cons_cons _ (.cons _ (.refl _)))⟩
end
section
open A (QE jJ bu)
def aiv:List Value:=oM (.pointer none) (λ_=> .pointer none) (λ_=> .pointer none) (λ_=> .slice none 0 0)
theorem aeL:(prog.info? 86).map (·.zero)=some (some (.agg aiv.toArray)):=by kernel_rfl
theorem agS:G7 prog 86:=⟨_,underlying86,by kernel_rfl⟩
theorem agT:Ba prog 86 0 0 1:=⟨_,underlying86,by kernel_rfl⟩
theorem aiw{ops:Array Oper}{Q:Exit->Act->World->Prop}{a:Act}{rest:List Oper}{w:World}{dst:Option Tmp}{ty:TypeId}{pos:String}{af:Array Edge}{x:Operand}{p:Nat}(h0:a.eval x=.pointer (some ⟨p,0,none⟩))
  (k:wpList prog ops Q rest (a.put dst (.agg (oM (.pointer (some ⟨p,0,none⟩)) (λ_=> .pointer none) (λ_=> .pointer none) (λ_=> .slice none 0 0)).toArray)) w):wpList prog ops Q (⟨dst,.build 86 #[(0,x)],ty,pos,af,none⟩::rest) a w:=
 ik (ps:=[(0,x)]) (n:=16) [(0,[.pointer (some ⟨p,0,none⟩)])] aeL rfl (by rfl) agS ⟨by rw[h0];rfl,agT,Nat.le_of_ble_eq_true rfl,trivial⟩ k
theorem aeM:(prog.info? 81).map (·.size)=some 1:=by kernel_rfl
def kv(p:Nat)(X:CX)(Y:CY)(k j:Nat):List Value:=oM (.pointer (some ⟨p,0,none⟩)) (λi=>if i<k then .pointer (some ⟨X.d i,0,none⟩)else .pointer none) (λi=>if i<j then .pointer (some ⟨(Y.m i).b,0,none⟩)else .pointer none) (λ_=> .slice none 0 0)
def C0:CS:=⟨λ_=>true,λ_=>si (di iH).1 0 0 (λ_=>[]),λ_=>[],λ_=>[]⟩
def uR(X:CX)(k d mr:Nat):CX:={X with d:=gL X.d k d,mr:=gL X.mr k mr}
def Bp(Y:CY)(k b l:Nat)(wb:Option Nat):CY:={Y with m:=gL Y.m k ⟨b,l,0,0,none,wb,none,0⟩}
theorem Xf(p:Nat)(X:CX)(Y:CY){k:Nat}(hk:k<5)(d mr:Nat):splice (kv p X Y k k) (1+k) [.pointer (some ⟨d,0,none⟩)]=kv p (uR X k d mr) Y (k+1) k:=by
 unfold kv;rw[Si _ _ _ _ _ hk];refine kR (λj _=>?_) (λ_ _=>rfl) (λ_ _=>rfl);by_cases h:j=k
 ·subst h
  rw[bJ,if_pos OM];simp[uR,bJ]
 ·rw[bZ _ _ h]
  by_cases h2:j<k
  ·rw[if_pos h2,if_pos OM];simp[uR,bZ _ _ h]
  ·rw[if_neg h2,if_neg OM]
theorem Xg(p:Nat)(X:CX)(Y:CY){k:Nat}(hk:k<5)(b l:Nat)(wb:Option Nat):splice (kv p X Y (k+1) k) (6+k) [.pointer (some ⟨b,0,none⟩)]=kv p X (Bp Y k b l wb) (k+1) (k+1):=by
 unfold kv;rw[Af _ _ _ _ _ hk];refine kR (λ_ _=>rfl) (λj _=>?_) (λ_ _=>rfl);by_cases h:j=k
 ·subst h
  rw[bJ,if_pos OM];simp[Bp,bJ]
 ·rw[bZ _ _ h]
  by_cases h2:j<k
  ·rw[if_pos h2,if_pos OM];simp[Bp,bZ _ _ h]
  ·rw[if_neg h2,if_neg OM]
theorem Lc(X:CX)(Y:CY){k j:Nat}(h:j≠k)(d mr b l:Nat)(wb:Option Nat):bX (uR X k d mr) (Bp Y k b l wb) C0 j=bX X Y C0 j:=by
 unfold bX I5 L_;simp only[uR,Bp,bZ _ _ h]
theorem Ld(X:CX)(Y:CY)(k d mr b l:Nat)(wb:Option Nat):bX (uR X k d mr) (Bp Y k b l wb) C0 k=two (rb k b l 0 none 0 (si (di iH).1 0 0 (λ_=>[]))) (two (mK none 0 []) (two (lI (AP (di iH).1 0 0)) (lg l d mr wb (di iH).1 0 0))):=by
 unfold bX I5;rw[if_pos (show C0.up k=true from rfl)];simp only[uR,Bp,bJ];rfl
theorem Ol(X:CX)(Y:CY)(hp:∀j,(Y.m j).pa=none∧(Y.m j).pc=0):kv X.p X Y 5 5=a_ X Y C0:=by
 unfold kv a_;refine kR (λj hj=>by rw[if_pos hj];rfl) (λj hj=>by rw[if_pos hj,vK,if_pos (show C0.up j=true from rfl)]) (λj _=>by rw[D7,(hp j).1,(hp j).2];rfl)
theorem Xh{w0 w:World}{X:CX}{Y:CY}(hp:∀j,(Y.m j).pa=none∧(Y.m j).pc=0)(h:Inv [] w0 w [blk X.cb 86 (kv X.p X Y 5 5),ku X (λ_=>[]) (λ_=>[]),fQ (List.range 5) (bX X Y C0)]):Inv [] w0 w [bg X {Y with q:=λ_=>[]} C0]:=by
 rw[Ol X Y hp]at h;refine qF ?_;have e:∀j,eQ {Y with q:=λ_=>[]} C0 j=mK none 0 []:=λj=>by
  unfold eQ;rw[show(({Y with q:=λ_=>[]}:CY).m j).pa=none from(hp j).1,show(({Y with q:=λ_=>[]}:CY).m j).pc=0 from(hp j).2];rfl
 refine h.turn (λhs r hr=>?_) ?_
 ·simp only[List.mem_cons,List.not_mem_nil,or_false]at hr
  rcases hr with rfl|rfl|rfl|rfl
  ·exact hs (fQ (List.range 5) (bX X Y C0)) SI
  ·exact hs (ku X (λ_=>[]) (λ_=>[])) SI
  ·exact hs (blk X.cb 86 (a_ X Y C0)) SI
  ·intro j _
   rw[e];exact⟨λr hr=>(by cases hr),by simp[wS],.inl ⟨rfl,rfl⟩⟩
 ·have e2:(fQ (List.range 5) (eQ {Y with q:=λ_=>[]} C0)).own=[]:=by
   show owned ((List.range 5).map (eQ {Y with q:=λ_=>[]} C0))=[];rw[List.map_congr_left (λj _=>e j)];rfl
  rw[List.perm_iff_count];intro x;simp only[owned,List.flatMap_cons,List.count_append,e2,List.count_nil,List.flatMap_nil];show List.count x (fQ (List.range 5) (bX X Y C0)).own+(List.count x (ku X (λ_=>[]) (λ_=>[])).own+(List.count x (blk X.cb 86 (a_ X Y C0)).own+(0+0)))=_;omega
theorem Om{P:Program}{T:List Nat}{w0 w:World}{m:List aG}{a:Act}{dst:Option Tmp}{x:Operand}{t ty off b:Nat}{e:TypeId}{cs:List Value}{pos:String}{af:Array Edge}{v:Value}(hI:Inv T w0 w m)(hx:a.eval x=.pointer (some ⟨b,off,none⟩))(hm:blk b e cs∈m)(hT:jg P t)(hv:cs[off]? =some v):
  fP P ⟨dst,.load t x,ty,pos,af,none⟩ a w v:=by
 unfold fP execOp;simp only[hx,Instr.loadAt,Instr.sureAddr,Sem.run_bind,Sem.run_pure,Result.andThen_ok,gI (v:=v) hT (hI.blk hm) off hv]
theorem Inv.three{T:List Nat}{w0 w:World}{a b c:aG}(h:Inv T w0 w [a,b,c]):Inv T w0 w [two a (two b c)]:=((Inv.toEnd h).dO.jr).dO
theorem aeN:iH.waits.length<=50000:=by simp[iH]
theorem aeO:fM (si (di iH).1 0 0 (λ_=>[])) []=some (si (di iH).1 0 0 (λ_=>[])):=rfl
theorem agU:(si (di iH).1 0 0 (λ_=>[])).D=(di iH).1∧(si (di iH).1 0 0 (λ_=>[])).cnt=0∧(si (di iH).1 0 0 (λ_=>[])).used=0:=⟨rfl,rfl,rfl⟩
theorem SX(p:Nat)(X:CX)(Y:CY){k:Nat}(hk:k<5)(d mr:Nat):(kv p (uR X k d mr) Y (k+1) k)[1+k]? =some (.pointer (some ⟨d,0,none⟩)):=by
 unfold kv;rw[x_ _ _ _ _ hk,if_pos OM];simp[uR,bJ]
theorem Xi:AP (di iH).1 0 0:=⟨Da Qe,Nat.le_refl _,by omega,by simp[di,iH],.inr rfl⟩
theorem Xj{w0 w:World}{X:CX}{Y:CY}{k d mr b l:Nat}{wb:Option Nat}{B:aG}(h:Inv [] w0 w [two (two (rb k b l 0 none 0 (si (di iH).1 0 0 (λ_=>[]))) (lI True)) (two (eF d mr wb (si (di iH).1 0 0 (λ_=>[])).D) (blk l 185 (lcs d (si (di iH).1 0 0 (λ_=>[])).cnt (si (di iH).1 0 0 (λ_=>[])).used))),B,ku X (λ_=>[]) (λ_=>[]),fQ (List.range k) (bX X Y C0)]):
  Inv [] w0 w [B,ku (uR X k d mr) (λ_=>[]) (λ_=>[]),fQ (List.range (k+1)) (bX (uR X k d mr) (Bp Y k b l wb) C0)]:=by
 have h1:Inv [] w0 w [bX (uR X k d mr) (Bp Y k b l wb) C0 k,B,ku (uR X k d mr) (λ_=>[]) (λ_=>[]),fQ (List.range k) (bX X Y C0)]:=by
  rw[Ld];exact h.turn (λhs r hr=>by
   obtain⟨⟨g1,_⟩,g2,g3⟩:=hs (two (two (rb k b l 0 none 0 (si (di iH).1 0 0 (λ_=>[]))) (lI True)) (two (eF d mr wb (si (di iH).1 0 0 (λ_=>[])).D) (blk l 185 (lcs d (si (di iH).1 0 0 (λ_=>[])).cnt (si (di iH).1 0 0 (λ_=>[])).used)))) SI;rcases List.mem_cons.1 hr with rfl|hr
   ·exact⟨g1,⟨λr hr=>(by cases hr),by simp[wS],.inl ⟨rfl,rfl⟩⟩,Xi,g3,g2⟩
   ·exact hs r (List.mem_cons_of_mem _ hr)) (by
   rw[List.perm_iff_count];intro x;simp only[owned,List.flatMap_cons,List.count_append,two,lI,lg,bf,Value.ownBlock,List.flatMap_nil,List.count_nil,Option.toList,uR];rw[show(si (di iH).1 0 0 (λ_=>[])).D=(di iH).1 from rfl,show(si (di iH).1 0 0 (λ_=>[])).cnt=0 from rfl,show(si (di iH).1 0 0 (λ_=>[])).used=0 from rfl];omega)
 rw[List.range_succ];exact h1.more SI rfl (λj hj=>Lc X Y (by have:=List.mem_range.1 hj;omega) d mr b l wb) (.there (.there .here))
theorem acw(w0:World):Calls prog 18 #[] w0 λe w'=>∃X Y,e=.returned (.pointer (some ⟨X.cb,0,none⟩))∧Inv [] w0 w' [bg X Y C0]:=by
 have hI:=Inv.start w0;go_enter func18,ntmps18;go_wp2_with(first|go_at_call 35;(with_reducible refine(A.Z7 _).mono ?_);rintro e w1 ⟨p,pb,c,rfl,hJ⟩;replace hI:=hI.seq hJ;simp only[List.cons_append,List.nil_append]at hI;clear hJ|with_reducible refine aiw (p:=p) RF ?_|(with_reducible refine bN (cs:=oM (.pointer (some ⟨p,0,none⟩)) (λ_=> .pointer none) (λ_=> .pointer none) (λ_=> .slice none 0 0)) hI RF ?_);intro cb w hI);have hst:Inv [] w0 w [blk cb 86 (kv p ⟨cb,p,pb,c,λ_=>0,λ_=>0⟩ ⟨λ_=>⟨0,0,0,0,none,none,none,0⟩,λ_=>[]⟩ 0 0),ku ⟨cb,p,pb,c,λ_=>0,λ_=>0⟩ (λ_=>[]) (λ_=>[]),fQ (List.range 0) (bX ⟨cb,p,pb,c,λ_=>0,λ_=>0⟩ ⟨λ_=>⟨0,0,0,0,none,none,none,0⟩,λ_=>[]⟩ C0)]:=by
  have h1:=((hI.jr).lI (p:=∀i:Nat,((λ_=>[]) i:List QE).map (λx=>x.2.2)=(λ_=>[]) i) (λ_=>rfl)).dO;exact Inv.jr ((h1.acF (bX ⟨cb,p,pb,c,λ_=>0,λ_=>0⟩ ⟨λ_=>⟨0,0,0,0,none,none,none,0⟩,λ_=>[]⟩ C0)).toEnd)
 clear hI
 go_loopg [2,6] 5 (λkk s2 s6 wr=>∃(k:Nat) (X:CX) (Y:CY),kk=5-k∧k<=5∧s6=.int .i64 (k:Int)∧Hid (X.cb=cb∧X.p=p∧∀j,(Y.m j).pa=none∧(Y.m j).pc=0)∧Inv [] w0 wr [blk cb 86 (kv p X Y k k),ku X (λ_=>[]) (λ_=>[]),fQ (List.range k) (bX X Y C0)])
 case atStart=>exact⟨0,_,_,rfl,by omega,rfl,HD ⟨rfl,rfl,λ_=>⟨rfl,rfl⟩⟩,hst⟩
 case round=>
  clear hst;obtain⟨k,X,Y,rfl,hk,rfl,hX,hI⟩:=hrel;by_cases h5:k=5
  ·subst h5
   go_wp2_with(fail);go_ret;obtain⟨e1,e2,e3⟩:=hX.out;rw[<-e1,<-e2]at hI;exact⟨X,_,by rw[e1];rfl,Xh e3 hI⟩
  ·have hk5:k<5:=by omega
   have hd:decide ((k:Int) <5)=true:=by simp;omega
   go_upto_region 5 with(fail)
   (refine ZR [2,5,6] [0,1,3,4] [2] [0,1,3,4,2,5,6] (λw=>Inv [] w0 w [blk cb 86 (kv p X Y k k),ku X (λ_=>[]) (λ_=>[]),fQ (List.range k) (bX X Y C0)]) hI ?_;intro wd hI)
   (repeat(first|refine ZS ?_|refine ZQ ?_;go_wp2_with(first|(refine aN (b:=cb) (off:=1+k) (e:=86) (cs:=kv p X Y k k) (vs:=[.pointer (some ⟨d,0,none⟩)]) (n:=1) (m':=[eF d mr none iH,blk cb 86 (splice (kv p X Y k k) (1+k) [.pointer (some ⟨d,0,none⟩)]),ku X (λ_=>[]) (λ_=>[]),fQ (List.range k) (bX X Y C0)]) hI rfl rfl (.there .here) aeM rfl (by show 1+k+1<=16;omega) (by intro u hu;rw[List.mem_singleton.1 hu];rfl) ?_);intro w hI|go_at_call 36;refine KO hI (Jv _) ?_;intro d mr w1 hI);refine ZP ?_))
   rw[Xf p X Y hk5 d mr]at hI;have hld:=SX p X Y hk5 d mr;go_upto_region 6 with(fail)
   (refine ZR [9,16] [0,1,12,13,14] [9,16] [0,1,2,3,4,5,6,7,8,13,14,9,10,11,12,15,16] (λw=>Inv [] w0 w [ku X (λ_=>[]) (λ_=>[]),fQ (List.range k) (bX X Y C0)]) hI ?_;intro wd hI)
   (repeat(first|refine ZS ?_|refine ZQ ?_;go_wp2_with(first|go_at_call 37;(with_reducible refine(Ef _ k d mr none iH (λ_=>[]) Qe aeN aiu (hI.at_ aA) [] 0 0 (di iH).1 0 agR (si (di iH).1 0 0 (λ_=>[])) aeO agU).mono ?_);rintro e w1 ⟨Gj,b,l,rfl,hJ⟩;replace hI:=hI.on (Inv.three hJ) jy;clear hJ|(refine aN (b:=cb) (off:=6+k) (e:=86) (cs:=kv p (uR X k d mr) Y (k+1) k) (vs:=[.pointer (some ⟨b,0,none⟩)]) (n:=1) (m':=[two (two (rb k b l 0 none 0 (si (di iH).1 0 0 (λ_=>[]))) (lI True)) (two (eF d mr Gj (si (di iH).1 0 0 (λ_=>[])).D) (blk l 185 (lcs d (si (di iH).1 0 0 (λ_=>[])).cnt (si (di iH).1 0 0 (λ_=>[])).used))),blk cb 86 (splice (kv p (uR X k d mr) Y (k+1) k) (6+k) [.pointer (some ⟨b,0,none⟩)]),ku X (λ_=>[]) (λ_=>[]),fQ (List.range k) (bX X Y C0)]) hI rfl rfl (.there .here) NT rfl (by show 6+k+1<=16;omega) (by intro u hu;rw[List.mem_singleton.1 hu];rfl) ?_);intro w hI|with_reducible refine au (Om (b:=cb) (off:=1+k) hI RF aM aO.out hld) ?_);refine ZP ?_))
   rw[Xg p (uR X k d mr) Y hk5 b l Gj]at hI;go_wp2_with(fail);go_roundg (5- (k+1))
   case measure=>omega
   case rel=>exact⟨k+1,uR X k d mr,Bp Y k b l Gj,rfl,by omega,rfl,HD ⟨hX.out.1,hX.out.2.1,λj=>by
    by_cases h:j=k
    ·subst h;simp[Bp,bJ]
    ·simpa[Bp,bZ _ _ h]using hX.out.2.2 j⟩,Xj hI⟩
end
theorem IA{l:List (List Int)}(h:∀r∈l,r.length=3):(wS l).length=l.length*3:=by
 induction l with
 |nil=>rfl
 |cons r l ih=>
  have h1:=h r SI;have h2:=ih (λq hq=>h q (by simp[hq]));simp only[wS,List.flatMap_cons,List.length_append,jo,List.length_cons]at h2|-;omega
theorem hone(l:List (List Int)):∀u∈wS l,u.oneCell'=true:=λu hu=>by
 simp only[wS,List.mem_flatMap,iz,List.mem_map]at hu;obtain⟨r,_,z,_,rfl⟩:=hu;rfl
theorem Inv.yn{T:List Nat}{w0 w:World}{m:List aG}(e size:Nat)(h:Inv T w0 w m):Inv T w0 w (bf e size (.slice none 0 0) 0 []::m):=
 h.turn (λhs z hz=>by
  rcases List.mem_cons.1 hz with rfl|hz
  ·exact⟨by simp,.inl ⟨rfl,rfl⟩⟩
  ·exact hs _ hz) (by simp[owned,bf,Value.ownBlock])
theorem Lj(w0:World)(f b l vb rc:Nat)(ra:Option Addr)(S:RS)(hb:w0.heap[b]? =some (.cells (aU f l vb ra rc S).toArray 98 (0,0)))(hL:dB S)(hr:Rd w0 ra (wS S.aV))(h3:∀r∈S.aV,r.length=3)(hn:S.aV.length<=1000000000):
  Calls prog 87 #[.pointer (some ⟨b,0,none⟩)] w0 λe w'=>∃a c,e=.returned (.slice a S.aV.length c)∧Inv [] w0 w' [bf 117 3 (.slice a S.aV.length c) S.aV.length (wS S.aV)]:=by
 have hrx:=HD (IA h3);obtain⟨A,B,hA,he⟩:=Dv f l vb hL;have hI:=(Inv.start w0).yn 117 3;go_enter func87,ntmps87;go_wp2_with(first|with_reducible refine au (il RF hb aO.out hA (he ra rc S.aV)) ?_|(with_reducible refine az (q:=S.aV.length) hI RF RF (tK.out (t:=83)) (by intro r';exact aR.here) hr hrx.out (hone S.aV) MX OM ?_;intro a2 c2 w hI));go_ret;simp only[Nat.zero_add,List.nil_append]at hI;exact⟨a2,c2,by simp only[Nat.zero_add];rfl,hI⟩
section
variable {T:List Nat}{w0 w:World}{m:List aG}{X:CX}{Y:CY}{C:CS}{i:Nat}
theorem Ll(hi:i<5)(hI:Inv T w0 w m)(hm:bg X Y C∈m):Rd w (Y.m i).pa (wS (C.past i)):=Cg ((hI.sat _ hm).2.2.2 i (rY hi)).2
theorem wJ(hi:i<5)(hI:Inv T w0 w m)(hm:bg X Y C∈m):∀r∈C.past i,r.length=3:=((hI.sat _ hm).2.2.2 i (rY hi)).1
theorem uu(hi:i<5)(hu:C.up i=true)(hI:Inv T w0 w m)(hm:bg X Y C∈m):w.heap[(Y.m i).b]? =some (.cells (aU i (Y.m i).l (Y.m i).vb (Y.m i).ra (Y.m i).rc (C.S i)).toArray 98 (0,0))∧dB (C.S i)∧(∀r∈(C.S i).aV,r.length=3)∧Rd w (Y.m i).ra (wS (C.S i).aV):=by
 have h:=(hI.sat _ hm).2.2.1 i (rY hi);unfold bX at h;rw[if_pos hu]at h;exact⟨h.1.2.1,h.1.1,h.2.1.1,Cg h.2.1.2⟩
end
def iO(C:CS)(i:Nat):List (List Int):=C.past i++(if C.up i=true then(C.S i).aV else [])
section
variable (w0:World)(X:CX)(Y:CY)(C:CS)(i:Nat)(hi:i<5)(hI:Inv (bg X Y C).own w0 w0 [bg X Y C])
include hi hI
theorem GH(hn1:(C.past i).length<=1000000000)(hn2:(C.S i).aV.length<=1000000000):
  Calls prog 43 #[.pointer (some ⟨X.cb,0,none⟩),.int .i64 (i:Int)] w0 λe w'=>∃a c,e=.returned (.slice a (iO C i).length c)∧Inv (bg X Y C).own w0 w' [bf 117 3 (.slice a (iO C i).length c) (iO C i).length (wS (iO C i)),bg X Y C]:=by
 have h1:decide ((0:Int)<=(i:Int))=true:=by simp
 have h2:decide ((i:Int) <5)=true:=by simp;omega
 have hpx:=HD (IA (wJ hi hI aA));have hcp:(a_ X Y C)[11+i]? =some (.slice (Y.m i).pa (C.past i).length (Y.m i).pc):=aer _ _ _ _ hi;obtain⟨ub,hu0⟩:=EQ (C.up i);cases ub
 ·have hcm:(a_ X Y C)[6+i]? =some (.pointer none):=by rw[<-D_ (Y:=Y) hu0];exact rO _ _ _ _ hi
  have hF:Hid (iO C i=C.past i):=HD (by rw[iO,hu0];simp);rw[hF.out];clear hu0;replace hI:=hI.yn 117 3;go_enter func43,ntmps43;go_wp2_with(first|go_at_call 38;refine KR (i_ _ _ i hi) ?_|with_reducible refine au (dV hI RF aM aO.out hcm) ?_|with_reducible refine au (dV hI RF aM aO.out hcp) ?_|(with_reducible refine az (n:=0) (q:=(C.past i).length) hI RF RF (tK.out (t:=83)) (by intro r';exact aR.here) (Ll hi hI aM) hpx.out (hone (C.past i)) MX OM ?_;intro a1 c1 w hI;simp only[Nat.zero_add,List.nil_append]at hI;simp only[Nat.zero_add]));go_ret;exact⟨a1,c1,rfl,hI⟩
 ·have hcm:(a_ X Y C)[6+i]? =some (.pointer (some ⟨(Y.m i).b,0,none⟩)):=by rw[<-qi (Y:=Y) hu0];exact rO _ _ _ _ hi
  have hF:Hid (iO C i=C.past i++(C.S i).aV):=HD (by rw[iO,if_pos hu0]);rw[hF.out];have hsx:=HD (IA (uu hi hu0 hI aA).2.2.1);have hu:=HD hu0;clear hu0;replace hI:=hI.yn 117 3;go_enter func43,ntmps43;go_wp2_with(first|go_at_call 38;refine KR (i_ _ _ i hi) ?_|with_reducible refine au (dV hI RF aM aO.out hcm) ?_|with_reducible refine au (dV hI RF aM aO.out hcp) ?_|(with_reducible refine az (n:=0) (q:=(C.past i).length) hI RF RF (tK.out (t:=83)) (by intro r';exact aR.here) (Ll hi hI aM) hpx.out (hone (C.past i)) MX OM ?_;intro a1 c1 w hI;simp only[Nat.zero_add,List.nil_append]at hI;simp only[Nat.zero_add])|go_at_call 87;refine KO hI (Lj _ _ _ _ _ _ _ (C.S i) (uu hi hu.out hI aM).1 (uu hi hu.out hI aM).2.1 (uu hi hu.out hI aM).2.2.2 (uu hi hu.out hI aM).2.2.1 hn2) ?_;intro ax cx w1 hI|(with_reducible refine az (n:=(C.past i).length) (q:=(C.S i).aV.length) hI RF RF (tK.out (t:=83)) (by intro r';exact aR.there aR.here) (hI.rd aA) hsx.out (hone (C.S i).aV) MX OM ?_;intro a2 c2 w hI));go_ret;refine⟨a2,c2,by simp only[List.length_append];rfl,?_⟩;simp only[List.length_append,show wS (C.past i++(C.S i).aV)=wS (C.past i)++wS (C.S i).aV from by simp[wS]];exact hI.tl
end
section
variable {T:List Nat}{w0 w:World}{m m':List aG}{f b l vb rc:Nat}{ra:Option Addr}{S:RS}{Z:aG}
theorem ED{who:Int}{x:List Int}{v:Bool}(hv:Hid (C.lT S.bV S.sl who x=v))(hx:x.length=174)(hI:Inv T w0 w m)(hm:two (rb f b l vb ra rc S) Z∈m):Calls prog 143 #[.pointer (some ⟨b,183,none⟩),.int .i64 who,ia x] w λe w'=>e=.returned (.bool v)∧Inv T w0 w' m:=by
 rw[<-hv.out];exact VZ hI hm who x hx
end
theorem LD(w0:World)(X:RX)(Y:RY)(S:RS)(hX:zG X)(hI:Inv (ah X Y S).own w0 w0 [ah X Y S])(n:Int)(z:List Int)(hz:z=(gZ.kept n).mP)(t:Nat)(mR:t<5)(hft:X.f≠t):Calls prog 122 #[.pointer (some ⟨X.b,0,none⟩),oV X,.int .i64 (t:Int),ia z] w0 λe w'=>∃Y' S',e=.returned (.tuple #[])∧Hid (dM X.f S t (.kept n)=S')∧Inv (ah X Y S).own w0 w' [ah X Y' S']:=by
 refine(sF w0 X Y S hX (.kept n) trivial z hz t mR hft hI).mono ?_;rintro e w' ⟨Y',B',rfl,hB,hJ⟩;exact⟨Y',_,rfl,hB,hJ⟩
section
variable (w0:World)(X:RX)(Y:RY)(S:RS)(hX:zG X)
include hX
theorem ae6(k:Nat)(hk5:k<5)(Um:X.f≠k)(i:Nat)(hi5:i<5)(z r:List Int)(hz:z.length=192)(h1:gi z 1=(i:Int))(hs:sub z 2 174=r)(hr:r.length=174)(hI:Inv (ah X Y S).own w0 w0 [ah X Y S]):
  Calls prog 115 #[.pointer (some ⟨X.b,0,none⟩),oV X,.int .i64 (k:Int),ia z] w0 λe w'=>∃Y',e=.returned (.tuple #[])∧Inv (ah X Y S).own w0 w' [ah X Y' (rz X.f S k i r)]:=by
 have zF:=(aQ hI aA).bV;by_cases hik:i=k
 ·subst hik
  have hq:((i:Int) != (i:Int))=false:=by simp
  have hif:=Um;cases hsl0:C.fJ S.sl (i:Int)
  ·have hsl:=HD hsl0
   have hF:Hid (rz X.f S i i r=if C.lT S.bV S.sl (i:Int) r=true then
     (if(eT S (.eD i r)).2=0 then dM X.f {(eT S (.eD i r)).1 with bV:=C.jZ S.bV S.sl (i:Int) r} i (.kept (gi (sub (C.jZ S.bV S.sl (i:Int) r) (i*174) 174) 0))else(eT S (.eD i r)).1)
     else dM X.f S i (.kept (gi (sub S.bV (i*174) 174) 0))):=HD (by
    rw[rz,if_neg (by rw[hsl0];simp)];rfl)
   clear hsl0;cases Tp:C.lT S.bV S.sl (i:Int) r
   ·have hkb:=HD Tp
    have hF2:Hid (rz X.f S i i r=dM X.f S i (.kept (gi (sub S.bV (i*174) 174) 0))):=HD (by rw[hF.out,if_neg (by rw[Tp];simp)]);have hrl:(sub S.bV (i*174) 174).length=174:=by rw[ay];omega
    clear hF Tp;go_enter func115,ntmps115;go_upto_region 1 with(refine YX ?_;intro bx w hI)
    refine ZT [3,4,10,11] 12 hI ?_;intro wd hI
    (repeat(refine ZQ ?_;go_wp2_with(first|go_at_call 47;refine KE (oh hsl hI aM) ?_;intro w1 hI|refine YL ?_);refine ZP ?_))
    go_upto_region 2 with(fail)
    refine ZT [7] 8 hI ?_;intro wd hI
    (repeat(refine ZQ ?_;go_wp2_with(first|go_at_call 143;refine KE (ED hkb hr hI aM) ?_;intro w1 hI|refine YL ?_);refine ZP ?_))
    go_upto_region 5 with(fail)
    (refine ZR [8,11] [0,1,2] [8] [0,1,2,3,4,5,6,7,8,9,10,11] (λw=>Inv (ah X Y S).own w0 w [ib bx 158 z,ah X Y S]) hI ?_;intro wd hI)
    (repeat(first|refine ZS ?_|refine ZQ ?_;go_wp2_with(first|go_at_call 122;refine KJ hI (LD _ X _ _ hX (hI.at_ aM) _ _ V_ i hi5 hif) ?_;intro Y2 S2 w1 hS2 hI|go_at_call 46;refine KE (IE hi5 hI aM) ?_;intro w1 hI|with_reducible refine kfv RF hrl ?_|refine YL ?_);refine ZP ?_))
    go_wp2_with(fail);rw[hF2.out,hS2.out];exact LZ
   ·have hkb:=HD Tp
    obtain⟨x0,kZ⟩:=EZ (Rec.eD i r);have hx0:x0.Len:=by rw[kZ];exact⟨hi5,hr⟩
    have L6:Hid (av (aj 189) [(0,[1]),(1,[(i:Int)]),(2,r)]=x0.mP):=HD (by rw[kZ];exact Wd hr);obtain⟨D',c',u',e',hP⟩:=tH S x0;have hF2:Hid (rz X.f S i i r=if e'=0 then dM X.f {S with D:=D',cnt:=c',used:=u',bV:=C.jZ S.bV S.sl (i:Int) r} i (.kept (gi (sub (C.jZ S.bV S.sl (i:Int) r) (i*174) 174) 0))else {S with D:=D',cnt:=c',used:=u'}):=HD (by
     rw[hF.out,if_pos Tp,<-kZ,hP.out])
    have hrl:(sub (C.jZ S.bV S.sl (i:Int) r) (i*174) 174).length=174:=by have:=sQ (bs:=S.sl) (who:=(i:Int)) zF hr;rw[ay];omega
    clear hF Tp kZ;by_cases he:e'=0
    ·subst he
     have r_:Hid (rz X.f S i i r=dM X.f {S with D:=D',cnt:=c',used:=u',bV:=C.jZ S.bV S.sl (i:Int) r} i (.kept (gi (sub (C.jZ S.bV S.sl (i:Int) r) (i*174) 174) 0))):=HD (by rw[hF2.out,if_pos rfl]);clear hF2;go_enter func115,ntmps115;go_upto_region 1 with(refine YX ?_;intro bx w hI)
     refine ZT [3,4,10,11] 12 hI ?_;intro wd hI
     (repeat(refine ZQ ?_;go_wp2_with(first|go_at_call 47;refine KE (oh hsl hI aM) ?_;intro w1 hI|refine YL ?_);refine ZP ?_))
     go_upto_region 2 with(fail)
     refine ZT [7] 8 hI ?_;intro wd hI
     (repeat(refine ZQ ?_;go_wp2_with(first|go_at_call 143;refine KE (ED hkb hr hI aM) ?_;intro w1 hI|refine YL ?_);refine ZP ?_))
     go_upto_region 4 with(first|refine YL ?_|go_at_call 108;refine KG hI (ni _ X _ _ x0 hx0 _ L6.out _ _ _ _ hP (hI.at_ aM)) ?_;intro Yp w1 hI)
     refine ZT [7] 8 hI ?_;intro wd hI
     (repeat(refine ZQ ?_;go_wp2_with(first|go_at_call 102;refine KE (PY hI (i:Int) r hr iR) ?_;intro w1 hI|refine YL ?_);refine ZP ?_))
     go_upto_region 5 with(fail)
     (refine ZR [8,11] [0,1,2] [8] [0,1,2,3,4,5,6,7,8,9,10,11] (λw=>Inv (ah X Y S).own w0 w [ib bx 158 z,ah X Yp {S with D:=D',cnt:=c',used:=u',bV:=C.jZ S.bV S.sl (i:Int) r}]) hI ?_;intro wd hI)
     (repeat(first|refine ZS ?_|refine ZQ ?_;go_wp2_with(first|go_at_call 122;refine KJ hI (LD _ X _ _ hX (hI.at_ aM) _ _ V_ i hi5 hif) ?_;intro Y2 S2 w1 hS2 hI|go_at_call 46;refine KE (IE hi5 hI aM) ?_;intro w1 hI|with_reducible refine kfv RF hrl ?_|refine YL ?_);refine ZP ?_))
     go_wp2_with(fail);rw[r_.out,hS2.out];exact LZ
    ·have r_:Hid (rz X.f S i i r={S with D:=D',cnt:=c',used:=u'}):=HD (by rw[hF2.out,if_neg he])
     have hqe:(e' != 0)=true:=by simpa using he
     clear hF2;go_enter func115,ntmps115;go_upto_region 1 with(refine YX ?_;intro bx w hI)
     refine ZT [3,4,10,11] 12 hI ?_;intro wd hI
     (repeat(refine ZQ ?_;go_wp2_with(first|go_at_call 47;refine KE (oh hsl hI aM) ?_;intro w1 hI|refine YL ?_);refine ZP ?_))
     go_upto_region 2 with(fail)
     refine ZT [7] 8 hI ?_;intro wd hI
     (repeat(refine ZQ ?_;go_wp2_with(first|go_at_call 143;refine KE (ED hkb hr hI aM) ?_;intro w1 hI|refine YL ?_);refine ZP ?_))
     exact W70
  ·have hsl:=HD hsl0
   have hF:Hid (rz X.f S i i r=S):=HD (by rw[rz,if_pos (.inr hsl0)]);clear hsl0;go_enter func115,ntmps115;go_upto_region 1 with(refine YX ?_;intro bx w hI)
   refine ZT [3,4,10,11] 12 hI ?_;intro wd hI
   (repeat(refine ZQ ?_;go_wp2_with(first|go_at_call 47;refine KE (oh hsl hI aM) ?_;intro w1 hI|refine YL ?_);refine ZP ?_))
   go_wp2_with(fail);rw[hF.out];exact W39
 ·have hF:Hid (rz X.f S k i r=S):=HD (by rw[rz,if_pos (.inl hik)])
  have hq:((i:Int) != (k:Int))=true:=by simp;omega
  clear hik;go_enter func115,ntmps115;go_upto_region 1 with(refine YX ?_;intro bx w hI)
  (refine ZR [3,4,10,11] [] [] [0,1,2,3,4,5,6,7,8,9,10,11] (λw=>Inv (ah X Y S).own w0 w [ib bx 158 z,ah X Y S]) hI ?_;intro wd hI)
  exact W62
theorem XR(k:Nat)(z:List Int)(hz:z.length=192)(h0:gi z 0=0)(S1:RS)
  (hT:∀w1,Inv (ah X Y S).own w1 w1 [ah X Y S]->Calls prog 115 #[.pointer (some ⟨X.b,0,none⟩),oV X,.int .i64 (k:Int),ia z] w1 λe w'=>∃Y',e=.returned (.tuple #[])∧Inv (ah X Y S).own w1 w' [ah X Y' S1])
  (hI:Inv (ah X Y S).own w0 w0 [ah X Y S]):
  Calls prog 77 #[.pointer (some ⟨X.b,0,none⟩),oV X,.int .i64 (k:Int),ia z] w0 λe w'=>∃Y',e=.returned (.tuple #[])∧Inv (ah X Y S).own w0 w' [ah X Y' S1]:=by
 go_enter func77,ntmps77;go_wp2_with(first|refine YL ?_|refine YX ?_;intro bx w hI|go_at_call 115;refine KG hI (hT _ (hI.at_ aM)) ?_;intro Y2 w1 hI);exact LZ
theorem XT(k:Nat)(z:List Int)(hz:z.length=192)(h0:gi z 0=1)(S1:RS)
  (hT:∀w1,Inv (ah X Y S).own w1 w1 [ah X Y S]->Calls prog 116 #[.pointer (some ⟨X.b,0,none⟩),oV X,.int .i64 (k:Int),ia z] w1 λe w'=>∃Y',e=.returned (.tuple #[])∧Inv (ah X Y S).own w1 w' [ah X Y' S1])
  (hI:Inv (ah X Y S).own w0 w0 [ah X Y S]):
  Calls prog 77 #[.pointer (some ⟨X.b,0,none⟩),oV X,.int .i64 (k:Int),ia z] w0 λe w'=>∃Y',e=.returned (.tuple #[])∧Inv (ah X Y S).own w0 w' [ah X Y' S1]:=by
 go_enter func77,ntmps77;go_wp2_with(first|refine YL ?_|refine YX ?_;intro bx w hI|go_at_call 116;refine KG hI (hT _ (hI.at_ aM)) ?_;intro Y2 w1 hI);exact LZ
theorem abo(k:Nat)(i:Nat)(z r:List Int)(hz:z.length=192)(h0:gi z 0=2)(h1:gi z 1=(i:Int))(hs:sub z 2 174=r)(hr:r.length=174)(hI:Inv (ah X Y S).own w0 w0 [ah X Y S]):
  Calls prog 77 #[.pointer (some ⟨X.b,0,none⟩),oV X,.int .i64 (k:Int),ia z] w0 λe w'=>∃Y',e=.returned (.tuple #[])∧Inv (ah X Y S).own w0 w' [ah X Y' (VR S i r)]:=by
 go_enter func77,ntmps77;go_upto_region 7 with(first|refine YL ?_|refine YX ?_;intro bx w hI)
 refine ZT [7] 8 hI ?_;intro wd hI
 (repeat(refine ZQ ?_;go_wp2_with(first|go_at_call 48;refine KE (Ib hI (i:Int) r hr iR) ?_;intro w1 hI|refine YL ?_);refine ZP ?_))
 go_wp2_with(fail);exact W39
end
section
open B (aI bQ nX)
def gZ.V64:gZ->Prop
 | .view v=>dU v
 | .bR _ v=>dU v
 |_=>True
section
variable (w0:World)(X:RX)(Y:RY)(S:RS)(hX:zG X)
include hX
theorem abp(k:Nat)(z v:List Int)(hz:z.length=192)(h0:gi z 0=7)(hzv:sub z 185 7=v)(hv:v.length=7)(hv64:Hid (dU v))(hI:Inv (ah X Y S).own w0 w0 [ah X Y S]):
  Calls prog 77 #[.pointer (some ⟨X.b,0,none⟩),oV X,.int .i64 (k:Int),ia z] w0 λe w'=>∃Y',e=.returned (.tuple #[])∧Inv (ah X Y S).own w0 w' [ah X Y' (eZ X.f S v).1]:=by
 subst hzv;go_enter func77,ntmps77;go_wp2_with(first|refine YL ?_|refine YX ?_;intro bx w hI|go_at_call 117;refine KG hI (IJ _ X _ _ hX _ hv (by exact hv64) (hI.at_ aM)) ?_;intro Y2 w1 hI);exact LZ
theorem ae7(k:Nat)(hk5:k<5)(Um:X.f≠k)(M:gZ)(hM:M.Len)(h64:M.V64)(hvw:Hid (dU S.view))(hrl:S.aV.length<=1000000000)(hI:Inv (ah X Y S).own w0 w0 [ah X Y S]):
  Calls prog 77 #[.pointer (some ⟨X.b,0,none⟩),oV X,.int .i64 (k:Int),ia M.mP] w0 λe w'=>∃Y',e=.returned (.tuple #[])∧Inv (ah X Y S).own w0 w' [ah X Y' (kI X.f S k M)]:=by
 have n1:=aa 174;have n2:=aa 2;have n3:=aa 3;have hz:=gZ.len hM;have hvl:=(aQ hI aA).view;have zF:=(aQ hI aA).bV;cases M with
 |row i r=>exact XR w0 X Y S hX k _ hz aC _ (λw1 hI1=>ae6 w1 X Y S hX k hk5 Um i hM.1 _ r hz j4 (bO hM.2) hM.2 hI1) hI
 |kept n=>exact XT w0 X Y S hX k _ hz aC _ (λw1 hI1=>ae0 w1 X Y S hX k hk5 _ n hz (Fh n1) hvw hrl hI1) hI
 |news i r=>exact abo w0 X Y S hX k i _ r hz aC j4 (bO hM.2) hM.2 hI
 |ask e b=>
  exact oQ w0 X Y S k _ hz (.inl aC) _ (λw1 hI1=>Qo w1 X Y S hX k hk5 _ b e hz aC (iW n1) (bE n1 hM) hM _ (λ_=>⟨Um,rfl⟩) hvw hI1) hI
 |promise e b h c=>
  exact oQ w0 X Y S k _ hz (.inr (.inl aC)) _ (λw1 hI1=>Qn w1 X Y S hX k hk5 _ b h c e hz aC (iW n1) (bE n1 hM.1) (dP n1 hM.1 hM.2.1) (dh n1 hM.1 hM.2.1 hM.2.2) hM.1 hM.2.1 hM.2.2 _ (λ_=>rfl) hvw hI1) hI
 |put e b c=>
  exact oQ w0 X Y S k _ hz (.inr (.inr (.inl aC))) _ (λw1 hI1=>Ql w1 X Y S hX k hk5 _ b c e hz aC (iW n1) (bE n1 hM.1) (dh n1 hM.1 n2 hM.2) hM.1 hM.2 _ (λ_=>⟨Um,rfl⟩) hvw hI1) hI
 |taken e b=>
  exact oQ w0 X Y S k _ hz (.inr (.inr (.inr aC))) _ (λw1 hI1=>Qk w1 X Y S hX k _ b e hz aC (iW n1) (bE n1 hM) hM hvw hI1) hI
 |view v=>exact abp w0 X Y S hX k _ v hz aC (dx n1 n2 n2 n3 hM) hM (HD h64) hI
 |bR i v=>
  refine Ls w0 X Y S hX k _ hz aC _ (λw1 hI1=>?_) hI;refine Qj w1 X Y S hX k hk5 i hM.1 _ v hz j4 (dx n1 n2 n2 n3 hM.2) _ (λw2 hI2=>?_) (R_ X.f hvl hM.2) (by rw[(NW X.f S v).1];exact zF) (HD (R9 X.f hvw.out h64)) hI1;exact(IJ w2 X Y S hX v hM.2 (HD h64) hI2).mono λe w' ⟨Y',he,hJ⟩=>⟨Y',_,he,hJ⟩
 |iU i r=>exact Qi w0 X Y S hX k hk5 i hM.1 _ r hz aC j4 (by rw[<-tJ (bO (k:=9) (w:=(i:Int)) (n:=0) (e:=0) (b:=aj 2) (h:=aj 2) (c:=aj 3) (v:=aj 7) hM.2) OM];rfl) (bO hM.2) hM.2 hvw hI
end
end
