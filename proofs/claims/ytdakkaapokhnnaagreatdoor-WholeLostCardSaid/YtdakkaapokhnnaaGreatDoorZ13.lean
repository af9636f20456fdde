/- Contracts of functions. No condition. -/
import Derived.Test.YtdakkaapokhnnaaGreatDoorZ11
import Derived.Test.YtdakkaapokhnnaaGreatDoorZ12
namespace Go.Proofs.YtdakkaapokhnnaaGreatDoor
open Go.RowKit Go.Proofs.Tryz
set_option maxRecDepth 100000
set_option maxHeartbeats 6400000
set_option linter.all false
section
open A (QE jJ bu)
open B (aI dY dX jL lC gN nX cz bQ)
structure RX where
 f:Nat
 b:Nat
 l:Nat
 d:Nat
 mr:Nat
 p:Nat
 cb:Nat
 pb:Nat->Nat
 c:Nat->Nat
 cc:List Value
structure RY where
 wb:Option Nat
 vb:Nat
 ra:Option Addr
 rc:Nat
 q:Nat->List QE
structure AP (D:DS) (cnt used:Nat):Prop where
 ok:wQ D
 cu:cnt<=used
 u:used<=2048
 w60:D.waits.length<=60
 rest:D.down=true∨D.waits=[]
structure zG (X:RX):Prop where
 f5:X.f<5
 net:X.cc[0]? =some (.pointer (some ⟨X.p,0,none⟩))
 eF:X.cc[1+X.f]? =some (.pointer (some ⟨X.d,0,none⟩))
def wS(aV:List (List Int)):List Value:=aV.flatMap iz
abbrev VV(X:RX)(q:Nat->List QE)(B:Nat->List (List UInt8)):aG:=two (lI (∀i,(q i).map (λx=>x.2.2)=B i)) (jJ 132 X.p X.pb X.c q)
abbrev aim(X:RX)(wb:Option Nat)(D:DS)(cnt used:Nat):aG:=two (lI (AP D cnt used)) (lg X.l X.d X.mr wb D cnt used)
abbrev mK(ra:Option Addr)(rc:Nat)(aV:List (List Int)):aG:=two (lI (∀r∈aV,r.length=3)) (bf 117 3 (.slice ra aV.length rc) aV.length (wS aV))
abbrev agx(X:RX)(wb:Option Nat)(ra:Option Addr)(rc:Nat)(q:Nat->List QE)(aV:List (List Int))(D:DS)(cnt used:Nat)(B:Nat->List (List UInt8)):aG:=
 two (mK ra rc aV) (two (aim X wb D cnt used) (two (VV X q B) (blk X.cb 86 X.cc)))
abbrev ah(X:RX)(Y:RY)(S:RS):aG:=two (rb X.f X.b X.l Y.vb Y.ra Y.rc S) (agx X Y.wb Y.ra Y.rc Y.q S.aV S.D S.cnt S.used S.B)
section
variable {T:List Nat}{w0 w w':World}{m m':List aG}{r r' x x' y y' z:aG}{p q:Prop}
theorem aR.mem(hu:aR r r' m m'):r∈m:=by obtain⟨m1,m2,rfl,_⟩:=hu.split;simp
theorem aR.same:∀ {m:List aG},r∈m->aR r r m m
 |y::m,h=>by
  rcases List.mem_cons.1 h with rfl|h
  ·exact aR.here
  ·exact aR.there (aR.same h)
theorem rD(hI:Inv T w0 w m)(hm:two x y∈m):Inv x.own w w [x]:=(hI.at_ hm).dz.at_ aA
theorem jT(hI:Inv T w0 w m)(hm:two x y∈m):Inv y.own w w [y]:=(hI.at_ hm).dz.at_ aM
theorem y8(hI:Inv T w0 w m)(hJ:Inv x.own w w' [x'])(hu:aR (two x y) (two x' y) m m'):Inv T w0 w' m':=hI.on (((hI.at_ hu.mem).dz.on hJ jy).dO) hu
theorem wE(hI:Inv T w0 w m)(hJ:Inv y.own w w' [y'])(hu:aR (two x y) (two x y') m m'):Inv T w0 w' m':=hI.on (((hI.at_ hu.mem).dz.on hJ iR).dO) hu
theorem Inv.F7(h:Inv T w0 w (lI p::m))(hq:p->q):Inv T w0 w (lI q::m):=h.turn (λhs z hz=>by
 rcases List.mem_cons.1 hz with rfl|hz
 ·exact hq (hs (lI p) SI)
 ·exact hs _ (by simp[hz])) (by simp[owned,lI])
theorem Inv.ain(h:Inv T w0 w [two (lI p) y])(hq:p->q):Inv T w0 w [two (lI q) y]:=(h.dz.F7 hq).dO
theorem Inv.bring{l1 l2:List aG}(h:Inv T w0 w (l1++x::l2)):Inv T w0 w (x::(l1++l2)):=h.perm List.perm_middle.symm
theorem Inv.sink{l1 l2:List aG}(h:Inv T w0 w (x::(l1++l2))):Inv T w0 w (l1++x::l2):=h.perm List.perm_middle
theorem Inv.uj{b:Nat}{e:TypeId}{cs:List Value}(hst:Step [b] w w')(hb:w'.heap[b]? =some (.cells cs.toArray e (0,0)))(hlt:b<w.heap.size):Inv [b] w w' [Go.Proofs.YtdakkaapokhnnaaGreatDoor.blk b e cs]:=by
 refine⟨hst.os,hst.tape,hst.output,hst.size,λk hk hn=>hst.same k hk hn,λr hr=>?_,λk hk=>?_,by simp[owned,Go.Proofs.YtdakkaapokhnnaaGreatDoor.blk]⟩
 ·rw[List.mem_singleton.1 hr];exact hb
 ·have:k=b:=by simpa[owned,Go.Proofs.YtdakkaapokhnnaaGreatDoor.blk]using hk
  rw[this];exact⟨.inr SI,Nat.lt_of_lt_of_le hlt hst.size⟩
end
section
variable {T:List Nat}{w0 w w':World}{m m':List aG}{f b l vb rc:Nat}{ra:Option Addr}{S S':RS}{Z:aG}{V V':List Int×Bool}
theorem aQ(hI:Inv T w0 w m)(hm:two (rb f b l vb ra rc S) Z∈m):dB S:=(lF hI hm).1
theorem VW(hI:Inv T w0 w m)(hm:two (rb f b l vb ra rc S) Z∈m):Inv [b] w w [blk b 98 (aU f l vb ra rc S)]:=rD (jT (rD hI hm) aA) aA
theorem VX(hI:Inv T w0 w m)(hJ:Inv [b] w w' [blk b 98 (aU f l vb ra rc S')])(hu:aR (two (rb f b l vb ra rc S) Z) (two (rb f b l vb ra rc S') Z) m m')(hl:dB S->dB S')(hv:S'.aK=S.aK):Inv T w0 w' m':=by
 have h1:=rD hI hu.mem;have h2:Inv (two (blk b 98 (aU f l vb ra rc S)) (J3 vb S.aK)).own w w' [two (blk b 98 (aU f l vb ra rc S')) (J3 vb S.aK)]:=y8 (jT h1 aA) hJ jy;have h3:=((h1.dz.on h2 iR).F7 hl).dO;rw[<-hv]at h3;exact y8 hI h3 hu
theorem y9(hI:Inv T w0 w m)(hm:two (rb f b l vb ra rc S) Z∈m)(hV:S.aK=some V):Inv [vb] w w [xf vb 208 V.1 [V.2]]:=by
 have h:=jT (jT (rD hI hm) aA) aA;rw[hV]at h;exact h
theorem uk(hI:Inv T w0 w m)(hJ:Inv [vb] w w' [xf vb 208 V'.1 [V'.2]])(hV:S.aK=some V)(hl:V'.1.length=16)(hu:aR (two (rb f b l vb ra rc S) Z) (two (rb f b l vb ra rc {S with aK:=some V'}) Z) m m'):Inv T w0 w' m':=by
 have h1:=rD hI hu.mem;have hJ2:Inv (J3 vb S.aK).own w w' [J3 vb (some V')]:=by rw[hV];exact hJ
 have h2:=wE (jT h1 aA) hJ2 jy;have e:aU f l vb ra rc S=aU f l vb ra rc {S with aK:=some V'}:=by simp only[aU,H7,hV]
 rw[e]at h2;have h3:=((h1.dz.on (by rw[<-e]at h2;exact h2) iR).F7 (q:=dB {S with aK:=some V'}) (λhL=>⟨hL.view,hL.own,hL.bV,hL.sl,hL.acc,hL.book,hL.told,hL.last,λp hp=>by cases hp;exact hl⟩)).dO;rw[e]at h3;exact y8 hI h3 hu
theorem adR(h:dB S):∃A B,A.length=183∧∀zs bs,aU f l vb ra rc {S with bV:=zs,sl:=bs}=A++(mix zs bs++B):=⟨((sg f l vb ra rc S).take 4).flatten,((sg f l vb ra rc S).drop 6).flatten,FA,λzs bs=>by rw[show mix zs bs=iz zs++bs.map Value.bool from rfl];exact FB⟩
theorem DN(hI:Inv T w0 w m)(hm:two (rb f b l vb ra rc S) Z∈m):∃A B,A.length=183∧(Inv (nz b 98 A B S.bV S.sl).own w w [nz b 98 A B S.bV S.sl])∧∀ {w' m' zs bs},Inv (nz b 98 A B S.bV S.sl).own w w' [nz b 98 A B zs bs]->zs.length=870->bs.length=5->aR (two (rb f b l vb ra rc S) Z) (two (rb f b l vb ra rc {S with bV:=zs,sl:=bs}) Z) m m'->Inv T w0 w' m':=by
 have hL:=aQ hI hm;obtain⟨A,B,hA,e⟩:=adR (f:=f) (l:=l) (vb:=vb) (ra:=ra) (rc:=rc) hL;refine⟨A,B,hA,?_,λ{w' m' zs bs} hJ hz hb hu=>?_⟩
 ·have h:=VW hI hm
  rw[show aU f l vb ra rc S=_ from e S.bV S.sl]at h;exact h
 ·refine VX hI ?_ hu (λhL=>⟨hL.view,hL.own,hz,hb,hL.acc,hL.book,hL.told,hL.last,hL.aK⟩) rfl
  rw[e zs bs];exact hJ
theorem BB(hI:Inv T w0 w m)(hm:two (rb f b l vb ra rc S) Z∈m):∃A B,A.length=1068∧(Inv (nz b 98 A B S.book []).own w w [nz b 98 A B S.book []])∧∀ {w' m' zs},Inv (nz b 98 A B S.book []).own w w' [nz b 98 A B zs []]->zs.length=870->aR (two (rb f b l vb ra rc S) Z) (two (rb f b l vb ra rc {S with book:=zs}) Z) m m'->Inv T w0 w' m':=by
 have hL:=aQ hI hm;obtain⟨A,B,hA,e⟩:=VE f l vb ra rc hL;have em:∀zs:List Int,iz zs=mix zs []:=λzs=>by simp[mix,iz]
 refine⟨A,B,hA,?_,λ{w' m' zs} hJ hz hu=>?_⟩
 ·have h:=VW hI hm
  rw[show aU f l vb ra rc S=_ from e S.book,em]at h;exact h
 ·refine VX hI ?_ hu (λhL=>⟨hL.view,hL.own,hL.bV,hL.sl,hL.acc,hz,hL.told,hL.last,hL.aK⟩) rfl
  rw[e zs,em];exact hJ
end
section
variable {T:List Nat}{w0 w:World}{m m':List aG}{f b l vb rc:Nat}{ra:Option Addr}{S:RS}{Z:aG}
theorem VY(hI:Inv T w0 w m)(hm:two (rb f b l vb ra rc S) Z∈m)(who:Int):Calls prog 46 #[.pointer (some ⟨b,183,none⟩),.int .i64 who] w λe w'=>e=.returned (ia (C.rowOf S.bV who))∧Inv T w0 w' m:=by
 obtain⟨A,B,hA,hJ,up⟩:=DN hI hm;have hL:=aQ hI hm;exact(adf w b 183 98 A B S.bV S.sl hL.bV hL.sl hA hJ who).mono λe w' h=>⟨h.1,up h.2 hL.bV hL.sl (aR.same hm)⟩
theorem F8(hI:Inv T w0 w m)(hm:two (rb f b l vb ra rc S) Z∈m)(who:Int):Calls prog 47 #[.pointer (some ⟨b,183,none⟩),.int .i64 who] w λe w'=>e=.returned (.bool (C.fJ S.sl who))∧Inv T w0 w' m:=by
 obtain⟨A,B,hA,hJ,up⟩:=DN hI hm;have hL:=aQ hI hm;exact(Rl w b 183 98 A B S.bV S.sl hL.bV hL.sl hA hJ who).mono λe w' h=>⟨h.1,up h.2 hL.bV hL.sl (aR.same hm)⟩
theorem PX(hI:Inv T w0 w m)(who:Int)(hu:aR (two (rb f b l vb ra rc S) Z) (two (rb f b l vb ra rc {S with sl:=C.mI S.sl who}) Z) m m'):Calls prog 103 #[.pointer (some ⟨b,183,none⟩),.int .i64 who] w λe w'=>e=.returned (.tuple #[ia (C.rowOf S.bV who),.bool (C.aP who)])∧Inv T w0 w' m':=by
 obtain⟨A,B,hA,hJ,up⟩:=DN hI hu.mem;have hL:=aQ hI hu.mem;exact(ZO w b 183 98 A B S.bV S.sl hL.bV hL.sl hA hJ who).mono λe w' h=>⟨h.1,up h.2 hL.bV (by unfold C.mI;split<;>simp[hL.sl]) hu⟩
theorem VZ(hI:Inv T w0 w m)(hm:two (rb f b l vb ra rc S) Z∈m)(who:Int)(x:List Int)(hx:x.length=174):Calls prog 143 #[.pointer (some ⟨b,183,none⟩),.int .i64 who,ia x] w λe w'=>e=.returned (.bool (C.lT S.bV S.sl who x))∧Inv T w0 w' m:=by
 obtain⟨A,B,hA,hJ,up⟩:=DN hI hm;have hL:=aQ hI hm;exact(Df w b 183 98 A B S.bV S.sl hL.bV hL.sl hA hJ who x hx).mono λe w' h=>⟨h.1,up h.2 hL.bV hL.sl (aR.same hm)⟩
theorem sQ{zs:List Int}{bs:List Bool}{who:Int}{x:List Int}(hz:zs.length=870)(hx:x.length=174):(C.jZ zs bs who x).length=870:=by
 unfold C.jZ
 split
 ·rename_i h
  obtain⟨h0,h5⟩:=C.dW (C.xM h);rw[aY];omega
 ·exact hz
theorem PY(hI:Inv T w0 w m)(who:Int)(x:List Int)(hx:x.length=174)(hu:aR (two (rb f b l vb ra rc S) Z) (two (rb f b l vb ra rc {S with bV:=C.jZ S.bV S.sl who x}) Z) m m'):Calls prog 102 #[.pointer (some ⟨b,183,none⟩),.int .i64 who,ia x] w λe w'=>e=.returned (.bool (C.lT S.bV S.sl who x))∧Inv T w0 w' m':=by
 obtain⟨A,B,hA,hJ,up⟩:=DN hI hu.mem;have hL:=aQ hI hu.mem;exact(ZU w b 183 98 A B S.bV S.sl hL.bV hL.sl hA hJ who x hx).mono λe w' h=>⟨h.1,up h.2 (sQ hL.bV hx) hL.sl hu⟩
theorem adS(hI:Inv T w0 w m)(hm:two (rb f b l vb ra rc S) Z∈m)(who:Int):Calls prog 23 #[.pointer (some ⟨b,1068,none⟩),.int .i64 who] w λe w'=>e=.returned (ia (C.rowOf S.book who))∧Inv T w0 w' m:=by
 obtain⟨A,B,hA,hJ,up⟩:=BB hI hm;have hL:=aQ hI hm;exact(C.VS w b 1068 98 A B S.book hL.book hA hJ who).mono λe w' h=>⟨h.1,up h.2 hL.book (aR.same hm)⟩
theorem xW{zs:List Int}{who:Int}{x:List Int}(hz:zs.length=870)(hx:x.length=174):(C.ic zs who x).length=870:=by
 unfold C.ic
 split
 ·rename_i h
  obtain⟨h0,h5⟩:=C.dW (C.AL h).1;rw[aY];omega
 ·exact hz
theorem Ib(hI:Inv T w0 w m)(who:Int)(x:List Int)(hx:x.length=174)(hu:aR (two (rb f b l vb ra rc S) Z) (two (rb f b l vb ra rc {S with book:=C.ic S.book who x}) Z) m m'):Calls prog 48 #[.pointer (some ⟨b,1068,none⟩),.int .i64 who,ia x] w λe w'=>e=.returned (.bool (C.nE S.book who x))∧Inv T w0 w' m':=by
 obtain⟨A,B,hA,hJ,up⟩:=BB hI hu.mem;have hL:=aQ hI hu.mem;exact(C.PV w b 1068 98 A B S.book hL.book hA hJ who x hx).mono λe w' h=>⟨h.1,up h.2 (xW hL.book hx) hu⟩
theorem aar(hI:Inv T w0 w m)(hm:two (rb f b l vb ra rc S) Z∈m)(hk:C.Bk S.book)(key:Int):Calls prog 29 #[.pointer (some ⟨b,1068,none⟩),.int .i64 key] w λe w'=>e=.returned (.int .i64 (C.xV S.book key 5))∧Inv T w0 w' m:=by
 obtain⟨A,B,hA,hJ,up⟩:=BB hI hm;have hL:=aQ hI hm;exact(C.PW w b 1068 98 A B S.book hk hA hJ key).mono λe w' h=>⟨h.1,up h.2 hL.book (aR.same hm)⟩
theorem V3(hI:Inv T w0 w m)(hm:two (rb f b l vb ra rc S) Z∈m)(hk:C.Bk S.book)(who key:Int):Calls prog 107 #[.pointer (some ⟨b,1068,none⟩),.int .i64 who,.int .i64 key] w λe w'=>e=.returned (.int .i64 (C.kE S.book who key))∧Inv T w0 w' m:=by
 obtain⟨A,B,hA,hJ,up⟩:=BB hI hm;have hL:=aQ hI hm;exact(C.VT w b 1068 98 A B S.book hk hA hJ who key).mono λe w' h=>⟨h.1,up h.2 hL.book (aR.same hm)⟩
variable {V:List Int×Bool}
theorem vlt{w:World}{vb:Nat}{zs:List Int}{p:Bool}(h:Inv [vb] w w [xf vb 208 zs [p]]):vb<w.heap.size:=(h.mine vb (by simp[owned,xf,blk])).2
theorem Ic{w:World}{vb:Nat}{zs:List Int}{p:Bool}(h:Inv [vb] w w [xf vb 208 zs [p]]):w.heap[vb]? =some (.cells (mix zs [p]).toArray 208 (0,0)):=h.sat (xf vb 208 zs [p]) SI
theorem DR(hI:Inv T w0 w m){w':World}(hJ:Inv [vb] w w' [xf vb 208 V.1 [V.2]])(hV:S.aK=some V)(hm:two (rb f b l vb ra rc S) Z∈m):Inv T w0 w' m:=by
 have hl:V.1.length=16:=(aQ hI hm).aK V hV;have hu:aR (two (rb f b l vb ra rc S) Z) (two (rb f b l vb ra rc {S with aK:=some V}) Z) m m:=by rw[<-hV];exact aR.same hm
 exact uk hI hJ hV hl hu
theorem adT(hI:Inv T w0 w m)(hm:two (rb f b l vb ra rc S) Z∈m)(hV:S.aK=some V):Calls prog 129 #[.pointer (some ⟨vb,0,none⟩)] w λe w'=>e=.returned (.bool V.2)∧Inv T w0 w' m:=by
 have hv:=y9 hI hm hV;exact(B.JV w vb 208 V.1 V.2 ((aQ hI hm).aK V hV) (Ic hv)).mono λe w' h=>⟨h.1,DR hI (Inv.uj h.2.1 h.2.2 (vlt hv)) hV hm⟩
theorem adU(hI:Inv T w0 w m)(hm:two (rb f b l vb ra rc S) Z∈m)(hV:S.aK=some V):Calls prog 83 #[.pointer (some ⟨vb,0,none⟩)] w λe w'=>e=.returned (ia (sub V.1 9 3))∧Inv T w0 w' m:=by
 have hv:=y9 hI hm hV;exact(B.Nl w vb 208 V.1 V.2 ((aQ hI hm).aK V hV) (Ic hv)).mono λe w' h=>⟨h.1,DR hI (Inv.uj h.2.1 h.2.2 (vlt hv)) hV hm⟩
theorem adV(hI:Inv T w0 w m)(hm:two (rb f b l vb ra rc S) Z∈m)(hV:S.aK=some V):Calls prog 128 #[.pointer (some ⟨vb,0,none⟩)] w λe w'=>e=.returned (ia (sub V.1 7 2))∧Inv T w0 w' m:=by
 have hv:=y9 hI hm hV;exact(B.Nn w vb 208 V.1 V.2 ((aQ hI hm).aK V hV) (Ic hv)).mono λe w' h=>⟨h.1,DR hI (Inv.uj h.2.1 h.2.2 (vlt hv)) hV hm⟩
theorem DT(zs:List Int)(i k:Nat):(dX zs i k).length=zs.length:=by simp[dX]
theorem R3{zs:List Int}{k:Nat}{h c:List Int}(hz:zs.length=16)(h2:h.length=2)(c3:c.length=3):(jL zs k h c).length=16:=by
 unfold jL;have:(dX zs 14 k).length=16:=by rw[DT,hz]
 rw[aY,aY];omega
theorem DU{V:List Int×Bool}{who:Nat}{bl:List Int}(h:V.1.length=16):(iV V who bl).1.1.length=16:=by
 unfold iV
 split
 ·simp[DT,h]
 ·exact h
theorem DV{V:List Int×Bool}{who:Nat}{bl h c:List Int}(hz:V.1.length=16)(h2:h.length=2)(c3:c.length=3):(ig V who bl h c).1.1.length=16:=by
 unfold ig
 split
 ·dsimp only
  split
  ·exact R3 hz h2 c3
  ·rw[DT,hz]
 ·exact hz
theorem V4(hI:Inv T w0 w m)(hV:S.aK=some V)(who:Nat)(bl:List Int)(hb2:bl.length=2)(hu:aR (two (rb f b l vb ra rc S) Z) (two (rb f b l vb ra rc {S with aK:=some (iV V who bl).1}) Z) m m'):Calls prog 158 #[.pointer (some ⟨vb,0,none⟩),.int .i64 (who:Int),ia bl] w λe w'=>e=.returned (.bool (iV V who bl).2)∧Inv T w0 w' m':=by
 have hv:=y9 hI hu.mem hV;have hl:=(aQ hI hu.mem).aK V hV;have hl2:=DU (who:=who) (bl:=bl) hl;obtain⟨zs,p⟩:=V;by_cases hc:p=true∧bl=sub zs 7 2∧aI (sub zs 0 7) (who:Int)=true
 ·obtain⟨rfl,rfl,hm2⟩:=hc
  have hw5:who<5:=by
   unfold aI at hm2;simp only[Bool.and_eq_true]at hm2;have:=hm2.1;unfold B.aP at this;simp at this;omega
  have e1:iV (zs,true) who (sub zs 7 2)=((dX zs 15 who,true),gN (gi (dX zs 15 who) 15) (gi (sub (dX zs 15 who) 0 7) 1)):=if_pos ⟨rfl,rfl,hm2⟩;rw[e1]at hu hl2|-;exact(B.Rw w vb 208 zs hl (Ic hv) who hw5 hm2).mono λe w' h=>⟨h.1,uk hI (Inv.uj h.2.1 h.2.2 (vlt hv)) hV hl2 hu⟩
 ·have e1:iV (zs,p) who bl=((zs,p),false):=if_neg hc
  rw[e1]at hu|-;refine(B.Vu w vb 208 zs p hl (Ic hv) who bl hb2 ?_).mono λe w' h=>⟨h.1,uk hI (Inv.uj h.2.1 h.2.2 (vlt hv)) hV hl hu⟩
  cases p
  ·exact .inl rfl
  ·exact W67
theorem V5(hI:Inv T w0 w m)(hV:S.aK=some V)(who:Nat)(bl h c:List Int)(hb2:bl.length=2)(h2:h.length=2)(c3:c.length=3)(hu:aR (two (rb f b l vb ra rc S) Z) (two (rb f b l vb ra rc {S with aK:=some (ig V who bl h c).1}) Z) m m'):Calls prog 157 #[.pointer (some ⟨vb,0,none⟩),.int .i64 (who:Int),ia bl,ia h,ia c] w λe w'=>e=.returned (.bool (ig V who bl h c).2)∧Inv T w0 w' m':=by
 have hv:=y9 hI hu.mem hV;have hl:=(aQ hI hu.mem).aK V hV;have hl2:=DV (who:=who) (bl:=bl) hl h2 c3;obtain⟨zs,p⟩:=V;by_cases hc:p=false∧bl=sub zs 7 2∧aI (sub zs 0 7) (who:Int)=true
 ·obtain⟨rfl,rfl,hm2⟩:=hc
  have hw5:who<5:=by
   unfold aI at hm2;simp only[Bool.and_eq_true]at hm2;have:=hm2.1;unfold B.aP at this;simp at this;omega
  by_cases hh:0<gi h 0
  ·cases hls:lC (gi (sub (dX zs 14 who) 12 2) 0) (gi (sub (dX zs 14 who) 12 2) 1) (gi h 0) (gi h 1)
   ·have e1:ig (zs,false) who (sub zs 7 2) h c=((dX zs 14 who,gN (gi (dX zs 14 who) 14) (gi (sub (dX zs 14 who) 0 7) 1)),gN (gi (dX zs 14 who) 14) (gi (sub (dX zs 14 who) 0 7) 1)):=by
     rw[ig,if_pos ⟨rfl,rfl,hm2⟩];simp[hls]
    rw[e1]at hu hl2|-;exact(B.Np w vb 208 zs hl (Ic hv) who hw5 hm2 h c h2 c3 hh hls).mono λe w' h=>⟨h.1,uk hI (Inv.uj h.2.1 h.2.2 (vlt hv)) hV hl2 hu⟩
   ·have e1:ig (zs,false) who (sub zs 7 2) h c=((jL zs who h c,gN (gi (jL zs who h c) 14) (gi (sub (jL zs who h c) 0 7) 1)),gN (gi (jL zs who h c) 14) (gi (sub (jL zs who h c) 0 7) 1)):=by
     rw[ig,if_pos ⟨rfl,rfl,hm2⟩];simp[hls,hh]
    rw[e1]at hu hl2|-;exact(B.Nq w vb 208 zs hl (Ic hv) who hw5 hm2 h c h2 c3 hh hls).mono λe w' h=>⟨h.1,uk hI (Inv.uj h.2.1 h.2.2 (vlt hv)) hV hl2 hu⟩
  ·have e1:ig (zs,false) who (sub zs 7 2) h c=((dX zs 14 who,gN (gi (dX zs 14 who) 14) (gi (sub (dX zs 14 who) 0 7) 1)),gN (gi (dX zs 14 who) 14) (gi (sub (dX zs 14 who) 0 7) 1)):=by
    rw[ig,if_pos ⟨rfl,rfl,hm2⟩];simp[hh]
   rw[e1]at hu hl2|-;exact(B.Rx w vb 208 zs hl (Ic hv) who hw5 hm2 h c h2 c3 OM).mono λe w' h=>⟨h.1,uk hI (Inv.uj h.2.1 h.2.2 (vlt hv)) hV hl2 hu⟩
 ·have e1:ig (zs,p) who bl h c=((zs,p),false):=if_neg hc
  rw[e1]at hu|-;refine(B.Vs w vb 208 zs p hl (Ic hv) who bl h c hb2 h2 c3 ?_).mono λe w' h=>⟨h.1,uk hI (Inv.uj h.2.1 h.2.2 (vlt hv)) hV hl hu⟩
  cases p
  ·exact W67
  ·exact .inl rfl
end
end
section
open A (QE jJ bu)
theorem Ki{D:DS}{at_:Nat}{s:List UInt8}(hd:D.down=true)(ha:at_<2048)(hs:s.length=64):bK D (at_:Int) s=(D,4):=by
 unfold bK;rw[if_neg OM,if_pos (.inl hd)];cases D;simp at hd|-;exact hd
theorem Kj:∀(ss:List (List UInt8)) (D:DS) (at_:Nat),wQ D->D.down=false->(∀s∈ss,s.length=64)->at_+ss.length<=2048->
  wQ (iT D (at_:Int) ss).1∧(iT D (at_:Int) ss).1.waits.length<=D.waits.length+ss.length∧(((iT D (at_:Int) ss).2=0∧(iT D (at_:Int) ss).1.down=false)∨((iT D (at_:Int) ss).2≠0∧(iT D (at_:Int) ss).1.down=true))
 | [],D,at_,hD,hd,_,_=>⟨hD,by simp[iT],.inl ⟨rfl,hd⟩⟩
 |s::r,D,at_,hD,hd,hs,hl=>by
  have oF:=hs s SI;simp only[List.length_cons]at hl;have hg:¬((at_:Int) <0∨2048<=(at_:Int)∨64<s.length):=by omega
  by_cases hz:D.armed=true∧D.left=0
  ·have e:bK D (at_:Int) s=({D with down:=true},4):=by unfold bK;rw[if_neg hg,if_pos (.inr hz)]
   rw[iT,e,if_neg (by show ¬(4:Int)=0;decide)];exact⟨⟨hD.UW,hD.UX,hD.l0⟩,by simp,.inr ⟨by show ¬(4:Int)=0;decide,rfl⟩⟩
  ·have e:bK D (at_:Int) s=({D with left:=if D.armed then D.left-1 else D.left,waits:=D.waits++[((at_:Int),pad s)]},0):=by unfold bK;rw[if_neg hg,if_neg (by rw[hd];simpa using hz)]
   have hD2:=wo hD (at_:Int) (bs:=s);rw[iT,e,if_pos rfl];rw[e]at hD2;have ih:=Kj r _ (at_+1) hD2 hd (λx hx=>hs x (by simp[hx])) OM;simp only[List.length_append,List.length_cons,List.length_nil]at ih|-;rw[show((at_:Int)+1)=((at_+1:Nat):Int)from by omega];exact⟨ih.1,by omega,ih.2.2⟩
theorem NA{n:Nat}(h:n<=3000):1<=fI n∧fI n<=58:=by
 unfold fI;split<;>omega
theorem R4{D:DS}{cnt used:Nat}(h:AP D cnt used)(b:List UInt8):AP (cO D cnt used b).1 (cO D cnt used b).2.1 (cO D cnt used b).2.2.1:=by
 unfold cO
 split
 ·exact h
 ·rename_i h3
  split
  ·exact h
  ·rename_i hr
   have hp:=NA (n:=b.length) OM;obtain⟨hS1,hS2⟩:=yP (cnt+1) b (N:=fI b.length);generalize jd (cnt+1) b (fI b.length)=ss at hS1 hS2|-;simp only;by_cases hd:D.down=true
   ·have e:iT D (used:Int) ss=(D,4):=by
     match ss,hS1 with
     | [],hS1=>simp at hS1;omega
     |s::r,_=>
      rw[iT,Ki hd OM (hS2 s SI)];rfl
    rw[e];simp only[show(4:Int)≠0 by decide,if_false];exact h
   ·have hw:D.waits=[]:=h.rest.resolve_left hd
    have hk:=Kj ss D used h.ok (by simpa using hd) hS2 OM;have hu:=h.u;have hc:=h.cu;rw[hw]at hk;simp only[List.length_nil,Nat.zero_add]at hk;rcases hk.2.2 with⟨h0,hdn⟩ | ⟨h0,hdn⟩
    ·rw[if_pos h0]
     have hs:=Da hk.1;have e:di (iT D (used:Int) ss).1=({(iT D (used:Int) ss).1 with sure:=pE (iT D (used:Int) ss).1.sure (iT D (used:Int) ss).1.waits,waits:=[]},0):=by unfold di;rw[if_neg (by rw[hdn];simp)]
     rw[e]at hs|-;rw[if_pos rfl];exact⟨hs,by show cnt+1<=used+fI b.length;omega,by show used+fI b.length<=2048;omega,by simp,.inr rfl⟩
    ·rw[if_neg h0]
     exact⟨hk.1,hc,hu,by show(iT D (used:Int) ss).1.waits.length<=60;omega,.inl hdn⟩
theorem fO{w0 w':World}{bs:List UInt8}(h1:1<=bs.length){e:Ending}(h:∃ad cd,e=.returned (.slice ad bs.length cd)∧bs.length<=2000∧Inv [] w0 w' [bf 5 1 (.slice ad bs.length cd) bs.length (bs.map bv)]):
  ∃g cd,e=.returned (.slice (some ⟨g,0,none⟩) bs.length cd)∧1<=bs.length∧bs.length<=2000∧bs.length<=cd∧Inv [] w0 w' [bf 5 1 (.slice (some ⟨g,0,none⟩) bs.length cd) bs.length (bs.map bv)]:=by
 obtain⟨ad,cd,he,hl,hI⟩:=h;obtain⟨g,rfl⟩:=gu hI aA (by rw[List.length_map];omega);exact⟨g,cd,he,h1,hl,C8 hI aA,hI⟩
theorem gT(z:Int)(zs:List Int)(l:List UInt8):1<=(ag (z::zs)++l).length:=by
 exact W95
theorem DW(z:Int)(zs:List Int):1<=(ag (z::zs)).length:=by
 exact W95
theorem aas(w0:World)(x:Rec)(hx:x.Len):Calls prog 151 #[ia x.mP] w0 λe w'=>∃g cd,e=.returned (.slice (some ⟨g,0,none⟩) x.W.length cd)∧1<=x.W.length∧x.W.length<=2000∧x.W.length<=cd∧Inv [] w0 w' [bf 5 1 (.slice (some ⟨g,0,none⟩) x.W.length cd) x.W.length (x.W.map bv)]:=by
 have n2:=aa 2;have n3:=aa 3;have n7:=aa 7;have n174:=aa 174;cases x with
 |row r=>exact(adA w0 0 r 0 (aj 2) (aj 3) (aj 7) hx n2 n3 n7).mono λe w' h=>fO (gT _ _ _) h
 |eD w r=>exact(adB w0 w r 0 (aj 2) (aj 3) (aj 7) hx.2 n2 n3 n7).mono λe w' h=>fO (gT _ _ _) h
 |bR w=>exact(adC w0 w (aj 174) 0 (aj 2) (aj 3) (aj 7) n174 n2 n3 n7).mono λe w' h=>fO (DW _ _) h
 |tL ep b=>exact(adD w0 0 (aj 174) ep b (aj 3) (aj 7) n174 hx n3 n7).mono λe w' h=>fO (gT _ _ _) h
 |take ep b c=>exact(adE w0 0 (aj 174) ep b c (aj 7) n174 hx.1 hx.2 n7).mono λe w' h=>fO (by show 1<=(VP ep b c).length;unfold VP;rw[List.append_assoc];exact gT _ _ _) h
 |view v=>exact(adF w0 0 (aj 174) 0 (aj 2) (aj 3) v n174 n2 n3 hx).mono λe w' h=>fO (gT _ _ _) h
theorem aat(w0:World)(x:gZ)(hx:x.Len):Calls prog 215 #[ia x.mP] w0 λe w'=>∃g cd,e=.returned (.slice (some ⟨g,0,none⟩) x.W.length cd)∧1<=x.W.length∧x.W.length<=2000∧x.W.length<=cd∧Inv [] w0 w' [bf 5 1 (.slice (some ⟨g,0,none⟩) x.W.length cd) x.W.length (x.W.map bv)]:=by
 have n2:=aa 2;have n3:=aa 3;have n7:=aa 7;have n174:=aa 174;cases x with
 |row w r=>exact(adG w0 w r 0 0 (aj 2) (aj 2) (aj 3) (aj 7) hx.2 n2 n2 n3 n7).mono λe w' h=>fO (gT _ _ _) h
 |kept n=>exact(adH w0 0 (aj 174) n 0 (aj 2) (aj 2) (aj 3) (aj 7) n174 n2 n2 n3 n7).mono λe w' h=>fO (DW _ _) h
 |news w r=>exact(adI w0 w r 0 0 (aj 2) (aj 2) (aj 3) (aj 7) hx.2 n2 n2 n3 n7).mono λe w' h=>fO (gT _ _ _) h
 |ask ep b=>exact(adJ w0 0 (aj 174) 0 ep b (aj 2) (aj 3) (aj 7) n174 hx n2 n3 n7).mono λe w' h=>fO (gT _ _ _) h
 |promise ep b h c=>exact(adK w0 0 (aj 174) 0 ep b h c (aj 7) n174 hx.1 hx.2.1 hx.2.2 n7).mono λe w' h=>fO (by show 1<=(PO ep b _ c).length;unfold PO;rw[List.append_assoc,List.append_assoc];exact gT _ _ _) h
 |put ep b c=>exact(adL w0 0 (aj 174) 0 ep b (aj 2) c (aj 7) n174 hx.1 n2 hx.2 n7).mono λe w' h=>fO (by show 1<=(PQ ep b c).length;unfold PQ;rw[List.append_assoc];exact gT _ _ _) h
 |taken ep b=>exact(adM w0 0 (aj 174) 0 ep b (aj 2) (aj 3) (aj 7) n174 hx n2 n3 n7).mono λe w' h=>fO (gT _ _ _) h
 |view v=>exact(adN w0 0 (aj 174) 0 0 (aj 2) (aj 2) (aj 3) v n174 n2 n2 n3 hx).mono λe w' h=>fO (gT _ _ _) h
 |bR w v=>exact(adO w0 w (aj 174) 0 0 (aj 2) (aj 2) (aj 3) v n174 n2 n2 n3 hx.2).mono λe w' h=>fO (gT _ _ _) h
 |iU w r=>exact(adP w0 w r 0 0 (aj 2) (aj 2) (aj 3) (aj 7) hx.2 n2 n2 n3 n7).mono λe w' h=>fO (gT _ _ _) h
section
variable {T:List Nat}{w0 w w':World}{m m':List aG}{r r' x x' y y' z:aG}
theorem PZ{f b l vb rc:Nat}{ra:Option Addr}(S:RS)(D:DS)(cnt used:Nat)(B:Nat->List (List UInt8)):rb f b l vb ra rc {S with D:=D,cnt:=cnt,used:=used,B:=B}=rb f b l vb ra rc S:=by
 have e:dB {S with D:=D,cnt:=cnt,used:=used,B:=B}=dB S:=propext ⟨λh=>⟨h.view,h.own,h.bV,h.sl,h.acc,h.book,h.told,h.last,h.aK⟩,λh=>⟨h.view,h.own,h.bV,h.sl,h.acc,h.book,h.told,h.last,h.aK⟩⟩;unfold rb;rw[e];rfl
theorem aau(hI:Inv T w0 w (y::m))(hm:x∈m):Inv (two x y).own w w [two x y]:=by
 obtain⟨m1,m2,rfl⟩:=List.append_of_mem hm;have h:Inv T w0 w (x::(y::m1++m2)):=Inv.bring (l1:=y::m1) hI;exact(h.dO (x:=x) (r:=y) (m:=m1++m2)).at_ aA
theorem aav(hI:Inv T w0 w (y::m))(hJ:Inv (two x y).own w w' [two x' y'])(hu:aR x x' m m'):Inv T w0 w' (y'::m'):=by
 obtain⟨m1,m2,rfl,rfl⟩:=hu.split;have h:Inv T w0 w (x::(y::m1++m2)):=Inv.bring (l1:=y::m1) hI;have h2:Inv T w0 w' (x'::(y'::m1++m2)):=((h.dO (x:=x) (r:=y) (m:=m1++m2)).on hJ jy).dz;exact Inv.sink (l1:=y'::m1) h2
variable {X:RX}{Y:RY}{S:RS}
theorem aaw(h:Inv T w0 w [two (ah X Y S) y]):Inv T w0 w [two (lg X.l X.d X.mr Y.wb S.D S.cnt S.used) y,lI (AP S.D S.cnt S.used),two (VV X Y.q S.B) (blk X.cb 86 X.cc),mK Y.ra Y.rc S.aV,rb X.f X.b X.l Y.vb Y.ra Y.rc S]:=by
 have h1:=h.dz.dz.jr.dz.jr.dz.dz.jr;exact(Inv.bring (l1:=[_,_,_,_,_]) h1).jr.dO
theorem V7{S2:RS}{wb:Option Nat}(h:Inv T w0 w [two (lg X.l X.d X.mr wb S2.D S2.cnt S2.used) y,lI (AP S2.D S2.cnt S2.used),two (VV X Y.q S2.B) (blk X.cb 86 X.cc),mK Y.ra Y.rc S2.aV,rb X.f X.b X.l Y.vb Y.ra Y.rc S2]):Inv T w0 w [two (ah X {Y with wb:=wb} S2) y]:=by
 have h1:Inv T w0 w ([_,_,_,_,_]++[y]):=(Inv.bring (l1:=[_]) h.dz).toEnd;exact(h1.jr.dO.dO.jr.dO.jr.dO).dO
theorem V8{g cp n:Nat}{b:List UInt8}(hI:Inv T w0 w (bf 5 1 (.slice (some ⟨g,0,none⟩) n cp) n (b.map bv)::m))(hm:ah X Y S∈m)(hn:b.length=n)(hc:n<=cp)(hl1:1<=n):
  Calls prog 150 #[.pointer (some ⟨X.l,0,none⟩),.slice (some ⟨g,0,none⟩) n cp] w λe w'=>∃kS,e=.returned (.int .i64 (cO S.D S.cnt S.used b).2.2.2)∧
   ∀m',aR (ah X Y S) (ah X {Y with wb:=kS} {S with D:=(cO S.D S.cnt S.used b).1,cnt:=(cO S.D S.cnt S.used b).2.1,used:=(cO S.D S.cnt S.used b).2.2.1}) m m'->Inv T w0 w' (bf 5 1 (.slice (some ⟨g,0,none⟩) n cp) n (b.map bv)::m'):=by
 subst hn;have hP:=aau hI hm;have hQ:=aaw hP;have hO:AP S.D S.cnt S.used:=hQ.sat (lI (AP S.D S.cnt S.used)) SI;have hcu:=hO.cu;have hu:=hO.u;have hw:=hO.w60;refine(ZG w X.l X.d X.mr Y.wb S.D S.cnt S.used _ (hQ.at_ aA) hO.ok OM OM hu g 0 cp b (λw h=>ja h) hc hl1).mono ?_;rintro e w' ⟨kS,rfl,hJ⟩;refine⟨kS,rfl,λm' hu=>aav hI ?_ hu⟩;have h2:=hQ.on hJ jy;have h3:=(Inv.bring (l1:=[_]) h2).F7 (λ_=>R4 hO b);rw[<-PZ S (cO S.D S.cnt S.used b).1 (cO S.D S.cnt S.used b).2.1 (cO S.D S.cnt S.used b).2.2.1 S.B]at h3;exact V7 (S2:={S with D:=(cO S.D S.cnt S.used b).1,cnt:=(cO S.D S.cnt S.used b).2.1,used:=(cO S.D S.cnt S.used b).2.2.1}) h3.jr
end
section
variable (w0:World)(X:RX)(Y:RY)(S:RS)
theorem aci(x:Rec)(hx:x.Len)(hI:Inv (ah X Y S).own w0 w0 [ah X Y S]):Calls prog 108 #[.pointer (some ⟨X.b,0,none⟩),ia x.mP] w0 λe w'=>∃kS,e=.returned (.int .i64 (eT S x).2)∧Inv (ah X Y S).own w0 w' [ah X {Y with wb:=kS} (eT S x).1]:=by
 have hxl:x.mP.length=189:=by
  cases x<;>simp only[Rec.Len]at hx<;>simp only[Rec.mP,aW,List.length_append,List.length_cons,List.length_nil,aa]<;>omega
 go_enter func108,ntmps108;go_upto_region 1 with(refine YX ?_;intro bx w hI)
 (refine ZR [5,6,7] [0,1,2,3] [5] [0,1,2,3,4,5,6,7] (λw=>Inv (ah X Y S).own w0 w [ib bx 143 x.mP,ah X Y S]) hI ?_;intro wd hI)
 (repeat(first| (refine ZA ?_;go_wp2_with(go_at_call 150;(with_reducible refine(V8 hI aM rfl hn2 hn1).mono ?_);rintro e w1 ⟨kS,rfl,hJ⟩;replace hI:=hJ _ iR;clear hJ);refine ji ?_) | (refine ZB ?_;go_wp2_with(go_at_call 151;(with_reducible refine(aas _ x hx).mono ?_);rintro e w1 ⟨g,cd,rfl,hn1,hn3,hn2,hJ⟩;replace hI:=hI.seq hJ;simp only[List.cons_append,List.nil_append]at hI;clear hJ);(refine jN (hI.sub SB) ?_)) | (refine ZC ?_;go_wp2_with(refine YL ?_);refine h_ ?_) | ((refine jB RF RF RF RF (hI.sub SB) (by intro w (hI:Inv _ _ w _);first|with_reducible exact O6 hI| (unfold fP;go_simp;with_reducible rfl)) ?_);(simp only[QN]))));refine fC ?_
 go_wp2_with(fail);go_ret;exact⟨kS,rfl,hI.sub (.cons _ (.cons _ (.refl _)))⟩
end
end
section
open A (QE jJ bu)
section
variable {T:List Nat}{w0 w w':World}{m m':List aG}{X:RX}{Y:RY}{S:RS}
theorem adW(hI:Inv T w0 w m)(hm:ah X Y S∈m):w.heap[X.cb]? =some (.cells X.cc.toArray 86 (0,0)):=(hI.sat _ hm).2.2.2.2
theorem NB{P:Program}{a:Act}{dst:Option Tmp}{x:Operand}{t ty off:Nat}{pos:String}{af:Array Edge}{gd:Option (Nat×Bool)}{v:Value}(hI:Inv T w0 w m)(hx:a.eval x=.pointer (some ⟨X.cb,off,none⟩))(hm:ah X Y S∈m)(hT:jg P t)(hv:X.cc[off]? =some v):
  fP P ⟨dst,.load t x,ty,pos,af,gd⟩ a w v:=by
 unfold fP execOp;simp only[hx,Instr.loadAt,Instr.sureAddr,Sem.run_bind,Sem.run_pure,Result.andThen_ok,gI (v:=v) hT (adW hI hm) off hv]
theorem V9(hI:Inv T w0 w m)(hm:ah X Y S∈m):Calls prog 61 #[.pointer (some ⟨X.d,0,none⟩)] w λe w'=>e=.returned (.bool S.D.down)∧w'=w:=
 Fu w X.d X.mr Y.wb S.D (hI.sat _ hm).2.2.1.2.2
theorem aax(hI:Inv T w0 w m)(hm:ah X Y S∈m):(∀i,(Y.q i).map (λx=>x.2.2)=S.B i)∧Inv (jJ 132 X.p X.pb X.c Y.q).own w w [jJ 132 X.p X.pb X.c Y.q]∧
  ∀ {w' q' B'},Inv (jJ 132 X.p X.pb X.c Y.q).own w w' [jJ 132 X.p X.pb X.c q']->(∀i,(q' i).map (λx=>x.2.2)=B' i)->∀m',aR (ah X Y S) (ah X {Y with q:=q'} {S with B:=B'}) m m'->Inv T w0 w' m':=by
 have hP:=hI.at_ hm;have h1:=jT hP aA;have h2:=jT h1 aA;have h3:=jT h2 aA;have h4:=rD h3 aA;have h5:=jT h4 aA;refine⟨(h4.sat _ aA).1,h5,λ{w' q' B'} hJ hB m' hu=>?_⟩;have k4:Inv (VV X Y.q S.B).own w w' [VV X q' B']:=(wE h4 hJ jy).ain (λ_=>hB);have k3:=y8 h3 k4 jy;have k2:=wE h2 k3 jy;have k1:=wE h1 k2 jy;have kP:=wE hP k1 jy;rw[<-PZ S S.D S.cnt S.used B']at kP;exact hI.on kP hu
theorem aay{t:Nat}{a:Option Addr}{cp:Nat}{bs:List UInt8}(hI:Inv T w0 w m)(hX:zG X)(ht:t<5)(hft:X.f≠t)(hr:Rd w a (bs.map bv))(hl:bs.length<=3000)(hm:ah X Y S∈m):
  Calls prog 214 #[.pointer (some ⟨X.p,0,none⟩),.int .i64 (X.f:Int),.int .i64 (t:Int),.slice a bs.length cp] w λe w'=>∃q' b,e=.returned (.bool b)∧
   ∀m',aR (ah X Y S) (ah X {Y with q:=q'} {S with B:=gL S.B (X.f*5+t) (F4 (S.B (X.f*5+t)) (A.o6 (UInt8.ofNat X.f) (UInt8.ofNat t) bs))}) m m'->Inv T w0 w' m':=by
 obtain⟨hB,h5,up⟩:=aax hI hm;have hlen:(Y.q (X.f*5+t)).length=(S.B (X.f*5+t)).length:=by rw[<-hB];simp
 by_cases hroom:(Y.q (X.f*5+t)).length <8
 ·refine(A.Z_ w X.p X.pb X.c Y.q X.f t _ hX.f5 ht rfl hft h5 a cp bs hr hl hroom).mono ?_
  rintro e w' ⟨rfl,a1,c1,hJ⟩;refine⟨_,true,rfl,up hJ λi=>?_⟩;by_cases hi:i=X.f*5+t
  ·subst hi
   rw[bJ,bJ,List.map_append,hB,F4,if_pos OM];rfl
  ·rw[bZ _ _ hi,bZ _ _ hi];exact hB i
 ·refine(A.Nk w X.p X.pb X.c Y.q X.f t _ hX.f5 ht rfl hft h5 a cp bs hr hl OM).mono ?_
  rintro e w' ⟨rfl,hJ⟩;refine⟨Y.q,false,rfl,up hJ λi=>?_⟩;by_cases hi:i=X.f*5+t
  ·subst hi
   rw[bJ,F4,if_neg OM];exact hB _
  ·rw[bZ _ _ hi];exact hB i
end
section
variable (w0:World)(X:RX)(Y:RY)(S:RS)(hX:zG X)
include hX
theorem adX(M:gZ)(hM:M.Len)(t:Nat)(mR:t<5)(hft:X.f≠t)(hI:Inv (ah X Y S).own w0 w0 [ah X Y S]):Calls prog 213 #[.agg #[.pointer (some ⟨X.cb,0,none⟩),.int .i64 (X.f:Int)],.int .i64 (t:Int),ia M.mP] w0 λe w'=>∃q',e=.returned (.tuple #[])∧Inv (ah X Y S).own w0 w' [ah X {Y with q:=q'} (dM X.f S t M)]:=by
 have zF:M.mP.length=192:=by
  cases M<;>simp only[gZ.Len]at hM<;>simp only[gZ.mP,aB,List.length_append,List.length_cons,List.length_nil,aa]<;>omega
 have rP:=hX.f5;have hf0:(X.f:Int) <5:=by omega
 have hfn:(X.f:Int).toNat=X.f:=by simp
 cases hdn:S.D.down
 ·have hF:Hid (dM X.f S t M={S with B:=gL S.B (X.f*5+t) (F4 (S.B (X.f*5+t)) (A.o6 (UInt8.ofNat X.f) (UInt8.ofNat t) M.W))}):=HD (by rw[dM,if_neg (by rw[hdn];simp)])
  rw[hF.out];clear hF;go_enter func213,ntmps213;go_upto_region 1 with(first|(with_reducible refine bN (cs:=[.pointer (some ⟨X.cb,0,none⟩),.int .i64 (X.f:Int)]) hI RF ?_;intro bo w hI)|refine YX ?_;intro bx w hI)
  refine ZT [6,7,8,9] 10 hI ?_;intro wd hI
  (repeat(refine ZQ ?_;go_wp2_with(first|with_reducible refine au (NB hI RF aX aO.out hX.eF) ?_|go_at_call 61;refine KR (V9 hI aX) ?_;(rw[hdn])|refine YL ?_);refine ZP ?_))
  go_upto_region 2 with(fail)
  (refine ZR [9,10] [0,1,2,3,4,5,6,7] [9] [0,1,2,3,4,5,6,7,8,9,10] (λw=>Inv (ah X Y S).own w0 w [ib bx 158 M.mP,blk bo 105 [.pointer (some ⟨X.cb,0,none⟩),.int .i64 (X.f:Int)],ah X Y S]) hI ?_;intro wd hI)
  (repeat(first| (refine ZA ?_;go_wp2_with(go_at_call 214;(with_reducible refine(aay hI hX mR hft (hI.rd aA) OM mU).mono ?_);rintro e w1 ⟨q',bq,rfl,hJ⟩;replace hI:=hJ _ Ty;clear hJ);refine ji ?_) | (refine ZB ?_;go_wp2_with(go_at_call 215;(with_reducible refine(aat _ M hM).mono ?_);rintro e w1 ⟨g,cd,rfl,hn1,hn3,hn2,hJ⟩;replace hI:=hI.seq hJ;simp only[List.cons_append,List.nil_append]at hI;clear hJ);(refine jN (hI.sub SB) ?_)) | (refine ZC ?_;go_wp2_with(refine YL ?_);refine h_ ?_) | ((refine jB RF RF RF RF (hI.sub SB) (by intro w (hI:Inv _ _ w _);first| (with_reducible exact NB hI RF aX aO.out hX.net) | (with_reducible exact acH hI) | (unfold fP;go_simp;with_reducible rfl)) ?_);(simp only[QN]))));refine fC ?_
  go_wp2_with(fail);exact⟨rfl,_,gD KF _ _,q',rfl,hI.sub (.cons _ (.cons _ (.cons _ (.refl _))))⟩
 ·have hF:Hid (dM X.f S t M=S):=HD (by rw[dM,if_pos hdn])
  rw[hF.out];clear hF;go_enter func213,ntmps213;go_upto_region 1 with(first|(with_reducible refine bN (cs:=[.pointer (some ⟨X.cb,0,none⟩),.int .i64 (X.f:Int)]) hI RF ?_;intro bo w hI)|refine YX ?_;intro bx w hI)
  refine ZT [6,7,8,9] 10 hI ?_;intro wd hI
  (repeat(refine ZQ ?_;go_wp2_with(first|with_reducible refine au (NB hI RF aX aO.out hX.eF) ?_|go_at_call 61;refine KR (V9 hI aX) ?_;(rw[hdn])|refine YL ?_);refine ZP ?_))
  go_wp2_with(fail);exact⟨rfl,_,gD KF _ _,Y.q,rfl,hI.sub (.cons _ (.cons _ (.refl _)))⟩
end
end
section
open A (QE jJ bu)
def oV(X:RX):Value:=.iface 105 (.agg #[.pointer (some ⟨X.cb,0,none⟩),.int .i64 (X.f:Int)])
theorem aaz(w:World)(X:RX):(binOp .neq 148 (oV X) .nilIface).run prog w=.ok (.bool true) w:=by rfl
theorem adY{a:Act}{w:World}{x y:Operand}{dst:Option Tmp}{ty t':TypeId}{pos:String}{af:Array Edge}{gd:Option (Nat×Bool)}{X:RX}(hx:a.eval x=oV X)(hy:a.eval y=.nilIface):fP prog ⟨dst,.binOp .neq 148 x y t',ty,pos,af,gd⟩ a w (.bool true):=by
 unfold fP execOp;have hg:(eqGuard BinOp.neq 148 x y (oV X) Value.nilIface).run prog w=.ok () w:=by simp[eqGuard,oV,Sem.run_bind,Sem.run_pure]
 simp only[hx,hy,Sem.run_bind,aaz,Result.andThen_ok,Sem.run_pure,hg]
theorem R5(w:World)(X:RX):(method 385 105 (.agg #[.pointer (some ⟨X.cb,0,none⟩),.int .i64 (X.f:Int)]) "Send").run prog w=.ok (213,.agg #[.pointer (some ⟨X.cb,0,none⟩),.int .i64 (X.f:Int)]) w:=by kernel_rfl
section
variable (w0:World)(X:RX)(Y:RY)(S:RS)(hX:zG X)
include hX
theorem P5(M:gZ)(hM:M.Len)(t:Nat)(mR:t<5)(hft:X.f≠t)(hI:Inv (ah X Y S).own w0 w0 [ah X Y S]):Calls prog 122 #[.pointer (some ⟨X.b,0,none⟩),oV X,.int .i64 (t:Int),ia M.mP] w0 λe w'=>∃Y',e=.returned (.tuple #[])∧Inv (ah X Y S).own w0 w' [ah X Y' (dM X.f S t M)]:=by
 have zF:M.mP.length=192:=by
  cases M<;>simp only[gZ.Len]at hM<;>simp only[gZ.mP,aB,List.length_append,List.length_cons,List.length_nil,aa]<;>omega
 have hne:((t:Int)==(X.f:Int))=false:=by simp;omega
 have hm:=λw=>R5 w X
 have hoo:Hid (oV X=.iface 105 (.agg #[.pointer (some ⟨X.cb,0,none⟩),.int .i64 (X.f:Int)])):=HD rfl;rw[hoo.out];go_enter func122,ntmps122;go_wp2_with(first|refine YL ?_|refine YX ?_;intro bx w hI|with_reducible refine au (adY (X:=X) RF RF) ?_|go_at_call 213;go_loud (with_reducible refine(adX _ X Y S hX M hM t mR hft (hI.at_ aM)).mono ?_);rintro e w1 ⟨q',rfl,hJ⟩;replace hI:=hI.on hJ iR;clear hJ);exact⟨rfl,_,gD KF _ _,_,rfl,hI.tl⟩
end
end
section
open A (QE jJ bu)
section
variable {w n e:Int}{r b h c v:List Int}
theorem z_(l:List (Nat×List Int)):av (aj 192) l=av (aB 0 0 (aj 174) 0 0 (aj 2) (aj 2) (aj 3) (aj 7)) l:=by rw[eG]
theorem P6(k:Int)(hr:r.length=174):av (aj 192) [(0,[k]),(1,[w]),(2,r)]=aB k w r 0 0 (aj 2) (aj 2) (aj 3) (aj 7):=by
 rw[z_];simp only[av];rw[bD,B_,eX (aa 174) hr]
theorem V_:av (aj 192) [(0,[1]),(176,[n])]=(gZ.kept n).mP:=by
 rw[z_];simp only[av];rw[bD,Mo (aa 174)];rfl
theorem Ul(hv:v.length=7):av (aj 192) [(0,[7]),(185,v)]=(gZ.view v).mP:=by
 rw[z_];simp only[av];rw[bD,eB (aa 174) (aa 2) (aa 2) (aa 3) (aa 7) hv];rfl
theorem adZ(hv:v.length=7):av (aj 192) [(0,[8]),(1,[w]),(185,v)]=aB 8 w (aj 174) 0 0 (aj 2) (aj 2) (aj 3) v:=by
 rw[z_];simp only[av];rw[bD,B_,eB (aa 174) (aa 2) (aa 2) (aa 3) (aa 7) hv]
theorem Kk(k:Int)(hb:b.length=2):av (aj 192) [(0,[k]),(177,[e]),(178,b)]=aB k 0 (aj 174) 0 e b (aj 2) (aj 3) (aj 7):=by
 rw[z_];simp only[av];rw[bD,Ca (aa 174),ek (aa 174) (aa 2) hb]
theorem F9(hb:b.length=2)(hh:h.length=2)(hc:c.length=3):av (aj 192) [(0,[4]),(177,[e]),(178,b),(180,h),(182,c)]=(gZ.promise e b h c).mP:=by
 rw[z_];simp only[av];rw[bD,Ca (aa 174),ek (aa 174) (aa 2) hb,eY (aa 174) hb (aa 2) hh,eu (aa 174) hb hh (aa 3) hc];rfl
end
theorem R6(f:Nat)(S:RS)(t:Nat)(M:gZ):∃B,dM f S t M={S with B:=B}:=by
 unfold dM
 split
 ·exact⟨S.B,rfl⟩
 ·exact⟨_,rfl⟩
theorem sF(w0:World)(X:RX)(Y:RY)(S:RS)(hX:zG X)(M:gZ)(hM:M.Len)(z:List Int)(hz:z=M.mP)(t:Nat)(mR:t<5)(hft:X.f≠t)(hI:Inv (ah X Y S).own w0 w0 [ah X Y S]):Calls prog 122 #[.pointer (some ⟨X.b,0,none⟩),oV X,.int .i64 (t:Int),ia z] w0 λe w'=>∃Y' B',e=.returned (.tuple #[])∧Hid (dM X.f S t M={S with B:=B'})∧Inv (ah X Y S).own w0 w' [ah X Y' {S with B:=B'}]:=by
 subst hz;refine(P5 w0 X Y S hX M hM t mR hft hI).mono ?_;rintro e w' ⟨Y',rfl,hJ⟩;obtain⟨B',hB⟩:=R6 X.f S t M;rw[hB]at hJ;exact⟨Y',B',rfl,HD hB,hJ⟩
def lL(p:Nat->Bool)(g:RS->Nat->RS)(S:RS)(j:Nat):RS:=((List.range j).filter p).foldl g S
theorem xD(p:Nat->Bool)(g:RS->Nat->RS)(S:RS)(j:Nat):lL p g S (j+1)=if p j=true then g (lL p g S j) j else lL p g S j:=by
 unfold lL;rw[List.range_succ,List.filter_append,List.foldl_append];by_cases h:p j=true
 ·rw[if_pos h];simp[h]
 ·rw[if_neg h];simp[h]
section
variable (w0:World)(X:RX)(Y:RY)(S:RS)(hX:zG X)
include hX
theorem NC(v:List Int)(hv:v.length=7)(hI:Inv (ah X Y S).own w0 w0 [ah X Y S]):Calls prog 81 #[.pointer (some ⟨X.b,0,none⟩),oV X,ia v] w0 λe w'=>∃Y' B',e=.returned (.tuple #[])∧Hid (gG X.f S v={S with B:=B'})∧Inv (ah X Y S).own w0 w' [ah X Y' {S with B:=B'}]:=by
 have rP:=hX.f5;obtain⟨M,hM0⟩:=EZ (gZ.view v);have hM:M.Len:=by rw[hM0];exact hv
 have hz:Hid (av (aj 192) [(0,[7]),(185,v)]=M.mP):=HD (by rw[hM0];exact Ul hv);have hfin:Hid (gG X.f S v=lL (λi=>i≠X.f) (λS i=>dM X.f S i M) S 5):=HD (by rw[hM0];rfl);clear hM0;go_enter func81,ntmps81;go_upto_region 2 with(refine YX ?_;intro bx w hI)
 go_loopg [6,7] 5 (λkk s6 s7 wr=>∃(j:Nat) (Y1:RY) (B1:Nat->List (List UInt8)),kk=5-j∧j<=5∧s7=.int .i64 (j:Int)∧Hid (lL (λi=>i≠X.f) (λS i=>dM X.f S i M) S j={S with B:=B1})∧Inv (ah X Y S).own w0 wr [ib bx 30 v,ah X Y1 {S with B:=B1}])
 case atStart=>exact⟨0,Y,S.B,rfl,by omega,rfl,HD rfl,hI⟩
 case round=>
  clear hI;obtain⟨j,Y1,B1,rfl,hj,rfl,hB1,hI⟩:=hrel;by_cases MK:j<5
  ·have hs:=HD (xD (λi=>i≠X.f) (λS i=>dM X.f S i M) S j)
   by_cases O8:j=X.f
   ·have hq:((j:Int) != (X.f:Int))=false:=by simp[O8]
    have hs2:Hid (lL (λi=>i≠X.f) (λS i=>dM X.f S i M) S (j+1)={S with B:=B1}):=HD (by rw[hs.out,if_neg (by simp[O8]),hB1.out]);clear hs hB1 O8;go_wp2_with(refine YL ?_);go_roundg (5- (j+1))
    case measure=>omega
    case rel=>exact⟨j+1,Y1,B1,rfl,by omega,by go_num,hs2,hI⟩
   ·have hq:((j:Int) != (X.f:Int))=true:=by simp;omega
    have hs2:Hid (lL (λi=>i≠X.f) (λS i=>dM X.f S i M) S (j+1)=dM X.f {S with B:=B1} j M):=HD (by rw[hs.out,if_pos (by simpa using O8),hB1.out]);clear hs hB1;go_wp2_with(first|refine YL ?_|go_at_call 122;refine KJ hI (sF _ X Y1 {S with B:=B1} hX M hM _ hz.out j OM OM (hI.at_ aM)) ?_;intro Y2 B2 w1 hB2 hI);go_roundg (5- (j+1))
    case measure=>omega
    case rel=>exact⟨j+1,Y2,B2,rfl,by omega,by go_num,HD (by rw[hs2.out,hB2.out]),hI⟩
  ·obtain rfl:j=5:=by omega
   go_wp2_with(fail);exact⟨rfl,_,gD KF _ _,Y1,B1,rfl,HD (by rw[hfin.out,hB1.out]),hI.tl⟩
theorem ND(x:List Int)(hx:x.length=174)(hI:Inv (ah X Y S).own w0 w0 [ah X Y S]):Calls prog 82 #[.pointer (some ⟨X.b,0,none⟩),oV X,ia x] w0 λe w'=>∃Y' B',e=.returned (.tuple #[])∧Hid (fu X.f S x={S with B:=B'})∧Inv (ah X Y S).own w0 w' [ah X Y' {S with B:=B'}]:=by
 have rP:=hX.f5;obtain⟨M,hM0⟩:=EZ (gZ.news X.f x);have hM:M.Len:=by rw[hM0];exact⟨rP,hx⟩
 have hz:Hid (av (aj 192) [(0,[2]),(1,[(X.f:Int)]),(2,x)]=M.mP):=HD (by rw[hM0];exact P6 2 hx);have hfin:Hid (fu X.f S x=lL (λi=>i≠X.f) (λS i=>dM X.f S i M) S 5):=HD (by rw[hM0];rfl);clear hM0;go_enter func82,ntmps82;go_upto_region 2 with(refine YX ?_;intro bx w hI)
 go_loopg [6,7] 5 (λkk s6 s7 wr=>∃(j:Nat) (Y1:RY) (B1:Nat->List (List UInt8)),kk=5-j∧j<=5∧s7=.int .i64 (j:Int)∧Hid (lL (λi=>i≠X.f) (λS i=>dM X.f S i M) S j={S with B:=B1})∧Inv (ah X Y S).own w0 wr [ib bx 41 x,ah X Y1 {S with B:=B1}])
 case atStart=>exact⟨0,Y,S.B,rfl,by omega,rfl,HD rfl,hI⟩
 case round=>
  clear hI;obtain⟨j,Y1,B1,rfl,hj,rfl,hB1,hI⟩:=hrel;by_cases MK:j<5
  ·have hs:=HD (xD (λi=>i≠X.f) (λS i=>dM X.f S i M) S j)
   by_cases O8:j=X.f
   ·have hq:((j:Int) != (X.f:Int))=false:=by simp[O8]
    have hs2:Hid (lL (λi=>i≠X.f) (λS i=>dM X.f S i M) S (j+1)={S with B:=B1}):=HD (by rw[hs.out,if_neg (by simp[O8]),hB1.out]);clear hs hB1 O8;go_wp2_with(refine YL ?_);go_roundg (5- (j+1))
    case measure=>omega
    case rel=>exact⟨j+1,Y1,B1,rfl,by omega,by go_num,hs2,hI⟩
   ·have hq:((j:Int) != (X.f:Int))=true:=by simp;omega
    have hs2:Hid (lL (λi=>i≠X.f) (λS i=>dM X.f S i M) S (j+1)=dM X.f {S with B:=B1} j M):=HD (by rw[hs.out,if_pos (by simpa using O8),hB1.out]);clear hs hB1;go_upto_region 5 with(refine YL ?_)
    refine ZT [9] 10 hI ?_;intro wd hI
    (repeat(refine ZQ ?_;go_wp2_with(first|go_at_call 122;refine KJ hI (sF _ X Y1 {S with B:=B1} hX M hM _ hz.out j OM OM (hI.at_ aM)) ?_;intro Y2 B2 w1 hB2 hI|refine YL ?_);refine ZP ?_))
    go_wp2_with(fail);go_roundg (5- (j+1))
    case measure=>omega
    case rel=>exact⟨j+1,Y2,B2,rfl,by omega,by go_num,HD (by rw[hs2.out,hB2.out]),hI⟩
  ·obtain rfl:j=5:=by omega
   go_wp2_with(fail);exact⟨rfl,_,gD KF _ _,Y1,B1,rfl,HD (by rw[hfin.out,hB1.out]),hI.tl⟩
end
end
section
open A (QE jJ bu)
def iN(n:Nat):Value:=.int .i64 (n:Int)
theorem wZ(w:World)(i:Nat)(hi:i<5):Calls prog 121 #[.int .i64 (i:Int)] w λe w'=>∃g c,e=.returned (.slice (some ⟨g,0,none⟩) 2 c)∧Inv [] w w' [bf 3 1 (.slice (some ⟨g,0,none⟩) 2 c) 2 ((dS i).map iN)]:=by
 refine(aaq w (i:Int) (by unfold B.aP;simp;omega)).mono ?_;rintro e w' ⟨a,c,rfl,hJ⟩;obtain⟨g,rfl⟩:=gu hJ aA (by simp[Ia]);refine⟨g,c,rfl,?_⟩;have e1:(Ia (i:Int)).map (Value.int .i64)=(dS i).map iN:=by simp[Ia,dS,iN]
 rwa [e1]at hJ
theorem Aa(x:Int)(j:Nat):(bits BinOp.and IntKind.i64 (x/2^j) 1==0)= !bt x j:=by
 rw[Cy,bt];rcases Int.emod_two_eq (x/2^j)with h|h<;>rw[h]<;>rfl
theorem Ab{α β:Type}(g:α->β->α)(S:α)(l:List β)(j:Nat)(x:β)(h:l[j]? =some x):(l.take (j+1)).foldl g S=g ((l.take j).foldl g S) x:=by
 rw[List.take_add_one,h];simp[List.foldl_append]
section
variable (w0:World)(X:RX)(Y:RY)(S:RS)(hX:zG X)
include hX
theorem F_(hI:Inv (ah X Y S).own w0 w0 [ah X Y S]):Calls prog 78 #[.pointer (some ⟨X.b,0,none⟩),oV X] w0 λe w'=>∃Y' B',e=.returned (.tuple #[])∧Hid (gz X.f S={S with B:=B'})∧Inv (ah X Y S).own w0 w' [ah X Y' {S with B:=B'}]:=by
 have rP:=hX.f5;have hL:=aQ hI aA;have hown:=hL.own;clear hL;obtain⟨M,hM0⟩:=EZ (gZ.row X.f S.own);have hM:M.Len:=by rw[hM0];exact⟨rP,hown⟩
 have hz:Hid (av (aj 192) [(0,[0]),(1,[(X.f:Int)]),(2,S.own)]=M.mP):=HD (by rw[hM0];exact P6 0 hown);have zF:M.mP.length=192:=by rw[<-hz.out,P6 0 hown];simp only[aB,List.length_append,List.length_cons,List.length_nil,aa];omega
 obtain⟨G,hG0⟩:∃G:RS->Nat->RS,G=λS w=>if bt S.kept w=true then S else dM X.f S w (.row X.f S.own):=⟨_,rfl⟩
 have hG:Hid (∀B w,G {S with B:=B} w=if bt S.kept w=true then {S with B:=B}else dM X.f {S with B:=B} w M):=HD (λB w=>by rw[hG0,hM0]);have hfin:Hid (gz X.f S=((dS X.f).take 2).foldl G S):=HD (by rw[hG0];rfl);clear hM0 hG0;go_enter func78,ntmps78;go_upto_region 0 with(fail)
 (refine ZR [9,10] [0,1,2,3,4,5,6,7,8] [9] [0,1,2,3,4,5,6,7,8,9,10] (λw=>Inv (ah X Y S).own w0 w [ah X Y S]) hI ?_;intro wd hI)
 (repeat(first| (refine ZA ?_;go_wp2_with(refine YS ?_;intro w hI);refine ji ?_) | (refine ZB ?_;go_wp2_with(refine YX ?_;intro bx w hI);(refine jN (hI.sub SB) ?_)) | ((refine jB RF RF RF RF (hI.sub SB) (by intro w (hI:Inv _ _ w _);first|with_reducible exact O5 hI|with_reducible exact Ck hI|with_reducible exact afy| (unfold fP;go_simp;with_reducible rfl)) ?_);(simp only[QN]))));refine fC ?_
 rw[hz.out]at hI;go_upto_region 2 with(first|refine YL ?_|go_at_call 121;refine KO hI (wZ _ X.f rP) ?_;intro g cw w1 hI)
 go_loopg [6,22] 2 (λkk s6 s22 wr=>∃(j:Nat) (Y1:RY) (B1:Nat->List (List UInt8)),kk=2-j∧j<=2∧s22=.int .i64 (j:Int)∧Hid (((dS X.f).take j).foldl G S={S with B:=B1})∧Inv (ah X Y S).own w0 wr [bf 3 1 (.slice (some ⟨g,0,none⟩) 2 cw) 2 ((dS X.f).map iN),ib bx 158 M.mP,ah X Y1 {S with B:=B1}])
 case atStart=>exact⟨0,Y,S.B,rfl,by omega,rfl,HD rfl,hI⟩
 case round=>
  clear hI;obtain⟨j,Y1,B1,rfl,hj,rfl,hB1,hI⟩:=hrel;by_cases hj2:j<2
  ·obtain⟨t,ht⟩:∃t,(dS X.f)[j]? =some t:=⟨_,List.getElem?_eq_getElem (by simp[dS];omega)⟩
   have mR:t<5∧X.f≠t:=by
    have:=List.mem_of_getElem? ht;simp only[dS,List.mem_cons,List.not_mem_nil,or_false]at this;omega
   obtain⟨mR,hft⟩:=mR;have hld:((dS X.f).map iN)[j]? =some (.int .i64 (t:Int)):=by rw[List.getElem?_map,ht];rfl
   have hs:=HD (Ab G S (dS X.f) j t ht);clear ht;cases hk:bt S.kept t
   ·have hs2:Hid (((dS X.f).take (j+1)).foldl G S=dM X.f {S with B:=B1} t M):=HD (by rw[hs.out,hB1.out,hG.out,if_neg (by rw[hk];simp)])
    have hkq:=Aa S.kept t;rw[hk]at hkq;simp only[Bool.not_false,Bool.not_true]at hkq;clear hs hB1 hG;go_wp2_with(first|refine YL ?_|go_at_call 122;refine KJ hI (sF _ X Y1 {S with B:=B1} hX M hM _ rfl t OM OM (hI.at_ aX)) ?_;intro Y2 B2 w1 hB2 hI|with_reducible refine aJ hI RF aA (aO.out (t:=3)) hld ?_);go_roundg (2- (j+1))
    case measure=>omega
    case rel=>exact⟨j+1,Y2,B2,rfl,by omega,by go_num,HD (by rw[hs2.out,hB2.out]),hI⟩
   ·have hs2:Hid (((dS X.f).take (j+1)).foldl G S={S with B:=B1}):=HD (by rw[hs.out,hB1.out,hG.out,if_pos hk])
    have hkq:=Aa S.kept t;rw[hk]at hkq;simp only[Bool.not_false,Bool.not_true]at hkq;clear hs hB1 hG;go_wp2_with(first|refine YL ?_|with_reducible refine aJ hI RF aA (aO.out (t:=3)) hld ?_);go_roundg (2- (j+1))
    case measure=>omega
    case rel=>exact⟨j+1,Y1,B1,rfl,by omega,by go_num,hs2,hI⟩
  ·obtain rfl:j=2:=by omega
   go_wp2_with(fail);exact⟨rfl,_,gD KF _ _,Y1,B1,rfl,HD (by rw[hfin.out,hB1.out]),hI.sub (.cons _ (.cons _ (.refl _)))⟩
end
end
section
open A (QE jJ bu)
theorem aaA{e:Int}:av (aj 8) [(0,[e])]=pI e (aj 2) (aj 2) (aj 3):=by rfl
theorem Ac(l:List (Nat×List Int)):av (aj 189) l=av (aW 0 0 (aj 174) 0 (aj 2) (aj 3) (aj 7)) l:=by rw[jG]
theorem agy{r:List Int}(hr:r.length=174):av (aj 189) [(0,[0]),(2,r)]=(Rec.row r).mP:=by
 rw[Ac];simp only[av];rw[dJ,iB (aa 174) hr];rfl
theorem Wd{w:Nat}{r:List Int}(hr:r.length=174):av (aj 189) [(0,[1]),(1,[(w:Int)]),(2,r)]=(Rec.eD w r).mP:=by
 rw[Ac];simp only[av];rw[dJ,BX,iB (aa 174) hr];rfl
theorem ad1{w:Nat}:av (aj 189) [(0,[2]),(1,[(w:Int)])]=(Rec.bR w).mP:=by
 rw[Ac];simp only[av];rw[dJ,BX];rfl
theorem acj{e:Int}{b:List Int}(hb:b.length=2):av (aj 189) [(0,[3]),(176,[e]),(177,b)]=(Rec.tL e b).mP:=by
 rw[Ac];simp only[av];rw[dJ,BZ (aa 174),iC (aa 174) (aa 2) hb];rfl
theorem ad2{e:Int}{b c:List Int}(hb:b.length=2)(hc:c.length=3):av (aj 189) [(0,[4]),(176,[e]),(177,b),(179,c)]=(Rec.take e b c).mP:=by
 rw[Ac];simp only[av];rw[dJ,BZ (aa 174),iC (aa 174) (aa 2) hb,jk (aa 174) hb (aa 3) hc];rfl
theorem ad3{v:List Int}(hv:v.length=7):av (aj 189) [(0,[5]),(182,v)]=(Rec.view v).mP:=by
 rw[Ac];simp only[av];rw[dJ,jl (aa 174) (aa 2) (aa 3) (aa 7) hv];rfl
theorem ad4(w0:World)(X:RX)(Y:RY)(S:RS)(x:Rec)(hx:x.Len)(z:List Int)(hz:z=x.mP)(hI:Inv (ah X Y S).own w0 w0 [ah X Y S]):Calls prog 108 #[.pointer (some ⟨X.b,0,none⟩),ia z] w0 λe w'=>∃kS D' c' u' e',e=.returned (.int .i64 e')∧Hid (eT S x=({S with D:=D',cnt:=c',used:=u'},e'))∧Inv (ah X Y S).own w0 w' [ah X {Y with wb:=kS} {S with D:=D',cnt:=c',used:=u'}]:=by
 subst hz;refine(aci w0 X Y S x hx hI).mono ?_;rintro e w' ⟨kS,rfl,hJ⟩;exact⟨kS,_,_,_,_,rfl,HD rfl,hJ⟩
section
variable (w0:World)
theorem Ie(f b l vb rc:Nat)(ra:Option Addr)(S:RS)(Z:aG)(v:List Int)(hv:v.length=7)(hI:Inv (two (rb f b l vb ra rc S) Z).own w0 w0 [two (rb f b l vb ra rc S) Z]):Calls prog 64 #[.pointer (some ⟨b,0,none⟩),ia v] w0 λe w'=>e=.returned (.tuple #[])∧Inv (two (rb f b l vb ra rc S) Z).own w0 w' [two (rb f b l vb ra rc (rV S v)) Z]:=by
 have hz:Hid (av (aj 8) [(0,[gi v 0])]=pI (gi v 0) (aj 2) (aj 2) (aj 3)):=HD aaA;have hal:(av (aj 8) [(0,[gi v 0])]).length=8:=by rw[hz.out];rfl
 go_enter func64,ntmps64;go_wp2_with(first|refine YL ?_|refine YX ?_;intro bx w hI|refine YS ?_;intro w hI);rw[hz.out]at hI;exact⟨rfl,_,gD KF _ _,rfl,hI.tl⟩
end
section
variable (w0:World)(X:RX)(Y:RY)(S:RS)(hX:zG X)
include hX
theorem We(x:List Int)(op:Int)(hx:x.length=174)(hI:Inv (ah X Y S).own w0 w0 [ah X Y S]):Calls prog 70 #[.pointer (some ⟨X.b,0,none⟩),oV X,ia x,.int .i64 op] w0 λe w'=>∃Y',e=.returned (.int .i64 (gY X.f S x op).2)∧Inv (ah X Y S).own w0 w' [ah X Y' (gY X.f S x op).1]:=by
 obtain⟨x0,kZ⟩:=EZ (Rec.row x);have hx0:x0.Len:=by rw[kZ];exact hx
 have hz:Hid (av (aj 189) [(0,[0]),(2,x)]=x0.mP):=HD (by rw[kZ];exact agy hx);have hG:Hid (gY X.f S x op=if(eT S x0).2=0 then(gz X.f {(eT S x0).1 with own:=x,busy:=true,kept:=0,waits:=op},0)else eT S x0):=HD (by rw[kZ];rfl);clear kZ;go_enter func70,ntmps70;go_upto_region 2 with(first|refine YL ?_|refine YX ?_;intro bx w hI|go_at_call 108;(with_reducible refine(ad4 _ X Y S x0 hx0 _ hz.out (hI.at_ aM)).mono ?_);rintro e w1 ⟨kS,D',c',u',e',rfl,hP,hJ⟩;replace hI:=hI.on hJ iR;clear hJ)
 by_cases he:e'=0
 ·subst he
  have hG2:Hid (gY X.f S x op=(gz X.f {S with own:=x,busy:=true,kept:=0,waits:=op,D:=D',cnt:=c',used:=u'},0)):=HD (by rw[hG.out,hP.out,if_pos rfl]);clear hG hP;go_wp2_with(first|refine YL ?_|refine YS ?_;intro w hI|go_at_call 78;refine KJ hI (F_ _ X _ _ hX (hI.at_ aM)) ?_;intro Y2 B2 w1 hB2 hI);go_ret;rw[hG2.out,hB2.out];exact⟨_,rfl,hI.tl⟩
 ·have hG2:Hid (gY X.f S x op=({S with D:=D',cnt:=c',used:=u'},e')):=HD (by rw[hG.out,hP.out,if_neg he])
  have hq:(e' != 0)=true:=by simpa using he
  clear hG hP;go_wp2_with(fail);go_ret;rw[hG2.out];exact⟨_,rfl,hI.tl⟩
end
end
section
open B (dY)
def dU(v:List Int):Prop:=∀i,-9223372036854775808<=gi v i∧gi v i<=9223372036854775807
theorem lY(w0:World)(v:List Int)(who:Int)(hv:v.length=7)(hw:Hid (dU v))(r:Int×Bool)(hr:dY v who=r):
  Calls prog 17 #[ia v,.int .i64 who] w0 λe w'=>e=.returned (.tuple #[.int .i64 r.1,.bool r.2])∧Below w0.heap.size w0 w':=by
 subst hr;exact B.yH w0 v who hv hw
section
variable (w0:World)(f b l vb rc:Nat)(ra:Option Addr)(S:RS)(Z:aG)
theorem aaB(i t:Nat)(hi:i<5)(ht:t<5)(hI:Inv (two (rb f b l vb ra rc S) Z).own w0 w0 [two (rb f b l vb ra rc S) Z]):Calls prog 124 #[.pointer (some ⟨b,0,none⟩),.int .i64 (i:Int),.int .i64 (t:Int)] w0 λe w'=>e=.returned (.bool (lW S i t))∧Inv (two (rb f b l vb ra rc S) Z).own w0 w' [two (rb f b l vb ra rc S) Z]:=by
 have hi5:(i:Int) <5:=by omega
 have hbt:=HD (B.CE (gi S.told i) t);go_enter func124,ntmps124;go_wp2_with(refine YL ?_);go_ret;exact⟨by rw[hbt.out];rfl,hI⟩
def DX(f:Nat)(S:RS)(i:Nat):Bool:=decide (dY S.view (i:Int)=((f:Int),true))&&decide (gi S.own (29+i)<=0)
theorem agz(hvl:S.view.length=7)(hvw:Hid (dU S.view))(hI:Inv (two (rb f b l vb ra rc S) Z).own w0 w0 [two (rb f b l vb ra rc S) Z]):Calls prog 123 #[.pointer (some ⟨b,0,none⟩)] w0 λe w'=>∃a c,e=.returned (.slice a (pR f S).length c)∧Inv (two (rb f b l vb ra rc S) Z).own w0 w' [bf 3 1 (.slice a (pR f S).length c) (pR f S).length ((pR f S).map iN),two (rb f b l vb ra rc S) Z]:=by
 have hfin:Hid (pR f S=(List.range 5).filter (DX f S)):=HD rfl;replace hI:=hI.Av 3 1;go_enter func123,ntmps123;go_upto_region 3 with(fail)
 go_loopg [3,4,5,6,7] 5 (λkk s3 s4 s5 s6 s7 wr=>∃(j:Nat) (a:Option Addr) (c:Nat) (L:List Nat) (n:Nat),kk=5-j∧j<=5∧s7=.int .i64 (j:Int)∧s3=.slice a n c∧Hid (n=L.length)∧n<=j∧Hid ((List.range j).filter (DX f S)=L)∧Inv (two (rb f b l vb ra rc S) Z).own w0 wr [bf 3 1 (.slice a n c) n (L.map iN),two (rb f b l vb ra rc S) Z])
 case atStart=>exact⟨0,none,0,[],0,rfl,by omega,rfl,rfl,HD rfl,by omega,HD rfl,hI⟩
 case round=>
  clear hI;obtain⟨j,a,c,L,n,rfl,hj,rfl,rfl,hn,Vv,hL,hI⟩:=hrel;by_cases MK:j<5
  ·have hs:Hid ((List.range (j+1)).filter (DX f S)=L++(if DX f S j=true then [j]else [])):=HD (by
    rw[List.range_succ,List.filter_append,hL.out];congr 1;by_cases h:DX f S j=true
    ·rw[if_pos h];simp[h]
    ·rw[if_neg h];simp[h])
   have ajo:(j:Int) <5:=by omega
   obtain⟨⟨hh,ok⟩,DY⟩:=EQ (dY S.view (j:Int));have hrr:=HD DY;have hdp:Hid (DX f S j=(decide ((hh,ok)=((f:Int),true))&&decide (gi S.own (29+j)<=0))):=HD (by rw[DX,DY]);clear DY;cases ok
   ·have hs2:Hid ((List.range (j+1)).filter (DX f S)=L):=HD (by rw[hs.out,hdp.out];simp)
    clear hs hdp hL;go_wp2_with(first|refine YL ?_|go_at_call 17;refine KD hI (lY _ S.view (j:Int) hvl hvw _ hrr.out) ?_;intro w1 hI);go_roundg (5- (j+1))
    case measure=>omega
    case rel=>exact⟨j+1,a,c,L,n,rfl,by omega,by go_num,rfl,hn,by omega,hs2,hI⟩
   ·cases hq:(hh==(f:Int))
    ·have hs2:Hid ((List.range (j+1)).filter (DX f S)=L):=HD (by rw[hs.out,hdp.out];simp at hq;simp[hq])
     clear hs hdp hL;go_wp2_with(first|refine YL ?_|go_at_call 17;refine KD hI (lY _ S.view (j:Int) hvl hvw _ hrr.out) ?_;intro w1 hI);go_roundg (5- (j+1))
     case measure=>omega
     case rel=>exact⟨j+1,a,c,L,n,rfl,by omega,by go_num,rfl,hn,by omega,hs2,hI⟩
    ·cases ho:decide (gi S.own (29+j)<=0)
     ·have hs2:Hid ((List.range (j+1)).filter (DX f S)=L):=HD (by rw[hs.out,hdp.out,ho];simp)
      clear hs hdp hL;go_wp2_with(first|refine YL ?_|go_at_call 17;refine KD hI (lY _ S.view (j:Int) hvl hvw _ hrr.out) ?_;intro w1 hI);go_roundg (5- (j+1))
      case measure=>omega
      case rel=>exact⟨j+1,a,c,L,n,rfl,by omega,by go_num,rfl,hn,by omega,hs2,hI⟩
     ·have hs2:Hid ((List.range (j+1)).filter (DX f S)=L++[j]):=HD (by rw[hs.out,hdp.out,ho];simp at hq;simp[hq])
      have hmp:Hid ((L++[j]).map iN=L.map iN++[Value.int .i64 (j:Int)]):=HD (by simp[iN]);clear hs hdp hL;go_wp2_with(first|refine YL ?_|go_at_call 17;refine KD hI (lY _ S.view (j:Int) hvl hvw _ hrr.out) ?_;intro w1 hI|(with_reducible refine az (q:=1) hI RF RF (tK.out (t:=74)) (by intro r';exact aR.there aR.here) (hI.rd aA) RF (by simp[Value.oneCell']) MX OM ?_;intro a2 c2 w hI)|(with_reducible refine Ms hI (k:=?_);intro b2 w hI));go_roundg (5- (j+1))
      case measure=>omega
      case rel=>exact⟨j+1,a2,c2,L++[j],n+1,rfl,by omega,by go_num,rfl,HD (by simp[hn.out]),by omega,hs2,by rw[hmp.out];exact hI.tl⟩
  ·obtain rfl:j=5:=by omega
   go_wp2_with(fail);go_ret;have e1:pR f S=L:=by rw[hfin.out,hL.out]
   rw[e1,<-hn.out];exact⟨a,c,rfl,hI⟩
end
end
section
open B (aI dY fH dX jL lC gN nX cz bQ)
theorem gW{α β:Type}(p:RS->β)(g:RS->α->RS)(h:∀S a,p (g S a)=p S):∀(l:List α) (S:RS),p (l.foldl g S)=p S
 | [],_=>rfl
 |a::l,S=>by rw[List.foldl_cons,gW p g h l,h]
section
variable (f:Nat)
theorem vH(S:RS)(t:Nat)(M:gZ):(dM f S t M).view=S.view:=by unfold dM;split<;>rfl
theorem Ig(S:RS):(gz f S).view=S.view:=by
 unfold gz;exact gW RS.view _ (λT w=>by split;rfl;exact vH f T w _) _ S
theorem R7(S:RS)(x:List Int)(op:Int):(gY f S x op).1.view=S.view:=by
 unfold gY;split
 ·exact Ig f _
 ·rfl
theorem Ga(S:RS):(jH f S).view=S.view:=by
 unfold jH;split
 ·rfl
 ·split
  ·cases gm S.last S.own (pR f S)with
   |none=>rfl
   |some x=>exact R7 f S x 0
  ·rfl
theorem Kl(S:RS)(from_ w:Nat)(r:List Int):(iP f S from_ w r).view=S.view:=by
 unfold iP;rw[Ga];split<;>rfl
theorem uJ(S:RS)(dst w:Nat)(r:List Int):(fK f S dst w r).view=S.view:=by
 unfold fK;split
 ·exact Kl f S f w r
 ·exact vH f S dst _
theorem R8(S:RS)(from_ w:Nat):(lX f S from_ w).view=S.view:=by
 unfold lX;split
 ·split
  ·exact uJ f S _ _ _
  ·split
   ·exact uJ f _ _ _ _
   ·rfl
 ·rfl
theorem xm(S:RS)(dst w:Nat):(j3 f S dst w).view=S.view:=by
 unfold j3;split
 ·exact R8 f S f w
 ·exact vH f S dst _
theorem AQ(S:RS)(i:Nat):(nG f S i).view=S.view:=by
 unfold nG;exact gW RS.view _ (λT w=>by split;rfl;exact xm f T w i) _ S
theorem xX(S:RS):(kr f S).view=S.view:=by
 unfold kr;exact gW RS.view _ (λT i=>AQ f T i) _ S
theorem DZ(S:RS)(v:List Int):(eZ f S v).1.view=S.view∨(eZ f S v).1.view=v:=by
 unfold eZ;split
 ·exact .inl rfl
 ·split
  ·right;show(kr f _).view=v;rw[xX];rfl
  ·exact .inl rfl
theorem R9{S:RS}{v:List Int}(h:dU S.view)(hv:dU v):dU (eZ f S v).1.view:=by
 rcases DZ f S v with e|e<;>rw[e]<;>assumption
theorem R_{S:RS}{v:List Int}(h:S.view.length=7)(hv:v.length=7):(eZ f S v).1.view.length=7:=by
 rcases DZ f S v with e|e<;>rw[e]<;>assumption
end
end
section
open B (aI dY fH dX jL lC gN nX cz bQ)
def core(S:RS):List Int×List (List Int)×List Int×Int×Int:=(S.bV,S.aV,S.book,S.round,S.ops)
section
variable (f:Nat)
theorem Eg(S:RS)(t:Nat)(M:gZ):core (dM f S t M)=core S:=by unfold dM;split<;>rfl
theorem Io(S:RS):core (gz f S)=core S:=by
 unfold gz;exact gW core _ (λT w=>by split;rfl;exact Eg f T w _) _ S
theorem Sw(S:RS)(x:List Int)(op:Int):core (gY f S x op).1=core S:=by
 unfold gY;split
 ·exact Io f _
 ·rfl
theorem Sy(S:RS):core (jH f S)=core S:=by
 unfold jH;split
 ·rfl
 ·split
  ·cases gm S.last S.own (pR f S)with
   |none=>rfl
   |some x=>exact Sw f S x 0
  ·rfl
theorem KS(S:RS)(from_ w:Nat)(r:List Int):core (iP f S from_ w r)=core S:=by
 unfold iP;rw[Sy];split<;>rfl
theorem uL(S:RS)(dst w:Nat)(r:List Int):core (fK f S dst w r)=core S:=by
 unfold fK;split
 ·exact KS f S f w r
 ·exact Eg f S dst _
theorem Sz(S:RS)(from_ w:Nat):core (lX f S from_ w)=core S:=by
 unfold lX;split
 ·split
  ·exact uL f S _ _ _
  ·split
   ·exact uL f _ _ _ _
   ·rfl
 ·rfl
theorem EX(S:RS)(dst w:Nat):core (j3 f S dst w)=core S:=by
 unfold j3;split
 ·exact Sz f S f w
 ·exact Eg f S dst _
theorem KT(S:RS)(i:Nat):core (nG f S i)=core S:=by
 unfold nG;exact gW core _ (λT w=>by split;rfl;exact EX f T w i) _ S
theorem NV(S:RS):core (kr f S)=core S:=by
 unfold kr;exact gW core _ (λT i=>KT f T i) _ S
theorem EY(S:RS)(x:List Int):(fu f S x).view=S.view:=by
 unfold fu;exact gW RS.view _ (λT i=>vH f T i _) _ S
theorem E5(S:RS)(x:List Int):(gG f S x).view=S.view:=by
 unfold gG;exact gW RS.view _ (λT i=>vH f T i _) _ S
theorem NW(S:RS)(v:List Int):(eZ f S v).1.bV=S.bV∧(eZ f S v).1.aV=S.aV∧(eZ f S v).1.book=S.book∧(eZ f S v).1.ops=S.ops:=by
 unfold eZ;split
 ·exact⟨rfl,rfl,rfl,rfl⟩
 ·split
  ·have h:=NV f (rV (eT S (.view v)).1 v)
   simp only[core,Prod.mk.injEq]at h;exact⟨h.1,h.2.1,h.2.2.1,h.2.2.2.2⟩
  ·exact⟨rfl,rfl,rfl,rfl⟩
end
end
section
open B (aI dY fH dX jL lC gN nX cz bQ)
theorem Gv(z:Int):-9223372036854775808<=IntKind.i64.wrap z∧IntKind.i64.wrap z<=9223372036854775807:=by
 exact acP
theorem K5(x y:Int):-9223372036854775808<=bits .or .i64 x y∧bits .or .i64 x y<=9223372036854775807:=Gv _
theorem K6(x y:Int):-9223372036854775808<=bits .andNot .i64 x y∧bits .andNot .i64 x y<=9223372036854775807:=Gv _
theorem mo(z:Int):-9223372036854775808<=wrap64 z∧wrap64 z<=9223372036854775807:=by unfold wrap64;omega
theorem nI{v:List Int}(h:dU v){z:Int}(hz:-9223372036854775808<=z∧z<=9223372036854775807)(i:Nat):dU (v.set i z):=by
 intro j;by_cases hij:i=j
 ·subst hij
  by_cases hl:i<v.length
  ·rw[show gi (v.set i z) i=z by simp[gi,hl]];exact hz
  ·rw[List.set_eq_of_length_le OM];exact h i
 ·rw[show gi (v.set i z) j=gi v j by simp[gi,List.getElem?_set,hij]];exact h j
theorem pY(n:Nat):dU (aj n):=λi=>by rw[show gi (aj n) i=0 by unfold gi aj;rw[List.getD_eq_getElem?_getD,List.getElem?_replicate];split<;>rfl];omega
theorem Ob{v:List Int}(h:dU v)(k d:Nat)(hd:d<5):∀j,dU (B.lv v k d j)
 |0=>h
 |j+1=>by
  unfold B.lv
  split
  ·exact nI (Ob h k d hd j) OM _
  ·exact Ob h k d hd j
theorem K7{v:List Int}(h:dU v)(c:List Int):dU (bQ v c).1:=by
 unfold B.bQ
 split
 ·exact nI (nI h (K5 _ _) _) (mo _) _
 ·split
  ·rename_i hL
   refine nI (Ob (nI h (K6 _ _) _) _ _ ?_ 5) (mo _) _;unfold B.JQ at hL;simp only[Bool.and_eq_true]at hL;have h2:B.aP (gi c 2)=true:=by
    first
     |exact hL.1.1.1.1.1.2
     |exact hL.1.1.1.1.2
     |exact hL.1.1.1.2
     |exact hL.1.1.2
     |exact hL.1.2
     |exact hL.2
     | (obtain⟨a,b⟩:=hL;simp_all)
   have:=B.dW h2;omega
  ·exact pY 7
theorem zh(v c:List Int)(hv:v.length=7):(bQ v c).1.length=7:=by
 unfold B.bQ
 split
 ·simp[B.xN,hv]
 ·split
  ·simp[B.xO,B.zT,hv]
  ·exact aa 7
theorem iL(w0:World)(v c:List Int)(hv:v.length=7)(hc:c.length=3)(hw:Hid (dU v))(nv:List Int)(ne:Int)(hr:Hid (bQ v c=(nv,ne))):
  Calls prog 84 #[ia v,ia c] w0 λe w'=>e=.returned (.tuple #[ia nv,.int .i64 ne])∧Below w0.heap.size w0 w':=by
 have h:=B.adu w0 v c hv hc hw;rw[hr.out]at h;exact h
theorem Qa{l:List Int}(h:l.length=8):l=[gi l 0,gi l 1,gi l 2,gi l 3,gi l 4,gi l 5,gi l 6,gi l 7]:=by
 match l,h with
 | [a,b,c,d,e,f,g,i],_=>rfl
theorem Qb{l:List Int}(h:l.length=2):l=[gi l 0,gi l 1]:=by
 match l,h with
 | [a,b],_=>rfl
theorem acs{l:List Int}(h:l.length=3):l=[gi l 0,gi l 1,gi l 2]:=by
 match l,h with
 | [a,b,c],_=>rfl
theorem uo(w0:World)(a b:List Int)(e:Int)(ha:a.length=8)(hb:b.length=2)(a':List Int)(ok:Bool)(hr:Hid (rW a e b=(a',ok))):
  Calls prog 126 #[ia a,.int .i64 e,ia b] w0 λee w'=>ee=.returned (.tuple #[ia a',.bool ok])∧Below w0.heap.size w0 w':=by
 have hr:=hr.out;unfold rW at hr
 split at hr
 ·rename_i h
  cases hr;have e:=B.adt w0 (gi a 0) (gi a 1) (gi a 2) (gi a 3) (gi a 4) (gi a 5) (gi a 6) (gi a 7) e (gi b 0) (gi b 1) h;rw[Qa ha,Qb hb];exact e
 ·rename_i h
  cases hr;have e:=B.aad w0 (gi a 0) (gi a 1) (gi a 2) (gi a 3) (gi a 4) (gi a 5) (gi a 6) (gi a 7) e (gi b 0) (gi b 1) (by simpa using h);rw[Qa ha,Qb hb];exact e
theorem zi(w0:World)(a b c:List Int)(e:Int)(ha:a.length=8)(hb:b.length=2)(hc:c.length=3)(a':List Int)(ok:Bool)(hr:Hid (DK a e b c=(a',ok))):
  Calls prog 179 #[ia a,.int .i64 e,ia b,ia c] w0 λee w'=>ee=.returned (.tuple #[ia a',.bool ok])∧Below w0.heap.size w0 w':=by
 have hr:=hr.out;unfold DK at hr
 split at hr
 ·rename_i h
  cases hr;have e:=B.Nb w0 (gi a 0) (gi a 1) (gi a 2) (gi a 3) (gi a 4) (gi a 5) (gi a 6) (gi a 7) e (gi b 0) (gi b 1) (gi c 0) (gi c 1) (gi c 2) h;rw[Qa ha,Qb hb,acs hc];exact e
 ·rename_i h
  cases hr;have e:=B.Hy w0 (gi a 0) (gi a 1) (gi a 2) (gi a 3) (gi a 4) (gi a 5) (gi a 6) (gi a 7) e (gi b 0) (gi b 1) (gi c 0) (gi c 1) (gi c 2) (by simpa using h);rw[Qa ha,Qb hb,acs hc];exact e
theorem K8{a b:List Int}{e:Int}(ha:a.length=8)(hb:b.length=2):(rW a e b).1.length=8:=by
 unfold rW;split
 ·exact ha
 ·rw[aY];omega
theorem WW{a b c:List Int}{e:Int}(ha:a.length=8)(hb:b.length=2)(hc:c.length=3):(DK a e b c).1.length=8:=by
 unfold DK;split
 ·exact ha
 ·simp[pI,hb,hc]
theorem bP(w0:World)(v:List Int)(k:Nat)(hv:v.length=7)(b:Bool)(hb:Hid (aI v (k:Int)=b)):Calls prog 14 #[ia v,.int .i64 (k:Int)] w0 λe w'=>e=.returned (.bool b)∧Below w0.heap.size w0 w':=by
 rw[<-hb.out];exact B.gU w0 v k hv
section
variable {P:Program}{ops:Array Oper}{Q:Exit->Act->World->Prop}{a:Act}{rest:List Oper}{T:List Nat}{w0 w:World}{m:List aG}{dst:Option Tmp}{ty:TypeId}{pos:String}{af:Array Edge}
variable {x:Operand}{t f b l vb rc:Nat}{ra:Option Addr}{S:RS}{Z:aG}{V:List Int×Bool}
theorem SS(hI:Inv T w0 w m)(hx:a.eval x=.pointer (some ⟨b,1067,none⟩):=by exact RF)(hm:two (rb f b l vb ra rc S) Z∈m:=by exact MM)[hT:aO P t](hV:Hid (S.aK=some V)):
  fP P ⟨dst,.load t x,ty,pos,af,none⟩ a w (.pointer (some ⟨vb,0,none⟩)):=by
 have h:=Cm (P:=P) (t:=t) (dst:=dst) (ty:=ty) (pos:=pos) (af:=af) hI hx hm
 rwa [show H7 vb S.aK=.pointer (some ⟨vb,0,none⟩)from by rw[hV.out];rfl]at h
theorem TY(hI:Inv T w0 w m)(hx:a.eval x=.pointer (some ⟨b,1067,none⟩):=by exact RF)(hm:two (rb f b l vb ra rc S) Z∈m:=by exact MM)[hT:aO P t](hV:Hid (S.aK=some V))
  (k:wpList P ops Q rest (a.put dst (.pointer (some ⟨vb,0,none⟩))) w):wpList P ops Q (⟨dst,.load t x,ty,pos,af,none⟩::rest) a w:=au (SS hI hx hm hV) k
theorem SV(hI:Inv T w0 w m)(hx:a.eval x=.pointer (some ⟨b,1067,none⟩):=by exact RF)(hm:two (rb f b l vb ra rc S) Z∈m:=by exact MM)[hT:aO P t](hV:Hid (S.aK=none)):
  fP P ⟨dst,.load t x,ty,pos,af,none⟩ a w (.pointer none):=by
 have h:=Cm (P:=P) (t:=t) (dst:=dst) (ty:=ty) (pos:=pos) (af:=af) hI hx hm
 rwa [show H7 vb S.aK=.pointer none from by rw[hV.out];rfl]at h
theorem TZ(hI:Inv T w0 w m)(hx:a.eval x=.pointer (some ⟨b,1067,none⟩):=by exact RF)(hm:two (rb f b l vb ra rc S) Z∈m:=by exact MM)[hT:aO P t](hV:Hid (S.aK=none))
  (k:wpList P ops Q rest (a.put dst (.pointer none)) w):wpList P ops Q (⟨dst,.load t x,ty,pos,af,none⟩::rest) a w:=au (SV hI hx hm hV) k
end
section
variable {T:List Nat}{w0 w:World}{m m':List aG}{f b l vb rc:Nat}{ra:Option Addr}{S:RS}{Z:aG}{V:List Int×Bool}
theorem WX(hI:Inv T w0 w m)(hm:two (rb f b l vb ra rc S) Z∈m)(hV:Hid (S.aK=some V)):Calls prog 129 #[.pointer (some ⟨vb,0,none⟩)] w λe w'=>e=.returned (.bool V.2)∧Inv T w0 w' m:=adT hI hm hV.out
theorem yj(hI:Inv T w0 w m)(hm:two (rb f b l vb ra rc S) Z∈m)(hV:Hid (S.aK=some V)):Calls prog 83 #[.pointer (some ⟨vb,0,none⟩)] w λe w'=>e=.returned (ia (sub V.1 9 3))∧Inv T w0 w' m:=adU hI hm hV.out
theorem WY(hI:Inv T w0 w m)(hm:two (rb f b l vb ra rc S) Z∈m)(hV:Hid (S.aK=some V)):Calls prog 128 #[.pointer (some ⟨vb,0,none⟩)] w λe w'=>e=.returned (ia (sub V.1 7 2))∧Inv T w0 w' m:=adV hI hm hV.out
theorem K9(hI:Inv T w0 w m){V':List Int×Bool}(hu:aR (two (rb f b l vb ra rc S) Z) (two (rb f b l vb ra rc {S with aK:=some V'}) Z) m m')(hV:Hid (S.aK=some V))(who:Nat)(bl:List Int)(hb2:bl.length=2)(ok:Bool)(hr:Hid (iV V who bl=(V',ok))):
  Calls prog 158 #[.pointer (some ⟨vb,0,none⟩),.int .i64 (who:Int),ia bl] w λe w'=>e=.returned (.bool ok)∧Inv T w0 w' m':=by
 have h:=V4 (m':=m') hI hV.out who bl hb2 (by rw[hr.out];exact hu);rw[hr.out]at h;exact h
theorem K_(hI:Inv T w0 w m){V':List Int×Bool}(hu:aR (two (rb f b l vb ra rc S) Z) (two (rb f b l vb ra rc {S with aK:=some V'}) Z) m m')(hV:Hid (S.aK=some V))(who:Nat)(bl h c:List Int)(hb2:bl.length=2)(h2:h.length=2)(c3:c.length=3)(ok:Bool)(hr:Hid (ig V who bl h c=(V',ok))):
  Calls prog 157 #[.pointer (some ⟨vb,0,none⟩),.int .i64 (who:Int),ia bl,ia h,ia c] w λe w'=>e=.returned (.bool ok)∧Inv T w0 w' m':=by
 have h:=V5 (m':=m') hI hV.out who bl h c hb2 h2 c3 (by rw[hr.out];exact hu);rw[hr.out]at h;exact h
end
end
section
variable {P:Program}{ops:Array Oper}{Q:Exit->Act->World->Prop}{a:Act}{rest:List Oper}{T:List Nat}{w0 w:World}{m m':List aG}{dst:Option Tmp}{ty:TypeId}{pos:String}{af:Array Edge}
variable {x y:Operand}{t f b l vb nb n rc rc2:Nat}{ra ra2:Option Addr}{S:RS}{Z:aG}{u:List (List Int)}
theorem aa1(hI:Inv T w0 w m)(hx:a.eval x=.pointer (some ⟨b,1942,none⟩))(hv:a.eval y=.slice ra2 n rc2)(hn:u.length=n)
  (hu:aR (two (rb f b l vb ra rc S) Z) (two (rb f b l vb ra2 rc2 {S with aV:=u}) Z) m m') [hT:aO P t]
  (k:∀w',Inv T w0 w' m'->wpList P ops Q rest (a.put dst undef) w'):wpList P ops Q (⟨dst,.store t x y,ty,pos,af,none⟩::rest) a w:=
 bI (vs:=[.slice ra2 n rc2]) hI hx (by rw[hv];rfl) hu hT.out.size (λhL=>by subst hn;exact VH f l vb ra rc hL ra2 rc2 u) (λhL=>⟨hL.view,hL.own,hL.bV,hL.sl,hL.acc,hL.book,hL.told,hL.last,hL.aK⟩) (.inl ⟨rfl,rfl⟩) rfl OM (by intro u hu;rw[List.mem_singleton.1 hu];rfl) k
theorem Xe{zs:List Int}{p:Bool}(hI:Inv T w0 w (xf nb 208 zs [p]::m))(hx:a.eval x=.pointer (some ⟨b,1067,none⟩))(hv:a.eval y=.pointer (some ⟨nb,0,none⟩))(hl:zs.length=16)
  (hu:aR (two (rb f b l vb ra rc S) Z) (two (rb f b l nb ra rc {S with aK:=some (zs,p)}) Z) m m') [hT:aO P t]
  (k:∀w',Inv T w0 w' m'->wpList P ops Q rest (a.put dst undef) w'):wpList P ops Q (⟨dst,.store t x y,ty,pos,af,none⟩::rest) a w:=
 wpList_plain rfl λK hK=>by
  obtain⟨m1,m2,rfl,rfl⟩:=hu.split;have h1:Inv T w0 w (two (rb f b l vb ra rc S) Z::(xf nb 208 zs [p]::m1++m2)):=Inv.bring (l1:=xf nb 208 zs [p]::m1) hI;have h2:Inv T w0 w (two (two (rb f b l vb ra rc S) Z) (xf nb 208 zs [p])::(m1++m2)):=h1.dO;have ES:=h2.sat _ aA;have hnd:=h2.nd aA;obtain⟨hL,hb⟩:=lF h1 aA;obtain⟨w',hr,hst,hsz,hh⟩:=tN (P:=P) (v:=a.eval y) hT.out.size [.pointer (some ⟨nb,0,none⟩)] (by rw[hv];rfl) rfl (by intro u hu;rw[List.mem_singleton.1 hu];rfl) hb 1067 (by rw[Dt hL];omega);unfold Oper.wp execOp;simp only[hx,Instr.storeAt,Instr.sureAddr,Sem.run_bind,Sem.run_pure,Result.andThen_ok,hr];refine hK _ _ (k w' ?_);have hown:(two (two (rb f b l vb ra rc S) Z) (xf nb 208 zs [p])).own=b::((J3 vb S.aK).own++Z.own++[nb]):=by simp[two,lI,blk,xf]
  rw[hown]at hnd;have hbn:b∉(J3 vb S.aK).own++Z.own++[nb]:=(List.nodup_cons.1 hnd).1;have qR:∀k∈(J3 vb S.aK).own++Z.own++[nb],w'.heap[k]? =w.heap[k]? :=λk hk=>by
   refine hst.same k (h2.mine k (dE.2 ⟨_,aA,by rw[hown];exact List.mem_cons_of_mem _ hk⟩)).2 ?_;intro hkb;rw[List.mem_singleton.1 hkb]at hk;exact hbn hk
  have hnew:(two (rb f b l nb ra rc {S with aK:=some (zs,p)}) Z).own=b::nb::Z.own:=by simp[two,lI,blk,xf,J3]
  have h3:Inv T w0 w' (two (rb f b l nb ra rc {S with aK:=some (zs,p)}) Z::(m1++m2)):=by
   refine h2.upd aR.here (hst.mono λk hk=>by rw[List.mem_singleton.1 hk,hown];simp) ⟨⟨⟨hL.view,hL.own,hL.bV,hL.sl,hL.acc,hL.book,hL.told,hL.last,λq hq=>by cases hq;exact hl⟩,?_,?_⟩,?_⟩ (λk hk=> .inl ?_) ?_
   ·show w'.heap[b]? =_
    rw[hh];rw[show([.pointer (some ⟨nb,0,none⟩)]:List Value)=[H7 nb (some (zs,p))]from rfl,J5 f l vb ra rc hL nb (some (zs,p))]
   ·exact(xf nb 208 zs [p]).loc w w' (λk hk=>qR k (List.mem_append.2 (.inr (by simpa[xf,blk]using hk)))) ES.2
   ·exact Z.loc w w' (λk hk=>qR k (List.mem_append.2 (.inl (List.mem_append.2 (.inr hk))))) ES.1.2
   ·rw[hnew]at hk
    rw[hown];simp only[List.mem_cons,List.mem_append,List.not_mem_nil,or_false]at hk|-;rcases hk with h|h|h
    ·exact .inl h
    ·exact .inr (.inr h)
    ·exact .inr (.inl (.inr h))
   ·rw[hnew]
    have h4:(b::(Z.own++[nb])).Nodup:=hnd.sublist (List.Sublist.cons_cons _ (by rw[List.append_assoc];exact List.sublist_append_right _ _));exact((List.perm_append_comm (l₁:=Z.own) (l₂:=[nb])).cons b).nodup_iff.1 h4
  exact Inv.sink h3
end
theorem Inv.lI{T:List Nat}{w0 w:World}{m:List aG}{p:Prop}(h:Inv T w0 w m)(hp:p):Inv T w0 w (Go.Proofs.YtdakkaapokhnnaaGreatDoor.lI p::m):=
 h.turn (λhs z hz=>by
  rcases List.mem_cons.1 hz with rfl|hz
  ·exact hp
  ·exact hs _ hz) (by simp[owned,Go.Proofs.YtdakkaapokhnnaaGreatDoor.lI])
section
variable (w0:World)(f b l vb rc:Nat)(ra:Option Addr)(S:RS)(Z:aG)
theorem aa2(op er va:Int)(hn:S.aV.length<=1000000000)(hI:Inv (two (rb f b l vb ra rc S) (two (mK ra rc S.aV) Z)).own w0 w0 [two (rb f b l vb ra rc S) (two (mK ra rc S.aV) Z)]):
  Calls prog 69 #[.pointer (some ⟨b,0,none⟩),.int .i64 op,.int .i64 er,.int .i64 va] w0 λe w'=>∃ra' rc',e=.returned (.tuple #[])∧
   Inv (two (rb f b l vb ra rc S) (two (mK ra rc S.aV) Z)).own w0 w' [two (rb f b l vb ra' rc' (bW S op er va)) (two (mK ra' rc' (bW S op er va).aV) Z)]:=by
 generalize hown:(two (rb f b l vb ra rc S) (two (mK ra rc S.aV) Z)).own=T at hI|-;have hp:∀r∈S.aV,r.length=3:=(hI.sat _ aA).2.1.1;have h2:Inv T w0 w0 [bf 117 3 (.slice ra S.aV.length rc) S.aV.length (wS S.aV),Z,rb f b l vb ra rc S]:=by
  have h2:Inv T w0 w0 [lI (∀r∈S.aV,r.length=3),bf 117 3 (.slice ra S.aV.length rc) S.aV.length (wS S.aV),Z,rb f b l vb ra rc S]:=hI.dz.jr.dz.dz;exact h2.sub (.cons _ (.refl _))
 clear hI;have hI:Inv T w0 w0 [two (rb f b l vb ra rc S) Z,bf 117 3 (.slice ra S.aV.length rc) S.aV.length (wS S.aV)]:=(Inv.bring (l1:=[_,_]) (Inv.bring (l1:=[_,_]) h2)).jr.dO;clear h2 hown;replace hp:=HD hp;go_enter func69,ntmps69;go_wp2_with(first|refine YL ?_|(with_reducible refine u_ (cs:=iz [op,er,va]) hI RF (by simp[iz]) (k:=?_);intro b2 w hI)|(with_reducible refine az (q:=1) hI RF RF (tK.out (t:=83)) (by intro r';exact aR.there (aR.there aR.here)) (hI.rd aA) (by simp[iz]) (by simp[iz,Value.oneCell']) MX OM ?_;intro a2 c2 w hI)|(with_reducible refine aa1 (u:=S.aV++[[op,er,va]]) hI RF RF SI iR (k:=?_);intro w hI));refine⟨rfl,_,gD KF _ _,a2,c2,rfl,?_⟩;have e1:wS (bW S op er va).aV=wS S.aV++iz [op,er,va]:=by simp[bW,wS]
 have e2:(bW S op er va).aV.length=S.aV.length+1:=by simp[bW]
 have e3:∀r∈(bW S op er va).aV,r.length=3:=by
  intro r hr;simp only[bW,List.mem_append,List.mem_singleton]at hr;rcases hr with hr|rfl
  ·exact hp.out r hr
  ·rfl
 rw[<-e1,<-e2]at hI;have h3:=(Inv.bring (l1:=[_,_]) (hI.tl).dz).lI e3;exact(Inv.bring (l1:=[_,_]) h3.dO).jr.dO.jr.dO
end
section
variable (w0:World)(f b l vb rc:Nat)(ra:Option Addr)(S:RS)(Z:aG)(hI:Inv (two (rb f b l vb ra rc S) Z).own w0 w0 [two (rb f b l vb ra rc S) Z])
include hI
theorem Xk:Calls prog 15 #[.pointer (some ⟨b,0,none⟩)] w0 λe w'=>e=.returned (ia S.view)∧Inv (two (rb f b l vb ra rc S) Z).own w0 w' [two (rb f b l vb ra rc S) Z]:=by
 have hn:=(aQ hI aA).view;go_enter func15,ntmps15;go_wp2_with(first|refine YS ?_;intro w hI|refine YX ?_;intro bx w hI|refine YL ?_);exact bodyPost_ret (dI hI rfl rfl aA (bG.out (t:=30)) hn) rfl ⟨rfl,hI.sub SB⟩
theorem agV:Calls prog 16 #[.pointer (some ⟨b,0,none⟩)] w0 λe w'=>e=.returned (ia S.own)∧Inv (two (rb f b l vb ra rc S) Z).own w0 w' [two (rb f b l vb ra rc S) Z]:=by
 have hn:=(aQ hI aA).own;go_enter func16,ntmps16;go_wp2_with(first|refine YS ?_;intro w hI|refine YX ?_;intro bx w hI|refine YL ?_);exact bodyPost_ret (dI hI rfl rfl aA (bG.out (t:=41)) hn) rfl ⟨rfl,hI.sub SB⟩
theorem Oo(who:Int):Calls prog 20 #[.pointer (some ⟨b,0,none⟩),.int .i64 who] w0 λe w'=>e=.returned (.tuple #[ia (C.rowOf S.bV who),.bool (C.fJ S.sl who)])∧Inv (two (rb f b l vb ra rc S) Z).own w0 w' [two (rb f b l vb ra rc S) Z]:=by
 have zF:=(aQ hI aA).bV;have hn:(C.rowOf S.bV who).length=174:=C.j_ _ _ zF;go_enter func20,ntmps20;go_upto_region 1 with(refine YX ?_;intro bx w hI)
 (obtain⟨bx,hbx⟩:=EZ bx;subst hbx)
 (refine ZR [4,9,10,11] [5,6,7,8] [4] [0,1,2,3,5,6,7,8,4,9,10,11] (λw=>Inv (two (rb f b l vb ra rc S) Z).own w0 w [two (rb f b l vb ra rc S) Z]) hI ?_;intro wd hI)
 (repeat(first|refine ZS ?_|refine ZQ ?_;go_wp2_with(first|refine YS ?_;intro w hI|go_at_call 47;refine KE (F8 hI aM _) ?_;intro w1 hI|go_at_call 46;refine KE (VY hI aM _) ?_;intro w1 hI);refine ZP ?_))
 go_wp2_with(fail);exact bodyPost_ret (aF hI rfl rfl aA (bG.out (t:=41)) hn) rfl ⟨rfl,hI.sub SB⟩
end
section
variable {ops:Array Oper}{Q:Exit->Act->World->Prop}{rest:List Oper}{a:Act}{w:World}{dst:Option Tmp}{pos:String}{af:Array Edge}
theorem Qf{x y:Operand}{u v:Int}(hx:a.eval x=.int .i64 u)(hy:a.eval y=.int .i64 v):fP prog ⟨dst,.call {callee:=.builtin .max,args:= #[x,y],argTypes:= #[3,3]},3,pos,af,none⟩ a w (.int .i64 (max u v)):=by
 unfold fP execOp;simp only[resolve,invoke,builtin,Sem.run_bind,Sem.run_pure,Result.andThen_ok,List.map_toArray,List.map_cons,List.map_nil,hx,hy];by_cases h:u<v
 ·rw[show max u v=v by omega]
  go_simp
 ·rw[show max u v=u by omega]
  go_simp
theorem Lg{x y:Operand}{u v rn:Int}(hx:a.eval x=.int .i64 u)(hy:a.eval y=.int .i64 v)(h:max u v=rn)
  (k:wpList prog ops Q rest (a.put dst (.int .i64 rn)) w):wpList prog ops Q (⟨dst,.call {callee:=.builtin .max,args:= #[x,y],argTypes:= #[3,3]},3,pos,af,none⟩::rest) a w:=by
 subst h;exact au (Qf hx hy) k
theorem xw{P:Program}{ops:Array Oper}{x:Operand}{t i off e:Nat}{ty:TypeId}{zs:List Int}{fs:Array Field}{f:Field}(hx:a.eval x=ia zs)(hu:P.underlying t=some (.struct fs))(hf:fs[i]? =some f)(ht:f.type=e)(ho:f.offset=off)(hT:jg P e)(hl:off<zs.length)
  (k:wpList P ops Q rest (a.put dst (.int .i64 (gi zs off))) w):wpList P ops Q (⟨dst,.field t x i,ty,pos,af,none⟩::rest) a w:=by
 refine au ?_ k;exact W61
theorem agY:prog.underlying 41=some (.struct (prog.fieldsOf 41)):=by kernel_rfl
theorem agZ:(prog.fieldsOf 41)[0]? =some (((prog.fieldsOf 41)[0]?).getD default):=by kernel_rfl
theorem ag0:(((prog.fieldsOf 41)[0]?).getD default).type=3:=by kernel_rfl
theorem ag1:(((prog.fieldsOf 41)[0]?).getD default).offset=0:=by kernel_rfl
theorem kfv{x:Operand}{ty:TypeId}{zs:List Int}(hx:a.eval x=ia zs)(hl:zs.length=174)
  (k:wpList prog ops Q rest (a.put dst (.int .i64 (gi zs 0))) w):wpList prog ops Q (⟨dst,.field 41 x 0,ty,pos,af,none⟩::rest) a w:=
 xw hx agY agZ ag0 ag1 (aO.out (t:=3)) OM k
theorem S9{t n t':Nat}{x y:Operand}{ty:TypeId}{zs ws:List Int}{v:Bool}[hT:bG prog t n][hF:qV prog t n](hx:a.eval x=ia zs)(hy:a.eval y=ia ws)(h1:zs.length=n)(h2:ws.length=n)(hv:decide (zs=ws)=v)
  (k:wpList prog ops Q rest (a.put dst (.bool (!v))) w):wpList prog ops Q (⟨dst,.binOp .neq t x y t',ty,pos,af,none⟩::rest) a w:=by
 subst hv;exact jM hx hy hT.out hF.out h1 h2 k
end
section
open B (dY)
theorem Hd(w0:World)(f b l vb rc:Nat)(ra:Option Addr)(S:RS)(Z:aG)(L:List Nat)(hL:pR f S=L)(n:Nat)(hn:L.length=n)(hvl:S.view.length=7)(hvw:Hid (dU S.view))(hI:Inv (two (rb f b l vb ra rc S) Z).own w0 w0 [two (rb f b l vb ra rc S) Z]):Calls prog 123 #[.pointer (some ⟨b,0,none⟩)] w0 λe w'=>∃a c,e=.returned (.slice a n c)∧Inv (two (rb f b l vb ra rc S) Z).own w0 w' [bf 3 1 (.slice a n c) n (L.map iN),two (rb f b l vb ra rc S) Z]:=by
 subst hL hn;exact agz w0 f b l vb rc ra S Z hvl hvw hI
theorem wL(w0:World)(f b l vb rc:Nat)(ra:Option Addr)(S:RS)(Z:aG)(i t:Nat)(hi:i<5)(ht:t<5)(v:Bool)(hv:lW S i t=v)(hI:Inv (two (rb f b l vb ra rc S) Z).own w0 w0 [two (rb f b l vb ra rc S) Z]):Calls prog 124 #[.pointer (some ⟨b,0,none⟩),.int .i64 (i:Int),.int .i64 (t:Int)] w0 λe w'=>e=.returned (.bool v)∧Inv (two (rb f b l vb ra rc S) Z).own w0 w' [two (rb f b l vb ra rc S) Z]:=by
 subst hv;exact aaB w0 f b l vb rc ra S Z i t hi ht hI
theorem aba(w0:World)(x dead:List Int)(who:Int)(hx:x.length=174)(hd:dead.length=174)(r:List Int×Int)(hr:C.uh x who dead=r):
  Calls prog 125 #[ia x,.int .i64 who,ia dead] w0 λe w'=>e=.returned (.tuple #[ia r.1,.int .i64 r.2])∧Below w0.heap.size w0 w':=by
 subst hr;exact C.agn w0 x dead who hx hd
theorem XC{f:Nat}{S:RS}{L:List Nat}(h:pR f S=L):∀i∈L,i<5:=by
 intro i hi;rw[<-h,pR]at hi;have:=(List.mem_filter.1 hi).1;simpa using this
theorem all_false{α:Type}{l:List α}{p:α->Bool}{x:α}(hx:x∈l)(hp:p x=false):l.all p=false:=by
 rw[List.all_eq_false];exact⟨x,hx,by rw[hp];simp⟩
section
variable (w0:World)(X:RX)(Y:RY)(S:RS)(hX:zG X)
include hX
theorem aeV(hvw:Hid (dU S.view))(hI:Inv (ah X Y S).own w0 w0 [ah X Y S]):Calls prog 79 #[.pointer (some ⟨X.b,0,none⟩),oV X] w0 λe w'=>∃Y',e=.returned (.tuple #[])∧Inv (ah X Y S).own w0 w' [ah X Y' (jH X.f S)]:=by
 have hLn:=aQ hI aA;have hvl:=hLn.view;have hown:=hLn.own;have hlast:=hLn.last;clear hLn;obtain⟨L,hL0⟩:=EQ (pR X.f S);have hL:=HD hL0;have hLm:=HD (XC hL0);clear hL0;obtain⟨n,hn0⟩:=EQ L.length;have hn:=HD hn0;have hn5:n<=1000:=by
  have h1:L.length<=5:=by
   rw[<-hL.out,pR];exact Nat.le_trans (List.length_filter_le _ _) SI
  omega
 have hF:Hid (jH X.f S=if S.busy=true∨L=[]then S else if L.all (λi=>(dS i).all (lW S i))=true then((gm S.last S.own L).elim S (λx=>(gY X.f S x 0).1))else S):=HD (by rw[jH,hL.out]);cases hb:S.busy
 ·cases hz:((n:Int)==0)
  ·have hne:L≠[]:=by rintro rfl;simp at hn0;rw[<-hn0]at hz;simp at hz
   have hF2:Hid (jH X.f S=if L.all (λi=>(dS i).all (lW S i))=true then((gm S.last S.own L).elim S (λx=>(gY X.f S x 0).1))else S):=HD (by rw[hF.out,if_neg (by rw[hb];simpa using hne)]);clear hF hne hn0;go_enter func79,ntmps79;go_upto_region 3 with(first|refine YL ?_|go_at_call 123;refine KK hI (Hd _ X.f X.b X.l Y.vb Y.rc Y.ra S _ L hL.out n hn.out hvl hvw (hI.at_ aA)) ?_;intro ad cd w1 hI)
   go_loopg [6,8,27] n (λkk s6 s8 s27 wr=>∃(j:Nat),kk=n-j∧j<=n∧s27=.int .i64 (j:Int)∧Hid ((L.take j).all (λi=>(dS i).all (lW S i))=true)∧Inv (ah X Y S).own w0 wr [bf 3 1 (.slice ad n cd) n (L.map iN),ah X Y S])
   case atStart=>exact⟨0,rfl,by omega,rfl,HD rfl,hI⟩
   case round=>
    clear hI;obtain⟨j,rfl,hj,rfl,hA,hI⟩:=hrel;by_cases hjn:j<n
    ·obtain⟨gd,rfl⟩:∃gd,ad=some ⟨gd,0,none⟩:=gu hI aA (by rw[List.length_map,hn.out];omega)
     obtain⟨i,hi⟩:∃i,L[j]? =some i:=⟨_,List.getElem?_eq_getElem (by rw[hn.out];exact hjn)⟩;have hi5:i<5:=hLm.out i (List.mem_of_getElem? hi);have hiL:=HD (List.mem_of_getElem? hi);have hld:(L.map iN)[j]? =some (.int .i64 (i:Int)):=by rw[List.getElem?_map,hi];rfl
     have aiF:decide ((j:Int) < (n:Int))=true:=by simp;omega
     have hA1:Hid ((L.take (j+1)).all (λi=>(dS i).all (lW S i))=(dS i).all (lW S i)):=HD (by rw[List.take_add_one,hi,List.all_append,hA.out];simp);clear hi hA;go_upto_region 6 with(first|go_at_call 121;refine KO hI (wZ _ i hi5) ?_;intro g cw w1 hI|with_reducible refine aJ hI RF aA (aO.out (t:=3)) hld ?_)
     go_loopg [8,34] 2 (λkk s8 Yu wr=>∃(k:Nat),kk=2-k∧k<=2∧Yu=.int .i64 (k:Int)∧Hid (((dS i).take k).all (lW S i)=true)∧Inv (ah X Y S).own w0 wr [bf 3 1 (.slice (some ⟨g,0,none⟩) 2 cw) 2 ((dS i).map iN),bf 3 1 (.slice (some ⟨gd,0,none⟩) n cd) n (L.map iN),ah X Y S])
     case atStart=>exact⟨0,rfl,by omega,rfl,HD rfl,hI⟩
     case round=>
      clear hI;obtain⟨k,rfl,hk,rfl,hB,hI⟩:=hrel;by_cases hk2:k<2
      ·obtain⟨t,ht⟩:∃t,(dS i)[k]? =some t:=⟨_,List.getElem?_eq_getElem (by simp[dS];omega)⟩
       have mR:t<5:=by
        have:=List.mem_of_getElem? ht;simp only[dS,List.mem_cons,List.not_mem_nil,or_false]at this;omega
       have hlt:((dS i).map iN)[k]? =some (.int .i64 (t:Int)):=by rw[List.getElem?_map,ht];rfl
       have hB1:Hid (((dS i).take (k+1)).all (lW S i)=lW S i t):=HD (by rw[List.take_add_one,ht,List.all_append,hB.out];simp);have htm:=HD (List.mem_of_getElem? ht);clear ht hB;cases htl:lW S i t
       ·go_wp2_with(first|go_at_call 124;refine KC pg hI (wL _ X.f X.b X.l Y.vb Y.rc Y.ra S _ i t hi5 mR _ htl (hI.at_ aX)) ?_;intro w1 hI|with_reducible refine aJ hI RF aA (aO.out (t:=3)) hlt ?_)
        have e1:L.all (λi=>(dS i).all (lW S i))=false:=all_false hiL.out (all_false htm.out htl);rw[hF2.out,e1];exact⟨rfl,_,gD KF _ _,Y,rfl,hI.sub (.cons _ (.cons _ (.refl _)))⟩
       ·go_wp2_with(first|go_at_call 124;refine KC pg hI (wL _ X.f X.b X.l Y.vb Y.rc Y.ra S _ i t hi5 mR _ htl (hI.at_ aX)) ?_;intro w1 hI|with_reducible refine aJ hI RF aA (aO.out (t:=3)) hlt ?_)
        go_roundg (2- (k+1))
        case measure=>omega
        case rel=>exact⟨k+1,rfl,by omega,by go_num,HD (by rw[hB1.out,htl]),hI⟩
      ·obtain rfl:k=2:=by omega
       have hB2:(dS i).all (lW S i)=true:=by
        have:=hB.out
        rwa [show(dS i).take 2=dS i from rfl]at this
       have hA2:Hid ((L.take (j+1)).all (λi=>(dS i).all (lW S i))=true):=HD (by rw[hA1.out,hB2]);clear hB hB2;go_wp2_with(fail);go_roundg (n- (j+1))
       case measure=>omega
       case rel=>exact⟨j+1,rfl,by omega,by go_num,hA2,hI.tl⟩
    ·obtain rfl:j=n:=by omega
     have r_:Hid (jH X.f S=((gm S.last S.own L).elim S (λx=>(gY X.f S x 0).1))):=HD (by
      have e1:=hA.out;rw[List.take_of_length_le (by rw[hn.out];exact Nat.le_refl _)]at e1;rw[hF2.out,if_pos e1])
     clear hA hF2;go_upto_region 13 with(first|refine YS ?_;intro w hI|refine YX ?_;intro bx w hI|refine YL ?_)
     go_loopg [11,13,51] j (λkk s11 s13 s51 wr=>∃(k:Nat) (y:List Int),kk=j-k∧k<=j∧s51=.int .i64 (k:Int)∧Hid (gm S.last S.own L=gm S.last y (L.drop k))∧y.length=174∧Inv (ah X Y S).own w0 wr [ib bx 41 y,bf 3 1 (.slice ad j cd) j (L.map iN),ah X Y S])
     case atStart=>exact⟨0,S.own,rfl,by omega,rfl,HD rfl,hown,hI⟩
     case round=>
      clear hI;obtain⟨k,y,rfl,hk,rfl,hA,hyl,hI⟩:=hrel;by_cases hkn:k<j
      ·obtain⟨gd,rfl⟩:∃gd,ad=some ⟨gd,0,none⟩:=gu hI aM (by rw[List.length_map,hn.out];omega)
       obtain⟨i,hi⟩:∃i,L[k]? =some i:=⟨_,List.getElem?_eq_getElem (by rw[hn.out];exact hkn)⟩;have hi5:i<5:=hLm.out i (List.mem_of_getElem? hi);have aiG:(i:Int) <5:=by omega
       have hld:(L.map iN)[k]? =some (.int .i64 (i:Int)):=by rw[List.getElem?_map,hi];rfl
       have ajt:decide ((k:Int) < (j:Int))=true:=by simp;omega
       have hrl:(rowAt S.last i).length=174:=by rw[rowAt,ay];omega
       have hA1:Hid (gm S.last S.own L=if 0<gi y (29+i)then gm S.last y (L.drop (k+1))else if(C.uh y (i:Int) (rowAt S.last i)).2=0 then gm S.last (C.uh y (i:Int) (rowAt S.last i)).1 (L.drop (k+1))else none):=HD (by
        have e1:L.drop k=i::L.drop (k+1):=by
         obtain⟨h1,h2⟩:=List.getElem?_eq_some_iff.1 hi;rw[List.drop_eq_getElem_cons h1,h2]
        rw[hA.out,e1,gm])
       clear hi hA;cases hp:decide (0<gi y (29+i))
       ·have hA2:Hid (gm S.last S.own L=if(C.uh y (i:Int) (rowAt S.last i)).2=0 then gm S.last (C.uh y (i:Int) (rowAt S.last i)).1 (L.drop (k+1))else none):=HD (by rw[hA1.out,if_neg (by simpa using hp)])
        obtain⟨⟨z,ez⟩,hq0⟩:=EQ (C.uh y (i:Int) (rowAt S.last i));have hq:=HD hq0;have hzl:z.length=174:=by have:=C.Dr y (i:Int) (rowAt S.last i) hyl hrl;rw[hq0]at this;exact this
        clear hq0 hA1;have hq2:Hid (C.uh y (i:Int) (sub S.last (i*174) 174)=(z,ez)):=HD hq.out;replace hrl:(sub S.last (i*174) 174).length=174:=hrl;go_upto_region 16 with(first|refine YL ?_|with_reducible refine aJ hI RF aM (aO.out (t:=3)) hld ?_)
        (refine aD [13,14] [11] [13,14] [11] [0,1,2,3,4,5,6,7,8,9,10,11] 12 [13,14] eO KF RF hI ?_;clear hI)
        (repeat(first| ((with_reducible refine' bC RF RF RF ?_ ?_ ?_);rotate_left;(focus(intro ex w (hI:Inv _ _ w _);go_wp2_with(first|refine YL ?_|go_at_call 125;refine KD hI (aba _ y (sub S.last (i*174) 174) (i:Int) hyl hrl _ hq2.out) ?_;intro w1 hI);(try simp only[QN]);exact bB rfl hI));(focus(exact⟨_,rfl⟩))) | refine ZL ?_));refine bH ?_;intro bx w hI;(simp only[QN]);(repeat(refine ZQ ?_;go_wp2_with(refine YS ?_;intro w hI);refine ZP ?_))
        by_cases he:ez=0
        ·subst he
         have hA3:Hid (gm S.last S.own L=gm S.last z (L.drop (k+1))):=HD (by rw[hA2.out,hq.out,if_pos rfl]);clear hA2 hq;go_wp2_with(first|refine YL ?_|refine YS ?_;intro w hI);go_roundg (j- (k+1))
         case measure=>omega
         case rel=>exact⟨k+1,z,rfl,by omega,by go_num,hA3,hzl,hI.tl⟩
        ·have hF5:Hid (jH X.f S=S):=HD (by rw[r_.out,hA2.out,hq.out,if_neg he];rfl)
         have hne:(ez != 0)=true:=by simpa using he
         clear hA2 hq;go_wp2_with(fail);rw[hF5.out];exact⟨rfl,_,gD KF _ _,Y,rfl,hI.sub (.cons _ (.cons _ (.cons _ (.refl _))))⟩
       ·have hA2:Hid (gm S.last S.own L=gm S.last y (L.drop (k+1))):=HD (by rw[hA1.out,if_pos (by simpa using hp)])
        clear hA1;go_wp2_with(first|refine YL ?_|with_reducible refine aJ hI RF aM (aO.out (t:=3)) hld ?_);go_roundg (j- (k+1))
        case measure=>omega
        case rel=>exact⟨k+1,y,rfl,by omega,by go_num,hA2,hyl,hI⟩
      ·obtain rfl:k=j:=by omega
       have Tz:Hid (jH X.f S=(gY X.f S y 0).1):=HD (by
        rw[r_.out,hA.out,List.drop_of_length_le (by rw[hn.out];exact Nat.le_refl _)];rfl)
       clear hA r_;go_wp2_with(first|refine YL ?_|go_at_call 70;refine KG hI (We _ X Y S hX y 0 hyl (hI.at_ aX)) ?_;intro Y2 w1 hI);rw[Tz.out];exact⟨rfl,_,gD KF _ _,_,rfl,hI.sub (.cons _ (.cons _ (.refl _)))⟩
  ·have h0:n=0:=by simpa using hz
   have hLe:L=[]:=by rw[h0]at hn0;exact List.length_eq_zero_iff.1 hn0
   have hF2:Hid (jH X.f S=S):=HD (by rw[hF.out,if_pos (.inr hLe)]);clear hF hLe h0 hn0;exact W64
 ·have hF2:Hid (jH X.f S=S):=HD (by rw[hF.out,if_pos (.inl hb)])
  clear hF;exact W64
end
end
theorem abb(b n c:Nat)(zs:List Int)(x:Int)(w:World)(hn:zs.length=n)(hbig:n<=1000)(hr:Rd w (some ⟨b,0,none⟩) (zs.map (Value.int .i64))):
  Calls prog 178 #[.slice (some ⟨b,0,none⟩) n c,.int .i64 x] w λe w'=>e=.returned (.int .i64 (Lib.idxOf (zs.take n) x))∧w'=w:=by
 have hc:∀j z,zs[j]? =some z->w.cell? ⟨b,j,none⟩=some (.int .i64 z):=by
  intro j z hj;obtain⟨b',off,he,h⟩:=hr j (.int .i64 z) (by simp[hj]);simp only[Option.some.injEq,Addr.mk.injEq,and_true]at he;obtain⟨rfl,rfl⟩:=he;simpa using h
 clear hr;replace hc:=HD hc;replace hn:=HD hn;go_enter func178,ntmps178
 go_wp2
 go_loopg [5,8] n (λkk s5 s8 wr=>∃k:Nat,kk=n-k∧k<=n∧s8=.int .i64 (k:Int)∧Hid (∀j,j<k->zs.getD j 0≠x)∧wr=w)
 case atStart=>exact⟨0,rfl,Nat.zero_le _,rfl,HD (λj hj=>absurd hj (Nat.not_lt_zero _)),rfl⟩
 case round=>
  obtain⟨k,rfl,hk,rfl,hne,rfl⟩:=hrel;by_cases hkn:k<n
  ·obtain⟨z,hz⟩:∃z,zs[k]? =some z:=⟨_,List.getElem?_eq_getElem (by rw[hn.out];exact hkn)⟩
   have hcell:=hc.out k z hz;replace hz:=HD hz;cases hx:(x==z)
   ·go_wp2
    go_roundg (n- (k+1))
    case measure=>omega
    case rel=>
     refine⟨k+1,rfl,by omega,by go_num,HD (λj hj=>?_),rfl⟩;by_cases e:j=k
     ·subst e
      intro he;rw[List.getD_eq_getElem?_getD,hz.out]at he;simp at he hx;exact hx he.symm
     ·exact hne.out j OM
   ·go_wp2
    go_ret;refine⟨?_,rfl⟩;rw[Lib.idxOf_hit zs n k x hkn (by rw[hn.out];exact Nat.le_refl _) (by rw[List.getD_eq_getElem?_getD,hz.out];simp at hx|-;exact hx.symm) hne.out];rfl
  ·obtain rfl:k=n:=by omega
   go_wp2
   go_ret;refine⟨?_,rfl⟩;rw[Lib.idxOf_miss zs k x hne.out];rfl
theorem IC(b n c:Nat)(zs:List Int)(x:Int)(w:World)(hn:zs.length=n)(hbig:n<=1000)(hr:Rd w (some ⟨b,0,none⟩) (zs.map (Value.int .i64))):
  Calls prog 153 #[.slice (some ⟨b,0,none⟩) n c,.int .i64 x] w λe w'=>e=.returned (.bool (decide (x∈zs)))∧w'=w:=by
 have hb:decide (x∈zs)=decide (0<=Lib.idxOf (zs.take n) x):=by
  have e1:zs.take n=zs:=List.take_of_length_le OM;rw[Bool.eq_iff_iff,decide_eq_true_eq,decide_eq_true_eq,Lib.idxOf_nonneg_iff,e1,List.contains_iff_mem]
 rw[hb];go_enter func153,ntmps153;go_wp2_with(go_at_call 178;refine KR (abb b n c zs x _ hn hbig hr) ?_);go_ret;exact⟨rfl,rfl⟩
