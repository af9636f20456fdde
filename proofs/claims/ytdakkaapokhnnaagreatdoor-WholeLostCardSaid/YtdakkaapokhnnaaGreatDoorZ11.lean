/- Contracts of functions. No condition. -/
import Derived.Test.YtdakkaapokhnnaaGreatDoorZ09
import Derived.Test.YtdakkaapokhnnaaGreatDoorZ10
namespace Go.Proofs.YtdakkaapokhnnaaGreatDoor
open Go.RowKit Go.Proofs.Tryz
set_option maxRecDepth 100000
set_option maxHeartbeats 6400000
set_option linter.all false
theorem ade:(prog.info? 4).map (·.size)=some 1:=by kernel_rfl
section
variable (w0:World)(b o:Nat)(e0:TypeId)(A B:List Value)(zs:List Int)(bs:List Bool)(hzl:zs.length=870)(hbl:bs.length=5)(ho:A.length=o)(hI:Inv (nz b e0 A B zs bs).own w0 w0 [nz b e0 A B zs bs])
include hzl hbl ho hI
theorem adf(who:Int):Calls prog 46 #[.pointer (some ⟨b,o,none⟩),.int .i64 who] w0 λe w'=>e=.returned (ia (C.rowOf zs who))∧Inv (nz b e0 A B zs bs).own w0 w' [nz b e0 A B zs bs]:=by
 have hn:=aa 174;cases hm:C.aP who
 ·rw[show C.rowOf zs who=aj 174 from by simp[C.rowOf,hm]]
  go_enter func46,ntmps46;go_wp2_with(first|go_at_call 89;refine KR (C.jm _ _) ?_;(try rw[hm])|refine YS ?_;intro w hI|refine YX ?_;intro bx w hI|refine YL ?_);exact bodyPost_ret (dI hI rfl rfl aA (bG.out (t:=41)) hn) rfl ⟨rfl,hI.tl⟩
 ·obtain⟨h0,h5⟩:=C.dW hm
  rw[show C.rowOf zs who=sub zs (who.toNat*174) 174 from by simp[C.rowOf,hm]];have hsl:(sub zs (who.toNat*174) 174).length=174:=by rw[ay];omega
  go_enter func46,ntmps46;go_wp2_with(first|go_at_call 89;refine KR (C.jm _ _) ?_;(try rw[hm])|with_reducible refine Rk (j:=who.toNat*174) hI RF aM ho rfl OM ?_|refine YS ?_;intro w hI|refine YX ?_;intro bx w hI);exact bodyPost_ret (dI hI rfl rfl aA (bG.out (t:=41)) hsl) rfl ⟨rfl,hI.tl⟩
theorem Rl(who:Int):Calls prog 47 #[.pointer (some ⟨b,o,none⟩),.int .i64 who] w0 λe w'=>e=.returned (.bool (C.fJ bs who))∧Inv (nz b e0 A B zs bs).own w0 w' [nz b e0 A B zs bs]:=by
 cases hm:C.aP who
 ·rw[show C.fJ bs who=false from by simp[C.fJ,hm]]
  go_enter func47,ntmps47;go_wp2_with(go_at_call 89;refine KR (C.jm _ _) ?_;(try rw[hm]));go_ret;exact⟨rfl,hI⟩
 ·obtain⟨h0,h5⟩:=C.dW hm
  rw[show C.fJ bs who=gb bs who.toNat from by simp[C.fJ,hm]];go_enter func47,ntmps47;go_wp2_with(first|go_at_call 89;refine KR (C.jm _ _) ?_;(try rw[hm])|with_reducible refine ZN (j:=who.toNat) hI RF aA ho OM OM rfl ?_|refine YL ?_);go_ret;exact⟨rfl,hI⟩
theorem ZO(who:Int):Calls prog 103 #[.pointer (some ⟨b,o,none⟩),.int .i64 who] w0 λe w'=>e=.returned (.tuple #[ia (C.rowOf zs who),.bool (C.aP who)])∧Inv (nz b e0 A B zs bs).own w0 w' [nz b e0 A B zs (C.mI bs who)]:=by
 have hn:=aa 174;cases hm:C.aP who
 ·rw[show C.rowOf zs who=aj 174 from by simp[C.rowOf,hm],show C.mI bs who=bs from by simp[C.mI,hm]]
  go_enter func103,ntmps103;go_wp2_with(first|go_at_call 89;refine KR (C.jm _ _) ?_;(try rw[hm])|refine YS ?_;intro w hI|refine YX ?_;intro bx w hI|refine YL ?_);exact bodyPost_ret (aF hI rfl rfl aA (bG.out (t:=41)) hn) rfl ⟨rfl,hI.tl⟩
 ·obtain⟨h0,h5⟩:=C.dW hm
  rw[show C.rowOf zs who=sub zs (who.toNat*174) 174 from by simp[C.rowOf,hm],show C.mI bs who=bs.set who.toNat true from by simp[C.mI,hm]];have hsl:(sub zs (who.toNat*174) 174).length=174:=by rw[ay];omega
  go_enter func103,ntmps103;go_wp2_with(first|go_at_call 89;refine KR (C.jm _ _) ?_;(try rw[hm])|with_reducible refine Rk (j:=who.toNat*174) hI RF aM ho rfl OM ?_|(with_reducible refine ah1 (j:=who.toNat) hI RF RF iR ade ho OM OM ?_;intro w hI)|refine YS ?_;intro w hI|refine YX ?_;intro bx w hI);exact bodyPost_ret (aF hI rfl rfl aA (bG.out (t:=41)) hsl) rfl ⟨rfl,hI.tl⟩
theorem Df(who:Int)(x:List Int)(hx:x.length=174):Calls prog 143 #[.pointer (some ⟨b,o,none⟩),.int .i64 who,ia x] w0 λe w'=>e=.returned (.bool (C.lT zs bs who x))∧Inv (nz b e0 A B zs bs).own w0 w' [nz b e0 A B zs bs]:=by
 cases hm:C.aP who
 ·rw[show C.lT zs bs who x=false from by simp[C.lT,hm]]
  go_enter func143,ntmps143;go_upto_region 1 with(refine YX ?_;intro bx w hI)
  refine ZT [0,1,2,7,8,9,10,11,12,13,14,15,25,26,27] 28 hI ?_;intro wd hI
  (repeat(first|refine ZS ?_|refine ZQ ?_;go_wp2_with(go_at_call 89;refine KR (C.jm _ _) ?_;(try rw[hm]));refine ZP ?_))
  exact W57
 ·obtain⟨h0,h5⟩:=C.dW hm
  cases hs:gb bs who.toNat
  ·cases hr:C.mi x
   ·rw[show C.lT zs bs who x=false from by simp[C.lT,hr]]
    go_enter func143,ntmps143;go_upto_region 1 with(refine YX ?_;intro bx w hI)
    refine ZT [0,1,2,7,8,9,10,11,12,13,14,15,25,26,27] 28 hI ?_;intro wd hI
    (repeat(first|refine ZS ?_|refine ZQ ?_;go_wp2_with(first|refine YL ?_|go_at_call 89;refine KR (C.jm _ _) ?_;(try rw[hm])|go_at_call 90;refine KD hI (C.jb _ _ hx) ?_;intro w1 hI;(try rw[hr])|with_reducible refine ZN (j:=who.toNat) hI RF aM ho OM OM hs ?_);refine ZP ?_))
    exact W57
   ·rw[show C.lT zs bs who x=decide (gi zs (who.toNat*174) <gi x 0)from by simp[C.lT,hm,hs,hr]]
    go_enter func143,ntmps143;go_upto_region 1 with(refine YX ?_;intro bx w hI)
    refine ZT [0,1,2,7,8,9,10,11,12,13,14,15,25,26,27] 28 hI ?_;intro wd hI
    (repeat(refine ZQ ?_;go_wp2_with(first|refine YL ?_|go_at_call 89;refine KR (C.jm _ _) ?_;(try rw[hm])|go_at_call 90;refine KD hI (C.jb _ _ hx) ?_;intro w1 hI;(try rw[hr])|with_reducible refine ZN (j:=who.toNat) hI RF aM ho OM OM hs ?_|with_reducible refine adb (j:=who.toNat*174) hI RF aM ho OM OM ?_);refine ZP ?_))
    exact W57
  ·rw[show C.lT zs bs who x=false from by simp[C.lT,hs]]
   go_enter func143,ntmps143;go_upto_region 1 with(refine YX ?_;intro bx w hI)
   refine ZT [0,1,2,7,8,9,10,11,12,13,14,15,25,26,27] 28 hI ?_;intro wd hI
   (repeat(first|refine ZS ?_|refine ZQ ?_;go_wp2_with(first|go_at_call 89;refine KR (C.jm _ _) ?_;(try rw[hm])|with_reducible refine ZN (j:=who.toNat) hI RF aM ho OM OM hs ?_);refine ZP ?_))
   exact W57
theorem ZU(who:Int)(x:List Int)(hx:x.length=174):Calls prog 102 #[.pointer (some ⟨b,o,none⟩),.int .i64 who,ia x] w0 λe w'=>e=.returned (.bool (C.lT zs bs who x))∧Inv (nz b e0 A B zs bs).own w0 w' [nz b e0 A B (C.jZ zs bs who x) bs]:=by
 cases hk:C.lT zs bs who x
 ·rw[show C.jZ zs bs who x=zs from by simp[C.jZ,hk]]
  go_enter func102,ntmps102;go_wp2_with(first|go_at_call 143;refine KC iR hI (Df _ b o e0 A B zs bs hzl hbl ho (hI.at_ aM) who x hx) ?_;intro w1 hI;(rw[hk])|refine YL ?_|refine YX ?_;intro bx w hI);go_ret;exact⟨rfl,hI.tl⟩
 ·obtain⟨h0,h5⟩:=C.dW (C.xM hk)
  rw[show C.jZ zs bs who x=dF zs (who.toNat*174) x from by simp[C.jZ,hk]];go_enter func102,ntmps102;go_upto_region 3 with(first|go_at_call 143;refine KC iR hI (Df _ b o e0 A B zs bs hzl hbl ho (hI.at_ aM) who x hx) ?_;intro w1 hI;(rw[hk])|refine YL ?_|refine YX ?_;intro bx w hI)
  refine ZT [5,6] 7 hI ?_;intro wd hI
  (repeat(refine ZQ ?_;go_wp2_with(first|(with_reducible refine agc (j:=who.toNat*174) hI RF RF iR ho OM hx OM ?_;intro w hI)|refine YL ?_);refine ZP ?_))
  exact W57
end
section
open A (QE jJ bu)
structure RS where
 view:List Int
 own:List Int
 bV:List Int
 sl:List Bool
 acc:List Int
 round:Int
 aK:Option (List Int×Bool)
 book:List Int
 busy:Bool
 kept:Int
 waits:Int
 ops:Int
 aV:List (List Int)
 told:List Int
 last:List Int
 D:DS
 cnt:Nat
 used:Nat
 B:Nat->List (List UInt8)
structure dB (S:RS):Prop where
 view:S.view.length=7
 own:S.own.length=174
 bV:S.bV.length=870
 sl:S.sl.length=5
 acc:S.acc.length=8
 book:S.book.length=870
 told:S.told.length=5
 last:S.last.length=870
 aK:∀p,S.aK=some p->p.1.length=16
def iz(zs:List Int):List Value:=zs.map (Value.int .i64)
theorem jo(zs:List Int):(iz zs).length=zs.length:=by simp[iz]
def H7(vb:Nat):Option (List Int×Bool)->Value
 |none=> .pointer none
 |some _=> .pointer (some ⟨vb,0,none⟩)
def ru:aG:=⟨[],λ_=>True,λ_ _ _ h=>h⟩
def lI(p:Prop):aG:=⟨[],λ_=>p,λ_ _ _ h=>h⟩
def J3(vb:Nat):Option (List Int×Bool)->aG
 |none=>ru
 |some p=>xf vb 208 p.1 [p.2]
def aU(f l vb:Nat)(ra:Option Addr)(rc:Nat)(S:RS):List Value:=[.int .i64 (f:Int)]++([.pointer (some ⟨l,0,none⟩)]++(iz S.view++(iz S.own++(iz S.bV++(S.sl.map Value.bool++(iz S.acc++([.int .i64 S.round]++([H7 vb S.aK]++(iz S.book++([.bool S.busy]++([.int .i64 S.kept]++([.int .i64 S.waits]++([.int .i64 S.ops]++([.slice ra S.aV.length rc]++(iz S.told++(iz S.last))))))))))))))))
theorem Dt{f l vb:Nat}{ra:Option Addr}{rc:Nat}{S:RS}(h:dB S):(aU f l vb ra rc S).length=2818:=by
 simp only[aU,List.length_append,List.length_cons,List.length_nil,jo,List.length_map,h.view,h.own,h.bV,h.sl,h.acc,h.book,h.told,h.last]
theorem Nv(A B:List Value)(u v:Value):splice (A++(u::B)) A.length [v]=A++(v::B):=by
 simp[splice]
theorem kM{A B:List Value}{zs ws:List Int}{o j:Nat}(hA:A.length=o)(hl:j+ws.length<=zs.length):splice (A++(iz zs++B)) (o+j) (iz ws)=A++(iz (dF zs j ws)++B):=by
 have:=Pw (A:=A) (B:=B) (zs:=zs) (ws:=ws) (bs:=[]) (j:=j) hA hl;simpa[mix,iz]using this
theorem aaj{A B:List Value}{zs:List Int}{o j n:Nat}(hA:A.length=o)(hl:j+n<=zs.length):((A++(iz zs++B)).drop (o+j)).take n=iz (sub zs j n):=by
 have:=Pv (A:=A) (B:=B) (zs:=zs) (bs:=[]) (j:=j) hA hl;simpa[mix,iz]using this
theorem aak{A B:List Value}{zs:List Int}{o j:Nat}(hA:A.length=o)(hl:j<zs.length):(A++(iz zs++B))[o+j]? =some (.int .i64 (gi zs j)):=by
 have:=Px (A:=A) (B:=B) (zs:=zs) (bs:=[]) (j:=j) hA hl;simpa[mix,iz]using this
theorem xR{ws:List Int}:∀u∈iz ws,u.oneCell'=true:=λu hu=>by obtain⟨z,_,rfl⟩:=List.mem_map.1 hu;rfl
theorem xS{v:Value}(h:v.oneCell'=true):∀u∈[v],u.oneCell'=true:=λu hu=>by rw[List.mem_singleton.1 hu];exact h
def sg(f l vb:Nat)(ra:Option Addr)(rc:Nat)(S:RS):List (List Value):=[[.int .i64 (f:Int)],[.pointer (some ⟨l,0,none⟩)],iz S.view,iz S.own,iz S.bV,S.sl.map Value.bool,iz S.acc,[.int .i64 S.round],[H7 vb S.aK],iz S.book,[.bool S.busy],[.int .i64 S.kept],[.int .i64 S.waits],[.int .i64 S.ops],[.slice ra S.aV.length rc],iz S.told,iz S.last]
theorem FA{p:Prop}(q:p:=by simp only[sg,List.take_succ_cons,List.take_zero,List.flatten_cons,List.flatten_nil,List.length_append,List.length_cons,List.length_nil,jo,List.length_map,h.view,h.own,h.bV,h.sl,h.acc,h.book,h.told]):p:=q
theorem FB{p:Prop}(q:p:=by simp only[aU,sg,List.take_succ_cons,List.take_zero,List.drop_succ_cons,List.drop_zero,List.drop_nil,List.flatten_cons,List.flatten_nil,List.append_assoc,List.cons_append,List.nil_append,List.append_nil]):p:=q
theorem FC{A B X Y:List Value}{u v:Value}{o:Nat}(hA:A.length=o)(e1:X=A++(u::B))(e2:Y=A++(v::B)):splice X o [v]=Y:=by
 rw[e1,e2,<-hA];exact Nv A B _ _
section
variable (f l vb:Nat)(ra:Option Addr)(rc:Nat){S:RS}(h:dB S)
include h
theorem adz:∃A B,A.length=0∧aU f l vb ra rc S=A++(.int .i64 (f:Int)::B):=⟨((sg f l vb ra rc S).take 0).flatten,((sg f l vb ra rc S).drop 1).flatten,FA,FB⟩
theorem aal:∃A B,A.length=1∧aU f l vb ra rc S=A++(.pointer (some ⟨l,0,none⟩)::B):=⟨((sg f l vb ra rc S).take 1).flatten,((sg f l vb ra rc S).drop 2).flatten,FA,FB⟩
theorem Du:∃A B,A.length=2∧∀zs,aU f l vb ra rc {S with view:=zs}=A++(iz zs++B):=⟨((sg f l vb ra rc S).take 2).flatten,((sg f l vb ra rc S).drop 3).flatten,FA,λ_=>FB⟩
theorem BA:∃A B,A.length=9∧∀zs,aU f l vb ra rc {S with own:=zs}=A++(iz zs++B):=⟨((sg f l vb ra rc S).take 3).flatten,((sg f l vb ra rc S).drop 4).flatten,FA,λ_=>FB⟩
theorem ahq:∃A B,A.length=183∧∀zs,aU f l vb ra rc {S with bV:=zs}=A++(iz zs++B):=⟨((sg f l vb ra rc S).take 4).flatten,((sg f l vb ra rc S).drop 5).flatten,FA,λ_=>FB⟩
theorem wC:∃A B,A.length=1058∧∀zs,aU f l vb ra rc {S with acc:=zs}=A++(iz zs++B):=⟨((sg f l vb ra rc S).take 6).flatten,((sg f l vb ra rc S).drop 7).flatten,FA,λ_=>FB⟩
theorem FW:∃A B,A.length=1066∧∀u:Int,aU f l vb ra rc {S with round:=u}=A++(.int .i64 u::B):=⟨((sg f l vb ra rc S).take 7).flatten,((sg f l vb ra rc S).drop 8).flatten,FA,λ_=>FB⟩
theorem RL(u:Int):splice (aU f l vb ra rc S) 1066 [.int .i64 u]=aU f l vb ra rc {S with round:=u}:=let ⟨_,_,hA,e⟩:=FW f l vb ra rc h;FC hA (e S.round) (e u)
theorem J4:∃A B,A.length=1067∧∀vb u,aU f l vb ra rc {S with aK:=u}=A++(H7 vb u::B):=⟨((sg f l 0 ra rc S).take 8).flatten,((sg f l 0 ra rc S).drop 9).flatten,FA,λ_ _=>FB⟩
theorem J5(vb2:Nat)(u:Option (List Int×Bool)):splice (aU f l vb ra rc S) 1067 [H7 vb2 u]=aU f l vb2 ra rc {S with aK:=u}:=let ⟨_,_,hA,e⟩:=J4 f l ra rc h;FC hA (e vb S.aK) (e vb2 u)
theorem VE:∃A B,A.length=1068∧∀zs,aU f l vb ra rc {S with book:=zs}=A++(iz zs++B):=⟨((sg f l vb ra rc S).take 9).flatten,((sg f l vb ra rc S).drop 10).flatten,FA,λ_=>FB⟩
theorem J6:∃A B,A.length=1938∧∀u:Bool,aU f l vb ra rc {S with busy:=u}=A++(.bool u::B):=⟨((sg f l vb ra rc S).take 10).flatten,((sg f l vb ra rc S).drop 11).flatten,FA,λ_=>FB⟩
theorem VF(u:Bool):splice (aU f l vb ra rc S) 1938 [.bool u]=aU f l vb ra rc {S with busy:=u}:=let ⟨_,_,hA,e⟩:=J6 f l vb ra rc h;FC hA (e S.busy) (e u)
theorem J7:∃A B,A.length=1939∧∀u:Int,aU f l vb ra rc {S with kept:=u}=A++(.int .i64 u::B):=⟨((sg f l vb ra rc S).take 11).flatten,((sg f l vb ra rc S).drop 12).flatten,FA,λ_=>FB⟩
theorem VG(u:Int):splice (aU f l vb ra rc S) 1939 [.int .i64 u]=aU f l vb ra rc {S with kept:=u}:=let ⟨_,_,hA,e⟩:=J7 f l vb ra rc h;FC hA (e S.kept) (e u)
theorem FX:∃A B,A.length=1940∧∀u:Int,aU f l vb ra rc {S with waits:=u}=A++(.int .i64 u::B):=⟨((sg f l vb ra rc S).take 12).flatten,((sg f l vb ra rc S).drop 13).flatten,FA,λ_=>FB⟩
theorem RN(u:Int):splice (aU f l vb ra rc S) 1940 [.int .i64 u]=aU f l vb ra rc {S with waits:=u}:=let ⟨_,_,hA,e⟩:=FX f l vb ra rc h;FC hA (e S.waits) (e u)
theorem PM:∃A B,A.length=1941∧∀u:Int,aU f l vb ra rc {S with ops:=u}=A++(.int .i64 u::B):=⟨((sg f l vb ra rc S).take 13).flatten,((sg f l vb ra rc S).drop 14).flatten,FA,λ_=>FB⟩
theorem aam(u:Int):splice (aU f l vb ra rc S) 1941 [.int .i64 u]=aU f l vb ra rc {S with ops:=u}:=let ⟨_,_,hA,e⟩:=PM f l vb ra rc h;FC hA (e S.ops) (e u)
theorem Dv:∃A B,A.length=1942∧∀ra rc u,aU f l vb ra rc {S with aV:=u}=A++(.slice ra u.length rc::B):=⟨((sg f l vb none 0 S).take 14).flatten,((sg f l vb none 0 S).drop 15).flatten,FA,λ_ _ _=>FB⟩
theorem VH(ra2:Option Addr)(rc2:Nat)(u:List (List Int)):splice (aU f l vb ra rc S) 1942 [.slice ra2 u.length rc2]=aU f l vb ra2 rc2 {S with aV:=u}:=let ⟨_,_,hA,e⟩:=Dv f l vb h;FC hA (e ra rc S.aV) (e ra2 rc2 u)
theorem J8:∃A B,A.length=1943∧∀zs,aU f l vb ra rc {S with told:=zs}=A++(iz zs++B):=⟨((sg f l vb ra rc S).take 15).flatten,((sg f l vb ra rc S).drop 16).flatten,FA,λ_=>FB⟩
theorem Dw:∃A B,A.length=1948∧∀zs,aU f l vb ra rc {S with last:=zs}=A++(iz zs++B):=⟨((sg f l vb ra rc S).take 16).flatten,((sg f l vb ra rc S).drop 17).flatten,FA,λ_=>FB⟩
end
abbrev rb(f b l vb:Nat)(ra:Option Addr)(rc:Nat)(S:RS):aG:=two (lI (dB S)) (two (blk b 98 (aU f l vb ra rc S)) (J3 vb S.aK))
section
variable {P:Program}{ops:Array Oper}{Q:Exit->Act->World->Prop}{a:Act}{rest:List Oper}{T:List Nat}{w0 w:World}{m m':List aG}{dst:Option Tmp}{ty:TypeId}{pos:String}{af:Array Edge}
variable {x y:Operand}{f b l vb vb' off j n rc rc':Nat}{ra ra':Option Addr}{t:TypeId}{S S':RS}{Z:aG}{ws:List Int}{v:Value}
theorem lF(hI:Inv T w0 w m)(hm:two (rb f b l vb ra rc S) Z∈m):dB S∧w.heap[b]? =some (.cells (aU f l vb ra rc S).toArray 98 (0,0)):=by
 have h:=(hI.sat _ hm).1;exact⟨h.1,h.2.1⟩
theorem qy{zs:List Int}{A B:List Value}{o:Nat}{gd:Option (Nat×Bool)}(hx:a.eval x=.pointer (some ⟨b,off,none⟩))(hb:w.heap[b]? =some (.cells (aU f l vb ra rc S).toArray 98 (0,0)))(hT:fw P t n)(hA:A.length=o)(hc:aU f l vb ra rc S=A++(iz zs++B))(ho:off=o+j)(hl:j+n<=zs.length):
  fP P ⟨dst,.load t x,ty,pos,af,gd⟩ a w (ia (sub zs j n)):=by
 subst ho;unfold fP execOp;have hlen:o+j+n<=(aU f l vb ra rc S).length:=by rw[hc];simp only[List.length_append,jo];omega
 simp only[hx,Instr.loadAt,Instr.sureAddr,Sem.run_bind,Sem.run_pure,Result.andThen_ok,g_ hT hb (o+j) hlen];rw[hc,aaj hA hl];rfl
theorem qz{A B:List Value}{o:Nat}{gd:Option (Nat×Bool)}{zs:List Int}(hx:a.eval x=.pointer (some ⟨b,off,none⟩))(hb:w.heap[b]? =some (.cells (aU f l vb ra rc S).toArray 98 (0,0)))(hT:jg P t)(hA:A.length=o)(hc:aU f l vb ra rc S=A++(iz zs++B))(ho:off=o+j)(hl:j<zs.length):
  fP P ⟨dst,.load t x,ty,pos,af,gd⟩ a w (.int .i64 (gi zs j)):=by
 subst ho;unfold fP execOp;simp only[hx,Instr.loadAt,Instr.sureAddr,Sem.run_bind,Sem.run_pure,Result.andThen_ok,gI hT hb (o+j) (by rw[hc];exact aak hA hl)]
theorem il{A B:List Value}{gd:Option (Nat×Bool)}(hx:a.eval x=.pointer (some ⟨b,off,none⟩))(hb:w.heap[b]? =some (.cells (aU f l vb ra rc S).toArray 98 (0,0)))(hT:jg P t)(hA:A.length=off)(hc:aU f l vb ra rc S=A++(v::B)):
  fP P ⟨dst,.load t x,ty,pos,af,gd⟩ a w v:=by
 subst hA;unfold fP execOp;simp only[hx,Instr.loadAt,Instr.sureAddr,Sem.run_bind,Sem.run_pure,Result.andThen_ok,gI (v:=v) hT hb A.length (by rw[hc];simp)]
theorem bI{vs:List Value}(hI:Inv T w0 w m)(hx:a.eval x=.pointer (some ⟨b,off,none⟩))(hv:(a.eval y).cells=vs.toArray)(hu:aR (two (rb f b l vb ra rc S) Z) (two (rb f b l vb' ra' rc' S') Z) m m')
  (hn:(P.info? t).map (·.size)=some n) (hsp:dB S->splice (aU f l vb ra rc S) off vs=aU f l vb' ra' rc' S') (hl:dB S->dB S') (hV:(vb'=vb∧S'.aK=S.aK)∨S'.aK=none) (hvl:vs.length=n) (hoff:off+n<=2818) (h1:∀u∈vs,u.oneCell'=true)
  (k:∀w',Inv T w0 w' m'->wpList P ops Q rest (a.put dst undef) w'):wpList P ops Q (⟨dst,.store t x y,ty,pos,af,none⟩::rest) a w:=
 wpList_plain rfl λK hK=>by
  have hm:two (rb f b l vb ra rc S) Z∈m:=by obtain⟨m1,m2,rfl,_⟩:=hu.split;simp
  obtain⟨hL,hb⟩:=lF hI hm;have ES:=hI.sat _ hm;obtain⟨w',hr,hst,hsz,hh⟩:=tN (P:=P) (v:=a.eval y) hn vs hv hvl h1 hb off (by rw[Dt hL];exact hoff);unfold Oper.wp execOp;simp only[hx,Instr.storeAt,Instr.sureAddr,Sem.run_bind,Sem.run_pure,Result.andThen_ok,hr];refine hK _ _ (k w' ?_);have hnd:=hI.nd hm;have hbv:b∉(J3 vb S.aK).own++Z.own:=by
   have:(b::((J3 vb S.aK).own++Z.own)).Nodup:=by simpa[two,lI,blk]using hnd
   exact(List.nodup_cons.1 this).1
  have qR:∀k∈(J3 vb S.aK).own++Z.own,w'.heap[k]? =w.heap[k]? :=λk hk=>by
   refine hst.same k (hI.mine k (dE.2 ⟨_,hm,by simp only[two,lI,blk,List.nil_append,List.mem_append]at hk|-;rcases hk with h|h<;>simp[h]⟩)).2 ?_;intro hkb;rw[List.mem_singleton.1 hkb]at hk;exact hbv hk
  have hown:∀k∈(two (rb f b l vb' ra' rc' S') Z).own,k∈(two (rb f b l vb ra rc S) Z).own:=by
   rcases hV with⟨rfl,e⟩ |e
   ·intro k hk;simpa[two,lI,blk,e]using hk
   ·intro k hk
    simp only[two,lI,blk,e,J3,ru,List.nil_append,List.append_nil,List.mem_append,List.mem_singleton]at hk|-;rcases hk with h|h<;>simp[h]
  refine hI.upd hu (hst.mono λk hk=>by rw[List.mem_singleton.1 hk];simp[two,lI,blk]) ⟨⟨hl hL,?_,?_⟩,?_⟩ (λk hk=> .inl (hown k hk)) ?_
  ·show w'.heap[b]? =_
   rw[hh,hsp hL]
  ·rcases hV with⟨rfl,e⟩ |e
   ·rw[e];exact(J3 vb' S.aK).loc w w' (λk hk=>qR k (List.mem_append.2 (.inl hk))) ES.1.2.2
   ·rw[e];trivial
  ·exact Z.loc w w' (λk hk=>qR k (List.mem_append.2 (.inr hk))) ES.2
  ·rcases hV with⟨rfl,e⟩ |e
   ·have e2:(two (rb f b l vb' ra' rc' S') Z).own=(two (rb f b l vb' ra rc S) Z).own:=by simp[two,lI,blk,e]
    rw[e2];exact hnd
   ·have aan:(b::((J3 vb S.aK).own++Z.own)).Nodup:=by simpa[two,lI,blk]using hnd
    have:(b::Z.own).Nodup:=aan.sublist (List.Sublist.cons_cons _ (List.sublist_append_right _ _));simpa[two,lI,blk,e,J3,ru]using this
section
variable (hI:Inv T w0 w m)
include hI
theorem TR(hx:a.eval x=.pointer (some ⟨b,2,none⟩):=by exact RF)(hm:two (rb f b l vb ra rc S) Z∈m:=by exact MM)[hT:bG P t 7]:fP P ⟨dst,.load t x,ty,pos,af,none⟩ a w (ia S.view):=by
 obtain⟨hL,hb⟩:=lF hI hm;obtain⟨A,B,hA,e⟩:=Du f l vb ra rc hL;have h:=qy (dst:=dst) (ty:=ty) (pos:=pos) (af:=af) (gd:=none) (j:=0) (n:=7) hx hb hT.out hA (e S.view) rfl (by rw[hL.view];omega)
 rwa [show sub S.view 0 7=S.view from by rw[<-hL.view];simp[sub]]at h
theorem O5(hx:a.eval x=.pointer (some ⟨b,9,none⟩):=by exact RF)(hm:two (rb f b l vb ra rc S) Z∈m:=by exact MM)[hT:bG P t 174]:fP P ⟨dst,.load t x,ty,pos,af,none⟩ a w (ia S.own):=by
 obtain⟨hL,hb⟩:=lF hI hm;obtain⟨A,B,hA,e⟩:=BA f l vb ra rc hL;have h:=qy (dst:=dst) (ty:=ty) (pos:=pos) (af:=af) (gd:=none) (j:=0) (n:=174) hx hb hT.out hA (e S.own) rfl (by rw[hL.own];omega)
 rwa [show sub S.own 0 174=S.own from by rw[<-hL.own];simp[sub]]at h
theorem YU(hx:a.eval x=.pointer (some ⟨b,1058,none⟩):=by exact RF)(hm:two (rb f b l vb ra rc S) Z∈m:=by exact MM)[hT:bG P t 8]:fP P ⟨dst,.load t x,ty,pos,af,none⟩ a w (ia S.acc):=by
 obtain⟨hL,hb⟩:=lF hI hm;obtain⟨A,B,hA,e⟩:=wC f l vb ra rc hL;have h:=qy (dst:=dst) (ty:=ty) (pos:=pos) (af:=af) (gd:=none) (j:=0) (n:=8) hx hb hT.out hA (e S.acc) rfl (by rw[hL.acc];omega)
 rwa [show sub S.acc 0 8=S.acc from by rw[<-hL.acc];simp[sub]]at h
theorem QM(hx:a.eval x=.pointer (some ⟨b,2,none⟩):=by exact RF)(hm:two (rb f b l vb ra rc S) Z∈m:=by exact MM)[hT:aO P t]:fP P ⟨dst,.load t x,ty,pos,af,none⟩ a w (.int .i64 (gi S.view 0)):=by
 obtain⟨hL,hb⟩:=lF hI hm;obtain⟨A,B,hA,e⟩:=Du f l vb ra rc hL;exact qz (j:=0) hx hb hT.out hA (e S.view) OM (by rw[hL.view];omega)
theorem TS(hx:a.eval x=.pointer (some ⟨b,9,none⟩):=by exact RF)(hm:two (rb f b l vb ra rc S) Z∈m:=by exact MM)[hT:aO P t]:fP P ⟨dst,.load t x,ty,pos,af,none⟩ a w (.int .i64 (gi S.own 0)):=by
 obtain⟨hL,hb⟩:=lF hI hm;obtain⟨A,B,hA,e⟩:=BA f l vb ra rc hL;exact qz (j:=0) hx hb hT.out hA (e S.own) OM (by rw[hL.own];omega)
theorem TT(hx:a.eval x=.pointer (some ⟨b,1059,none⟩):=by exact RF)(hm:two (rb f b l vb ra rc S) Z∈m:=by exact MM)[hT:bG P t 2]:fP P ⟨dst,.load t x,ty,pos,af,none⟩ a w (ia (sub S.acc 1 2)):=by
 obtain⟨hL,hb⟩:=lF hI hm;obtain⟨A,B,hA,e⟩:=wC f l vb ra rc hL;exact qy (j:=1) hx hb hT.out hA (e S.acc) OM (by rw[hL.acc];omega)
theorem TU{i:Nat}(hx:a.eval x=.pointer (some ⟨b,38+i,none⟩):=by exact RF)(hm:two (rb f b l vb ra rc S) Z∈m:=by exact MM)[hT:aO P t](hi:i<5:=by omega):fP P ⟨dst,.load t x,ty,pos,af,none⟩ a w (.int .i64 (gi S.own (29+i))):=by
 obtain⟨hL,hb⟩:=lF hI hm;obtain⟨A,B,hA,e⟩:=BA f l vb ra rc hL;exact qz (j:=(29+i)) hx hb hT.out hA (e S.own) OM (by rw[hL.own];omega)
theorem QO{i:Nat}(hx:a.eval x=.pointer (some ⟨b,1943+i,none⟩):=by exact RF)(hm:two (rb f b l vb ra rc S) Z∈m:=by exact MM)[hT:aO P t](hi:i<5:=by omega):fP P ⟨dst,.load t x,ty,pos,af,none⟩ a w (.int .i64 (gi S.told i)):=by
 obtain⟨hL,hb⟩:=lF hI hm;obtain⟨A,B,hA,e⟩:=J8 f l vb ra rc hL;exact qz (j:=i) hx hb hT.out hA (e S.told) OM (by rw[hL.told];omega)
theorem QP{i:Nat}(hx:a.eval x=.pointer (some ⟨b,1948+i*174,none⟩):=by exact RF)(hm:two (rb f b l vb ra rc S) Z∈m:=by exact MM)[hT:aO P t](hi:i<5:=by omega):fP P ⟨dst,.load t x,ty,pos,af,none⟩ a w (.int .i64 (gi S.last (i*174))):=by
 obtain⟨hL,hb⟩:=lF hI hm;obtain⟨A,B,hA,e⟩:=Dw f l vb ra rc hL;exact qz (j:=(i*174)) hx hb hT.out hA (e S.last) OM (by rw[hL.last];omega)
theorem QQ{i:Nat}(hx:a.eval x=.pointer (some ⟨b,1948+i*174,none⟩):=by exact RF)(hm:two (rb f b l vb ra rc S) Z∈m:=by exact MM)[hT:bG P t 174](hi:i<5:=by omega):fP P ⟨dst,.load t x,ty,pos,af,none⟩ a w (ia (sub S.last (i*174) 174)):=by
 obtain⟨hL,hb⟩:=lF hI hm;obtain⟨A,B,hA,e⟩:=Dw f l vb ra rc hL;exact qy (j:=(i*174)) hx hb hT.out hA (e S.last) OM (by rw[hL.last];omega)
theorem Ck(hx:a.eval x=.pointer (some ⟨b,0,none⟩):=by exact RF)(hm:two (rb f b l vb ra rc S) Z∈m:=by exact MM)[hT:aO P t]:fP P ⟨dst,.load t x,ty,pos,af,none⟩ a w (.int .i64 (f:Int)):=let ⟨hL,hb⟩:=lF hI hm;let ⟨_,_,hA,e⟩:=adz f l vb ra rc hL;il hx hb hT.out hA e
theorem O6(hx:a.eval x=.pointer (some ⟨b,1,none⟩):=by exact RF)(hm:two (rb f b l vb ra rc S) Z∈m:=by exact MM)[hT:aO P t]:fP P ⟨dst,.load t x,ty,pos,af,none⟩ a w (.pointer (some ⟨l,0,none⟩)):=let ⟨hL,hb⟩:=lF hI hm;let ⟨_,_,hA,e⟩:=aal f l vb ra rc hL;il hx hb hT.out hA e
theorem vW(hx:a.eval x=.pointer (some ⟨b,1066,none⟩):=by exact RF)(hm:two (rb f b l vb ra rc S) Z∈m:=by exact MM)[hT:aO P t]:fP P ⟨dst,.load t x,ty,pos,af,none⟩ a w (.int .i64 S.round):=let ⟨hL,hb⟩:=lF hI hm;let ⟨_,_,hA,e⟩:=FW f l vb ra rc hL;il hx hb hT.out hA (e S.round)
theorem Cm(hx:a.eval x=.pointer (some ⟨b,1067,none⟩):=by exact RF)(hm:two (rb f b l vb ra rc S) Z∈m:=by exact MM)[hT:aO P t]:fP P ⟨dst,.load t x,ty,pos,af,none⟩ a w (H7 vb S.aK):=let ⟨hL,hb⟩:=lF hI hm;let ⟨_,_,hA,e⟩:=J4 f l ra rc hL;il hx hb hT.out hA (e vb S.aK)
theorem Jh(hx:a.eval x=.pointer (some ⟨b,1938,none⟩):=by exact RF)(hm:two (rb f b l vb ra rc S) Z∈m:=by exact MM)[hT:aO P t]:fP P ⟨dst,.load t x,ty,pos,af,none⟩ a w (.bool S.busy):=let ⟨hL,hb⟩:=lF hI hm;let ⟨_,_,hA,e⟩:=J6 f l vb ra rc hL;il hx hb hT.out hA (e S.busy)
theorem TV(hx:a.eval x=.pointer (some ⟨b,1939,none⟩):=by exact RF)(hm:two (rb f b l vb ra rc S) Z∈m:=by exact MM)[hT:aO P t]:fP P ⟨dst,.load t x,ty,pos,af,none⟩ a w (.int .i64 S.kept):=let ⟨hL,hb⟩:=lF hI hm;let ⟨_,_,hA,e⟩:=J7 f l vb ra rc hL;il hx hb hT.out hA (e S.kept)
theorem QR(hx:a.eval x=.pointer (some ⟨b,1940,none⟩):=by exact RF)(hm:two (rb f b l vb ra rc S) Z∈m:=by exact MM)[hT:aO P t]:fP P ⟨dst,.load t x,ty,pos,af,none⟩ a w (.int .i64 S.waits):=let ⟨hL,hb⟩:=lF hI hm;let ⟨_,_,hA,e⟩:=FX f l vb ra rc hL;il hx hb hT.out hA (e S.waits)
theorem YW(hx:a.eval x=.pointer (some ⟨b,1941,none⟩):=by exact RF)(hm:two (rb f b l vb ra rc S) Z∈m:=by exact MM)[hT:aO P t]:fP P ⟨dst,.load t x,ty,pos,af,none⟩ a w (.int .i64 S.ops):=let ⟨hL,hb⟩:=lF hI hm;let ⟨_,_,hA,e⟩:=PM f l vb ra rc hL;il hx hb hT.out hA (e S.ops)
theorem TW(hx:a.eval x=.pointer (some ⟨b,1942,none⟩):=by exact RF)(hm:two (rb f b l vb ra rc S) Z∈m:=by exact MM)[hT:aO P t]:fP P ⟨dst,.load t x,ty,pos,af,none⟩ a w (.slice ra S.aV.length rc):=let ⟨hL,hb⟩:=lF hI hm;let ⟨_,_,hA,e⟩:=Dv f l vb hL;il hx hb hT.out hA (e ra rc S.aV)
end
theorem YY(hI:Inv T w0 w m)(hx:a.eval x=.pointer (some ⟨b,2,none⟩):=by exact RF)(hv:a.eval y=ia ws:=by exact RF)(hu:aR (two (rb f b l vb ra rc S) Z) (two (rb f b l vb ra rc {S with view:=ws}) Z) m m':=by exact UU)[hT:bG P t 7](hl:ws.length=7:=by exact LB)
  (k:∀w',Inv T w0 w' m'->wpList P ops Q rest (a.put dst undef) w'):wpList P ops Q (⟨dst,.store t x y,ty,pos,af,none⟩::rest) a w:=
 bI (vs:=iz ws) hI hx (by rw[hv];rfl) hu hT.out.size (λhL=>by
  obtain⟨A,B,hA,e⟩:=Du f l vb ra rc hL;have h:=kM (B:=B) (j:=0) (zs:=S.view) (ws:=ws) hA (by rw[hL.view,hl];omega);rw[show aU f l vb ra rc S=_ from e S.view,e ws];rw[show dF S.view 0 ws=ws from by have:=hL.view;simp[dF,hl,this]]at h;exact h) (λhL=>⟨hl,hL.own,hL.bV,hL.sl,hL.acc,hL.book,hL.told,hL.last,hL.aK⟩) (.inl ⟨rfl,rfl⟩) (by rw[jo];exact hl) OM xR k
theorem acL(hI:Inv T w0 w m)(hx:a.eval x=.pointer (some ⟨b,9,none⟩):=by exact RF)(hv:a.eval y=ia ws:=by exact RF)(hu:aR (two (rb f b l vb ra rc S) Z) (two (rb f b l vb ra rc {S with own:=ws}) Z) m m':=by exact UU)[hT:bG P t 174](hl:ws.length=174:=by exact LB)
  (k:∀w',Inv T w0 w' m'->wpList P ops Q rest (a.put dst undef) w'):wpList P ops Q (⟨dst,.store t x y,ty,pos,af,none⟩::rest) a w:=
 bI (vs:=iz ws) hI hx (by rw[hv];rfl) hu hT.out.size (λhL=>by
  obtain⟨A,B,hA,e⟩:=BA f l vb ra rc hL;have h:=kM (B:=B) (j:=0) (zs:=S.own) (ws:=ws) hA (by rw[hL.own,hl];omega);rw[show aU f l vb ra rc S=_ from e S.own,e ws];rw[show dF S.own 0 ws=ws from by have:=hL.own;simp[dF,hl,this]]at h;exact h) (λhL=>⟨hL.view,hl,hL.bV,hL.sl,hL.acc,hL.book,hL.told,hL.last,hL.aK⟩) (.inl ⟨rfl,rfl⟩) (by rw[jo];exact hl) OM xR k
theorem acM(hI:Inv T w0 w m)(hx:a.eval x=.pointer (some ⟨b,1058,none⟩):=by exact RF)(hv:a.eval y=ia ws:=by exact RF)(hu:aR (two (rb f b l vb ra rc S) Z) (two (rb f b l vb ra rc {S with acc:=ws}) Z) m m':=by exact UU)[hT:bG P t 8](hl:ws.length=8:=by exact LB)
  (k:∀w',Inv T w0 w' m'->wpList P ops Q rest (a.put dst undef) w'):wpList P ops Q (⟨dst,.store t x y,ty,pos,af,none⟩::rest) a w:=
 bI (vs:=iz ws) hI hx (by rw[hv];rfl) hu hT.out.size (λhL=>by
  obtain⟨A,B,hA,e⟩:=wC f l vb ra rc hL;have h:=kM (B:=B) (j:=0) (zs:=S.acc) (ws:=ws) hA (by rw[hL.acc,hl];omega);rw[show aU f l vb ra rc S=_ from e S.acc,e ws];rw[show dF S.acc 0 ws=ws from by have:=hL.acc;simp[dF,hl,this]]at h;exact h) (λhL=>⟨hL.view,hL.own,hL.bV,hL.sl,hl,hL.book,hL.told,hL.last,hL.aK⟩) (.inl ⟨rfl,rfl⟩) (by rw[jo];exact hl) OM xR k
theorem YZ(hI:Inv T w0 w m)(hx:a.eval x=.pointer (some ⟨b,1059,none⟩):=by exact RF)(hv:a.eval y=ia ws:=by exact RF)(hu:aR (two (rb f b l vb ra rc S) Z) (two (rb f b l vb ra rc {S with acc:=dF S.acc 1 ws}) Z) m m':=by exact UU)[hT:bG P t 2](hl:ws.length=2:=by exact LB)
  (k:∀w',Inv T w0 w' m'->wpList P ops Q rest (a.put dst undef) w'):wpList P ops Q (⟨dst,.store t x y,ty,pos,af,none⟩::rest) a w:=
 bI (vs:=iz ws) hI hx (by rw[hv];rfl) hu hT.out.size (λhL=>by
  obtain⟨A,B,hA,e⟩:=wC f l vb ra rc hL;have h:=kM (B:=B) (j:=1) (zs:=S.acc) (ws:=ws) hA (by rw[hL.acc,hl];omega);rw[show aU f l vb ra rc S=_ from e S.acc,e (dF S.acc 1 ws)];exact h) (λhL=>⟨hL.view,hL.own,hL.bV,hL.sl,by show(dF S.acc 1 ws).length=_;have:=hL.acc;rw[aY];omega,hL.book,hL.told,hL.last,hL.aK⟩) (.inl ⟨rfl,rfl⟩) (by rw[jo];exact hl) OM xR k
theorem Y0(hI:Inv T w0 w m)(hx:a.eval x=.pointer (some ⟨b,1061,none⟩):=by exact RF)(hv:a.eval y=ia ws:=by exact RF)(hu:aR (two (rb f b l vb ra rc S) Z) (two (rb f b l vb ra rc {S with acc:=dF S.acc 3 ws}) Z) m m':=by exact UU)[hT:bG P t 2](hl:ws.length=2:=by exact LB)
  (k:∀w',Inv T w0 w' m'->wpList P ops Q rest (a.put dst undef) w'):wpList P ops Q (⟨dst,.store t x y,ty,pos,af,none⟩::rest) a w:=
 bI (vs:=iz ws) hI hx (by rw[hv];rfl) hu hT.out.size (λhL=>by
  obtain⟨A,B,hA,e⟩:=wC f l vb ra rc hL;have h:=kM (B:=B) (j:=3) (zs:=S.acc) (ws:=ws) hA (by rw[hL.acc,hl];omega);rw[show aU f l vb ra rc S=_ from e S.acc,e (dF S.acc 3 ws)];exact h) (λhL=>⟨hL.view,hL.own,hL.bV,hL.sl,by show(dF S.acc 3 ws).length=_;have:=hL.acc;rw[aY];omega,hL.book,hL.told,hL.last,hL.aK⟩) (.inl ⟨rfl,rfl⟩) (by rw[jo];exact hl) OM xR k
theorem Y8(hI:Inv T w0 w m)(hx:a.eval x=.pointer (some ⟨b,1063,none⟩):=by exact RF)(hv:a.eval y=ia ws:=by exact RF)(hu:aR (two (rb f b l vb ra rc S) Z) (two (rb f b l vb ra rc {S with acc:=dF S.acc 5 ws}) Z) m m':=by exact UU)[hT:bG P t 3](hl:ws.length=3:=by exact LB)
  (k:∀w',Inv T w0 w' m'->wpList P ops Q rest (a.put dst undef) w'):wpList P ops Q (⟨dst,.store t x y,ty,pos,af,none⟩::rest) a w:=
 bI (vs:=iz ws) hI hx (by rw[hv];rfl) hu hT.out.size (λhL=>by
  obtain⟨A,B,hA,e⟩:=wC f l vb ra rc hL;have h:=kM (B:=B) (j:=5) (zs:=S.acc) (ws:=ws) hA (by rw[hL.acc,hl];omega);rw[show aU f l vb ra rc S=_ from e S.acc,e (dF S.acc 5 ws)];exact h) (λhL=>⟨hL.view,hL.own,hL.bV,hL.sl,by show(dF S.acc 5 ws).length=_;have:=hL.acc;rw[aY];omega,hL.book,hL.told,hL.last,hL.aK⟩) (.inl ⟨rfl,rfl⟩) (by rw[jo];exact hl) OM xR k
theorem T_{i:Nat}(hI:Inv T w0 w m)(hx:a.eval x=.pointer (some ⟨b,1948+i*174,none⟩):=by exact RF)(hv:a.eval y=ia ws:=by exact RF)(hu:aR (two (rb f b l vb ra rc S) Z) (two (rb f b l vb ra rc {S with last:=dF S.last (i*174) ws}) Z) m m':=by exact UU)[hT:bG P t 174](hi:i<5:=by omega)(hl:ws.length=174:=by exact LB)
  (k:∀w',Inv T w0 w' m'->wpList P ops Q rest (a.put dst undef) w'):wpList P ops Q (⟨dst,.store t x y,ty,pos,af,none⟩::rest) a w:=
 bI (vs:=iz ws) hI hx (by rw[hv];rfl) hu hT.out.size (λhL=>by
  obtain⟨A,B,hA,e⟩:=Dw f l vb ra rc hL;have h:=kM (B:=B) (j:=(i*174)) (zs:=S.last) (ws:=ws) hA (by rw[hL.last,hl];omega);rw[show aU f l vb ra rc S=_ from e S.last,e (dF S.last (i*174) ws)];exact h) (λhL=>⟨hL.view,hL.own,hL.bV,hL.sl,hL.acc,hL.book,hL.told,by show(dF S.last (i*174) ws).length=_;have:=hL.last;rw[aY];omega,hL.aK⟩) (.inl ⟨rfl,rfl⟩) (by rw[jo];exact hl) OM xR k
theorem Ua{i:Nat}{z:Int}(hI:Inv T w0 w m)(hx:a.eval x=.pointer (some ⟨b,1943+i,none⟩):=by exact RF)(hv:a.eval y=.int .i64 z:=by exact RF)(hu:aR (two (rb f b l vb ra rc S) Z) (two (rb f b l vb ra rc {S with told:=S.told.set i z}) Z) m m':=by exact UU)[hT:aO P t](hi:i<5:=by omega)
  (k:∀w',Inv T w0 w' m'->wpList P ops Q rest (a.put dst undef) w'):wpList P ops Q (⟨dst,.store t x y,ty,pos,af,none⟩::rest) a w:=
 bI (vs:=[.int .i64 z]) hI hx (by rw[hv];rfl) hu hT.out.size (λhL=>by
  obtain⟨A,B,hA,e⟩:=J8 f l vb ra rc hL;have h:=kM (B:=B) (j:=i) (zs:=S.told) (ws:=[z]) hA (by rw[hL.told];simp;omega);rw[show aU f l vb ra rc S=_ from e S.told,e (S.told.set i z)];rw[show dF S.told i [z]=S.told.set i z from by have:=hL.told;rw[List.set_eq_take_append_cons_drop,if_pos OM];simp[dF]]at h;exact h) (λhL=>⟨hL.view,hL.own,hL.bV,hL.sl,hL.acc,hL.book,by show(S.told.set i z).length=_;rw[List.length_set];exact hL.told,hL.last,hL.aK⟩) (.inl ⟨rfl,rfl⟩) (rfl) OM (xS rfl) k
theorem Ub{u:Int}(hI:Inv T w0 w m)(hx:a.eval x=.pointer (some ⟨b,1066,none⟩):=by exact RF)(hv:a.eval y=.int .i64 u:=by exact RF)(hu:aR (two (rb f b l vb ra rc S) Z) (two (rb f b l vb ra rc {S with round:=u}) Z) m m':=by exact UU)[hT:aO P t]
  (k:∀w',Inv T w0 w' m'->wpList P ops Q rest (a.put dst undef) w'):wpList P ops Q (⟨dst,.store t x y,ty,pos,af,none⟩::rest) a w:=
 bI (vs:=[.int .i64 u]) hI hx (by rw[hv];rfl) hu hT.out.size (λhL=>RL f l vb ra rc hL u) (λhL=>⟨hL.view,hL.own,hL.bV,hL.sl,hL.acc,hL.book,hL.told,hL.last,hL.aK⟩) (.inl ⟨rfl,rfl⟩) (rfl) OM (xS rfl) k
theorem Y9{u:Bool}(hI:Inv T w0 w m)(hx:a.eval x=.pointer (some ⟨b,1938,none⟩):=by exact RF)(hv:a.eval y=.bool u:=by exact RF)(hu:aR (two (rb f b l vb ra rc S) Z) (two (rb f b l vb ra rc {S with busy:=u}) Z) m m':=by exact UU)[hT:aO P t]
  (k:∀w',Inv T w0 w' m'->wpList P ops Q rest (a.put dst undef) w'):wpList P ops Q (⟨dst,.store t x y,ty,pos,af,none⟩::rest) a w:=
 bI (vs:=[.bool u]) hI hx (by rw[hv];rfl) hu hT.out.size (λhL=>VF f l vb ra rc hL u) (λhL=>⟨hL.view,hL.own,hL.bV,hL.sl,hL.acc,hL.book,hL.told,hL.last,hL.aK⟩) (.inl ⟨rfl,rfl⟩) (rfl) OM (xS rfl) k
theorem Y_{u:Int}(hI:Inv T w0 w m)(hx:a.eval x=.pointer (some ⟨b,1939,none⟩):=by exact RF)(hv:a.eval y=.int .i64 u:=by exact RF)(hu:aR (two (rb f b l vb ra rc S) Z) (two (rb f b l vb ra rc {S with kept:=u}) Z) m m':=by exact UU)[hT:aO P t]
  (k:∀w',Inv T w0 w' m'->wpList P ops Q rest (a.put dst undef) w'):wpList P ops Q (⟨dst,.store t x y,ty,pos,af,none⟩::rest) a w:=
 bI (vs:=[.int .i64 u]) hI hx (by rw[hv];rfl) hu hT.out.size (λhL=>VG f l vb ra rc hL u) (λhL=>⟨hL.view,hL.own,hL.bV,hL.sl,hL.acc,hL.book,hL.told,hL.last,hL.aK⟩) (.inl ⟨rfl,rfl⟩) (rfl) OM (xS rfl) k
theorem Uc{u:Int}(hI:Inv T w0 w m)(hx:a.eval x=.pointer (some ⟨b,1940,none⟩):=by exact RF)(hv:a.eval y=.int .i64 u:=by exact RF)(hu:aR (two (rb f b l vb ra rc S) Z) (two (rb f b l vb ra rc {S with waits:=u}) Z) m m':=by exact UU)[hT:aO P t]
  (k:∀w',Inv T w0 w' m'->wpList P ops Q rest (a.put dst undef) w'):wpList P ops Q (⟨dst,.store t x y,ty,pos,af,none⟩::rest) a w:=
 bI (vs:=[.int .i64 u]) hI hx (by rw[hv];rfl) hu hT.out.size (λhL=>RN f l vb ra rc hL u) (λhL=>⟨hL.view,hL.own,hL.bV,hL.sl,hL.acc,hL.book,hL.told,hL.last,hL.aK⟩) (.inl ⟨rfl,rfl⟩) (rfl) OM (xS rfl) k
theorem acN{u:Int}(hI:Inv T w0 w m)(hx:a.eval x=.pointer (some ⟨b,1941,none⟩):=by exact RF)(hv:a.eval y=.int .i64 u:=by exact RF)(hu:aR (two (rb f b l vb ra rc S) Z) (two (rb f b l vb ra rc {S with ops:=u}) Z) m m':=by exact UU)[hT:aO P t]
  (k:∀w',Inv T w0 w' m'->wpList P ops Q rest (a.put dst undef) w'):wpList P ops Q (⟨dst,.store t x y,ty,pos,af,none⟩::rest) a w:=
 bI (vs:=[.int .i64 u]) hI hx (by rw[hv];rfl) hu hT.out.size (λhL=>aam f l vb ra rc hL u) (λhL=>⟨hL.view,hL.own,hL.bV,hL.sl,hL.acc,hL.book,hL.told,hL.last,hL.aK⟩) (.inl ⟨rfl,rfl⟩) (rfl) OM (xS rfl) k
theorem Ud(hI:Inv T w0 w m)(hx:a.eval x=.pointer (some ⟨b,1067,none⟩):=by exact RF)(hv:a.eval y=.pointer none:=by exact RF)(hu:aR (two (rb f b l vb ra rc S) Z) (two (rb f b l vb ra rc {S with aK:=none}) Z) m m':=by exact UU)[hT:aO P t]
  (k:∀w',Inv T w0 w' m'->wpList P ops Q rest (a.put dst undef) w'):wpList P ops Q (⟨dst,.store t x y,ty,pos,af,none⟩::rest) a w:=
 bI (vs:=[.pointer none]) hI hx (by rw[hv];rfl) hu hT.out.size (λhL=>J5 f l vb ra rc hL vb none) (λhL=>⟨hL.view,hL.own,hL.bV,hL.sl,hL.acc,hL.book,hL.told,hL.last,λp h=>by cases h⟩) (.inr rfl) (rfl) OM (xS rfl) k
end
end
section
open B (aI dY fH dX jL lC gN nX cz bQ)
open A (o6)
inductive gZ where
 |row (w:Nat) (r:List Int)
 |kept (n:Int)
 |news (w:Nat) (r:List Int)
 |ask (e:Int) (b:List Int)
 |promise (e:Int) (b h c:List Int)
 |put (e:Int) (b c:List Int)
 |taken (e:Int) (b:List Int)
 |view (v:List Int)
 |bR (w:Nat) (v:List Int)
 |iU (w:Nat) (r:List Int)
def gZ.mP:gZ->List Int
 | .row w r=>aB 0 (w:Int) r 0 0 (aj 2) (aj 2) (aj 3) (aj 7)
 | .kept n=>aB 1 0 (aj 174) n 0 (aj 2) (aj 2) (aj 3) (aj 7)
 | .news w r=>aB 2 (w:Int) r 0 0 (aj 2) (aj 2) (aj 3) (aj 7)
 | .ask e b=>aB 3 0 (aj 174) 0 e b (aj 2) (aj 3) (aj 7)
 | .promise e b h c=>aB 4 0 (aj 174) 0 e b h c (aj 7)
 | .put e b c=>aB 5 0 (aj 174) 0 e b (aj 2) c (aj 7)
 | .taken e b=>aB 6 0 (aj 174) 0 e b (aj 2) (aj 3) (aj 7)
 | .view v=>aB 7 0 (aj 174) 0 0 (aj 2) (aj 2) (aj 3) v
 | .bR w v=>aB 8 (w:Int) (aj 174) 0 0 (aj 2) (aj 2) (aj 3) v
 | .iU w r=>aB 9 (w:Int) r 0 0 (aj 2) (aj 2) (aj 3) (aj 7)
def gZ.W:gZ->List UInt8
 | .row w r=>ab_ w r
 | .kept n=>aca n
 | .news w r=>acb w r
 | .ask e b=>acd e b
 | .promise e b h c=>PO e b h c
 | .put e b c=>PQ e b c
 | .taken e b=>ace e b
 | .view v=>acf v
 | .bR w v=>acg w v
 | .iU w r=>ach w r
def gZ.Len:gZ->Prop
 | .row w r=>w<5∧r.length=174
 | .kept n=>True
 | .news w r=>w<5∧r.length=174
 | .ask e b=>b.length=2
 | .promise e b h c=>b.length=2∧h.length=2∧c.length=3
 | .put e b c=>b.length=2∧c.length=3
 | .taken e b=>b.length=2
 | .view v=>v.length=7
 | .bR w v=>w<5∧v.length=7
 | .iU w r=>w<5∧r.length=174
inductive Rec where
 |row (r:List Int)
 |eD (w:Nat) (r:List Int)
 |bR (w:Nat)
 |tL (e:Int) (b:List Int)
 |take (e:Int) (b c:List Int)
 |view (v:List Int)
def Rec.mP:Rec->List Int
 | .row r=>aW 0 0 r 0 (aj 2) (aj 3) (aj 7)
 | .eD w r=>aW 1 (w:Int) r 0 (aj 2) (aj 3) (aj 7)
 | .bR w=>aW 2 (w:Int) (aj 174) 0 (aj 2) (aj 3) (aj 7)
 | .tL e b=>aW 3 0 (aj 174) e b (aj 3) (aj 7)
 | .take e b c=>aW 4 0 (aj 174) e b c (aj 7)
 | .view v=>aW 5 0 (aj 174) 0 (aj 2) (aj 3) v
def Rec.W:Rec->List UInt8
 | .row r=>ags r
 | .eD w r=>agt w r
 | .bR w=>agu w
 | .tL e b=>agv e b
 | .take e b c=>VP e b c
 | .view v=>agw v
def Rec.Len:Rec->Prop
 | .row r=>r.length=174
 | .eD w r=>w<5∧r.length=174
 | .bR w=>w<5
 | .tL e b=>b.length=2
 | .take e b c=>b.length=2∧c.length=3
 | .view v=>v.length=7
def rowAt(zs:List Int)(i:Nat):List Int:=sub zs (i*174) 174
def dS(i:Nat):List Nat:=[(i+1) %5,(i+2) %5]
def Uj(z:Int)(k:Nat):Int:=bits BinOp.or IntKind.i64 z (2^k)
def F4(q:List (List UInt8))(x:List UInt8):List (List UInt8):=if q.length<8 then q++[x]else q
def dM(f:Nat)(S:RS)(dst:Nat)(M:gZ):RS:=if S.D.down=true then S else {S with B:=gL S.B (f*5+dst) (F4 (S.B (f*5+dst)) (o6 (UInt8.ofNat f) (UInt8.ofNat dst) M.W))}
def eT(S:RS)(x:Rec):RS×Int:=
 ({S with D:=(cO S.D S.cnt S.used x.W).1,cnt:=(cO S.D S.cnt S.used x.W).2.1,used:=(cO S.D S.cnt S.used x.W).2.2.1},(cO S.D S.cnt S.used x.W).2.2.2)
def rV(S:RS)(v:List Int):RS:={S with view:=v,acc:=pI (gi v 0) (aj 2) (aj 2) (aj 3),aK:=none,round:=0}
def bW(S:RS)(op e z:Int):RS:={S with aV:=S.aV++[[op,e,z]]}
def pR(f:Nat)(S:RS):List Nat:=(List.range 5).filter λi=>decide (dY S.view (i:Int)=((f:Int),true))&&decide (gi S.own (29+i)<=0)
def lW(S:RS)(i w:Nat):Bool:=bt (gi S.told i) w
def gz(f:Nat)(S:RS):RS:=(dS f).foldl (λS w=>if bt S.kept w=true then S else dM f S w (.row f S.own)) S
def gY(f:Nat)(S:RS)(x:List Int)(op:Int):RS×Int:=
 if(eT S (.row x)).2=0 then(gz f {(eT S (.row x)).1 with own:=x,busy:=true,kept:=0,waits:=op},0)else eT S (.row x)
def gm(last:List Int):List Int->List Nat->Option (List Int)
 |x,[]=>some x
 |x,i::l=>if 0<gi x (29+i)then gm last x l else if(C.uh x (i:Int) (rowAt last i)).2=0 then gm last (C.uh x (i:Int) (rowAt last i)).1 l else none
def jH(f:Nat)(S:RS):RS:=
 if S.busy=true∨pR f S=[]then S
 else if(pR f S).all (λi=>(dS i).all (lW S i))=true then
  (gm S.last S.own (pR f S)).elim S (λx=>(gY f S x 0).1)
 else S
def iP(f:Nat)(S:RS)(from_ w:Nat)(r:List Int):RS:=
 jH f (if from_∈dS w then {S with last:=if gi S.told w=0∨gi S.last (w*174) <gi r 0 then dF S.last (w*174) r else S.last,told:=S.told.set w (Uj (gi S.told w) from_)}else S)
def fK(f:Nat)(S:RS)(dst w:Nat)(r:List Int):RS:=if dst=f then iP f S f w r else dM f S dst (.iU w r)
def lX(f:Nat)(S:RS)(from_ w:Nat):RS:=
 if dY S.view (w:Int)=((from_:Int),true)then
  if C.fJ S.sl (w:Int)=true then fK f S from_ w (rowAt S.bV w)
  else if(eT S (.bR w)).2=0 then fK f {(eT S (.bR w)).1 with sl:=C.mI S.sl (w:Int)} from_ w (rowAt S.bV w)
  else(eT S (.bR w)).1
 else S
def j3(f:Nat)(S:RS)(dst w:Nat):RS:=if dst=f then lX f S f w else dM f S dst (.bR w S.view)
def nG(f:Nat)(S:RS)(i:Nat):RS:=(dS i).foldl (λS w=>if lW S i w=true then S else j3 f S w i) S
def kr(f:Nat)(S:RS):RS:=(pR f S).foldl (nG f) S
def eZ(f:Nat)(S:RS)(v:List Int):RS×Bool:=
 if gi v 0<=gi S.view 0 then(S,false)
 else if(eT S (.view v)).2=0 then(kr f (rV (eT S (.view v)).1 v),true)else((eT S (.view v)).1,false)
def F5(f:Nat)(S:RS)(from_ w:Nat)(v:List Int):RS:=lX f (eZ f S v).1 from_ w
def VR(S:RS)(w:Nat)(r:List Int):RS:={S with book:=C.ic S.book (w:Int) r}
def rz(f:Nat)(S:RS)(from_ w:Nat)(r:List Int):RS:=
 if w≠from_∨C.fJ S.sl (w:Int)=true then S
 else if C.lT S.bV S.sl (w:Int) r=true then
  if(eT S (.eD w r)).2=0 then dM f {(eT S (.eD w r)).1 with bV:=C.jZ S.bV S.sl (w:Int) r} from_ (.kept (gi (rowAt (C.jZ S.bV S.sl (w:Int) r) w) 0))
  else(eT S (.eD w r)).1
 else dM f S from_ (.kept (gi (rowAt S.bV w) 0))
def others(f:Nat):List Nat:=(List.range 5).filter (· ≠f)
def fu(f:Nat)(S:RS)(x:List Int):RS:=(others f).foldl (λS i=>dM f S i (.news f x)) S
def gG(f:Nat)(S:RS)(v:List Int):RS:=(others f).foldl (λS i=>dM f S i (.view v)) S
def kQ(f:Nat)(S:RS):RS:=
 let S2:RS:={S with busy:=false,book:=C.ic S.book (f:Int) S.own}
 let S3:RS:=if 0<S.waits then {bW S2 S.waits 0 0 with waits:=0}else S2
 jH f (fu f S3 S.own)
def rA(f:Nat)(S:RS)(from_:Nat)(n:Int):RS:=
 if S.busy=true∧n=gi S.own 0∧from_∈dS f then
  if(dS f).all (bt (Uj S.kept from_))=true then kQ f {S with kept:=Uj S.kept from_}else {S with kept:=Uj S.kept from_}
 else S
def rW(a:List Int)(e:Int)(b:List Int):List Int×Bool:=if cz (gi a 0) (gi a 1) (gi a 2) e (gi b 0) (gi b 1)=true then(a,false)else(dF a 1 b,true)
def DK(a:List Int)(e:Int)(b c:List Int):List Int×Bool:=if cz (gi a 0) (gi a 1) (gi a 2) e (gi b 0) (gi b 1)=true then(a,false)else(pI (gi a 0) b b c,true)
def iV(V:List Int×Bool)(who:Nat)(b:List Int):(List Int×Bool)×Bool:=
 if V.2=true∧b=sub V.1 7 2∧aI (sub V.1 0 7) (who:Int)=true then((dX V.1 15 who,true),gN (gi (dX V.1 15 who) 15) (gi (sub (dX V.1 15 who) 0 7) 1))else(V,false)
def ig(V:List Int×Bool)(who:Nat)(b h c:List Int):(List Int×Bool)×Bool:=
 if V.2=false∧b=sub V.1 7 2∧aI (sub V.1 0 7) (who:Int)=true then
  let z:=if 0<gi h 0∧lC (gi (sub (dX V.1 14 who) 12 2) 0) (gi (sub (dX V.1 14 who) 12 2) 1) (gi h 0) (gi h 1)=true then jL V.1 who h c else dX V.1 14 who
  ((z,gN (gi z 14) (gi (sub z 0 7) 1)),gN (gi z 14) (gi (sub z 0 7) 1))
 else(V,false)
def kY(f:Nat)(S:RS)(V:List Int×Bool):RS:=
 if(bQ S.view (sub V.1 9 3)).2=0 then
  if(eZ f S (bQ S.view (sub V.1 9 3)).1).2=true then gG f (eZ f S (bQ S.view (sub V.1 9 3)).1).1 (bQ S.view (sub V.1 9 3)).1 else(eZ f S (bQ S.view (sub V.1 9 3)).1).1
 else S
def qO(f:Nat)(S:RS)(e:Int)(b:List Int)(ans:RS)(K:RS->RS):RS:=
 if e<gi S.view 0 then ans else if gi S.view 0<e∨aI S.view (f:Int)=false then S else K {S with round:=max S.round (gi b 0)}
def nH(f:Nat)(S:RS)(from_:Nat)(b:List Int):RS:=match S.aK with
 |none=>S
 |some V=>if(iV V from_ b).2=true then kY f {S with aK:=some (iV V from_ b).1} (iV V from_ b).1 else {S with aK:=some (iV V from_ b).1}
def gQ(f:Nat)(S:RS)(dst:Nat)(e:Int)(b:List Int):RS:=if dst=f then qO f S e b S (λS=>nH f S f b)else dM f S dst (.taken e b)
def sZ(f:Nat)(S:RS)(from_:Nat)(e:Int)(b c:List Int):RS:=
 if(bQ S.view c).2=0 then
  if(DK S.acc e b c).2=true then
   if(DK S.acc e b c).1=S.acc then gQ f S from_ e b
   else if(eT S (.take e b c)).2=0 then gQ f {(eT S (.take e b c)).1 with acc:=(DK S.acc e b c).1} from_ e b
   else(eT S (.take e b c)).1
  else S
 else S
def Kg(f:Nat)(v:List Int):List Nat:=(List.range 5).filter λi=>decide (i≠f)&&aI v (i:Int)
def ui(f:Nat)(S:RS)(V:List Int×Bool):RS:=
 let S1:=(Kg f S.view).foldl (λT i=>dM f T i (.put (gi S.view 0) (sub V.1 7 2) (sub V.1 9 3))) S
 if aI S.view (f:Int)=true then qO f S1 (gi S.view 0) (sub V.1 7 2) S1 (λT=>sZ f T f (gi S.view 0) (sub V.1 7 2) (sub V.1 9 3))else S1
def je(f:Nat)(S:RS)(from_:Nat)(b h c:List Int):RS:=match S.aK with
 |none=>S
 |some V=>if(ig V from_ b h c).2=true then ui f {S with aK:=some (ig V from_ b h c).1} (ig V from_ b h c).1 else {S with aK:=some (ig V from_ b h c).1}
def fZ(f:Nat)(S:RS)(dst:Nat)(e:Int)(b h c:List Int):RS:=if dst=f then qO f S e b S (λS=>je f S f b h c)else dM f S dst (.promise e b h c)
def uQ(f:Nat)(S:RS)(from_:Nat)(e:Int)(b:List Int):RS:=
 if(rW S.acc e b).2=true then
  if sub (rW S.acc e b).1 1 2=sub S.acc 1 2 then fZ f S from_ e b (sub (rW S.acc e b).1 3 2) (sub (rW S.acc e b).1 5 3)
  else if(eT S (.tL e b)).2=0 then fZ f {(eT S (.tL e b)).1 with acc:=(rW S.acc e b).1} from_ e b (sub (rW S.acc e b).1 3 2) (sub (rW S.acc e b).1 5 3)
  else(eT S (.tL e b)).1
 else S
def oq(f:Nat)(S:RS)(V:List Int×Bool):RS:=
 let S1:=(Kg f S.view).foldl (λT i=>dM f T i (.ask (gi S.view 0) (sub V.1 7 2))) S
 if aI S.view (f:Int)=true then qO f S1 (gi S.view 0) (sub V.1 7 2) S1 (λT=>uQ f T f (gi S.view 0) (sub V.1 7 2))else S1
def bT(f:Nat)(S:RS)(c:List Int):RS×Int:=
 let b:=[wrap64 (S.round+1),(f:Int)]
 if(rW S.acc (gi S.view 0) b).2=true then
  if(eT S (.tL (gi S.view 0) b)).2=0 then({(eT S (.tL (gi S.view 0) b)).1 with acc:=(rW S.acc (gi S.view 0) b).1,round:=wrap64 (S.round+1),aK:=some (nX S.view b c,false)},0)
  else eT S (.tL (gi S.view 0) b)
 else(S,6)
def kI(f:Nat)(S:RS)(from_:Nat):gZ->RS
 | .row w r=>rz f S from_ w r
 | .kept n=>rA f S from_ n
 | .news w r=>VR S w r
 | .ask e b=>qO f S e b (dM f S from_ (.view S.view)) (λT=>uQ f T from_ e b)
 | .promise e b h c=>qO f S e b S (λT=>je f T from_ b h c)
 | .put e b c=>qO f S e b (dM f S from_ (.view S.view)) (λT=>sZ f T from_ e b c)
 | .taken e b=>qO f S e b S (λT=>nH f T from_ b)
 | .view v=>(eZ f S v).1
 | .bR w v=>F5 f S from_ w v
 | .iU w r=>iP f S from_ w r
def AO(S:RS):List Int×Bool:=S.aK.getD ([],false)
def rC(f:Nat)(S:RS):RS:=
 let S1:=if S.busy=true then gz f S else S
 let S2:=kr f (jH f S1)
 let S3:=if 1<gi S2.view 0 then gG f S2 S2.view else S2
 if aI S3.view (f:Int)=true then
  let S4:=if 0<gi (C.rowOf S3.book (f:Int)) 0 then fu f S3 (C.rowOf S3.book (f:Int))else S3
  match S4.aK with
  |none=>S4
  |some V=>if(bQ S4.view (sub V.1 9 3)).2=0 then
    (if(bT f S4 (sub V.1 9 3)).2=0 then oq f (bT f S4 (sub V.1 9 3)).1 (AO (bT f S4 (sub V.1 9 3)).1)else(bT f S4 (sub V.1 9 3)).1)else S4
 else S3
def jD(f:Nat)(S:RS)(op:Int)(c:List Int):RS×Int:=
 if(bQ S.view c).2=0 then
  if S.aK=none then
   if(bT f S c).2=0 then(oq f (bW (bT f S c).1 op 0 0) (AO (bT f S c).1),0)
   else(bW (bT f S c).1 op (bT f S c).2 0,(bT f S c).2)
  else(bW S op 8 0,8)
 else(bW S op (bQ S.view c).2 0,(bQ S.view c).2)
def qB(f:Nat)(S:RS)(k dst key n:Int):List Int×Int×Int:=
 if aI S.view (f:Int)=false then(aj 174,0,9)
 else if key<0∨4<=key then(aj 174,0,5)
 else if k=3 then(aj 174,C.xV S.book key 5,0)
 else if S.busy=true then(aj 174,0,8)
 else
  let g:=if k=0 then C.jK S.own (1+key.toNat*7) key n else if k=1 then C.jK S.own (1+key.toNat*7+1) key n else if k=2 then(if dst≠(f:Int)then C.kD S.own key n dst else(aj 174,5))else(aj 174,5)
  if g.2=0 then(if k≠0∧C.kE S.book (f:Int) key<n then(aj 174,0,7)else(g.1,0,0))else(aj 174,0,g.2)
def fG(f:Nat)(S0:RS)(k dst key n:Int)(c:List Int):RS×Int:=
 let S:RS:={S0 with ops:=wrap64 (S0.ops+1)}
 if aI S.view (f:Int)=true∧k=4 then jD f S S.ops c
 else
  let p:=qB f S k dst key n
  if p.2.2≠0∨k=3 then(bW S S.ops p.2.2 p.2.1,p.2.2)
  else if(gY f S p.1 S.ops).2=0 then gY f S p.1 S.ops else(bW (gY f S p.1 S.ops).1 S.ops (gY f S p.1 S.ops).2 0,(gY f S p.1 S.ops).2)
def qC(S:RS):Rec->RS
 | .row r=>{S with own:=r,busy:=true,kept:=0}
 | .eD w r=>{S with bV:=C.jZ S.bV S.sl (w:Int) r}
 | .bR w=>{S with sl:=C.mI S.sl (w:Int)}
 | .tL e b=>{S with acc:=dF S.acc 1 b,round:=max S.round (gi b 0)}
 | .take e b c=>{S with acc:=dF (dF (dF S.acc 1 b) 3 b) 5 c,round:=max S.round (gi b 0)}
 | .view v=>rV S v
end
