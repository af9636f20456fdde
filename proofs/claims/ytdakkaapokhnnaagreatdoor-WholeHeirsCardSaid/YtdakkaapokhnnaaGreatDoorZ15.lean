/- Contracts of functions. No condition. -/
import Derived.Test.YtdakkaapokhnnaaGreatDoorZ10
import Derived.Test.YtdakkaapokhnnaaGreatDoorZ11
import Derived.Test.YtdakkaapokhnnaaGreatDoorZ12
import Derived.Test.YtdakkaapokhnnaaGreatDoorZ13
namespace Go.Proofs.YtdakkaapokhnnaaGreatDoor
open Go.RowKit Go.Proofs.Tryz
set_option maxRecDepth 100000
set_option maxHeartbeats 6400000
set_option linter.all false
section
open A (QE kE bU)
structure RS where
 view:List Int
 own:List Int
 aT:List Int
 sl:List Bool
 acc:List Int
 round:Int
 aB:Option (List Int×Bool)
 book:List Int
 busy:Bool
 kept:Int
 waits:Int
 ops:Int
 aX:List (List Int)
 told:List Int
 last:List Int
 D:DS
 cnt:Nat
 used:Nat
 B:Nat->List (List UInt8)
structure bB (S:RS):Prop where
 view:S.view.length=7
 own:S.own.length=174
 aT:S.aT.length=870
 sl:S.sl.length=5
 acc:S.acc.length=8
 book:S.book.length=870
 told:S.told.length=5
 last:S.last.length=870
 aB:∀p,S.aB=some p->p.1.length=16
def iz(zs:List Int):List Value:=zs.map (Value.int .i64)
theorem j5(zs):(iz zs).length=zs.length:=by simp[iz]
def Kj(vb:Nat):Option (List Int×Bool)->Value
 |none=> .pointer none
 |some _=> .pointer (some ⟨vb,0,none⟩)
def sQ:bT:=⟨[],λ_=>True,λ_ _ _ h=>h⟩
def nZ(p:Prop):bT:=⟨[],λ_=>p,λ_ _ _ h=>h⟩
def Ta(vb:Nat):Option (List Int×Bool)->bT
 |none=>sQ
 |some p=>yD vb 208 p.1 [p.2]
def bg(f l vb:Nat)(ra:Option Addr)(rc:Nat)(S:RS):List Value:=[.int .i64 (f:Int)]++([.pointer (some ⟨l,0,none⟩)]++(iz S.view++(iz S.own++(iz S.aT++(S.sl.map Value.bool++(iz S.acc++([.int .i64 S.round]++([Kj vb S.aB]++(iz S.book++([.bool S.busy]++([.int .i64 S.kept]++([.int .i64 S.waits]++([.int .i64 S.ops]++([.slice ra S.aX.length rc]++(iz S.told++(iz S.last))))))))))))))))
theorem E9{f l vb ra rc S}(h:bB S):(bg f l vb ra rc S).length=2818:=by
 grind[bg,List.length_append,j5,bB.view,bB.own,bB.aT,bB.sl,bB.acc,bB.book,bB.told,bB.last]
theorem Qi(A B u v):splice (A++(u::B)) A.length [v]=A++(v::B):=by
 simp[splice]
theorem lJ{A B zs ws o j}(hA:A.length=o)(hl:j+ws.length<=zs.length):splice (A++(iz zs++B)) (o+j) (iz ws)=A++(iz (dK zs j ws)++B):=by
 have:=SN (A:=A) (B:=B) (zs:=zs) (ws:=ws) (bs:=[]) (j:=j) hA hl
 grind[mix,iz]
theorem ads{A B zs o j n}(hA:A.length=o)(hl:j+n<=zs.length):((A++(iz zs++B)).drop (o+j)).take n=iz (sub zs j n):=by
 have:=SL (A:=A) (B:=B) (zs:=zs) (bs:=[]) (j:=j) hA hl
 grind[mix,iz]
theorem adt{A B zs o j}(hA:A.length=o)(hl:j<zs.length):(A++(iz zs++B))[o+j]? =some (.int .i64 (gi zs j)):=by
 have:=SQ (A:=A) (B:=B) (zs:=zs) (bs:=[]) (j:=j) hA hl
 grind[mix,iz]
theorem ze{ws}:∀u∈iz ws,u.oneCell'=true:=λu hu=>by obtain⟨z,_,rfl⟩:=List.mem_map.1 hu;rfl
theorem zf{v:Value}(h:v.oneCell'=true):∀u∈[v],u.oneCell'=true:=by grind
def sg(f l vb:Nat)(ra:Option Addr)(rc:Nat)(S:RS):List (List Value):=[[.int .i64 (f:Int)],[.pointer (some ⟨l,0,none⟩)],iz S.view,iz S.own,iz S.aT,S.sl.map Value.bool,iz S.acc,[.int .i64 S.round],[Kj vb S.aB],iz S.book,[.bool S.busy],[.int .i64 S.kept],[.int .i64 S.waits],[.int .i64 S.ops],[.slice ra S.aX.length rc],iz S.told,iz S.last]
theorem FA{p:Prop}(q:p:=by simp only[sg,List.take_succ_cons,List.take_zero,List.flatten_cons,List.flatten_nil,List.length_append,List.length_cons,List.length_nil,j5,List.length_map,h.view,h.own,h.aT,h.sl,h.acc,h.book,h.told]):p:=q
theorem FB{p:Prop}(q:p:=by simp only[bg,sg,List.take_succ_cons,List.take_zero,List.drop_succ_cons,List.drop_zero,List.drop_nil,List.flatten_cons,List.flatten_nil,List.append_assoc,List.cons_append,List.nil_append,List.append_nil]):p:=q
theorem FC{A B X Y u v o}(hA:A.length=o)(e1:X=A++(u::B))(e2:Y=A++(v::B)):splice X o [v]=Y:=by
 grind[Qi]
section
variable (f l vb:Nat)(ra:Option Addr)(rc:Nat){S:RS}(h:bB S)
include h
theorem agM:∃A B,A.length=0∧bg f l vb ra rc S=A++(.int .i64 (f:Int)::B):=⟨((sg f l vb ra rc S).take 0).flatten,((sg f l vb ra rc S).drop 1).flatten,FA,FB⟩
theorem adu:∃A B,A.length=1∧bg f l vb ra rc S=A++(.pointer (some ⟨l,0,none⟩)::B):=⟨((sg f l vb ra rc S).take 1).flatten,((sg f l vb ra rc S).drop 2).flatten,FA,FB⟩
theorem E_:∃A B,A.length=2∧∀zs,bg f l vb ra rc {S with view:=zs}=A++(iz zs++B):=⟨((sg f l vb ra rc S).take 2).flatten,((sg f l vb ra rc S).drop 3).flatten,FA,λ_=>FB⟩
theorem Di:∃A B,A.length=9∧∀zs,bg f l vb ra rc {S with own:=zs}=A++(iz zs++B):=⟨((sg f l vb ra rc S).take 3).flatten,((sg f l vb ra rc S).drop 4).flatten,FA,λ_=>FB⟩
theorem xP:∃A B,A.length=1058∧∀zs,bg f l vb ra rc {S with acc:=zs}=A++(iz zs++B):=⟨((sg f l vb ra rc S).take 6).flatten,((sg f l vb ra rc S).drop 7).flatten,FA,λ_=>FB⟩
theorem Iw:∃A B,A.length=1066∧∀u,bg f l vb ra rc {S with round:=u}=A++(.int .i64 u::B):=⟨((sg f l vb ra rc S).take 7).flatten,((sg f l vb ra rc S).drop 8).flatten,FA,λ_=>FB⟩
theorem Vv(u):splice (bg f l vb ra rc S) 1066 [.int .i64 u]=bg f l vb ra rc {S with round:=u}:=let ⟨_,_,hA,e⟩:=Iw f l vb ra rc h;FC hA (e S.round) (e u)
theorem MU:∃A B,A.length=1067∧∀vb u,bg f l vb ra rc {S with aB:=u}=A++(Kj vb u::B):=⟨((sg f l 0 ra rc S).take 8).flatten,((sg f l 0 ra rc S).drop 9).flatten,FA,λ_ _=>FB⟩
theorem MV(vb2 u):splice (bg f l vb ra rc S) 1067 [Kj vb2 u]=bg f l vb2 ra rc {S with aB:=u}:=let ⟨_,_,hA,e⟩:=MU f l ra rc h;FC hA (e vb S.aB) (e vb2 u)
theorem Zm:∃A B,A.length=1068∧∀zs,bg f l vb ra rc {S with book:=zs}=A++(iz zs++B):=⟨((sg f l vb ra rc S).take 9).flatten,((sg f l vb ra rc S).drop 10).flatten,FA,λ_=>FB⟩
theorem MW:∃A B,A.length=1938∧∀u,bg f l vb ra rc {S with busy:=u}=A++(.bool u::B):=⟨((sg f l vb ra rc S).take 10).flatten,((sg f l vb ra rc S).drop 11).flatten,FA,λ_=>FB⟩
theorem Zn(u):splice (bg f l vb ra rc S) 1938 [.bool u]=bg f l vb ra rc {S with busy:=u}:=let ⟨_,_,hA,e⟩:=MW f l vb ra rc h;FC hA (e S.busy) (e u)
theorem MZ:∃A B,A.length=1939∧∀u,bg f l vb ra rc {S with kept:=u}=A++(.int .i64 u::B):=⟨((sg f l vb ra rc S).take 11).flatten,((sg f l vb ra rc S).drop 12).flatten,FA,λ_=>FB⟩
theorem Zo(u):splice (bg f l vb ra rc S) 1939 [.int .i64 u]=bg f l vb ra rc {S with kept:=u}:=let ⟨_,_,hA,e⟩:=MZ f l vb ra rc h;FC hA (e S.kept) (e u)
theorem Iy:∃A B,A.length=1940∧∀u,bg f l vb ra rc {S with waits:=u}=A++(.int .i64 u::B):=⟨((sg f l vb ra rc S).take 12).flatten,((sg f l vb ra rc S).drop 13).flatten,FA,λ_=>FB⟩
theorem Vw(u):splice (bg f l vb ra rc S) 1940 [.int .i64 u]=bg f l vb ra rc {S with waits:=u}:=let ⟨_,_,hA,e⟩:=Iy f l vb ra rc h;FC hA (e S.waits) (e u)
theorem Tc:∃A B,A.length=1941∧∀u,bg f l vb ra rc {S with ops:=u}=A++(.int .i64 u::B):=⟨((sg f l vb ra rc S).take 13).flatten,((sg f l vb ra rc S).drop 14).flatten,FA,λ_=>FB⟩
theorem adv(u):splice (bg f l vb ra rc S) 1941 [.int .i64 u]=bg f l vb ra rc {S with ops:=u}:=let ⟨_,_,hA,e⟩:=Tc f l vb ra rc h;FC hA (e S.ops) (e u)
theorem Fa:∃A B,A.length=1942∧∀ra rc u,bg f l vb ra rc {S with aX:=u}=A++(.slice ra u.length rc::B):=⟨((sg f l vb none 0 S).take 14).flatten,((sg f l vb none 0 S).drop 15).flatten,FA,λ_ _ _=>FB⟩
theorem Zp(ra2 rc2 u):splice (bg f l vb ra rc S) 1942 [.slice ra2 u.length rc2]=bg f l vb ra2 rc2 {S with aX:=u}:=let ⟨_,_,hA,e⟩:=Fa f l vb h;FC hA (e ra rc S.aX) (e ra2 rc2 u)
theorem M0:∃A B,A.length=1943∧∀zs,bg f l vb ra rc {S with told:=zs}=A++(iz zs++B):=⟨((sg f l vb ra rc S).take 15).flatten,((sg f l vb ra rc S).drop 16).flatten,FA,λ_=>FB⟩
theorem Fb:∃A B,A.length=1948∧∀zs,bg f l vb ra rc {S with last:=zs}=A++(iz zs++B):=⟨((sg f l vb ra rc S).take 16).flatten,((sg f l vb ra rc S).drop 17).flatten,FA,λ_=>FB⟩
end
abbrev rb(f b l vb:Nat)(ra:Option Addr)(rc:Nat)(S:RS):bT:=two (nZ (bB S)) (two (blk b 98 (bg f l vb ra rc S)) (Ta vb S.aB))
section
variable {P:Program}{ops:Array Oper}{Q:Exit->Act->World->Prop}{a:Act}{rest:List Oper}{T:List Nat}{w0 w:World}{m m':List bT}{dst:Option Tmp}{ty:TypeId}{pos:String}{af:Array Edge}
variable {x y:Operand}{f b l vb vb' off j n rc rc':Nat}{ra ra':Option Addr}{t:TypeId}{S S':RS}{Z:bT}{ws:List Int}{v:Value}
theorem mJ(hI:Inv T w0 w m)(hm:two (rb f b l vb ra rc S) Z∈m):bB S∧w.heap[b]? =some (.cells (bg f l vb ra rc S).toArray 98 (0,0)):=by
 have h:=(hI.sat _ hm).1;exact⟨h.1,h.2.1⟩
theorem rP{zs A B o gd}(hx:a.eval x=.pointer (some ⟨b,off,none⟩))(hb:w.heap[b]? =some (.cells (bg f l vb ra rc S).toArray 98 (0,0)))(hT:gm P t n)(hA:A.length=o)(hc:bg f l vb ra rc S=A++(iz zs++B))(ho:off=o+j)(hl:j+n<=zs.length):
  gu P ⟨dst,.load t x,ty,pos,af,gd⟩ a w (ia (sub zs j n)):=by
 subst ho;unfold gu execOp;have hlen:o+j+n<=(bg f l vb ra rc S).length:=by grind[j5]
 simp only[hx,Instr.loadAt,Instr.sureAddr,Sem.run_bind,Sem.run_pure,Result.andThen_ok,iT hT hb (o+j) hlen];rw[hc,ads hA hl];rfl
theorem rQ{A B o gd zs}(hx:a.eval x=.pointer (some ⟨b,off,none⟩))(hb:w.heap[b]? =some (.cells (bg f l vb ra rc S).toArray 98 (0,0)))(hT:iY P t)(hA:A.length=o)(hc:bg f l vb ra rc S=A++(iz zs++B))(ho:off=o+j)(hl:j<zs.length):
  gu P ⟨dst,.load t x,ty,pos,af,gd⟩ a w (.int .i64 (gi zs j)):=by
 subst ho;unfold gu execOp;simp only[hx,Instr.loadAt,Instr.sureAddr,Sem.run_bind,Sem.run_pure,Result.andThen_ok,ik hT hb (o+j) (by rw[hc];exact adt hA hl)]
theorem iW{A B gd}(hx:a.eval x=.pointer (some ⟨b,off,none⟩))(hb:w.heap[b]? =some (.cells (bg f l vb ra rc S).toArray 98 (0,0)))(hT:iY P t)(hA:A.length=off)(hc:bg f l vb ra rc S=A++(v::B)):
  gu P ⟨dst,.load t x,ty,pos,af,gd⟩ a w v:=by
 subst hA;unfold gu execOp;simp only[hx,Instr.loadAt,Instr.sureAddr,Sem.run_bind,Sem.run_pure,Result.andThen_ok,ik (v:=v) hT hb A.length (by grind)]
theorem bS{vs}(hI:Inv T w0 w m)(hx:a.eval x=.pointer (some ⟨b,off,none⟩))(hv:(a.eval y).cells=vs.toArray)(hu:aU (two (rb f b l vb ra rc S) Z) (two (rb f b l vb' ra' rc' S') Z) m m')(hn:(P.info? t).map (·.size)=some n)(hsp:bB S->splice (bg f l vb ra rc S) off vs=bg f l vb' ra' rc' S')(hl:bB S->bB S')(hV:(vb'=vb∧S'.aB=S.aB)∨S'.aB=none)(hvl:vs.length=n)(hoff:off+n<=2818)(h1:∀u∈vs,u.oneCell'=true)(k:∀w',Inv T w0 w' m'->wpList P ops Q rest (a.put dst undef) w'):wpList P ops Q (⟨dst,.store t x y,ty,pos,af,none⟩::rest) a w:=
 wpList_plain rfl λK hK=>by
  have hm:two (rb f b l vb ra rc S) Z∈m:=by grind[aU.split]
  obtain⟨hL,hb⟩:=mJ hI hm;have G6:=hI.sat _ hm;obtain⟨w',hr,hst,hsz,hh⟩:=uT (P:=P) (v:=a.eval y) hn vs hv hvl h1 hb off (by grind[E9]);unfold Oper.wp execOp;simp only[hx,Instr.storeAt,Instr.sureAddr,Sem.run_bind,Sem.run_pure,Result.andThen_ok,hr];refine hK _ _ (k w' ?_);have hnd:=hI.nd hm;have hbv:b∉(Ta vb S.aB).own++Z.own:=by
   simp_all[two,nZ,blk]
  have zJ:∀k∈(Ta vb S.aB).own++Z.own,w'.heap[k]? =w.heap[k]? :=λk hk=>by
   grind[Step.same]
  have hown:∀k∈(two (rb f b l vb' ra' rc' S') Z).own,k∈(two (rb f b l vb ra rc S) Z).own:=by
   grind[two,blk,Ta,sQ]
  refine hI.upd hu (hst.mono λk hk=>by grind[two,blk]) ⟨⟨hl hL,?_,?_⟩,?_⟩ (λk hk=> .inl (hown k hk)) ?_
  ·show w'.heap[b]? =_
   grind
  ·rcases hV with⟨rfl,e⟩ |e
   ·rw[e];exact(Ta vb' S.aB).loc w w' (λk hk=>zJ k (List.mem_append.2 (.inl hk))) G6.1.2.2
   ·rw[e];trivial
  ·exact Z.loc w w' (λk hk=>zJ k (List.mem_append.2 (.inr hk))) G6.2
  ·rcases hV with⟨rfl,e⟩ |e
   ·simp_all[two,blk]
   ·grind[two,nZ,blk,Ta,sQ]
section
variable (hI:Inv T w0 w m)
include hI
theorem Xn(hx:a.eval x=.pointer (some ⟨b,2,none⟩):=by exact RF)(hm:two (rb f b l vb ra rc S) Z∈m:=by exact MM)[hT:bP P t 7]:gu P ⟨dst,.load t x,ty,pos,af,none⟩ a w (ia S.view):=by
 obtain⟨hL,hb⟩:=mJ hI hm;obtain⟨A,B,hA,e⟩:=E_ f l vb ra rc hL;have h:=rP (dst:=dst) (ty:=ty) (pos:=pos) (af:=af) (gd:=none) (j:=0) (n:=7) hx hb hT.out hA (e S.view) rfl (by rw[hL.view];omega)
 rwa [show sub S.view 0 7=S.view from by grind[bB.view,sub]]at h
theorem Sc(hx:a.eval x=.pointer (some ⟨b,9,none⟩):=by exact RF)(hm:two (rb f b l vb ra rc S) Z∈m:=by exact MM)[hT:bP P t 174]:gu P ⟨dst,.load t x,ty,pos,af,none⟩ a w (ia S.own):=by
 obtain⟨hL,hb⟩:=mJ hI hm;obtain⟨A,B,hA,e⟩:=Di f l vb ra rc hL;have h:=rP (dst:=dst) (ty:=ty) (pos:=pos) (af:=af) (gd:=none) (j:=0) (n:=174) hx hb hT.out hA (e S.own) rfl (by rw[hL.own];omega)
 rwa [show sub S.own 0 174=S.own from by grind[bB.own,sub]]at h
theorem acp(hx:a.eval x=.pointer (some ⟨b,1058,none⟩):=by exact RF)(hm:two (rb f b l vb ra rc S) Z∈m:=by exact MM)[hT:bP P t 8]:gu P ⟨dst,.load t x,ty,pos,af,none⟩ a w (ia S.acc):=by
 obtain⟨hL,hb⟩:=mJ hI hm;obtain⟨A,B,hA,e⟩:=xP f l vb ra rc hL;have h:=rP (dst:=dst) (ty:=ty) (pos:=pos) (af:=af) (gd:=none) (j:=0) (n:=8) hx hb hT.out hA (e S.acc) rfl (by rw[hL.acc];omega)
 rwa [show sub S.acc 0 8=S.acc from by grind[bB.acc,sub]]at h
theorem Uw(hx:a.eval x=.pointer (some ⟨b,2,none⟩):=by exact RF)(hm:two (rb f b l vb ra rc S) Z∈m:=by exact MM)[hT:aQ P t]:gu P ⟨dst,.load t x,ty,pos,af,none⟩ a w (.int .i64 (gi S.view 0)):=by
 obtain⟨hL,hb⟩:=mJ hI hm;obtain⟨A,B,hA,e⟩:=E_ f l vb ra rc hL;exact rQ (j:=0) hx hb hT.out hA (e S.view) OM (by rw[hL.view];omega)
theorem Xo(hx:a.eval x=.pointer (some ⟨b,9,none⟩):=by exact RF)(hm:two (rb f b l vb ra rc S) Z∈m:=by exact MM)[hT:aQ P t]:gu P ⟨dst,.load t x,ty,pos,af,none⟩ a w (.int .i64 (gi S.own 0)):=by
 obtain⟨hL,hb⟩:=mJ hI hm;obtain⟨A,B,hA,e⟩:=Di f l vb ra rc hL;exact rQ (j:=0) hx hb hT.out hA (e S.own) OM (by rw[hL.own];omega)
theorem Xp(hx:a.eval x=.pointer (some ⟨b,1059,none⟩):=by exact RF)(hm:two (rb f b l vb ra rc S) Z∈m:=by exact MM)[hT:bP P t 2]:gu P ⟨dst,.load t x,ty,pos,af,none⟩ a w (ia (sub S.acc 1 2)):=by
 obtain⟨hL,hb⟩:=mJ hI hm;obtain⟨A,B,hA,e⟩:=xP f l vb ra rc hL;exact rP (j:=1) hx hb hT.out hA (e S.acc) OM (by rw[hL.acc];omega)
theorem Xq{i}(hx:a.eval x=.pointer (some ⟨b,38+i,none⟩):=by exact RF)(hm:two (rb f b l vb ra rc S) Z∈m:=by exact MM)[hT:aQ P t](hi:i<5:=by omega):gu P ⟨dst,.load t x,ty,pos,af,none⟩ a w (.int .i64 (gi S.own (29+i))):=by
 obtain⟨hL,hb⟩:=mJ hI hm;obtain⟨A,B,hA,e⟩:=Di f l vb ra rc hL;exact rQ (j:=(29+i)) hx hb hT.out hA (e S.own) OM (by rw[hL.own];omega)
theorem Ux{i}(hx:a.eval x=.pointer (some ⟨b,1943+i,none⟩):=by exact RF)(hm:two (rb f b l vb ra rc S) Z∈m:=by exact MM)[hT:aQ P t](hi:i<5:=by omega):gu P ⟨dst,.load t x,ty,pos,af,none⟩ a w (.int .i64 (gi S.told i)):=by
 obtain⟨hL,hb⟩:=mJ hI hm;obtain⟨A,B,hA,e⟩:=M0 f l vb ra rc hL;exact rQ (j:=i) hx hb hT.out hA (e S.told) OM (by rw[hL.told];omega)
theorem Uy{i}(hx:a.eval x=.pointer (some ⟨b,1948+i*174,none⟩):=by exact RF)(hm:two (rb f b l vb ra rc S) Z∈m:=by exact MM)[hT:aQ P t](hi:i<5:=by omega):gu P ⟨dst,.load t x,ty,pos,af,none⟩ a w (.int .i64 (gi S.last (i*174))):=by
 obtain⟨hL,hb⟩:=mJ hI hm;obtain⟨A,B,hA,e⟩:=Fb f l vb ra rc hL;exact rQ (j:=(i*174)) hx hb hT.out hA (e S.last) OM (by rw[hL.last];omega)
theorem Uz{i}(hx:a.eval x=.pointer (some ⟨b,1948+i*174,none⟩):=by exact RF)(hm:two (rb f b l vb ra rc S) Z∈m:=by exact MM)[hT:bP P t 174](hi:i<5:=by omega):gu P ⟨dst,.load t x,ty,pos,af,none⟩ a w (ia (sub S.last (i*174) 174)):=by
 obtain⟨hL,hb⟩:=mJ hI hm;obtain⟨A,B,hA,e⟩:=Fb f l vb ra rc hL;exact rP (j:=(i*174)) hx hb hT.out hA (e S.last) OM (by rw[hL.last];omega)
theorem D5(hx:a.eval x=.pointer (some ⟨b,0,none⟩):=by exact RF)(hm:two (rb f b l vb ra rc S) Z∈m:=by exact MM)[hT:aQ P t]:gu P ⟨dst,.load t x,ty,pos,af,none⟩ a w (.int .i64 (f:Int)):=let ⟨hL,hb⟩:=mJ hI hm;let ⟨_,_,hA,e⟩:=agM f l vb ra rc hL;iW hx hb hT.out hA e
theorem Sd(hx:a.eval x=.pointer (some ⟨b,1,none⟩):=by exact RF)(hm:two (rb f b l vb ra rc S) Z∈m:=by exact MM)[hT:aQ P t]:gu P ⟨dst,.load t x,ty,pos,af,none⟩ a w (.pointer (some ⟨l,0,none⟩)):=let ⟨hL,hb⟩:=mJ hI hm;let ⟨_,_,hA,e⟩:=adu f l vb ra rc hL;iW hx hb hT.out hA e
theorem xB(hx:a.eval x=.pointer (some ⟨b,1066,none⟩):=by exact RF)(hm:two (rb f b l vb ra rc S) Z∈m:=by exact MM)[hT:aQ P t]:gu P ⟨dst,.load t x,ty,pos,af,none⟩ a w (.int .i64 S.round):=let ⟨hL,hb⟩:=mJ hI hm;let ⟨_,_,hA,e⟩:=Iw f l vb ra rc hL;iW hx hb hT.out hA (e S.round)
theorem D6(hx:a.eval x=.pointer (some ⟨b,1067,none⟩):=by exact RF)(hm:two (rb f b l vb ra rc S) Z∈m:=by exact MM)[hT:aQ P t]:gu P ⟨dst,.load t x,ty,pos,af,none⟩ a w (Kj vb S.aB):=let ⟨hL,hb⟩:=mJ hI hm;let ⟨_,_,hA,e⟩:=MU f l ra rc hL;iW hx hb hT.out hA (e vb S.aB)
theorem LX(hx:a.eval x=.pointer (some ⟨b,1938,none⟩):=by exact RF)(hm:two (rb f b l vb ra rc S) Z∈m:=by exact MM)[hT:aQ P t]:gu P ⟨dst,.load t x,ty,pos,af,none⟩ a w (.bool S.busy):=let ⟨hL,hb⟩:=mJ hI hm;let ⟨_,_,hA,e⟩:=MW f l vb ra rc hL;iW hx hb hT.out hA (e S.busy)
theorem Xr(hx:a.eval x=.pointer (some ⟨b,1939,none⟩):=by exact RF)(hm:two (rb f b l vb ra rc S) Z∈m:=by exact MM)[hT:aQ P t]:gu P ⟨dst,.load t x,ty,pos,af,none⟩ a w (.int .i64 S.kept):=let ⟨hL,hb⟩:=mJ hI hm;let ⟨_,_,hA,e⟩:=MZ f l vb ra rc hL;iW hx hb hT.out hA (e S.kept)
theorem UA(hx:a.eval x=.pointer (some ⟨b,1940,none⟩):=by exact RF)(hm:two (rb f b l vb ra rc S) Z∈m:=by exact MM)[hT:aQ P t]:gu P ⟨dst,.load t x,ty,pos,af,none⟩ a w (.int .i64 S.waits):=let ⟨hL,hb⟩:=mJ hI hm;let ⟨_,_,hA,e⟩:=Iy f l vb ra rc hL;iW hx hb hT.out hA (e S.waits)
theorem acr(hx:a.eval x=.pointer (some ⟨b,1941,none⟩):=by exact RF)(hm:two (rb f b l vb ra rc S) Z∈m:=by exact MM)[hT:aQ P t]:gu P ⟨dst,.load t x,ty,pos,af,none⟩ a w (.int .i64 S.ops):=let ⟨hL,hb⟩:=mJ hI hm;let ⟨_,_,hA,e⟩:=Tc f l vb ra rc hL;iW hx hb hT.out hA (e S.ops)
theorem Xt(hx:a.eval x=.pointer (some ⟨b,1942,none⟩):=by exact RF)(hm:two (rb f b l vb ra rc S) Z∈m:=by exact MM)[hT:aQ P t]:gu P ⟨dst,.load t x,ty,pos,af,none⟩ a w (.slice ra S.aX.length rc):=let ⟨hL,hb⟩:=mJ hI hm;let ⟨_,_,hA,e⟩:=Fa f l vb hL;iW hx hb hT.out hA (e ra rc S.aX)
end
theorem acs(hI:Inv T w0 w m)(hx:a.eval x=.pointer (some ⟨b,2,none⟩):=by exact RF)(hv:a.eval y=ia ws:=by exact RF)(hu:aU (two (rb f b l vb ra rc S) Z) (two (rb f b l vb ra rc {S with view:=ws}) Z) m m':=by exact UU)[hT:bP P t 7](hl:ws.length=7:=by exact LB)
  (k:∀w',Inv T w0 w' m'->wpList P ops Q rest (a.put dst undef) w'):wpList P ops Q (⟨dst,.store t x y,ty,pos,af,none⟩::rest) a w:=
 bS (vs:=iz ws) hI hx (by rw[hv];rfl) hu hT.out.size (λhL=>by
  obtain⟨A,B,hA,e⟩:=E_ f l vb ra rc hL;have h:=lJ (B:=B) (j:=0) (zs:=S.view) (ws:=ws) hA (by grind[bB.view]);rw[show bg f l vb ra rc S=_ from e S.view,e ws];rw[show dK S.view 0 ws=ws from by grind[bB.view,dK]]at h;exact h) (λhL=>⟨hl,hL.own,hL.aT,hL.sl,hL.acc,hL.book,hL.told,hL.last,hL.aB⟩) (.inl ⟨rfl,rfl⟩) (by grind[j5]) OM ze k
theorem af1(hI:Inv T w0 w m)(hx:a.eval x=.pointer (some ⟨b,9,none⟩):=by exact RF)(hv:a.eval y=ia ws:=by exact RF)(hu:aU (two (rb f b l vb ra rc S) Z) (two (rb f b l vb ra rc {S with own:=ws}) Z) m m':=by exact UU)[hT:bP P t 174](hl:ws.length=174:=by exact LB)
  (k:∀w',Inv T w0 w' m'->wpList P ops Q rest (a.put dst undef) w'):wpList P ops Q (⟨dst,.store t x y,ty,pos,af,none⟩::rest) a w:=
 bS (vs:=iz ws) hI hx (by rw[hv];rfl) hu hT.out.size (λhL=>by
  obtain⟨A,B,hA,e⟩:=Di f l vb ra rc hL;have h:=lJ (B:=B) (j:=0) (zs:=S.own) (ws:=ws) hA (by grind[bB.own]);rw[show bg f l vb ra rc S=_ from e S.own,e ws];rw[show dK S.own 0 ws=ws from by grind[bB.own,dK]]at h;exact h) (λhL=>⟨hL.view,hl,hL.aT,hL.sl,hL.acc,hL.book,hL.told,hL.last,hL.aB⟩) (.inl ⟨rfl,rfl⟩) (by grind[j5]) OM ze k
theorem af2(hI:Inv T w0 w m)(hx:a.eval x=.pointer (some ⟨b,1058,none⟩):=by exact RF)(hv:a.eval y=ia ws:=by exact RF)(hu:aU (two (rb f b l vb ra rc S) Z) (two (rb f b l vb ra rc {S with acc:=ws}) Z) m m':=by exact UU)[hT:bP P t 8](hl:ws.length=8:=by exact LB)
  (k:∀w',Inv T w0 w' m'->wpList P ops Q rest (a.put dst undef) w'):wpList P ops Q (⟨dst,.store t x y,ty,pos,af,none⟩::rest) a w:=
 bS (vs:=iz ws) hI hx (by rw[hv];rfl) hu hT.out.size (λhL=>by
  obtain⟨A,B,hA,e⟩:=xP f l vb ra rc hL;have h:=lJ (B:=B) (j:=0) (zs:=S.acc) (ws:=ws) hA (by grind[bB.acc]);rw[show bg f l vb ra rc S=_ from e S.acc,e ws];rw[show dK S.acc 0 ws=ws from by grind[bB.acc,dK]]at h;exact h) (λhL=>⟨hL.view,hL.own,hL.aT,hL.sl,hl,hL.book,hL.told,hL.last,hL.aB⟩) (.inl ⟨rfl,rfl⟩) (by grind[j5]) OM ze k
theorem acu(hI:Inv T w0 w m)(hx:a.eval x=.pointer (some ⟨b,1059,none⟩):=by exact RF)(hv:a.eval y=ia ws:=by exact RF)(hu:aU (two (rb f b l vb ra rc S) Z) (two (rb f b l vb ra rc {S with acc:=dK S.acc 1 ws}) Z) m m':=by exact UU)[hT:bP P t 2](hl:ws.length=2:=by exact LB)
  (k:∀w',Inv T w0 w' m'->wpList P ops Q rest (a.put dst undef) w'):wpList P ops Q (⟨dst,.store t x y,ty,pos,af,none⟩::rest) a w:=
 bS (vs:=iz ws) hI hx (by rw[hv];rfl) hu hT.out.size (λhL=>by
  obtain⟨A,B,hA,e⟩:=xP f l vb ra rc hL;have h:=lJ (B:=B) (j:=1) (zs:=S.acc) (ws:=ws) hA (by grind[bB.acc])
  simp_all) (λhL=>⟨hL.view,hL.own,hL.aT,hL.sl,by grind[bB.acc,aY],hL.book,hL.told,hL.last,hL.aB⟩) (.inl ⟨rfl,rfl⟩) (by grind[j5]) OM ze k
theorem acv(hI:Inv T w0 w m)(hx:a.eval x=.pointer (some ⟨b,1061,none⟩):=by exact RF)(hv:a.eval y=ia ws:=by exact RF)(hu:aU (two (rb f b l vb ra rc S) Z) (two (rb f b l vb ra rc {S with acc:=dK S.acc 3 ws}) Z) m m':=by exact UU)[hT:bP P t 2](hl:ws.length=2:=by exact LB)
  (k:∀w',Inv T w0 w' m'->wpList P ops Q rest (a.put dst undef) w'):wpList P ops Q (⟨dst,.store t x y,ty,pos,af,none⟩::rest) a w:=
 bS (vs:=iz ws) hI hx (by rw[hv];rfl) hu hT.out.size (λhL=>by
  obtain⟨A,B,hA,e⟩:=xP f l vb ra rc hL;have h:=lJ (B:=B) (j:=3) (zs:=S.acc) (ws:=ws) hA (by grind[bB.acc])
  simp_all) (λhL=>⟨hL.view,hL.own,hL.aT,hL.sl,by grind[bB.acc,aY],hL.book,hL.told,hL.last,hL.aB⟩) (.inl ⟨rfl,rfl⟩) (by grind[j5]) OM ze k
theorem acw(hI:Inv T w0 w m)(hx:a.eval x=.pointer (some ⟨b,1063,none⟩):=by exact RF)(hv:a.eval y=ia ws:=by exact RF)(hu:aU (two (rb f b l vb ra rc S) Z) (two (rb f b l vb ra rc {S with acc:=dK S.acc 5 ws}) Z) m m':=by exact UU)[hT:bP P t 3](hl:ws.length=3:=by exact LB)
  (k:∀w',Inv T w0 w' m'->wpList P ops Q rest (a.put dst undef) w'):wpList P ops Q (⟨dst,.store t x y,ty,pos,af,none⟩::rest) a w:=
 bS (vs:=iz ws) hI hx (by rw[hv];rfl) hu hT.out.size (λhL=>by
  obtain⟨A,B,hA,e⟩:=xP f l vb ra rc hL;have h:=lJ (B:=B) (j:=5) (zs:=S.acc) (ws:=ws) hA (by grind[bB.acc])
  simp_all) (λhL=>⟨hL.view,hL.own,hL.aT,hL.sl,by grind[bB.acc,aY],hL.book,hL.told,hL.last,hL.aB⟩) (.inl ⟨rfl,rfl⟩) (by grind[j5]) OM ze k
theorem Xx{i}(hI:Inv T w0 w m)(hx:a.eval x=.pointer (some ⟨b,1948+i*174,none⟩):=by exact RF)(hv:a.eval y=ia ws:=by exact RF)(hu:aU (two (rb f b l vb ra rc S) Z) (two (rb f b l vb ra rc {S with last:=dK S.last (i*174) ws}) Z) m m':=by exact UU)[hT:bP P t 174](hi:i<5:=by omega)(hl:ws.length=174:=by exact LB)
  (k:∀w',Inv T w0 w' m'->wpList P ops Q rest (a.put dst undef) w'):wpList P ops Q (⟨dst,.store t x y,ty,pos,af,none⟩::rest) a w:=
 bS (vs:=iz ws) hI hx (by rw[hv];rfl) hu hT.out.size (λhL=>by
  obtain⟨A,B,hA,e⟩:=Fb f l vb ra rc hL;have h:=lJ (B:=B) (j:=(i*174)) (zs:=S.last) (ws:=ws) hA (by grind[bB.last])
  simp_all) (λhL=>⟨hL.view,hL.own,hL.aT,hL.sl,hL.acc,hL.book,hL.told,by grind[bB.last,aY],hL.aB⟩) (.inl ⟨rfl,rfl⟩) (by grind[j5]) OM ze k
theorem Xy{i z}(hI:Inv T w0 w m)(hx:a.eval x=.pointer (some ⟨b,1943+i,none⟩):=by exact RF)(hv:a.eval y=.int .i64 z:=by exact RF)(hu:aU (two (rb f b l vb ra rc S) Z) (two (rb f b l vb ra rc {S with told:=S.told.set i z}) Z) m m':=by exact UU)[hT:aQ P t](hi:i<5:=by omega)
  (k:∀w',Inv T w0 w' m'->wpList P ops Q rest (a.put dst undef) w'):wpList P ops Q (⟨dst,.store t x y,ty,pos,af,none⟩::rest) a w:=
 bS (vs:=[.int .i64 z]) hI hx (by rw[hv];rfl) hu hT.out.size (λhL=>by
  obtain⟨A,B,hA,e⟩:=M0 f l vb ra rc hL;have h:=lJ (B:=B) (j:=i) (zs:=S.told) (ws:=[z]) hA (by grind[bB.told]);rw[show bg f l vb ra rc S=_ from e S.told,e (S.told.set i z)];rw[show dK S.told i [z]=S.told.set i z from by simp_all[bB.told,List.set_eq_take_append_cons_drop,dK]]at h;exact h) (λhL=>⟨hL.view,hL.own,hL.aT,hL.sl,hL.acc,hL.book,by grind[bB.told],hL.last,hL.aB⟩) (.inl ⟨rfl,rfl⟩) (rfl) OM (zf rfl) k
theorem Xz{u}(hI:Inv T w0 w m)(hx:a.eval x=.pointer (some ⟨b,1066,none⟩):=by exact RF)(hv:a.eval y=.int .i64 u:=by exact RF)(hu:aU (two (rb f b l vb ra rc S) Z) (two (rb f b l vb ra rc {S with round:=u}) Z) m m':=by exact UU)[hT:aQ P t]
  (k:∀w',Inv T w0 w' m'->wpList P ops Q rest (a.put dst undef) w'):wpList P ops Q (⟨dst,.store t x y,ty,pos,af,none⟩::rest) a w:=
 bS (vs:=[.int .i64 u]) hI hx (by rw[hv];rfl) hu hT.out.size (λhL=>Vv f l vb ra rc hL u) (λhL=>⟨hL.view,hL.own,hL.aT,hL.sl,hL.acc,hL.book,hL.told,hL.last,hL.aB⟩) (.inl ⟨rfl,rfl⟩) (rfl) OM (zf rfl) k
theorem acx{u}(hI:Inv T w0 w m)(hx:a.eval x=.pointer (some ⟨b,1938,none⟩):=by exact RF)(hv:a.eval y=.bool u:=by exact RF)(hu:aU (two (rb f b l vb ra rc S) Z) (two (rb f b l vb ra rc {S with busy:=u}) Z) m m':=by exact UU)[hT:aQ P t]
  (k:∀w',Inv T w0 w' m'->wpList P ops Q rest (a.put dst undef) w'):wpList P ops Q (⟨dst,.store t x y,ty,pos,af,none⟩::rest) a w:=
 bS (vs:=[.bool u]) hI hx (by rw[hv];rfl) hu hT.out.size (λhL=>Zn f l vb ra rc hL u) (λhL=>⟨hL.view,hL.own,hL.aT,hL.sl,hL.acc,hL.book,hL.told,hL.last,hL.aB⟩) (.inl ⟨rfl,rfl⟩) (rfl) OM (zf rfl) k
theorem acy{u}(hI:Inv T w0 w m)(hx:a.eval x=.pointer (some ⟨b,1939,none⟩):=by exact RF)(hv:a.eval y=.int .i64 u:=by exact RF)(hu:aU (two (rb f b l vb ra rc S) Z) (two (rb f b l vb ra rc {S with kept:=u}) Z) m m':=by exact UU)[hT:aQ P t]
  (k:∀w',Inv T w0 w' m'->wpList P ops Q rest (a.put dst undef) w'):wpList P ops Q (⟨dst,.store t x y,ty,pos,af,none⟩::rest) a w:=
 bS (vs:=[.int .i64 u]) hI hx (by rw[hv];rfl) hu hT.out.size (λhL=>Zo f l vb ra rc hL u) (λhL=>⟨hL.view,hL.own,hL.aT,hL.sl,hL.acc,hL.book,hL.told,hL.last,hL.aB⟩) (.inl ⟨rfl,rfl⟩) (rfl) OM (zf rfl) k
theorem XA{u}(hI:Inv T w0 w m)(hx:a.eval x=.pointer (some ⟨b,1940,none⟩):=by exact RF)(hv:a.eval y=.int .i64 u:=by exact RF)(hu:aU (two (rb f b l vb ra rc S) Z) (two (rb f b l vb ra rc {S with waits:=u}) Z) m m':=by exact UU)[hT:aQ P t]
  (k:∀w',Inv T w0 w' m'->wpList P ops Q rest (a.put dst undef) w'):wpList P ops Q (⟨dst,.store t x y,ty,pos,af,none⟩::rest) a w:=
 bS (vs:=[.int .i64 u]) hI hx (by rw[hv];rfl) hu hT.out.size (λhL=>Vw f l vb ra rc hL u) (λhL=>⟨hL.view,hL.own,hL.aT,hL.sl,hL.acc,hL.book,hL.told,hL.last,hL.aB⟩) (.inl ⟨rfl,rfl⟩) (rfl) OM (zf rfl) k
theorem af3{u}(hI:Inv T w0 w m)(hx:a.eval x=.pointer (some ⟨b,1941,none⟩):=by exact RF)(hv:a.eval y=.int .i64 u:=by exact RF)(hu:aU (two (rb f b l vb ra rc S) Z) (two (rb f b l vb ra rc {S with ops:=u}) Z) m m':=by exact UU)[hT:aQ P t]
  (k:∀w',Inv T w0 w' m'->wpList P ops Q rest (a.put dst undef) w'):wpList P ops Q (⟨dst,.store t x y,ty,pos,af,none⟩::rest) a w:=
 bS (vs:=[.int .i64 u]) hI hx (by rw[hv];rfl) hu hT.out.size (λhL=>adv f l vb ra rc hL u) (λhL=>⟨hL.view,hL.own,hL.aT,hL.sl,hL.acc,hL.book,hL.told,hL.last,hL.aB⟩) (.inl ⟨rfl,rfl⟩) (rfl) OM (zf rfl) k
theorem XB(hI:Inv T w0 w m)(hx:a.eval x=.pointer (some ⟨b,1067,none⟩):=by exact RF)(hv:a.eval y=.pointer none:=by exact RF)(hu:aU (two (rb f b l vb ra rc S) Z) (two (rb f b l vb ra rc {S with aB:=none}) Z) m m':=by exact UU)[hT:aQ P t]
  (k:∀w',Inv T w0 w' m'->wpList P ops Q rest (a.put dst undef) w'):wpList P ops Q (⟨dst,.store t x y,ty,pos,af,none⟩::rest) a w:=
 bS (vs:=[.pointer none]) hI hx (by rw[hv];rfl) hu hT.out.size (λhL=>MV f l vb ra rc hL vb none) (λhL=>⟨hL.view,hL.own,hL.aT,hL.sl,hL.acc,hL.book,hL.told,hL.last,λp h=>by cases h⟩) (.inr rfl) (rfl) OM (zf rfl) k
end
end
section
open B (aI dw eu dC gH kM eB kF cB bK)
open A (jY)
inductive gQ where
 |row (w:Nat) (r:List Int)
 |kept (n:Int)
 |news (w:Nat) (r:List Int)
 |ask (e:Int) (b:List Int)
 |promise (e:Int) (b h c:List Int)
 |put (e:Int) (b c:List Int)
 |taken (e:Int) (b:List Int)
 |view (v:List Int)
 |aZ (w:Nat) (v:List Int)
 |d_ (w:Nat) (r:List Int)
def gQ.nX:gQ->List Int
 | .row w r=>aF 0 (w:Int) r 0 0 (au 2) (au 2) (au 3) (au 7)
 | .kept n=>aF 1 0 (au 174) n 0 (au 2) (au 2) (au 3) (au 7)
 | .news w r=>aF 2 (w:Int) r 0 0 (au 2) (au 2) (au 3) (au 7)
 | .ask e b=>aF 3 0 (au 174) 0 e b (au 2) (au 3) (au 7)
 | .promise e b h c=>aF 4 0 (au 174) 0 e b h c (au 7)
 | .put e b c=>aF 5 0 (au 174) 0 e b (au 2) c (au 7)
 | .taken e b=>aF 6 0 (au 174) 0 e b (au 2) (au 3) (au 7)
 | .view v=>aF 7 0 (au 174) 0 0 (au 2) (au 2) (au 3) v
 | .aZ w v=>aF 8 (w:Int) (au 174) 0 0 (au 2) (au 2) (au 3) v
 | .d_ w r=>aF 9 (w:Int) r 0 0 (au 2) (au 2) (au 3) (au 7)
def gQ.W:gQ->List UInt8
 | .row w r=>afs w r
 | .kept n=>aft n
 | .news w r=>afu w r
 | .ask e b=>afv e b
 | .promise e b h c=>Tg e b h c
 | .put e b c=>Ti e b c
 | .taken e b=>afw e b
 | .view v=>afx v
 | .aZ w v=>afy w v
 | .d_ w r=>afz w r
def gQ.Len:gQ->Prop
 | .row w r=>w<5∧r.length=174
 | .kept n=>True
 | .news w r=>w<5∧r.length=174
 | .ask e b=>b.length=2
 | .promise e b h c=>b.length=2∧h.length=2∧c.length=3
 | .put e b c=>b.length=2∧c.length=3
 | .taken e b=>b.length=2
 | .view v=>v.length=7
 | .aZ w v=>w<5∧v.length=7
 | .d_ w r=>w<5∧r.length=174
inductive Rec where
 |row (r:List Int)
 |cz (w:Nat) (r:List Int)
 |aZ (w:Nat)
 |qH (e:Int) (b:List Int)
 |take (e:Int) (b c:List Int)
 |view (v:List Int)
def Rec.nX:Rec->List Int
 | .row r=>bf 0 0 r 0 (au 2) (au 3) (au 7)
 | .cz w r=>bf 1 (w:Int) r 0 (au 2) (au 3) (au 7)
 | .aZ w=>bf 2 (w:Int) (au 174) 0 (au 2) (au 3) (au 7)
 | .qH e b=>bf 3 0 (au 174) e b (au 3) (au 7)
 | .take e b c=>bf 4 0 (au 174) e b c (au 7)
 | .view v=>bf 5 0 (au 174) 0 (au 2) (au 3) v
def Rec.W:Rec->List UInt8
 | .row r=>ajI r
 | .cz w r=>ajJ w r
 | .aZ w=>ajK w
 | .qH e b=>ajL e b
 | .take e b c=>Zz e b c
 | .view v=>ajM v
def Rec.Len:Rec->Prop
 | .row r=>r.length=174
 | .cz w r=>w<5∧r.length=174
 | .aZ w=>w<5
 | .qH e b=>b.length=2
 | .take e b c=>b.length=2∧c.length=3
 | .view v=>v.length=7
def rowAt(zs:List Int)(i:Nat):List Int:=sub zs (i*174) 174
def eU(i:Nat):List Nat:=[(i+1) %5,(i+2) %5]
def XG(z:Int)(k:Nat):Int:=bits BinOp.or IntKind.i64 z (2^k)
def wK(q:List (List UInt8))(x:List UInt8):List (List UInt8):=if q.length<8 then q++[x]else q
def dS(f:Nat)(S:RS)(dst:Nat)(M:gQ):RS:=if S.D.down=true then S else {S with B:=gV S.B (f*5+dst) (wK (S.B (f*5+dst)) (jY (UInt8.ofNat f) (UInt8.ofNat dst) M.W))}
def cK(S:RS)(x:Rec):RS×Int:=
 ({S with D:=(bW S.D S.cnt S.used x.W).1,cnt:=(bW S.D S.cnt S.used x.W).2.1,used:=(bW S.D S.cnt S.used x.W).2.2.1},(bW S.D S.cnt S.used x.W).2.2.2)
def oM(S:RS)(v:List Int):RS:={S with view:=v,acc:=qB (gi v 0) (au 2) (au 2) (au 3),aB:=none,round:=0}
def di(S:RS)(op e z:Int):RS:={S with aX:=S.aX++[[op,e,z]]}
def qm(f:Nat)(S:RS):List Nat:=(List.range 5).filter λi=>decide (dw S.view (i:Int)=((f:Int),true))&&decide (gi S.own (29+i)<=0)
def mU(S:RS)(i w:Nat):Bool:=bt (gi S.told i) w
def jf(f:Nat)(S:RS):RS:=(eU f).foldl (λS w=>if bt S.kept w=true then S else dS f S w (.row f S.own)) S
def iQ(f:Nat)(S:RS)(x:List Int)(op:Int):RS×Int:=
 if(cK S (.row x)).2=0 then(jf f {(cK S (.row x)).1 with own:=x,busy:=true,kept:=0,waits:=op},0)else cK S (.row x)
def fP(last:List Int):List Int->List Nat->Option (List Int)
 |x,[]=>some x
 |x,i::l=>if 0<gi x (29+i)then fP last x l else if(C.tJ x (i:Int) (rowAt last i)).2=0 then fP last (C.tJ x (i:Int) (rowAt last i)).1 l else none
def j6(f:Nat)(S:RS):RS:=
 if S.busy=true∨qm f S=[]then S
 else if(qm f S).all (λi=>(eU i).all (mU S i))=true then
  (fP S.last S.own (qm f S)).elim S (λx=>(iQ f S x 0).1)
 else S
def jk(f:Nat)(S:RS)(from_ w:Nat)(r:List Int):RS:=
 j6 f (if from_∈eU w then {S with last:=if gi S.told w=0∨gi S.last (w*174) <gi r 0 then dK S.last (w*174) r else S.last,told:=S.told.set w (XG (gi S.told w) from_)}else S)
def gI(f:Nat)(S:RS)(dst w:Nat)(r:List Int):RS:=if dst=f then jk f S f w r else dS f S dst (.d_ w r)
def mV(f:Nat)(S:RS)(from_ w:Nat):RS:=
 if dw S.view (w:Int)=((from_:Int),true)then
  if C.fG S.sl (w:Int)=true then gI f S from_ w (rowAt S.aT w)
  else if(cK S (.aZ w)).2=0 then gI f {(cK S (.aZ w)).1 with sl:=C.ku S.sl (w:Int)} from_ w (rowAt S.aT w)
  else(cK S (.aZ w)).1
 else S
def kN(f:Nat)(S:RS)(dst w:Nat):RS:=if dst=f then mV f S f w else dS f S dst (.aZ w S.view)
def qI(f:Nat)(S:RS)(i:Nat):RS:=(eU i).foldl (λS w=>if mU S i w=true then S else kN f S w i) S
def mM(f:Nat)(S:RS):RS:=(qm f S).foldl (qI f) S
def fQ(f:Nat)(S:RS)(v:List Int):RS×Bool:=
 if gi v 0<=gi S.view 0 then(S,false)
 else if(cK S (.view v)).2=0 then(mM f (oM (cK S (.view v)).1 v),true)else((cK S (.view v)).1,false)
def IC(f:Nat)(S:RS)(from_ w:Nat)(v:List Int):RS:=mV f (fQ f S v).1 from_ w
def ZF(S:RS)(w:Nat)(r:List Int):RS:={S with book:=C.iV S.book (w:Int) r}
def sS(f:Nat)(S:RS)(from_ w:Nat)(r:List Int):RS:=
 if w≠from_∨C.fG S.sl (w:Int)=true then S
 else if C.mG S.aT S.sl (w:Int) r=true then
  if(cK S (.cz w r)).2=0 then dS f {(cK S (.cz w r)).1 with aT:=C.gM S.aT S.sl (w:Int) r} from_ (.kept (gi (rowAt (C.gM S.aT S.sl (w:Int) r) w) 0))
  else(cK S (.cz w r)).1
 else dS f S from_ (.kept (gi (rowAt S.aT w) 0))
def others(f:Nat):List Nat:=(List.range 5).filter (· ≠f)
def fV(f:Nat)(S:RS)(x:List Int):RS:=(others f).foldl (λS i=>dS f S i (.news f x)) S
def ig(f:Nat)(S:RS)(v:List Int):RS:=(others f).foldl (λS i=>dS f S i (.view v)) S
def lL(f:Nat)(S:RS):RS:=
 let S2:RS:={S with busy:=false,book:=C.iV S.book (f:Int) S.own}
 let S3:RS:=if 0<S.waits then {di S2 S.waits 0 0 with waits:=0}else S2
 j6 f (fV f S3 S.own)
def sU(f:Nat)(S:RS)(from_:Nat)(n:Int):RS:=
 if S.busy=true∧n=gi S.own 0∧from_∈eU f then
  if(eU f).all (bt (XG S.kept from_))=true then lL f {S with kept:=XG S.kept from_}else {S with kept:=XG S.kept from_}
 else S
def tK(a:List Int)(e:Int)(b:List Int):List Int×Bool:=if cB (gi a 0) (gi a 1) (gi a 2) e (gi b 0) (gi b 1)=true then(a,false)else(dK a 1 b,true)
def Fw(a:List Int)(e:Int)(b c:List Int):List Int×Bool:=if cB (gi a 0) (gi a 1) (gi a 2) e (gi b 0) (gi b 1)=true then(a,false)else(qB (gi a 0) b b c,true)
def iy(V:List Int×Bool)(who:Nat)(b:List Int):(List Int×Bool)×Bool:=
 if V.2=true∧b=sub V.1 7 2∧aI (sub V.1 0 7) (who:Int)=true then((dC V.1 15 who,true),eB (gi (dC V.1 15 who) 15) (gi (sub (dC V.1 15 who) 0 7) 1))else(V,false)
def iJ(V:List Int×Bool)(who:Nat)(b h c:List Int):(List Int×Bool)×Bool:=
 if V.2=false∧b=sub V.1 7 2∧aI (sub V.1 0 7) (who:Int)=true then
  let z:=if 0<gi h 0∧kM (gi (sub (dC V.1 14 who) 12 2) 0) (gi (sub (dC V.1 14 who) 12 2) 1) (gi h 0) (gi h 1)=true then gH V.1 who h c else dC V.1 14 who
  ((z,eB (gi z 14) (gi (sub z 0 7) 1)),eB (gi z 14) (gi (sub z 0 7) 1))
 else(V,false)
def l_(f:Nat)(S:RS)(V:List Int×Bool):RS:=
 if(bK S.view (sub V.1 9 3)).2=0 then
  if(fQ f S (bK S.view (sub V.1 9 3)).1).2=true then ig f (fQ f S (bK S.view (sub V.1 9 3)).1).1 (bK S.view (sub V.1 9 3)).1 else(fQ f S (bK S.view (sub V.1 9 3)).1).1
 else S
def sD(f:Nat)(S:RS)(e:Int)(b:List Int)(ans:RS)(K:RS->RS):RS:=
 if e<gi S.view 0 then ans else if gi S.view 0<e∨aI S.view (f:Int)=false then S else K {S with round:=max S.round (gi b 0)}
def oN(f:Nat)(S:RS)(from_:Nat)(b:List Int):RS:=match S.aB with
 |none=>S
 |some V=>if(iy V from_ b).2=true then l_ f {S with aB:=some (iy V from_ b).1} (iy V from_ b).1 else {S with aB:=some (iy V from_ b).1}
def iE(f:Nat)(S:RS)(dst:Nat)(e:Int)(b:List Int):RS:=if dst=f then sD f S e b S (λS=>oN f S f b)else dS f S dst (.taken e b)
def uI(f:Nat)(S:RS)(from_:Nat)(e:Int)(b c:List Int):RS:=
 if(bK S.view c).2=0 then
  if(Fw S.acc e b c).2=true then
   if(Fw S.acc e b c).1=S.acc then iE f S from_ e b
   else if(cK S (.take e b c)).2=0 then iE f {(cK S (.take e b c)).1 with acc:=(Fw S.acc e b c).1} from_ e b
   else(cK S (.take e b c)).1
  else S
 else S
def Qm(f:Nat)(v:List Int):List Nat:=(List.range 5).filter λi=>decide (i≠f)&&aI v (i:Int)
def vD(f:Nat)(S:RS)(V:List Int×Bool):RS:=
 let S1:=(Qm f S.view).foldl (λT i=>dS f T i (.put (gi S.view 0) (sub V.1 7 2) (sub V.1 9 3))) S
 if aI S.view (f:Int)=true then sD f S1 (gi S.view 0) (sub V.1 7 2) S1 (λT=>uI f T f (gi S.view 0) (sub V.1 7 2) (sub V.1 9 3))else S1
def jI(f:Nat)(S:RS)(from_:Nat)(b h c:List Int):RS:=match S.aB with
 |none=>S
 |some V=>if(iJ V from_ b h c).2=true then vD f {S with aB:=some (iJ V from_ b h c).1} (iJ V from_ b h c).1 else {S with aB:=some (iJ V from_ b h c).1}
def gP(f:Nat)(S:RS)(dst:Nat)(e:Int)(b h c:List Int):RS:=if dst=f then sD f S e b S (λS=>jI f S f b h c)else dS f S dst (.promise e b h c)
def wm(f:Nat)(S:RS)(from_:Nat)(e:Int)(b:List Int):RS:=
 if(tK S.acc e b).2=true then
  if sub (tK S.acc e b).1 1 2=sub S.acc 1 2 then gP f S from_ e b (sub (tK S.acc e b).1 3 2) (sub (tK S.acc e b).1 5 3)
  else if(cK S (.qH e b)).2=0 then gP f {(cK S (.qH e b)).1 with acc:=(tK S.acc e b).1} from_ e b (sub (tK S.acc e b).1 3 2) (sub (tK S.acc e b).1 5 3)
  else(cK S (.qH e b)).1
 else S
def p_(f:Nat)(S:RS)(V:List Int×Bool):RS:=
 let S1:=(Qm f S.view).foldl (λT i=>dS f T i (.ask (gi S.view 0) (sub V.1 7 2))) S
 if aI S.view (f:Int)=true then sD f S1 (gi S.view 0) (sub V.1 7 2) S1 (λT=>wm f T f (gi S.view 0) (sub V.1 7 2))else S1
def cO(f:Nat)(S:RS)(c:List Int):RS×Int:=
 let b:=[wrap64 (S.round+1),(f:Int)]
 if(tK S.acc (gi S.view 0) b).2=true then
  if(cK S (.qH (gi S.view 0) b)).2=0 then({(cK S (.qH (gi S.view 0) b)).1 with acc:=(tK S.acc (gi S.view 0) b).1,round:=wrap64 (S.round+1),aB:=some (kF S.view b c,false)},0)
  else cK S (.qH (gi S.view 0) b)
 else(S,6)
def kr(f:Nat)(S:RS)(from_:Nat):gQ->RS
 | .row w r=>sS f S from_ w r
 | .kept n=>sU f S from_ n
 | .news w r=>ZF S w r
 | .ask e b=>sD f S e b (dS f S from_ (.view S.view)) (λT=>wm f T from_ e b)
 | .promise e b h c=>sD f S e b S (λT=>jI f T from_ b h c)
 | .put e b c=>sD f S e b (dS f S from_ (.view S.view)) (λT=>uI f T from_ e b c)
 | .taken e b=>sD f S e b S (λT=>oN f T from_ b)
 | .view v=>(fQ f S v).1
 | .aZ w v=>IC f S from_ w v
 | .d_ w r=>jk f S from_ w r
def Ck(S:RS):List Int×Bool:=S.aB.getD ([],false)
def sV(f:Nat)(S:RS):RS:=
 let S1:=if S.busy=true then jf f S else S
 let S2:=mM f (j6 f S1)
 let S3:=if 1<gi S2.view 0 then ig f S2 S2.view else S2
 if aI S3.view (f:Int)=true then
  let S4:=if 0<gi (C.rowOf S3.book (f:Int)) 0 then fV f S3 (C.rowOf S3.book (f:Int))else S3
  match S4.aB with
  |none=>S4
  |some V=>if(bK S4.view (sub V.1 9 3)).2=0 then
    (if(cO f S4 (sub V.1 9 3)).2=0 then p_ f (cO f S4 (sub V.1 9 3)).1 (Ck (cO f S4 (sub V.1 9 3)).1)else(cO f S4 (sub V.1 9 3)).1)else S4
 else S3
def jV(f:Nat)(S:RS)(op:Int)(c:List Int):RS×Int:=
 if(bK S.view c).2=0 then
  if S.aB=none then
   if(cO f S c).2=0 then(p_ f (di (cO f S c).1 op 0 0) (Ck (cO f S c).1),0)
   else(di (cO f S c).1 op (cO f S c).2 0,(cO f S c).2)
  else(di S op 8 0,8)
 else(di S op (bK S.view c).2 0,(bK S.view c).2)
def rR(f:Nat)(S:RS)(k dst key n:Int):List Int×Int×Int:=
 if aI S.view (f:Int)=false then(au 174,0,9)
 else if key<0∨4<=key then(au 174,0,5)
 else if k=3 then(au 174,C.zH S.book key 5,0)
 else if S.busy=true then(au 174,0,8)
 else
  let g:=if k=0 then C.lq S.own (1+key.toNat*7) key n else if k=1 then C.lq S.own (1+key.toNat*7+1) key n else if k=2 then(if dst≠(f:Int)then C.mI S.own key n dst else(au 174,5))else(au 174,5)
  if g.2=0 then(if k≠0∧C.lh S.book (f:Int) key<n then(au 174,0,7)else(g.1,0,0))else(au 174,0,g.2)
def gG(f:Nat)(S0:RS)(k dst key n:Int)(c:List Int):RS×Int:=
 let S:RS:={S0 with ops:=wrap64 (S0.ops+1)}
 if aI S.view (f:Int)=true∧k=4 then jV f S S.ops c
 else
  let p:=rR f S k dst key n
  if p.2.2≠0∨k=3 then(di S S.ops p.2.2 p.2.1,p.2.2)
  else if(iQ f S p.1 S.ops).2=0 then iQ f S p.1 S.ops else(di (iQ f S p.1 S.ops).1 S.ops (iQ f S p.1 S.ops).2 0,(iQ f S p.1 S.ops).2)
def dD(S:RS):Rec->RS
 | .row r=>{S with own:=r,busy:=true,kept:=0}
 | .cz w r=>{S with aT:=C.gM S.aT S.sl (w:Int) r}
 | .aZ w=>{S with sl:=C.ku S.sl (w:Int)}
 | .qH e b=>{S with acc:=dK S.acc 1 b,round:=max S.round (gi b 0)}
 | .take e b c=>{S with acc:=dK (dK (dK S.acc 1 b) 3 b) 5 c,round:=max S.round (gi b 0)}
 | .view v=>oM S v
end
section
open A (QE kE bU)
open B (aI dw dC gH kM eB kF cB bK)
structure RX where
 f:Nat
 b:Nat
 l:Nat
 d:Nat
 mr:Nat
 p:Nat
 cb:Nat
 pb:Nat->Nat
 c:Nat->Nat
 cc:List Value
structure RY where
 wb:Option Nat
 vb:Nat
 ra:Option Addr
 rc:Nat
 q:Nat->List QE
structure Cm (D:DS) (cnt used:Nat):Prop where
 ok:xJ D
 cu:cnt<=used
 u:used<=2048
 w60:D.waits.length<=60
 rest:D.down=true∨D.waits=[]
structure Bd (X:RX):Prop where
 f5:X.f<5
 net:X.cc[0]? =some (.pointer (some ⟨X.p,0,none⟩))
 fB:X.cc[1+X.f]? =some (.pointer (some ⟨X.d,0,none⟩))
def yt(aX:List (List Int)):List Value:=aX.flatMap iz
abbrev ZI(X:RX)(q:Nat->List QE)(B:Nat->List (List UInt8)):bT:=two (nZ (∀i,(q i).map (λx=>x.2.2)=B i)) (kE 132 X.p X.pb X.c q)
abbrev alC(X:RX)(wb:Option Nat)(D:DS)(cnt used:Nat):bT:=two (nZ (Cm D cnt used)) (lg X.l X.d X.mr wb D cnt used)
abbrev nT(ra:Option Addr)(rc:Nat)(aX:List (List Int)):bT:=two (nZ (∀r∈aX,r.length=3)) (bD 117 3 (.slice ra aX.length rc) aX.length (yt aX))
abbrev ajN(X:RX)(wb:Option Nat)(ra:Option Addr)(rc:Nat)(q:Nat->List QE)(aX:List (List Int))(D:DS)(cnt used:Nat)(B:Nat->List (List UInt8)):bT:=
 two (nT ra rc aX) (two (alC X wb D cnt used) (two (ZI X q B) (blk X.cb 86 X.cc)))
abbrev aj(X:RX)(Y:RY)(S:RS):bT:=two (rb X.f X.b X.l Y.vb Y.ra Y.rc S) (ajN X Y.wb Y.ra Y.rc Y.q S.aX S.D S.cnt S.used S.B)
section
variable {T:List Nat}{w0 w w':World}{m m':List bT}{r r' x x' y y' z:bT}{p q:Prop}
theorem aU.mem(hu:aU r r' m m'):r∈m:=by grind[aU.split]
theorem aU.same:∀ {m},r∈m->aU r r m m
 |y::m,h=>by
  rcases List.mem_cons.1 h with rfl|h
  ·exact aU.here
  ·exact aU.there (aU.same h)
theorem sW(hI:Inv T w0 w m)(hm:two x y∈m):Inv x.own w w [x]:=(hI.at_ hm).dR.at_ aC
theorem kG(hI:Inv T w0 w m)(hm:two x y∈m):Inv y.own w w [y]:=(hI.at_ hm).dR.at_ aM
theorem Am(hI:Inv T w0 w m)(hJ:Inv x.own w w' [x'])(hu:aU (two x y) (two x' y) m m'):Inv T w0 w' m':=hI.on (((hI.at_ hu.mem).dR.on hJ jR).eX) hu
theorem xS(hI:Inv T w0 w m)(hJ:Inv y.own w w' [y'])(hu:aU (two x y) (two x y') m m'):Inv T w0 w' m':=hI.on (((hI.at_ hu.mem).dR.on hJ jo).eX) hu
theorem Inv.IE(h:Inv T w0 w (nZ p::m))(hq:p->q):Inv T w0 w (nZ q::m):=h.turn (λhs z hz=>by
 grind[nZ]) (by simp[owned,nZ])
theorem Inv.alD(h:Inv T w0 w [two (nZ p) y])(hq:p->q):Inv T w0 w [two (nZ q) y]:=(h.dR.IE hq).eX
theorem Inv.bring{l1 l2}(h:Inv T w0 w (l1++x::l2)):Inv T w0 w (x::(l1++l2)):=h.perm List.perm_middle.symm
theorem Inv.sink{l1 l2}(h:Inv T w0 w (x::(l1++l2))):Inv T w0 w (l1++x::l2):=h.perm List.perm_middle
theorem Inv.vE{b e cs}(hst:Step [b] w w')(hb:w'.heap[b]? =some (.cells cs.toArray e (0,0)))(hlt:b<w.heap.size):Inv [b] w w' [Go.Proofs.YtdakkaapokhnnaaGreatDoor.blk b e cs]:=by
 refine⟨hst.os,hst.tape,hst.output,hst.size,λk hk hn=>hst.same k hk hn,λr hr=>?_,λk hk=>?_,by simp[owned,Go.Proofs.YtdakkaapokhnnaaGreatDoor.blk]⟩
 ·rw[List.mem_singleton.1 hr];exact hb
 ·have:k=b:=by simpa[owned,Go.Proofs.YtdakkaapokhnnaaGreatDoor.blk]using hk
  grind
end
section
variable {T:List Nat}{w0 w w':World}{m m':List bT}{f b l vb rc:Nat}{ra:Option Addr}{S S':RS}{Z:bT}{V V':List Int×Bool}
theorem aS(hI:Inv T w0 w m)(hm:two (rb f b l vb ra rc S) Z∈m):bB S:=(mJ hI hm).1
theorem ZJ(hI:Inv T w0 w m)(hm:two (rb f b l vb ra rc S) Z∈m):Inv [b] w w [blk b 98 (bg f l vb ra rc S)]:=sW (kG (sW hI hm) aC) aC
theorem ZK(hI:Inv T w0 w m)(hJ:Inv [b] w w' [blk b 98 (bg f l vb ra rc S')])(hu:aU (two (rb f b l vb ra rc S) Z) (two (rb f b l vb ra rc S') Z) m m')(hl:bB S->bB S')(hv:S'.aB=S.aB):Inv T w0 w' m':=by
 have h1:=sW hI hu.mem;have h2:Inv (two (blk b 98 (bg f l vb ra rc S)) (Ta vb S.aB)).own w w' [two (blk b 98 (bg f l vb ra rc S')) (Ta vb S.aB)]:=Am (kG h1 aC) hJ jR;have h3:=((h1.dR.on h2 jo).IE hl).eX
 grind[Am]
theorem Ao(hI:Inv T w0 w m)(hm:two (rb f b l vb ra rc S) Z∈m)(hV:S.aB=some V):Inv [vb] w w [yD vb 208 V.1 [V.2]]:=by
 have h:=kG (kG (sW hI hm) aC) aC;rw[hV]at h;exact h
theorem vF(hI:Inv T w0 w m)(hJ:Inv [vb] w w' [yD vb 208 V'.1 [V'.2]])(hV:S.aB=some V)(hl:V'.1.length=16)(hu:aU (two (rb f b l vb ra rc S) Z) (two (rb f b l vb ra rc {S with aB:=some V'}) Z) m m'):Inv T w0 w' m':=by
 have h1:=sW hI hu.mem;have hJ2:Inv (Ta vb S.aB).own w w' [Ta vb (some V')]:=by rw[hV];exact hJ
 have h2:=xS (kG h1 aC) hJ2 jR;have e:bg f l vb ra rc S=bg f l vb ra rc {S with aB:=some V'}:=by grind[bg,Kj]
 have h3:=((h1.dR.on (by exact h2) jo).IE (q:=bB {S with aB:=some V'}) (λhL=>⟨hL.view,hL.own,hL.aT,hL.sl,hL.acc,hL.book,hL.told,hL.last,λp hp=>by grind⟩)).eX
 grind[Am]
theorem ag6(h:bB S):∃A B,A.length=183∧∀zs bs,bg f l vb ra rc {S with aT:=zs,sl:=bs}=A++(mix zs bs++B):=⟨((sg f l vb ra rc S).take 4).flatten,((sg f l vb ra rc S).drop 6).flatten,FA,λzs bs=>by simp_all[mix,iz,bg,sg]⟩
theorem Fz(hI:Inv T w0 w m)(hm:two (rb f b l vb ra rc S) Z∈m):∃A B,A.length=183∧(Inv (oH b 98 A B S.aT S.sl).own w w [oH b 98 A B S.aT S.sl])∧∀ {w' m' zs bs},Inv (oH b 98 A B S.aT S.sl).own w w' [oH b 98 A B zs bs]->zs.length=870->bs.length=5->aU (two (rb f b l vb ra rc S) Z) (two (rb f b l vb ra rc {S with aT:=zs,sl:=bs}) Z) m m'->Inv T w0 w' m':=by
 have hL:=aS hI hm;obtain⟨A,B,hA,e⟩:=ag6 (f:=f) (l:=l) (vb:=vb) (ra:=ra) (rc:=rc) hL;refine⟨A,B,hA,?_,λ{w' m' zs bs} hJ hz hb hu=>?_⟩
 ·have h:=ZJ hI hm
  rw[show bg f l vb ra rc S=_ from e S.aT S.sl]at h;exact h
 ·refine ZK hI ?_ hu (λhL=>⟨hL.view,hL.own,hz,hb,hL.acc,hL.book,hL.told,hL.last,hL.aB⟩) rfl
  rw[e zs bs];exact hJ
theorem Dk(hI:Inv T w0 w m)(hm:two (rb f b l vb ra rc S) Z∈m):∃A B,A.length=1068∧(Inv (oH b 98 A B S.book []).own w w [oH b 98 A B S.book []])∧∀ {w' m' zs},Inv (oH b 98 A B S.book []).own w w' [oH b 98 A B zs []]->zs.length=870->aU (two (rb f b l vb ra rc S) Z) (two (rb f b l vb ra rc {S with book:=zs}) Z) m m'->Inv T w0 w' m':=by
 have hL:=aS hI hm;obtain⟨A,B,hA,e⟩:=Zm f l vb ra rc hL;have em:∀zs:List Int,iz zs=mix zs []:=λzs=>by simp[mix,iz]
 refine⟨A,B,hA,?_,λ{w' m' zs} hJ hz hu=>?_⟩
 ·have h:=ZJ hI hm
  rw[show bg f l vb ra rc S=_ from e S.book,em]at h;exact h
 ·refine ZK hI ?_ hu (λhL=>⟨hL.view,hL.own,hL.aT,hL.sl,hL.acc,hz,hL.told,hL.last,hL.aB⟩) rfl
  rw[e zs,em];exact hJ
end
section
variable {T:List Nat}{w0 w:World}{m m':List bT}{f b l vb rc:Nat}{ra:Option Addr}{S:RS}{Z:bT}
theorem ZM(hI:Inv T w0 w m)(hm:two (rb f b l vb ra rc S) Z∈m)(who):Calls prog 46 #[.pointer (some ⟨b,183,none⟩),.int .i64 who] w λe w'=>e=.returned (ia (C.rowOf S.aT who))∧Inv T w0 w' m:=by
 obtain⟨A,B,hA,hJ,up⟩:=Fz hI hm;have hL:=aS hI hm;exact(agv w b 183 98 A B S.aT S.sl hL.aT hL.sl hA hJ who).mono λe w' h=>⟨h.1,up h.2 hL.aT hL.sl (aU.same hm)⟩
theorem IG(hI:Inv T w0 w m)(hm:two (rb f b l vb ra rc S) Z∈m)(who):Calls prog 47 #[.pointer (some ⟨b,183,none⟩),.int .i64 who] w λe w'=>e=.returned (.bool (C.fG S.sl who))∧Inv T w0 w' m:=by
 obtain⟨A,B,hA,hJ,up⟩:=Fz hI hm;have hL:=aS hI hm;exact(U9 w b 183 98 A B S.aT S.sl hL.aT hL.sl hA hJ who).mono λe w' h=>⟨h.1,up h.2 hL.aT hL.sl (aU.same hm)⟩
theorem Tt(hI:Inv T w0 w m)(who)(hu:aU (two (rb f b l vb ra rc S) Z) (two (rb f b l vb ra rc {S with sl:=C.ku S.sl who}) Z) m m'):Calls prog 103 #[.pointer (some ⟨b,183,none⟩),.int .i64 who] w λe w'=>e=.returned (.tuple #[ia (C.rowOf S.aT who),.bool (C.aL who)])∧Inv T w0 w' m':=by
 obtain⟨A,B,hA,hJ,up⟩:=Fz hI hu.mem;have hL:=aS hI hu.mem;exact(ac5 w b 183 98 A B S.aT S.sl hL.aT hL.sl hA hJ who).mono λe w' h=>⟨h.1,up h.2 hL.aT (by grind[C.ku,bB.sl]) hu⟩
theorem ZN(hI:Inv T w0 w m)(hm:two (rb f b l vb ra rc S) Z∈m)(who x)(hx:x.length=174):Calls prog 143 #[.pointer (some ⟨b,183,none⟩),.int .i64 who,ia x] w λe w'=>e=.returned (.bool (C.mG S.aT S.sl who x))∧Inv T w0 w' m:=by
 obtain⟨A,B,hA,hJ,up⟩:=Fz hI hm;have hL:=aS hI hm;exact(EM w b 183 98 A B S.aT S.sl hL.aT hL.sl hA hJ who x hx).mono λe w' h=>⟨h.1,up h.2 hL.aT hL.sl (aU.same hm)⟩
theorem uB{zs bs who x}(hz:zs.length=870)(hx:x.length=174):(C.gM zs bs who x).length=870:=by
 unfold C.gM
 split
 ·rename_i h
  obtain⟨h0,h5⟩:=C.dV (C.y_ h)
  grind[aY]
 omega
theorem Tu(hI:Inv T w0 w m)(who x)(hx:x.length=174)(hu:aU (two (rb f b l vb ra rc S) Z) (two (rb f b l vb ra rc {S with aT:=C.gM S.aT S.sl who x}) Z) m m'):Calls prog 102 #[.pointer (some ⟨b,183,none⟩),.int .i64 who,ia x] w λe w'=>e=.returned (.bool (C.mG S.aT S.sl who x))∧Inv T w0 w' m':=by
 grind[Fz,aU.mem,aS,ac6,bB.aT,bB.sl,Go.Calls.mono,uB]
theorem ag7(hI:Inv T w0 w m)(hm:two (rb f b l vb ra rc S) Z∈m)(who):Calls prog 23 #[.pointer (some ⟨b,1068,none⟩),.int .i64 who] w λe w'=>e=.returned (ia (C.rowOf S.book who))∧Inv T w0 w' m:=by
 obtain⟨A,B,hA,hJ,up⟩:=Dk hI hm;have hL:=aS hI hm;exact(C.ag5 w b 1068 98 A B S.book hL.book hA hJ who).mono λe w' h=>⟨h.1,up h.2 hL.book (aU.same hm)⟩
theorem zh{zs who x}(hz:zs.length=870)(hx:x.length=174):(C.iV zs who x).length=870:=by
 unfold C.iV
 split
 ·rename_i h
  obtain⟨h0,h5⟩:=C.dV (C.Cj h).1
  grind[aY]
 omega
theorem Kr(hI:Inv T w0 w m)(who x)(hx:x.length=174)(hu:aU (two (rb f b l vb ra rc S) Z) (two (rb f b l vb ra rc {S with book:=C.iV S.book who x}) Z) m m'):Calls prog 48 #[.pointer (some ⟨b,1068,none⟩),.int .i64 who,ia x] w λe w'=>e=.returned (.bool (C.oL S.book who x))∧Inv T w0 w' m':=by
 grind[Dk,aU.mem,aS,C.Tp,bB.book,Go.Calls.mono,zh]
theorem adA(hI:Inv T w0 w m)(hm:two (rb f b l vb ra rc S) Z∈m)(hk:C.Bk S.book)(key):Calls prog 29 #[.pointer (some ⟨b,1068,none⟩),.int .i64 key] w λe w'=>e=.returned (.int .i64 (C.zH S.book key 5))∧Inv T w0 w' m:=by
 obtain⟨A,B,hA,hJ,up⟩:=Dk hI hm;have hL:=aS hI hm;exact(C.Tq w b 1068 98 A B S.book hk hA hJ key).mono λe w' h=>⟨h.1,up h.2 hL.book (aU.same hm)⟩
theorem ZO(hI:Inv T w0 w m)(hm:two (rb f b l vb ra rc S) Z∈m)(hk:C.Bk S.book)(who key):Calls prog 107 #[.pointer (some ⟨b,1068,none⟩),.int .i64 who,.int .i64 key] w λe w'=>e=.returned (.int .i64 (C.lh S.book who key))∧Inv T w0 w' m:=by
 obtain⟨A,B,hA,hJ,up⟩:=Dk hI hm;have hL:=aS hI hm;exact(C.ZG w b 1068 98 A B S.book hk hA hJ who key).mono λe w' h=>⟨h.1,up h.2 hL.book (aU.same hm)⟩
variable {V:List Int×Bool}
theorem vlt{w vb zs p}(h:Inv [vb] w w [yD vb 208 zs [p]]):vb<w.heap.size:=(h.mine vb (by simp[owned,yD,blk])).2
theorem Kt{w vb zs p}(h:Inv [vb] w w [yD vb 208 zs [p]]):w.heap[vb]? =some (.cells (mix zs [p]).toArray 208 (0,0)):=h.sat (yD vb 208 zs [p]) SI
theorem FD(hI:Inv T w0 w m){w'}(hJ:Inv [vb] w w' [yD vb 208 V.1 [V.2]])(hV:S.aB=some V)(hm:two (rb f b l vb ra rc S) Z∈m):Inv T w0 w' m:=by
 have hl:V.1.length=16:=(aS hI hm).aB V hV;have hu:aU (two (rb f b l vb ra rc S) Z) (two (rb f b l vb ra rc {S with aB:=some V}) Z) m m:=by rw[<-hV];exact aU.same hm
 grind[vF]
theorem ag8(hI:Inv T w0 w m)(hm:two (rb f b l vb ra rc S) Z∈m)(hV:S.aB=some V):Calls prog 129 #[.pointer (some ⟨vb,0,none⟩)] w λe w'=>e=.returned (.bool V.2)∧Inv T w0 w' m:=by
 have hv:=Ao hI hm hV;exact(B.MN w vb 208 V.1 V.2 ((aS hI hm).aB V hV) (Kt hv)).mono λe w' h=>⟨h.1,FD hI (Inv.vE h.2.1 h.2.2 (vlt hv)) hV hm⟩
theorem ag9(hI:Inv T w0 w m)(hm:two (rb f b l vb ra rc S) Z∈m)(hV:S.aB=some V):Calls prog 83 #[.pointer (some ⟨vb,0,none⟩)] w λe w'=>e=.returned (ia (sub V.1 9 3))∧Inv T w0 w' m:=by
 have hv:=Ao hI hm hV;exact(B.P9 w vb 208 V.1 V.2 ((aS hI hm).aB V hV) (Kt hv)).mono λe w' h=>⟨h.1,FD hI (Inv.vE h.2.1 h.2.2 (vlt hv)) hV hm⟩
theorem ag_(hI:Inv T w0 w m)(hm:two (rb f b l vb ra rc S) Z∈m)(hV:S.aB=some V):Calls prog 128 #[.pointer (some ⟨vb,0,none⟩)] w λe w'=>e=.returned (ia (sub V.1 7 2))∧Inv T w0 w' m:=by
 have hv:=Ao hI hm hV;exact(B.P_ w vb 208 V.1 V.2 ((aS hI hm).aB V hV) (Kt hv)).mono λe w' h=>⟨h.1,FD hI (Inv.vE h.2.1 h.2.2 (vlt hv)) hV hm⟩
theorem FE(zs i k):(dC zs i k).length=zs.length:=by simp[dC]
theorem VE{zs k h c}(hz:zs.length=16)(h2:h.length=2)(c3:c.length=3):(gH zs k h c).length=16:=by
 grind[B.gH,FE,aY]
theorem FF{V who bl}(h:V.1.length=16):(iy V who bl).1.1.length=16:=by
 grind[iy,FE]
theorem FH{V who bl h c}(hz:V.1.length=16)(h2:h.length=2)(c3:c.length=3):(iJ V who bl h c).1.1.length=16:=by
 grind[iJ,VE,FE]
theorem ZU(hI:Inv T w0 w m)(hV:S.aB=some V)(who bl)(hb2:bl.length=2)(hu:aU (two (rb f b l vb ra rc S) Z) (two (rb f b l vb ra rc {S with aB:=some (iy V who bl).1}) Z) m m'):Calls prog 158 #[.pointer (some ⟨vb,0,none⟩),.int .i64 (who:Int),ia bl] w λe w'=>e=.returned (.bool (iy V who bl).2)∧Inv T w0 w' m':=by
 have hv:=Ao hI hu.mem hV;have hl:=(aS hI hu.mem).aB V hV;have hl2:=FF (who:=who) (bl:=bl) hl;obtain⟨zs,p⟩:=V;by_cases hc:p=true∧bl=sub zs 7 2∧aI (sub zs 0 7) (who:Int)=true
 ·obtain⟨rfl,rfl,hm2⟩:=hc
  have hw5:who<5:=by
   unfold aI at hm2
   grind[B.aL]
  have e1:iy (zs,true) who (sub zs 7 2)=((dC zs 15 who,true),eB (gi (dC zs 15 who) 15) (gi (sub (dC zs 15 who) 0 7) 1)):=if_pos ⟨rfl,rfl,hm2⟩;rw[e1]at hu hl2|-;exact(B.Vj w vb 208 zs hl (Kt hv) who hw5 hm2).mono λe w' h=>⟨h.1,vF hI (Inv.vE h.2.1 h.2.2 (vlt hv)) hV hl2 hu⟩
 ·have e1:iy (zs,p) who bl=((zs,p),false):=if_neg hc
  rw[e1]at hu|-;refine(B.Zc w vb 208 zs p hl (Kt hv) who bl hb2 ?_).mono λe w' h=>⟨h.1,vF hI (Inv.vE h.2.1 h.2.2 (vlt hv)) hV hl hu⟩
  grind
theorem ZV(hI:Inv T w0 w m)(hV:S.aB=some V)(who bl h c)(hb2:bl.length=2)(h2:h.length=2)(c3:c.length=3)(hu:aU (two (rb f b l vb ra rc S) Z) (two (rb f b l vb ra rc {S with aB:=some (iJ V who bl h c).1}) Z) m m'):Calls prog 157 #[.pointer (some ⟨vb,0,none⟩),.int .i64 (who:Int),ia bl,ia h,ia c] w λe w'=>e=.returned (.bool (iJ V who bl h c).2)∧Inv T w0 w' m':=by
 have hv:=Ao hI hu.mem hV;have hl:=(aS hI hu.mem).aB V hV;have hl2:=FH (who:=who) (bl:=bl) hl h2 c3;obtain⟨zs,p⟩:=V;by_cases hc:p=false∧bl=sub zs 7 2∧aI (sub zs 0 7) (who:Int)=true
 ·obtain⟨rfl,rfl,hm2⟩:=hc
  have hw5:who<5:=by
   unfold aI at hm2
   grind[B.aL]
  by_cases hh:0<gi h 0
  ·cases hls:kM (gi (sub (dC zs 14 who) 12 2) 0) (gi (sub (dC zs 14 who) 12 2) 1) (gi h 0) (gi h 1)
   ·have e1:iJ (zs,false) who (sub zs 7 2) h c=((dC zs 14 who,eB (gi (dC zs 14 who) 14) (gi (sub (dC zs 14 who) 0 7) 1)),eB (gi (dC zs 14 who) 14) (gi (sub (dC zs 14 who) 0 7) 1)):=by
     simp_all[iJ.eq_1]
    rw[e1]at hu hl2|-;exact(B.Qa w vb 208 zs hl (Kt hv) who hw5 hm2 h c h2 c3 hh hls).mono λe w' h=>⟨h.1,vF hI (Inv.vE h.2.1 h.2.2 (vlt hv)) hV hl2 hu⟩
   ·have e1:iJ (zs,false) who (sub zs 7 2) h c=((gH zs who h c,eB (gi (gH zs who h c) 14) (gi (sub (gH zs who h c) 0 7) 1)),eB (gi (gH zs who h c) 14) (gi (sub (gH zs who h c) 0 7) 1)):=by
     simp_all[iJ.eq_1]
    rw[e1]at hu hl2|-;exact(B.Qb w vb 208 zs hl (Kt hv) who hw5 hm2 h c h2 c3 hh hls).mono λe w' h=>⟨h.1,vF hI (Inv.vE h.2.1 h.2.2 (vlt hv)) hV hl2 hu⟩
  ·have e1:iJ (zs,false) who (sub zs 7 2) h c=((dC zs 14 who,eB (gi (dC zs 14 who) 14) (gi (sub (dC zs 14 who) 0 7) 1)),eB (gi (dC zs 14 who) 14) (gi (sub (dC zs 14 who) 0 7) 1)):=by
    rw[iJ,if_pos ⟨rfl,rfl,hm2⟩];simp[hh]
   rw[e1]at hu hl2|-;exact(B.Vk w vb 208 zs hl (Kt hv) who hw5 hm2 h c h2 c3 OM).mono λe w' h=>⟨h.1,vF hI (Inv.vE h.2.1 h.2.2 (vlt hv)) hV hl2 hu⟩
 ·have e1:iJ (zs,p) who bl h c=((zs,p),false):=if_neg hc
  rw[e1]at hu|-;refine(B.Za w vb 208 zs p hl (Kt hv) who bl h c hb2 h2 c3 ?_).mono λe w' h=>⟨h.1,vF hI (Inv.vE h.2.1 h.2.2 (vlt hv)) hV hl hu⟩
  grind
end
end
section
open A (QE kE bU)
theorem Na{D}{at_:Nat}{s}(hd:D.down=true)(ha:at_<2048)(hs:s.length=64):bA D (at_:Int) s=(D,4):=by
 unfold bA;cases D;grind
theorem Nb:∀(ss:List (List UInt8)) D at_,xJ D->D.down=false->(∀s∈ss,s.length=64)->at_+ss.length<=2048->
  xJ (fU D (at_:Int) ss).1∧(fU D (at_:Int) ss).1.waits.length<=D.waits.length+ss.length∧(((fU D (at_:Int) ss).2=0∧(fU D (at_:Int) ss).1.down=false)∨((fU D (at_:Int) ss).2≠0∧(fU D (at_:Int) ss).1.down=true))
 | [],D,at_,hD,hd,_,_=>⟨hD,by simp[fU],.inl ⟨rfl,hd⟩⟩
 |s::r,D,at_,hD,hd,hs,hl=>by
  have qg:=hs s SI;simp only[List.length_cons]at hl;have hg:¬((at_:Int) <0∨2048<=(at_:Int)∨64<s.length):=by omega
  by_cases hz:D.armed=true∧D.left=0
  ·have e:bA D (at_:Int) s=({D with down:=true},4):=by simp_all[bA]
   rw[fU,e,if_neg OM];exact⟨⟨hD.Yg,hD.Yh,hD.l0⟩,by simp,.inr ⟨by omega,rfl⟩⟩
  ·have e:bA D (at_:Int) s=({D with left:=if D.armed then D.left-1 else D.left,waits:=D.waits++[((at_:Int),pad s)]},0):=by simp_all[bA,if_neg]
   have hD2:=xK hD (at_:Int) (bs:=s);rw[fU,e,if_pos rfl];rw[e]at hD2;have ih:=Nb r _ (at_+1) hD2 hd (λx hx=>hs x (by simp[hx])) OM
   grind
theorem Qp{n}(h:n<=3000):1<=aP n∧aP n<=58:=by
 grind[aP]
theorem VF{D cnt used}(h:Cm D cnt used)(b):Cm (bW D cnt used b).1 (bW D cnt used b).2.1 (bW D cnt used b).2.2.1:=by
 unfold bW
 split
 ·exact h
 ·split
  ·exact h
  ·have hp:=Qp (n:=b.length) OM
   obtain⟨hS1,hS2⟩:=Ad (cnt+1) b (N:=aP b.length);generalize dB (cnt+1) b (aP b.length)=ss at hS1 hS2|-;by_cases hd:D.down=true
   ·have e:fU D (used:Int) ss=(D,4):=by
     match ss,hS1 with
     | [],hS1=>grind
     |s::r,_=>
      grind[fU.eq_2,Na]
    grind
   ·have hw:D.waits=[]:=h.rest.resolve_left hd
    have hk:=Nb ss D used h.ok (by grind) hS2 OM;have hu:=h.u;have hc:=h.cu;rcases hk.2.2 with⟨h0,hdn⟩ | ⟨h0,hdn⟩
    ·rw[if_pos h0]
     have hs:=EF hk.1;have e:cZ (fU D (used:Int) ss).1=({(fU D (used:Int) ss).1 with sure:=lF (fU D (used:Int) ss).1.sure (fU D (used:Int) ss).1.waits,waits:=[]},0):=by simp_all[cZ]
     rw[e]at hs|-;exact⟨hs,by grind,by grind,by simp,.inr rfl⟩
    ·rw[if_neg h0]
     exact⟨hk.1,hc,hu,by grind,.inl hdn⟩
theorem gJ{w0 w'}{bs:List UInt8}(h1:1<=bs.length){e:Ending}(h:∃ad cd,e=.returned (.slice ad bs.length cd)∧bs.length<=2000∧Inv [] w0 w' [bD 5 1 (.slice ad bs.length cd) bs.length (bs.map bv)]):
  ∃g cd,e=.returned (.slice (some ⟨g,0,none⟩) bs.length cd)∧1<=bs.length∧bs.length<=2000∧bs.length<=cd∧Inv [] w0 w' [bD 5 1 (.slice (some ⟨g,0,none⟩) bs.length cd) bs.length (bs.map bv)]:=by
 obtain⟨ad,cd,he,hl,hI⟩:=h;obtain⟨g,rfl⟩:=gZ hI aC (by grind);exact⟨g,cd,he,h1,hl,ED hI aC,hI⟩
theorem iF(z zs l):1<=(ah (z::zs)++l).length:=by
 grind[Ff,ah,jH]
theorem FI(z zs):1<=(ah (z::zs)).length:=by
 grind[Ff,ah,jH]
theorem adB(w0)(x:Rec)(hx:x.Len):Calls prog 151 #[ia x.nX] w0 λe w'=>∃g cd,e=.returned (.slice (some ⟨g,0,none⟩) x.W.length cd)∧1<=x.W.length∧x.W.length<=2000∧x.W.length<=cd∧Inv [] w0 w' [bD 5 1 (.slice (some ⟨g,0,none⟩) x.W.length cd) x.W.length (x.W.map bv)]:=by
 have n2:=ag 2;have n3:=ag 3;have n7:=ag 7;have n174:=ag 174;cases x with
 |row r=>exact(agO w0 0 r 0 (au 2) (au 3) (au 7) hx n2 n3 n7).mono λe w' h=>gJ (iF _ _ _) h
 |cz w r=>exact(agP w0 w r 0 (au 2) (au 3) (au 7) hx.2 n2 n3 n7).mono λe w' h=>gJ (iF _ _ _) h
 |aZ w=>exact(agQ w0 w (au 174) 0 (au 2) (au 3) (au 7) n174 n2 n3 n7).mono λe w' h=>gJ (FI _ _) h
 |qH ep b=>exact(agR w0 0 (au 174) ep b (au 3) (au 7) n174 hx n3 n7).mono λe w' h=>gJ (iF _ _ _) h
 |take ep b c=>exact(agS w0 0 (au 174) ep b c (au 7) n174 hx.1 hx.2 n7).mono λe w' h=>gJ (by show 1<=(Zz ep b c).length;grind[Zz,iF]) h
 |view v=>exact(agT w0 0 (au 174) 0 (au 2) (au 3) v n174 n2 n3 hx).mono λe w' h=>gJ (iF _ _ _) h
theorem adC(w0)(x:gQ)(hx:x.Len):Calls prog 215 #[ia x.nX] w0 λe w'=>∃g cd,e=.returned (.slice (some ⟨g,0,none⟩) x.W.length cd)∧1<=x.W.length∧x.W.length<=2000∧x.W.length<=cd∧Inv [] w0 w' [bD 5 1 (.slice (some ⟨g,0,none⟩) x.W.length cd) x.W.length (x.W.map bv)]:=by
 have n2:=ag 2;have n3:=ag 3;have n7:=ag 7;have n174:=ag 174;cases x with
 |row w r=>exact(agU w0 w r 0 0 (au 2) (au 2) (au 3) (au 7) hx.2 n2 n2 n3 n7).mono λe w' h=>gJ (iF _ _ _) h
 |kept n=>exact(agV w0 0 (au 174) n 0 (au 2) (au 2) (au 3) (au 7) n174 n2 n2 n3 n7).mono λe w' h=>gJ (FI _ _) h
 |news w r=>exact(agW w0 w r 0 0 (au 2) (au 2) (au 3) (au 7) hx.2 n2 n2 n3 n7).mono λe w' h=>gJ (iF _ _ _) h
 |ask ep b=>exact(agX w0 0 (au 174) 0 ep b (au 2) (au 3) (au 7) n174 hx n2 n3 n7).mono λe w' h=>gJ (iF _ _ _) h
 |promise ep b h c=>exact(agY w0 0 (au 174) 0 ep b h c (au 7) n174 hx.1 hx.2.1 hx.2.2 n7).mono λe w' h=>gJ (by show 1<=(Tg ep b _ c).length;grind[Tg,iF]) h
 |put ep b c=>exact(agZ w0 0 (au 174) 0 ep b (au 2) c (au 7) n174 hx.1 n2 hx.2 n7).mono λe w' h=>gJ (by show 1<=(Ti ep b c).length;grind[Ti,iF]) h
 |taken ep b=>exact(ag0 w0 0 (au 174) 0 ep b (au 2) (au 3) (au 7) n174 hx n2 n3 n7).mono λe w' h=>gJ (iF _ _ _) h
 |view v=>exact(ag1 w0 0 (au 174) 0 0 (au 2) (au 2) (au 3) v n174 n2 n2 n3 hx).mono λe w' h=>gJ (iF _ _ _) h
 |aZ w v=>exact(ag2 w0 w (au 174) 0 0 (au 2) (au 2) (au 3) v n174 n2 n2 n3 hx.2).mono λe w' h=>gJ (iF _ _ _) h
 |d_ w r=>exact(ag3 w0 w r 0 0 (au 2) (au 2) (au 3) (au 7) hx.2 n2 n2 n3 n7).mono λe w' h=>gJ (iF _ _ _) h
section
variable {T:List Nat}{w0 w w':World}{m m':List bT}{r r' x x' y y' z:bT}
theorem Tv{f b l vb rc ra}(S D cnt used B):rb f b l vb ra rc {S with D:=D,cnt:=cnt,used:=used,B:=B}=rb f b l vb ra rc S:=by
 have e:bB {S with D:=D,cnt:=cnt,used:=used,B:=B}=bB S:=propext ⟨λh=>⟨h.view,h.own,h.aT,h.sl,h.acc,h.book,h.told,h.last,h.aB⟩,λh=>⟨h.view,h.own,h.aT,h.sl,h.acc,h.book,h.told,h.last,h.aB⟩⟩;unfold rb;rw[e];rfl
theorem adD(hI:Inv T w0 w (y::m))(hm:x∈m):Inv (two x y).own w w [two x y]:=by
 obtain⟨m1,m2,rfl⟩:=List.append_of_mem hm;have h:Inv T w0 w (x::(y::m1++m2)):=Inv.bring (l1:=y::m1) hI;exact(h.eX (x:=x) (r:=y) (m:=m1++m2)).at_ aC
theorem adE(hI:Inv T w0 w (y::m))(hJ:Inv (two x y).own w w' [two x' y'])(hu:aU x x' m m'):Inv T w0 w' (y'::m'):=by
 obtain⟨m1,m2,rfl,rfl⟩:=hu.split;have h:Inv T w0 w (x::(y::m1++m2)):=Inv.bring (l1:=y::m1) hI;have h2:Inv T w0 w' (x'::(y'::m1++m2)):=((h.eX (x:=x) (r:=y) (m:=m1++m2)).on hJ jR).dR
 grind[Inv.sink]
variable {X:RX}{Y:RY}{S:RS}
theorem adF(h:Inv T w0 w [two (aj X Y S) y]):Inv T w0 w [two (lg X.l X.d X.mr Y.wb S.D S.cnt S.used) y,nZ (Cm S.D S.cnt S.used),two (ZI X Y.q S.B) (blk X.cb 86 X.cc),nT Y.ra Y.rc S.aX,rb X.f X.b X.l Y.vb Y.ra Y.rc S]:=by
 have h1:=h.dR.dR.jS.dR.jS.dR.dR.jS;exact(Inv.bring (l1:=[_,_,_,_,_]) h1).jS.eX
theorem ZX{S2 wb}(h:Inv T w0 w [two (lg X.l X.d X.mr wb S2.D S2.cnt S2.used) y,nZ (Cm S2.D S2.cnt S2.used),two (ZI X Y.q S2.B) (blk X.cb 86 X.cc),nT Y.ra Y.rc S2.aX,rb X.f X.b X.l Y.vb Y.ra Y.rc S2]):Inv T w0 w [two (aj X {Y with wb:=wb} S2) y]:=by
 have h1:Inv T w0 w ([_,_,_,_,_]++[y]):=(Inv.bring (l1:=[_]) h.dR).toEnd;exact(h1.jS.eX.eX.jS.eX.jS.eX).eX
theorem ZY{g cp n b}(hI:Inv T w0 w (bD 5 1 (.slice (some ⟨g,0,none⟩) n cp) n (b.map bv)::m))(hm:aj X Y S∈m)(hn:b.length=n)(hc:n<=cp)(hl1:1<=n):
  Calls prog 150 #[.pointer (some ⟨X.l,0,none⟩),.slice (some ⟨g,0,none⟩) n cp] w λe w'=>∃nu,e=.returned (.int .i64 (bW S.D S.cnt S.used b).2.2.2)∧
   ∀m',aU (aj X Y S) (aj X {Y with wb:=nu} {S with D:=(bW S.D S.cnt S.used b).1,cnt:=(bW S.D S.cnt S.used b).2.1,used:=(bW S.D S.cnt S.used b).2.2.1}) m m'->Inv T w0 w' (bD 5 1 (.slice (some ⟨g,0,none⟩) n cp) n (b.map bv)::m'):=by
 subst hn;have hP:=adD hI hm;have hQ:=adF hP;have hO:Cm S.D S.cnt S.used:=hQ.sat (nZ (Cm S.D S.cnt S.used)) SI;have hcu:=hO.cu;have hu:=hO.u;have hw:=hO.w60;refine(acW w X.l X.d X.mr Y.wb S.D S.cnt S.used _ (hQ.at_ aC) hO.ok OM OM hu g 0 cp b (λw h=>jD h) hc hl1).mono ?_;rintro e w' ⟨nu,rfl,hJ⟩;refine⟨nu,rfl,λm' hu=>adE hI ?_ hu⟩;have h2:=hQ.on hJ jR;have h3:=(Inv.bring (l1:=[_]) h2).IE (λ_=>VF hO b)
 simp_all[Tv,ZX,Inv.jS]
end
section
variable (w0:World)(X:RX)(Y:RY)(S:RS)
theorem afA(x)(hx:x.Len)(hI:Inv (aj X Y S).own w0 w0 [aj X Y S]):Calls prog 108 #[.pointer (some ⟨X.b,0,none⟩),ia x.nX] w0 λe w'=>∃nu,e=.returned (.int .i64 (cK S x).2)∧Inv (aj X Y S).own w0 w' [aj X {Y with wb:=nu} (cK S x).1]:=by
 have hxl:x.nX.length=189:=by
  cases x<;>simp only[Rec.Len]at hx<;>simp only[Rec.nX,bf,List.length_append,List.length_cons,List.length_nil,ag]<;>omega
 go_enter func108,ntmps108;go_upto_region 1 with(refine YX ?_;intro bx w hI)
 (refine ZR [5,6,7] [0,1,2,3] [5] [0,1,2,3,4,5,6,7] (λw=>Inv (aj X Y S).own w0 w [ib bx 143 x.nX,aj X Y S]) hI ?_;intro wd hI)
 (repeat(first| (refine ZA ?_;go_wp2_with(go_at_call 150;(with_reducible refine(ZY hI aM rfl hn2 hn1).mono ?_);rintro e w1 ⟨nu,rfl,hJ⟩;replace hI:=hJ _ jo;clear hJ);refine gz ?_) | (refine ZB ?_;go_wp2_with(go_at_call 151;(with_reducible refine(adB _ x hx).mono ?_);rintro e w1 ⟨g,cd,rfl,hn1,hn3,hn2,hJ⟩;replace hI:=hI.seq hJ;simp only[List.cons_append,List.nil_append]at hI;clear hJ);(refine iU (hI.sub SB) ?_)) | (refine ZC ?_;go_wp2_with(refine YL ?_);refine fZ ?_) | ((refine iA RF RF RF RF (hI.sub SB) (by intro w (hI:Inv _ _ w _);first|with_reducible exact Sd hI| (unfold gu;go_simp;with_reducible rfl)) ?_);(simp only[QN]))));refine dN ?_
 go_wp2_with(fail);go_ret;exact⟨nu,rfl,hI.sub (.cons _ (.cons _ (.refl _)))⟩
end
end
section
open A (QE kE bU)
section
variable {T:List Nat}{w0 w w':World}{m m':List bT}{X:RX}{Y:RY}{S:RS}
theorem aha(hI:Inv T w0 w m)(hm:aj X Y S∈m):w.heap[X.cb]? =some (.cells X.cc.toArray 86 (0,0)):=(hI.sat _ hm).2.2.2.2
theorem Qq{P a dst x}{t ty off:Nat}{pos af gd v}(hI:Inv T w0 w m)(hx:a.eval x=.pointer (some ⟨X.cb,off,none⟩))(hm:aj X Y S∈m)(hT:iY P t)(hv:X.cc[off]? =some v):
  gu P ⟨dst,.load t x,ty,pos,af,gd⟩ a w v:=by
 unfold gu execOp;simp only[hx,Instr.loadAt,Instr.sureAddr,Sem.run_bind,Sem.run_pure,Result.andThen_ok,ik (v:=v) hT (aha hI hm) off hv]
theorem ZZ(hI:Inv T w0 w m)(hm:aj X Y S∈m):Calls prog 61 #[.pointer (some ⟨X.d,0,none⟩)] w λe w'=>e=.returned (.bool S.D.down)∧w'=w:=
 H5 w X.d X.mr Y.wb S.D (hI.sat _ hm).2.2.1.2.2
theorem adG(hI:Inv T w0 w m)(hm:aj X Y S∈m):(∀i,(Y.q i).map (λx=>x.2.2)=S.B i)∧Inv (kE 132 X.p X.pb X.c Y.q).own w w [kE 132 X.p X.pb X.c Y.q]∧
  ∀ {w' q' B'},Inv (kE 132 X.p X.pb X.c Y.q).own w w' [kE 132 X.p X.pb X.c q']->(∀i,(q' i).map (λx=>x.2.2)=B' i)->∀m',aU (aj X Y S) (aj X {Y with q:=q'} {S with B:=B'}) m m'->Inv T w0 w' m':=by
 have hP:=hI.at_ hm;have h1:=kG hP aC;have h2:=kG h1 aC;have h3:=kG h2 aC;have h4:=sW h3 aC;have h5:=kG h4 aC;refine⟨(h4.sat _ aC).1,h5,λ{w' q' B'} hJ hB m' hu=>?_⟩;have k4:Inv (ZI X Y.q S.B).own w w' [ZI X q' B']:=(xS h4 hJ jR).alD (λ_=>hB);have k3:=Am h3 k4 jR;have k2:=xS h2 k3 jR;have k1:=xS h1 k2 jR
 grind[xS,Tv]
theorem adH{t a cp bs}(hI:Inv T w0 w m)(hX:Bd X)(ht:t<5)(hft:X.f≠t)(hr:Rd w a (bs.map bv))(hl:bs.length<=3000)(hm:aj X Y S∈m):
  Calls prog 214 #[.pointer (some ⟨X.p,0,none⟩),.int .i64 (X.f:Int),.int .i64 (t:Int),.slice a bs.length cp] w λe w'=>∃q' b,e=.returned (.bool b)∧
   ∀m',aU (aj X Y S) (aj X {Y with q:=q'} {S with B:=gV S.B (X.f*5+t) (wK (S.B (X.f*5+t)) (A.jY (UInt8.ofNat X.f) (UInt8.ofNat t) bs))}) m m'->Inv T w0 w' m':=by
 obtain⟨hB,h5,up⟩:=adG hI hm;have hlen:(Y.q (X.f*5+t)).length=(S.B (X.f*5+t)).length:=by grind
 by_cases hroom:(Y.q (X.f*5+t)).length <8
 ·refine(A.adi w X.p X.pb X.c Y.q X.f t _ hX.f5 ht rfl hft h5 a cp bs hr hl hroom).mono ?_
  rintro e w' ⟨rfl,a1,c1,hJ⟩;refine⟨_,true,rfl,up hJ λi=>?_⟩;exact ajd
 ·refine(A.P6 w X.p X.pb X.c Y.q X.f t _ hX.f5 ht rfl hft h5 a cp bs hr hl OM).mono ?_
  rintro e w' ⟨rfl,hJ⟩;refine⟨Y.q,false,rfl,up hJ λi=>?_⟩;exact ajd
end
section
variable (w0:World)(X:RX)(Y:RY)(S:RS)(hX:Bd X)
include hX
theorem ahb(M)(hM:M.Len)(t)(pX:t<5)(hft:X.f≠t)(hI:Inv (aj X Y S).own w0 w0 [aj X Y S]):Calls prog 213 #[.agg #[.pointer (some ⟨X.cb,0,none⟩),.int .i64 (X.f:Int)],.int .i64 (t:Int),ia M.nX] w0 λe w'=>∃q',e=.returned (.tuple #[])∧Inv (aj X Y S).own w0 w' [aj X {Y with q:=q'} (dS X.f S t M)]:=by
 have Dj:M.nX.length=192:=by
  cases M<;>simp only[gQ.Len]at hM<;>simp only[gQ.nX,aF,List.length_append,List.length_cons,List.length_nil,ag]<;>omega
 have uR:=hX.f5;have hf0:(X.f:Int) <5:=by omega
 have hfn:(X.f:Int).toNat=X.f:=by simp
 cases hdn:S.D.down
 ·have hF:Hid (dS X.f S t M={S with B:=gV S.B (X.f*5+t) (wK (S.B (X.f*5+t)) (A.jY (UInt8.ofNat X.f) (UInt8.ofNat t) M.W))}):=HD (by rw[dS,if_neg (by rw[hdn];simp)])
  rw[hF.out];clear hF;go_enter func213,ntmps213;go_upto_region 1 with(first|(with_reducible refine bX (cs:=[.pointer (some ⟨X.cb,0,none⟩),.int .i64 (X.f:Int)]) hI RF ?_;intro bo w hI)|refine YX ?_;intro bx w hI)
  refine ZT [6,7,8,9] 10 hI ?_;intro wd hI
  (repeat(refine ZQ ?_;go_wp2_with(first|with_reducible refine av (Qq hI RF a_ aQ.out hX.fB) ?_|go_at_call 61;refine KR (ZZ hI a_) ?_;(rw[hdn])|refine YL ?_);refine ZP ?_))
  go_upto_region 2 with(fail)
  (refine ZR [9,10] [0,1,2,3,4,5,6,7] [9] [0,1,2,3,4,5,6,7,8,9,10] (λw=>Inv (aj X Y S).own w0 w [ib bx 158 M.nX,blk bo 105 [.pointer (some ⟨X.cb,0,none⟩),.int .i64 (X.f:Int)],aj X Y S]) hI ?_;intro wd hI)
  (repeat(first| (refine ZA ?_;go_wp2_with(go_at_call 214;(with_reducible refine(adH hI hX pX hft (hI.rd aC) OM nz).mono ?_);rintro e w1 ⟨q',bq,rfl,hJ⟩;replace hI:=hJ _ WQ;clear hJ);refine gz ?_) | (refine ZB ?_;go_wp2_with(go_at_call 215;(with_reducible refine(adC _ M hM).mono ?_);rintro e w1 ⟨g,cd,rfl,hn1,hn3,hn2,hJ⟩;replace hI:=hI.seq hJ;simp only[List.cons_append,List.nil_append]at hI;clear hJ);(refine iU (hI.sub SB) ?_)) | (refine ZC ?_;go_wp2_with(refine YL ?_);refine fZ ?_) | ((refine iA RF RF RF RF (hI.sub SB) (by intro w (hI:Inv _ _ w _);first| (with_reducible exact Qq hI RF a_ aQ.out hX.net) | (with_reducible exact afX hI) | (unfold gu;go_simp;with_reducible rfl)) ?_);(simp only[QN]))));refine dN ?_
  go_wp2_with(fail);exact⟨rfl,_,h_ KF _ _,q',rfl,hI.sub (.cons _ (.cons _ (.cons _ (.refl _))))⟩
 ·have hF:Hid (dS X.f S t M=S):=HD (by rw[dS,if_pos hdn])
  rw[hF.out];clear hF;go_enter func213,ntmps213;go_upto_region 1 with(first|(with_reducible refine bX (cs:=[.pointer (some ⟨X.cb,0,none⟩),.int .i64 (X.f:Int)]) hI RF ?_;intro bo w hI)|refine YX ?_;intro bx w hI)
  refine ZT [6,7,8,9] 10 hI ?_;intro wd hI
  (repeat(refine ZQ ?_;go_wp2_with(first|with_reducible refine av (Qq hI RF a_ aQ.out hX.fB) ?_|go_at_call 61;refine KR (ZZ hI a_) ?_;(rw[hdn])|refine YL ?_);refine ZP ?_))
  go_wp2_with(fail);exact⟨rfl,_,h_ KF _ _,Y.q,rfl,hI.sub (.cons _ (.cons _ (.refl _)))⟩
end
end
section
open A (QE kE bU)
def oV(X:RX):Value:=.iface 105 (.agg #[.pointer (some ⟨X.cb,0,none⟩),.int .i64 (X.f:Int)])
theorem adI(w X):(binOp .neq 148 (oV X) .nilIface).run prog w=.ok (.bool true) w:=by rfl
theorem ahc{a w x y dst ty t' pos af gd X}(hx:a.eval x=oV X)(hy:a.eval y=.nilIface):gu prog ⟨dst,.binOp .neq 148 x y t',ty,pos,af,gd⟩ a w (.bool true):=by
 unfold gu execOp;have hg:(eqGuard BinOp.neq 148 x y (oV X) Value.nilIface).run prog w=.ok () w:=by simp[eqGuard,oV,Sem.run_bind,Sem.run_pure]
 simp_all[adI]
theorem VG(w)(X:RX):(method 385 105 (.agg #[.pointer (some ⟨X.cb,0,none⟩),.int .i64 (X.f:Int)]) "Send").run prog w=.ok (213,.agg #[.pointer (some ⟨X.cb,0,none⟩),.int .i64 (X.f:Int)]) w:=by kernel_rfl
section
variable (w0:World)(X:RX)(Y:RY)(S:RS)(hX:Bd X)
include hX
theorem Tw(M)(hM:M.Len)(t)(pX:t<5)(hft:X.f≠t)(hI:Inv (aj X Y S).own w0 w0 [aj X Y S]):Calls prog 122 #[.pointer (some ⟨X.b,0,none⟩),oV X,.int .i64 (t:Int),ia M.nX] w0 λe w'=>∃Y',e=.returned (.tuple #[])∧Inv (aj X Y S).own w0 w' [aj X Y' (dS X.f S t M)]:=by
 have Dj:M.nX.length=192:=by
  cases M<;>simp only[gQ.Len]at hM<;>simp only[gQ.nX,aF,List.length_append,List.length_cons,List.length_nil,ag]<;>omega
 have hne:((t:Int)==(X.f:Int))=false:=by simp;omega
 have hm:=λw=>VG w X
 have hoo:Hid (oV X=.iface 105 (.agg #[.pointer (some ⟨X.cb,0,none⟩),.int .i64 (X.f:Int)])):=HD rfl;rw[hoo.out];go_enter func122,ntmps122;go_wp2_with(first|refine YL ?_|refine YX ?_;intro bx w hI|with_reducible refine av (ahc (X:=X) RF RF) ?_|go_at_call 213;go_loud (with_reducible refine(ahb _ X Y S hX M hM t pX hft (hI.at_ aM)).mono ?_);rintro e w1 ⟨q',rfl,hJ⟩;replace hI:=hI.on hJ jo;clear hJ);exact⟨rfl,_,h_ KF _ _,_,rfl,hI.tl⟩
end
end
section
open A (QE kE bU)
section
variable {w n e:Int}{r b h c v:List Int}
theorem FJ(l):ay (au 192) l=ay (aF 0 0 (au 174) 0 0 (au 2) (au 2) (au 3) (au 7)) l:=by rw[fC]
theorem Tx(k)(hr:r.length=174):ay (au 192) [(0,[k]),(1,[w]),(2,r)]=aF k w r 0 0 (au 2) (au 2) (au 3) (au 7):=by
 grind[FJ,ay,bR,DN,fK,ag]
theorem Z0:ay (au 192) [(0,[1]),(176,[n])]=(gQ.kept n).nX:=by
 rfl
theorem XJ(hv:v.length=7):ay (au 192) [(0,[7]),(185,v)]=(gQ.view v).nX:=by
 rw[FJ];simp only[ay];rw[bR,fu (ag 174) (ag 2) (ag 2) (ag 3) (ag 7) hv];rfl
theorem ahd(hv:v.length=7):ay (au 192) [(0,[8]),(1,[w]),(185,v)]=aF 8 w (au 174) 0 0 (au 2) (au 2) (au 3) v:=by
 grind[FJ,ay,bR,DN,fu,ag]
theorem Nc(k)(hb:b.length=2):ay (au 192) [(0,[k]),(177,[e]),(178,b)]=aF k 0 (au 174) 0 e b (au 2) (au 3) (au 7):=by
 grind[FJ,ay,bR,DR,ag,fo]
theorem II(hb:b.length=2)(hh:h.length=2)(hc:c.length=3):ay (au 192) [(0,[4]),(177,[e]),(178,b),(180,h),(182,c)]=(gQ.promise e b h c).nX:=by
 rw[FJ];simp only[ay];rw[bR,DR (ag 174),fo (ag 174) (ag 2) hb,fM (ag 174) hb (ag 2) hh,fq (ag 174) hb hh (ag 3) hc];rfl
end
theorem VH(f S t M):∃B,dS f S t M={S with B:=B}:=by
 unfold dS
 split
 all_goals grind
theorem uh(w0 X Y S)(hX:Bd X)(M)(hM:M.Len)(z)(hz:z=M.nX)(t)(pX:t<5)(hft:X.f≠t)(hI:Inv (aj X Y S).own w0 w0 [aj X Y S]):Calls prog 122 #[.pointer (some ⟨X.b,0,none⟩),oV X,.int .i64 (t:Int),ia z] w0 λe w'=>∃Y' B',e=.returned (.tuple #[])∧Hid (dS X.f S t M={S with B:=B'})∧Inv (aj X Y S).own w0 w' [aj X Y' {S with B:=B'}]:=by
 subst hz;refine(Tw w0 X Y S hX M hM t pX hft hI).mono ?_;rintro e w' ⟨Y',rfl,hJ⟩;obtain⟨B',hB⟩:=VH X.f S t M;rw[hB]at hJ
 grind[Go.Lib.hid]
def nN(p:Nat->Bool)(g:RS->Nat->RS)(S:RS)(j:Nat):RS:=((List.range j).filter p).foldl g S
theorem yS(p g S j):nN p g S (j+1)=if p j=true then g (nN p g S j) j else nN p g S j:=by
 unfold nN;rw[List.range_succ,List.filter_append,List.foldl_append]
 grind
section
variable (w0:World)(X:RX)(Y:RY)(S:RS)(hX:Bd X)
include hX
theorem Qr(v)(hv:v.length=7)(hI:Inv (aj X Y S).own w0 w0 [aj X Y S]):Calls prog 81 #[.pointer (some ⟨X.b,0,none⟩),oV X,ia v] w0 λe w'=>∃Y' B',e=.returned (.tuple #[])∧Hid (ig X.f S v={S with B:=B'})∧Inv (aj X Y S).own w0 w' [aj X Y' {S with B:=B'}]:=by
 have uR:=hX.f5;obtain⟨M,hM0⟩:=EZ (gQ.view v);have hM:M.Len:=by rw[hM0];exact hv
 have hz:Hid (ay (au 192) [(0,[7]),(185,v)]=M.nX):=HD (by rw[hM0];exact XJ hv);have hfin:Hid (ig X.f S v=nN (λi=>i≠X.f) (λS i=>dS X.f S i M) S 5):=HD (by rw[hM0];rfl);clear hM0;go_enter func81,ntmps81;go_upto_region 2 with(refine YX ?_;intro bx w hI)
 go_loopg [6,7] 5 (λkk s6 s7 wr=>∃(j:Nat) (Y1:RY) (B1:Nat->List (List UInt8)),kk=5-j∧j<=5∧s7=.int .i64 (j:Int)∧Hid (nN (λi=>i≠X.f) (λS i=>dS X.f S i M) S j={S with B:=B1})∧Inv (aj X Y S).own w0 wr [ib bx 30 v,aj X Y1 {S with B:=B1}])
 case atStart=>exact⟨0,Y,S.B,rfl,by omega,rfl,HD rfl,hI⟩
 case round=>
  clear hI;obtain⟨j,Y1,B1,rfl,hj,rfl,hB1,hI⟩:=hrel;by_cases GV:j<5
  ·have hs:=HD (yS (λi=>i≠X.f) (λS i=>dS X.f S i M) S j)
   by_cases Si:j=X.f
   ·have hq:((j:Int) != (X.f:Int))=false:=by simp[Si]
    have hs2:Hid (nN (λi=>i≠X.f) (λS i=>dS X.f S i M) S (j+1)={S with B:=B1}):=HD (by rw[hs.out,if_neg (by simp[Si]),hB1.out]);clear hs hB1 Si;go_wp2_with(refine YL ?_);go_roundg (5- (j+1))
    case measure=>omega
    case rel=>exact⟨j+1,Y1,B1,rfl,by omega,by go_num,hs2,hI⟩
   ·have hq:((j:Int) != (X.f:Int))=true:=by simp;omega
    have hs2:Hid (nN (λi=>i≠X.f) (λS i=>dS X.f S i M) S (j+1)=dS X.f {S with B:=B1} j M):=HD (by rw[hs.out,if_pos (by simpa using Si),hB1.out]);clear hs hB1;go_wp2_with(first|refine YL ?_|go_at_call 122;refine KJ hI (uh _ X Y1 {S with B:=B1} hX M hM _ hz.out j OM OM (hI.at_ aM)) ?_;intro Y2 B2 w1 hB2 hI);go_roundg (5- (j+1))
    case measure=>omega
    case rel=>exact⟨j+1,Y2,B2,rfl,by omega,by go_num,HD (by rw[hs2.out,hB2.out]),hI⟩
  ·obtain rfl:j=5:=by omega
   go_wp2_with(fail);exact⟨rfl,_,h_ KF _ _,Y1,B1,rfl,HD (by rw[hfin.out,hB1.out]),hI.tl⟩
theorem Qs(x)(hx:x.length=174)(hI:Inv (aj X Y S).own w0 w0 [aj X Y S]):Calls prog 82 #[.pointer (some ⟨X.b,0,none⟩),oV X,ia x] w0 λe w'=>∃Y' B',e=.returned (.tuple #[])∧Hid (fV X.f S x={S with B:=B'})∧Inv (aj X Y S).own w0 w' [aj X Y' {S with B:=B'}]:=by
 have uR:=hX.f5;obtain⟨M,hM0⟩:=EZ (gQ.news X.f x);have hM:M.Len:=by rw[hM0];exact⟨uR,hx⟩
 have hz:Hid (ay (au 192) [(0,[2]),(1,[(X.f:Int)]),(2,x)]=M.nX):=HD (by rw[hM0];exact Tx 2 hx);have hfin:Hid (fV X.f S x=nN (λi=>i≠X.f) (λS i=>dS X.f S i M) S 5):=HD (by rw[hM0];rfl);clear hM0;go_enter func82,ntmps82;go_upto_region 2 with(refine YX ?_;intro bx w hI)
 go_loopg [6,7] 5 (λkk s6 s7 wr=>∃(j:Nat) (Y1:RY) (B1:Nat->List (List UInt8)),kk=5-j∧j<=5∧s7=.int .i64 (j:Int)∧Hid (nN (λi=>i≠X.f) (λS i=>dS X.f S i M) S j={S with B:=B1})∧Inv (aj X Y S).own w0 wr [ib bx 41 x,aj X Y1 {S with B:=B1}])
 case atStart=>exact⟨0,Y,S.B,rfl,by omega,rfl,HD rfl,hI⟩
 case round=>
  clear hI;obtain⟨j,Y1,B1,rfl,hj,rfl,hB1,hI⟩:=hrel;by_cases GV:j<5
  ·have hs:=HD (yS (λi=>i≠X.f) (λS i=>dS X.f S i M) S j)
   by_cases Si:j=X.f
   ·have hq:((j:Int) != (X.f:Int))=false:=by simp[Si]
    have hs2:Hid (nN (λi=>i≠X.f) (λS i=>dS X.f S i M) S (j+1)={S with B:=B1}):=HD (by rw[hs.out,if_neg (by simp[Si]),hB1.out]);clear hs hB1 Si;go_wp2_with(refine YL ?_);go_roundg (5- (j+1))
    case measure=>omega
    case rel=>exact⟨j+1,Y1,B1,rfl,by omega,by go_num,hs2,hI⟩
   ·have hq:((j:Int) != (X.f:Int))=true:=by simp;omega
    have hs2:Hid (nN (λi=>i≠X.f) (λS i=>dS X.f S i M) S (j+1)=dS X.f {S with B:=B1} j M):=HD (by rw[hs.out,if_pos (by simpa using Si),hB1.out]);clear hs hB1;go_upto_region 5 with(refine YL ?_)
    refine ZT [9] 10 hI ?_;intro wd hI
    (repeat(refine ZQ ?_;go_wp2_with(first|go_at_call 122;refine KJ hI (uh _ X Y1 {S with B:=B1} hX M hM _ hz.out j OM OM (hI.at_ aM)) ?_;intro Y2 B2 w1 hB2 hI|refine YL ?_);refine ZP ?_))
    go_wp2_with(fail);go_roundg (5- (j+1))
    case measure=>omega
    case rel=>exact⟨j+1,Y2,B2,rfl,by omega,by go_num,HD (by rw[hs2.out,hB2.out]),hI⟩
  ·obtain rfl:j=5:=by omega
   go_wp2_with(fail);exact⟨rfl,_,h_ KF _ _,Y1,B1,rfl,HD (by rw[hfin.out,hB1.out]),hI.tl⟩
end
end
section
open A (QE kE bU)
def iN(n:Nat):Value:=.int .i64 (n:Int)
theorem yA(w)(i:Nat)(hi:i<5):Calls prog 121 #[.int .i64 (i:Int)] w λe w'=>∃g c,e=.returned (.slice (some ⟨g,0,none⟩) 2 c)∧Inv [] w w' [bD 3 1 (.slice (some ⟨g,0,none⟩) 2 c) 2 ((eU i).map iN)]:=by
 grind[adz,B.aL,gZ,Qn,eU,iN]
theorem Bv(x j):(bits BinOp.and IntKind.i64 (x/2^j) 1==0)= !bt x j:=by
 grind[Eh,bt.eq_1]
theorem Bw{α β:Type}(g:α->β->α)(S)(l:List β)(j x)(h:l[j]? =some x):(l.take (j+1)).foldl g S=g ((l.take j).foldl g S) x:=by
 grind[List.take_add_one]
section
variable (w0:World)(X:RX)(Y:RY)(S:RS)(hX:Bd X)
include hX
theorem IJ(hI:Inv (aj X Y S).own w0 w0 [aj X Y S]):Calls prog 78 #[.pointer (some ⟨X.b,0,none⟩),oV X] w0 λe w'=>∃Y' B',e=.returned (.tuple #[])∧Hid (jf X.f S={S with B:=B'})∧Inv (aj X Y S).own w0 w' [aj X Y' {S with B:=B'}]:=by
 have uR:=hX.f5;have hL:=aS hI aC;have hown:=hL.own;clear hL;obtain⟨M,hM0⟩:=EZ (gQ.row X.f S.own);have hM:M.Len:=by rw[hM0];exact⟨uR,hown⟩
 have hz:Hid (ay (au 192) [(0,[0]),(1,[(X.f:Int)]),(2,S.own)]=M.nX):=HD (by rw[hM0];exact Tx 0 hown);have Dj:M.nX.length=192:=by rw[<-hz.out,Tx 0 hown];simp only[aF,List.length_append,List.length_cons,List.length_nil,ag];omega
 obtain⟨G,hG0⟩:∃G:RS->Nat->RS,G=λS w=>if bt S.kept w=true then S else dS X.f S w (.row X.f S.own):=⟨_,rfl⟩
 have hG:Hid (∀B w,G {S with B:=B} w=if bt S.kept w=true then {S with B:=B}else dS X.f {S with B:=B} w M):=HD (λB w=>by rw[hG0,hM0]);have hfin:Hid (jf X.f S=((eU X.f).take 2).foldl G S):=HD (by rw[hG0];rfl);clear hM0 hG0;go_enter func78,ntmps78;go_upto_region 0 with(fail)
 (refine ZR [9,10] [0,1,2,3,4,5,6,7,8] [9] [0,1,2,3,4,5,6,7,8,9,10] (λw=>Inv (aj X Y S).own w0 w [aj X Y S]) hI ?_;intro wd hI)
 (repeat(first| (refine ZA ?_;go_wp2_with(refine YS ?_;intro w hI);refine gz ?_) | (refine ZB ?_;go_wp2_with(refine YX ?_;intro bx w hI);(refine iU (hI.sub SB) ?_)) | ((refine iA RF RF RF RF (hI.sub SB) (by intro w (hI:Inv _ _ w _);first|with_reducible exact Sc hI|with_reducible exact D5 hI|with_reducible exact aiX| (unfold gu;go_simp;with_reducible rfl)) ?_);(simp only[QN]))));refine dN ?_
 rw[hz.out]at hI;go_upto_region 2 with(first|refine YL ?_|go_at_call 121;refine KO hI (yA _ X.f uR) ?_;intro g cw w1 hI)
 go_loopg [6,22] 2 (λkk s6 s22 wr=>∃(j:Nat) (Y1:RY) (B1:Nat->List (List UInt8)),kk=2-j∧j<=2∧s22=.int .i64 (j:Int)∧Hid (((eU X.f).take j).foldl G S={S with B:=B1})∧Inv (aj X Y S).own w0 wr [bD 3 1 (.slice (some ⟨g,0,none⟩) 2 cw) 2 ((eU X.f).map iN),ib bx 158 M.nX,aj X Y1 {S with B:=B1}])
 case atStart=>exact⟨0,Y,S.B,rfl,by omega,rfl,HD rfl,hI⟩
 case round=>
  clear hI;obtain⟨j,Y1,B1,rfl,hj,rfl,hB1,hI⟩:=hrel;by_cases hj2:j<2
  ·obtain⟨t,ht⟩:∃t,(eU X.f)[j]? =some t:=⟨_,List.getElem?_eq_getElem (by simp[eU];omega)⟩
   have pX:t<5∧X.f≠t:=by
    have:=List.mem_of_getElem? ht;simp only[eU,List.mem_cons,List.not_mem_nil,or_false]at this;omega
   obtain⟨pX,hft⟩:=pX;have hld:((eU X.f).map iN)[j]? =some (.int .i64 (t:Int)):=by rw[List.getElem?_map,ht];rfl
   have hs:=HD (Bw G S (eU X.f) j t ht);clear ht;cases hk:bt S.kept t
   ·have hs2:Hid (((eU X.f).take (j+1)).foldl G S=dS X.f {S with B:=B1} t M):=HD (by rw[hs.out,hB1.out,hG.out,if_neg (by rw[hk];simp)])
    have hkq:=Bv S.kept t;rw[hk]at hkq;simp only[Bool.not_false,Bool.not_true]at hkq;clear hs hB1 hG;go_wp2_with(first|refine YL ?_|go_at_call 122;refine KJ hI (uh _ X Y1 {S with B:=B1} hX M hM _ rfl t OM OM (hI.at_ a_)) ?_;intro Y2 B2 w1 hB2 hI|with_reducible refine aK hI RF aC (aQ.out (t:=3)) hld ?_);go_roundg (2- (j+1))
    case measure=>omega
    case rel=>exact⟨j+1,Y2,B2,rfl,by omega,by go_num,HD (by rw[hs2.out,hB2.out]),hI⟩
   ·have hs2:Hid (((eU X.f).take (j+1)).foldl G S={S with B:=B1}):=HD (by rw[hs.out,hB1.out,hG.out,if_pos hk])
    have hkq:=Bv S.kept t;rw[hk]at hkq;simp only[Bool.not_false,Bool.not_true]at hkq;clear hs hB1 hG;go_wp2_with(first|refine YL ?_|with_reducible refine aK hI RF aC (aQ.out (t:=3)) hld ?_);go_roundg (2- (j+1))
    case measure=>omega
    case rel=>exact⟨j+1,Y1,B1,rfl,by omega,by go_num,hs2,hI⟩
  ·obtain rfl:j=2:=by omega
   go_wp2_with(fail);exact⟨rfl,_,h_ KF _ _,Y1,B1,rfl,HD (by rw[hfin.out,hB1.out]),hI.sub (.cons _ (.cons _ (.refl _)))⟩
end
end
section
open A (QE kE bU)
theorem adJ{e}:ay (au 8) [(0,[e])]=qB e (au 2) (au 2) (au 3):=by rfl
theorem FK(l):ay (au 189) l=ay (bf 0 0 (au 174) 0 (au 2) (au 3) (au 7)) l:=by rw[jX]
theorem ajO{r}(hr:r.length=174):ay (au 189) [(0,[0]),(2,r)]=(Rec.row r).nX:=by
 rw[FK];simp only[ay];rw[eO,i_ (ag 174) hr];rfl
theorem Z4{w:Nat}{r}(hr:r.length=174):ay (au 189) [(0,[1]),(1,[(w:Int)]),(2,r)]=(Rec.cz w r).nX:=by
 rw[FK];simp only[ay];rw[eO,O8,i_ (ag 174) hr];rfl
theorem ahe{w:Nat}:ay (au 189) [(0,[2]),(1,[(w:Int)])]=(Rec.aZ w).nX:=by
 rfl
theorem afB{e b}(hb:b.length=2):ay (au 189) [(0,[3]),(176,[e]),(177,b)]=(Rec.qH e b).nX:=by
 rw[FK];simp only[ay];rw[eO,DL (ag 174),ja (ag 174) (ag 2) hb];rfl
theorem ahf{e b c}(hb:b.length=2)(hc:c.length=3):ay (au 189) [(0,[4]),(176,[e]),(177,b),(179,c)]=(Rec.take e b c).nX:=by
 rw[FK];simp only[ay];rw[eO,DL (ag 174),ja (ag 174) (ag 2) hb,jM (ag 174) hb (ag 3) hc];rfl
theorem ahg{v}(hv:v.length=7):ay (au 189) [(0,[5]),(182,v)]=(Rec.view v).nX:=by
 rw[FK];simp only[ay];rw[eO,jN (ag 174) (ag 2) (ag 3) (ag 7) hv];rfl
theorem ahh(w0 X Y S x)(hx:x.Len)(z)(hz:z=x.nX)(hI:Inv (aj X Y S).own w0 w0 [aj X Y S]):Calls prog 108 #[.pointer (some ⟨X.b,0,none⟩),ia z] w0 λe w'=>∃nu D' c' u' e',e=.returned (.int .i64 e')∧Hid (cK S x=({S with D:=D',cnt:=c',used:=u'},e'))∧Inv (aj X Y S).own w0 w' [aj X {Y with wb:=nu} {S with D:=D',cnt:=c',used:=u'}]:=by
 subst hz;refine(afA w0 X Y S x hx hI).mono ?_;rintro e w' ⟨nu,rfl,hJ⟩;exact⟨nu,_,_,_,_,rfl,HD rfl,hJ⟩
section
variable (w0:World)
theorem Ku(f b l vb rc ra S Z v)(hv:v.length=7)(hI:Inv (two (rb f b l vb ra rc S) Z).own w0 w0 [two (rb f b l vb ra rc S) Z]):Calls prog 64 #[.pointer (some ⟨b,0,none⟩),ia v] w0 λe w'=>e=.returned (.tuple #[])∧Inv (two (rb f b l vb ra rc S) Z).own w0 w' [two (rb f b l vb ra rc (oM S v)) Z]:=by
 have hz:Hid (ay (au 8) [(0,[gi v 0])]=qB (gi v 0) (au 2) (au 2) (au 3)):=HD adJ;have hal:(ay (au 8) [(0,[gi v 0])]).length=8:=by rw[hz.out];rfl
 go_enter func64,ntmps64;go_wp2_with(first|refine YL ?_|refine YX ?_;intro bx w hI|refine YS ?_;intro w hI);rw[hz.out]at hI;exact⟨rfl,_,h_ KF _ _,rfl,hI.tl⟩
end
section
variable (w0:World)(X:RX)(Y:RY)(S:RS)(hX:Bd X)
include hX
theorem Z5(x op)(hx:x.length=174)(hI:Inv (aj X Y S).own w0 w0 [aj X Y S]):Calls prog 70 #[.pointer (some ⟨X.b,0,none⟩),oV X,ia x,.int .i64 op] w0 λe w'=>∃Y',e=.returned (.int .i64 (iQ X.f S x op).2)∧Inv (aj X Y S).own w0 w' [aj X Y' (iQ X.f S x op).1]:=by
 obtain⟨x0,ma⟩:=EZ (Rec.row x);have hx0:x0.Len:=by rw[ma];exact hx
 have hz:Hid (ay (au 189) [(0,[0]),(2,x)]=x0.nX):=HD (by rw[ma];exact ajO hx);have hG:Hid (iQ X.f S x op=if(cK S x0).2=0 then(jf X.f {(cK S x0).1 with own:=x,busy:=true,kept:=0,waits:=op},0)else cK S x0):=HD (by rw[ma];rfl);clear ma;go_enter func70,ntmps70;go_upto_region 2 with(first|refine YL ?_|refine YX ?_;intro bx w hI|go_at_call 108;(with_reducible refine(ahh _ X Y S x0 hx0 _ hz.out (hI.at_ aM)).mono ?_);rintro e w1 ⟨nu,D',c',u',e',rfl,hP,hJ⟩;replace hI:=hI.on hJ jo;clear hJ)
 by_cases he:e'=0
 ·subst he
  have hG2:Hid (iQ X.f S x op=(jf X.f {S with own:=x,busy:=true,kept:=0,waits:=op,D:=D',cnt:=c',used:=u'},0)):=HD (by rw[hG.out,hP.out,if_pos rfl]);clear hG hP;go_wp2_with(first|refine YL ?_|refine YS ?_;intro w hI|go_at_call 78;refine KJ hI (IJ _ X _ _ hX (hI.at_ aM)) ?_;intro Y2 B2 w1 hB2 hI);go_ret;rw[hG2.out,hB2.out];exact⟨_,rfl,hI.tl⟩
 ·have hG2:Hid (iQ X.f S x op=({S with D:=D',cnt:=c',used:=u'},e')):=HD (by rw[hG.out,hP.out,if_neg he])
  have hq:(e' != 0)=true:=by simpa using he
  clear hG hP;go_wp2_with(fail);go_ret;rw[hG2.out];exact⟨_,rfl,hI.tl⟩
end
end
section
open B (dw)
def eG(v:List Int):Prop:=∀i,-9223372036854775808<=gi v i∧gi v i<=9223372036854775807
theorem mW(w0 v who)(hv:v.length=7)(hw:Hid (eG v))(r)(hr:dw v who=r):
  Calls prog 17 #[ia v,.int .i64 who] w0 λe w'=>e=.returned (.tuple #[.int .i64 r.1,.bool r.2])∧Below w0.heap.size w0 w':=by
 subst hr;exact B.zW w0 v who hv hw
section
variable (w0:World)(f b l vb rc:Nat)(ra:Option Addr)(S:RS)(Z:bT)
theorem adK(i t:Nat)(hi:i<5)(ht:t<5)(hI:Inv (two (rb f b l vb ra rc S) Z).own w0 w0 [two (rb f b l vb ra rc S) Z]):Calls prog 124 #[.pointer (some ⟨b,0,none⟩),.int .i64 (i:Int),.int .i64 (t:Int)] w0 λe w'=>e=.returned (.bool (mU S i t))∧Inv (two (rb f b l vb ra rc S) Z).own w0 w' [two (rb f b l vb ra rc S) Z]:=by
 have hi5:(i:Int) <5:=by omega
 have hbt:=HD (B.En (gi S.told i) t);go_enter func124,ntmps124;go_wp2_with(refine YL ?_);go_ret;exact⟨by rw[hbt.out];rfl,hI⟩
def FL(f:Nat)(S:RS)(i:Nat):Bool:=decide (dw S.view (i:Int)=((f:Int),true))&&decide (gi S.own (29+i)<=0)
theorem ajP(hvl:S.view.length=7)(hvw:Hid (eG S.view))(hI:Inv (two (rb f b l vb ra rc S) Z).own w0 w0 [two (rb f b l vb ra rc S) Z]):Calls prog 123 #[.pointer (some ⟨b,0,none⟩)] w0 λe w'=>∃a c,e=.returned (.slice a (qm f S).length c)∧Inv (two (rb f b l vb ra rc S) Z).own w0 w' [bD 3 1 (.slice a (qm f S).length c) (qm f S).length ((qm f S).map iN),two (rb f b l vb ra rc S) Z]:=by
 have hfin:Hid (qm f S=(List.range 5).filter (FL f S)):=HD rfl;replace hI:=hI.BZ 3 1;go_enter func123,ntmps123;go_upto_region 3 with(fail)
 go_loopg [3,4,5,6,7] 5 (λkk s3 s4 s5 s6 s7 wr=>∃(j:Nat) (a:Option Addr) (c:Nat) (L:List Nat) (n:Nat),kk=5-j∧j<=5∧s7=.int .i64 (j:Int)∧s3=.slice a n c∧Hid (n=L.length)∧n<=j∧Hid ((List.range j).filter (FL f S)=L)∧Inv (two (rb f b l vb ra rc S) Z).own w0 wr [bD 3 1 (.slice a n c) n (L.map iN),two (rb f b l vb ra rc S) Z])
 case atStart=>exact⟨0,none,0,[],0,rfl,by omega,rfl,rfl,HD rfl,by omega,HD rfl,hI⟩
 case round=>
  clear hI;obtain⟨j,a,c,L,n,rfl,hj,rfl,rfl,hn,Zd,hL,hI⟩:=hrel;by_cases GV:j<5
  ·have hs:Hid ((List.range (j+1)).filter (FL f S)=L++(if FL f S j=true then [j]else [])):=HD (by
    rw[List.range_succ,List.filter_append,hL.out];congr 1;by_cases h:FL f S j=true
    ·rw[if_pos h];simp[h]
    ·rw[if_neg h];simp[h])
   have amx:(j:Int) <5:=by omega
   obtain⟨⟨hh,ok⟩,FM⟩:=EQ (dw S.view (j:Int));have hrr:=HD FM;have hdp:Hid (FL f S j=(decide ((hh,ok)=((f:Int),true))&&decide (gi S.own (29+j)<=0))):=HD (by rw[FL,FM]);clear FM;cases ok
   ·have hs2:Hid ((List.range (j+1)).filter (FL f S)=L):=HD (by rw[hs.out,hdp.out];simp)
    clear hs hdp hL;go_wp2_with(first|refine YL ?_|go_at_call 17;refine KD hI (mW _ S.view (j:Int) hvl hvw _ hrr.out) ?_;intro w1 hI);go_roundg (5- (j+1))
    case measure=>omega
    case rel=>exact⟨j+1,a,c,L,n,rfl,by omega,by go_num,rfl,hn,by omega,hs2,hI⟩
   ·cases hq:(hh==(f:Int))
    ·have hs2:Hid ((List.range (j+1)).filter (FL f S)=L):=HD (by rw[hs.out,hdp.out];simp at hq;simp[hq])
     clear hs hdp hL;go_wp2_with(first|refine YL ?_|go_at_call 17;refine KD hI (mW _ S.view (j:Int) hvl hvw _ hrr.out) ?_;intro w1 hI);go_roundg (5- (j+1))
     case measure=>omega
     case rel=>exact⟨j+1,a,c,L,n,rfl,by omega,by go_num,rfl,hn,by omega,hs2,hI⟩
    ·cases ho:decide (gi S.own (29+j)<=0)
     ·have hs2:Hid ((List.range (j+1)).filter (FL f S)=L):=HD (by rw[hs.out,hdp.out,ho];simp)
      clear hs hdp hL;go_wp2_with(first|refine YL ?_|go_at_call 17;refine KD hI (mW _ S.view (j:Int) hvl hvw _ hrr.out) ?_;intro w1 hI);go_roundg (5- (j+1))
      case measure=>omega
      case rel=>exact⟨j+1,a,c,L,n,rfl,by omega,by go_num,rfl,hn,by omega,hs2,hI⟩
     ·have hs2:Hid ((List.range (j+1)).filter (FL f S)=L++[j]):=HD (by rw[hs.out,hdp.out,ho];simp at hq;simp[hq])
      have hmp:Hid ((L++[j]).map iN=L.map iN++[Value.int .i64 (j:Int)]):=HD (by simp[iN]);clear hs hdp hL;go_wp2_with(first|refine YL ?_|go_at_call 17;refine KD hI (mW _ S.view (j:Int) hvl hvw _ hrr.out) ?_;intro w1 hI|(with_reducible refine aA (q:=1) hI RF RF (uQ.out (t:=74)) (by intro r';exact aU.there aU.here) (hI.rd aC) RF (by simp[Value.oneCell']) MX OM ?_;intro a2 c2 w hI)|(with_reducible refine Pb hI (k:=?_);intro b2 w hI));go_roundg (5- (j+1))
      case measure=>omega
      case rel=>exact⟨j+1,a2,c2,L++[j],n+1,rfl,by omega,by go_num,rfl,HD (by simp[hn.out]),by omega,hs2,by rw[hmp.out];exact hI.tl⟩
  ·obtain rfl:j=5:=by omega
   go_wp2_with(fail);go_ret;have e1:qm f S=L:=by rw[hfin.out,hL.out]
   rw[e1,<-hn.out];exact⟨a,c,rfl,hI⟩
end
end
section
open B (aI dw eu dC gH kM eB kF cB bK)
theorem iK{α β:Type}(p:RS->β)(g)(h:∀S a,p (g S a)=p S):∀(l:List α) S,p (l.foldl g S)=p S
 | [],_=>rfl
 |a::l,S=>by rw[List.foldl_cons,iK p g h l,h]
section
variable (f:Nat)
theorem wY(S t M):(dS f S t M).view=S.view:=by grind[dS]
theorem Kv(S):(jf f S).view=S.view:=by
 exact iK RS.view _ (λT w=>by grind[wY]) _ S
theorem VJ(S x op):(iQ f S x op).1.view=S.view:=by
 unfold iQ;split
 ·exact Kv f _
 ·rfl
theorem IK(S):(j6 f S).view=S.view:=by
 unfold j6;split
 ·rfl
 ·split
  ·cases fP S.last S.own (qm f S)with
   |none=>rfl
   |some x=>grind[VJ]
  ·rfl
theorem Nf(S from_ w r):(jk f S from_ w r).view=S.view:=by
 grind[jk,IK]
theorem vU(S dst w r):(gI f S dst w r).view=S.view:=by
 grind[gI,Nf,wY]
theorem VK(S from_ w):(mV f S from_ w).view=S.view:=by
 unfold mV;split
 ·split
  ·grind[vU]
  ·split
   ·exact vU f _ _ _ _
   ·rfl
 ·rfl
theorem yG(S dst w):(kN f S dst w).view=S.view:=by
 grind[kN,VK,wY]
theorem Cn(S i):(qI f S i).view=S.view:=by
 exact iK RS.view _ (λT w=>by grind[yG]) _ S
theorem zi(S):(mM f S).view=S.view:=by
 simp_all[mM,iK,Cn]
theorem FN(S v):(fQ f S v).1.view=S.view∨(fQ f S v).1.view=v:=by
 unfold fQ;split
 ·grind
 ·split
  ·right;rw[zi];rfl
  ·exact .inl rfl
theorem VL{S v}(h:eG S.view)(hv:eG v):eG (fQ f S v).1.view:=by
 grind[FN]
theorem VM{S v}(h:S.view.length=7)(hv:v.length=7):(fQ f S v).1.view.length=7:=by
 grind[FN]
end
end
section
open B (aI dw eu dC gH kM eB kF cB bK)
def core(S:RS):List Int×List (List Int)×List Int×Int×Int:=(S.aT,S.aX,S.book,S.round,S.ops)
section
variable (f:Nat)
theorem FO(S t M):core (dS f S t M)=core S:=by unfold dS;split<;>rfl
theorem Kw(S):core (jf f S)=core S:=by
 exact iK core _ (λT w=>by grind[FO]) _ S
theorem VN(S x op):core (iQ f S x op).1=core S:=by
 unfold iQ;split
 ·exact Kw f _
 ·rfl
theorem VO(S):core (j6 f S)=core S:=by
 unfold j6;split
 ·rfl
 ·split
  ·cases fP S.last S.own (qm f S)with
   |none=>rfl
   |some x=>grind[VN]
  ·rfl
theorem Ng(S from_ w r):core (jk f S from_ w r)=core S:=by
 unfold jk;rw[VO];split<;>rfl
theorem vV(S dst w r):core (gI f S dst w r)=core S:=by
 grind[gI,Ng,FO]
theorem VP(S from_ w):core (mV f S from_ w)=core S:=by
 unfold mV;split
 ·split
  ·grind[vV]
  ·split
   ·exact vV f _ _ _ _
   ·rfl
 ·rfl
theorem G8(S dst w):core (kN f S dst w)=core S:=by
 grind[kN,VP,FO]
theorem Nh(S i):core (qI f S i)=core S:=by
 exact iK core _ (λT w=>by grind[G8]) _ S
theorem Qt(S):core (mM f S)=core S:=by
 exact iK core _ (λT i=>Nh f T i) _ S
theorem G9(S x):(fV f S x).view=S.view:=by
 simp_all[fV,iK,wY]
theorem G_(S x):(ig f S x).view=S.view:=by
 simp_all[ig,iK,wY]
theorem Qu(S v):(fQ f S v).1.aT=S.aT∧(fQ f S v).1.aX=S.aX∧(fQ f S v).1.book=S.book∧(fQ f S v).1.ops=S.ops:=by
 grind[fQ,Qt,oM,cK,core]
end
end
section
open B (aI dw eu dC gH kM eB kF cB bK)
theorem IZ(z):-9223372036854775808<=IntKind.i64.wrap z∧IntKind.i64.wrap z<=9223372036854775807:=by
 exact W96
theorem Nz(x y):-9223372036854775808<=bits .or .i64 x y∧bits .or .i64 x y<=9223372036854775807:=IZ _
theorem NA(x y):-9223372036854775808<=bits .andNot .i64 x y∧bits .andNot .i64 x y<=9223372036854775807:=IZ _
theorem lN(z):-9223372036854775808<=wrap64 z∧wrap64 z<=9223372036854775807:=by unfold wrap64;omega
theorem oO{v}(h:eG v){z}(hz:-9223372036854775808<=z∧z<=9223372036854775807)(i):eG (v.set i z):=by
 intro j;by_cases hij:i=j
 ·grind[gi]
 ·rw[show gi (v.set i z) j=gi v j by grind[gi]];exact h j
theorem qa(n):eG (au n):=λi=>by grind[gi,au]
theorem QL{v}(h:eG v)(k d)(hd:d<5):∀j,eG (B.lv v k d j)
 |0=>h
 |j+1=>by
  unfold B.lv
  split
  ·exact oO (QL h k d hd j) OM _
  ·exact QL h k d hd j
theorem NB{v}(h:eG v)(c):eG (bK v c).1:=by
 unfold B.bK
 split
 ·exact oO (oO h (Nz _ _) _) (lN _) _
 ·split
  ·refine oO (QL (oO h (NA _ _) _) _ _ ?_ 5) (lN _) _
   simp_all[B.WU,B.dV]
  grind[qa]
theorem Ay(v c)(hv:v.length=7):(bK v c).1.length=7:=by
 grind[B.bK,B.wU,B.za,B.Br,ag]
theorem jg(w0 v c)(hv:v.length=7)(hc:c.length=3)(hw:Hid (eG v))(nv ne)(hr:Hid (bK v c=(nv,ne))):
  Calls prog 84 #[ia v,ia c] w0 λe w'=>e=.returned (.tuple #[ia nv,.int .i64 ne])∧Below w0.heap.size w0 w':=by
 have h:=B.agG w0 v c hv hc hw;rw[hr.out]at h;exact h
theorem TB{l}(h:l.length=8):l=[gi l 0,gi l 1,gi l 2,gi l 3,gi l 4,gi l 5,gi l 6,gi l 7]:=by
 match l,h with
 | [a,b,c,d,e,f,g,i],_=>rfl
theorem TC{l}(h:l.length=2):l=[gi l 0,gi l 1]:=by
 match l,h with
 | [a,b],_=>rfl
theorem afI{l}(h:l.length=3):l=[gi l 0,gi l 1,gi l 2]:=by
 match l,h with
 | [a,b,c],_=>rfl
theorem vG(w0 a b e)(ha:a.length=8)(hb:b.length=2)(a' ok)(hr:Hid (tK a e b=(a',ok))):
  Calls prog 126 #[ia a,.int .i64 e,ia b] w0 λee w'=>ee=.returned (.tuple #[ia a',.bool ok])∧Below w0.heap.size w0 w':=by
 unfold tK at hr
 split at hr
 ·rename_i h
  cases hr;have e:=B.agF w0 (gi a 0) (gi a 1) (gi a 2) (gi a 3) (gi a 4) (gi a 5) (gi a 6) (gi a 7) e (gi b 0) (gi b 1) h;rw[TB ha,TC hb];exact e
 ·cases hr
  have e:=B.adl w0 (gi a 0) (gi a 1) (gi a 2) (gi a 3) (gi a 4) (gi a 5) (gi a 6) (gi a 7) e (gi b 0) (gi b 1) (by grind);rw[TB ha,TC hb];exact e
theorem Az(w0 a b c e)(ha:a.length=8)(hb:b.length=2)(hc:c.length=3)(a' ok)(hr:Hid (Fw a e b c=(a',ok))):
  Calls prog 179 #[ia a,.int .i64 e,ia b,ia c] w0 λee w'=>ee=.returned (.tuple #[ia a',.bool ok])∧Below w0.heap.size w0 w':=by
 unfold Fw at hr
 split at hr
 ·rename_i h
  cases hr;have e:=B.PX w0 (gi a 0) (gi a 1) (gi a 2) (gi a 3) (gi a 4) (gi a 5) (gi a 6) (gi a 7) e (gi b 0) (gi b 1) (gi c 0) (gi c 1) (gi c 2) h;rw[TB ha,TC hb,afI hc];exact e
 ·cases hr
  have e:=B.J_ w0 (gi a 0) (gi a 1) (gi a 2) (gi a 3) (gi a 4) (gi a 5) (gi a 6) (gi a 7) e (gi b 0) (gi b 1) (gi c 0) (gi c 1) (gi c 2) (by grind);rw[TB ha,TC hb,afI hc];exact e
theorem NC{a b e}(ha:a.length=8)(hb:b.length=2):(tK a e b).1.length=8:=by
 grind[tK,aY]
theorem aao{a b c e}(ha:a.length=8)(hb:b.length=2)(hc:c.length=3):(Fw a e b c).1.length=8:=by
 grind[Fw,qB]
theorem b_(w0 v)(k:Nat)(hv:v.length=7)(b)(hb:Hid (aI v (k:Int)=b)):Calls prog 14 #[ia v,.int .i64 (k:Int)] w0 λe w'=>e=.returned (.bool b)∧Below w0.heap.size w0 w':=by
 grind[Go.RowKit.Hid.out,B.fO]
section
variable {P:Program}{ops:Array Oper}{Q:Exit->Act->World->Prop}{a:Act}{rest:List Oper}{T:List Nat}{w0 w:World}{m:List bT}{dst:Option Tmp}{ty:TypeId}{pos:String}{af:Array Edge}
variable {x:Operand}{t f b l vb rc:Nat}{ra:Option Addr}{S:RS}{Z:bT}{V:List Int×Bool}
theorem V6(hI:Inv T w0 w m)(hx:a.eval x=.pointer (some ⟨b,1067,none⟩):=by exact RF)(hm:two (rb f b l vb ra rc S) Z∈m:=by exact MM)[hT:aQ P t](hV:Hid (S.aB=some V)):
  gu P ⟨dst,.load t x,ty,pos,af,none⟩ a w (.pointer (some ⟨vb,0,none⟩)):=by
 have h:=D6 (P:=P) (t:=t) (dst:=dst) (ty:=ty) (pos:=pos) (af:=af) hI hx hm
 rwa [show Kj vb S.aB=.pointer (some ⟨vb,0,none⟩)from by rw[hV.out];rfl]at h
theorem Xu(hI:Inv T w0 w m)(hx:a.eval x=.pointer (some ⟨b,1067,none⟩):=by exact RF)(hm:two (rb f b l vb ra rc S) Z∈m:=by exact MM)[hT:aQ P t](hV:Hid (S.aB=some V))
  (k:wpList P ops Q rest (a.put dst (.pointer (some ⟨vb,0,none⟩))) w):wpList P ops Q (⟨dst,.load t x,ty,pos,af,none⟩::rest) a w:=av (V6 hI hx hm hV) k
theorem V7(hI:Inv T w0 w m)(hx:a.eval x=.pointer (some ⟨b,1067,none⟩):=by exact RF)(hm:two (rb f b l vb ra rc S) Z∈m:=by exact MM)[hT:aQ P t](hV:Hid (S.aB=none)):
  gu P ⟨dst,.load t x,ty,pos,af,none⟩ a w (.pointer none):=by
 have h:=D6 (P:=P) (t:=t) (dst:=dst) (ty:=ty) (pos:=pos) (af:=af) hI hx hm
 rwa [show Kj vb S.aB=.pointer none from by rw[hV.out];rfl]at h
theorem Xv(hI:Inv T w0 w m)(hx:a.eval x=.pointer (some ⟨b,1067,none⟩):=by exact RF)(hm:two (rb f b l vb ra rc S) Z∈m:=by exact MM)[hT:aQ P t](hV:Hid (S.aB=none))
  (k:wpList P ops Q rest (a.put dst (.pointer none)) w):wpList P ops Q (⟨dst,.load t x,ty,pos,af,none⟩::rest) a w:=av (V7 hI hx hm hV) k
end
section
variable {T:List Nat}{w0 w:World}{m m':List bT}{f b l vb rc:Nat}{ra:Option Addr}{S:RS}{Z:bT}{V:List Int×Bool}
theorem aap(hI:Inv T w0 w m)(hm:two (rb f b l vb ra rc S) Z∈m)(hV:Hid (S.aB=some V)):Calls prog 129 #[.pointer (some ⟨vb,0,none⟩)] w λe w'=>e=.returned (.bool V.2)∧Inv T w0 w' m:=ag8 hI hm hV.out
theorem zo(hI:Inv T w0 w m)(hm:two (rb f b l vb ra rc S) Z∈m)(hV:Hid (S.aB=some V)):Calls prog 83 #[.pointer (some ⟨vb,0,none⟩)] w λe w'=>e=.returned (ia (sub V.1 9 3))∧Inv T w0 w' m:=ag9 hI hm hV.out
theorem aaq(hI:Inv T w0 w m)(hm:two (rb f b l vb ra rc S) Z∈m)(hV:Hid (S.aB=some V)):Calls prog 128 #[.pointer (some ⟨vb,0,none⟩)] w λe w'=>e=.returned (ia (sub V.1 7 2))∧Inv T w0 w' m:=ag_ hI hm hV.out
theorem ND(hI:Inv T w0 w m){V'}(hu:aU (two (rb f b l vb ra rc S) Z) (two (rb f b l vb ra rc {S with aB:=some V'}) Z) m m')(hV:Hid (S.aB=some V))(who)(bl)(hb2:bl.length=2)(ok)(hr:Hid (iy V who bl=(V',ok))):
  Calls prog 158 #[.pointer (some ⟨vb,0,none⟩),.int .i64 (who:Int),ia bl] w λe w'=>e=.returned (.bool ok)∧Inv T w0 w' m':=by
 grind[ZU,Go.RowKit.Hid.out]
theorem NF(hI:Inv T w0 w m){V'}(hu:aU (two (rb f b l vb ra rc S) Z) (two (rb f b l vb ra rc {S with aB:=some V'}) Z) m m')(hV:Hid (S.aB=some V))(who)(bl h c)(hb2:bl.length=2)(h2:h.length=2)(c3:c.length=3)(ok)(hr:Hid (iJ V who bl h c=(V',ok))):
  Calls prog 157 #[.pointer (some ⟨vb,0,none⟩),.int .i64 (who:Int),ia bl,ia h,ia c] w λe w'=>e=.returned (.bool ok)∧Inv T w0 w' m':=by
 grind[ZV,Go.RowKit.Hid.out]
end
end
section
open B (dw)
theorem JQ(w0 f b l vb rc ra S Z L)(hL:qm f S=L)(n)(hn:L.length=n)(hvl:S.view.length=7)(hvw:Hid (eG S.view))(hI:Inv (two (rb f b l vb ra rc S) Z).own w0 w0 [two (rb f b l vb ra rc S) Z]):Calls prog 123 #[.pointer (some ⟨b,0,none⟩)] w0 λe w'=>∃a c,e=.returned (.slice a n c)∧Inv (two (rb f b l vb ra rc S) Z).own w0 w' [bD 3 1 (.slice a n c) n (L.map iN),two (rb f b l vb ra rc S) Z]:=by
 grind[ajP]
theorem xX(w0 f b l vb rc ra S Z i t)(hi:i<5)(ht:t<5)(v)(hv:mU S i t=v)(hI:Inv (two (rb f b l vb ra rc S) Z).own w0 w0 [two (rb f b l vb ra rc S) Z]):Calls prog 124 #[.pointer (some ⟨b,0,none⟩),.int .i64 (i:Int),.int .i64 (t:Int)] w0 λe w'=>e=.returned (.bool v)∧Inv (two (rb f b l vb ra rc S) Z).own w0 w' [two (rb f b l vb ra rc S) Z]:=by
 grind[adK]
theorem ad8(w0 x dead who)(hx:x.length=174)(hd:dead.length=174)(r)(hr:C.tJ x who dead=r):
  Calls prog 125 #[ia x,.int .i64 who,ia dead] w0 λe w'=>e=.returned (.tuple #[ia r.1,.int .i64 r.2])∧Below w0.heap.size w0 w':=by
 grind[C.ajE]
theorem aaL{f S L}(h:qm f S=L):∀i∈L,i<5:=by
 grind[qm.eq_1]
theorem all_false{α:Type}{l:List α}{p x}(hx:x∈l)(hp:p x=false):l.all p=false:=by grind
section
variable (w0:World)(X:RX)(Y:RY)(S:RS)(hX:Bd X)
include hX
theorem ahU(hvw:Hid (eG S.view))(hI:Inv (aj X Y S).own w0 w0 [aj X Y S]):Calls prog 79 #[.pointer (some ⟨X.b,0,none⟩),oV X] w0 λe w'=>∃Y',e=.returned (.tuple #[])∧Inv (aj X Y S).own w0 w' [aj X Y' (j6 X.f S)]:=by
 have hLn:=aS hI aC;have hvl:=hLn.view;have hown:=hLn.own;have hlast:=hLn.last;clear hLn;obtain⟨L,hL0⟩:=EQ (qm X.f S);have hL:=HD hL0;have hLm:=HD (aaL hL0);clear hL0;obtain⟨n,hn0⟩:=EQ L.length;have hn:=HD hn0;have hn5:n<=1000:=by
  have h1:L.length<=5:=by
   rw[<-hL.out,qm];exact Nat.le_trans (List.length_filter_le _ _) SI
  omega
 have hF:Hid (j6 X.f S=if S.busy=true∨L=[]then S else if L.all (λi=>(eU i).all (mU S i))=true then((fP S.last S.own L).elim S (λx=>(iQ X.f S x 0).1))else S):=HD (by rw[j6,hL.out]);cases hb:S.busy
 ·cases hz:((n:Int)==0)
  ·have hne:L≠[]:=by rintro rfl;simp at hn0;rw[<-hn0]at hz;simp at hz
   have hF2:Hid (j6 X.f S=if L.all (λi=>(eU i).all (mU S i))=true then((fP S.last S.own L).elim S (λx=>(iQ X.f S x 0).1))else S):=HD (by rw[hF.out,if_neg (by rw[hb];simpa using hne)]);clear hF hne hn0;go_enter func79,ntmps79;go_upto_region 3 with(first|refine YL ?_|go_at_call 123;refine KK hI (JQ _ X.f X.b X.l Y.vb Y.rc Y.ra S _ L hL.out n hn.out hvl hvw (hI.at_ aC)) ?_;intro ad cd w1 hI)
   go_loopg [6,8,27] n (λkk s6 s8 s27 wr=>∃(j:Nat),kk=n-j∧j<=n∧s27=.int .i64 (j:Int)∧Hid ((L.take j).all (λi=>(eU i).all (mU S i))=true)∧Inv (aj X Y S).own w0 wr [bD 3 1 (.slice ad n cd) n (L.map iN),aj X Y S])
   case atStart=>exact⟨0,rfl,by omega,rfl,HD rfl,hI⟩
   case round=>
    clear hI;obtain⟨j,rfl,hj,rfl,hA,hI⟩:=hrel;by_cases hjn:j<n
    ·obtain⟨gd,rfl⟩:∃gd,ad=some ⟨gd,0,none⟩:=gZ hI aC (by rw[List.length_map,hn.out];omega)
     obtain⟨i,hi⟩:∃i,L[j]? =some i:=⟨_,List.getElem?_eq_getElem (by rw[hn.out];exact hjn)⟩;have hi5:i<5:=hLm.out i (List.mem_of_getElem? hi);have hiL:=HD (List.mem_of_getElem? hi);have hld:(L.map iN)[j]? =some (.int .i64 (i:Int)):=by rw[List.getElem?_map,hi];rfl
     have alH:decide ((j:Int) < (n:Int))=true:=by simp;omega
     have hA1:Hid ((L.take (j+1)).all (λi=>(eU i).all (mU S i))=(eU i).all (mU S i)):=HD (by rw[List.take_add_one,hi,List.all_append,hA.out];simp);clear hi hA;go_upto_region 6 with(first|go_at_call 121;refine KO hI (yA _ i hi5) ?_;intro g cw w1 hI|with_reducible refine aK hI RF aC (aQ.out (t:=3)) hld ?_)
     go_loopg [8,34] 2 (λkk s8 s34 wr=>∃(k:Nat),kk=2-k∧k<=2∧s34=.int .i64 (k:Int)∧Hid (((eU i).take k).all (mU S i)=true)∧Inv (aj X Y S).own w0 wr [bD 3 1 (.slice (some ⟨g,0,none⟩) 2 cw) 2 ((eU i).map iN),bD 3 1 (.slice (some ⟨gd,0,none⟩) n cd) n (L.map iN),aj X Y S])
     case atStart=>exact⟨0,rfl,by omega,rfl,HD rfl,hI⟩
     case round=>
      clear hI;obtain⟨k,rfl,hk,rfl,hB,hI⟩:=hrel;by_cases hk2:k<2
      ·obtain⟨t,ht⟩:∃t,(eU i)[k]? =some t:=⟨_,List.getElem?_eq_getElem (by simp[eU];omega)⟩
       have pX:t<5:=by
        have:=List.mem_of_getElem? ht;simp only[eU,List.mem_cons,List.not_mem_nil,or_false]at this;omega
       have hlt:((eU i).map iN)[k]? =some (.int .i64 (t:Int)):=by rw[List.getElem?_map,ht];rfl
       have hB1:Hid (((eU i).take (k+1)).all (mU S i)=mU S i t):=HD (by rw[List.take_add_one,ht,List.all_append,hB.out];simp);have htm:=HD (List.mem_of_getElem? ht);clear ht hB;cases htl:mU S i t
       ·go_wp2_with(first|go_at_call 124;refine KC qN hI (xX _ X.f X.b X.l Y.vb Y.rc Y.ra S _ i t hi5 pX _ htl (hI.at_ a_)) ?_;intro w1 hI|with_reducible refine aK hI RF aC (aQ.out (t:=3)) hlt ?_)
        have e1:L.all (λi=>(eU i).all (mU S i))=false:=all_false hiL.out (all_false htm.out htl);rw[hF2.out,e1];exact⟨rfl,_,h_ KF _ _,Y,rfl,hI.sub (.cons _ (.cons _ (.refl _)))⟩
       ·go_wp2_with(first|go_at_call 124;refine KC qN hI (xX _ X.f X.b X.l Y.vb Y.rc Y.ra S _ i t hi5 pX _ htl (hI.at_ a_)) ?_;intro w1 hI|with_reducible refine aK hI RF aC (aQ.out (t:=3)) hlt ?_)
        go_roundg (2- (k+1))
        case measure=>omega
        case rel=>exact⟨k+1,rfl,by omega,by go_num,HD (by rw[hB1.out,htl]),hI⟩
      ·obtain rfl:k=2:=by omega
       have hB2:(eU i).all (mU S i)=true:=by
        have:=hB.out
        rwa [show(eU i).take 2=eU i from rfl]at this
       have hA2:Hid ((L.take (j+1)).all (λi=>(eU i).all (mU S i))=true):=HD (by rw[hA1.out,hB2]);clear hB hB2;go_wp2_with(fail);go_roundg (n- (j+1))
       case measure=>omega
       case rel=>exact⟨j+1,rfl,by omega,by go_num,hA2,hI.tl⟩
    ·obtain rfl:j=n:=by omega
     have tY:Hid (j6 X.f S=((fP S.last S.own L).elim S (λx=>(iQ X.f S x 0).1))):=HD (by
      have e1:=hA.out;rw[List.take_of_length_le (by rw[hn.out];exact Nat.le_refl _)]at e1;rw[hF2.out,if_pos e1])
     clear hA hF2;go_upto_region 13 with(first|refine YS ?_;intro w hI|refine YX ?_;intro bx w hI|refine YL ?_)
     go_loopg [11,13,51] j (λkk s11 s13 s51 wr=>∃(k:Nat) (y:List Int),kk=j-k∧k<=j∧s51=.int .i64 (k:Int)∧Hid (fP S.last S.own L=fP S.last y (L.drop k))∧y.length=174∧Inv (aj X Y S).own w0 wr [ib bx 41 y,bD 3 1 (.slice ad j cd) j (L.map iN),aj X Y S])
     case atStart=>exact⟨0,S.own,rfl,by omega,rfl,HD rfl,hown,hI⟩
     case round=>
      clear hI;obtain⟨k,y,rfl,hk,rfl,hA,hyl,hI⟩:=hrel;by_cases hkn:k<j
      ·obtain⟨gd,rfl⟩:∃gd,ad=some ⟨gd,0,none⟩:=gZ hI aM (by rw[List.length_map,hn.out];omega)
       obtain⟨i,hi⟩:∃i,L[k]? =some i:=⟨_,List.getElem?_eq_getElem (by rw[hn.out];exact hkn)⟩;have hi5:i<5:=hLm.out i (List.mem_of_getElem? hi);have alI:(i:Int) <5:=by omega
       have hld:(L.map iN)[k]? =some (.int .i64 (i:Int)):=by rw[List.getElem?_map,hi];rfl
       have amz:decide ((k:Int) < (j:Int))=true:=by simp;omega
       have hrl:(rowAt S.last i).length=174:=by rw[rowAt,az];omega
       have hA1:Hid (fP S.last S.own L=if 0<gi y (29+i)then fP S.last y (L.drop (k+1))else if(C.tJ y (i:Int) (rowAt S.last i)).2=0 then fP S.last (C.tJ y (i:Int) (rowAt S.last i)).1 (L.drop (k+1))else none):=HD (by
        have e1:L.drop k=i::L.drop (k+1):=by
         obtain⟨h1,h2⟩:=List.getElem?_eq_some_iff.1 hi;rw[List.drop_eq_getElem_cons h1,h2]
        rw[hA.out,e1,fP])
       clear hi hA;cases hp:decide (0<gi y (29+i))
       ·have hA2:Hid (fP S.last S.own L=if(C.tJ y (i:Int) (rowAt S.last i)).2=0 then fP S.last (C.tJ y (i:Int) (rowAt S.last i)).1 (L.drop (k+1))else none):=HD (by rw[hA1.out,if_neg (by simpa using hp)])
        obtain⟨⟨z,ez⟩,hq0⟩:=EQ (C.tJ y (i:Int) (rowAt S.last i));have hq:=HD hq0;have hzl:z.length=174:=by have:=C.E8 y (i:Int) (rowAt S.last i) hyl hrl;rw[hq0]at this;exact this
        clear hq0 hA1;have hq2:Hid (C.tJ y (i:Int) (sub S.last (i*174) 174)=(z,ez)):=HD hq.out;replace hrl:(sub S.last (i*174) 174).length=174:=hrl;go_upto_region 16 with(first|refine YL ?_|with_reducible refine aK hI RF aM (aQ.out (t:=3)) hld ?_)
        (refine aG [13,14] [11] [13,14] [11] [0,1,2,3,4,5,6,7,8,9,10,11] 12 [13,14] fE KF RF hI ?_;clear hI)
        (repeat(first| ((with_reducible refine' bN RF RF RF ?_ ?_ ?_);rotate_left;(focus(intro ex w (hI:Inv _ _ w _);go_wp2_with(first|refine YL ?_|go_at_call 125;refine KD hI (ad8 _ y (sub S.last (i*174) 174) (i:Int) hyl hrl _ hq2.out) ?_;intro w1 hI);(try simp only[QN]);exact bM rfl hI));(focus(exact⟨_,rfl⟩))) | refine ZL ?_));refine bQ ?_;intro bx w hI;(simp only[QN]);(repeat(refine ZQ ?_;go_wp2_with(refine YS ?_;intro w hI);refine ZP ?_))
        by_cases he:ez=0
        ·subst he
         have hA3:Hid (fP S.last S.own L=fP S.last z (L.drop (k+1))):=HD (by rw[hA2.out,hq.out,if_pos rfl]);clear hA2 hq;go_wp2_with(first|refine YL ?_|refine YS ?_;intro w hI);go_roundg (j- (k+1))
         case measure=>omega
         case rel=>exact⟨k+1,z,rfl,by omega,by go_num,hA3,hzl,hI.tl⟩
        ·have hF5:Hid (j6 X.f S=S):=HD (by rw[tY.out,hA2.out,hq.out,if_neg he];rfl)
         have hne:(ez != 0)=true:=by simpa using he
         clear hA2 hq;go_wp2_with(fail);rw[hF5.out];exact⟨rfl,_,h_ KF _ _,Y,rfl,hI.sub (.cons _ (.cons _ (.cons _ (.refl _))))⟩
       ·have hA2:Hid (fP S.last S.own L=fP S.last y (L.drop (k+1))):=HD (by rw[hA1.out,if_pos (by simpa using hp)])
        clear hA1;go_wp2_with(first|refine YL ?_|with_reducible refine aK hI RF aM (aQ.out (t:=3)) hld ?_);go_roundg (j- (k+1))
        case measure=>omega
        case rel=>exact⟨k+1,y,rfl,by omega,by go_num,hA2,hyl,hI⟩
      ·obtain rfl:k=j:=by omega
       have WV:Hid (j6 X.f S=(iQ X.f S y 0).1):=HD (by
        rw[tY.out,hA.out,List.drop_of_length_le (by rw[hn.out];exact Nat.le_refl _)];rfl)
       clear hA tY;go_wp2_with(first|refine YL ?_|go_at_call 70;refine KG hI (Z5 _ X Y S hX y 0 hyl (hI.at_ a_)) ?_;intro Y2 w1 hI);rw[WV.out];exact⟨rfl,_,h_ KF _ _,_,rfl,hI.sub (.cons _ (.cons _ (.refl _)))⟩
  ·have h0:n=0:=by simpa using hz
   have hLe:L=[]:=by rw[h0]at hn0;exact List.length_eq_zero_iff.1 hn0
   have hF2:Hid (j6 X.f S=S):=HD (by rw[hF.out,if_pos (.inr hLe)]);clear hF hLe h0 hn0;exact W64
 ·have hF2:Hid (j6 X.f S=S):=HD (by rw[hF.out,if_pos (.inl hb)])
  clear hF;exact W64
end
end
theorem ad9(b n c)(zs:List Int)(x w)(hn:zs.length=n)(hbig:n<=1000)(hr:Rd w (some ⟨b,0,none⟩) (zs.map (Value.int .i64))):
  Calls prog 178 #[.slice (some ⟨b,0,none⟩) n c,.int .i64 x] w λe w'=>e=.returned (.int .i64 (Lib.idxOf (zs.take n) x))∧w'=w:=by
 have hc:∀j z,zs[j]? =some z->w.cell? ⟨b,j,none⟩=some (.int .i64 z):=by
  intro j z hj;obtain⟨b',off,he,h⟩:=hr j (.int .i64 z) (by simp[hj]);simp only[Option.some.injEq,Addr.mk.injEq,and_true]at he;obtain⟨rfl,rfl⟩:=he;simpa using h
 clear hr;replace hc:=HD hc;replace hn:=HD hn;go_enter func178,ntmps178
 go_wp2
 go_loopg [5,8] n (λkk s5 s8 wr=>∃k:Nat,kk=n-k∧k<=n∧s8=.int .i64 (k:Int)∧Hid (∀j,j<k->zs.getD j 0≠x)∧wr=w)
 case atStart=>exact⟨0,rfl,Nat.zero_le _,rfl,HD (λj hj=>absurd hj (Nat.not_lt_zero _)),rfl⟩
 case round=>
  obtain⟨k,rfl,hk,rfl,hne,rfl⟩:=hrel;by_cases hkn:k<n
  ·obtain⟨z,hz⟩:∃z,zs[k]? =some z:=⟨_,List.getElem?_eq_getElem (by rw[hn.out];exact hkn)⟩
   have hcell:=hc.out k z hz;replace hz:=HD hz;cases hx:(x==z)
   ·go_wp2
    go_roundg (n- (k+1))
    case measure=>omega
    case rel=>
     refine⟨k+1,rfl,by omega,by go_num,HD (λj hj=>?_),rfl⟩;by_cases e:j=k
     ·subst e
      intro he;rw[List.getD_eq_getElem?_getD,hz.out]at he;simp at he hx;exact hx he.symm
     ·exact hne.out j OM
   ·go_wp2
    go_ret;refine⟨?_,rfl⟩;rw[Lib.idxOf_hit zs n k x hkn (by rw[hn.out];exact Nat.le_refl _) (by rw[List.getD_eq_getElem?_getD,hz.out];simp at hx|-;exact hx.symm) hne.out];rfl
  ·obtain rfl:k=n:=by omega
   go_wp2
   go_ret;refine⟨?_,rfl⟩;rw[Lib.idxOf_miss zs k x hne.out];rfl
theorem KT(b n c)(zs:List Int)(x w)(hn:zs.length=n)(hbig:n<=1000)(hr:Rd w (some ⟨b,0,none⟩) (zs.map (Value.int .i64))):
  Calls prog 153 #[.slice (some ⟨b,0,none⟩) n c,.int .i64 x] w λe w'=>e=.returned (.bool (decide (x∈zs)))∧w'=w:=by
 have hb:decide (x∈zs)=decide (0<=Lib.idxOf (zs.take n) x):=by
  have e1:zs.take n=zs:=List.take_of_length_le OM;rw[Bool.eq_iff_iff,decide_eq_true_eq,decide_eq_true_eq,Lib.idxOf_nonneg_iff,e1,List.contains_iff_mem]
 rw[hb];go_enter func153,ntmps153;go_wp2_with(go_at_call 178;refine KR (ad9 b n c zs x _ hn hbig hr) ?_);go_ret;exact⟨rfl,rfl⟩
section
variable {P:Program}{ops:Array Oper}{Q:Exit->Act->World->Prop}{a:Act}{rest:List Oper}{T:List Nat}{w0 w:World}{m m':List bT}{dst:Option Tmp}{ty:TypeId}{pos:String}{af:Array Edge}
variable {x y:Operand}{t f b l vb nb n rc rc2:Nat}{ra ra2:Option Addr}{S:RS}{Z:bT}{u:List (List Int)}
theorem ad_(hI:Inv T w0 w m)(hx:a.eval x=.pointer (some ⟨b,1942,none⟩))(hv:a.eval y=.slice ra2 n rc2)(hn:u.length=n)
  (hu:aU (two (rb f b l vb ra rc S) Z) (two (rb f b l vb ra2 rc2 {S with aX:=u}) Z) m m') [hT:aQ P t]
  (k:∀w',Inv T w0 w' m'->wpList P ops Q rest (a.put dst undef) w'):wpList P ops Q (⟨dst,.store t x y,ty,pos,af,none⟩::rest) a w:=
 bS (vs:=[.slice ra2 n rc2]) hI hx (by rw[hv];rfl) hu hT.out.size (λhL=>by grind[Zp]) (λhL=>⟨hL.view,hL.own,hL.aT,hL.sl,hL.acc,hL.book,hL.told,hL.last,hL.aB⟩) (.inl ⟨rfl,rfl⟩) rfl OM (by intro u hu;rw[List.mem_singleton.1 hu];rfl) k
theorem aaN{zs p}(hI:Inv T w0 w (yD nb 208 zs [p]::m))(hx:a.eval x=.pointer (some ⟨b,1067,none⟩))(hv:a.eval y=.pointer (some ⟨nb,0,none⟩))(hl:zs.length=16)
  (hu:aU (two (rb f b l vb ra rc S) Z) (two (rb f b l nb ra rc {S with aB:=some (zs,p)}) Z) m m') [hT:aQ P t]
  (k:∀w',Inv T w0 w' m'->wpList P ops Q rest (a.put dst undef) w'):wpList P ops Q (⟨dst,.store t x y,ty,pos,af,none⟩::rest) a w:=
 wpList_plain rfl λK hK=>by
  obtain⟨m1,m2,rfl,rfl⟩:=hu.split;have h1:Inv T w0 w (two (rb f b l vb ra rc S) Z::(yD nb 208 zs [p]::m1++m2)):=Inv.bring (l1:=yD nb 208 zs [p]::m1) hI;have h2:Inv T w0 w (two (two (rb f b l vb ra rc S) Z) (yD nb 208 zs [p])::(m1++m2)):=h1.eX;have G6:=h2.sat _ aC;have hnd:=h2.nd aC;obtain⟨hL,hb⟩:=mJ h1 aC;obtain⟨w',hr,hst,hsz,hh⟩:=uT (P:=P) (v:=a.eval y) hT.out.size [.pointer (some ⟨nb,0,none⟩)] (by rw[hv];rfl) rfl (by intro u hu;rw[List.mem_singleton.1 hu];rfl) hb 1067 (by grind[E9]);unfold Oper.wp execOp;simp only[hx,Instr.storeAt,Instr.sureAddr,Sem.run_bind,Sem.run_pure,Result.andThen_ok,hr];refine hK _ _ (k w' ?_);have hown:(two (two (rb f b l vb ra rc S) Z) (yD nb 208 zs [p])).own=b::((Ta vb S.aB).own++Z.own++[nb]):=by simp[two,nZ,blk,yD]
  have zJ:∀k∈(Ta vb S.aB).own++Z.own++[nb],w'.heap[k]? =w.heap[k]? :=λk hk=>by
   grind[Step.same]
  have hnew:(two (rb f b l nb ra rc {S with aB:=some (zs,p)}) Z).own=b::nb::Z.own:=by simp[two,nZ,blk,yD,Ta]
  have h3:Inv T w0 w' (two (rb f b l nb ra rc {S with aB:=some (zs,p)}) Z::(m1++m2)):=by
   refine h2.upd aU.here (hst.mono λk hk=>by grind) ⟨⟨⟨hL.view,hL.own,hL.aT,hL.sl,hL.acc,hL.book,hL.told,hL.last,λq hq=>by grind⟩,?_,?_⟩,?_⟩ (λk hk=> .inl ?_) ?_
   ·show w'.heap[b]? =_
    rw[hh];rw[show([.pointer (some ⟨nb,0,none⟩)]:List Value)=[Kj nb (some (zs,p))]from rfl,MV f l vb ra rc hL nb (some (zs,p))]
   ·exact(yD nb 208 zs [p]).loc w w' (λk hk=>zJ k (List.mem_append.2 (.inr (by grind[yD,blk])))) G6.2
   ·exact Z.loc w w' (λk hk=>zJ k (List.mem_append.2 (.inl (List.mem_append.2 (.inr hk))))) G6.1.2
   all_goals grind
  exact Inv.sink h3
end
theorem Inv.nZ{T w0 w m p}(h:Inv T w0 w m)(hp:p):Inv T w0 w (Go.Proofs.YtdakkaapokhnnaaGreatDoor.nZ p::m):=
 h.turn (λhs z hz=>by
  rcases List.mem_cons.1 hz with rfl|hz
  ·exact hp
  grind) (by simp[owned,Go.Proofs.YtdakkaapokhnnaaGreatDoor.nZ])
section
variable (w0:World)(f b l vb rc:Nat)(ra:Option Addr)(S:RS)(Z:bT)
theorem aea(op er va)(hn:S.aX.length<=1000000000)(hI:Inv (two (rb f b l vb ra rc S) (two (nT ra rc S.aX) Z)).own w0 w0 [two (rb f b l vb ra rc S) (two (nT ra rc S.aX) Z)]):
  Calls prog 69 #[.pointer (some ⟨b,0,none⟩),.int .i64 op,.int .i64 er,.int .i64 va] w0 λe w'=>∃ra' rc',e=.returned (.tuple #[])∧
   Inv (two (rb f b l vb ra rc S) (two (nT ra rc S.aX) Z)).own w0 w' [two (rb f b l vb ra' rc' (di S op er va)) (two (nT ra' rc' (di S op er va).aX) Z)]:=by
 generalize hown:(two (rb f b l vb ra rc S) (two (nT ra rc S.aX) Z)).own=T at hI|-;have hp:∀r∈S.aX,r.length=3:=(hI.sat _ aC).2.1.1;have h2:Inv T w0 w0 [bD 117 3 (.slice ra S.aX.length rc) S.aX.length (yt S.aX),Z,rb f b l vb ra rc S]:=by
  have h2:Inv T w0 w0 [nZ (∀r∈S.aX,r.length=3),bD 117 3 (.slice ra S.aX.length rc) S.aX.length (yt S.aX),Z,rb f b l vb ra rc S]:=hI.dR.jS.dR.dR;exact h2.sub (.cons _ (.refl _))
 clear hI;have hI:Inv T w0 w0 [two (rb f b l vb ra rc S) Z,bD 117 3 (.slice ra S.aX.length rc) S.aX.length (yt S.aX)]:=(Inv.bring (l1:=[_,_]) (Inv.bring (l1:=[_,_]) h2)).jS.eX;clear h2 hown;replace hp:=HD hp;go_enter func69,ntmps69;go_wp2_with(first|refine YL ?_|(with_reducible refine wI (cs:=iz [op,er,va]) hI RF (by simp[iz]) (k:=?_);intro b2 w hI)|(with_reducible refine aA (q:=1) hI RF RF (uQ.out (t:=83)) (by intro r';exact aU.there (aU.there aU.here)) (hI.rd aC) (by simp[iz]) (by simp[iz,Value.oneCell']) MX OM ?_;intro a2 c2 w hI)|(with_reducible refine ad_ (u:=S.aX++[[op,er,va]]) hI RF RF SI jo (k:=?_);intro w hI));refine⟨rfl,_,h_ KF _ _,a2,c2,rfl,?_⟩;have e1:yt (di S op er va).aX=yt S.aX++iz [op,er,va]:=by simp[di,yt]
 have e2:(di S op er va).aX.length=S.aX.length+1:=by simp[di]
 have e3:∀r∈(di S op er va).aX,r.length=3:=by
  intro r hr;simp only[di,List.mem_append,List.mem_singleton]at hr;rcases hr with hr|rfl
  ·exact hp.out r hr
  ·rfl
 rw[<-e1,<-e2]at hI;have h3:=(Inv.bring (l1:=[_,_]) (hI.tl).dR).nZ e3;exact(Inv.bring (l1:=[_,_]) h3.eX).jS.eX.jS.eX
end
section
variable {ops:Array Oper}{Q:Exit->Act->World->Prop}{rest:List Oper}{a:Act}{w:World}{dst:Option Tmp}{pos:String}{af:Array Edge}
theorem TQ{x y u v}(hx:a.eval x=.int .i64 u)(hy:a.eval y=.int .i64 v):gu prog ⟨dst,.call {callee:=.builtin .max,args:= #[x,y],argTypes:= #[3,3]},3,pos,af,none⟩ a w (.int .i64 (max u v)):=by
 unfold gu execOp;simp only[resolve,invoke,builtin,Sem.run_bind,Sem.run_pure,Result.andThen_ok,List.map_toArray,List.map_cons,List.map_nil,hx,hy];by_cases h:u<v
 ·rw[show max u v=v by omega]
  go_simp
 ·rw[show max u v=u by omega]
  go_simp
theorem Oa{x y u v rn}(hx:a.eval x=.int .i64 u)(hy:a.eval y=.int .i64 v)(h:max u v=rn)(k:wpList prog ops Q rest (a.put dst (.int .i64 rn)) w):wpList prog ops Q (⟨dst,.call {callee:=.builtin .max,args:= #[x,y],argTypes:= #[3,3]},3,pos,af,none⟩::rest) a w:=by
 subst h;exact av (TQ hx hy) k
theorem yJ{P:Program}{ops x}{t i off e:Nat}{ty zs fs f}(hx:a.eval x=ia zs)(hu:P.underlying t=some (.struct fs))(hf:fs[i]? =some f)(ht:f.type=e)(ho:f.offset=off)(hT:iY P e)(hl:off<zs.length)(k:wpList P ops Q rest (a.put dst (.int .i64 (gi zs off))) w):wpList P ops Q (⟨dst,.field t x i,ty,pos,af,none⟩::rest) a w:=by
 refine av ?_ k;exact W61
theorem ahW:prog.underlying 41=some (.struct (prog.fieldsOf 41)):=by kernel_rfl
theorem aka:(prog.fieldsOf 41)[0]? =some (((prog.fieldsOf 41)[0]?).getD default):=by kernel_rfl
theorem akb:(((prog.fieldsOf 41)[0]?).getD default).type=3:=by kernel_rfl
theorem akc:(((prog.fieldsOf 41)[0]?).getD default).offset=0:=by kernel_rfl
theorem kfv{x ty zs}(hx:a.eval x=ia zs)(hl:zs.length=174)(k:wpList prog ops Q rest (a.put dst (.int .i64 (gi zs 0))) w):wpList prog ops Q (⟨dst,.field 41 x 0,ty,pos,af,none⟩::rest) a w:=
 yJ hx ahW aka akb akc (aQ.out (t:=3)) OM k
theorem Wq{t n t':Nat}{x y ty zs ws v}[hT:bP prog t n][hF:t_ prog t n](hx:a.eval x=ia zs)(hy:a.eval y=ia ws)(h1:zs.length=n)(h2:ws.length=n)(hv:decide (zs=ws)=v)
  (k:wpList prog ops Q rest (a.put dst (.bool (!v))) w):wpList prog ops Q (⟨dst,.binOp .neq t x y t',ty,pos,af,none⟩::rest) a w:=by
 subst hv;exact kv hx hy hT.out hF.out h1 h2 k
end
section
variable (w0:World)(f b l vb rc:Nat)(ra:Option Addr)(S:RS)(Z:bT)(hI:Inv (two (rb f b l vb ra rc S) Z).own w0 w0 [two (rb f b l vb ra rc S) Z])
include hI
theorem abD:Calls prog 15 #[.pointer (some ⟨b,0,none⟩)] w0 λe w'=>e=.returned (ia S.view)∧Inv (two (rb f b l vb ra rc S) Z).own w0 w' [two (rb f b l vb ra rc S) Z]:=by
 have hn:=(aS hI aC).view;go_enter func15,ntmps15;go_wp2_with(first|refine YS ?_;intro w hI|refine YX ?_;intro bx w hI|refine YL ?_);exact bodyPost_ret (dY hI rfl rfl aC (bP.out (t:=30)) hn) rfl ⟨rfl,hI.sub SB⟩
theorem akn:Calls prog 16 #[.pointer (some ⟨b,0,none⟩)] w0 λe w'=>e=.returned (ia S.own)∧Inv (two (rb f b l vb ra rc S) Z).own w0 w' [two (rb f b l vb ra rc S) Z]:=by
 have hn:=(aS hI aC).own;go_enter func16,ntmps16;go_wp2_with(first|refine YS ?_;intro w hI|refine YX ?_;intro bx w hI|refine YL ?_);exact bodyPost_ret (dY hI rfl rfl aC (bP.out (t:=41)) hn) rfl ⟨rfl,hI.sub SB⟩
theorem Gx(who):Calls prog 20 #[.pointer (some ⟨b,0,none⟩),.int .i64 who] w0 λe w'=>e=.returned (.tuple #[ia (C.rowOf S.aT who),.bool (C.fG S.sl who)])∧Inv (two (rb f b l vb ra rc S) Z).own w0 w' [two (rb f b l vb ra rc S) Z]:=by
 have Dj:=(aS hI aC).aT;have hn:(C.rowOf S.aT who).length=174:=C.l8 _ _ Dj;go_enter func20,ntmps20;go_upto_region 1 with(refine YX ?_;intro bx w hI)
 (obtain⟨bx,hbx⟩:=EZ bx;subst hbx)
 (refine ZR [4,9,10,11] [5,6,7,8] [4] [0,1,2,3,5,6,7,8,4,9,10,11] (λw=>Inv (two (rb f b l vb ra rc S) Z).own w0 w [two (rb f b l vb ra rc S) Z]) hI ?_;intro wd hI)
 (repeat(first|refine ZS ?_|refine ZQ ?_;go_wp2_with(first|refine YS ?_;intro w hI|go_at_call 47;refine KE (IG hI aM _) ?_;intro w1 hI|go_at_call 46;refine KE (ZM hI aM _) ?_;intro w1 hI);refine ZP ?_))
 go_wp2_with(fail);exact bodyPost_ret (aH hI rfl rfl aC (bP.out (t:=41)) hn) rfl ⟨rfl,hI.sub SB⟩
end
